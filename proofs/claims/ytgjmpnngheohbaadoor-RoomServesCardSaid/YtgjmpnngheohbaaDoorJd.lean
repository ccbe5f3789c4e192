/- RoomServes: send. RoomServes: an array is made. RoomServes: Serves, Serve. RoomServes: a command begins; what was told; what shows. -/
import Derived.Test.YtgjmpnngheohbaaDoorJc
namespace Go.Proofs.YtgjmpnngheohbaaDoor
open Go.Vc
def sSend (s : PS) (who sa r a n : Int) : Res := if rngP s.ar r a n who = 36864 then (if sa = 1 then (if s.tp.length + n.toNat > 128 then (0, 28425, s.ev [⟨2, r, a, n⟩]) else (0, 36864, { s.ev [⟨2, r, a, n⟩] with tp := s.tp ++ parP s.ar r a n })) else (if s.ts.length + n.toNat > 128 then (0, 28425, s.ev [⟨2, r, a, n⟩]) else (0, 36864, { s.ev [⟨2, r, a, n⟩] with ts := s.ts ++ parP s.ar r a n }))) else (0, rngP s.ar r a n who, s.ev [⟨2, r, a, n⟩])
section
variable {p : RP} {w w' : World} {av : Value}
/-- More is told in secret. -/
theorem RoomT.tellS (h : RoomT p w) {w5 : World} {v5 : Value} {news : List Int} (ho : w5.ownsRow p.B 5 1 v5 (p.ts ++ news).length ((p.ts ++ news).map u8)) (f5 : Fr (fun i => p.sec.ownBlock = some i) w w5) (hl : v5.ownBlock = p.sec.ownBlock ∨ v5.ownBlock = some w.heap.size) (hle : (p.ts ++ news).length ≤ 128) :
    RoomT { p with sec := v5, ts := p.ts ++ news } (w5.setCell ⟨p.rb, 0 + 4, none⟩ v5) ∧ (∀ i, MuP { p with sec := v5, ts := p.ts ++ news } i → MuP p i ∨ i = w.heap.size) ∧ Fr (fun i => p.sec.ownBlock = some i ∨ i = p.rb) w (w5.setCell ⟨p.rb, 0 + 4, none⟩ v5) := by
  have hrb : p.sec.ownBlock ≠ some p.rb := (h.fresh p.rb (.inl rfl)).2.2.2
  have hrl := h.room.lt
  have room5 := f5.seg h.room hrb
  have room6 := room5.set (j := 4) (by simp) v5
  have f6 : Fr (fun i => i = p.rb) w5 (w5.setCell ⟨p.rb, 0 + 4, none⟩ v5) := Fr.of_set rfl
  have F := f5.or f6
  have hoth : ∀ i, i < w.heap.size → p.sec.ownBlock ≠ some i → v5.ownBlock ≠ some i := fun i hi hn he => by
    rcases hl with hl | hl
    · exact hn (hl ▸ he)
    · rw [hl] at he
      cases he
      omega
  have mu : ∀ i, MuP { p with sec := v5, ts := p.ts ++ news } i → MuP p i ∨ i = w.heap.size := fun i hi => by
    rcases hi with hi | hi | hi | hi | hi | hi
    · exact .inl (.inl hi)
    · exact .inl (.inr (.inl hi))
    · exact .inl (.inr (.inr (.inl hi)))
    · exact .inl (.inr (.inr (.inr (.inl hi))))
    · exact .inl (.inr (.inr (.inr (.inr (.inl hi)))))
    · rcases hl with hl | hl
      · exact .inl (.inr (.inr (.inr (.inr (.inr (hl ▸ hi))))))
      · have hi : v5.ownBlock = some i := hi
        rw [hl] at hi
        cases hi
        exact .inr rfl
  have sM : ∀ i, (p.sec.ownBlock = some i ∨ i = p.rb) → MuP p i := fun i hi => hi.elim (fun h => .inr (.inr (.inr (.inr (.inr h))))) .inl
  have hgl := (h.h.row.lt _ rfl).2
  have hhl := h.h.heap.lt
  refine ⟨⟨room6, h.h.frT F fun i hi => ?_, F.own h.qp fun i hi hs => hs.elim (h.ne i hi) fun e => (h.fresh p.rb (.inl rfl)).2.2.1 (e ▸ hi), f6.own ho fun i hi hs => hoth p.rb hrl hrb (hs ▸ hi), h.lp, hle, fun x hx => ?_, h.np, fun a ha x hx => hoth x ((h.h.data a ha).lt x hx).2 (h.ns a ha x hx), h.gp, hoth p.g hgl h.gs, h.lt, fun y hy => ⟨(h.fresh y hy).1, (h.fresh y hy).2.1, (h.fresh y hy).2.2.1, hoth y (by rcases hy with rfl | rfl <;> omega) (h.fresh y hy).2.2.2⟩, F.blk h.tbox fun hi => h.tfr _ (.inl rfl) (sM _ hi), F.own h.trow fun i hi hs => h.tfr i (.inr hi) (sM i hs), h.tne, fun i ht hm => ?_, h.two, h.sz, h.bytes⟩, mu, F⟩
  · rcases hi with hi | rfl
    · exact ⟨fun e => (h.fresh p.hb (.inr rfl)).2.2.2 (e ▸ hi), fun e => h.gs (e ▸ hi), fun a ha e => h.ns a ha i e hi⟩
    · exact ⟨h.lt, (h.fresh p.rb (.inl rfl)).1, fun a ha e => (h.fresh p.rb (.inl rfl)).2.1 a ha e⟩
  · exact hoth x (h.qp.lt x hx).2 (h.ne x hx)
  · rcases mu i hm with hm | rfl
    · exact h.tfr i ht hm
    · have := h.hi _ (.inr ht); omega
/-- More is told in public. -/
theorem RoomT.tellP (h : RoomT p w) {w5 : World} {v5 : Value} {news : List Int} (ho : w5.ownsRow p.B 5 1 v5 (p.tp ++ news).length ((p.tp ++ news).map u8)) (f5 : Fr (fun i => p.pub.ownBlock = some i) w w5) (hl : v5.ownBlock = p.pub.ownBlock ∨ v5.ownBlock = some w.heap.size) (hle : (p.tp ++ news).length ≤ 128) :
    RoomT { p with pub := v5, tp := p.tp ++ news } (w5.setCell ⟨p.rb, 0 + 3, none⟩ v5) ∧ (∀ i, MuP { p with pub := v5, tp := p.tp ++ news } i → MuP p i ∨ i = w.heap.size) ∧ Fr (fun i => p.pub.ownBlock = some i ∨ i = p.rb) w (w5.setCell ⟨p.rb, 0 + 3, none⟩ v5) := by
  have hrb : p.pub.ownBlock ≠ some p.rb := (h.fresh p.rb (.inl rfl)).2.2.1
  have hrl := h.room.lt
  have room5 := f5.seg h.room hrb
  have room6 := room5.set (j := 3) (by simp) v5
  have f6 : Fr (fun i => i = p.rb) w5 (w5.setCell ⟨p.rb, 0 + 3, none⟩ v5) := Fr.of_set rfl
  have F := f5.or f6
  have hoth : ∀ i, i < w.heap.size → p.pub.ownBlock ≠ some i → v5.ownBlock ≠ some i := fun i hi hn he => by
    rcases hl with hl | hl
    · exact hn (hl ▸ he)
    · rw [hl] at he
      cases he
      omega
  have mu : ∀ i, MuP { p with pub := v5, tp := p.tp ++ news } i → MuP p i ∨ i = w.heap.size := fun i hi => by
    rcases hi with hi | hi | hi | hi | hi | hi
    · exact .inl (.inl hi)
    · exact .inl (.inr (.inl hi))
    · exact .inl (.inr (.inr (.inl hi)))
    · exact .inl (.inr (.inr (.inr (.inl hi))))
    · rcases hl with hl | hl
      · exact .inl (.inr (.inr (.inr (.inr (.inl (hl ▸ hi))))))
      · have hi : v5.ownBlock = some i := hi
        rw [hl] at hi
        cases hi
        exact .inr rfl
    · exact .inl (.inr (.inr (.inr (.inr (.inr hi)))))
  have sM : ∀ i, (p.pub.ownBlock = some i ∨ i = p.rb) → MuP p i := fun i hi => hi.elim (fun h => .inr (.inr (.inr (.inr (.inl h))))) .inl
  have hgl := (h.h.row.lt _ rfl).2
  have hhl := h.h.heap.lt
  refine ⟨⟨room6, h.h.frT F fun i hi => ?_, f6.own ho fun i hi hs => hoth p.rb hrl hrb (hs ▸ hi), F.own h.qs fun i hi hs => hs.elim (fun e => h.ne i e hi) fun e => (h.fresh p.rb (.inl rfl)).2.2.2 (e ▸ hi), hle, h.ls, fun x hx => ?_, fun a ha x hx => hoth x ((h.h.data a ha).lt x hx).2 (h.np a ha x hx), h.ns, hoth p.g hgl h.gp, h.gs, h.lt, fun y hy => ⟨(h.fresh y hy).1, (h.fresh y hy).2.1, hoth y (by rcases hy with rfl | rfl <;> omega) (h.fresh y hy).2.2.1, (h.fresh y hy).2.2.2⟩, F.blk h.tbox fun hi => h.tfr _ (.inl rfl) (sM _ hi), F.own h.trow fun i hi hs => h.tfr i (.inr hi) (sM i hs), h.tne, fun i ht hm => ?_, h.two, h.sz, h.bytes⟩, mu, F⟩
  · rcases hi with hi | rfl
    · exact ⟨fun e => (h.fresh p.hb (.inr rfl)).2.2.1 (e ▸ hi), fun e => h.gp (e ▸ hi), fun a ha e => h.np a ha i e hi⟩
    · exact ⟨h.lt, (h.fresh p.rb (.inl rfl)).1, fun a ha e => (h.fresh p.rb (.inl rfl)).2.1 a ha e⟩
  · exact fun he => hoth x (h.qs.lt x he).2 (fun e => h.ne x e he) hx
  · rcases mu i hm with hm | rfl
    · exact h.tfr i ht hm
    · have := h.hi _ (.inr ht); omega
set_option maxHeartbeats 3200000 in
theorem send2T_ok (h : RoomT p w) (hlt : p.tr.length ≤ 100000) {who sa sb r a n : Int} (hsa : sa ≠ 1) (hva : SliceIs w av 1 3 [i64 r, i64 a, i64 n]) :
    callD Tryd.prog 42 #[svcT p who sa sb av] w fun q w' => SvR p w (sSend p.ps who sa r a n) q w' := by
  apply F42_wp
  unfold F42_den
  have m0 := h.ls
  refine bxK fun w1 hb1 x1 => ?_
  have D1 : Ext w1 w1.drew := (Ext.refl _).drew
  have hav1 := hva.ext x1
  refine drawD.mk' (fun w' => Ext w1 w') D1 ?_
  refine yfB (fun w' hw => (hb1.ext hw).boxed) (by first | exact fa_105_0 | exact fa_105_1 | exact fa_105_2 | exact fa_105_3 | exact fa_105_4 | exact fa_116_0 | exact fa_116_1 | exact fa_120_0 | exact fa_120_1 | exact fa_42_0 | exact fa_42_1 | exact fa_42_2 | exact fa_42_3 | exact fa_42_4 | exact fa_42_5 | exact fa_42_6 | exact fa_57_0 | exact fa_63_0 | exact fa_63_2 | exact fa_63_3 | exact fa_63_4 | exact fa_80_0 | exact fa_80_2 | exact fa_80_3 | exact fa_80_4 | exact fa_91_0 | exact fa_95_0 | exact fa_95_1 | exact fa_95_2 | exact fa_95_3 | exact fa_95_4 | exact fa_95_5) (by first | exact l1_114 | exact l1_21 | exact l1_23 | exact l1_3 | exact l1_32 | exact l1_39 | exact l1_4 | exact l1_40 | exact l1_5 | exact l1_50 | exact l1_55 | exact l1_59 | exact l1_61 | exact l1_76) rfl ?_
  refine ySl xa_32 l1_3 hav1 (fun w' hw => hw) (by omega) (by omega) rfl ?_
  refine yfB (fun w' hw => (hb1.ext hw).boxed) (by first | exact fa_105_0 | exact fa_105_1 | exact fa_105_2 | exact fa_105_3 | exact fa_105_4 | exact fa_116_0 | exact fa_116_1 | exact fa_120_0 | exact fa_120_1 | exact fa_42_0 | exact fa_42_1 | exact fa_42_2 | exact fa_42_3 | exact fa_42_4 | exact fa_42_5 | exact fa_42_6 | exact fa_57_0 | exact fa_63_0 | exact fa_63_2 | exact fa_63_3 | exact fa_63_4 | exact fa_80_0 | exact fa_80_2 | exact fa_80_3 | exact fa_80_4 | exact fa_91_0 | exact fa_95_0 | exact fa_95_1 | exact fa_95_2 | exact fa_95_3 | exact fa_95_4 | exact fa_95_5) (by first | exact l1_114 | exact l1_21 | exact l1_23 | exact l1_3 | exact l1_32 | exact l1_39 | exact l1_4 | exact l1_40 | exact l1_5 | exact l1_50 | exact l1_55 | exact l1_59 | exact l1_61 | exact l1_76) rfl ?_
  refine ySl xa_32 l1_3 hav1 (fun w' hw => hw) (by omega) (by omega) rfl ?_
  refine yfB (fun w' hw => (hb1.ext hw).boxed) (by first | exact fa_105_0 | exact fa_105_1 | exact fa_105_2 | exact fa_105_3 | exact fa_105_4 | exact fa_116_0 | exact fa_116_1 | exact fa_120_0 | exact fa_120_1 | exact fa_42_0 | exact fa_42_1 | exact fa_42_2 | exact fa_42_3 | exact fa_42_4 | exact fa_42_5 | exact fa_42_6 | exact fa_57_0 | exact fa_63_0 | exact fa_63_2 | exact fa_63_3 | exact fa_63_4 | exact fa_80_0 | exact fa_80_2 | exact fa_80_3 | exact fa_80_4 | exact fa_91_0 | exact fa_95_0 | exact fa_95_1 | exact fa_95_2 | exact fa_95_3 | exact fa_95_4 | exact fa_95_5) (by first | exact l1_114 | exact l1_21 | exact l1_23 | exact l1_3 | exact l1_32 | exact l1_39 | exact l1_4 | exact l1_40 | exact l1_5 | exact l1_50 | exact l1_55 | exact l1_59 | exact l1_61 | exact l1_76) rfl ?_
  refine ySl xa_32 l1_3 hav1 (fun w' hw => hw) (by omega) (by omega) rfl ?_
  refine ldA (hb1.ext D1).boxed la_95 rfl ?_
  have X1 := x1.trans D1
  refine (touchT_ok (h.ext X1) hlt (who := who) (a := sa) (b := sb) (av := av)).mono fun _ w2 ⟨tv', h2, s2, f2, _⟩ => ?_
  have hb2 := f2.blk (hb1.ext D1) h.nT
  have S2 := (Stp.of_ext (p := p) X1).trans s2
  refine ldA hb2.boxed la_95 rfl ?_
  refine (rangesT_ok h2 (who := who) (sa := sa) (sb := sb) (av := av)).mono fun q w3 ⟨hq, x3⟩ => ?_
  subst hq
  have hce : rng p.ar r a n who = rngP p.ps.ar r a n who := rng_pa _ _ _ _ _
  refine V_neqI.2 (ifD_dec (fun hne => ?_) fun hfine => ?_)
  · refine svEnd h2 S2 x3 (x := sSend p.ps who sa r a n) ?_ ?_ <;> unfold sSend <;> rw [if_neg (show ¬ rngP p.ps.ar r a n who = 36864 from hne)]
    · rfl
    · rfl
  have hf : rng p.ar r a n who = 36864 := hce.trans (Classical.not_not.1 hfine)
  have hfp : rngP p.ps.ar r a n who = 36864 := hce ▸ hf
  obtain ⟨k, x, hk, hr, hm, ha0, hn0, han⟩ := rng_fine hf
  obtain ⟨n, rfl⟩ : ∃ m : Nat, n = m := ⟨n.toNat, by omega⟩
  obtain ⟨a, rfl⟩ : ∃ m : Nat, a = m := ⟨a.toNat, by omega⟩
  have hxm := List.mem_of_getElem? hk
  have hxl := h.h.len x hxm
  have hb3 := hb2.ext x3
  have h3 := h2.ext x3
  have S3 := S2.trans (Stp.of_ext x3)
  refine ldB hb3.boxed (by first | exact fa_105_0 | exact fa_105_1 | exact fa_105_2 | exact fa_105_3 | exact fa_105_4 | exact fa_116_0 | exact fa_116_1 | exact fa_120_0 | exact fa_120_1 | exact fa_42_0 | exact fa_42_1 | exact fa_42_2 | exact fa_42_3 | exact fa_42_4 | exact fa_42_5 | exact fa_42_6 | exact fa_57_0 | exact fa_63_0 | exact fa_63_2 | exact fa_63_3 | exact fa_63_4 | exact fa_80_0 | exact fa_80_2 | exact fa_80_3 | exact fa_80_4 | exact fa_91_0 | exact fa_95_0 | exact fa_95_1 | exact fa_95_2 | exact fa_95_3 | exact fa_95_4 | exact fa_95_5) (by first | exact l1_114 | exact l1_21 | exact l1_23 | exact l1_3 | exact l1_32 | exact l1_39 | exact l1_4 | exact l1_40 | exact l1_5 | exact l1_50 | exact l1_55 | exact l1_59 | exact l1_61 | exact l1_76) rfl ⟨.inl ⟨_, rfl⟩, ?_⟩
  refine V.ok r_fd_80_3 ?_
  refine ⟨fun v w' => v = .pointer (some ⟨p.rb, 0 + 4, none⟩) ∧ w' = w3, ?_, ?_⟩
  · refine ldB hb3.boxed (by first | exact fa_105_0 | exact fa_105_1 | exact fa_105_2 | exact fa_105_3 | exact fa_105_4 | exact fa_116_0 | exact fa_116_1 | exact fa_120_0 | exact fa_120_1 | exact fa_42_0 | exact fa_42_1 | exact fa_42_2 | exact fa_42_3 | exact fa_42_4 | exact fa_42_5 | exact fa_42_6 | exact fa_57_0 | exact fa_63_0 | exact fa_63_2 | exact fa_63_3 | exact fa_63_4 | exact fa_80_0 | exact fa_80_2 | exact fa_80_3 | exact fa_80_4 | exact fa_91_0 | exact fa_95_0 | exact fa_95_1 | exact fa_95_2 | exact fa_95_3 | exact fa_95_4 | exact fa_95_5) (by first | exact l1_114 | exact l1_21 | exact l1_23 | exact l1_3 | exact l1_32 | exact l1_39 | exact l1_4 | exact l1_40 | exact l1_5 | exact l1_50 | exact l1_55 | exact l1_59 | exact l1_61 | exact l1_76) rfl (V_neqI.2 ?_)
    simp only [show decide (sa ≠ 1) = true by simpa using hsa, ifD_true]
    refine ldB hb3.boxed (by first | exact fa_105_0 | exact fa_105_1 | exact fa_105_2 | exact fa_105_3 | exact fa_105_4 | exact fa_116_0 | exact fa_116_1 | exact fa_120_0 | exact fa_120_1 | exact fa_42_0 | exact fa_42_1 | exact fa_42_2 | exact fa_42_3 | exact fa_42_4 | exact fa_42_5 | exact fa_42_6 | exact fa_57_0 | exact fa_63_0 | exact fa_63_2 | exact fa_63_3 | exact fa_63_4 | exact fa_80_0 | exact fa_80_2 | exact fa_80_3 | exact fa_80_4 | exact fa_91_0 | exact fa_95_0 | exact fa_95_1 | exact fa_95_2 | exact fa_95_3 | exact fa_95_4 | exact fa_95_5) (by first | exact l1_114 | exact l1_21 | exact l1_23 | exact l1_3 | exact l1_32 | exact l1_39 | exact l1_4 | exact l1_40 | exact l1_5 | exact l1_50 | exact l1_55 | exact l1_59 | exact l1_61 | exact l1_76) rfl ⟨.inl ⟨_, rfl⟩, ?_⟩
    exact V.ok r_fd_80_4 ⟨rfl, rfl⟩
  rintro _ w' ⟨rfl, hw⟩ _
  have hw := hw.symm; subst hw
  refine ⟨.inl ⟨_, rfl⟩, ?_⟩
  refine V.ok (r_ld_40 (h3.room.cell (j := 4) rfl)) ?_
  refine lnx (by first | exact xa_114 | exact xa_22 | exact xa_32 | exact xa_39 | exact xa_40 | exact xa_55 | exact xa_61) (SliceIs.of_own h3.qs) ?_
  refine V_add.2 ?_
  have m1 : p.ts.length ≤ 128 := m0
  rw [show IntKind.i64.wrap (((p.ts.length : Nat) : Int) + (n : Int)) = ((p.ts.length + n : Nat) : Int) from by rw [wrap_id (by omega) (by omega)]; omega]
  refine V_gtr.2 (ifD_dec (fun hfull => ?_) fun hroom => ?_)
  · refine svEnd h2 S2 x3 (x := sSend p.ps who sa r a n) ?_ ?_ <;> unfold sSend <;> rw [if_pos hfp, if_neg hsa, if_pos (show p.ps.ts.length + ((n : Nat) : Int).toNat > 128 by show p.ts.length + _ > 128; rw [Int.toNat_natCast]; omega)]
    · rfl
  have D3 : Ext w3 w3.drew := (Ext.refl _).drew
  have hrb : p.sec.ownBlock ≠ some p.rb := (h.fresh p.rb (.inl rfl)).2.2.2
  have hbb : p.sec.ownBlock ≠ some w.heap.size := fun he => h.nM (.inr (.inr (.inr (.inr (.inr he)))))
  refine drawD.mk' (fun w' => Fr (fun i => p.sec.ownBlock = some i) w3 w') (Fr.of_ext D3) ⟨.inl ⟨_, rfl⟩, ?_⟩
  refine yieldS.ok (fun w' hw => r_ld_40 ((hw.seg h3.room hrb).cell (j := 4) rfl)) ?_
  refine yA (fun w' hw => (hw.blk hb3 hbb).boxed) la_95 rfl ?_
  refine (bytesT_ok (h3.ext D3) hk (who := who) (sa := sa) (sb := sb) (av := av) hr (a := a) (n := n) (by omega)).mono fun bv w4 ⟨hbv, x4⟩ => ?_
  have x34 := D3.trans x4
  refine ⟨Fr.of_ext x34, ?_⟩
  have hbs := hbv w4 (Fr.refl _ _)
  have hbl : ((x.data.drop a).take n).length = n := by simp; omega
  have hbs' : SliceIs w4 bv 1 n (((x.data.drop a).take n).map u8) := by have := hbs; unfold BytesAre at this; rw [hbl] at this; exact this
  have h4 := h3.ext x34
  have S4 := S3.trans (Stp.of_ext x34)
  refine apS (by first | exact xe_32 | exact xe_39 | exact xe_40) h4.qs hbs' (all_u8 _) (by show (p.ts.length + n) * 1 ≤ _; omega) (by unfold maxLen; show p.ts.length + n ≤ _; omega) h4.h.lt fun v5 w5 ho5 hg5 hlies => ?_
  have f5 : Fr (fun i => p.sec.ownBlock = some i) w4 w5 := Fr.of_grown hg5 fun k hk => hk
  have f35 : Fr (fun i => p.sec.ownBlock = some i) w3 w5 := (Fr.of_ext (S := fun i => p.sec.ownBlock = some i) x34).trans f5 fun _ _ h => h
  refine ⟨f35, .inl ⟨_, rfl⟩, ?_⟩
  have ho5' : w5.ownsRow p.B 5 1 v5 (p.ts ++ (x.data.drop a).take n).length ((p.ts ++ (x.data.drop a).take n).map u8) := by
    rw [List.length_append, List.map_append, hbl]; exact ho5
  refine stFS inf40 (f35.seg h3.room hrb) rfl (by simp) (own_one ho5) ?_
  obtain ⟨h6, mu6, f6⟩ := h4.tellS ho5' f5 hlies (by show (p.ts ++ _).length ≤ 128; rw [List.length_append, hbl]; omega)
  refine ⟨_, ?_, ?_, h6, S4.trans ⟨rfl, rfl, rfl, rfl, rfl, rfl, rfl, fun i hi => ?_, f6.mono fun i hi => .inl (hi.elim (fun h => .inr (.inr (.inr (.inr (.inr h))))) .inl)⟩⟩
  · unfold sSend; rw [if_pos hfp, if_neg hsa, if_neg (show ¬ p.ps.ts.length + ((n : Nat) : Int).toNat > 128 by show ¬ p.ts.length + _ > 128; rw [Int.toNat_natCast]; omega)]
  · unfold sSend; rw [if_pos hfp, if_neg hsa, if_neg (show ¬ p.ps.ts.length + ((n : Nat) : Int).toNat > 128 by show ¬ p.ts.length + _ > 128; rw [Int.toNat_natCast]; omega)]
    unfold parP
    rw [show datP p.ps.ar r = x.data from dat_pa hk hr]
    rfl
  · rcases hi with hi | hi
    · rcases mu6 i hi with hm | rfl
      · exact .inl hm
      · exact .inr (.inr (Nat.le_refl _))
    · exact .inr (.inl hi)
set_option maxHeartbeats 3200000 in
theorem send1T_ok (h : RoomT p w) (hlt : p.tr.length ≤ 100000) {who sa sb r a n : Int} (hsa : sa = 1) (hva : SliceIs w av 1 3 [i64 r, i64 a, i64 n]) :
    callD Tryd.prog 42 #[svcT p who sa sb av] w fun q w' => SvR p w (sSend p.ps who sa r a n) q w' := by
  apply F42_wp
  unfold F42_den
  have m0 := h.lp
  refine bxK fun w1 hb1 x1 => ?_
  have D1 : Ext w1 w1.drew := (Ext.refl _).drew
  have hav1 := hva.ext x1
  refine drawD.mk' (fun w' => Ext w1 w') D1 ?_
  refine yfB (fun w' hw => (hb1.ext hw).boxed) (by first | exact fa_105_0 | exact fa_105_1 | exact fa_105_2 | exact fa_105_3 | exact fa_105_4 | exact fa_116_0 | exact fa_116_1 | exact fa_120_0 | exact fa_120_1 | exact fa_42_0 | exact fa_42_1 | exact fa_42_2 | exact fa_42_3 | exact fa_42_4 | exact fa_42_5 | exact fa_42_6 | exact fa_57_0 | exact fa_63_0 | exact fa_63_2 | exact fa_63_3 | exact fa_63_4 | exact fa_80_0 | exact fa_80_2 | exact fa_80_3 | exact fa_80_4 | exact fa_91_0 | exact fa_95_0 | exact fa_95_1 | exact fa_95_2 | exact fa_95_3 | exact fa_95_4 | exact fa_95_5) (by first | exact l1_114 | exact l1_21 | exact l1_23 | exact l1_3 | exact l1_32 | exact l1_39 | exact l1_4 | exact l1_40 | exact l1_5 | exact l1_50 | exact l1_55 | exact l1_59 | exact l1_61 | exact l1_76) rfl ?_
  refine ySl xa_32 l1_3 hav1 (fun w' hw => hw) (by omega) (by omega) rfl ?_
  refine yfB (fun w' hw => (hb1.ext hw).boxed) (by first | exact fa_105_0 | exact fa_105_1 | exact fa_105_2 | exact fa_105_3 | exact fa_105_4 | exact fa_116_0 | exact fa_116_1 | exact fa_120_0 | exact fa_120_1 | exact fa_42_0 | exact fa_42_1 | exact fa_42_2 | exact fa_42_3 | exact fa_42_4 | exact fa_42_5 | exact fa_42_6 | exact fa_57_0 | exact fa_63_0 | exact fa_63_2 | exact fa_63_3 | exact fa_63_4 | exact fa_80_0 | exact fa_80_2 | exact fa_80_3 | exact fa_80_4 | exact fa_91_0 | exact fa_95_0 | exact fa_95_1 | exact fa_95_2 | exact fa_95_3 | exact fa_95_4 | exact fa_95_5) (by first | exact l1_114 | exact l1_21 | exact l1_23 | exact l1_3 | exact l1_32 | exact l1_39 | exact l1_4 | exact l1_40 | exact l1_5 | exact l1_50 | exact l1_55 | exact l1_59 | exact l1_61 | exact l1_76) rfl ?_
  refine ySl xa_32 l1_3 hav1 (fun w' hw => hw) (by omega) (by omega) rfl ?_
  refine yfB (fun w' hw => (hb1.ext hw).boxed) (by first | exact fa_105_0 | exact fa_105_1 | exact fa_105_2 | exact fa_105_3 | exact fa_105_4 | exact fa_116_0 | exact fa_116_1 | exact fa_120_0 | exact fa_120_1 | exact fa_42_0 | exact fa_42_1 | exact fa_42_2 | exact fa_42_3 | exact fa_42_4 | exact fa_42_5 | exact fa_42_6 | exact fa_57_0 | exact fa_63_0 | exact fa_63_2 | exact fa_63_3 | exact fa_63_4 | exact fa_80_0 | exact fa_80_2 | exact fa_80_3 | exact fa_80_4 | exact fa_91_0 | exact fa_95_0 | exact fa_95_1 | exact fa_95_2 | exact fa_95_3 | exact fa_95_4 | exact fa_95_5) (by first | exact l1_114 | exact l1_21 | exact l1_23 | exact l1_3 | exact l1_32 | exact l1_39 | exact l1_4 | exact l1_40 | exact l1_5 | exact l1_50 | exact l1_55 | exact l1_59 | exact l1_61 | exact l1_76) rfl ?_
  refine ySl xa_32 l1_3 hav1 (fun w' hw => hw) (by omega) (by omega) rfl ?_
  refine ldA (hb1.ext D1).boxed la_95 rfl ?_
  have X1 := x1.trans D1
  refine (touchT_ok (h.ext X1) hlt (who := who) (a := sa) (b := sb) (av := av)).mono fun _ w2 ⟨tv', h2, s2, f2, _⟩ => ?_
  have hb2 := f2.blk (hb1.ext D1) h.nT
  have S2 := (Stp.of_ext (p := p) X1).trans s2
  refine ldA hb2.boxed la_95 rfl ?_
  refine (rangesT_ok h2 (who := who) (sa := sa) (sb := sb) (av := av)).mono fun q w3 ⟨hq, x3⟩ => ?_
  subst hq
  have hce : rng p.ar r a n who = rngP p.ps.ar r a n who := rng_pa _ _ _ _ _
  refine V_neqI.2 (ifD_dec (fun hne => ?_) fun hfine => ?_)
  · refine svEnd h2 S2 x3 (x := sSend p.ps who sa r a n) ?_ ?_ <;> unfold sSend <;> rw [if_neg (show ¬ rngP p.ps.ar r a n who = 36864 from hne)]
    · rfl
    · rfl
  have hf : rng p.ar r a n who = 36864 := hce.trans (Classical.not_not.1 hfine)
  have hfp : rngP p.ps.ar r a n who = 36864 := hce ▸ hf
  obtain ⟨k, x, hk, hr, hm, ha0, hn0, han⟩ := rng_fine hf
  obtain ⟨n, rfl⟩ : ∃ m : Nat, n = m := ⟨n.toNat, by omega⟩
  obtain ⟨a, rfl⟩ : ∃ m : Nat, a = m := ⟨a.toNat, by omega⟩
  have hxm := List.mem_of_getElem? hk
  have hxl := h.h.len x hxm
  have hb3 := hb2.ext x3
  have h3 := h2.ext x3
  have S3 := S2.trans (Stp.of_ext x3)
  refine ldB hb3.boxed (by first | exact fa_105_0 | exact fa_105_1 | exact fa_105_2 | exact fa_105_3 | exact fa_105_4 | exact fa_116_0 | exact fa_116_1 | exact fa_120_0 | exact fa_120_1 | exact fa_42_0 | exact fa_42_1 | exact fa_42_2 | exact fa_42_3 | exact fa_42_4 | exact fa_42_5 | exact fa_42_6 | exact fa_57_0 | exact fa_63_0 | exact fa_63_2 | exact fa_63_3 | exact fa_63_4 | exact fa_80_0 | exact fa_80_2 | exact fa_80_3 | exact fa_80_4 | exact fa_91_0 | exact fa_95_0 | exact fa_95_1 | exact fa_95_2 | exact fa_95_3 | exact fa_95_4 | exact fa_95_5) (by first | exact l1_114 | exact l1_21 | exact l1_23 | exact l1_3 | exact l1_32 | exact l1_39 | exact l1_4 | exact l1_40 | exact l1_5 | exact l1_50 | exact l1_55 | exact l1_59 | exact l1_61 | exact l1_76) rfl ⟨.inl ⟨_, rfl⟩, ?_⟩
  refine V.ok r_fd_80_3 ?_
  refine ⟨fun v w' => v = .pointer (some ⟨p.rb, 0 + 3, none⟩) ∧ w' = w3, ?_, ?_⟩
  · refine ldB hb3.boxed (by first | exact fa_105_0 | exact fa_105_1 | exact fa_105_2 | exact fa_105_3 | exact fa_105_4 | exact fa_116_0 | exact fa_116_1 | exact fa_120_0 | exact fa_120_1 | exact fa_42_0 | exact fa_42_1 | exact fa_42_2 | exact fa_42_3 | exact fa_42_4 | exact fa_42_5 | exact fa_42_6 | exact fa_57_0 | exact fa_63_0 | exact fa_63_2 | exact fa_63_3 | exact fa_63_4 | exact fa_80_0 | exact fa_80_2 | exact fa_80_3 | exact fa_80_4 | exact fa_91_0 | exact fa_95_0 | exact fa_95_1 | exact fa_95_2 | exact fa_95_3 | exact fa_95_4 | exact fa_95_5) (by first | exact l1_114 | exact l1_21 | exact l1_23 | exact l1_3 | exact l1_32 | exact l1_39 | exact l1_4 | exact l1_40 | exact l1_5 | exact l1_50 | exact l1_55 | exact l1_59 | exact l1_61 | exact l1_76) rfl (V_neqI.2 ?_)
    simp only [show decide (sa ≠ 1) = false by simpa using hsa, ifD_false]
    exact ⟨by first | rfl | trivial, by first | rfl | trivial⟩
  rintro _ w' ⟨rfl, hw⟩ _
  have hw := hw.symm; subst hw
  refine ⟨.inl ⟨_, rfl⟩, ?_⟩
  refine V.ok (r_ld_40 (h3.room.cell (j := 3) rfl)) ?_
  refine lnx (by first | exact xa_114 | exact xa_22 | exact xa_32 | exact xa_39 | exact xa_40 | exact xa_55 | exact xa_61) (SliceIs.of_own h3.qp) ?_
  refine V_add.2 ?_
  have m1 : p.tp.length ≤ 128 := m0
  rw [show IntKind.i64.wrap (((p.tp.length : Nat) : Int) + (n : Int)) = ((p.tp.length + n : Nat) : Int) from by rw [wrap_id (by omega) (by omega)]; omega]
  refine V_gtr.2 (ifD_dec (fun hfull => ?_) fun hroom => ?_)
  · refine svEnd h2 S2 x3 (x := sSend p.ps who sa r a n) ?_ ?_ <;> unfold sSend <;> rw [if_pos hfp, if_pos hsa, if_pos (show p.ps.tp.length + ((n : Nat) : Int).toNat > 128 by show p.tp.length + _ > 128; rw [Int.toNat_natCast]; omega)]
    · rfl
  have D3 : Ext w3 w3.drew := (Ext.refl _).drew
  have hrb : p.pub.ownBlock ≠ some p.rb := (h.fresh p.rb (.inl rfl)).2.2.1
  have hbb : p.pub.ownBlock ≠ some w.heap.size := fun he => h.nM (.inr (.inr (.inr (.inr (.inl he)))))
  refine drawD.mk' (fun w' => Fr (fun i => p.pub.ownBlock = some i) w3 w') (Fr.of_ext D3) ⟨.inl ⟨_, rfl⟩, ?_⟩
  refine yieldS.ok (fun w' hw => r_ld_40 ((hw.seg h3.room hrb).cell (j := 3) rfl)) ?_
  refine yA (fun w' hw => (hw.blk hb3 hbb).boxed) la_95 rfl ?_
  refine (bytesT_ok (h3.ext D3) hk (who := who) (sa := sa) (sb := sb) (av := av) hr (a := a) (n := n) (by omega)).mono fun bv w4 ⟨hbv, x4⟩ => ?_
  have x34 := D3.trans x4
  refine ⟨Fr.of_ext x34, ?_⟩
  have hbs := hbv w4 (Fr.refl _ _)
  have hbl : ((x.data.drop a).take n).length = n := by simp; omega
  have hbs' : SliceIs w4 bv 1 n (((x.data.drop a).take n).map u8) := by have := hbs; unfold BytesAre at this; rw [hbl] at this; exact this
  have h4 := h3.ext x34
  have S4 := S3.trans (Stp.of_ext x34)
  refine apS (by first | exact xe_32 | exact xe_39 | exact xe_40) h4.qp hbs' (all_u8 _) (by show (p.tp.length + n) * 1 ≤ _; omega) (by unfold maxLen; show p.tp.length + n ≤ _; omega) h4.h.lt fun v5 w5 ho5 hg5 hlies => ?_
  have f5 : Fr (fun i => p.pub.ownBlock = some i) w4 w5 := Fr.of_grown hg5 fun k hk => hk
  have f35 : Fr (fun i => p.pub.ownBlock = some i) w3 w5 := (Fr.of_ext (S := fun i => p.pub.ownBlock = some i) x34).trans f5 fun _ _ h => h
  refine ⟨f35, .inl ⟨_, rfl⟩, ?_⟩
  have ho5' : w5.ownsRow p.B 5 1 v5 (p.tp ++ (x.data.drop a).take n).length ((p.tp ++ (x.data.drop a).take n).map u8) := by
    rw [List.length_append, List.map_append, hbl]; exact ho5
  refine stFS inf40 (f35.seg h3.room hrb) rfl (by simp) (own_one ho5) ?_
  obtain ⟨h6, mu6, f6⟩ := h4.tellP ho5' f5 hlies (by show (p.tp ++ _).length ≤ 128; rw [List.length_append, hbl]; omega)
  refine ⟨_, ?_, ?_, h6, S4.trans ⟨rfl, rfl, rfl, rfl, rfl, rfl, rfl, fun i hi => ?_, f6.mono fun i hi => .inl (hi.elim (fun h => .inr (.inr (.inr (.inr (.inl h))))) .inl)⟩⟩
  · unfold sSend; rw [if_pos hfp, if_pos hsa, if_neg (show ¬ p.ps.tp.length + ((n : Nat) : Int).toNat > 128 by show ¬ p.tp.length + _ > 128; rw [Int.toNat_natCast]; omega)]
  · unfold sSend; rw [if_pos hfp, if_pos hsa, if_neg (show ¬ p.ps.tp.length + ((n : Nat) : Int).toNat > 128 by show ¬ p.tp.length + _ > 128; rw [Int.toNat_natCast]; omega)]
    unfold parP
    rw [show datP p.ps.ar r = x.data from dat_pa hk hr]
    rfl
  · rcases hi with hi | hi
    · rcases mu6 i hi with hm | rfl
      · exact .inl hm
      · exact .inr (.inr (Nat.le_refl _))
    · exact .inr (.inl hi)
theorem sendT_ok (h : RoomT p w) (hlt : p.tr.length ≤ 100000) {who sa sb r a n : Int} (hva : SliceIs w av 1 3 [i64 r, i64 a, i64 n]) :
    callD Tryd.prog 42 #[svcT p who sa sb av] w fun q w' => SvR p w (sSend p.ps who sa r a n) q w' := by
  by_cases hsa : sa = 1
  · exact send1T_ok h hlt hsa hva
  · exact send2T_ok h hlt hsa hva
end
end Go.Proofs.YtgjmpnngheohbaaDoor
namespace Go.Proofs.YtgjmpnngheohbaaDoor
open Go.Vc
def useN (l : List PA) (i : Nat) : Nat := (((l.drop 2).take i).map fun a => 8 + a.data.length).sum
def usedP (l : List PA) : Nat := useN l (l.length - 2)
theorem useN_succ {ar : List Arr} {i : Nat} {a : Arr} (h : ar[i + 2]? = some a) : useN (ar.map pa) (i + 1) = useN (ar.map pa) i + (8 + a.data.length) := by
  unfold useN
  have hi : ((ar.map pa).drop 2)[i]? = some (pa a) := by
    rw [List.getElem?_drop, List.getElem?_map, show 2 + i = i + 2 by omega, h]; rfl
  have hl := (List.getElem?_eq_some_iff.1 hi).1
  rw [List.take_add_one, hi]
  simp [List.sum_append]
  rfl
theorem usedT_ok {w : World} {hb B : Nat} {size : Int} {g cap : Nat} {ar : List Arr} (h : HeapG w hb B size g cap ar) (h2 : 2 ≤ ar.length) :
    callD Tryd.prog 85 #[.pointer (some ⟨hb, 0, none⟩)] w fun q w' => (q = i64 ((usedP (ar.map pa) : Nat) : Int) ∧ 8 * (ar.length - 2) ≤ usedP (ar.map pa) ∧ usedP (ar.map pa) ≤ 72 * (ar.length - 2)) ∧ Ext w w' := by
  apply F85_wp
  unfold F85_den
  have hc := h.cap
  have hcnt := h.cnt
  refine ⟨.inl ⟨_, rfl⟩, ?_⟩
  refine ldB h.heap.boxed (by first | exact fa_105_0 | exact fa_105_1 | exact fa_105_2 | exact fa_105_3 | exact fa_105_4 | exact fa_116_0 | exact fa_116_1 | exact fa_120_0 | exact fa_120_1 | exact fa_42_0 | exact fa_42_1 | exact fa_42_2 | exact fa_42_3 | exact fa_42_4 | exact fa_42_5 | exact fa_42_6 | exact fa_57_0 | exact fa_63_0 | exact fa_63_2 | exact fa_63_3 | exact fa_63_4 | exact fa_80_0 | exact fa_80_2 | exact fa_80_3 | exact fa_80_4 | exact fa_91_0 | exact fa_95_0 | exact fa_95_1 | exact fa_95_2 | exact fa_95_3 | exact fa_95_4 | exact fa_95_5) (by first | exact l1_114 | exact l1_21 | exact l1_23 | exact l1_3 | exact l1_32 | exact l1_39 | exact l1_4 | exact l1_40 | exact l1_5 | exact l1_50 | exact l1_55 | exact l1_59 | exact l1_61 | exact l1_76) rfl ?_
  refine V.ok (r_slFrom (a := 2) Tryd.underlying114 inf105 h2 hc.1) ?_
  refine V_ln_114.2 ?_
  refine ⟨fun v v' w' => ∃ z i : Nat, v = i64 (z : Int) ∧ v' = i64 (i : Int) ∧ i ≤ ar.length - 2 ∧ 8 * i ≤ z ∧ z ≤ 72 * i ∧ z = useN (ar.map pa) i ∧ Ext w w', fun _ v _ => ar.length - (RowKit.intOf v).toNat, ⟨0, 0, rfl, rfl, Nat.zero_le _, Nat.le_refl _, Nat.le_refl _, rfl, Ext.refl _⟩, ?_⟩
  rintro _ _ w1 ⟨z, i, rfl, rfl, hi, hz1, hz2, hz, x1⟩ _
  refine V_lss.2 (ifD_dec (fun hlt => ?_) fun hge => ?_)
  · have hne : ¬ cap = 2 := by omega
    rw [if_neg hne]
    obtain ⟨a, ha⟩ := ex_get (l := ar) (j := i + 2) (by omega)
    have hal := h.len a (List.mem_of_getElem? ha)
    have ho := h.data a (List.mem_of_getElem? ha)
    refine V.ok (r_ix_114 (by omega) (by omega)) ?_
    have e : 2 * 5 + ((i : Nat) : Int).toNat * 5 = (i + 2) * 5 := by omega
    rw [e]
    refine V.ok (r_la_105 (cs := a.cells) rfl fun j hj => (h.ext x1).get ha hj) ?_
    refine asK (by first | exact sa_105 | exact sa_42 | exact sa_95) rfl (cells_one (own_one ho)) fun w2 hc2 x2 => ?_
    refine ldB hc2.boxed (by first | exact fa_105_0 | exact fa_105_1 | exact fa_105_2 | exact fa_105_3 | exact fa_105_4 | exact fa_116_0 | exact fa_116_1 | exact fa_120_0 | exact fa_120_1 | exact fa_42_0 | exact fa_42_1 | exact fa_42_2 | exact fa_42_3 | exact fa_42_4 | exact fa_42_5 | exact fa_42_6 | exact fa_57_0 | exact fa_63_0 | exact fa_63_2 | exact fa_63_3 | exact fa_63_4 | exact fa_80_0 | exact fa_80_2 | exact fa_80_3 | exact fa_80_4 | exact fa_91_0 | exact fa_95_0 | exact fa_95_1 | exact fa_95_2 | exact fa_95_3 | exact fa_95_4 | exact fa_95_5) (by first | exact l1_114 | exact l1_21 | exact l1_23 | exact l1_3 | exact l1_32 | exact l1_39 | exact l1_4 | exact l1_40 | exact l1_5 | exact l1_50 | exact l1_55 | exact l1_59 | exact l1_61 | exact l1_76) rfl (lnx (by first | exact xa_114 | exact xa_22 | exact xa_32 | exact xa_39 | exact xa_40 | exact xa_55 | exact xa_61) (SliceIs.of_own ((x1.trans x2).own ho)) ?_)
    refine V_add.2 (V_add.2 (V_add.2 ?_))
    rw [wrap_id (n := 8 + ((a.data.length : Nat) : Int)) (by omega) (by omega), wrap_id (by omega) (by omega), wrap_id (by omega) (by omega)]
    exact ⟨⟨z + (8 + a.data.length), i + 1, by congr 1, by congr 1, by omega, by omega, by omega, by rw [useN_succ ha, hz], x1.trans x2⟩, by simp only [RowKit.intOf]; omega⟩
  · have e : i = ar.length - 2 := by omega
    have e2 : usedP (ar.map pa) = z := by unfold usedP; rw [List.length_map, ← e, hz]
    rw [e2]
    exact ⟨⟨rfl, by omega, by omega⟩, x1⟩
set_option maxHeartbeats 3200000 in
theorem alloc3_ok {w : World} {hb B : Nat} {size : Int} {g cap : Nat} {ar : List Arr} (h : HeapG w hb B size g cap ar) (h2 : 2 ≤ ar.length) (hs : 0 ≤ size ∧ size ≤ 1000) {who life : Int} {n : Nat} {share : Bool} (hl : 0 ≤ life ∧ life ≤ 3) (hn : n ≤ 64) :
    callD Tryd.prog 68 #[.pointer (some ⟨hb, 0, none⟩), i64 who, i64 3, i64 life, .bool share, i64 (n : Int)] w fun q w' =>
      ((life > 2 ∨ 8 + (n : Int) > size - usedP (ar.map pa)) ∧ q = .tuple #[i64 0, .bool false] ∧ Ext w w') ∨ (¬ (life > 2 ∨ 8 + (n : Int) > size - usedP (ar.map pa)) ∧ ∃ g' cap' dv, q = .tuple #[i64 ((ar.length + 1 : Nat) : Int), .bool true] ∧ HeapG w' hb B size g' cap' (ar ++ [⟨who, 3, life, share, dv, List.replicate n 0⟩]) ∧ (∀ x, dv.ownBlock = some x → w.heap.size ≤ x) ∧ (g' = g ∨ w.heap.size ≤ g') ∧ Fr (fun i => i = hb ∨ i = g) w w') := by
  apply F68_wp
  unfold F68_den
  have hc := h.cap
  have hcnt := h.cnt
  have hlt := h.lt
  have D0 : Ext w w.drew := (Ext.refl _).drew
  refine drawD.mk' (fun w' => Ext w w') D0 ?_
  refine yieldS.ok (fun w' _ => r_neqI) ?_
  simp only [show decide ((3 : Int) ≠ 3) = false by decide, gdY_f, gdY_ft, pickD_iff, reduceIte, Bool.false_eq_true]
  refine yieldS.ok (fun w' _ => r_lss) ?_
  simp only [show ¬ life < 0 by omega, gdY_f, pickD_iff, reduceIte, Bool.false_eq_true, decide_false]
  refine yieldS.ok (fun w' _ => r_gtr) ?_
  by_cases hlife : life > 2
  · simp only [hlife, gd_tf, gdY_tf, pickD_iff, ifD_true, reduceIte, decide_true]
    exact ⟨D0, .inl ⟨.inl (by first | exact hlife | trivial), by first | rfl | trivial, D0⟩⟩
  simp only [hlife, gdY_f, pickD_iff, reduceIte, Bool.false_eq_true, decide_false]
  refine yieldS.ok (fun w' _ => r_lss) ?_
  simp only [show ¬ ((n : Nat) : Int) < 0 by omega, gdY_f, pickD_iff, reduceIte, Bool.false_eq_true, decide_false]
  refine yieldS.ok (fun w' _ => r_gtr) ?_
  simp only [show ¬ ((n : Nat) : Int) > 64 by omega, gd_f, gdY_f, pickD_iff, reduceIte, Bool.false_eq_true, decide_false]
  refine yieldS.ok (fun w' _ => r_add) ?_
  rw [wrap_id (by omega) (by omega)]
  refine ⟨.inl ⟨_, rfl⟩, ?_⟩
  refine yfB (fun w' hw => (h.heap.ext hw).boxed) (by first | exact fa_105_0 | exact fa_105_1 | exact fa_105_2 | exact fa_105_3 | exact fa_105_4 | exact fa_116_0 | exact fa_116_1 | exact fa_120_0 | exact fa_120_1 | exact fa_42_0 | exact fa_42_1 | exact fa_42_2 | exact fa_42_3 | exact fa_42_4 | exact fa_42_5 | exact fa_42_6 | exact fa_57_0 | exact fa_63_0 | exact fa_63_2 | exact fa_63_3 | exact fa_63_4 | exact fa_80_0 | exact fa_80_2 | exact fa_80_3 | exact fa_80_4 | exact fa_91_0 | exact fa_95_0 | exact fa_95_1 | exact fa_95_2 | exact fa_95_3 | exact fa_95_4 | exact fa_95_5) (by first | exact l1_114 | exact l1_21 | exact l1_23 | exact l1_3 | exact l1_32 | exact l1_39 | exact l1_4 | exact l1_40 | exact l1_5 | exact l1_50 | exact l1_55 | exact l1_59 | exact l1_61 | exact l1_76) rfl ?_
  refine (usedT_ok (h.ext D0) h2).mono fun q w1 ⟨⟨hq, hz1, hz2⟩, x1⟩ => ?_
  subst hq
  have X1 := D0.trans x1
  refine ⟨X1, ?_⟩
  refine yieldS.ok (fun w' _ => r_sub) ?_
  rw [wrap_id (by omega) (by omega)]
  refine yieldS.ok (fun w' _ => r_gtr) ?_
  refine ifD_dec (fun hfull => .inl ⟨by first | exact .inr hfull | exact hfull | omega, by first | rfl | trivial, X1⟩) fun hroom => ?_
  have D1 : Ext w1 w1.drew := (Ext.refl _).drew
  have h1 := h.ext X1
  have hhg : ¬ hb = g := h.fresh.1
  have hhl0 := h.heap.lt
  refine drawD.mk' (fun w' => Fr (fun i => i = g) w1 w') (Fr.of_ext D1) ⟨.inl ⟨_, rfl⟩, ?_⟩
  refine yfB (fun w' hw => (hw.blk h1.heap hhg).boxed) (by first | exact fa_105_0 | exact fa_105_1 | exact fa_105_2 | exact fa_105_3 | exact fa_105_4 | exact fa_116_0 | exact fa_116_1 | exact fa_120_0 | exact fa_120_1 | exact fa_42_0 | exact fa_42_1 | exact fa_42_2 | exact fa_42_3 | exact fa_42_4 | exact fa_42_5 | exact fa_42_6 | exact fa_57_0 | exact fa_63_0 | exact fa_63_2 | exact fa_63_3 | exact fa_63_4 | exact fa_80_0 | exact fa_80_2 | exact fa_80_3 | exact fa_80_4 | exact fa_91_0 | exact fa_95_0 | exact fa_95_1 | exact fa_95_2 | exact fa_95_3 | exact fa_95_4 | exact fa_95_5) (by first | exact l1_114 | exact l1_21 | exact l1_23 | exact l1_3 | exact l1_32 | exact l1_39 | exact l1_4 | exact l1_40 | exact l1_5 | exact l1_50 | exact l1_55 | exact l1_59 | exact l1_61 | exact l1_76) rfl ?_
  have s1 := X1.size
  have d1 := D1.size
  refine mkBv (n := n) rfl Tryd.underlying40 inf5 rfl (by omega) (by omega) fun w2 hb2 x2 hs2 => ?_
  have hx12 := D1.trans x2
  refine ⟨Fr.of_ext hx12, ?_⟩
  refine yBld bd_105 [(0, i64 who), (1, i64 3), (2, i64 life), (3, .bool share), (4, .slice (some ⟨w1.drew.heap.size, 0, none⟩) n n)] rfl rfl ?_
  refine V.ok (v := .slice (some ⟨w2.heap.size, 0, none⟩) 1 1) (w' := w2.alloc (.cells (⟨who, 3, life, share, .slice (some ⟨w1.drew.heap.size, 0, none⟩) n n, List.replicate n 0⟩ : Arr).cells.toArray 105)) (by kernel_rfl) ?_
  have hb3 : Blk (w2.alloc (.cells (⟨who, 3, life, share, .slice (some ⟨w1.drew.heap.size, 0, none⟩) n n, List.replicate n 0⟩ : Arr).cells.toArray 105)) w2.heap.size (⟨who, 3, life, share, .slice (some ⟨w1.drew.heap.size, 0, none⟩) n n, List.replicate n 0⟩ : Arr).cells 105 := by unfold Blk; rw [heap_alloc_new]
  have x3 : Ext w2 (w2.alloc (.cells (⟨who, 3, life, share, .slice (some ⟨w1.drew.heap.size, 0, none⟩) n n, List.replicate n 0⟩ : Arr).cells.toArray 105)) := (Ext.refl _).alloc _
  generalize w2.alloc (.cells (⟨who, 3, life, share, .slice (some ⟨w1.drew.heap.size, 0, none⟩) n n, List.replicate n 0⟩ : Arr).cells.toArray 105) = w3 at hb3 x3 ⊢
  have hx13 := hx12.trans x3
  refine ⟨Fr.of_ext hx13, ?_⟩
  have s2 := x2.size
  have s3 := x3.size
  have ho3 : w3.ownsRow 0 105 5 (.slice (some ⟨w2.heap.size, 0, none⟩) 1 1) 1 _ := own_blk hb3 rfl (Nat.zero_le _) (by unfold maxLen; omega)
  refine apZ Tryd.underlying114 inf105 rfl (by omega) (hx13.own h1.row) ho3 (by omega) rfl (by omega) (by unfold maxLen; omega) (by omega) fun g' cap' w4 ho4 hg4 hlies => ?_
  have f4 : Fr (fun i => i = g) w3 w4 := Fr.of_grown hg4 fun k hk => by simpa [Value.ownBlock] using hk.symm
  have f14 : Fr (fun i => i = g) w1 w4 := (Fr.of_ext (S := fun i => i = g) hx13).trans f4 fun _ _ h => h
  refine ⟨f14, .inl ⟨_, rfl⟩, ?_⟩
  refine yieldS.ok (fun w' _ => r_fd_120_1) ?_
  have hheap4 := f14.blk h1.heap hhg
  refine stFU inf114 hheap4 rfl (by simp) rfl ?_
  have f5 : Fr (fun i => i = hb) w4 (w4.setCell ⟨hb, 1, none⟩ (.slice (some ⟨g', 0, none⟩) (ar.length + 1) cap')) := Fr.of_set rfl
  have hb5 := hheap4.set 1 (.slice (some ⟨g', 0, none⟩) (ar.length + 1) cap')
  have hg' : g' = g ∨ w1.heap.size ≤ g' ∧ w1.drew.heap.size ≠ g' := by
    rcases hlies with hl | hl
    · left; simpa [Value.ownBlock] using hl.symm
    · right; omega
  have hhl := h.heap.lt
  have hg'b : ¬ g' = hb := by omega
  have ho5 := f5.own ho4 fun k hk => by
    have : g' = k := by simpa [Value.ownBlock] using hk
    omega
  have hd4 : w4.ownsRow w1.heap.size 5 1 (.slice (some ⟨w1.drew.heap.size, 0, none⟩) n n) n (List.replicate n (u8 0)) := own_blk (f4.blk (hb2.ext x3) (by omega)) (by simp) (by omega) (by unfold maxLen; omega)
  have hd5 := f5.own hd4 fun k hk => by
    have : w1.drew.heap.size = k := by simpa [Value.ownBlock] using hk
    omega
  generalize w4.setCell ⟨hb, 1, none⟩ (.slice (some ⟨g', 0, none⟩) (ar.length + 1) cap') = w5 at f5 hb5 ho5 hd5 ⊢
  have f15 := f14.or f5
  have F15 : Fr (fun i => i = hb ∨ i = g) w1 w5 := f15.mono fun i hi => hi.symm
  refine ⟨.inl ⟨_, rfl⟩, ?_⟩
  refine ldB hb5.boxed (by first | exact fa_105_0 | exact fa_105_1 | exact fa_105_2 | exact fa_105_3 | exact fa_105_4 | exact fa_116_0 | exact fa_116_1 | exact fa_120_0 | exact fa_120_1 | exact fa_42_0 | exact fa_42_1 | exact fa_42_2 | exact fa_42_3 | exact fa_42_4 | exact fa_42_5 | exact fa_42_6 | exact fa_57_0 | exact fa_63_0 | exact fa_63_2 | exact fa_63_3 | exact fa_63_4 | exact fa_80_0 | exact fa_80_2 | exact fa_80_3 | exact fa_80_4 | exact fa_91_0 | exact fa_95_0 | exact fa_95_1 | exact fa_95_2 | exact fa_95_3 | exact fa_95_4 | exact fa_95_5) (by first | exact l1_114 | exact l1_21 | exact l1_23 | exact l1_3 | exact l1_32 | exact l1_39 | exact l1_4 | exact l1_40 | exact l1_5 | exact l1_50 | exact l1_55 | exact l1_59 | exact l1_61 | exact l1_76) rfl (V_ln_114.2 ?_)
  refine .inr ⟨by first | exact hroom | omega | (intro hh; rcases hh with hh | hh <;> first | exact hh.elim | omega | exact absurd hh hroom), g', cap', .slice (some ⟨w1.drew.heap.size, 0, none⟩) n n, rfl, ?_, fun x hx => ?_, by omega, (Fr.of_ext (S := fun i => i = hb ∨ i = g) X1).trans F15 fun _ _ h => h⟩
  · refine h1.push _ (by simpa using hn) (by omega) hb5 ho5 ?_ ?_ (by omega) F15
    · simpa using hd5
    · intro he
      have : w1.drew.heap.size = g' := by simpa [Value.ownBlock] using he
      rcases hg' with rfl | hg'
      · have := h1.cap; omega
      · omega
  · have : w1.drew.heap.size = x := by simpa [Value.ownBlock] using hx
    omega
set_option maxHeartbeats 3200000 in
theorem alloc4_ok {w : World} {hb B : Nat} {size : Int} {g cap : Nat} {ar : List Arr} (h : HeapG w hb B size g cap ar) (h2 : 2 ≤ ar.length) (hs : 0 ≤ size ∧ size ≤ 1000) {who life : Int} {n : Nat} {share : Bool} (hl : 0 ≤ life ∧ life ≤ 3) (hn : n ≤ 64) :
    callD Tryd.prog 68 #[.pointer (some ⟨hb, 0, none⟩), i64 who, i64 4, i64 life, .bool share, i64 (n : Int)] w fun q w' =>
      ((life > 2 ∨ 8 + (n : Int) > size - usedP (ar.map pa)) ∧ q = .tuple #[i64 0, .bool false] ∧ Ext w w') ∨ (¬ (life > 2 ∨ 8 + (n : Int) > size - usedP (ar.map pa)) ∧ ∃ g' cap' dv, q = .tuple #[i64 ((ar.length + 1 : Nat) : Int), .bool true] ∧ HeapG w' hb B size g' cap' (ar ++ [⟨who, 4, life, share, dv, List.replicate n 0⟩]) ∧ (∀ x, dv.ownBlock = some x → w.heap.size ≤ x) ∧ (g' = g ∨ w.heap.size ≤ g') ∧ Fr (fun i => i = hb ∨ i = g) w w') := by
  apply F68_wp
  unfold F68_den
  have hc := h.cap
  have hcnt := h.cnt
  have hlt := h.lt
  have D0 : Ext w w.drew := (Ext.refl _).drew
  refine drawD.mk' (fun w' => Ext w w') D0 ?_
  refine yieldS.ok (fun w' _ => r_neqI) ?_
  simp only [show decide ((4 : Int) ≠ 3) = true by decide, gdY_t, pickD_iff, reduceIte]
  refine yieldS.ok (fun w' _ => r_neqI) ?_
  simp only [show decide ((4 : Int) ≠ 4) = false by decide, gdY_f, pickD_iff, reduceIte, Bool.false_eq_true]
  refine yieldS.ok (fun w' _ => r_lss) ?_
  simp only [show ¬ life < 0 by omega, gdY_f, pickD_iff, reduceIte, Bool.false_eq_true, decide_false]
  refine yieldS.ok (fun w' _ => r_gtr) ?_
  by_cases hlife : life > 2
  · simp only [hlife, gd_tf, gdY_tf, pickD_iff, ifD_true, reduceIte, decide_true]
    exact ⟨D0, .inl ⟨.inl (by first | exact hlife | trivial), by first | rfl | trivial, D0⟩⟩
  simp only [hlife, gdY_f, pickD_iff, reduceIte, Bool.false_eq_true, decide_false]
  refine yieldS.ok (fun w' _ => r_lss) ?_
  simp only [show ¬ ((n : Nat) : Int) < 0 by omega, gdY_f, pickD_iff, reduceIte, Bool.false_eq_true, decide_false]
  refine yieldS.ok (fun w' _ => r_gtr) ?_
  simp only [show ¬ ((n : Nat) : Int) > 64 by omega, gd_f, gdY_f, pickD_iff, reduceIte, Bool.false_eq_true, decide_false]
  refine yieldS.ok (fun w' _ => r_add) ?_
  rw [wrap_id (by omega) (by omega)]
  refine ⟨.inl ⟨_, rfl⟩, ?_⟩
  refine yfB (fun w' hw => (h.heap.ext hw).boxed) (by first | exact fa_105_0 | exact fa_105_1 | exact fa_105_2 | exact fa_105_3 | exact fa_105_4 | exact fa_116_0 | exact fa_116_1 | exact fa_120_0 | exact fa_120_1 | exact fa_42_0 | exact fa_42_1 | exact fa_42_2 | exact fa_42_3 | exact fa_42_4 | exact fa_42_5 | exact fa_42_6 | exact fa_57_0 | exact fa_63_0 | exact fa_63_2 | exact fa_63_3 | exact fa_63_4 | exact fa_80_0 | exact fa_80_2 | exact fa_80_3 | exact fa_80_4 | exact fa_91_0 | exact fa_95_0 | exact fa_95_1 | exact fa_95_2 | exact fa_95_3 | exact fa_95_4 | exact fa_95_5) (by first | exact l1_114 | exact l1_21 | exact l1_23 | exact l1_3 | exact l1_32 | exact l1_39 | exact l1_4 | exact l1_40 | exact l1_5 | exact l1_50 | exact l1_55 | exact l1_59 | exact l1_61 | exact l1_76) rfl ?_
  refine (usedT_ok (h.ext D0) h2).mono fun q w1 ⟨⟨hq, hz1, hz2⟩, x1⟩ => ?_
  subst hq
  have X1 := D0.trans x1
  refine ⟨X1, ?_⟩
  refine yieldS.ok (fun w' _ => r_sub) ?_
  rw [wrap_id (by omega) (by omega)]
  refine yieldS.ok (fun w' _ => r_gtr) ?_
  refine ifD_dec (fun hfull => .inl ⟨by first | exact .inr hfull | exact hfull | omega, by first | rfl | trivial, X1⟩) fun hroom => ?_
  have D1 : Ext w1 w1.drew := (Ext.refl _).drew
  have h1 := h.ext X1
  have hhg : ¬ hb = g := h.fresh.1
  have hhl0 := h.heap.lt
  refine drawD.mk' (fun w' => Fr (fun i => i = g) w1 w') (Fr.of_ext D1) ⟨.inl ⟨_, rfl⟩, ?_⟩
  refine yfB (fun w' hw => (hw.blk h1.heap hhg).boxed) (by first | exact fa_105_0 | exact fa_105_1 | exact fa_105_2 | exact fa_105_3 | exact fa_105_4 | exact fa_116_0 | exact fa_116_1 | exact fa_120_0 | exact fa_120_1 | exact fa_42_0 | exact fa_42_1 | exact fa_42_2 | exact fa_42_3 | exact fa_42_4 | exact fa_42_5 | exact fa_42_6 | exact fa_57_0 | exact fa_63_0 | exact fa_63_2 | exact fa_63_3 | exact fa_63_4 | exact fa_80_0 | exact fa_80_2 | exact fa_80_3 | exact fa_80_4 | exact fa_91_0 | exact fa_95_0 | exact fa_95_1 | exact fa_95_2 | exact fa_95_3 | exact fa_95_4 | exact fa_95_5) (by first | exact l1_114 | exact l1_21 | exact l1_23 | exact l1_3 | exact l1_32 | exact l1_39 | exact l1_4 | exact l1_40 | exact l1_5 | exact l1_50 | exact l1_55 | exact l1_59 | exact l1_61 | exact l1_76) rfl ?_
  have s1 := X1.size
  have d1 := D1.size
  refine mkBv (n := n) rfl Tryd.underlying40 inf5 rfl (by omega) (by omega) fun w2 hb2 x2 hs2 => ?_
  have hx12 := D1.trans x2
  refine ⟨Fr.of_ext hx12, ?_⟩
  refine yBld bd_105 [(0, i64 who), (1, i64 4), (2, i64 life), (3, .bool share), (4, .slice (some ⟨w1.drew.heap.size, 0, none⟩) n n)] rfl rfl ?_
  refine V.ok (v := .slice (some ⟨w2.heap.size, 0, none⟩) 1 1) (w' := w2.alloc (.cells (⟨who, 4, life, share, .slice (some ⟨w1.drew.heap.size, 0, none⟩) n n, List.replicate n 0⟩ : Arr).cells.toArray 105)) (by kernel_rfl) ?_
  have hb3 : Blk (w2.alloc (.cells (⟨who, 4, life, share, .slice (some ⟨w1.drew.heap.size, 0, none⟩) n n, List.replicate n 0⟩ : Arr).cells.toArray 105)) w2.heap.size (⟨who, 4, life, share, .slice (some ⟨w1.drew.heap.size, 0, none⟩) n n, List.replicate n 0⟩ : Arr).cells 105 := by unfold Blk; rw [heap_alloc_new]
  have x3 : Ext w2 (w2.alloc (.cells (⟨who, 4, life, share, .slice (some ⟨w1.drew.heap.size, 0, none⟩) n n, List.replicate n 0⟩ : Arr).cells.toArray 105)) := (Ext.refl _).alloc _
  generalize w2.alloc (.cells (⟨who, 4, life, share, .slice (some ⟨w1.drew.heap.size, 0, none⟩) n n, List.replicate n 0⟩ : Arr).cells.toArray 105) = w3 at hb3 x3 ⊢
  have hx13 := hx12.trans x3
  refine ⟨Fr.of_ext hx13, ?_⟩
  have s2 := x2.size
  have s3 := x3.size
  have ho3 : w3.ownsRow 0 105 5 (.slice (some ⟨w2.heap.size, 0, none⟩) 1 1) 1 _ := own_blk hb3 rfl (Nat.zero_le _) (by unfold maxLen; omega)
  refine apZ Tryd.underlying114 inf105 rfl (by omega) (hx13.own h1.row) ho3 (by omega) rfl (by omega) (by unfold maxLen; omega) (by omega) fun g' cap' w4 ho4 hg4 hlies => ?_
  have f4 : Fr (fun i => i = g) w3 w4 := Fr.of_grown hg4 fun k hk => by simpa [Value.ownBlock] using hk.symm
  have f14 : Fr (fun i => i = g) w1 w4 := (Fr.of_ext (S := fun i => i = g) hx13).trans f4 fun _ _ h => h
  refine ⟨f14, .inl ⟨_, rfl⟩, ?_⟩
  refine yieldS.ok (fun w' _ => r_fd_120_1) ?_
  have hheap4 := f14.blk h1.heap hhg
  refine stFU inf114 hheap4 rfl (by simp) rfl ?_
  have f5 : Fr (fun i => i = hb) w4 (w4.setCell ⟨hb, 1, none⟩ (.slice (some ⟨g', 0, none⟩) (ar.length + 1) cap')) := Fr.of_set rfl
  have hb5 := hheap4.set 1 (.slice (some ⟨g', 0, none⟩) (ar.length + 1) cap')
  have hg' : g' = g ∨ w1.heap.size ≤ g' ∧ w1.drew.heap.size ≠ g' := by
    rcases hlies with hl | hl
    · left; simpa [Value.ownBlock] using hl.symm
    · right; omega
  have hhl := h.heap.lt
  have hg'b : ¬ g' = hb := by omega
  have ho5 := f5.own ho4 fun k hk => by
    have : g' = k := by simpa [Value.ownBlock] using hk
    omega
  have hd4 : w4.ownsRow w1.heap.size 5 1 (.slice (some ⟨w1.drew.heap.size, 0, none⟩) n n) n (List.replicate n (u8 0)) := own_blk (f4.blk (hb2.ext x3) (by omega)) (by simp) (by omega) (by unfold maxLen; omega)
  have hd5 := f5.own hd4 fun k hk => by
    have : w1.drew.heap.size = k := by simpa [Value.ownBlock] using hk
    omega
  generalize w4.setCell ⟨hb, 1, none⟩ (.slice (some ⟨g', 0, none⟩) (ar.length + 1) cap') = w5 at f5 hb5 ho5 hd5 ⊢
  have f15 := f14.or f5
  have F15 : Fr (fun i => i = hb ∨ i = g) w1 w5 := f15.mono fun i hi => hi.symm
  refine ⟨.inl ⟨_, rfl⟩, ?_⟩
  refine ldB hb5.boxed (by first | exact fa_105_0 | exact fa_105_1 | exact fa_105_2 | exact fa_105_3 | exact fa_105_4 | exact fa_116_0 | exact fa_116_1 | exact fa_120_0 | exact fa_120_1 | exact fa_42_0 | exact fa_42_1 | exact fa_42_2 | exact fa_42_3 | exact fa_42_4 | exact fa_42_5 | exact fa_42_6 | exact fa_57_0 | exact fa_63_0 | exact fa_63_2 | exact fa_63_3 | exact fa_63_4 | exact fa_80_0 | exact fa_80_2 | exact fa_80_3 | exact fa_80_4 | exact fa_91_0 | exact fa_95_0 | exact fa_95_1 | exact fa_95_2 | exact fa_95_3 | exact fa_95_4 | exact fa_95_5) (by first | exact l1_114 | exact l1_21 | exact l1_23 | exact l1_3 | exact l1_32 | exact l1_39 | exact l1_4 | exact l1_40 | exact l1_5 | exact l1_50 | exact l1_55 | exact l1_59 | exact l1_61 | exact l1_76) rfl (V_ln_114.2 ?_)
  refine .inr ⟨by first | exact hroom | omega | (intro hh; rcases hh with hh | hh <;> first | exact hh.elim | omega | exact absurd hh hroom), g', cap', .slice (some ⟨w1.drew.heap.size, 0, none⟩) n n, rfl, ?_, fun x hx => ?_, by omega, (Fr.of_ext (S := fun i => i = hb ∨ i = g) X1).trans F15 fun _ _ h => h⟩
  · refine h1.push _ (by simpa using hn) (by omega) hb5 ho5 ?_ ?_ (by omega) F15
    · simpa using hd5
    · intro he
      have : w1.drew.heap.size = g' := by simpa [Value.ownBlock] using he
      rcases hg' with rfl | hg'
      · have := h1.cap; omega
      · omega
  · have : w1.drew.heap.size = x := by simpa [Value.ownBlock] using hx
    omega
theorem RoomT.push {p : RP} {w w' : World} {g' cap' : Nat} (h : RoomT p w) {a : Arr} (hh : HeapG w' p.hb p.B p.size g' cap' (p.ar ++ [a])) (hok : okB a.data) (hn : ∀ x, a.dv.ownBlock = some x → w.heap.size ≤ x) (hg : g' = p.g ∨ w.heap.size ≤ g') (hf : Fr (fun i => i = p.hb ∨ i = p.g) w w') :
    RoomT { p with g := g', cap := cap', ar := p.ar ++ [a] } w' ∧ ∀ i, MuP { p with g := g', cap := cap', ar := p.ar ++ [a] } i → MuP p i ∨ w.heap.size ≤ i := by
  have hlt := h.lt
  have hhl := h.h.lt
  have hc := h.h.cap
  have pb : ∀ x, p.pub.ownBlock = some x → p.B ≤ x ∧ x < w.heap.size := fun x hx => h.qp.lt x hx
  have sb : ∀ x, p.sec.ownBlock = some x → p.B ≤ x ∧ x < w.heap.size := fun x hx => h.qs.lt x hx
  have hrl := h.room.lt
  have hhl2 := h.h.heap.lt
  have mu : ∀ i, MuP { p with g := g', cap := cap', ar := p.ar ++ [a] } i → MuP p i ∨ w.heap.size ≤ i := fun i hi => by
    rcases hi with hi | hi | hi | ⟨b, hb', he⟩ | hi
    · exact .inl (.inl hi)
    · exact .inl (.inr (.inl hi))
    · have hi : i = g' := hi
      rcases hg with hg | hg
      · exact .inl (.inr (.inr (.inl (hi.trans hg))))
      · exact .inr (hi ▸ hg)
    · rcases List.mem_append.1 hb' with hb' | hb'
      · exact .inl (.inr (.inr (.inr (.inl ⟨b, hb', he⟩))))
      · obtain rfl := List.mem_singleton.1 hb'
        exact .inr (hn i he)
    · exact .inl (.inr (.inr (.inr (.inr hi))))
  have hM : ∀ i, (i = p.hb ∨ i = p.g) → MuP p i := fun i hi => hi.elim (fun h => .inr (.inl h)) fun h => .inr (.inr (.inl h))
  refine ⟨⟨hf.seg h.room (fun he => he.elim hlt (h.fresh p.rb (.inl rfl)).1), hh, hf.own h.qp fun i hi he => ?_, hf.own h.qs fun i hi he => ?_, h.lp, h.ls, h.ne, fun b hb' x hx he => ?_, fun b hb' x hx he => ?_, fun he => ?_, fun he => ?_, hlt, fun y hy => ⟨?_, fun b hb' he => ?_, (h.fresh y hy).2.2⟩,
    hf.blk h.tbox fun he => h.tfr _ (.inl rfl) (hM _ he), hf.own h.trow fun i hi he => h.tfr i (.inr hi) (hM i he), h.tne, fun i ht hm => ?_, by have := h.two; simp; omega, h.sz, fun b hb' => ?_⟩, mu⟩
  · rcases he with rfl | rfl
    · exact (h.fresh _ (.inr rfl)).2.2.1 hi
    · exact h.gp hi
  · rcases he with rfl | rfl
    · exact (h.fresh _ (.inr rfl)).2.2.2 hi
    · exact h.gs hi
  · rcases List.mem_append.1 hb' with hb' | hb'
    · exact h.np b hb' x hx he
    · obtain rfl := List.mem_singleton.1 hb'
      have := hn x hx; have := pb x he; omega
  · rcases List.mem_append.1 hb' with hb' | hb'
    · exact h.ns b hb' x hx he
    · obtain rfl := List.mem_singleton.1 hb'
      have := hn x hx; have := sb x he; omega
  · rcases hg with rfl | hg
    · exact h.gp he
    · have := pb g' he; omega
  · rcases hg with rfl | hg
    · exact h.gs he
    · have := sb g' he; omega
  · have hne := (h.fresh y hy).1
    have hyl : y < w.heap.size := by
      rcases hy with e | e
      · rw [show y = p.rb from e]; exact hrl
      · rw [show y = p.hb from e]; exact hhl2
    show y ≠ g'
    omega
  · rcases List.mem_append.1 hb' with hb' | hb'
    · exact (h.fresh y hy).2.1 b hb' he
    · obtain rfl := List.mem_singleton.1 hb'
      have := hn y he
      rcases hy with e | e
      · have : y = p.rb := e
        omega
      · have : y = p.hb := e
        omega
  · rcases mu i hm with hm | hm
    · exact h.tfr i ht hm
    · have := h.hi i (.inr ht); omega
  · rcases List.mem_append.1 hb' with hb' | hb'
    · exact h.bytes b hb'
    · obtain rfl := List.mem_singleton.1 hb'
      exact hok
theorem okB_zeros (n : Nat) : okB (List.replicate n 0) := fun b hb => by
  rw [(List.mem_replicate.1 hb).2]; omega
def lifeF (sb : Int) : Int := IntKind.i64.wrap (BitVec.ofInt IntKind.i64.bits sb &&& BitVec.ofInt IntKind.i64.bits 3).toNat
def sMake (s : PS) (who sa sb n : Int) : Res := if n < 0 ∨ n > 64 then (0, 28425, s.ev [⟨3, sa, sb, n⟩]) else if lifeF sb > 2 ∨ 8 + n > s.size - usedP s.ar then (0, 28421, s.ev [⟨3, sa, sb, n⟩]) else (IntKind.i32.wrap ((s.ar.length + 1 : Nat) : Int), 36864, { s.ev [⟨3, sa, sb, n⟩] with ar := s.ar ++ [⟨who, sa, lifeF sb, decide (sb ≥ 4), List.replicate n.toNat 0⟩] })
set_option maxHeartbeats 1600000 in
theorem make3_ok {p : RP} {w : World} {av : Value} (h : RoomT p w) (hl : p.tr.length ≤ 100000) {who sb n : Int} (hsb : 0 ≤ sb ∧ sb < 7) (hav : SliceIs w av 1 1 [i64 n]) :
    callD Tryd.prog 36 #[svcT p who 3 sb av] w fun q w' => SvR p w (sMake p.ps who 3 sb n) q w' := by
  apply F36_wp
  unfold F36_den
  refine bxK fun w1 hb1 x1 => ?_
  refine ldB hb1.boxed (by first | exact fa_105_0 | exact fa_105_1 | exact fa_105_2 | exact fa_105_3 | exact fa_105_4 | exact fa_116_0 | exact fa_116_1 | exact fa_120_0 | exact fa_120_1 | exact fa_42_0 | exact fa_42_1 | exact fa_42_2 | exact fa_42_3 | exact fa_42_4 | exact fa_42_5 | exact fa_42_6 | exact fa_57_0 | exact fa_63_0 | exact fa_63_2 | exact fa_63_3 | exact fa_63_4 | exact fa_80_0 | exact fa_80_2 | exact fa_80_3 | exact fa_80_4 | exact fa_91_0 | exact fa_95_0 | exact fa_95_1 | exact fa_95_2 | exact fa_95_3 | exact fa_95_4 | exact fa_95_5) (by first | exact l1_114 | exact l1_21 | exact l1_23 | exact l1_3 | exact l1_32 | exact l1_39 | exact l1_4 | exact l1_40 | exact l1_5 | exact l1_50 | exact l1_55 | exact l1_59 | exact l1_61 | exact l1_76) rfl ?_
  refine ldx xa_32 l1_3 (hav.ext x1) (by omega) (by omega) rfl ?_
  refine ldA hb1.boxed la_95 rfl ?_
  refine ldB hb1.boxed (by first | exact fa_105_0 | exact fa_105_1 | exact fa_105_2 | exact fa_105_3 | exact fa_105_4 | exact fa_116_0 | exact fa_116_1 | exact fa_120_0 | exact fa_120_1 | exact fa_42_0 | exact fa_42_1 | exact fa_42_2 | exact fa_42_3 | exact fa_42_4 | exact fa_42_5 | exact fa_42_6 | exact fa_57_0 | exact fa_63_0 | exact fa_63_2 | exact fa_63_3 | exact fa_63_4 | exact fa_80_0 | exact fa_80_2 | exact fa_80_3 | exact fa_80_4 | exact fa_91_0 | exact fa_95_0 | exact fa_95_1 | exact fa_95_2 | exact fa_95_3 | exact fa_95_4 | exact fa_95_5) (by first | exact l1_114 | exact l1_21 | exact l1_23 | exact l1_3 | exact l1_32 | exact l1_39 | exact l1_4 | exact l1_40 | exact l1_5 | exact l1_50 | exact l1_55 | exact l1_59 | exact l1_61 | exact l1_76) rfl ?_
  refine ldB hb1.boxed (by first | exact fa_105_0 | exact fa_105_1 | exact fa_105_2 | exact fa_105_3 | exact fa_105_4 | exact fa_116_0 | exact fa_116_1 | exact fa_120_0 | exact fa_120_1 | exact fa_42_0 | exact fa_42_1 | exact fa_42_2 | exact fa_42_3 | exact fa_42_4 | exact fa_42_5 | exact fa_42_6 | exact fa_57_0 | exact fa_63_0 | exact fa_63_2 | exact fa_63_3 | exact fa_63_4 | exact fa_80_0 | exact fa_80_2 | exact fa_80_3 | exact fa_80_4 | exact fa_91_0 | exact fa_95_0 | exact fa_95_1 | exact fa_95_2 | exact fa_95_3 | exact fa_95_4 | exact fa_95_5) (by first | exact l1_114 | exact l1_21 | exact l1_23 | exact l1_3 | exact l1_32 | exact l1_39 | exact l1_4 | exact l1_40 | exact l1_5 | exact l1_50 | exact l1_55 | exact l1_59 | exact l1_61 | exact l1_76) rfl ?_
  refine (showsT_ok (h.ext x1) hl (who := who) (a := 3) (b := sb) (av := av)).mono fun _ w2 ⟨tv', h2, s2, f2, _⟩ => ?_
  have hb2 := f2.blk hb1 h.nT
  have S2 := (Stp.of_ext (p := p) x1).trans s2
  refine V_lss.2 ?_
  by_cases hn0 : n < 0
  · simp only [hn0, gd_tf, pickD_iff, ifD_true, reduceIte, decide_true]
    refine svEnd h2 S2 (Ext.refl _) (x := sMake p.ps who 3 sb n) ?_ ?_ <;> unfold sMake <;> rw [if_pos (.inl hn0)]
    · rfl
  simp only [hn0, V_gtr, gd_f, pickD_iff, reduceIte, Bool.false_eq_true, decide_false]
  by_cases hn1 : n > 64
  · simp only [hn1, ifD_true, decide_true]
    refine svEnd h2 S2 (Ext.refl _) (x := sMake p.ps who 3 sb n) ?_ ?_ <;> unfold sMake <;> rw [if_pos (.inr hn1)]
    · rfl
  simp only [hn1, ifD_false, decide_false]
  have hnn : ¬ (n < 0 ∨ n > 64) := by omega
  obtain ⟨n, rfl⟩ : ∃ m : Nat, n = m := ⟨n.toNat, by omega⟩
  have D2 : Ext w2 w2.drew := (Ext.refl _).drew
  have hlt := h.lt
  have hc := h.h.cap
  have hhl := h.h.heap.lt
  have hS : ∀ w', Fr (fun i => i = p.hb ∨ i = p.g) w2 w' → Blk w' w.heap.size (svcT p who 3 sb av).cells.toList 95 := fun w' hw => hw.blk hb2 (by omega)
  have hR : ∀ w', Fr (fun i => i = p.hb ∨ i = p.g) w2 w' → Seg w' p.rb 0 [.pointer (some ⟨p.hb, 0, none⟩), p.iv, p.fv, p.pub, p.sec] := fun w' hw => hw.seg h2.room (fun he => he.elim hlt (h.fresh p.rb (.inl rfl)).1)
  refine drawD.mk' (fun w' => Fr (fun i => i = p.hb ∨ i = p.g) w2 w') (Fr.of_ext D2) ?_
  refine yfB (fun w' hw => (hS w' hw).boxed) (by first | exact fa_105_0 | exact fa_105_1 | exact fa_105_2 | exact fa_105_3 | exact fa_105_4 | exact fa_116_0 | exact fa_116_1 | exact fa_120_0 | exact fa_120_1 | exact fa_42_0 | exact fa_42_1 | exact fa_42_2 | exact fa_42_3 | exact fa_42_4 | exact fa_42_5 | exact fa_42_6 | exact fa_57_0 | exact fa_63_0 | exact fa_63_2 | exact fa_63_3 | exact fa_63_4 | exact fa_80_0 | exact fa_80_2 | exact fa_80_3 | exact fa_80_4 | exact fa_91_0 | exact fa_95_0 | exact fa_95_1 | exact fa_95_2 | exact fa_95_3 | exact fa_95_4 | exact fa_95_5) (by first | exact l1_114 | exact l1_21 | exact l1_23 | exact l1_3 | exact l1_32 | exact l1_39 | exact l1_4 | exact l1_40 | exact l1_5 | exact l1_50 | exact l1_55 | exact l1_59 | exact l1_61 | exact l1_76) rfl ⟨.inl ⟨_, rfl⟩, ?_⟩
  refine yfB (fun w' hw => (hR w' hw).boxed) (by first | exact fa_105_0 | exact fa_105_1 | exact fa_105_2 | exact fa_105_3 | exact fa_105_4 | exact fa_116_0 | exact fa_116_1 | exact fa_120_0 | exact fa_120_1 | exact fa_42_0 | exact fa_42_1 | exact fa_42_2 | exact fa_42_3 | exact fa_42_4 | exact fa_42_5 | exact fa_42_6 | exact fa_57_0 | exact fa_63_0 | exact fa_63_2 | exact fa_63_3 | exact fa_63_4 | exact fa_80_0 | exact fa_80_2 | exact fa_80_3 | exact fa_80_4 | exact fa_91_0 | exact fa_95_0 | exact fa_95_1 | exact fa_95_2 | exact fa_95_3 | exact fa_95_4 | exact fa_95_5) (by first | exact l1_114 | exact l1_21 | exact l1_23 | exact l1_3 | exact l1_32 | exact l1_39 | exact l1_4 | exact l1_40 | exact l1_5 | exact l1_50 | exact l1_55 | exact l1_59 | exact l1_61 | exact l1_76) rfl ?_
  refine yfB (fun w' hw => (hS w' hw).boxed) (by first | exact fa_105_0 | exact fa_105_1 | exact fa_105_2 | exact fa_105_3 | exact fa_105_4 | exact fa_116_0 | exact fa_116_1 | exact fa_120_0 | exact fa_120_1 | exact fa_42_0 | exact fa_42_1 | exact fa_42_2 | exact fa_42_3 | exact fa_42_4 | exact fa_42_5 | exact fa_42_6 | exact fa_57_0 | exact fa_63_0 | exact fa_63_2 | exact fa_63_3 | exact fa_63_4 | exact fa_80_0 | exact fa_80_2 | exact fa_80_3 | exact fa_80_4 | exact fa_91_0 | exact fa_95_0 | exact fa_95_1 | exact fa_95_2 | exact fa_95_3 | exact fa_95_4 | exact fa_95_5) (by first | exact l1_114 | exact l1_21 | exact l1_23 | exact l1_3 | exact l1_32 | exact l1_39 | exact l1_4 | exact l1_40 | exact l1_5 | exact l1_50 | exact l1_55 | exact l1_59 | exact l1_61 | exact l1_76) rfl ?_
  refine yfB (fun w' hw => (hS w' hw).boxed) (by first | exact fa_105_0 | exact fa_105_1 | exact fa_105_2 | exact fa_105_3 | exact fa_105_4 | exact fa_116_0 | exact fa_116_1 | exact fa_120_0 | exact fa_120_1 | exact fa_42_0 | exact fa_42_1 | exact fa_42_2 | exact fa_42_3 | exact fa_42_4 | exact fa_42_5 | exact fa_42_6 | exact fa_57_0 | exact fa_63_0 | exact fa_63_2 | exact fa_63_3 | exact fa_63_4 | exact fa_80_0 | exact fa_80_2 | exact fa_80_3 | exact fa_80_4 | exact fa_91_0 | exact fa_95_0 | exact fa_95_1 | exact fa_95_2 | exact fa_95_3 | exact fa_95_4 | exact fa_95_5) (by first | exact l1_114 | exact l1_21 | exact l1_23 | exact l1_3 | exact l1_32 | exact l1_39 | exact l1_4 | exact l1_40 | exact l1_5 | exact l1_50 | exact l1_55 | exact l1_59 | exact l1_61 | exact l1_76) rfl ?_
  refine yfB (fun w' hw => (hS w' hw).boxed) (by first | exact fa_105_0 | exact fa_105_1 | exact fa_105_2 | exact fa_105_3 | exact fa_105_4 | exact fa_116_0 | exact fa_116_1 | exact fa_120_0 | exact fa_120_1 | exact fa_42_0 | exact fa_42_1 | exact fa_42_2 | exact fa_42_3 | exact fa_42_4 | exact fa_42_5 | exact fa_42_6 | exact fa_57_0 | exact fa_63_0 | exact fa_63_2 | exact fa_63_3 | exact fa_63_4 | exact fa_80_0 | exact fa_80_2 | exact fa_80_3 | exact fa_80_4 | exact fa_91_0 | exact fa_95_0 | exact fa_95_1 | exact fa_95_2 | exact fa_95_3 | exact fa_95_4 | exact fa_95_5) (by first | exact l1_114 | exact l1_21 | exact l1_23 | exact l1_3 | exact l1_32 | exact l1_39 | exact l1_4 | exact l1_40 | exact l1_5 | exact l1_50 | exact l1_55 | exact l1_59 | exact l1_61 | exact l1_76) rfl ?_
  refine yieldS.ok (fun w' _ => r_and) ?_
  refine yfB (fun w' hw => (hS w' hw).boxed) (by first | exact fa_105_0 | exact fa_105_1 | exact fa_105_2 | exact fa_105_3 | exact fa_105_4 | exact fa_116_0 | exact fa_116_1 | exact fa_120_0 | exact fa_120_1 | exact fa_42_0 | exact fa_42_1 | exact fa_42_2 | exact fa_42_3 | exact fa_42_4 | exact fa_42_5 | exact fa_42_6 | exact fa_57_0 | exact fa_63_0 | exact fa_63_2 | exact fa_63_3 | exact fa_63_4 | exact fa_80_0 | exact fa_80_2 | exact fa_80_3 | exact fa_80_4 | exact fa_91_0 | exact fa_95_0 | exact fa_95_1 | exact fa_95_2 | exact fa_95_3 | exact fa_95_4 | exact fa_95_5) (by first | exact l1_114 | exact l1_21 | exact l1_23 | exact l1_3 | exact l1_32 | exact l1_39 | exact l1_4 | exact l1_40 | exact l1_5 | exact l1_50 | exact l1_55 | exact l1_59 | exact l1_61 | exact l1_76) rfl ?_
  refine yieldS.ok (fun w' _ => r_geq) ?_
  have h3 := h2.ext D2
  have hlife : 0 ≤ lifeF sb ∧ lifeF sb ≤ 3 := by
    have h7 : sb = 0 ∨ sb = 1 ∨ sb = 2 ∨ sb = 3 ∨ sb = 4 ∨ sb = 5 ∨ sb = 6 := by omega
    rcases h7 with rfl | rfl | rfl | rfl | rfl | rfl | rfl <;> decide
  refine (alloc3_ok h3.h h3.two h3.sz hlife (n := n) (by omega)).mono fun q w4 hq => ?_
  rcases hq with ⟨hfull, rfl, x4⟩ | ⟨hroom, g', cap', dv, rfl, hh, hdv, hg, hf⟩
  · refine ⟨Fr.of_ext (D2.trans x4), ?_⟩
    refine yieldS.ok (fun w' _ => r_ext0) ?_
    refine yieldS.ok (fun w' _ => r_ext1) ?_
    refine V_not.2 (ifD_true.2 ?_)
    refine svEnd h2 S2 (D2.trans x4) (x := sMake p.ps who 3 sb n) ?_ ?_ <;> unfold sMake <;> rw [if_neg hnn, if_pos (show lifeF sb > 2 ∨ 8 + (n : Int) > p.ps.size - usedP p.ps.ar from hfull)]
    · rfl
  · have f24 : Fr (fun i => i = p.hb ∨ i = p.g) w2 w4 := (Fr.of_ext (S := fun i => i = p.hb ∨ i = p.g) D2).trans hf fun _ _ h => h
    refine ⟨f24, ?_⟩
    refine yieldS.ok (fun w' _ => r_ext0) ?_
    refine yieldS.ok (fun w' _ => r_ext1) ?_
    refine V_not.2 (ifD_false.2 ?_)
    refine V.ok (r_convI Tryd.underlying3 Tryd.underlying21) ?_
    obtain ⟨h5, mu5⟩ := h3.push hh (okB_zeros n) hdv hg hf
    have s24 := S2.fr.size
    have d2 := D2.size
    refine ⟨_, ?_, ?_, h5, S2.trans ⟨rfl, rfl, rfl, rfl, rfl, rfl, rfl, fun i hi => ?_, f24.mono fun i hi => .inl (hi.elim (fun h => .inr (.inl h)) fun h => .inr (.inr (.inl h)))⟩⟩
    · unfold sMake; rw [if_neg hnn, if_neg (show ¬ (lifeF sb > 2 ∨ 8 + (n : Int) > p.ps.size - usedP p.ps.ar) from hroom)]
      show _ = Value.tuple #[i32 (IntKind.i32.wrap (((p.ar.map pa).length + 1 : Nat) : Int)), i64 36864]
      rw [List.length_map]
      first | done | rfl
    · unfold sMake; rw [if_neg hnn, if_neg (show ¬ (lifeF sb > 2 ∨ 8 + (n : Int) > p.ps.size - usedP p.ps.ar) from hroom)]
      show (⟨p.size, (p.ar ++ [_]).map pa, p.tp, p.ts, p.tr ++ [_]⟩ : PS) = _
      rw [List.map_append]
      simp only [Int.toNat_natCast]
      rfl
    · rcases hi with hi | hi
      · rcases mu5 i hi with hm | hm
        · exact .inl hm
        · exact .inr (.inr (Nat.le_trans d2 hm))
      · exact .inr (.inl hi)
set_option maxHeartbeats 1600000 in
theorem make4_ok {p : RP} {w : World} {av : Value} (h : RoomT p w) (hl : p.tr.length ≤ 100000) {who sb n : Int} (hsb : 0 ≤ sb ∧ sb < 7) (hav : SliceIs w av 1 1 [i64 n]) :
    callD Tryd.prog 36 #[svcT p who 4 sb av] w fun q w' => SvR p w (sMake p.ps who 4 sb n) q w' := by
  apply F36_wp
  unfold F36_den
  refine bxK fun w1 hb1 x1 => ?_
  refine ldB hb1.boxed (by first | exact fa_105_0 | exact fa_105_1 | exact fa_105_2 | exact fa_105_3 | exact fa_105_4 | exact fa_116_0 | exact fa_116_1 | exact fa_120_0 | exact fa_120_1 | exact fa_42_0 | exact fa_42_1 | exact fa_42_2 | exact fa_42_3 | exact fa_42_4 | exact fa_42_5 | exact fa_42_6 | exact fa_57_0 | exact fa_63_0 | exact fa_63_2 | exact fa_63_3 | exact fa_63_4 | exact fa_80_0 | exact fa_80_2 | exact fa_80_3 | exact fa_80_4 | exact fa_91_0 | exact fa_95_0 | exact fa_95_1 | exact fa_95_2 | exact fa_95_3 | exact fa_95_4 | exact fa_95_5) (by first | exact l1_114 | exact l1_21 | exact l1_23 | exact l1_3 | exact l1_32 | exact l1_39 | exact l1_4 | exact l1_40 | exact l1_5 | exact l1_50 | exact l1_55 | exact l1_59 | exact l1_61 | exact l1_76) rfl ?_
  refine ldx xa_32 l1_3 (hav.ext x1) (by omega) (by omega) rfl ?_
  refine ldA hb1.boxed la_95 rfl ?_
  refine ldB hb1.boxed (by first | exact fa_105_0 | exact fa_105_1 | exact fa_105_2 | exact fa_105_3 | exact fa_105_4 | exact fa_116_0 | exact fa_116_1 | exact fa_120_0 | exact fa_120_1 | exact fa_42_0 | exact fa_42_1 | exact fa_42_2 | exact fa_42_3 | exact fa_42_4 | exact fa_42_5 | exact fa_42_6 | exact fa_57_0 | exact fa_63_0 | exact fa_63_2 | exact fa_63_3 | exact fa_63_4 | exact fa_80_0 | exact fa_80_2 | exact fa_80_3 | exact fa_80_4 | exact fa_91_0 | exact fa_95_0 | exact fa_95_1 | exact fa_95_2 | exact fa_95_3 | exact fa_95_4 | exact fa_95_5) (by first | exact l1_114 | exact l1_21 | exact l1_23 | exact l1_3 | exact l1_32 | exact l1_39 | exact l1_4 | exact l1_40 | exact l1_5 | exact l1_50 | exact l1_55 | exact l1_59 | exact l1_61 | exact l1_76) rfl ?_
  refine ldB hb1.boxed (by first | exact fa_105_0 | exact fa_105_1 | exact fa_105_2 | exact fa_105_3 | exact fa_105_4 | exact fa_116_0 | exact fa_116_1 | exact fa_120_0 | exact fa_120_1 | exact fa_42_0 | exact fa_42_1 | exact fa_42_2 | exact fa_42_3 | exact fa_42_4 | exact fa_42_5 | exact fa_42_6 | exact fa_57_0 | exact fa_63_0 | exact fa_63_2 | exact fa_63_3 | exact fa_63_4 | exact fa_80_0 | exact fa_80_2 | exact fa_80_3 | exact fa_80_4 | exact fa_91_0 | exact fa_95_0 | exact fa_95_1 | exact fa_95_2 | exact fa_95_3 | exact fa_95_4 | exact fa_95_5) (by first | exact l1_114 | exact l1_21 | exact l1_23 | exact l1_3 | exact l1_32 | exact l1_39 | exact l1_4 | exact l1_40 | exact l1_5 | exact l1_50 | exact l1_55 | exact l1_59 | exact l1_61 | exact l1_76) rfl ?_
  refine (showsT_ok (h.ext x1) hl (who := who) (a := 4) (b := sb) (av := av)).mono fun _ w2 ⟨tv', h2, s2, f2, _⟩ => ?_
  have hb2 := f2.blk hb1 h.nT
  have S2 := (Stp.of_ext (p := p) x1).trans s2
  refine V_lss.2 ?_
  by_cases hn0 : n < 0
  · simp only [hn0, gd_tf, pickD_iff, ifD_true, reduceIte, decide_true]
    refine svEnd h2 S2 (Ext.refl _) (x := sMake p.ps who 4 sb n) ?_ ?_ <;> unfold sMake <;> rw [if_pos (.inl hn0)]
    · rfl
  simp only [hn0, V_gtr, gd_f, pickD_iff, reduceIte, Bool.false_eq_true, decide_false]
  by_cases hn1 : n > 64
  · simp only [hn1, ifD_true, decide_true]
    refine svEnd h2 S2 (Ext.refl _) (x := sMake p.ps who 4 sb n) ?_ ?_ <;> unfold sMake <;> rw [if_pos (.inr hn1)]
    · rfl
  simp only [hn1, ifD_false, decide_false]
  have hnn : ¬ (n < 0 ∨ n > 64) := by omega
  obtain ⟨n, rfl⟩ : ∃ m : Nat, n = m := ⟨n.toNat, by omega⟩
  have D2 : Ext w2 w2.drew := (Ext.refl _).drew
  have hlt := h.lt
  have hc := h.h.cap
  have hhl := h.h.heap.lt
  have hS : ∀ w', Fr (fun i => i = p.hb ∨ i = p.g) w2 w' → Blk w' w.heap.size (svcT p who 4 sb av).cells.toList 95 := fun w' hw => hw.blk hb2 (by omega)
  have hR : ∀ w', Fr (fun i => i = p.hb ∨ i = p.g) w2 w' → Seg w' p.rb 0 [.pointer (some ⟨p.hb, 0, none⟩), p.iv, p.fv, p.pub, p.sec] := fun w' hw => hw.seg h2.room (fun he => he.elim hlt (h.fresh p.rb (.inl rfl)).1)
  refine drawD.mk' (fun w' => Fr (fun i => i = p.hb ∨ i = p.g) w2 w') (Fr.of_ext D2) ?_
  refine yfB (fun w' hw => (hS w' hw).boxed) (by first | exact fa_105_0 | exact fa_105_1 | exact fa_105_2 | exact fa_105_3 | exact fa_105_4 | exact fa_116_0 | exact fa_116_1 | exact fa_120_0 | exact fa_120_1 | exact fa_42_0 | exact fa_42_1 | exact fa_42_2 | exact fa_42_3 | exact fa_42_4 | exact fa_42_5 | exact fa_42_6 | exact fa_57_0 | exact fa_63_0 | exact fa_63_2 | exact fa_63_3 | exact fa_63_4 | exact fa_80_0 | exact fa_80_2 | exact fa_80_3 | exact fa_80_4 | exact fa_91_0 | exact fa_95_0 | exact fa_95_1 | exact fa_95_2 | exact fa_95_3 | exact fa_95_4 | exact fa_95_5) (by first | exact l1_114 | exact l1_21 | exact l1_23 | exact l1_3 | exact l1_32 | exact l1_39 | exact l1_4 | exact l1_40 | exact l1_5 | exact l1_50 | exact l1_55 | exact l1_59 | exact l1_61 | exact l1_76) rfl ⟨.inl ⟨_, rfl⟩, ?_⟩
  refine yfB (fun w' hw => (hR w' hw).boxed) (by first | exact fa_105_0 | exact fa_105_1 | exact fa_105_2 | exact fa_105_3 | exact fa_105_4 | exact fa_116_0 | exact fa_116_1 | exact fa_120_0 | exact fa_120_1 | exact fa_42_0 | exact fa_42_1 | exact fa_42_2 | exact fa_42_3 | exact fa_42_4 | exact fa_42_5 | exact fa_42_6 | exact fa_57_0 | exact fa_63_0 | exact fa_63_2 | exact fa_63_3 | exact fa_63_4 | exact fa_80_0 | exact fa_80_2 | exact fa_80_3 | exact fa_80_4 | exact fa_91_0 | exact fa_95_0 | exact fa_95_1 | exact fa_95_2 | exact fa_95_3 | exact fa_95_4 | exact fa_95_5) (by first | exact l1_114 | exact l1_21 | exact l1_23 | exact l1_3 | exact l1_32 | exact l1_39 | exact l1_4 | exact l1_40 | exact l1_5 | exact l1_50 | exact l1_55 | exact l1_59 | exact l1_61 | exact l1_76) rfl ?_
  refine yfB (fun w' hw => (hS w' hw).boxed) (by first | exact fa_105_0 | exact fa_105_1 | exact fa_105_2 | exact fa_105_3 | exact fa_105_4 | exact fa_116_0 | exact fa_116_1 | exact fa_120_0 | exact fa_120_1 | exact fa_42_0 | exact fa_42_1 | exact fa_42_2 | exact fa_42_3 | exact fa_42_4 | exact fa_42_5 | exact fa_42_6 | exact fa_57_0 | exact fa_63_0 | exact fa_63_2 | exact fa_63_3 | exact fa_63_4 | exact fa_80_0 | exact fa_80_2 | exact fa_80_3 | exact fa_80_4 | exact fa_91_0 | exact fa_95_0 | exact fa_95_1 | exact fa_95_2 | exact fa_95_3 | exact fa_95_4 | exact fa_95_5) (by first | exact l1_114 | exact l1_21 | exact l1_23 | exact l1_3 | exact l1_32 | exact l1_39 | exact l1_4 | exact l1_40 | exact l1_5 | exact l1_50 | exact l1_55 | exact l1_59 | exact l1_61 | exact l1_76) rfl ?_
  refine yfB (fun w' hw => (hS w' hw).boxed) (by first | exact fa_105_0 | exact fa_105_1 | exact fa_105_2 | exact fa_105_3 | exact fa_105_4 | exact fa_116_0 | exact fa_116_1 | exact fa_120_0 | exact fa_120_1 | exact fa_42_0 | exact fa_42_1 | exact fa_42_2 | exact fa_42_3 | exact fa_42_4 | exact fa_42_5 | exact fa_42_6 | exact fa_57_0 | exact fa_63_0 | exact fa_63_2 | exact fa_63_3 | exact fa_63_4 | exact fa_80_0 | exact fa_80_2 | exact fa_80_3 | exact fa_80_4 | exact fa_91_0 | exact fa_95_0 | exact fa_95_1 | exact fa_95_2 | exact fa_95_3 | exact fa_95_4 | exact fa_95_5) (by first | exact l1_114 | exact l1_21 | exact l1_23 | exact l1_3 | exact l1_32 | exact l1_39 | exact l1_4 | exact l1_40 | exact l1_5 | exact l1_50 | exact l1_55 | exact l1_59 | exact l1_61 | exact l1_76) rfl ?_
  refine yfB (fun w' hw => (hS w' hw).boxed) (by first | exact fa_105_0 | exact fa_105_1 | exact fa_105_2 | exact fa_105_3 | exact fa_105_4 | exact fa_116_0 | exact fa_116_1 | exact fa_120_0 | exact fa_120_1 | exact fa_42_0 | exact fa_42_1 | exact fa_42_2 | exact fa_42_3 | exact fa_42_4 | exact fa_42_5 | exact fa_42_6 | exact fa_57_0 | exact fa_63_0 | exact fa_63_2 | exact fa_63_3 | exact fa_63_4 | exact fa_80_0 | exact fa_80_2 | exact fa_80_3 | exact fa_80_4 | exact fa_91_0 | exact fa_95_0 | exact fa_95_1 | exact fa_95_2 | exact fa_95_3 | exact fa_95_4 | exact fa_95_5) (by first | exact l1_114 | exact l1_21 | exact l1_23 | exact l1_3 | exact l1_32 | exact l1_39 | exact l1_4 | exact l1_40 | exact l1_5 | exact l1_50 | exact l1_55 | exact l1_59 | exact l1_61 | exact l1_76) rfl ?_
  refine yieldS.ok (fun w' _ => r_and) ?_
  refine yfB (fun w' hw => (hS w' hw).boxed) (by first | exact fa_105_0 | exact fa_105_1 | exact fa_105_2 | exact fa_105_3 | exact fa_105_4 | exact fa_116_0 | exact fa_116_1 | exact fa_120_0 | exact fa_120_1 | exact fa_42_0 | exact fa_42_1 | exact fa_42_2 | exact fa_42_3 | exact fa_42_4 | exact fa_42_5 | exact fa_42_6 | exact fa_57_0 | exact fa_63_0 | exact fa_63_2 | exact fa_63_3 | exact fa_63_4 | exact fa_80_0 | exact fa_80_2 | exact fa_80_3 | exact fa_80_4 | exact fa_91_0 | exact fa_95_0 | exact fa_95_1 | exact fa_95_2 | exact fa_95_3 | exact fa_95_4 | exact fa_95_5) (by first | exact l1_114 | exact l1_21 | exact l1_23 | exact l1_3 | exact l1_32 | exact l1_39 | exact l1_4 | exact l1_40 | exact l1_5 | exact l1_50 | exact l1_55 | exact l1_59 | exact l1_61 | exact l1_76) rfl ?_
  refine yieldS.ok (fun w' _ => r_geq) ?_
  have h3 := h2.ext D2
  have hlife : 0 ≤ lifeF sb ∧ lifeF sb ≤ 3 := by
    have h7 : sb = 0 ∨ sb = 1 ∨ sb = 2 ∨ sb = 3 ∨ sb = 4 ∨ sb = 5 ∨ sb = 6 := by omega
    rcases h7 with rfl | rfl | rfl | rfl | rfl | rfl | rfl <;> decide
  refine (alloc4_ok h3.h h3.two h3.sz hlife (n := n) (by omega)).mono fun q w4 hq => ?_
  rcases hq with ⟨hfull, rfl, x4⟩ | ⟨hroom, g', cap', dv, rfl, hh, hdv, hg, hf⟩
  · refine ⟨Fr.of_ext (D2.trans x4), ?_⟩
    refine yieldS.ok (fun w' _ => r_ext0) ?_
    refine yieldS.ok (fun w' _ => r_ext1) ?_
    refine V_not.2 (ifD_true.2 ?_)
    refine svEnd h2 S2 (D2.trans x4) (x := sMake p.ps who 4 sb n) ?_ ?_ <;> unfold sMake <;> rw [if_neg hnn, if_pos (show lifeF sb > 2 ∨ 8 + (n : Int) > p.ps.size - usedP p.ps.ar from hfull)]
    · rfl
  · have f24 : Fr (fun i => i = p.hb ∨ i = p.g) w2 w4 := (Fr.of_ext (S := fun i => i = p.hb ∨ i = p.g) D2).trans hf fun _ _ h => h
    refine ⟨f24, ?_⟩
    refine yieldS.ok (fun w' _ => r_ext0) ?_
    refine yieldS.ok (fun w' _ => r_ext1) ?_
    refine V_not.2 (ifD_false.2 ?_)
    refine V.ok (r_convI Tryd.underlying3 Tryd.underlying21) ?_
    obtain ⟨h5, mu5⟩ := h3.push hh (okB_zeros n) hdv hg hf
    have s24 := S2.fr.size
    have d2 := D2.size
    refine ⟨_, ?_, ?_, h5, S2.trans ⟨rfl, rfl, rfl, rfl, rfl, rfl, rfl, fun i hi => ?_, f24.mono fun i hi => .inl (hi.elim (fun h => .inr (.inl h)) fun h => .inr (.inr (.inl h)))⟩⟩
    · unfold sMake; rw [if_neg hnn, if_neg (show ¬ (lifeF sb > 2 ∨ 8 + (n : Int) > p.ps.size - usedP p.ps.ar) from hroom)]
      show _ = Value.tuple #[i32 (IntKind.i32.wrap (((p.ar.map pa).length + 1 : Nat) : Int)), i64 36864]
      rw [List.length_map]
      first | done | rfl
    · unfold sMake; rw [if_neg hnn, if_neg (show ¬ (lifeF sb > 2 ∨ 8 + (n : Int) > p.ps.size - usedP p.ps.ar) from hroom)]
      show (⟨p.size, (p.ar ++ [_]).map pa, p.tp, p.ts, p.tr ++ [_]⟩ : PS) = _
      rw [List.map_append]
      simp only [Int.toNat_natCast]
      rfl
    · rcases hi with hi | hi
      · rcases mu5 i hi with hm | hm
        · exact .inl hm
        · exact .inr (.inr (Nat.le_trans d2 hm))
      · exact .inr (.inl hi)
end Go.Proofs.YtgjmpnngheohbaaDoor
namespace Go.Proofs.YtgjmpnngheohbaaDoor
open Go.Vc
theorem sv17_ok {w : World} : callD Tryd.prog 32 #[i64 17] w fun r w' => r = i64 (2) ∧ w' = w := by
  apply F32_wp
  unfold F32_den
  refine ⟨fun v w' => v = .bool false ∧ w' = w, ?_, ?_⟩
  · simp only [V_eqlI, Int.reduceEq, decide_false, ifD_false]
    exact ⟨trivial, trivial⟩
  rintro _ w' ⟨rfl, hw⟩ _
  have hw := hw.symm; subst hw
  refine ifD_false.2 ?_
  refine ⟨fun v w' => v = .bool true ∧ w' = w, ?_, ?_⟩
  · simp only [V_eqlI, Int.reduceEq, decide_false, decide_true, ifD_false, ifD_true]
    exact ⟨trivial, trivial⟩
  rintro _ w' ⟨rfl, hw⟩ _
  have hw := hw.symm; subst hw
  refine ifD_true.2 ?_
  exact ⟨rfl, rfl⟩
theorem sv18_ok {w : World} : callD Tryd.prog 32 #[i64 18] w fun r w' => r = i64 (2) ∧ w' = w := by
  apply F32_wp
  unfold F32_den
  refine ⟨fun v w' => v = .bool false ∧ w' = w, ?_, ?_⟩
  · simp only [V_eqlI, Int.reduceEq, decide_false, ifD_false]
    exact ⟨trivial, trivial⟩
  rintro _ w' ⟨rfl, hw⟩ _
  have hw := hw.symm; subst hw
  refine ifD_false.2 ?_
  refine ⟨fun v w' => v = .bool true ∧ w' = w, ?_, ?_⟩
  · simp only [V_eqlI, Int.reduceEq, decide_false, decide_true, ifD_false, ifD_true]
    exact ⟨trivial, trivial⟩
  rintro _ w' ⟨rfl, hw⟩ _
  have hw := hw.symm; subst hw
  refine ifD_true.2 ?_
  exact ⟨rfl, rfl⟩
theorem sv27_ok {w : World} : callD Tryd.prog 32 #[i64 27] w fun r w' => r = i64 (1) ∧ w' = w := by
  apply F32_wp
  unfold F32_den
  refine ⟨fun v w' => v = .bool true ∧ w' = w, ?_, ?_⟩
  · simp only [V_eqlI, Int.reduceEq, decide_false, decide_true, ifD_true]
    exact ⟨trivial, trivial⟩
  rintro _ w' ⟨rfl, hw⟩ _
  have hw := hw.symm; subst hw
  refine ifD_true.2 ?_
  exact ⟨rfl, rfl⟩
theorem sv28_ok {w : World} : callD Tryd.prog 32 #[i64 28] w fun r w' => r = i64 (1) ∧ w' = w := by
  apply F32_wp
  unfold F32_den
  refine ⟨fun v w' => v = .bool true ∧ w' = w, ?_, ?_⟩
  · simp only [V_eqlI, Int.reduceEq, decide_false, decide_true, ifD_false]
    exact ⟨trivial, trivial⟩
  rintro _ w' ⟨rfl, hw⟩ _
  have hw := hw.symm; subst hw
  refine ifD_true.2 ?_
  exact ⟨rfl, rfl⟩
theorem sv29_ok {w : World} : callD Tryd.prog 32 #[i64 29] w fun r w' => r = i64 (2) ∧ w' = w := by
  apply F32_wp
  unfold F32_den
  refine ⟨fun v w' => v = .bool false ∧ w' = w, ?_, ?_⟩
  · simp only [V_eqlI, Int.reduceEq, decide_false, ifD_false]
    exact ⟨trivial, trivial⟩
  rintro _ w' ⟨rfl, hw⟩ _
  have hw := hw.symm; subst hw
  refine ifD_false.2 ?_
  refine ⟨fun v w' => v = .bool true ∧ w' = w, ?_, ?_⟩
  · simp only [V_eqlI, Int.reduceEq, decide_false, decide_true, ifD_false]
    exact ⟨trivial, trivial⟩
  rintro _ w' ⟨rfl, hw⟩ _
  have hw := hw.symm; subst hw
  refine ifD_true.2 ?_
  exact ⟨rfl, rfl⟩
theorem sv30_ok {w : World} : callD Tryd.prog 32 #[i64 30] w fun r w' => r = i64 (3) ∧ w' = w := by
  apply F32_wp
  unfold F32_den
  refine ⟨fun v w' => v = .bool false ∧ w' = w, ?_, ?_⟩
  · simp only [V_eqlI, Int.reduceEq, decide_false, ifD_false]
    exact ⟨trivial, trivial⟩
  rintro _ w' ⟨rfl, hw⟩ _
  have hw := hw.symm; subst hw
  refine ifD_false.2 ?_
  refine ⟨fun v w' => v = .bool false ∧ w' = w, ?_, ?_⟩
  · simp only [V_eqlI, Int.reduceEq, decide_false, ifD_false]
    exact ⟨trivial, trivial⟩
  rintro _ w' ⟨rfl, hw⟩ _
  have hw := hw.symm; subst hw
  refine ifD_false.2 ?_
  refine ⟨fun v w' => v = .bool true ∧ w' = w, ?_, ?_⟩
  · simp only [V_eqlI, Int.reduceEq, decide_false, decide_true, ifD_true]
    exact ⟨trivial, trivial⟩
  rintro _ w' ⟨rfl, hw⟩ _
  have hw := hw.symm; subst hw
  refine ifD_true.2 ?_
  exact ⟨rfl, rfl⟩
theorem sv31_ok {w : World} : callD Tryd.prog 32 #[i64 31] w fun r w' => r = i64 (5) ∧ w' = w := by
  apply F32_wp
  unfold F32_den
  refine ⟨fun v w' => v = .bool false ∧ w' = w, ?_, ?_⟩
  · simp only [V_eqlI, Int.reduceEq, decide_false, ifD_false]
    exact ⟨trivial, trivial⟩
  rintro _ w' ⟨rfl, hw⟩ _
  have hw := hw.symm; subst hw
  refine ifD_false.2 ?_
  refine ⟨fun v w' => v = .bool false ∧ w' = w, ?_, ?_⟩
  · simp only [V_eqlI, Int.reduceEq, decide_false, ifD_false]
    exact ⟨trivial, trivial⟩
  rintro _ w' ⟨rfl, hw⟩ _
  have hw := hw.symm; subst hw
  refine ifD_false.2 ?_
  refine ⟨fun v w' => v = .bool false ∧ w' = w, ?_, ?_⟩
  · simp only [V_eqlI, Int.reduceEq, decide_false, ifD_false]
    exact ⟨trivial, trivial⟩
  rintro _ w' ⟨rfl, hw⟩ _
  have hw := hw.symm; subst hw
  refine ifD_false.2 ?_
  simp only [V_eqlI, Int.reduceEq, decide_false, decide_true, ifD_false, ifD_true]
  exact ⟨trivial, trivial⟩
theorem sv32_ok {w : World} : callD Tryd.prog 32 #[i64 32] w fun r w' => r = i64 (5) ∧ w' = w := by
  apply F32_wp
  unfold F32_den
  refine ⟨fun v w' => v = .bool false ∧ w' = w, ?_, ?_⟩
  · simp only [V_eqlI, Int.reduceEq, decide_false, ifD_false]
    exact ⟨trivial, trivial⟩
  rintro _ w' ⟨rfl, hw⟩ _
  have hw := hw.symm; subst hw
  refine ifD_false.2 ?_
  refine ⟨fun v w' => v = .bool false ∧ w' = w, ?_, ?_⟩
  · simp only [V_eqlI, Int.reduceEq, decide_false, ifD_false]
    exact ⟨trivial, trivial⟩
  rintro _ w' ⟨rfl, hw⟩ _
  have hw := hw.symm; subst hw
  refine ifD_false.2 ?_
  refine ⟨fun v w' => v = .bool false ∧ w' = w, ?_, ?_⟩
  · simp only [V_eqlI, Int.reduceEq, decide_false, ifD_false]
    exact ⟨trivial, trivial⟩
  rintro _ w' ⟨rfl, hw⟩ _
  have hw := hw.symm; subst hw
  refine ifD_false.2 ?_
  simp only [V_eqlI, Int.reduceEq, decide_false, decide_true, ifD_false, ifD_true]
  exact ⟨trivial, trivial⟩
theorem sv36_ok {w : World} : callD Tryd.prog 32 #[i64 36] w fun r w' => r = i64 (3) ∧ w' = w := by
  apply F32_wp
  unfold F32_den
  refine ⟨fun v w' => v = .bool false ∧ w' = w, ?_, ?_⟩
  · simp only [V_eqlI, Int.reduceEq, decide_false, ifD_false]
    exact ⟨trivial, trivial⟩
  rintro _ w' ⟨rfl, hw⟩ _
  have hw := hw.symm; subst hw
  refine ifD_false.2 ?_
  refine ⟨fun v w' => v = .bool false ∧ w' = w, ?_, ?_⟩
  · simp only [V_eqlI, Int.reduceEq, decide_false, ifD_false]
    exact ⟨trivial, trivial⟩
  rintro _ w' ⟨rfl, hw⟩ _
  have hw := hw.symm; subst hw
  refine ifD_false.2 ?_
  refine ⟨fun v w' => v = .bool true ∧ w' = w, ?_, ?_⟩
  · simp only [V_eqlI, Int.reduceEq, decide_false, decide_true, ifD_false]
    exact ⟨trivial, trivial⟩
  rintro _ w' ⟨rfl, hw⟩ _
  have hw := hw.symm; subst hw
  refine ifD_true.2 ?_
  exact ⟨rfl, rfl⟩
theorem sv6_ok {w : World} : callD Tryd.prog 32 #[i64 6] w fun r w' => r = i64 (-1) ∧ w' = w := by
  apply F32_wp
  unfold F32_den
  refine ⟨fun v w' => v = .bool false ∧ w' = w, ?_, ?_⟩
  · simp only [V_eqlI, Int.reduceEq, decide_false, ifD_false]
    exact ⟨trivial, trivial⟩
  rintro _ w' ⟨rfl, hw⟩ _
  have hw := hw.symm; subst hw
  refine ifD_false.2 ?_
  refine ⟨fun v w' => v = .bool false ∧ w' = w, ?_, ?_⟩
  · simp only [V_eqlI, Int.reduceEq, decide_false, ifD_false]
    exact ⟨trivial, trivial⟩
  rintro _ w' ⟨rfl, hw⟩ _
  have hw := hw.symm; subst hw
  refine ifD_false.2 ?_
  refine ⟨fun v w' => v = .bool false ∧ w' = w, ?_, ?_⟩
  · simp only [V_eqlI, Int.reduceEq, decide_false, ifD_false]
    exact ⟨trivial, trivial⟩
  rintro _ w' ⟨rfl, hw⟩ _
  have hw := hw.symm; subst hw
  refine ifD_false.2 ?_
  simp only [V_eqlI, Int.reduceEq, decide_false, ifD_false]
  exact ⟨trivial, trivial⟩
theorem rv17_ok {w : World} : callD Tryd.prog 20 #[i64 17] w fun r w' => r = i64 (2) ∧ w' = w := by
  apply F20_wp
  unfold F20_den
  refine ⟨fun v w' => v = .bool false ∧ w' = w, ?_, ?_⟩
  · simp only [V_eqlI, Int.reduceEq, decide_false, ifD_false]
    exact ⟨trivial, trivial⟩
  rintro _ w' ⟨rfl, hw⟩ _
  have hw := hw.symm; subst hw
  refine ifD_false.2 ?_
  refine ⟨fun v w' => v = .bool true ∧ w' = w, ?_, ?_⟩
  · simp only [V_eqlI, Int.reduceEq, decide_false, decide_true, ifD_false, ifD_true]
    exact ⟨trivial, trivial⟩
  rintro _ w' ⟨rfl, hw⟩ _
  have hw := hw.symm; subst hw
  refine ifD_true.2 ?_
  exact ⟨rfl, rfl⟩
theorem rv18_ok {w : World} : callD Tryd.prog 20 #[i64 18] w fun r w' => r = i64 (2) ∧ w' = w := by
  apply F20_wp
  unfold F20_den
  refine ⟨fun v w' => v = .bool false ∧ w' = w, ?_, ?_⟩
  · simp only [V_eqlI, Int.reduceEq, decide_false, ifD_false]
    exact ⟨trivial, trivial⟩
  rintro _ w' ⟨rfl, hw⟩ _
  have hw := hw.symm; subst hw
  refine ifD_false.2 ?_
  refine ⟨fun v w' => v = .bool true ∧ w' = w, ?_, ?_⟩
  · simp only [V_eqlI, Int.reduceEq, decide_false, decide_true, ifD_false, ifD_true]
    exact ⟨trivial, trivial⟩
  rintro _ w' ⟨rfl, hw⟩ _
  have hw := hw.symm; subst hw
  refine ifD_true.2 ?_
  exact ⟨rfl, rfl⟩
theorem rv27_ok {w : World} : callD Tryd.prog 20 #[i64 27] w fun r w' => r = i64 (1) ∧ w' = w := by
  apply F20_wp
  unfold F20_den
  refine ⟨fun v w' => v = .bool true ∧ w' = w, ?_, ?_⟩
  · simp only [V_eqlI, Int.reduceEq, decide_false, decide_true, ifD_true]
    exact ⟨trivial, trivial⟩
  rintro _ w' ⟨rfl, hw⟩ _
  have hw := hw.symm; subst hw
  refine ifD_true.2 ?_
  exact ⟨rfl, rfl⟩
theorem rv28_ok {w : World} : callD Tryd.prog 20 #[i64 28] w fun r w' => r = i64 (1) ∧ w' = w := by
  apply F20_wp
  unfold F20_den
  refine ⟨fun v w' => v = .bool true ∧ w' = w, ?_, ?_⟩
  · simp only [V_eqlI, Int.reduceEq, decide_false, decide_true, ifD_false]
    exact ⟨trivial, trivial⟩
  rintro _ w' ⟨rfl, hw⟩ _
  have hw := hw.symm; subst hw
  refine ifD_true.2 ?_
  exact ⟨rfl, rfl⟩
theorem rv29_ok {w : World} : callD Tryd.prog 20 #[i64 29] w fun r w' => r = i64 (2) ∧ w' = w := by
  apply F20_wp
  unfold F20_den
  refine ⟨fun v w' => v = .bool false ∧ w' = w, ?_, ?_⟩
  · simp only [V_eqlI, Int.reduceEq, decide_false, ifD_false]
    exact ⟨trivial, trivial⟩
  rintro _ w' ⟨rfl, hw⟩ _
  have hw := hw.symm; subst hw
  refine ifD_false.2 ?_
  refine ⟨fun v w' => v = .bool true ∧ w' = w, ?_, ?_⟩
  · simp only [V_eqlI, Int.reduceEq, decide_false, decide_true, ifD_false]
    exact ⟨trivial, trivial⟩
  rintro _ w' ⟨rfl, hw⟩ _
  have hw := hw.symm; subst hw
  refine ifD_true.2 ?_
  exact ⟨rfl, rfl⟩
theorem rv30_ok {w : World} : callD Tryd.prog 20 #[i64 30] w fun r w' => r = i64 (3) ∧ w' = w := by
  apply F20_wp
  unfold F20_den
  refine ⟨fun v w' => v = .bool false ∧ w' = w, ?_, ?_⟩
  · simp only [V_eqlI, Int.reduceEq, decide_false, ifD_false]
    exact ⟨trivial, trivial⟩
  rintro _ w' ⟨rfl, hw⟩ _
  have hw := hw.symm; subst hw
  refine ifD_false.2 ?_
  refine ⟨fun v w' => v = .bool false ∧ w' = w, ?_, ?_⟩
  · simp only [V_eqlI, Int.reduceEq, decide_false, ifD_false]
    exact ⟨trivial, trivial⟩
  rintro _ w' ⟨rfl, hw⟩ _
  have hw := hw.symm; subst hw
  refine ifD_false.2 ?_
  refine ⟨fun v w' => v = .bool true ∧ w' = w, ?_, ?_⟩
  · simp only [V_eqlI, Int.reduceEq, decide_false, decide_true, ifD_true]
    exact ⟨trivial, trivial⟩
  rintro _ w' ⟨rfl, hw⟩ _
  have hw := hw.symm; subst hw
  refine ifD_true.2 ?_
  exact ⟨rfl, rfl⟩
theorem rv31_ok {w : World} : callD Tryd.prog 20 #[i64 31] w fun r w' => r = i64 (5) ∧ w' = w := by
  apply F20_wp
  unfold F20_den
  refine ⟨fun v w' => v = .bool false ∧ w' = w, ?_, ?_⟩
  · simp only [V_eqlI, Int.reduceEq, decide_false, ifD_false]
    exact ⟨trivial, trivial⟩
  rintro _ w' ⟨rfl, hw⟩ _
  have hw := hw.symm; subst hw
  refine ifD_false.2 ?_
  refine ⟨fun v w' => v = .bool false ∧ w' = w, ?_, ?_⟩
  · simp only [V_eqlI, Int.reduceEq, decide_false, ifD_false]
    exact ⟨trivial, trivial⟩
  rintro _ w' ⟨rfl, hw⟩ _
  have hw := hw.symm; subst hw
  refine ifD_false.2 ?_
  refine ⟨fun v w' => v = .bool false ∧ w' = w, ?_, ?_⟩
  · simp only [V_eqlI, Int.reduceEq, decide_false, ifD_false]
    exact ⟨trivial, trivial⟩
  rintro _ w' ⟨rfl, hw⟩ _
  have hw := hw.symm; subst hw
  refine ifD_false.2 ?_
  simp only [V_eqlI, Int.reduceEq, decide_false, decide_true, ifD_false, ifD_true]
  exact ⟨trivial, trivial⟩
theorem rv32_ok {w : World} : callD Tryd.prog 20 #[i64 32] w fun r w' => r = i64 (5) ∧ w' = w := by
  apply F20_wp
  unfold F20_den
  refine ⟨fun v w' => v = .bool false ∧ w' = w, ?_, ?_⟩
  · simp only [V_eqlI, Int.reduceEq, decide_false, ifD_false]
    exact ⟨trivial, trivial⟩
  rintro _ w' ⟨rfl, hw⟩ _
  have hw := hw.symm; subst hw
  refine ifD_false.2 ?_
  refine ⟨fun v w' => v = .bool false ∧ w' = w, ?_, ?_⟩
  · simp only [V_eqlI, Int.reduceEq, decide_false, ifD_false]
    exact ⟨trivial, trivial⟩
  rintro _ w' ⟨rfl, hw⟩ _
  have hw := hw.symm; subst hw
  refine ifD_false.2 ?_
  refine ⟨fun v w' => v = .bool false ∧ w' = w, ?_, ?_⟩
  · simp only [V_eqlI, Int.reduceEq, decide_false, ifD_false]
    exact ⟨trivial, trivial⟩
  rintro _ w' ⟨rfl, hw⟩ _
  have hw := hw.symm; subst hw
  refine ifD_false.2 ?_
  simp only [V_eqlI, Int.reduceEq, decide_false, decide_true, ifD_false, ifD_true]
  exact ⟨trivial, trivial⟩
theorem rv36_ok {w : World} : callD Tryd.prog 20 #[i64 36] w fun r w' => r = i64 (3) ∧ w' = w := by
  apply F20_wp
  unfold F20_den
  refine ⟨fun v w' => v = .bool false ∧ w' = w, ?_, ?_⟩
  · simp only [V_eqlI, Int.reduceEq, decide_false, ifD_false]
    exact ⟨trivial, trivial⟩
  rintro _ w' ⟨rfl, hw⟩ _
  have hw := hw.symm; subst hw
  refine ifD_false.2 ?_
  refine ⟨fun v w' => v = .bool false ∧ w' = w, ?_, ?_⟩
  · simp only [V_eqlI, Int.reduceEq, decide_false, ifD_false]
    exact ⟨trivial, trivial⟩
  rintro _ w' ⟨rfl, hw⟩ _
  have hw := hw.symm; subst hw
  refine ifD_false.2 ?_
  refine ⟨fun v w' => v = .bool true ∧ w' = w, ?_, ?_⟩
  · simp only [V_eqlI, Int.reduceEq, decide_false, decide_true, ifD_false]
    exact ⟨trivial, trivial⟩
  rintro _ w' ⟨rfl, hw⟩ _
  have hw := hw.symm; subst hw
  refine ifD_true.2 ?_
  exact ⟨rfl, rfl⟩
theorem rv6_ok {w : World} : callD Tryd.prog 20 #[i64 6] w fun r w' => r = i64 (-1) ∧ w' = w := by
  apply F20_wp
  unfold F20_den
  refine ⟨fun v w' => v = .bool false ∧ w' = w, ?_, ?_⟩
  · simp only [V_eqlI, Int.reduceEq, decide_false, ifD_false]
    exact ⟨trivial, trivial⟩
  rintro _ w' ⟨rfl, hw⟩ _
  have hw := hw.symm; subst hw
  refine ifD_false.2 ?_
  refine ⟨fun v w' => v = .bool false ∧ w' = w, ?_, ?_⟩
  · simp only [V_eqlI, Int.reduceEq, decide_false, ifD_false]
    exact ⟨trivial, trivial⟩
  rintro _ w' ⟨rfl, hw⟩ _
  have hw := hw.symm; subst hw
  refine ifD_false.2 ?_
  refine ⟨fun v w' => v = .bool false ∧ w' = w, ?_, ?_⟩
  · simp only [V_eqlI, Int.reduceEq, decide_false, ifD_false]
    exact ⟨trivial, trivial⟩
  rintro _ w' ⟨rfl, hw⟩ _
  have hw := hw.symm; subst hw
  refine ifD_false.2 ?_
  simp only [V_eqlI, Int.reduceEq, decide_false, ifD_false]
  exact ⟨trivial, trivial⟩
def in32 (l : List Int) : Prop := ∀ z ∈ l, -2147483648 ≤ z ∧ z ≤ 2147483647
def sDiv (s : PS) (a b : Int) : Res := if b = 0 then (0, 28419, s) else (IntKind.i32.wrap (IntKind.i64.wrap (a.tdiv b)), 36864, s)
def sRem (s : PS) (a b : Int) : Res := if b = 0 then (0, 28419, s) else (IntKind.i32.wrap (a.tmod b), 36864, s)
theorem r_remI {P : Program} {w : World} {t : TypeId} {k : IntKind} {a b : Int} (h : b ≠ 0) : (binOp .rem t (.int k a) (.int k b)).run P w = .ok (.int k (a.tmod b)) w := by simp [binOp, Op.intDiv, h]
theorem wrap64 {z : Int} (h : -2147483648 ≤ z ∧ z ≤ 2147483647) : IntKind.i64.wrap z = z := wrap_id (by omega) (by omega)
theorem div_ok {w : World} {a b : Int} (ha : -2147483648 ≤ a ∧ a ≤ 2147483647) (hb : -2147483648 ≤ b ∧ b ≤ 2147483647) : callD Tryd.prog 34 #[i32 a, i32 b] w fun r w' => r = .tuple #[i32 (if b = 0 then 0 else IntKind.i32.wrap (IntKind.i64.wrap (a.tdiv b))), .bool (decide (b ≠ 0))] ∧ w' = w := by
  apply F34_wp
  unfold F34_den
  refine V_eqlI.2 (ifD_dec (fun h => ⟨by rw [if_pos h, decide_eq_false (fun hn => hn h)], rfl⟩) fun h => ?_)
  refine V.ok (r_convI Tryd.underlying21 Tryd.underlying2) ?_
  refine V.ok (r_convI Tryd.underlying21 Tryd.underlying2) ?_
  rw [wrap64 ha, wrap64 hb]
  refine V.ok (r_quo h) (V.ok (r_convI Tryd.underlying2 Tryd.underlying21) ⟨by rw [if_neg h, decide_eq_true h], rfl⟩)
theorem rem_ok {w : World} {a b : Int} (ha : -2147483648 ≤ a ∧ a ≤ 2147483647) (hb : -2147483648 ≤ b ∧ b ≤ 2147483647) : callD Tryd.prog 35 #[i32 a, i32 b] w fun r w' => r = .tuple #[i32 (if b = 0 then 0 else IntKind.i32.wrap (a.tmod b)), .bool (decide (b ≠ 0))] ∧ w' = w := by
  apply F35_wp
  unfold F35_den
  refine V_eqlI.2 (ifD_dec (fun h => ⟨by rw [if_pos h, decide_eq_false (fun hn => hn h)], rfl⟩) fun h => ?_)
  refine V.ok (r_convI Tryd.underlying21 Tryd.underlying2) ?_
  refine V.ok (r_convI Tryd.underlying21 Tryd.underlying2) ?_
  rw [wrap64 ha, wrap64 hb]
  refine V.ok (r_remI h) (V.ok (r_convI Tryd.underlying2 Tryd.underlying21) ⟨by rw [if_neg h, decide_eq_true h], rfl⟩)
theorem divided_ok {w : World} {v : Value} {ok : Bool} : callD Tryd.prog 33 #[v, .bool ok] w fun r w' => r = (if ok then .tuple #[v, i64 36864] else .tuple #[i32 0, i64 28419]) ∧ w' = w := by
  apply F33_wp
  unfold F33_den
  cases ok
  · exact V_not.2 (ifD_true.2 ⟨rfl, rfl⟩)
  · exact V_not.2 (ifD_false.2 ⟨rfl, rfl⟩)
def rmT (p : RP) : Value := .pointer (some ⟨p.rb, 0, none⟩)
def tbT (p : RP) : Value := .pointer (some ⟨p.tb, 0, none⟩)
theorem serveNo_ok {p : RP} {w : World} {who op sa sb k : Int} {av : Value} {m : Nat} {cs : List Value} (h : RoomT p w) (hxs : SliceIs w av 1 m cs) (hsv : ∀ {w : World}, callD Tryd.prog 32 #[i64 op] w fun r w' => r = i64 k ∧ w' = w) (hk : (m : Int) ≠ k) :
    callD Tryd.prog 21 #[rmT p, tbT p, i64 who, i64 op, i64 sa, i64 sb, av] w fun r w' => SvR p w (0, 27013, p.ps) r w' := by
  apply F21_wp
  unfold F21_den
  refine V.ok (r_eqPtr Tryd.underlying23) ?_
  simp only [gd_f]
  refine lnx (by first | exact xa_114 | exact xa_22 | exact xa_32 | exact xa_39 | exact xa_40 | exact xa_55 | exact xa_61) hxs ?_
  refine hsv.mono fun r w' ⟨hr, hw⟩ => ?_
  subst hr; have hw := hw.symm; subst hw
  refine V_neqI.2 ?_
  simp only [show decide ((m : Int) ≠ k) = true by simpa using hk, pickD_iff, Bool.false_eq_true, reduceIte]
  refine ifD_true.2 ⟨p, rfl, rfl, h, Stp.of_ext (Ext.refl _)⟩
set_option maxHeartbeats 1600000 in
theorem serveG_ok {op : Int} {nn f : Nat} (hnn : nn ≤ 5) (hsv : ∀ {w : World}, callD Tryd.prog 32 #[i64 op] w fun r w' => r = i64 (nn : Int) ∧ w' = w) (hf : (op = 27 ∧ f = 36) ∨ (op = 28 ∧ f = 37) ∨ (op = 29 ∧ f = 38) ∨ (op = 30 ∧ f = 39) ∨ (op = 31 ∧ f = 40) ∨ (op = 32 ∧ f = 41) ∨ (op = 36 ∧ f = 42)) {p : RP} {w : World} {who sa sb : Int} {av : Value} {xs : List Int} (hxs : SliceIs w av 1 nn (xs.map i32)) (hl : xs.length = nn) (hsm : in32 xs) {Rr : Value → World → Prop}
    (hk : ∀ w1 av', Ext w w1 → w1.ownsRow w.heap.size 3 1 av' nn (xs.map i64) → callD Tryd.prog f #[svcT p who sa sb av'] w1 (fun r w' => ∃ p q, r = .tuple #[p, q] ∧ Rr (.tuple #[p, q]) w')) :
    callD Tryd.prog 21 #[rmT p, tbT p, i64 who, i64 op, i64 sa, i64 sb, av] w Rr := by
  refine F21_wp ?_
  have key : ∀ {R : Value → World → Prop}, (∀ w1 av', Ext w w1 → w1.ownsRow w.heap.size 3 1 av' nn (xs.map i64) → callD Tryd.prog f #[svcT p who sa sb av'] w1 (fun r w' => ∃ p q, r = .tuple #[p, q] ∧ R (.tuple #[p, q]) w')) → F21_den (rmT p) (tbT p) (i64 who) (i64 op) (i64 sa) (i64 sb) av w R := by
    intro R hk
    unfold F21_den
    refine V.ok (r_eqPtr Tryd.underlying23) ?_
    simp only [gd_f]
    refine lnx (by first | exact xa_114 | exact xa_22 | exact xa_32 | exact xa_39 | exact xa_40 | exact xa_55 | exact xa_61) hxs ?_
    refine hsv.mono fun r w' ⟨hr, hw⟩ => ?_
    subst hr; have hw := hw.symm; subst hw
    refine V_neqI.2 ?_
    simp only [show decide (((nn : Nat) : Int) ≠ (nn : Int)) = false by simp, pickD_iff, Bool.false_eq_true, reduceIte]
    refine ifD_false.2 ?_
    refine bld bd_95 [(0, rmT p), (1, tbT p), (2, i64 who), (3, i64 sa), (4, i64 sb)] rfl rfl ?_
    refine asK (by first | exact sa_105 | exact sa_42 | exact sa_95) rfl rfl fun w1 hb1 x1 => ?_
    refine lnx (by first | exact xa_114 | exact xa_22 | exact xa_32 | exact xa_39 | exact xa_40 | exact xa_55 | exact xa_61) (hxs.ext x1) ?_
    refine ⟨fun v w' => ∃ (i : Nat) (ov : Value), v = i64 i ∧ i ≤ nn ∧ Ext w w' ∧ Blk w' w.heap.size [rmT p, tbT p, i64 who, i64 sa, i64 sb, ov] 95 ∧ w'.ownsRow w.heap.size 3 1 ov i ((xs.take i).map i64) ∧ ov.ownBlock ≠ some w.heap.size,
      fun v _ => nn - (RowKit.intOf v).toNat, ⟨0, _, rfl, Nat.zero_le _, x1, hb1, by rw [List.take_zero]; exact ⟨rfl, .inl ⟨rfl, rfl⟩⟩, fun h => by cases h⟩, ?_⟩
    rintro _ w2 ⟨i, ov, rfl, hi, x2, hb2, ho2, hne2⟩ _
    refine V_lss.2 (ifD_dec (fun hlt => ?_) fun hge => ?_)
    · obtain ⟨z, hz⟩ := ex_get (l := xs) (j := i) (by omega)
      have hzb : -2147483648 ≤ z ∧ z ≤ 2147483647 := hsm z (List.mem_of_getElem? hz)
      refine ldx xa_39 l1_21 (hxs.ext x2) (by omega) (by omega) (by simp [hz] : (xs.map i32)[((i : Nat) : Int).toNat]? = some (i32 z)) ?_
      refine ldB hb2.boxed (by first | exact fa_105_0 | exact fa_105_1 | exact fa_105_2 | exact fa_105_3 | exact fa_105_4 | exact fa_116_0 | exact fa_116_1 | exact fa_120_0 | exact fa_120_1 | exact fa_42_0 | exact fa_42_1 | exact fa_42_2 | exact fa_42_3 | exact fa_42_4 | exact fa_42_5 | exact fa_42_6 | exact fa_57_0 | exact fa_63_0 | exact fa_63_2 | exact fa_63_3 | exact fa_63_4 | exact fa_80_0 | exact fa_80_2 | exact fa_80_3 | exact fa_80_4 | exact fa_91_0 | exact fa_95_0 | exact fa_95_1 | exact fa_95_2 | exact fa_95_3 | exact fa_95_4 | exact fa_95_5) (by first | exact l1_114 | exact l1_21 | exact l1_23 | exact l1_3 | exact l1_32 | exact l1_39 | exact l1_4 | exact l1_40 | exact l1_5 | exact l1_50 | exact l1_55 | exact l1_59 | exact l1_61 | exact l1_76) rfl ?_
      refine V.ok (r_convI Tryd.underlying21 Tryd.underlying3) ?_
      rw [wrap_id (by omega) (by omega)]
      refine bsl (by first | exact xe_32 | exact xe_39 | exact xe_40) [i64 z] rfl rfl (by simp) rfl fun v3 w3 ho3 x3 => ?_
      have X3 := x2.trans x3
      have hb3 := hb2.ext x3
      refine apL (by first | exact xe_32 | exact xe_39 | exact xe_40) (x3.own ho2) ho3 (by simp) (by simp [oneC]) (by omega) (by unfold maxLen; omega) X3.size fun g cap w4 ho4 hg4 hlies => ?_
      have f4 : Fr (fun j => ov.ownBlock = some j) w3 w4 := Fr.of_grown hg4 fun k hk => hk
      have hb4 := f4.blk hb3 hne2
      have hbl := hb3.lt
      have hgne : g ≠ w.heap.size := by
        rcases hlies with h | h
        · intro he; exact hne2 (he ▸ h)
        · omega
      refine stF (by first | exact fa_105_0 | exact fa_105_1 | exact fa_105_2 | exact fa_105_3 | exact fa_105_4 | exact fa_116_0 | exact fa_116_1 | exact fa_120_0 | exact fa_120_1 | exact fa_42_0 | exact fa_42_1 | exact fa_42_2 | exact fa_42_3 | exact fa_42_4 | exact fa_42_5 | exact fa_42_6 | exact fa_57_0 | exact fa_63_0 | exact fa_63_2 | exact fa_63_3 | exact fa_63_4 | exact fa_80_0 | exact fa_80_2 | exact fa_80_3 | exact fa_80_4 | exact fa_91_0 | exact fa_95_0 | exact fa_95_1 | exact fa_95_2 | exact fa_95_3 | exact fa_95_4 | exact fa_95_5) inf32 hb4 rfl (by simp) rfl (V_add.2 ?_)
      rw [wrap_id (by omega) (by omega), i64_succ]
      have f5 : Fr (fun j => j = w.heap.size) w4 (w4.setCell ⟨w.heap.size, 5, none⟩ (.slice (some ⟨g, 0, none⟩) (i + 1) cap)) := Fr.of_set rfl
      refine ⟨⟨i + 1, _, rfl, by omega, f5.ext (f4.ext X3 fun j hj => (ho2.lt j hj).1) (fun j hj => by omega), hb4.set 5 _, ?_, fun he => hgne (by cases he; rfl)⟩, by simp only [intOf_i64]; omega⟩
      have := f5.own ho4 fun j hj he => hgne (by cases hj; exact he)
      rw [List.take_add_one, hz]
      simpa using this
    · have hin : i = nn := by omega
      subst hin
      rw [List.take_of_length_le (by omega)] at ho2
      have fin := hk w2 ov x2 ho2
      rcases hf with ⟨rfl, rfl⟩ | ⟨rfl, rfl⟩ | ⟨rfl, rfl⟩ | ⟨rfl, rfl⟩ | ⟨rfl, rfl⟩ | ⟨rfl, rfl⟩ | ⟨rfl, rfl⟩ <;>
      · simp only [V_eqlI, Int.reduceEq, decide_false, decide_true, ifD_false, ifD_true]
        refine ldA hb2.boxed la_95 rfl ?_
        refine fin.mono fun r w3 ⟨p, q, hr, hR⟩ => ?_
        subst hr
        exact V_ext0.2 (V_ext1.2 hR)
  exact key hk

set_option maxHeartbeats 1600000 in
theorem serve17_ok {p : RP} {w : World} {who sa sb a b : Int} {av : Value} (h : RoomT p w) (hxs : SliceIs w av 1 2 [i32 a, i32 b]) (hsm : in32 [a, b]) :
    callD Tryd.prog 21 #[rmT p, tbT p, i64 who, i64 17, i64 sa, i64 sb, av] w fun r w' => SvR p w (sDiv p.ps a b) r w' := by
  refine F21_wp ?_
  have ha : -2147483648 ≤ a ∧ a ≤ 2147483647 := hsm a (by simp)
  have hb : -2147483648 ≤ b ∧ b ≤ 2147483647 := hsm b (by simp)
  have key : ∀ {R : Value → World → Prop}, (∀ w', Ext w w' → R (.tuple #[i32 (sDiv p.ps a b).1, i64 (sDiv p.ps a b).2.1]) w') → F21_den (rmT p) (tbT p) (i64 who) (i64 17) (i64 sa) (i64 sb) av w R := by
    intro R hk
    obtain ⟨xs, hxe⟩ : ∃ xs : List Int, xs = [a, b] := ⟨_, rfl⟩
    have hxs : SliceIs w av 1 2 (xs.map i32) := by rw [hxe]; exact hxs
    have hl : xs.length = 2 := by rw [hxe]; rfl
    have hsm : in32 xs := by rw [hxe]; exact hsm
    unfold F21_den
    refine V.ok (r_eqPtr Tryd.underlying23) ?_
    simp only [gd_f]
    refine lnx (by first | exact xa_114 | exact xa_22 | exact xa_32 | exact xa_39 | exact xa_40 | exact xa_55 | exact xa_61) hxs ?_
    refine sv17_ok.mono fun r w' ⟨hr, hw⟩ => ?_
    subst hr; have hw := hw.symm; subst hw
    refine V_neqI.2 ?_
    simp only [show decide (((2 : Nat) : Int) ≠ 2) = false by decide, pickD_iff, Bool.false_eq_true, reduceIte]
    refine ifD_false.2 ?_
    refine bld bd_95 [(0, rmT p), (1, tbT p), (2, i64 who), (3, i64 sa), (4, i64 sb)] rfl rfl ?_
    refine asK (by first | exact sa_105 | exact sa_42 | exact sa_95) rfl rfl fun w1 hb1 x1 => ?_
    refine lnx (by first | exact xa_114 | exact xa_22 | exact xa_32 | exact xa_39 | exact xa_40 | exact xa_55 | exact xa_61) (hxs.ext x1) ?_
    refine ⟨fun v w' => ∃ (i : Nat) (ov : Value), v = i64 i ∧ i ≤ 2 ∧ Ext w w' ∧ Blk w' w.heap.size [rmT p, tbT p, i64 who, i64 sa, i64 sb, ov] 95 ∧ w'.ownsRow w.heap.size 3 1 ov i ((xs.take i).map i64) ∧ ov.ownBlock ≠ some w.heap.size,
      fun v _ => 2 - (RowKit.intOf v).toNat, ⟨0, _, rfl, Nat.zero_le _, x1, hb1, by rw [List.take_zero]; exact ⟨rfl, .inl ⟨rfl, rfl⟩⟩, fun h => by cases h⟩, ?_⟩
    rintro _ w2 ⟨i, ov, rfl, hi, x2, hb2, ho2, hne2⟩ _
    refine V_lss.2 (ifD_dec (fun hlt => ?_) fun hge => ?_)
    · obtain ⟨z, hz⟩ := ex_get (l := xs) (j := i) (by omega)
      have hzb : -2147483648 ≤ z ∧ z ≤ 2147483647 := hsm z (List.mem_of_getElem? hz)
      refine ldx xa_39 l1_21 (hxs.ext x2) (by omega) (by omega) (by simp [hz] : (xs.map i32)[((i : Nat) : Int).toNat]? = some (i32 z)) ?_
      refine ldB hb2.boxed (by first | exact fa_105_0 | exact fa_105_1 | exact fa_105_2 | exact fa_105_3 | exact fa_105_4 | exact fa_116_0 | exact fa_116_1 | exact fa_120_0 | exact fa_120_1 | exact fa_42_0 | exact fa_42_1 | exact fa_42_2 | exact fa_42_3 | exact fa_42_4 | exact fa_42_5 | exact fa_42_6 | exact fa_57_0 | exact fa_63_0 | exact fa_63_2 | exact fa_63_3 | exact fa_63_4 | exact fa_80_0 | exact fa_80_2 | exact fa_80_3 | exact fa_80_4 | exact fa_91_0 | exact fa_95_0 | exact fa_95_1 | exact fa_95_2 | exact fa_95_3 | exact fa_95_4 | exact fa_95_5) (by first | exact l1_114 | exact l1_21 | exact l1_23 | exact l1_3 | exact l1_32 | exact l1_39 | exact l1_4 | exact l1_40 | exact l1_5 | exact l1_50 | exact l1_55 | exact l1_59 | exact l1_61 | exact l1_76) rfl ?_
      refine V.ok (r_convI Tryd.underlying21 Tryd.underlying3) ?_
      rw [wrap_id (by omega) (by omega)]
      refine bsl (by first | exact xe_32 | exact xe_39 | exact xe_40) [i64 z] rfl rfl (by simp) rfl fun v3 w3 ho3 x3 => ?_
      have X3 := x2.trans x3
      have hb3 := hb2.ext x3
      refine apL (by first | exact xe_32 | exact xe_39 | exact xe_40) (x3.own ho2) ho3 (by simp) (by simp [oneC]) (by omega) (by unfold maxLen; omega) X3.size fun g cap w4 ho4 hg4 hlies => ?_
      have f4 : Fr (fun j => ov.ownBlock = some j) w3 w4 := Fr.of_grown hg4 fun k hk => hk
      have hb4 := f4.blk hb3 hne2
      have hbl := hb3.lt
      have hgne : g ≠ w.heap.size := by
        rcases hlies with h | h
        · intro he; exact hne2 (he ▸ h)
        · omega
      refine stF (by first | exact fa_105_0 | exact fa_105_1 | exact fa_105_2 | exact fa_105_3 | exact fa_105_4 | exact fa_116_0 | exact fa_116_1 | exact fa_120_0 | exact fa_120_1 | exact fa_42_0 | exact fa_42_1 | exact fa_42_2 | exact fa_42_3 | exact fa_42_4 | exact fa_42_5 | exact fa_42_6 | exact fa_57_0 | exact fa_63_0 | exact fa_63_2 | exact fa_63_3 | exact fa_63_4 | exact fa_80_0 | exact fa_80_2 | exact fa_80_3 | exact fa_80_4 | exact fa_91_0 | exact fa_95_0 | exact fa_95_1 | exact fa_95_2 | exact fa_95_3 | exact fa_95_4 | exact fa_95_5) inf32 hb4 rfl (by simp) rfl (V_add.2 ?_)
      rw [wrap_id (by omega) (by omega), i64_succ]
      have f5 : Fr (fun j => j = w.heap.size) w4 (w4.setCell ⟨w.heap.size, 5, none⟩ (.slice (some ⟨g, 0, none⟩) (i + 1) cap)) := Fr.of_set rfl
      refine ⟨⟨i + 1, _, rfl, by omega, f5.ext (f4.ext X3 fun j hj => (ho2.lt j hj).1) (fun j hj => by omega), hb4.set 5 _, ?_, fun he => hgne (by cases he; rfl)⟩, by simp only [intOf_i64]; omega⟩
      have := f5.own ho4 fun j hj he => hgne (by cases hj; exact he)
      rw [List.take_add_one, hz]
      simpa using this
    · have hin : i = 2 := by omega
      subst hin
      simp only [V_eqlI, Int.reduceEq, decide_false, decide_true, ifD_false, ifD_true]
      have D2 : Ext w2 w2.drew := (Ext.refl _).drew
      have hx2 := hxs.ext x2
      have g0 : (xs.map i32)[(0 : Int).toNat]? = some (i32 a) := by rw [hxe]; rfl
      have g1 : (xs.map i32)[(1 : Int).toNat]? = some (i32 b) := by rw [hxe]; rfl
      refine drawD.mk' (fun w' => Ext w2 w') D2 ?_
      refine ySl xa_39 l1_21 hx2 (fun w' hw => hw) (by omega) (by omega) g0 ?_
      refine ySl xa_39 l1_21 hx2 (fun w' hw => hw) (by omega) (by omega) g1 ?_
      refine (div_ok ha hb).mono fun r w3 ⟨hr, hw⟩ => ?_
      subst hr; have hw := hw.symm; subst hw
      refine ⟨D2, ?_⟩
      refine yieldS.ok (fun w' _ => r_ext0) ?_
      refine yieldS.ok (fun w' _ => r_ext1) ?_
      refine divided_ok.mono fun r w3 ⟨hr, hw⟩ => ?_
      have hw := hw.symm; subst hw
      have hkk := hk w2.drew (x2.trans D2)
      unfold sDiv at hkk
      by_cases hb0 : b = 0
      · rw [decide_eq_false (fun hn => hn hb0)] at hr
        rw [if_pos hb0] at hkk
        subst hr
        refine ⟨D2, ?_⟩
        refine yieldS.ok (fun w' _ => r_ext0) ?_
        refine yieldS.ok (fun w' _ => r_ext1) ?_
        exact hkk
      · rw [decide_eq_true hb0, if_neg hb0] at hr
        rw [if_neg hb0] at hkk
        subst hr
        refine ⟨D2, ?_⟩
        refine yieldS.ok (fun w' _ => r_ext0) ?_
        refine yieldS.ok (fun w' _ => r_ext1) ?_
        exact hkk
  refine key fun w' hx => ⟨p, rfl, ?_, h.ext hx, Stp.of_ext hx⟩
  unfold sDiv
  split <;> rfl

set_option maxHeartbeats 1600000 in
theorem serve18_ok {p : RP} {w : World} {who sa sb a b : Int} {av : Value} (h : RoomT p w) (hxs : SliceIs w av 1 2 [i32 a, i32 b]) (hsm : in32 [a, b]) :
    callD Tryd.prog 21 #[rmT p, tbT p, i64 who, i64 18, i64 sa, i64 sb, av] w fun r w' => SvR p w (sRem p.ps a b) r w' := by
  refine F21_wp ?_
  have ha : -2147483648 ≤ a ∧ a ≤ 2147483647 := hsm a (by simp)
  have hb : -2147483648 ≤ b ∧ b ≤ 2147483647 := hsm b (by simp)
  have key : ∀ {R : Value → World → Prop}, (∀ w', Ext w w' → R (.tuple #[i32 (sRem p.ps a b).1, i64 (sRem p.ps a b).2.1]) w') → F21_den (rmT p) (tbT p) (i64 who) (i64 18) (i64 sa) (i64 sb) av w R := by
    intro R hk
    obtain ⟨xs, hxe⟩ : ∃ xs : List Int, xs = [a, b] := ⟨_, rfl⟩
    have hxs : SliceIs w av 1 2 (xs.map i32) := by rw [hxe]; exact hxs
    have hl : xs.length = 2 := by rw [hxe]; rfl
    have hsm : in32 xs := by rw [hxe]; exact hsm
    unfold F21_den
    refine V.ok (r_eqPtr Tryd.underlying23) ?_
    simp only [gd_f]
    refine lnx (by first | exact xa_114 | exact xa_22 | exact xa_32 | exact xa_39 | exact xa_40 | exact xa_55 | exact xa_61) hxs ?_
    refine sv18_ok.mono fun r w' ⟨hr, hw⟩ => ?_
    subst hr; have hw := hw.symm; subst hw
    refine V_neqI.2 ?_
    simp only [show decide (((2 : Nat) : Int) ≠ 2) = false by decide, pickD_iff, Bool.false_eq_true, reduceIte]
    refine ifD_false.2 ?_
    refine bld bd_95 [(0, rmT p), (1, tbT p), (2, i64 who), (3, i64 sa), (4, i64 sb)] rfl rfl ?_
    refine asK (by first | exact sa_105 | exact sa_42 | exact sa_95) rfl rfl fun w1 hb1 x1 => ?_
    refine lnx (by first | exact xa_114 | exact xa_22 | exact xa_32 | exact xa_39 | exact xa_40 | exact xa_55 | exact xa_61) (hxs.ext x1) ?_
    refine ⟨fun v w' => ∃ (i : Nat) (ov : Value), v = i64 i ∧ i ≤ 2 ∧ Ext w w' ∧ Blk w' w.heap.size [rmT p, tbT p, i64 who, i64 sa, i64 sb, ov] 95 ∧ w'.ownsRow w.heap.size 3 1 ov i ((xs.take i).map i64) ∧ ov.ownBlock ≠ some w.heap.size,
      fun v _ => 2 - (RowKit.intOf v).toNat, ⟨0, _, rfl, Nat.zero_le _, x1, hb1, by rw [List.take_zero]; exact ⟨rfl, .inl ⟨rfl, rfl⟩⟩, fun h => by cases h⟩, ?_⟩
    rintro _ w2 ⟨i, ov, rfl, hi, x2, hb2, ho2, hne2⟩ _
    refine V_lss.2 (ifD_dec (fun hlt => ?_) fun hge => ?_)
    · obtain ⟨z, hz⟩ := ex_get (l := xs) (j := i) (by omega)
      have hzb : -2147483648 ≤ z ∧ z ≤ 2147483647 := hsm z (List.mem_of_getElem? hz)
      refine ldx xa_39 l1_21 (hxs.ext x2) (by omega) (by omega) (by simp [hz] : (xs.map i32)[((i : Nat) : Int).toNat]? = some (i32 z)) ?_
      refine ldB hb2.boxed (by first | exact fa_105_0 | exact fa_105_1 | exact fa_105_2 | exact fa_105_3 | exact fa_105_4 | exact fa_116_0 | exact fa_116_1 | exact fa_120_0 | exact fa_120_1 | exact fa_42_0 | exact fa_42_1 | exact fa_42_2 | exact fa_42_3 | exact fa_42_4 | exact fa_42_5 | exact fa_42_6 | exact fa_57_0 | exact fa_63_0 | exact fa_63_2 | exact fa_63_3 | exact fa_63_4 | exact fa_80_0 | exact fa_80_2 | exact fa_80_3 | exact fa_80_4 | exact fa_91_0 | exact fa_95_0 | exact fa_95_1 | exact fa_95_2 | exact fa_95_3 | exact fa_95_4 | exact fa_95_5) (by first | exact l1_114 | exact l1_21 | exact l1_23 | exact l1_3 | exact l1_32 | exact l1_39 | exact l1_4 | exact l1_40 | exact l1_5 | exact l1_50 | exact l1_55 | exact l1_59 | exact l1_61 | exact l1_76) rfl ?_
      refine V.ok (r_convI Tryd.underlying21 Tryd.underlying3) ?_
      rw [wrap_id (by omega) (by omega)]
      refine bsl (by first | exact xe_32 | exact xe_39 | exact xe_40) [i64 z] rfl rfl (by simp) rfl fun v3 w3 ho3 x3 => ?_
      have X3 := x2.trans x3
      have hb3 := hb2.ext x3
      refine apL (by first | exact xe_32 | exact xe_39 | exact xe_40) (x3.own ho2) ho3 (by simp) (by simp [oneC]) (by omega) (by unfold maxLen; omega) X3.size fun g cap w4 ho4 hg4 hlies => ?_
      have f4 : Fr (fun j => ov.ownBlock = some j) w3 w4 := Fr.of_grown hg4 fun k hk => hk
      have hb4 := f4.blk hb3 hne2
      have hbl := hb3.lt
      have hgne : g ≠ w.heap.size := by
        rcases hlies with h | h
        · intro he; exact hne2 (he ▸ h)
        · omega
      refine stF (by first | exact fa_105_0 | exact fa_105_1 | exact fa_105_2 | exact fa_105_3 | exact fa_105_4 | exact fa_116_0 | exact fa_116_1 | exact fa_120_0 | exact fa_120_1 | exact fa_42_0 | exact fa_42_1 | exact fa_42_2 | exact fa_42_3 | exact fa_42_4 | exact fa_42_5 | exact fa_42_6 | exact fa_57_0 | exact fa_63_0 | exact fa_63_2 | exact fa_63_3 | exact fa_63_4 | exact fa_80_0 | exact fa_80_2 | exact fa_80_3 | exact fa_80_4 | exact fa_91_0 | exact fa_95_0 | exact fa_95_1 | exact fa_95_2 | exact fa_95_3 | exact fa_95_4 | exact fa_95_5) inf32 hb4 rfl (by simp) rfl (V_add.2 ?_)
      rw [wrap_id (by omega) (by omega), i64_succ]
      have f5 : Fr (fun j => j = w.heap.size) w4 (w4.setCell ⟨w.heap.size, 5, none⟩ (.slice (some ⟨g, 0, none⟩) (i + 1) cap)) := Fr.of_set rfl
      refine ⟨⟨i + 1, _, rfl, by omega, f5.ext (f4.ext X3 fun j hj => (ho2.lt j hj).1) (fun j hj => by omega), hb4.set 5 _, ?_, fun he => hgne (by cases he; rfl)⟩, by simp only [intOf_i64]; omega⟩
      have := f5.own ho4 fun j hj he => hgne (by cases hj; exact he)
      rw [List.take_add_one, hz]
      simpa using this
    · have hin : i = 2 := by omega
      subst hin
      simp only [V_eqlI, Int.reduceEq, decide_false, decide_true, ifD_false, ifD_true]
      have D2 : Ext w2 w2.drew := (Ext.refl _).drew
      have hx2 := hxs.ext x2
      have g0 : (xs.map i32)[(0 : Int).toNat]? = some (i32 a) := by rw [hxe]; rfl
      have g1 : (xs.map i32)[(1 : Int).toNat]? = some (i32 b) := by rw [hxe]; rfl
      refine drawD.mk' (fun w' => Ext w2 w') D2 ?_
      refine ySl xa_39 l1_21 hx2 (fun w' hw => hw) (by omega) (by omega) g0 ?_
      refine ySl xa_39 l1_21 hx2 (fun w' hw => hw) (by omega) (by omega) g1 ?_
      refine (rem_ok ha hb).mono fun r w3 ⟨hr, hw⟩ => ?_
      subst hr; have hw := hw.symm; subst hw
      refine ⟨D2, ?_⟩
      refine yieldS.ok (fun w' _ => r_ext0) ?_
      refine yieldS.ok (fun w' _ => r_ext1) ?_
      refine divided_ok.mono fun r w3 ⟨hr, hw⟩ => ?_
      have hw := hw.symm; subst hw
      have hkk := hk w2.drew (x2.trans D2)
      unfold sRem at hkk
      by_cases hb0 : b = 0
      · rw [decide_eq_false (fun hn => hn hb0)] at hr
        rw [if_pos hb0] at hkk
        subst hr
        refine ⟨D2, ?_⟩
        refine yieldS.ok (fun w' _ => r_ext0) ?_
        refine yieldS.ok (fun w' _ => r_ext1) ?_
        exact hkk
      · rw [decide_eq_true hb0, if_neg hb0] at hr
        rw [if_neg hb0] at hkk
        subst hr
        refine ⟨D2, ?_⟩
        refine yieldS.ok (fun w' _ => r_ext0) ?_
        refine yieldS.ok (fun w' _ => r_ext1) ?_
        exact hkk
  refine key fun w' hx => ⟨p, rfl, ?_, h.ext hx, Stp.of_ext hx⟩
  unfold sRem
  split <;> rfl

end Go.Proofs.YtgjmpnngheohbaaDoor
namespace Go.Proofs.YtgjmpnngheohbaaDoor
open Go.Vc
section
variable {p : RP} {w w' : World}
theorem rowC_set {ar : List Arr} {k : Nat} {x : Arr} (hk : ar[k]? = some x) (v' : Value) (d' : List Int) : rowC (ar.set k { x with dv := v', data := d' }) = (rowC ar).set (k * 5 + 4) v' := by
  have hkl : k < ar.length := (List.getElem?_eq_some_iff.1 hk).1
  apply List.ext_getElem?
  intro j
  by_cases hj : j < ar.length * 5
  · obtain ⟨a, ha⟩ := ex_get (l := ar) (j := j / 5) (by omega)
    have e : j = j / 5 * 5 + j % 5 := by omega
    have hm : j % 5 < 5 := Nat.mod_lt _ (by decide)
    by_cases hjk : k = j / 5
    · have h1 : (ar.set k { x with dv := v', data := d' })[j / 5]? = some { x with dv := v', data := d' } := by rw [← hjk, List.getElem?_set_self hkl]
      have hL : (rowC (ar.set k { x with dv := v', data := d' }))[j]? = ({ x with dv := v', data := d' } : Arr).cells[j % 5]? := by
        have := rowC_get h1 hm
        rwa [← e] at this
      rw [hL]
      by_cases h4 : k * 5 + 4 = j
      · have : j % 5 = 4 := by omega
        rw [← h4, List.getElem?_set_self (by rw [rowC_len]; omega), h4, this]
        rfl
      · rw [List.getElem?_set_ne h4]
        have hR : (rowC ar)[j]? = x.cells[j % 5]? := by
          have := rowC_get (ar := ar) (k := j / 5) (a := x) (j := j % 5) (by rw [← hjk]; exact hk) hm
          rwa [← e] at this
        rw [hR]
        have h5 : j % 5 = 0 ∨ j % 5 = 1 ∨ j % 5 = 2 ∨ j % 5 = 3 := by omega
        rcases h5 with h5 | h5 | h5 | h5 <;> rw [h5] <;> rfl
    · have h1 : (ar.set k { x with dv := v', data := d' })[j / 5]? = some a := by rw [List.getElem?_set_ne hjk]; exact ha
      have hL := rowC_get h1 hm
      have hR := rowC_get ha hm
      rw [← e] at hL hR
      rw [hL, List.getElem?_set_ne (by omega), hR]
  · rw [List.getElem?_eq_none (by rw [rowC_len]; simp; omega), List.getElem?_eq_none (by simp [rowC_len]; omega)]
/-- An array's bytes are laid anew. -/
theorem RoomT.setDv (h : RoomT p w) {k : Nat} {x : Arr} (hk : p.ar[k]? = some x) {v' : Value} {d' : List Int} (hd : d'.length ≤ 64) (hok : okB d') (ho : w.ownsRow p.B 5 1 v' d'.length (d'.map u8)) (hn : ∀ i, v'.ownBlock = some i → ¬ MuP p i ∧ ¬ TbP p i) :
    RoomT { p with ar := p.ar.set k { x with dv := v', data := d' } } (w.setCell ⟨p.g, k * 5 + 4, none⟩ v') ∧ (∀ i, MuP { p with ar := p.ar.set k { x with dv := v', data := d' } } i → MuP p i ∨ v'.ownBlock = some i) ∧ Fr (fun i => i = p.g) w (w.setCell ⟨p.g, k * 5 + 4, none⟩ v') := by
  have hkl : k < p.ar.length := (List.getElem?_eq_some_iff.1 hk).1
  have hxm := List.mem_of_getElem? hk
  have f : Fr (fun i => i = p.g) w (w.setCell ⟨p.g, k * 5 + 4, none⟩ v') := Fr.of_set rfl
  have find : ∀ {i : Nat} {a : Arr}, (p.ar.set k { x with dv := v', data := d' })[i]? = some a → (i = k ∧ a = { x with dv := v', data := d' }) ∨ (i ≠ k ∧ p.ar[i]? = some a) := by
    intro i a hi
    by_cases hik : k = i
    · subst hik
      rw [List.getElem?_set_self hkl] at hi
      cases hi
      exact .inl ⟨rfl, rfl⟩
    · rw [List.getElem?_set_ne hik] at hi
      exact .inr ⟨fun e => hik e.symm, hi⟩
  have each : ∀ a ∈ p.ar.set k { x with dv := v', data := d' }, a = { x with dv := v', data := d' } ∨ a ∈ p.ar := by
    intro a ha
    obtain ⟨i, hi⟩ := List.getElem?_of_mem ha
    rcases find hi with ⟨_, e⟩ | ⟨_, e⟩
    · exact .inl e
    · exact .inr (List.mem_of_getElem? e)
  have inM : ∀ a ∈ p.ar, ∀ i, a.dv.ownBlock = some i → MuP p i := fun a ha i hi => .inr (.inr (.inr (.inl ⟨a, ha, hi⟩)))
  have mu : ∀ i, MuP { p with ar := p.ar.set k { x with dv := v', data := d' } } i → MuP p i ∨ v'.ownBlock = some i := fun i hi => by
    rcases hi with hi | hi | hi | ⟨a, ha, he⟩ | hi
    · exact .inl (.inl hi)
    · exact .inl (.inr (.inl hi))
    · exact .inl (.inr (.inr (.inl hi)))
    · rcases each a ha with rfl | ha
      · exact .inr he
      · exact .inl (inM a ha i he)
    · exact .inl (.inr (.inr (.inr (.inr hi))))
  have hgM : MuP p p.g := .inr (.inr (.inl rfl))
  have hrow : (w.setCell ⟨p.g, k * 5 + 4, none⟩ v').ownsRow p.B 105 5 (.slice (some ⟨p.g, 0, none⟩) p.ar.length p.cap) p.ar.length (rowC (p.ar.set k { x with dv := v', data := d' })) := by
    rw [rowC_set hk]
    exact (h.h.row.stored (k * 5 + 4) v').1
  refine ⟨⟨f.seg h.room (fun e => (h.fresh p.rb (.inl rfl)).1 e), ⟨?_, ?_, fun a ha => ?_, fun a ha => ?_, fun i j a b y hi hj ha hb' => ?_, fun a ha => ?_, by have := f.size; have := h.h.lt; show p.B ≤ _; omega, by simpa using h.h.cnt, ⟨h.h.fresh.1, fun a ha => ?_⟩⟩, f.own h.qp fun i hi e => h.gp (e ▸ hi), f.own h.qs fun i hi e => h.gs (e ▸ hi), h.lp, h.ls, h.ne, fun a ha y hy => ?_, fun a ha y hy => ?_, h.gp, h.gs, h.lt, fun y hy => ⟨(h.fresh y hy).1, fun a ha => ?_, (h.fresh y hy).2.2⟩,
    f.blk h.tbox fun e => h.tfr _ (.inl rfl) (e ▸ hgM), f.own h.trow fun i hi e => h.tfr i (.inr hi) (e ▸ hgM), h.tne, fun i ht hm => ?_, by simpa using h.two, h.sz, fun a ha => ?_⟩, mu, f⟩
  · have := f.blk h.h.heap fun e => h.h.fresh.1 e
    simpa using this
  · simpa using hrow
  · rcases each a ha with rfl | ha
    · exact f.own ho fun i hi e => (hn i hi).1 (e ▸ hgM)
    · exact f.own (h.h.data a ha) fun i hi e => h.h.drow a ha (e ▸ hi)
  · rcases each a ha with rfl | ha
    · exact hd
    · exact h.h.len a ha
  · rcases find hi with ⟨rfl, rfl⟩ | ⟨_, hi'⟩ <;> rcases find hj with ⟨rfl, rfl⟩ | ⟨_, hj'⟩
    · rfl
    · exact absurd (inM b (List.mem_of_getElem? hj') y hb') (hn y ha).1
    · exact absurd (inM a (List.mem_of_getElem? hi') y ha) (hn y hb').1
    · exact h.h.dist i j a b y hi' hj' ha hb'
  · rcases each a ha with rfl | ha
    · exact fun e => (hn _ e).1 hgM
    · exact h.h.drow a ha
  · rcases each a ha with rfl | ha
    · exact fun e => (hn _ e).1 (.inr (.inl rfl))
    · exact h.h.fresh.2 a ha
  · rcases each a ha with rfl | ha
    · exact fun e => (hn y hy).1 (.inr (.inr (.inr (.inr (.inl e)))))
    · exact h.np a ha y hy
  · rcases each a ha with rfl | ha
    · exact fun e => (hn y hy).1 (.inr (.inr (.inr (.inr (.inr e)))))
    · exact h.ns a ha y hy
  · rcases each a ha with rfl | ha
    · exact fun e => (hn y e).1 (hy.elim (fun e => .inl e) fun e => .inr (.inl e))
    · exact (h.fresh y hy).2.1 a ha
  · rcases mu i hm with hm | hm
    · exact h.tfr i ht hm
    · exact (hn i hm).2 ht
  · rcases each a ha with rfl | ha
    · exact hok
    · exact h.bytes a ha
theorem append_none {P : Program} {t e : TypeId} {z : Value} {by_ : Nat} (ht : P.underlying t = some (.slice e)) (hi : Inf P e z 1 by_) {ty : TypeId} {a b : Option Addr} {n c d : Nat} (hn : n ≤ c) :
    (Builtin.append_ #[t, t] ty #[.slice a n c, .slice b 0 d]).run P w = .ok (.slice a n c) w := by
  obtain ⟨i, hi', _, _, _⟩ := info_parts hi
  exact Go.Ab.append_zero ht hi' hn
theorem cloneA_ok {v : Value} {l : List Int} (h : ArgsU8 w v l) (hl : l.length ≤ 4294967296) : callD Tryd.prog 65 #[v] w fun r w' => w'.ownsRow w.heap.size 5 1 r l.length (l.map u8) ∧ Ext w w' := by
  rcases h with ⟨rfl, rfl⟩ | ⟨ad, c, rfl, hb⟩
  · exact clone_u8 (l := []) (SliceIs.nil _ _) (by simp)
  · by_cases h0 : 0 < l.length
    · exact clone_u8 (hb h0) hl
    · have hl0 : l = [] := List.eq_nil_of_length_eq_zero (by omega)
      subst hl0
      apply F65_wp
      unfold F65_den
      refine V.ok (r_eqNilSlice Tryd.underlying40) (ifD_false.2 ?_)
      refine bsl xe_40 [] rfl rfl (by simp) rfl fun v1 w1 ho x1 => ?_
      obtain ⟨a, c1, rfl⟩ := (SliceIs.of_own ho).shape
      refine V.ok (append_none Tryd.underlying40 inf5 (Nat.zero_le _)) ⟨ho, x1⟩
theorem ArgsU8.shape {v : Value} {l : List Int} (h : ArgsU8 w v l) : ∃ a c, v = .slice a l.length c := by
  rcases h with ⟨rfl, rfl⟩ | ⟨ad, c, rfl, _⟩
  · exact ⟨none, 0, rfl⟩
  · exact ⟨_, _, rfl⟩
theorem ArgsU8.of_own {B : Nat} {v : Value} {l : List Int} (h : w.ownsRow B 5 1 v l.length (l.map u8)) : ArgsU8 w v l := by
  have hs := SliceIs.of_own h
  rcases hs.2 with ⟨rfl, h0⟩ | ⟨b, off, cap, rfl, h1⟩
  · exact .inl ⟨rfl, List.eq_nil_of_length_eq_zero h0⟩
  · exact .inr ⟨_, cap, rfl, fun _ => hs⟩
theorem setbufT_ok (h : RoomT p w) {k : Nat} (hk : k < 2) {x : Arr} (hx : p.ar[k]? = some x) {v : Value} {l : List Int} (hv : ArgsU8 w v l) (hl : l.length ≤ 64) (hok : okB l) :
    callD Tryd.prog 30 #[.pointer (some ⟨p.hb, 0, none⟩), i64 ((k : Int) + 1), v] w fun _ w' => ∃ v', RoomT { p with ar := p.ar.set k { x with dv := v', data := l } } w' ∧ Stp p { p with ar := p.ar.set k { x with dv := v', data := l } } w w' ∧ Fr (fun i => i = p.g) w w' := by
  apply F30_wp
  have key : ∀ {R : Value → World → Prop}, (callD Tryd.prog 66 #[.pointer (some ⟨p.hb, 0, none⟩), i64 ((k : Int) + 1)] w fun t20 w9 => callD Tryd.prog 65 #[v] w9 fun t22 w10 => Go.Vc.Safe (t20) ∧
      V Tryd.prog (Instr.fieldAt 105 t20 4) w10 fun t24 w12 => U Tryd.prog (Instr.storeAt 40 t24 t22) w12 fun _ w13 => R (Value.bool true) w13) → F30_den (.pointer (some ⟨p.hb, 0, none⟩)) (i64 ((k : Int) + 1)) v w R := by
    intro R hgo
    unfold F30_den
    obtain ⟨a, c, rfl⟩ := hv.shape
    refine V_neqI.2 ?_
    have h2 : k = 0 ∨ k = 1 := by omega
    rcases h2 with rfl | rfl
    · simp only [show decide ((((0 : Nat) : Int) + 1) ≠ 1) = false by decide, gd_f, gd_ft, pickD_iff, reduceIte, Bool.false_eq_true]
      refine V_ln_40.2 ?_
      refine V_gtr.2 ?_
      simp only [show ¬ (((l.length : Nat) : Int) > 64) by omega, ifD_false, decide_false]
      exact hgo
    · simp only [show decide ((((1 : Nat) : Int) + 1) ≠ 1) = true by decide, show decide ((((1 : Nat) : Int) + 1) ≠ 2) = false by decide, V_neqI, gd_t, gd_f, pickD_iff, reduceIte, Bool.false_eq_true]
      refine V_ln_40.2 ?_
      refine V_gtr.2 ?_
      simp only [show ¬ (((l.length : Nat) : Int) > 64) by omega, ifD_false, decide_false]
      exact hgo
  refine key ?_
  have hkl : k < p.ar.length := (List.getElem?_eq_some_iff.1 hx).1
  refine (atG_ok h.h).mono fun r w1 ⟨hr, hw⟩ => ?_
  rw [atG_in rfl hkl] at hr
  subst hr; have hw := hw.symm; subst hw
  refine (cloneA_ok hv (by omega)).mono fun v' w1 ⟨ho, x1⟩ => ?_
  have h1 := h.ext x1
  have hBw := h.h.lt
  refine ⟨.inl ⟨_, rfl⟩, ?_⟩
  refine V.ok r_fd_105_4 ?_
  refine U.ok (r_store inf40 (own_one ho) (h1.h.get hx (by omega : 4 < 5)) (h1.h.row.frozenAt _)) ?_
  obtain ⟨h2, mu2, f2⟩ := h1.setDv hx hl hok (own_mono ho hBw) fun i hi => by
    have hi' := (ho.lt i hi).1
    exact ⟨fun hm => by have := h.hi i (.inl hm); omega, fun hm => by have := h.hi i (.inr hm); omega⟩
  refine ⟨v', h2, ⟨rfl, rfl, rfl, rfl, rfl, rfl, rfl, fun i hi => ?_, ((Fr.of_ext (S := fun i => i = p.g) x1).trans f2 fun _ _ h => h).mono fun i hi => .inl (.inr (.inr (.inl hi)))⟩, (Fr.of_ext (S := fun i => i = p.g) x1).trans f2 fun _ _ h => h⟩
  rcases hi with hi | hi
  · rcases mu2 i hi with hm | hm
    · exact .inl hm
    · exact .inr (.inr (ho.lt i hm).1)
  · exact .inr (.inl hi)
theorem RoomT.clear (h : RoomT p w) : RoomT { p with pub := .slice none 0 0, sec := .slice none 0 0, tp := [], ts := [] } ((w.setCell ⟨p.rb, 0 + 3, none⟩ (.slice none 0 0)).setCell ⟨p.rb, 0 + 4, none⟩ (.slice none 0 0)) ∧ Fr (fun i => i = p.rb) w ((w.setCell ⟨p.rb, 0 + 3, none⟩ (.slice none 0 0)).setCell ⟨p.rb, 0 + 4, none⟩ (.slice none 0 0)) := by
  have r1 := h.room.set (j := 3) (by simp) (.slice none 0 0)
  have r2 := r1.set (j := 4) (by simp) (.slice none 0 0)
  have f1 : Fr (fun i => i = p.rb) w (w.setCell ⟨p.rb, 0 + 3, none⟩ (.slice none 0 0)) := Fr.of_set rfl
  have f : Fr (fun i => i = p.rb) w ((w.setCell ⟨p.rb, 0 + 3, none⟩ (.slice none 0 0)).setCell ⟨p.rb, 0 + 4, none⟩ (.slice none 0 0)) := f1.set rfl
  have hf := fun a ha => (h.fresh p.rb (.inl rfl)).2.1 a ha
  refine ⟨⟨r2, h.h.frT f fun i hi => ⟨fun e => h.lt (hi ▸ e), fun e => (h.fresh p.rb (.inl rfl)).1 (hi ▸ e), fun a ha e => hf a ha (hi ▸ e)⟩, ⟨rfl, .inl ⟨rfl, rfl⟩⟩, ⟨rfl, .inl ⟨rfl, rfl⟩⟩, by simp, by simp, fun x hx => (by cases hx), fun a ha x hx => (by simp [Value.ownBlock]), fun a ha x hx => (by simp [Value.ownBlock]), fun hx => (by cases hx), fun hx => (by cases hx), h.lt, fun y hy => ⟨(h.fresh y hy).1, (h.fresh y hy).2.1, fun hx => (by cases hx), fun hx => (by cases hx)⟩,
    f.blk h.tbox fun e => h.tfr _ (.inl rfl) (.inl e), f.own h.trow fun i hi e => h.tfr i (.inr hi) (.inl e), h.tne, fun i ht hm => ?_, h.two, h.sz, h.bytes⟩, f⟩
  refine h.tfr i ht ?_
  rcases hm with hm | hm | hm | hm | hm | hm
  · exact .inl hm
  · exact .inr (.inl hm)
  · exact .inr (.inr (.inl hm))
  · exact .inr (.inr (.inr (.inl hm)))
  · cases hm
  · cases hm
def sBegin (s : PS) (a b : List Int) : Bool × PS := if a.length > 64 ∨ b.length > 64 then (false, s) else (true, { s with ar := setP (setP s.ar 1 a) 2 b, tp := [], ts := [] })
theorem set_dv {ar : List Arr} {r : Int} {k : Nat} {x : Arr} (hk : ar[k]? = some x) (hr : r = (k : Int) + 1) (v' : Value) (d : List Int) : (ar.set k { x with dv := v', data := d }).map pa = setP (ar.map pa) r d := by
  unfold setP
  rw [List.getElem?_map, show r.toNat - 1 = k by omega, hk, map_set]
  rfl
set_option maxHeartbeats 1600000 in
theorem beginT_ok (h : RoomT p w) {pv qv : Value} {a b : List Int} (ha : ArgsU8 w pv a) (hb : ∀ w', Fr (fun i => MuP p i ∨ TbP p i) w w' → ArgsU8 w' qv b) (oka : okB a) (okb : okB b) :
    callD Tryd.prog 18 #[rmT p, pv, qv] w fun r w' => ∃ p', r = .bool (sBegin p.ps a b).1 ∧ p'.ps = (sBegin p.ps a b).2 ∧ RoomT p' w' ∧ Stp p p' w w' := by
  apply F18_wp
  unfold F18_den
  obtain ⟨a1, c1, rfl⟩ := ha.shape
  obtain ⟨b1, d1, rfl⟩ := (hb w (Fr.refl _ _)).shape
  refine V_ln_40.2 (V_gtr.2 ?_)
  by_cases h1 : ((a.length : Nat) : Int) > 64
  · simp only [h1, gd_tf, pickD_iff, ifD_true, reduceIte, decide_true]
    refine ⟨p, ?_, ?_, h, Stp.of_ext (Ext.refl _)⟩ <;> unfold sBegin <;> rw [if_pos (.inl (by omega))]
  simp only [h1, gd_f, pickD_iff, reduceIte, Bool.false_eq_true, decide_false]
  refine V_ln_40.2 (V_gtr.2 ?_)
  by_cases h2 : ((b.length : Nat) : Int) > 64
  · simp only [h2, ifD_true, decide_true]
    refine ⟨p, ?_, ?_, h, Stp.of_ext (Ext.refl _)⟩ <;> unfold sBegin <;> rw [if_pos (.inr (by omega))]
  simp only [h2, ifD_false, decide_false]
  have hno : ¬ (a.length > 64 ∨ b.length > 64) := by omega
  have htwo := h.two
  obtain ⟨x, hx⟩ := ex_get (l := p.ar) (j := 0) (by omega)
  obtain ⟨y, hy⟩ := ex_get (l := p.ar) (j := 1) (by omega)
  refine ⟨.inl ⟨_, rfl⟩, ?_⟩
  refine ldB h.room.boxed (by first | exact fa_105_0 | exact fa_105_1 | exact fa_105_2 | exact fa_105_3 | exact fa_105_4 | exact fa_116_0 | exact fa_116_1 | exact fa_120_0 | exact fa_120_1 | exact fa_42_0 | exact fa_42_1 | exact fa_42_2 | exact fa_42_3 | exact fa_42_4 | exact fa_42_5 | exact fa_42_6 | exact fa_57_0 | exact fa_63_0 | exact fa_63_2 | exact fa_63_3 | exact fa_63_4 | exact fa_80_0 | exact fa_80_2 | exact fa_80_3 | exact fa_80_4 | exact fa_91_0 | exact fa_95_0 | exact fa_95_1 | exact fa_95_2 | exact fa_95_3 | exact fa_95_4 | exact fa_95_5) (by first | exact l1_114 | exact l1_21 | exact l1_23 | exact l1_3 | exact l1_32 | exact l1_39 | exact l1_4 | exact l1_40 | exact l1_5 | exact l1_50 | exact l1_55 | exact l1_59 | exact l1_61 | exact l1_76) rfl ?_
  refine (setbufT_ok h (k := 0) (by omega) hx ha (by omega) oka).mono fun _ w1 ⟨v1, g1, s1, f1⟩ => ?_
  refine ⟨.inl ⟨_, rfl⟩, ?_⟩
  refine ldB g1.room.boxed (by first | exact fa_105_0 | exact fa_105_1 | exact fa_105_2 | exact fa_105_3 | exact fa_105_4 | exact fa_116_0 | exact fa_116_1 | exact fa_120_0 | exact fa_120_1 | exact fa_42_0 | exact fa_42_1 | exact fa_42_2 | exact fa_42_3 | exact fa_42_4 | exact fa_42_5 | exact fa_42_6 | exact fa_57_0 | exact fa_63_0 | exact fa_63_2 | exact fa_63_3 | exact fa_63_4 | exact fa_80_0 | exact fa_80_2 | exact fa_80_3 | exact fa_80_4 | exact fa_91_0 | exact fa_95_0 | exact fa_95_1 | exact fa_95_2 | exact fa_95_3 | exact fa_95_4 | exact fa_95_5) (by first | exact l1_114 | exact l1_21 | exact l1_23 | exact l1_3 | exact l1_32 | exact l1_39 | exact l1_4 | exact l1_40 | exact l1_5 | exact l1_50 | exact l1_55 | exact l1_59 | exact l1_61 | exact l1_76) rfl ?_
  have hy1 : (p.ar.set 0 { x with dv := v1, data := a })[1]? = some y := by rw [List.getElem?_set_ne (by decide)]; exact hy
  refine (setbufT_ok g1 (k := 1) (by omega) hy1 (hb w1 s1.fr) (by omega) okb).mono fun _ w2 ⟨v2, g2, s2, f2⟩ => ?_
  have S2 := s1.trans s2
  refine ⟨.inl ⟨_, rfl⟩, ?_⟩
  refine V.ok r_fd_80_3 ?_
  refine stFS inf40 g2.room rfl (by simp) rfl ?_
  have r3 := g2.room.set (j := 3) (by simp) (.slice none 0 0)
  refine ⟨.inl ⟨_, rfl⟩, ?_⟩
  refine V.ok r_fd_80_4 ?_
  refine stFS inf40 r3 rfl (by simp) rfl ?_
  obtain ⟨g4, f4⟩ := g2.clear
  refine ⟨_, ?_, ?_, g4, S2.trans ⟨rfl, rfl, rfl, rfl, rfl, rfl, rfl, fun i hi => ?_, f4.mono fun i hi => .inl (.inl hi)⟩⟩
  · unfold sBegin; rw [if_neg hno]
  · unfold sBegin; rw [if_neg hno]
    show (⟨p.size, ((p.ar.set 0 { x with dv := v1, data := a }).set 1 { y with dv := v2, data := b }).map pa, [], [], p.tr⟩ : PS) = _
    rw [set_dv (r := 2) hy1 (by omega), set_dv (r := 1) hx (by omega)]
    rfl
  · rcases hi with (hm | hm | hm | hm | hm | hm) | hi
    · exact .inl (.inl hm)
    · exact .inl (.inr (.inl hm))
    · exact .inl (.inr (.inr (.inl hm)))
    · exact .inl (.inr (.inr (.inr (.inl hm))))
    · cases hm
    · cases hm
    · exact .inr (.inl hi)
theorem toldT_ok (h : RoomT p w) : callD Tryd.prog 51 #[rmT p] w fun r w' => (∃ v1 v2, r = .tuple #[v1, v2] ∧ BytesAre w' v1 p.tp ∧ BytesAre w' v2 p.ts) ∧ Ext w w' := by
  apply F51_wp
  unfold F51_den
  have m1 := h.lp; have m2 := h.ls
  have D : Ext w w.drew := (Ext.refl _).drew
  refine drawD.mk' (fun w' => Ext w w') D ⟨.inl ⟨_, rfl⟩, ?_⟩
  refine yfB (fun w' hw => (h.room.ext hw).boxed) (by first | exact fa_105_0 | exact fa_105_1 | exact fa_105_2 | exact fa_105_3 | exact fa_105_4 | exact fa_116_0 | exact fa_116_1 | exact fa_120_0 | exact fa_120_1 | exact fa_42_0 | exact fa_42_1 | exact fa_42_2 | exact fa_42_3 | exact fa_42_4 | exact fa_42_5 | exact fa_42_6 | exact fa_57_0 | exact fa_63_0 | exact fa_63_2 | exact fa_63_3 | exact fa_63_4 | exact fa_80_0 | exact fa_80_2 | exact fa_80_3 | exact fa_80_4 | exact fa_91_0 | exact fa_95_0 | exact fa_95_1 | exact fa_95_2 | exact fa_95_3 | exact fa_95_4 | exact fa_95_5) (by first | exact l1_114 | exact l1_21 | exact l1_23 | exact l1_3 | exact l1_32 | exact l1_39 | exact l1_4 | exact l1_40 | exact l1_5 | exact l1_50 | exact l1_55 | exact l1_59 | exact l1_61 | exact l1_76) rfl ⟨.inl ⟨_, rfl⟩, ?_⟩
  refine yfB (fun w' hw => (h.room.ext hw).boxed) (by first | exact fa_105_0 | exact fa_105_1 | exact fa_105_2 | exact fa_105_3 | exact fa_105_4 | exact fa_116_0 | exact fa_116_1 | exact fa_120_0 | exact fa_120_1 | exact fa_42_0 | exact fa_42_1 | exact fa_42_2 | exact fa_42_3 | exact fa_42_4 | exact fa_42_5 | exact fa_42_6 | exact fa_57_0 | exact fa_63_0 | exact fa_63_2 | exact fa_63_3 | exact fa_63_4 | exact fa_80_0 | exact fa_80_2 | exact fa_80_3 | exact fa_80_4 | exact fa_91_0 | exact fa_95_0 | exact fa_95_1 | exact fa_95_2 | exact fa_95_3 | exact fa_95_4 | exact fa_95_5) (by first | exact l1_114 | exact l1_21 | exact l1_23 | exact l1_3 | exact l1_32 | exact l1_39 | exact l1_4 | exact l1_40 | exact l1_5 | exact l1_50 | exact l1_55 | exact l1_59 | exact l1_61 | exact l1_76) rfl ?_
  refine (clone_u8 (SliceIs.of_own (D.own h.qp)) (by omega)).mono fun v1 w1 ⟨ho1, x1⟩ => ?_
  have X1 := D.trans x1
  refine ⟨X1, ?_⟩
  refine (clone_u8 (SliceIs.of_own (X1.own h.qs)) (by omega)).mono fun v2 w2 ⟨ho2, x2⟩ => ?_
  exact ⟨X1.trans x2, ⟨_, _, rfl, SliceIs.of_own (x2.own ho1), SliceIs.of_own ho2⟩, X1.trans x2⟩
theorem heapOfT_ok (h : RoomT p w) : callD Tryd.prog 52 #[rmT p] w fun r w' => r = .pointer (some ⟨p.hb, 0, none⟩) ∧ w' = w := by
  apply F52_wp
  unfold F52_den
  exact ⟨.inl ⟨_, rfl⟩, ldB h.room.boxed (by first | exact fa_105_0 | exact fa_105_1 | exact fa_105_2 | exact fa_105_3 | exact fa_105_4 | exact fa_116_0 | exact fa_116_1 | exact fa_120_0 | exact fa_120_1 | exact fa_42_0 | exact fa_42_1 | exact fa_42_2 | exact fa_42_3 | exact fa_42_4 | exact fa_42_5 | exact fa_42_6 | exact fa_57_0 | exact fa_63_0 | exact fa_63_2 | exact fa_63_3 | exact fa_63_4 | exact fa_80_0 | exact fa_80_2 | exact fa_80_3 | exact fa_80_4 | exact fa_91_0 | exact fa_95_0 | exact fa_95_1 | exact fa_95_2 | exact fa_95_3 | exact fa_95_4 | exact fa_95_5) (by first | exact l1_114 | exact l1_21 | exact l1_23 | exact l1_3 | exact l1_32 | exact l1_39 | exact l1_4 | exact l1_40 | exact l1_5 | exact l1_50 | exact l1_55 | exact l1_59 | exact l1_61 | exact l1_76) rfl ⟨rfl, rfl⟩⟩
theorem hcountT_ok (h : RoomT p w) : callD Tryd.prog 54 #[.pointer (some ⟨p.hb, 0, none⟩)] w fun r w' => r = i64 ((p.ar.length : Nat) : Int) ∧ w' = w := by
  apply F54_wp
  unfold F54_den
  exact ⟨.inl ⟨_, rfl⟩, ldB h.h.heap.boxed (by first | exact fa_105_0 | exact fa_105_1 | exact fa_105_2 | exact fa_105_3 | exact fa_105_4 | exact fa_116_0 | exact fa_116_1 | exact fa_120_0 | exact fa_120_1 | exact fa_42_0 | exact fa_42_1 | exact fa_42_2 | exact fa_42_3 | exact fa_42_4 | exact fa_42_5 | exact fa_42_6 | exact fa_57_0 | exact fa_63_0 | exact fa_63_2 | exact fa_63_3 | exact fa_63_4 | exact fa_80_0 | exact fa_80_2 | exact fa_80_3 | exact fa_80_4 | exact fa_91_0 | exact fa_95_0 | exact fa_95_1 | exact fa_95_2 | exact fa_95_3 | exact fa_95_4 | exact fa_95_5) (by first | exact l1_114 | exact l1_21 | exact l1_23 | exact l1_3 | exact l1_32 | exact l1_39 | exact l1_4 | exact l1_40 | exact l1_5 | exact l1_50 | exact l1_55 | exact l1_59 | exact l1_61 | exact l1_76) rfl (V_ln_114.2 ⟨rfl, rfl⟩)⟩
theorem tlenT_ok (h : RoomT p w) : callD Tryd.prog 53 #[tbT p] w fun r w' => r = i64 ((p.tr.length : Nat) : Int) ∧ w' = w := by
  apply F53_wp
  unfold F53_den
  refine V.ok (r_eqPtr Tryd.underlying50) (ifD_false.2 ⟨.inl ⟨_, rfl⟩, ?_⟩)
  exact ldB h.tbox.boxed (by first | exact fa_105_0 | exact fa_105_1 | exact fa_105_2 | exact fa_105_3 | exact fa_105_4 | exact fa_116_0 | exact fa_116_1 | exact fa_120_0 | exact fa_120_1 | exact fa_42_0 | exact fa_42_1 | exact fa_42_2 | exact fa_42_3 | exact fa_42_4 | exact fa_42_5 | exact fa_42_6 | exact fa_57_0 | exact fa_63_0 | exact fa_63_2 | exact fa_63_3 | exact fa_63_4 | exact fa_80_0 | exact fa_80_2 | exact fa_80_3 | exact fa_80_4 | exact fa_91_0 | exact fa_95_0 | exact fa_95_1 | exact fa_95_2 | exact fa_95_3 | exact fa_95_4 | exact fa_95_5) (by first | exact l1_114 | exact l1_21 | exact l1_23 | exact l1_3 | exact l1_32 | exact l1_39 | exact l1_4 | exact l1_40 | exact l1_5 | exact l1_50 | exact l1_55 | exact l1_59 | exact l1_61 | exact l1_76) rfl (lnx xa_55 (SliceIs.of_own h.trow) ⟨rfl, rfl⟩)
theorem allT_ok (h : RoomT p w) (hl : p.tr.length ≤ 100000) : callD Tryd.prog 24 #[tbT p] w fun r w' => SliceIs w' r 4 p.tr.length (trC p.tr) ∧ Ext w w' := by
  apply F24_wp
  unfold F24_den
  refine V.ok (r_eqPtr Tryd.underlying50) (ifD_false.2 ⟨.inl ⟨_, rfl⟩, ?_⟩)
  refine ldB h.tbox.boxed (by first | exact fa_105_0 | exact fa_105_1 | exact fa_105_2 | exact fa_105_3 | exact fa_105_4 | exact fa_116_0 | exact fa_116_1 | exact fa_120_0 | exact fa_120_1 | exact fa_42_0 | exact fa_42_1 | exact fa_42_2 | exact fa_42_3 | exact fa_42_4 | exact fa_42_5 | exact fa_42_6 | exact fa_57_0 | exact fa_63_0 | exact fa_63_2 | exact fa_63_3 | exact fa_63_4 | exact fa_80_0 | exact fa_80_2 | exact fa_80_3 | exact fa_80_4 | exact fa_91_0 | exact fa_95_0 | exact fa_95_1 | exact fa_95_2 | exact fa_95_3 | exact fa_95_4 | exact fa_95_5) (by first | exact l1_114 | exact l1_21 | exact l1_23 | exact l1_3 | exact l1_32 | exact l1_39 | exact l1_4 | exact l1_40 | exact l1_5 | exact l1_50 | exact l1_55 | exact l1_59 | exact l1_61 | exact l1_76) rfl ?_
  have hs := SliceIs.of_own h.trow
  refine callD.mono (R := fun r w' => SliceIs w' r 4 p.tr.length (trC p.tr) ∧ Ext w w') ?_ fun _ _ h => h
  apply F57_wp
  unfold F57_den
  obtain ⟨a, c, hv⟩ := hs.shape
  rw [hv] at hs ⊢
  refine V.ok (r_eqNilSlice Tryd.underlying55) ?_
  cases a with
  | none =>
    refine ifD_true.2 ⟨?_, Ext.refl _⟩
    rcases hs.2 with ⟨he, h0⟩ | ⟨_, _, _, he, _⟩
    · rw [he] at hs
      exact hs
    · simp at he
  | some a =>
    refine ifD_false.2 ?_
    refine V.ok (v := .slice (some ⟨w.heap.size, 0, none⟩) 0 0) (w' := w.alloc (.cells (([] : List Value)).toArray 74)) (by kernel_rfl) ?_
    have hb1 : Blk (w.alloc (.cells (([] : List Value)).toArray 74)) w.heap.size [] 74 := by unfold Blk; rw [heap_alloc_new]
    have x1 : Ext w (w.alloc (.cells (([] : List Value)).toArray 74)) := (Ext.refl _).alloc _
    generalize w.alloc (.cells (([] : List Value)).toArray 74) = w1 at hb1 x1 ⊢
    have ho1 : w1.ownsRow w.heap.size 74 4 (.slice (some ⟨w.heap.size, 0, none⟩) 0 0) 0 [] := own_blk hb1 rfl (Nat.le_refl _) (by unfold maxLen; omega)
    have s1 := x1.size
    refine apA Tryd.underlying55 inf74 rfl (by omega) ho1 (hs.ext x1) (trC_one _) (by omega) (by unfold maxLen; omega) (by omega) fun v2 w2 ho2 hg => ?_
    rw [Nat.zero_add, List.nil_append] at ho2
    exact ⟨SliceIs.of_own ho2, x1.grown hg fun k hk => (ho1.lt k hk).1⟩
end
end Go.Proofs.YtgjmpnngheohbaaDoor
