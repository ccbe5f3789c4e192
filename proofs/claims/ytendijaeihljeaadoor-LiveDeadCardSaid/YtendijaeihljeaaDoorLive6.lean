/- Package live: the contract of Ahead; closed programs. -/
import Derived.Test.YtendijaeihljeaaDoorLive5
namespace Go.Vc
section
variable {P : Program} {w : World} {S : World → Prop} {L : Value → Prop}
theorem yA {t n b : Nat} {cs : List Value} (hb : ∀ w', S w' → Boxed w' b cs) (ht : ∃ d z by_, P.underlying t = some d ∧ aggB d = true ∧ Inf P t z n by_) (hl : cs.length = n) (hk : L (.agg cs.toArray)) : yieldS P S (Instr.loadAt t (.pointer (some ⟨b, 0, none⟩))) L := by
  obtain ⟨d, z, by_, h1, h2, h3⟩ := ht
  exact yieldS.ok (fun w' hw => r_loadAgg h1 h2 h3 hl fun j hj => by
    obtain ⟨u, hu⟩ : ∃ u, cs[j]? = some u := ⟨_, List.getElem?_eq_getElem hj⟩
    rw [hu]; exact hb w' hw j u hu) hk
variable {K : Value → World → Prop}
theorem pickT {x y : Value} (h : L x) : pickD (.bool true) x y L := pickD_mk (by simpa using h)
theorem pickF {x y : Value} (h : L y) : pickD (.bool false) x y L := pickD_mk (by simpa using h)
/-- m[k][r], guarded by what is true. -/
theorem gRead {tm tr tb : TypeId} {v u : Value} {N n : Nat} {cs : List Value} {row : List Value} {k r : Int} {b : Value} (hm : XA P tm 1) (lm : L1 P tr) (hr : XA P tr 1) (lr : L1 P tb)
    (hs : SliceIs w v 1 N cs) (hk0 : 0 ≤ k) (hk1 : k < N) (hu : cs[k.toNat]? = some u) (hs' : SliceIs w u 1 n row) (hr0 : 0 ≤ r) (hr1 : r < n) (hb : row[r.toNat]? = some b) (hK : K b w) :
    gd (.bool true) true (fun K => K v w) w fun t1 w1 => gd (.bool true) true (fun K => V P (Instr.indexAt tm t1 (i64 k)) w1 K) w1 fun t2 w2 => gd (.bool true) true (fun K => V P (Instr.loadAt tr t2) w2 K) w2 fun t3 w3 =>
    gd (.bool true) true (fun K => V P (Instr.indexAt tr t3 (i64 r)) w3 K) w3 fun t4 w4 => gd (.bool true) true (fun K => V P (Instr.loadAt tb t4) w4 K) w4 K := by
  refine gd_t.2 (gd_t.2 ?_)
  have h2 := ldx (K := fun t3 w3 => gd (.bool true) true (fun K => V P (Instr.indexAt tr t3 (i64 r)) w3 K) w3 fun t4 w4 => gd (.bool true) true (fun K => V P (Instr.loadAt tb t4) w4 K) w4 K) hm lm hs (k := .i64) hk0 hk1 hu
    (gd_t.2 (by have := ldx (K := K) hr lr hs' (k := .i64) hr0 hr1 hb hK; obtain ⟨p, w', h1, h2⟩ := this; exact ⟨p, w', h1, gd_t.2 h2⟩))
  obtain ⟨p, w', h3, h4⟩ := h2
  exact ⟨p, w', h3, gd_t.2 h4⟩
/-- len(m[k]), so guarded. -/
theorem gRowLen {tm tr ty : TypeId} {v u : Value} {N n m : Nat} {cs : List Value} {row : List Value} {k : Int} (hm : XA P tm 1) (lm : L1 P tr) (hr : XA P tr m)
    (hs : SliceIs w v 1 N cs) (hk0 : 0 ≤ k) (hk1 : k < N) (hu : cs[k.toNat]? = some u) (hs' : SliceIs w u 1 n row) (hK : K (i64 n) w) :
    gd (.bool true) true (fun K => K v w) w fun t1 w1 => gd (.bool true) true (fun K => V P (Instr.indexAt tm t1 (i64 k)) w1 K) w1 fun t2 w2 => gd (.bool true) true (fun K => V P (Instr.loadAt tr t2) w2 K) w2 fun t3 w3 =>
    gd (.bool true) true (fun K => V P (Builtin.len_ #[tr] ty #[t3]) w3 K) w3 K := by
  refine gd_t.2 (gd_t.2 ?_)
  obtain ⟨p, w', h3, h4⟩ := ldx (K := fun t3 w3 => gd (.bool true) true (fun K => V P (Builtin.len_ #[tr] ty #[t3]) w3 K) w3 K) hm lm hs (k := .i64) hk0 hk1 hu (gd_t.2 (lnx hr hs' hK))
  exact ⟨p, w', h3, gd_t.2 h4⟩
/-- l[r], so guarded. -/
theorem gRead1 {tr tb : TypeId} {v : Value} {n : Nat} {row : List Value} {r : Int} {b : Value} (hr : XA P tr 1) (lr : L1 P tb) (hs : SliceIs w v 1 n row) (hr0 : 0 ≤ r) (hr1 : r < n) (hb : row[r.toNat]? = some b) (hK : K b w) :
    gd (.bool true) true (fun K => K v w) w fun t1 w1 => gd (.bool true) true (fun K => V P (Instr.indexAt tr t1 (i64 r)) w1 K) w1 fun t4 w4 => gd (.bool true) true (fun K => V P (Instr.loadAt tb t4) w4 K) w4 K := by
  refine gd_t.2 (gd_t.2 ?_)
  obtain ⟨p, w', h3, h4⟩ := ldx (K := K) hr lr hs (k := .i64) hr0 hr1 hb hK
  exact ⟨p, w', h3, gd_t.2 h4⟩
theorem gLen {tr ty m : TypeId} {v : Value} {n : Nat} {row : List Value} (hr : XA P tr m) (hs : SliceIs w v 1 n row) (hK : K (i64 n) w) :
    gd (.bool true) true (fun K => K v w) w fun t1 w1 => gd (.bool true) true (fun K => V P (Builtin.len_ #[tr] ty #[t1]) w1 K) w1 K := gd_t.2 (gd_t.2 (lnx hr hs hK))
end
end Go.Vc
namespace Go.Proofs.YtendijaeihljeaaDoor
open Go.Vc

theorem MatIs.row {w : World} {v : Value} {N R : Nat} {m : Mx} (h : MatIs w v N R m) (hN : N ≤ 250) (hR : R ≤ 40) : ∃ cs, SliceIs w v 1 N cs ∧ ∀ k, k < N → ∃ u, cs[k]? = some u ∧ BoolsAre w u (rowL m k R) := by
  obtain ⟨g0, gs, rfl, hl, h1, h2⟩ := h
  refine ⟨_, h1.slice (by simpa using hl) (by unfold maxLen; omega), fun k hk => ?_⟩
  obtain ⟨g, hg⟩ := ex_get (l := gs) (j := k) (by omega)
  refine ⟨sl R g, by simp [hg], ?_⟩
  have := (h2 k g hg).slice (n := R) (by simp [rowL_len]) (by unfold maxLen; omega)
  unfold BoolsAre
  rw [rowL_len]; exact this

set_option maxHeartbeats 1600000 in
theorem Ahead_ok {p : GProg} {R : Nat} {pv : Value} {w : World} (hp : ProgIs w pv p) (hv : OkProg p) (hR : p.regs = R) :
    callD Tryd.prog 7 #[pv] w fun r w' => (∃ l : List Bool, l.length = R ∧ BoolsAre w' r l ∧ ∀ r < R, (l[r]? = some true ↔ AheadP p (Alive p) 0 r)) ∧ Ext w w' := by
  have hp0 := hp
  obtain ⟨ns, rfl, hns, hargs⟩ := hp
  have hns0 := hns
  obtain ⟨vs, hs, hvs⟩ := hns
  have hl1 := hv.l1; have hl2 := hv.l2; have hr1 := hv.r1; have hr2 := hv.r2
  obtain ⟨hpt, hrt⟩ := hv.at (k := 0) (by omega)
  obtain ⟨u, hu, hnu⟩ := hvs 0 _ hpt
  apply F7_wp
  unfold F7_den
  refine bx fun b w1 hb x1 => ?_
  refine ldA hb la_26 rfl ?_
  refine (check_ok (p := p) (hp0.ext x1) hv).mono fun r w2 ⟨hr, x2⟩ => ?_
  subst hr
  refine V_not.2 (ifD_false.2 ?_)
  have hb2 := hb.ext x2
  have X2 := x1.trans x2
  refine drawD.mk' (fun w' => Ext w2 w') (Ext.refl _).drew ?_
  refine yfB (fun w' hw => hb2.ext hw) (by first | exact fa_108_0 | exact fa_108_1 | exact fa_110_0 | exact fa_110_1 | exact fa_112_0 | exact fa_112_1 | exact fa_112_2 | exact fa_112_3 | exact fa_112_4 | exact fa_114_0 | exact fa_114_1 | exact fa_114_2 | exact fa_116_0 | exact fa_116_1 | exact fa_116_2 | exact fa_26_0 | exact fa_26_1 | exact fa_26_2 | exact fa_37_0 | exact fa_37_1 | exact fa_44_0 | exact fa_44_1 | exact fa_44_2 | exact fa_54_0 | exact fa_61_0 | exact fa_61_1 | exact fa_68_0 | exact fa_68_1 | exact fa_68_2 | exact fa_68_3 | exact fa_70_0 | exact fa_70_1 | exact fa_70_2 | exact fa_76_0 | exact fa_76_1 | exact fa_76_2 | exact fa_76_3 | exact fa_76_6 | exact fa_76_7 | exact fa_82_0 | exact fa_82_1 | exact fa_82_2 | exact fa_82_3 | exact fa_82_4 | exact fa_82_5 | exact fa_82_6 | exact fa_82_7 | exact fa_82_8 | exact fa_91_0 | exact fa_91_1 | exact fa_93_0 | exact fa_93_1 | exact fa_93_2 | exact fa_95_0 | exact fa_95_1 | exact fa_95_2 | exact fa_95_3 | exact fa_97_0 | exact fa_99_0 | exact fa_99_1) (by first | exact l1_21 | exact l1_24 | exact l1_28 | exact l1_3 | exact l1_35 | exact l1_4 | exact l1_42 | exact l1_52 | exact l1_58) rfl ?_
  refine ySl xa_24 l1_52 (hs.ext X2) (fun _ h => h) (by omega) (by omega) (by simpa using hu) ?_
  refine yA (fun w' hw => hb2.ext hw) la_26 rfl ?_
  refine (behind_ok (hp0.ext (X2.trans (Ext.refl _).drew)) hv hR).mono fun mv w3 ⟨⟨m, hm, ham⟩, x3⟩ => ?_
  have x3' : Ext w2 w3 := Ext.trans (Ext.refl _).drew x3
  refine ⟨x3', fun w' => Ext w3 w', fun w' h => x3'.trans h, Ext.refl _, ?_⟩
  obtain ⟨cs, hcs, hrow⟩ := hm.row hl2 (by omega)
  obtain ⟨rv, hrv, hrb⟩ := hrow 0 (by omega)
  refine ySl xa_58 l1_28 hcs (fun _ h => h) (by omega) (by omega) (by simpa using hrv) ?_
  have hdf : (p.at' 0).df < R := by rcases hrt.d with h | h <;> omega
  have hus : ∀ r ∈ (p.at' 0).us, 0 ≤ r ∧ r < ((rowL m 0 R).length : Int) := fun r hr => by have := hrt.u r hr; rw [rowL_len]; omega
  refine (ahead_ok (hnu.ext (X2.trans x3')) hrb (hargs _ (List.mem_of_getElem? hpt)) (by rw [rowL_len]; omega) (by rw [rowL_len]; exact hdf) hus).mono fun av w4 ⟨hav, x4⟩ => ?_
  refine ⟨x4, fun w' => Ext w3 w', fun _ h => h, x4, ⟨⟨_, ?_, (by have := SliceIs.of_own hav; unfold BoolsAre; rw [aheadL_len]; exact this), fun r hr => ?_⟩, (X2.trans x3').trans x4⟩⟩
  · rw [aheadL_len, rowL_len]
  · rw [aheadL_get (by rw [rowL_len]; exact hr) (fun x hx => (hus x hx).1)]
    rw [List.getD_eq_getElem?_getD, rowL_get hr]
    simp only [Option.getD_some, Option.some.injEq, Bool.or_eq_true, Bool.and_eq_true, decide_eq_true_eq]
    unfold AheadP
    rw [ham 0 r (by omega) hr]

/-- A matrix is closed under the way back: by reckoning. -/
def doneB (p : GProg) (R : Nat) (m : Mx) : Bool :=
  (List.range p.nodes.length).all fun k => ((p.at' k).nx k).all fun to => (List.range R).all fun r => !((p.at' to.toNat).us.contains (r : Int) || (decide ((r : Int) ≠ (p.at' to.toNat).df) && m to.toNat r)) || m k r
theorem doneB_done {p : GProg} {R : Nat} {m : Mx} (h : doneB p R m = true) : ∀ k < p.nodes.length, Done p R m k := by
  intro k hk to hto r hr ha
  have := List.all_eq_true.1 (List.all_eq_true.1 (List.all_eq_true.1 h k (List.mem_range.2 hk)) to hto) r (List.mem_range.2 hr)
  simp only [Int.toNat_natCast, Bool.or_eq_true, Bool.not_eq_true', Bool.or_eq_false_iff, Bool.and_eq_false_iff] at this
  rcases this with ⟨h1, h2⟩ | h
  · rcases ha with h3 | ⟨h3, h4⟩
    · have : (p.at' to).us.contains (r : Int) = true := by simpa using h3
      rw [this] at h1; cases h1
    · rcases h2 with h2 | h2
      · simp [h3] at h2
      · rw [h2] at h4; cases h4
  · exact h
end Go.Proofs.YtendijaeihljeaaDoor
