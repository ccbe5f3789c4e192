/- LiveFixed, walked. -/
import Derived.Test.YtcnilchopponmaaDoorLf1
namespace Go.Proofs.YtcnilchopponmaaDoor
open Go.Vc
theorem set_get {l : List Bool} {j r : Nat} {b : Bool} (hr : r < l.length) : (l.set j b)[r]? = some true ↔ (j = r ∧ b = true) ∨ (j ≠ r ∧ l[r]? = some true) := by
  by_cases h : j = r
  · subst h
    rw [List.getElem?_set_self hr]
    simp
  · rw [List.getElem?_set_ne h]
    simp [h]
theorem map_setB (l : List Bool) (j : Nat) (b : Bool) : (l.map Value.bool).set j (.bool b) = (l.set j b).map Value.bool := by rw [List.map_set]
theorem own_ints {w : World} {B : Nat} {v : Value} {l : List Int} (h : w.ownsRow B 3 1 v l.length (l.map i64)) : IntsAre w v l := SliceIs.of_own h
/-- What 'want' holds so far: of the first q nodes that come next. -/
def Wants (p : GProg) (nx : List Int) (R q : Nat) (ws : List Bool) : Prop := ws.length = R ∧ ∀ r, r < R → (ws[r]? = some true ↔ ∃ j to, j < q ∧ nx[j]? = some ((to : Nat) : Int) ∧ AheadP p (Alive p) to r)
set_option maxHeartbeats 8000000 in
theorem fixed_ok {lv : Value} {n : Nat} {regs params : Int} {w : World} (hl : RawsAre w lv n) (hb : BinsOk w) (known : ∀ w, callD Tryd.prog 7 #[] w fun v w' => v = .bool true ∧ Ext w w') :
    callD Tryd.prog 3 #[lv, i64 regs, i64 params] w fun r w' => r = .bool true ∧ Ext w w' := by
  apply F3_wp
  unfold F3_den
  refine (tame_ok hl hb).mono fun r w1 ⟨⟨p, ns, vs, hr, hop, hok, hr1, hr2, hn41, hargs⟩, x1⟩ => ?_
  subst hr
  obtain ⟨R, hR⟩ : ∃ R : Nat, p.regs = R := ⟨p.regs.toNat, by omega⟩
  have hnl := hok.l1
  obtain ⟨na, nc, rfl⟩ := (SliceIs.of_own hop.1).shape
  have hprog : ProgIs w1 (.agg #[i64 p.params, i64 p.regs, .slice na p.nodes.length nc]) p := ⟨_, rfl, ⟨vs, SliceIs.of_own hop.1, fun i m hi => by
    obtain ⟨u, h1, h2⟩ := hop.2 i m hi
    exact ⟨u, h1, h2.is⟩⟩, fun m hm => by have := hargs m hm; omega⟩
  refine asB (by first | exact sa_25 | exact sa_41 | exact sa_43 | exact sa_47 | exact sa_51 | exact sa_53 | exact sa_55 | exact sa_57 | exact sa_59 | exact sa_61 | exact sa_63 | exact sa_65 | exact sa_67 | exact sa_69 | exact sa_71 | exact sa_73 | exact sa_83 | exact sa_95) rfl rfl fun b w2 hbx x2 => ?_
  refine ldA hbx la_25 rfl ?_
  refine (behind_ok (hprog.ext x2) hok hR).mono fun mv w3 ⟨⟨m, hm, ham⟩, x3⟩ => ?_
  refine (known w3).mono fun r w4 ⟨hr, x4⟩ => ?_
  subst hr
  refine V_not.2 ?_
  simp only [Bool.not_true, gd_f]
  obtain ⟨cs, hcs, hrow⟩ := (hm.ext x4).row (by omega) (by omega)
  have hbx4 : Boxed w4 b [i64 p.params, i64 p.regs, .slice na p.nodes.length nc] := (hbx.ext x3).ext x4
  obtain ⟨ma, mc, rfl⟩ := hcs.shape
  have X4 : Ext w w4 := ((x1.trans x2).trans x3).trans x4
  have hprog4 := hprog.ext ((x2.trans x3).trans x4)
  refine V_ln_27.2 ?_
  refine ldB hbx4 (by first | exact fa_25_0 | exact fa_25_1 | exact fa_25_2 | exact fa_43_0 | exact fa_47_0 | exact fa_47_1 | exact fa_47_2 | exact fa_51_0 | exact fa_51_1 | exact fa_53_0 | exact fa_55_0 | exact fa_55_1 | exact fa_57_0 | exact fa_57_1 | exact fa_59_0 | exact fa_59_1 | exact fa_59_2 | exact fa_59_3 | exact fa_61_0 | exact fa_61_1 | exact fa_61_2 | exact fa_63_0 | exact fa_63_1 | exact fa_63_2 | exact fa_63_3 | exact fa_65_0 | exact fa_65_1 | exact fa_67_0 | exact fa_67_1 | exact fa_67_2 | exact fa_67_3 | exact fa_67_4 | exact fa_69_0 | exact fa_69_1 | exact fa_69_2 | exact fa_71_0 | exact fa_71_1 | exact fa_71_2 | exact fa_73_0 | exact fa_73_1 | exact fa_81_0 | exact fa_81_1 | exact fa_81_2 | exact fa_81_3 | exact fa_81_4 | exact fa_81_5 | exact fa_81_6 | exact fa_81_7 | exact fa_81_8 | exact fa_83_0 | exact fa_83_1 | exact fa_83_2 | exact fa_83_3 | exact fa_83_6 | exact fa_83_7) (by first | exact l1_21 | exact l1_23 | exact l1_3 | exact l1_30 | exact l1_31 | exact l1_34 | exact l1_4 | exact l1_45) rfl ?_
  refine V_ln_23.2 (V_neqI.2 ?_)
  simp only [pickD_iff, Bool.false_eq_true, reduceIte]
  refine ifD_dec (fun h => absurd rfl h) fun _ => ?_
  refine ⟨fun v w' => ∃ i : Nat, v = i64 i ∧ i ≤ p.nodes.length ∧ Ext w4 w', fun v _ => p.nodes.length - (RowKit.intOf v).toNat, ⟨0, rfl, Nat.zero_le _, Ext.refl _⟩, ?_⟩
  rintro _ w5 ⟨i, rfl, hi, x5⟩ _
  refine ldB (hbx4.ext x5) (by first | exact fa_25_0 | exact fa_25_1 | exact fa_25_2 | exact fa_43_0 | exact fa_47_0 | exact fa_47_1 | exact fa_47_2 | exact fa_51_0 | exact fa_51_1 | exact fa_53_0 | exact fa_55_0 | exact fa_55_1 | exact fa_57_0 | exact fa_57_1 | exact fa_59_0 | exact fa_59_1 | exact fa_59_2 | exact fa_59_3 | exact fa_61_0 | exact fa_61_1 | exact fa_61_2 | exact fa_63_0 | exact fa_63_1 | exact fa_63_2 | exact fa_63_3 | exact fa_65_0 | exact fa_65_1 | exact fa_67_0 | exact fa_67_1 | exact fa_67_2 | exact fa_67_3 | exact fa_67_4 | exact fa_69_0 | exact fa_69_1 | exact fa_69_2 | exact fa_71_0 | exact fa_71_1 | exact fa_71_2 | exact fa_73_0 | exact fa_73_1 | exact fa_81_0 | exact fa_81_1 | exact fa_81_2 | exact fa_81_3 | exact fa_81_4 | exact fa_81_5 | exact fa_81_6 | exact fa_81_7 | exact fa_81_8 | exact fa_83_0 | exact fa_83_1 | exact fa_83_2 | exact fa_83_3 | exact fa_83_6 | exact fa_83_7) (by first | exact l1_21 | exact l1_23 | exact l1_3 | exact l1_30 | exact l1_31 | exact l1_34 | exact l1_4 | exact l1_45) rfl ?_
  refine V_ln_23.2 (V_lss.2 (ifD_dec (fun hlt => ?_) fun hge => ?_))
  · have hi' : i < p.nodes.length := by omega
    refine ldB (hbx4.ext x5) (by first | exact fa_25_0 | exact fa_25_1 | exact fa_25_2 | exact fa_43_0 | exact fa_47_0 | exact fa_47_1 | exact fa_47_2 | exact fa_51_0 | exact fa_51_1 | exact fa_53_0 | exact fa_55_0 | exact fa_55_1 | exact fa_57_0 | exact fa_57_1 | exact fa_59_0 | exact fa_59_1 | exact fa_59_2 | exact fa_59_3 | exact fa_61_0 | exact fa_61_1 | exact fa_61_2 | exact fa_63_0 | exact fa_63_1 | exact fa_63_2 | exact fa_63_3 | exact fa_65_0 | exact fa_65_1 | exact fa_67_0 | exact fa_67_1 | exact fa_67_2 | exact fa_67_3 | exact fa_67_4 | exact fa_69_0 | exact fa_69_1 | exact fa_69_2 | exact fa_71_0 | exact fa_71_1 | exact fa_71_2 | exact fa_73_0 | exact fa_73_1 | exact fa_81_0 | exact fa_81_1 | exact fa_81_2 | exact fa_81_3 | exact fa_81_4 | exact fa_81_5 | exact fa_81_6 | exact fa_81_7 | exact fa_81_8 | exact fa_83_0 | exact fa_83_1 | exact fa_83_2 | exact fa_83_3 | exact fa_83_6 | exact fa_83_7) (by first | exact l1_21 | exact l1_23 | exact l1_3 | exact l1_30 | exact l1_31 | exact l1_34 | exact l1_4 | exact l1_45) rfl ?_
    rw [hR]
    refine mkB Tryd.underlying30 inf4 rfl (n := R) (by omega) (by omega) fun w6 hw6 x6 hs6 => ?_
    have x56 := x5.trans x6
    have hwant : w6.ownsRow w5.heap.size 4 1 (.slice (some ⟨w5.heap.size, 0, none⟩) R R) R ((List.replicate R false).map Value.bool) := by
      have := blk_own (n := R) hw6 (by simp) (by unfold maxLen; omega)
      simpa using this
    obtain ⟨_, ns', hns', ⟨vs', hvs', hel'⟩, _⟩ : ∃ ns' , ∃ _ : True, True ∧ (∃ vs', SliceIs w4 (.slice na p.nodes.length nc) 1 p.nodes.length vs' ∧ ∀ (i : Nat) n, p.nodes[i]? = some n → ∃ u, vs'[i]? = some u ∧ NodeIs w4 u n) ∧ True := by
      obtain ⟨ns', h1, ⟨vs', h2, h3⟩, _⟩ := hprog4
      cases h1
      exact ⟨0, trivial, trivial, ⟨vs', h2, h3⟩, trivial⟩
    obtain ⟨hat, hrt⟩ := hok.at (k := i) hi'
    obtain ⟨u, hu, hnu⟩ := hel' i _ hat
    refine ldB (hbx4.ext x56) (by first | exact fa_25_0 | exact fa_25_1 | exact fa_25_2 | exact fa_43_0 | exact fa_47_0 | exact fa_47_1 | exact fa_47_2 | exact fa_51_0 | exact fa_51_1 | exact fa_53_0 | exact fa_55_0 | exact fa_55_1 | exact fa_57_0 | exact fa_57_1 | exact fa_59_0 | exact fa_59_1 | exact fa_59_2 | exact fa_59_3 | exact fa_61_0 | exact fa_61_1 | exact fa_61_2 | exact fa_63_0 | exact fa_63_1 | exact fa_63_2 | exact fa_63_3 | exact fa_65_0 | exact fa_65_1 | exact fa_67_0 | exact fa_67_1 | exact fa_67_2 | exact fa_67_3 | exact fa_67_4 | exact fa_69_0 | exact fa_69_1 | exact fa_69_2 | exact fa_71_0 | exact fa_71_1 | exact fa_71_2 | exact fa_73_0 | exact fa_73_1 | exact fa_81_0 | exact fa_81_1 | exact fa_81_2 | exact fa_81_3 | exact fa_81_4 | exact fa_81_5 | exact fa_81_6 | exact fa_81_7 | exact fa_81_8 | exact fa_83_0 | exact fa_83_1 | exact fa_83_2 | exact fa_83_3 | exact fa_83_6 | exact fa_83_7) (by first | exact l1_21 | exact l1_23 | exact l1_3 | exact l1_30 | exact l1_31 | exact l1_34 | exact l1_4 | exact l1_45) rfl ?_
    refine ldx xa_23 l1_34 (hvs'.ext x56) (by omega) (by omega) (by simpa using hu) ?_
    refine (next_ok (hnu.ext x56) (k := (i : Int)) (by omega) (by omega)).mono fun nv w7 ⟨hnv, x7⟩ => ?_
    have x57 := x56.trans x7
    have hnx2 := nx_len (p.at' i) i
    have hnxr := hrt.t
    have hnv' : w7.ownsRow (w5.heap.size + 1) 3 1 nv ((p.at' i).nx i).length (((p.at' i).nx i).map i64) := own_mono hnv (by omega)
    have hne : ∀ {w' : World} {B k : Nat} {v : Value} {xs : List Value}, w'.ownsRow (w5.heap.size + 1) 3 1 v k xs → v.ownBlock = none ∨ v.ownBlock ≠ some w5.heap.size := fun h => .inr (own_blk h (by omega))
    refine ⟨fun v w' => ∃ (q : Nat) (ws : List Bool), v = i64 q ∧ q ≤ ((p.at' i).nx i).length ∧ Ext w5 w' ∧ w'.ownsRow w5.heap.size 4 1 (.slice (some ⟨w5.heap.size, 0, none⟩) R R) R (ws.map Value.bool) ∧
        w'.ownsRow (w5.heap.size + 1) 3 1 nv ((p.at' i).nx i).length (((p.at' i).nx i).map i64) ∧ Wants p ((p.at' i).nx i) R q ws, fun v _ => ((p.at' i).nx i).length - (RowKit.intOf v).toNat,
      ⟨0, List.replicate R false, rfl, Nat.zero_le _, x6.trans x7, x7.own hwant, hnv', by simp, fun r hr => by simp [hr]⟩, ?_⟩
    rintro _ w8 ⟨q, ws, rfl, hq, x8, hws, hnv8, hwl, hwants⟩ _
    have hsn := own_ints hnv8
    obtain ⟨va, vc, rfl⟩ := hsn.shape
    have x58 := x5.trans x8
    refine V_ln_31.2 (V_lss.2 (ifD_dec (fun hql => ?_) fun hqg => ?_))
    · obtain ⟨tz, htz⟩ := ex_get (l := (p.at' i).nx i) (j := q) (by omega)
      have htr := hnxr tz (List.mem_of_getElem? htz)
      obtain ⟨to, rfl⟩ : ∃ to : Nat, tz = (to : Int) := ⟨tz.toNat, by omega⟩
      have hto : to < p.nodes.length := by omega
      obtain ⟨rv, hrv, hrb⟩ := hrow to hto
      have hrb' : SliceIs w4 rv 1 R ((rowL m to R).map Value.bool) := by have := hrb; unfold BoolsAre at this; rw [rowL_len] at this; exact this
      have D8 : Ext w8 w8.drew := (Ext.refl _).drew
      obtain ⟨ra, rc, rfl⟩ := hrb'.shape
      refine drawD.mk' (fun w' => Ext w8 w') D8 ?_
      refine ySl xa_31 l1_3 hsn (fun _ h => h) (by omega) (by omega) (getI htz) ?_
      refine yLss ?_
      have e1 : decide ((to : Int) < 0) = false := by simp
      rw [e1]
      simp only [gdY_f]
      refine ySl xa_31 l1_3 hsn (fun _ h => h) (by omega) (by omega) (getI htz) ?_
      refine yieldS.ok (fun w' _ => r_len Tryd.underlying27) ?_
      refine yGeq ?_
      have e2 : decide ((to : Int) ≥ ((p.nodes.length : Nat) : Int)) = false := by simp; omega
      rw [e2]
      simp only [pickD_iff, Bool.false_eq_true, reduceIte, gdY_f]
      refine ySl xa_31 l1_3 hsn (fun _ h => h) (by omega) (by omega) (getI htz) ?_
      refine ySl xa_27 l1_30 (hcs.ext x58) (fun _ h => h) (by omega) (by omega) (by simpa using hrv) ?_
      refine yieldS.ok (fun w' _ => r_len Tryd.underlying30) ?_
      refine yfB (fun w' hw => (hbx4.ext x58).ext hw) (by first | exact fa_25_0 | exact fa_25_1 | exact fa_25_2 | exact fa_43_0 | exact fa_47_0 | exact fa_47_1 | exact fa_47_2 | exact fa_51_0 | exact fa_51_1 | exact fa_53_0 | exact fa_55_0 | exact fa_55_1 | exact fa_57_0 | exact fa_57_1 | exact fa_59_0 | exact fa_59_1 | exact fa_59_2 | exact fa_59_3 | exact fa_61_0 | exact fa_61_1 | exact fa_61_2 | exact fa_63_0 | exact fa_63_1 | exact fa_63_2 | exact fa_63_3 | exact fa_65_0 | exact fa_65_1 | exact fa_67_0 | exact fa_67_1 | exact fa_67_2 | exact fa_67_3 | exact fa_67_4 | exact fa_69_0 | exact fa_69_1 | exact fa_69_2 | exact fa_71_0 | exact fa_71_1 | exact fa_71_2 | exact fa_73_0 | exact fa_73_1 | exact fa_81_0 | exact fa_81_1 | exact fa_81_2 | exact fa_81_3 | exact fa_81_4 | exact fa_81_5 | exact fa_81_6 | exact fa_81_7 | exact fa_81_8 | exact fa_83_0 | exact fa_83_1 | exact fa_83_2 | exact fa_83_3 | exact fa_83_6 | exact fa_83_7) (by first | exact l1_21 | exact l1_23 | exact l1_3 | exact l1_30 | exact l1_31 | exact l1_34 | exact l1_4 | exact l1_45) rfl ?_
      rw [hR]
      refine yieldS.ok (fun w' _ => r_neqI) ?_
      try simp only [pickD_iff, Bool.false_eq_true, reduceIte]
      refine ifD_dec (fun h => absurd rfl h) fun _ => ?_
      -- the node that comes next
      obtain ⟨hat2, hrt2⟩ := hok.at (k := to) hto
      obtain ⟨ut, hut, hnut⟩ := hel' to _ hat2
      have hargs2 := hargs _ (List.mem_of_getElem? hat2)
      have DD : Ext w8 w8.drew.drew := D8.trans (Ext.refl _).drew
      refine drawD.mk' (fun w' => Ext w8 w') DD ?_
      refine yfB (fun w' hw => (hbx4.ext x58).ext hw) (by first | exact fa_25_0 | exact fa_25_1 | exact fa_25_2 | exact fa_43_0 | exact fa_47_0 | exact fa_47_1 | exact fa_47_2 | exact fa_51_0 | exact fa_51_1 | exact fa_53_0 | exact fa_55_0 | exact fa_55_1 | exact fa_57_0 | exact fa_57_1 | exact fa_59_0 | exact fa_59_1 | exact fa_59_2 | exact fa_59_3 | exact fa_61_0 | exact fa_61_1 | exact fa_61_2 | exact fa_63_0 | exact fa_63_1 | exact fa_63_2 | exact fa_63_3 | exact fa_65_0 | exact fa_65_1 | exact fa_67_0 | exact fa_67_1 | exact fa_67_2 | exact fa_67_3 | exact fa_67_4 | exact fa_69_0 | exact fa_69_1 | exact fa_69_2 | exact fa_71_0 | exact fa_71_1 | exact fa_71_2 | exact fa_73_0 | exact fa_73_1 | exact fa_81_0 | exact fa_81_1 | exact fa_81_2 | exact fa_81_3 | exact fa_81_4 | exact fa_81_5 | exact fa_81_6 | exact fa_81_7 | exact fa_81_8 | exact fa_83_0 | exact fa_83_1 | exact fa_83_2 | exact fa_83_3 | exact fa_83_6 | exact fa_83_7) (by first | exact l1_21 | exact l1_23 | exact l1_3 | exact l1_30 | exact l1_31 | exact l1_34 | exact l1_4 | exact l1_45) rfl ?_
      refine ySl xa_31 l1_3 hsn (fun _ h => h) (by omega) (by omega) (getI htz) ?_
      refine ySl xa_23 l1_34 (hvs'.ext x58) (fun _ h => h) (by omega) (by omega) (by simpa using hut) ?_
      obtain ⟨IP, hIP⟩ : ∃ IP : Value → World → Prop, IP = fun v w' => ∃ (r : Nat) (ws' : List Bool), v = i64 r ∧ r ≤ R ∧ Ext w5 w' ∧ w'.ownsRow w5.heap.size 4 1 (.slice (some ⟨w5.heap.size, 0, none⟩) R R) R (ws'.map Value.bool) ∧
          w'.ownsRow (w5.heap.size + 1) 3 1 (.slice va ((p.at' i).nx i).length vc) ((p.at' i).nx i).length (((p.at' i).nx i).map i64) ∧ ws'.length = R ∧ ∀ s, s < R → (ws'[s]? = some true ↔ ws[s]? = some true ∨ (s < r ∧ m to s = true ∧ (s : Int) ≠ (p.at' to).df)) := ⟨_, rfl⟩
      refine ⟨IP, fun v _ => R - (RowKit.intOf v).toNat, by rw [hIP]; exact ⟨0, ws, rfl, Nat.zero_le _, x8.trans DD, DD.own hws, DD.own hnv8, hwl, fun s hs => by simp⟩, ?_⟩
      intro t14 w9 h9 _
      rw [hIP] at h9
      obtain ⟨r, ws', rfl, hr, x9, hws9, hnv9, hwl9, hw9⟩ := h9
      have x59 := x5.trans x9
      refine ldB (hbx4.ext x59) (by first | exact fa_25_0 | exact fa_25_1 | exact fa_25_2 | exact fa_43_0 | exact fa_47_0 | exact fa_47_1 | exact fa_47_2 | exact fa_51_0 | exact fa_51_1 | exact fa_53_0 | exact fa_55_0 | exact fa_55_1 | exact fa_57_0 | exact fa_57_1 | exact fa_59_0 | exact fa_59_1 | exact fa_59_2 | exact fa_59_3 | exact fa_61_0 | exact fa_61_1 | exact fa_61_2 | exact fa_63_0 | exact fa_63_1 | exact fa_63_2 | exact fa_63_3 | exact fa_65_0 | exact fa_65_1 | exact fa_67_0 | exact fa_67_1 | exact fa_67_2 | exact fa_67_3 | exact fa_67_4 | exact fa_69_0 | exact fa_69_1 | exact fa_69_2 | exact fa_71_0 | exact fa_71_1 | exact fa_71_2 | exact fa_73_0 | exact fa_73_1 | exact fa_81_0 | exact fa_81_1 | exact fa_81_2 | exact fa_81_3 | exact fa_81_4 | exact fa_81_5 | exact fa_81_6 | exact fa_81_7 | exact fa_81_8 | exact fa_83_0 | exact fa_83_1 | exact fa_83_2 | exact fa_83_3 | exact fa_83_6 | exact fa_83_7) (by first | exact l1_21 | exact l1_23 | exact l1_3 | exact l1_30 | exact l1_31 | exact l1_34 | exact l1_4 | exact l1_45) rfl ?_
      rw [hR]
      refine V_lss.2 (ifD_dec (fun hrl => ?_) fun hrg => ?_)
      · have hr' : r < R := by omega
        obtain ⟨bw, hbw⟩ := ex_get (l := ws') (j := r) (by omega)
        refine ldO' xa_30 l1_4 hws9 (by omega) (by omega) (getB hbw) ?_
        have hsn9 := own_ints hnv9
        have fin : ∀ (w10 : World) (bb : Bool), Ext w9 w10 → (bb = true ↔ (bw = true ∨ (m to r = true ∧ (r : Int) ≠ (p.at' to).df))) →
            V Tryd.prog (Instr.indexAt 30 (.slice (some ⟨w5.heap.size, 0, none⟩) R R) (i64 r)) w10 fun t121 w56 => U Tryd.prog (Instr.storeAt 4 t121 (.bool bb)) w56 fun _ w57 =>
            V Tryd.prog (binOp .add 3 (i64 r) (Value.int IntKind.i64 1)) w57 fun t96 w58 => IP t96 w58 ∧ R - (RowKit.intOf t96).toNat < R - (RowKit.intOf (i64 (r : Int))).toNat := by
          intro w10 bb x10 hbb
          refine stO xa_30 inf4 (x10.own hws9) (by omega) (by omega) rfl fun w11 ho11 hg11 => ?_
          refine V_add.2 ?_
          rw [wrap_id (by omega) (by omega), i64_succ]
          refine ⟨?_, by simp only [intOf_i64]; omega⟩
          rw [hIP]
          refine ⟨r + 1, ws'.set r bb, rfl, by omega, (x9.trans x10).grown hg11 fun k hk => by cases hk; exact Nat.le_refl _, by rw [← map_setB]; simpa using ho11, (x10.own hnv9).kept hg11 (.inr (own_blk (x10.own hnv9) (Nat.lt_succ_self _))), by simp [hwl9], fun s hs => ?_⟩
          rw [set_get (by omega)]
          have h10 := hw9 s hs
          by_cases hsr : r = s
          · subst hsr
            rw [hbw] at h10
            simp only [Option.some.injEq] at h10
            have h11 : bw = true ↔ ws[r]? = some true := h10.trans ⟨fun h => h.elim id fun h => absurd h.1 (Nat.lt_irrefl _), .inl⟩
            simp only [true_and, ne_eq, not_true_eq_false, false_and, or_false]
            rw [hbb, h11]
            constructor
            · rintro (h | ⟨h1, h2⟩)
              · exact .inl h
              · exact .inr ⟨by omega, h1, h2⟩
            · rintro (h | ⟨_, h1, h2⟩)
              · exact .inl h
              · exact .inr ⟨h1, h2⟩
          · simp only [hsr, false_and, ne_eq, not_false_eq_true, true_and, false_or]
            rw [h10]
            constructor
            · rintro (h | ⟨h1, h2⟩)
              · exact .inl h
              · exact .inr ⟨by omega, h2⟩
            · rintro (h | ⟨h1, h2⟩)
              · exact .inl h
              · exact .inr ⟨by omega, h2⟩
        cases bw with
        | true =>
          simp only [gd_tf, gd_undef, pickD_iff, reduceIte]
          exact fin w9 true (Ext.refl _) (by simp)
        | false =>
          simp only [gd_f]
          refine ldx xa_31 l1_3 hsn9 (by omega) (by omega) (getI htz) ?_
          refine ldx xa_27 l1_30 (hcs.ext x59) (by omega) (by omega) (by simpa using hrv) ?_
          refine ldx xa_30 l1_4 (hrb'.ext x59) (by omega) (by omega) (getB (rowL_get hr')) ?_
          cases hmr : m to r with
          | false =>
            simp only [gd_ft, pickD_iff, Bool.false_eq_true, reduceIte]
            exact fin w9 false (Ext.refl _) (by simp [hmr])
          | true =>
            simp only [gd_t]
            refine (def_ok (hnut.ext x59)).mono fun rr w10 ⟨hrr, x10⟩ => ?_
            subst hrr
            refine V_neqI.2 ?_
            simp only [pickD_iff, Bool.false_eq_true, reduceIte]
            exact fin w10 (decide ((p.at' to).df ≠ (r : Int))) x10 (by simp [hmr]; exact ⟨fun h e => h e.symm, fun h e => h e.symm⟩)
      · have hrR : r = R := by omega
        subst hrR
        refine (uses_ok (hnut.ext x59) (by omega)).mono fun uv w10 ⟨huv, x10⟩ => ?_
        have hus3 := us_len (p.at' to)
        have hs9 := x9.size
        have huv' : w10.ownsRow (w5.heap.size + 1) 3 1 uv (p.at' to).us.length ((p.at' to).us.map i64) := own_mono huv (by have hlt9 : w5.heap.size < w9.heap.size := (hws9.lt _ rfl).2; omega)
        obtain ⟨ua, uc, rfl⟩ := (own_ints huv').shape
        refine ⟨fun v w' => ∃ (j : Nat) (ws2 : List Bool), v = i64 j ∧ j ≤ (p.at' to).us.length ∧ Ext w5 w' ∧ w'.ownsRow w5.heap.size 4 1 (.slice (some ⟨w5.heap.size, 0, none⟩) r r) r (ws2.map Value.bool) ∧
            w'.ownsRow (w5.heap.size + 1) 3 1 (.slice va ((p.at' i).nx i).length vc) ((p.at' i).nx i).length (((p.at' i).nx i).map i64) ∧ w'.ownsRow (w5.heap.size + 1) 3 1 (.slice ua (p.at' to).us.length uc) (p.at' to).us.length ((p.at' to).us.map i64) ∧ ws2.length = r ∧
            ∀ s, s < r → (ws2[s]? = some true ↔ ws'[s]? = some true ∨ ∃ q', q' < j ∧ (p.at' to).us[q']? = some ((s : Nat) : Int)), fun v _ => (p.at' to).us.length - (RowKit.intOf v).toNat,
          ⟨0, ws', rfl, Nat.zero_le _, x9.trans x10, x10.own hws9, x10.own hnv9, huv', hwl9, fun s hs => by simp⟩, ?_⟩
        rintro _ w11 ⟨j, ws2, rfl, hj, x11, hws11, hnv11, huv11, hwl11, hw11⟩ _
        have x511 := x5.trans x11
        have hsu := own_ints huv11
        refine V_ln_31.2 (V_lss.2 (ifD_dec (fun hjl => ?_) fun hjg => ?_))
        · obtain ⟨uz, huz⟩ := ex_get (l := (p.at' to).us) (j := j) (by omega)
          have hur := hrt2.u uz (List.mem_of_getElem? huz)
          obtain ⟨s0, rfl⟩ : ∃ s0 : Nat, uz = (s0 : Int) := ⟨uz.toNat, by omega⟩
          have hs0 : s0 < r := by omega
          have D11 : Ext w11 w11.drew := (Ext.refl _).drew
          refine drawD.mk' (fun w' => Ext w11 w') D11 ?_
          refine ySl xa_31 l1_3 hsu (fun _ h => h) (by omega) (by omega) (getI huz) ?_
          refine yLss ?_
          have e3 : decide ((s0 : Int) < 0) = false := by simp
          rw [e3]
          simp only [gdY_f]
          refine ySl xa_31 l1_3 hsu (fun _ h => h) (by omega) (by omega) (getI huz) ?_
          refine yfB (fun w' hw => (hbx4.ext x511).ext hw) (by first | exact fa_25_0 | exact fa_25_1 | exact fa_25_2 | exact fa_43_0 | exact fa_47_0 | exact fa_47_1 | exact fa_47_2 | exact fa_51_0 | exact fa_51_1 | exact fa_53_0 | exact fa_55_0 | exact fa_55_1 | exact fa_57_0 | exact fa_57_1 | exact fa_59_0 | exact fa_59_1 | exact fa_59_2 | exact fa_59_3 | exact fa_61_0 | exact fa_61_1 | exact fa_61_2 | exact fa_63_0 | exact fa_63_1 | exact fa_63_2 | exact fa_63_3 | exact fa_65_0 | exact fa_65_1 | exact fa_67_0 | exact fa_67_1 | exact fa_67_2 | exact fa_67_3 | exact fa_67_4 | exact fa_69_0 | exact fa_69_1 | exact fa_69_2 | exact fa_71_0 | exact fa_71_1 | exact fa_71_2 | exact fa_73_0 | exact fa_73_1 | exact fa_81_0 | exact fa_81_1 | exact fa_81_2 | exact fa_81_3 | exact fa_81_4 | exact fa_81_5 | exact fa_81_6 | exact fa_81_7 | exact fa_81_8 | exact fa_83_0 | exact fa_83_1 | exact fa_83_2 | exact fa_83_3 | exact fa_83_6 | exact fa_83_7) (by first | exact l1_21 | exact l1_23 | exact l1_3 | exact l1_30 | exact l1_31 | exact l1_34 | exact l1_4 | exact l1_45) rfl ?_
          rw [hR]
          refine yGeq ?_
          have e4 : decide ((s0 : Int) ≥ ((r : Nat) : Int)) = false := by simp; omega
          rw [e4]
          simp only [pickD_iff, Bool.false_eq_true, reduceIte]
          refine ifD_false.2 ?_
          refine ldx xa_31 l1_3 (hsu.ext D11) (by omega) (by omega) (getI huz) ?_
          refine stO xa_30 inf4 (D11.own hws11) (by omega) (by omega) rfl fun w12 ho12 hg12 => ?_
          refine V_add.2 ?_
          rw [wrap_id (by omega) (by omega), i64_succ]
          refine ⟨⟨j + 1, ws2.set s0 true, rfl, by omega, (x11.trans D11).grown hg12 fun k hk => by cases hk; exact Nat.le_refl _, by rw [← map_setB]; simpa using ho12, (D11.own hnv11).kept hg12 (.inr (own_blk (D11.own hnv11) (Nat.lt_succ_self _))), (D11.own huv11).kept hg12 (.inr (own_blk (D11.own huv11) (Nat.lt_succ_self _))), by simp [hwl11], fun s hs => ?_⟩, by simp only [intOf_i64]; omega⟩
          rw [set_get (by omega), hw11 s hs]
          constructor
          · rintro (⟨rfl, _⟩ | ⟨_, h | ⟨q', h1, h2⟩⟩)
            · exact .inr ⟨j, by omega, huz⟩
            · exact .inl h
            · exact .inr ⟨q', by omega, h2⟩
          · intro h
            by_cases hss : s0 = s
            · exact .inl ⟨hss, rfl⟩
            · refine .inr ⟨hss, ?_⟩
              rcases h with h | ⟨q', h1, h2⟩
              · exact .inl h
              · refine .inr ⟨q', ?_, h2⟩
                have : q' ≠ j := fun e => by
                  subst e
                  rw [huz] at h2
                  simp at h2
                  exact hss (by omega)
                omega
        · refine V_add.2 ?_
          rw [wrap_id (by omega) (by omega), i64_succ]
          refine ⟨⟨q + 1, ws2, rfl, by omega, x11, hws11, hnv11, hwl11, fun s hs => ?_⟩, by simp only [intOf_i64]; omega⟩
          rw [hw11 s hs, hw9 s hs, hwants s hs]
          have hus : (∃ q', q' < j ∧ (p.at' to).us[q']? = some ((s : Nat) : Int)) ↔ (s : Int) ∈ (p.at' to).us := by
            constructor
            · rintro ⟨q', _, h2⟩; exact List.mem_of_getElem? h2
            · intro h
              obtain ⟨q', h2⟩ := List.getElem?_of_mem h
              exact ⟨q', by have := (List.getElem?_eq_some_iff.1 h2).1; omega, h2⟩
          rw [hus]
          have hal := ham to s hto hs
          constructor
          · rintro ((⟨j', to', h1, h2, h3⟩ | ⟨_, h1, h2⟩) | h)
            · exact ⟨j', to', by omega, h2, h3⟩
            · exact ⟨q, to, by omega, htz, .inr ⟨h2, hal.1 h1⟩⟩
            · exact ⟨q, to, by omega, htz, .inl h⟩
          · rintro ⟨j', to', h1, h2, h3⟩
            by_cases hjq : j' = q
            · subst hjq
              rw [htz] at h2
              simp at h2
              obtain rfl : to = to' := by omega
              rcases h3 with h3 | ⟨h3, h4⟩
              · exact .inr h3
              · exact .inl (.inr ⟨hs, hal.2 h4, h3⟩)
            · exact .inl (.inl ⟨j', to', by omega, h2, h3⟩)
    · obtain ⟨rv, hrv, hrb⟩ := hrow i hi'
      refine ldx xa_27 l1_30 (hcs.ext x58) (by omega) (by omega) (by simpa using hrv) ?_
      have hqq : q = ((p.at' i).nx i).length := by omega
      have heq : ws = rowL m i R := by
        apply List.ext_getElem?
        intro r
        by_cases hr : r < R
        · rw [rowL_get hr]
          have h1 := hwants r hr
          have h2 := ham i r hi' hr
          have h3 := alive_iff (p := p) (k := i) (r := r)
          have h4 : (∃ j to, j < q ∧ ((p.at' i).nx i)[j]? = some ((to : Nat) : Int) ∧ AheadP p (Alive p) to r) ↔ ∃ to : Nat, (to : Int) ∈ (p.at' i).nx i ∧ AheadP p (Alive p) to r := by
            constructor
            · rintro ⟨j, to, _, h5, h6⟩
              exact ⟨to, List.mem_of_getElem? h5, h6⟩
            · rintro ⟨to, h5, h6⟩
              obtain ⟨j, hj⟩ := List.getElem?_of_mem h5
              exact ⟨j, to, by have := (List.getElem?_eq_some_iff.1 hj).1; omega, hj, h6⟩
          obtain ⟨bv, hbv⟩ := ex_get (l := ws) (j := r) (by omega)
          rw [hbv] at h1 ⊢
          congr 1
          have h5 : bv = true ↔ m i r = true := by
            rw [h2, h3, ← h4, ← h1]
            simp
          cases bv <;> cases hmr : m i r <;> simp_all
        · rw [List.getElem?_eq_none (by omega), List.getElem?_eq_none (by rw [rowL_len]; omega)]
      have hwb : BoolsAre w8 (.slice (some ⟨w5.heap.size, 0, none⟩) R R) (rowL m i R) := by
        have := SliceIs.of_own hws
        unfold BoolsAre
        rw [rowL_len, ← heq]
        exact this
      refine (same_ok (hrb.ext x58) hwb (by rw [rowL_len]; omega)).mono fun r w9 ⟨hr, x9⟩ => ?_
      subst hr
      refine V_not.2 (ifD_false.2 ?_)
      refine V_add.2 ?_
      rw [wrap_id (by omega) (by omega), i64_succ]
      exact ⟨⟨i + 1, rfl, by omega, x58.trans x9⟩, by simp only [intOf_i64]; omega⟩
  · exact ⟨by first | rfl | trivial, X4.trans x5⟩
end Go.Proofs.YtcnilchopponmaaDoor
