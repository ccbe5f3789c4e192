/- The program's walk: where an instruction goes. The program's walk, run; the program's Verify. The program's Verify, and the states of a walk. The maker of applets: its memory, and its small functions. The maker of applets: locals, arrays, indices, numbers. The maker of applets: numbers. The maker of applets: a statement. The maker of applets: a method's code. The maker of applets: a method's code, walked. The four names. An applet, made: slices of steps, rows of structs. An applet, made. An applet, made, walked. An applet, bent: laws. An applet, bent. Applets. The law's applet. The lifting, as plain data; its small functions. The lifting: a node. The lifting: a node, walked. The lifting: where a jump aims. -/
import Derived.Test.YtcdbikfnlggbnaaGreatDoorIe
import Derived.Great.FillDense
import Derived.Great.BuildSlice
import Derived.Laws.RangeString
namespace Go.Vc
theorem yX {P : Program} {S : World → Prop} {L : Value → Prop} {t g n c : Nat} {k : IntKind} {i : Int} (h : XA P t 1) (h0 : 0 ≤ i) (h1 : i < n) (hk : L (.pointer (some ⟨g, 0 + i.toNat * 1, none⟩))) : yieldS P S (Instr.indexAt t (.slice (some ⟨g, 0, none⟩) n c) (.int k i)) L := by
  obtain ⟨e, z, b, ht, hi⟩ := h
  exact yieldS.ok (fun w' _ => r_index ht hi h0 h1) hk
end Go.Vc
namespace Go.Tc
theorem ini_wf (m : Mth) : WF m (St.ini m.code.length) := by
  have eH : ∀ q, (St.ini m.code.length).h q = false := fun q => by
    simp only [St.ini, St.h, List.getD_eq_getElem?_getD, List.getElem?_replicate]
    split <;> rfl
  have eS : ∀ q, (St.ini m.code.length).s q = [] := fun q => by
    simp only [St.ini, St.s, List.getD_eq_getElem?_getD, List.getElem?_replicate]
    split <;> rfl
  exact ⟨by simp [St.ini], by simp [St.ini], by simp [St.ini], fun k h => (by rw [eH] at h; cases h), fun k _ => ⟨eS k, eH k⟩⟩
theorem ini_goes {n : Nat} (h : 1 ≤ n) : goesS n (St.ini n) 0 [] = some (St.first n) := by
  have eH : (St.ini n).h 0 = false := by
    simp only [St.ini, St.h, List.getD_eq_getElem?_getD, List.getElem?_replicate]
    split <;> rfl
  unfold goesS
  rw [if_neg (by omega)]
  simp only [Int.toNat_zero, eH]
  rfl
end Go.Tc
namespace Go.Proofs.YtcdbikfnlggbnaaGreatDoor
open Go.Vc Go.Tc
variable {w : World} {K : Value → World → Prop}
theorem own_one {B e sz n : Nat} {v : Value} {xs : List Value} (h : w.ownsRow B e sz v n xs) : oneC v = true := by
  rcases h.2 with ⟨rfl, _⟩ | ⟨_, _, _, rfl, _⟩ <;> rfl
theorem goes122 {w0 : World} {c : WkC} {i : Img} {m : Mth} {st : St} {to : Int} {sv : Value} {stack : List Int} (h : Wk w0 w c i m st) (wf : WF m st) (hn : m.code.length ≤ 1000) (h0 : 0 ≤ to) (hs : IntsAre w sv stack) (hks : Kds stack) (hl8 : stack.length ≤ 8)
    (yes : ∀ st' w', goesS m.code.length st to stack = some st' → Wk w0 w' c i m st' → Fr c.G w w' → K (i64 0) w') (no : ∀ e w', goesS m.code.length st to stack = none → e ≠ 0 → Fr c.G w w' → K (i64 e) w') :
    callD Tryz.prog 122 #[.pointer (some ⟨c.gb, 0, none⟩), i64 to, sv] w K := by
  apply F122_wp
  unfold F122_den
  refine ⟨.inl ⟨_, rfl⟩, ldF2 h.boxed fa_137_1 fa_47_3 l1_45 rfl ?_⟩
  refine lnx xa_45 h.codeAt (V_geq.2 (ifD_dec (fun hbig => ?_) fun hsm => ?_))
  · exact no 13 _ (by unfold goesS; rw [if_pos hbig]) (by decide) (Fr.of_ext (Ext.refl _))
  obtain ⟨t, rfl⟩ : ∃ t : Nat, to = t := ⟨to.toNat, by omega⟩
  have htn : t < m.code.length := by omega
  have hM := h.mem
  refine ⟨.inl ⟨_, rfl⟩, ldB h.boxed fa_137_4 l1_78 rfl ?_⟩
  refine ldx xa_78 l1_4 (hM.hs hn) (by omega) (by omega) (getB' (by rw [hM.l2]; exact htn)) (V_not.2 ?_)
  have ehh : st.has.getD t false = st.h t := rfl
  rw [ehh]
  have hgG : ∀ {r}, (if st.h t then (joinL (st.s t) stack).bind fun j => if j = st.s t then some st else some { st with st := st.st.set t j, todo := st.todo.set t true } else some ⟨st.st.set t stack, st.has.set t true, st.todo.set t true⟩) = r → goesS m.code.length st t stack = r := by
    rintro _ rfl
    unfold goesS
    rw [if_neg (by omega)]
    simp only [Int.toNat_natCast]
  have hne := h.ne
  have hBo := hM.o
  cases hht : st.h t with
  | false =>
    simp only [evL, Bool.not_false]
    have D1 : Ext w w.drew := (Ext.refl _).drew
    refine drawD.mk' (fun w' => Blk w' c.gb (c.cells i m) 137) (h.box.ext D1) ?_
    refine ⟨.inl ⟨_, rfl⟩, yfB (fun w' hw => Blk.boxed hw) fa_137_3 l1_77 rfl ?_⟩
    refine ⟨.inl ⟨_, rfl⟩, yfB (fun w' hw => Blk.boxed hw) fa_137_4 l1_78 rfl ?_⟩
    refine ⟨.inl ⟨_, rfl⟩, yfB (fun w' hw => Blk.boxed hw) fa_137_5 l1_78 rfl ?_⟩
    refine clone109 (hs.ext D1) (by omega) fun cv w2 hoc x2 => ⟨(h.box.ext D1).ext x2, ?_⟩
    have xd := D1.trans x2
    have hM2 := hM.ext xd
    have hoc := own_mono hoc (B' := c.B) (Nat.le_trans hBo.2.2.2.2 D1.size)
    have hB2 := h.box.ext xd
    obtain ⟨vs, q1, q2, q3⟩ := hM2.s1
    refine yX xa_77 (by omega) (by omega) (stBY inf23 q2 (by rw [q1]; simpa using htn) (own_one hoc) ⟨hB2.other hne.1, ?_⟩)
    rw [Int.toNat_natCast]
    have hM3 := hM2.setS hoc htn
    refine yX xa_78 (by omega) (by omega) (stBY inf4 hM3.s2 (by rw [List.length_map, hM3.l2]; simpa using htn) rfl ⟨(hB2.other hne.1).other hne.2.1, ?_⟩)
    rw [Int.toNat_natCast]
    have hM4 := hM3.setH t true
    refine yX xa_78 (by omega) (by omega) (stBY inf4 hM4.s3 (by rw [List.length_map, hM4.l3]; simpa using htn) rfl ?_)
    rw [Int.toNat_natCast]
    have hM5 := hM4.setT t true
    have hf : Fr c.G w _ := (((Fr.of_ext (S := c.G) xd).set (b := c.g1) (o := t) (v := cv) (.inl rfl)).set (b := c.g2) (o := t) (v := .bool true) (.inr (.inl rfl))).set (b := c.g3) (o := t) (v := .bool true) (.inr (.inr rfl))
    exact yes _ _ (hgG (by rw [hht]; rfl)) (h.chg hf hM5) hf
  | true =>
    simp only [evL, Bool.not_true]
    obtain ⟨hkt, hlt8⟩ := wf.kd t hht
    obtain ⟨vs, v, hvs, hv, hov⟩ := hM.ss hn htn
    refine ⟨.inl ⟨_, rfl⟩, ldB h.boxed fa_137_3 l1_77 rfl ?_⟩
    refine ldx xa_77 l1_23 hvs (by omega) (by omega) hv ?_
    refine joinAll135 (SliceIs.of_own hov) hs hkt hks (by omega) (fun jo v6 w2 hjo ho6 x2 => ?_) fun w2 hjo x2 => ?_
    case refine_2 =>
      refine V_ext0.2 (V_ext1.2 (V_not.2 ?_))
      simp only [evL, Bool.not_false]
      exact no 14 _ (hgG (by rw [hht, hjo]; rfl)) (by decide) (Fr.of_ext x2)
    refine V_ext0.2 (V_ext1.2 (V_not.2 ?_))
    simp only [evL, Bool.not_true]
    have h2 := h.ext x2
    have hM2 := h2.mem
    obtain ⟨vs7, v7, hvs7, hv7, hov7⟩ := hM2.ss hn htn
    refine ⟨.inl ⟨_, rfl⟩, ldB h2.boxed fa_137_3 l1_77 rfl ?_⟩
    refine ldx xa_77 l1_23 hvs7 (by omega) (by omega) hv7 ?_
    refine equal136 (SliceIs.of_own ho6) (SliceIs.of_own hov7) fun w3 x3 => V_not.2 ?_
    have x23 := x2.trans x3
    by_cases hje : jo = st.s t
    · simp only [hje, evL, Bool.not_true, decide_true]
      exact yes st _ (hgG (by rw [hht, hjo]; simp [hje])) (h.ext x23) (Fr.of_ext x23)
    · simp only [hje, evL, Bool.not_false, decide_false]
      have D1 : Ext w3 w3.drew := (Ext.refl _).drew
      have xd := x23.trans D1
      have h3 := h.ext xd
      have hM3 := h3.mem
      have ho6 := own_mono ((x3.trans D1).own ho6) (B' := c.B) hBo.2.2.2.2
      refine drawD.mk' (fun w' => Blk w' c.gb (c.cells i m) 137) h3.box ?_
      refine ⟨.inl ⟨_, rfl⟩, yfB (fun w' hw => Blk.boxed hw) fa_137_3 l1_77 rfl ?_⟩
      refine ⟨.inl ⟨_, rfl⟩, yfB (fun w' hw => Blk.boxed hw) fa_137_5 l1_78 rfl ?_⟩
      obtain ⟨vs8, q1, q2, q3⟩ := hM3.s1
      refine yX xa_77 (by omega) (by omega) (stBY inf23 q2 (by rw [q1]; simpa using htn) (own_one ho6) ⟨h3.box.other hne.1, ?_⟩)
      rw [Int.toNat_natCast]
      have hM4 := hM3.setS ho6 htn
      refine yX xa_78 (by omega) (by omega) (stBY inf4 hM4.s3 (by rw [List.length_map, hM4.l3]; simpa using htn) rfl ?_)
      rw [Int.toNat_natCast]
      have hM5 := hM4.setT t true
      have hf : Fr c.G w _ := ((Fr.of_ext (S := c.G) xd).set (b := c.g1) (o := t) (v := v6) (.inl rfl)).set (b := c.g3) (o := t) (v := .bool true) (.inr (.inr rfl))
      exact yes _ _ (hgG (by rw [hht, hjo]; simp [hje])) (h.chg hf hM5) hf
end Go.Proofs.YtcdbikfnlggbnaaGreatDoor
namespace Go.Proofs.YtcdbikfnlggbnaaGreatDoor
open Go.Vc Go.Tc
variable {w : World} {K : Value → World → Prop}
theorem do124' {c : WkC} {i : Img} {m : Mth} {x : Ins} {sv : Value} {s : List Int} (h : WR w c i m) (hx : Okx i m x) (hs : IntsAre w sv s) (ks : Kds s) (h8 : s.length ≤ 8)
    (hk : ∀ v e w', ((e ≠ 0 ∧ doS i m x s = none) ∨ (e = 0 ∧ ∃ out, doS i m x s = some out ∧ w'.ownsRow w.heap.size 3 1 v out.length (out.map i64))) → Ext w w' → K (.tuple #[v, i64 e]) w') :
    callD Tryz.prog 124 #[.pointer (some ⟨c.gb, 0, none⟩), .agg #[i64 x.op, i64 x.a, i64 x.b], sv] w K :=
  do124 h hx hs ks h8 (fun out v w' h1 h2 x => hk v 0 w' (.inr ⟨rfl, out, h1, h2⟩) x) fun e w' h1 h2 x => hk _ e w' (.inl ⟨h2, h1⟩) x
theorem Mem.todo {g1 g2 g3 B n : Nat} {st : St} (h : Mem g1 g2 g3 B w n st) (hn : n ≤ 1000) : BoolsAre w (.slice (some ⟨g3, 0, none⟩) n n) st.todo := by
  unfold BoolsAre
  rw [h.l3]; exact h.ts hn
theorem own_fr {c : WkC} {w' : World} {e sz n : Nat} {v : Value} {xs : List Value} (hf : Fr c.G w w') (ho : w.ownsRow c.B e sz v n xs) (h : c.g1 < c.B ∧ c.g2 < c.B ∧ c.g3 < c.B) : w'.ownsRow c.B e sz v n xs :=
  hf.own ho fun k hk => by
    have := (ho.lt k hk).1
    rintro (e | e | e) <;> omega
theorem run104 {w0 : World} {c : WkC} {i : Img} {m : Mth} (h : Wk w0 w c i m (St.ini m.code.length)) (ir : i.right) (mr : m.right)
    (yes : ∀ st w', Walk i m (some st) → Wk w0 w' c i m st → K (.tuple #[i64 0, i64 0]) w') (no : ∀ pc e w', Walk i m none → e ≠ 0 → Ext w0 w' → K (.tuple #[i64 pc, i64 e]) w') :
    callD Tryz.prog 104 #[.pointer (some ⟨c.gb, 0, none⟩)] w K := by
  have hn1 := mr.2.2.2.1.1; have hn2 := mr.2.2.2.1.2
  have hn : m.code.length ≤ 1000 := by omega
  apply F104_wp
  unfold F104_den
  refine ⟨.inl ⟨_, rfl⟩, ldF2 h.boxed fa_137_1 fa_47_3 l1_45 rfl ?_⟩
  have hc := h.codeAt
  refine lnx xa_45 hc ?_
  -- names
  refine ⟨fun v w' => ∃ j : Nat, v = i64 j ∧ j ≤ m.code.length ∧ Ext w w' ∧ ∀ x ∈ m.code.take j, namesS i m x, fun v _ => m.code.length - (RowKit.intOf v).toNat, ⟨0, rfl, Nat.zero_le _, Ext.refl _, fun _ h => by simp at h⟩, ?_⟩
  rintro _ w3 ⟨j, rfl, hj, x3, hnm⟩ _
  refine V_lss.2 (ifD_dec (fun hlt => ?_) fun hge => ?_)
  · have hj' : j < m.code.length := by omega
    have hx := insC_mem hj'
    have hxm := List.mem_of_getElem? hx
    refine ldI (hc.ext x3) hx ?_
    refine asB sa_71 rfl rfl fun b4 w4 hb4 x4 => ?_
    have hb4 : Boxed w4 b4 [i64 (m.ins j).op, i64 (m.ins j).a, i64 (m.ins j).b] := hb4
    refine ldA hb4 la_71 rfl ?_
    refine (names121 (h.ext (x3.trans x4)).wr (mr.2.2.2.2 _ hxm)).mono fun v w5 ⟨b, hv, hb, x5⟩ => ?_
    subst hv
    have x35 := (x3.trans x4).trans x5
    refine V_not.2 ?_
    cases b with
    | false => simp only [evL, Bool.not_false]; exact no _ 9 _ (.inl ⟨⟨_, hxm, fun h => by have := hb.2 h; cases this⟩, rfl⟩) (by decide) (h.x.trans x35)
    | true =>
      simp only [evL, Bool.not_true]
      refine V_add.2 ?_
      rw [wrap_id (by omega) (by omega), i64_succ]
      refine ⟨⟨j + 1, rfl, by omega, x35, fun y hy => ?_⟩, by simp only [intOf_i64]; omega⟩
      rw [List.take_add_one, hx] at hy
      rcases List.mem_append.1 hy with hy | hy
      · exact hnm y hy
      · simp at hy; subst hy; exact hb.1 rfl
  have hjl : j = m.code.length := by omega
  subst hjl
  rw [List.take_length] at hnm
  have hox : ∀ x ∈ m.code, Okx i m x := fun x hx => ⟨ir, mr, mr.2.2.2.2 x hx, hnm x hx⟩
  obtain ⟨wf0, inv0⟩ := first_ok (i := i) hn1
  have h3 := h.ext x3
  refine goes122 (stack := []) h3 (ini_wf m) hn (Int.le_refl 0) (SliceIs.nil _ _) (fun _ h => by simp at h) (by simp) (fun st1 w4 hg h4 _ => ?_) fun e w4 hg _ _ => by rw [ini_goes hn1] at hg; cases hg
  rw [ini_goes hn1] at hg
  cases hg
  generalize hnn : m.code.length = n at *
  refine ⟨fun w' => ∃ st, (Wk w0 w' c i m st ∧ WF m st ∧ Inv i m st ∧ ∀ r, Runs i m st r → Runs i m (St.first n) r), fun w' => mu fun q => ∃ st, (Wk w0 w' c i m st ∧ WF m st ∧ Inv i m st ∧ ∀ r, Runs i m st r → Runs i m (St.first n) r) ∧ msr n st = q, ⟨_, h4, wf0, inv0, fun _ h => h⟩, ?_⟩
  rintro w9 ⟨st0, hst0⟩ _
  obtain ⟨st, ⟨hW, wf, inv, hR⟩, hmu⟩ := mu_spec (p := fun q => ∃ st, (Wk w0 w9 c i m st ∧ WF m st ∧ Inv i m st ∧ ∀ r, Runs i m st r → Runs i m (St.first n) r) ∧ msr n st = q) ⟨_, _, hst0, rfl⟩
  clear hst0 st0
  have hWk : ∀ {r}, Runs i m st r → Walk i m r := fun {r} hr => .inr ⟨hnm, by rw [hnn]; exact hR r hr⟩
  have hM := hW.mem
  rw [hnn] at hM
  have hcc : c.cells i m = [.string i.name, c.p.fv, c.p.iv, c.p.mv, c.p.xv, c.pv, i64 m.result, c.lv, c.cv, c.loc, .slice (some ⟨c.g1, 0, none⟩) n n, .slice (some ⟨c.g2, 0, none⟩) n n, .slice (some ⟨c.g3, 0, none⟩) n n] := by unfold WkC.cells; rw [hnn]
  have hbox : ∀ {w'}, Boxed w' c.gb (c.cells i m) → Boxed w' c.gb _ := fun h => hcc ▸ h
  refine ⟨.inl ⟨_, rfl⟩, ldB (hbox hW.boxed) fa_137_5 l1_78 rfl ?_⟩
  refine index123 (hM.todo hn) (by rw [hM.l3]; exact hn) (V_lss.2 ?_)
  cases hfirst : firstT st.todo with
  | none =>
    have e1 : idxT st.todo = -1 := by unfold idxT; rw [hfirst]
    rw [e1]
    simp only [evL, Int.reduceLT, Int.reduceNeg, decide_true]
    exact yes st _ (hWk (.done hfirst)) hW
  | some q =>
  have e1 : idxT st.todo = (q : Int) := by unfold idxT; rw [hfirst]
  rw [e1]
  have hq0 : ¬ ((q : Int) < 0) := by omega
  simp only [hq0, evL, decide_false]
  have htq : st.t q = true := (firstT_some hfirst).1
  have hqn' : q < n := by have := getD_lt htq; rw [hM.l3] at this; exact this
  have hhq : st.h q = true := by
    cases e : st.h q with
    | true => rfl
    | false => have := (wf.no q e).2; rw [htq] at this; cases this
  obtain ⟨hkd, hl8⟩ := wf.kd q hhq
  have hxq := insC_mem (m := m) (k := q) (by omega)
  have ox := hox _ (List.mem_of_getElem? hxq)
  refine ⟨.inl ⟨_, rfl⟩, ldB (hbox hW.boxed) fa_137_5 l1_78 rfl ?_⟩
  refine stB xa_78 inf4 hM.s3 (n := n) (by simpa using hM.l3) (by omega) (by omega) rfl ?_
  rw [Int.toNat_natCast]
  have hM1 := hM.setT q false
  have hf1 : Fr c.G w9 (w9.setCell ⟨c.g3, q, none⟩ (.bool false)) := Fr.of_set (.inr (.inr rfl))
  have hW1 := hW.chg hf1 (by rw [hnn]; exact hM1)
  generalize w9.setCell ⟨c.g3, q, none⟩ (.bool false) = w10 at hM1 hW1
  have estep : stepS i m st q = (doS i m (m.ins q) (st.s q)).bind fun stack => goesL n stack (nextS (m.ins q) q) { st with todo := st.todo.set q false } := by unfold stepS; rw [hnn]
  generalize hst1 : ({ st with todo := st.todo.set q false } : St) = st1 at hM1 hW1 estep
  have es1 : st1.s q = st.s q := by rw [← hst1]; rfl
  refine ⟨.inl ⟨_, rfl⟩, ldF2 (hbox hW1.boxed) fa_137_1 fa_47_3 l1_45 rfl ?_⟩
  refine ldI hW1.codeAt hxq ?_
  refine asB sa_71 rfl rfl fun b5 w11 hb5 x11 => ?_
  have hb5 : Boxed w11 b5 [i64 (m.ins q).op, i64 (m.ins q).a, i64 (m.ins q).b] := hb5
  have D1 : Ext w11 w11.drew := (Ext.refl _).drew
  have xd := x11.trans D1
  have hWd := hW1.ext xd
  have hW11 := hW1.ext x11
  have hMd := hWd.mem
  rw [hnn] at hMd
  obtain ⟨vs, v, hvs, hv, hov⟩ := hMd.ss hn hqn'
  rw [es1] at hov
  refine drawD.mk' (fun w' => Ext w11.drew w') (Ext.refl _) ?_
  refine yA (fun w' hw => hb5.ext (D1.trans hw)) la_71 rfl ?_
  refine ⟨.inl ⟨_, rfl⟩, yfB (fun w' hw => hbox (hWd.boxed.ext hw)) fa_137_3 l1_77 rfl ?_⟩
  refine ySl xa_77 l1_23 hvs (fun _ h => h) (by omega) (by omega) hv ?_
  refine do124' hWd.wr ox (SliceIs.of_own hov) hkd hl8 fun v2 e2 w12 hdo x12 => ?_
  refine ⟨x12, yieldS.ok (fun w' _ => r_ext0) (yieldS.ok (fun w' _ => r_ext1) ?_)⟩
  refine ldA (hb5.ext (D1.trans x12)) la_71 rfl ?_
  refine next125 (x := m.ins q) (pc := q) (by omega) fun tv w13 hot x13 => ?_
  have ht0 := next0 ox (pc := q)
  have hLl : (nextS (m.ins q) q).length ≤ 2 := nextS_len _ _
  generalize nextS (m.ins q) q = L at hot ht0 estep hLl
  have hW13 := hWd.ext (x12.trans x13)
  have hBo := hMd.o
  have hBd : c.B ≤ w11.drew.heap.size := hBo.2.2.2.2
  have hg3 : c.g1 < c.B ∧ c.g2 < c.B ∧ c.g3 < c.B := ⟨hBo.2.1, hBo.2.2.1, hBo.2.2.2.1⟩
  have hot := own_mono hot (B' := c.B) (Nat.le_trans hBd x12.size)
  have wf1 : WF m st1 := by
    rw [← hst1]
    refine ⟨wf.l1, wf.l2, by simpa using wf.l3, wf.kd, fun k hk => ⟨(wf.no k hk).1, ?_⟩⟩
    simp only [St.t, getD_set]
    split
    · rfl
    · exact (wf.no k hk).2
  have hdo' : (e2 ≠ 0 ∧ Walk i m none ∧ Ext w0 w13) ∨ (e2 = 0 ∧ ∃ out st', doS i m (m.ins q) (st.s q) = some out ∧ Wk w0 w13 c i m st' ∧ goesL n out (L.take 0) st1 = some st' ∧ w13.ownsRow c.B 3 1 v2 out.length (out.map i64)) := by
    rcases hdo with ⟨h1, h2⟩ | ⟨h1, out, h2, h3⟩
    · exact .inl ⟨h1, hWk (.fail hfirst (by rw [estep, h2]; rfl)), hW13.x⟩
    · exact .inr ⟨h1, out, st1, h2, hW13, rfl, own_mono (x13.own h3) hBd⟩
  refine lnx xa_23 (SliceIs.of_own hot) ?_
  refine ⟨fun ev v w' => ∃ (j : Nat) (e : Int), v = i64 j ∧ ev = i64 e ∧ j ≤ L.length ∧ w'.ownsRow c.B 3 1 tv L.length (L.map i64) ∧ ((e ≠ 0 ∧ Walk i m none ∧ Ext w0 w') ∨ (e = 0 ∧ ∃ out st', doS i m (m.ins q) (st.s q) = some out ∧ Wk w0 w' c i m st' ∧ goesL n out (L.take j) st1 = some st' ∧ w'.ownsRow c.B 3 1 v2 out.length (out.map i64))), fun _ v _ => L.length - (RowKit.intOf v).toNat, ⟨0, e2, rfl, rfl, Nat.zero_le _, hot, hdo'⟩, ?_⟩
  rintro _ _ w14 ⟨j, e, rfl, rfl, hj, hot4, hst⟩ _
  refine V_lss.2 (ifD_dec (fun hlt => ?_) fun hge => ?_)
  case refine_2 =>
    have hjL : j = L.length := by omega
    subst hjL
    rw [List.take_length] at hst
    refine V_neqI.2 ?_
    rcases hst with ⟨h1, h2, h3⟩ | ⟨h1, out, st', h2, h3, h4, _⟩
    · simp only [h1, evL, not_false_eq_true, ne_eq, decide_true]
      exact no q e _ h2 h1 h3
    · simp only [h1, evL, not_true_eq_false, ne_eq, decide_false]
      have es : stepS i m st q = some st' := by rw [estep, h2]; exact h4
      obtain ⟨s1, s2, s3⟩ := step_ok hox wf inv hfirst es
      have hI : Wk w0 w14 c i m st' ∧ WF m st' ∧ Inv i m st' ∧ ∀ r, Runs i m st' r → Runs i m (St.first n) r := ⟨h3, s1, s2, fun r hr => hR r (.go hfirst es hr)⟩
      rw [hnn] at s3
      exact ⟨⟨st', hI⟩, Nat.lt_of_le_of_lt (mu_le ⟨st', hI, rfl⟩) (Nat.lt_of_lt_of_eq s3 hmu)⟩
  obtain ⟨to, hto⟩ := ex_get (l := L) (j := j) (by omega)
  have hto0 := ht0 to (List.mem_of_getElem? hto)
  refine ldO' xa_23 l1_3 hot4 (by omega) (by omega) (getI hto) (V_eqlI.2 ?_)
  rcases hst with ⟨h1, h2, h3⟩ | ⟨h1, out, st', h2, h3, h4, ho4⟩
  · simp only [h1, evL, ne_eq, decide_false]
    refine V_add.2 ?_
    rw [wrap_id (by omega) (by omega), i64_succ]
    exact ⟨⟨j + 1, e, rfl, rfl, by omega, hot4, .inl ⟨h1, h2, h3⟩⟩, by simp only [intOf_i64]; omega⟩
  · simp only [h1, evL, ne_eq, decide_true]
    obtain ⟨od1, od2, _, _⟩ := doS_ok ox hkd h2
    have wf' : WF m st' := (goesL_ok od1 od2 wf1 (fun to ht => ht0 to (List.mem_of_mem_take ht)) (by rw [hnn]; exact h4)).1
    have hlo := h3.lo
    refine goes122 h3 wf' (by rw [hnn]; exact hn) hto0 (SliceIs.of_own ho4) od1 od2 (fun st'' w15 hg h5 hf => V_add.2 ?_) fun e' w15 hg hne hf => V_add.2 ?_
    · rw [hnn] at hg
      rw [wrap_id (by omega) (by omega), i64_succ]
      exact ⟨⟨j + 1, 0, rfl, rfl, by omega, own_fr hf hot4 hg3, .inr ⟨rfl, out, st'', h2, h5, goesL_take h4 hto hg, own_fr hf ho4 hg3⟩⟩, by simp only [intOf_i64]; omega⟩
    · rw [hnn] at hg
      rw [wrap_id (by omega) (by omega), i64_succ]
      refine ⟨⟨j + 1, e', rfl, rfl, by omega, own_fr hf hot4 hg3, .inl ⟨hne, hWk (.fail hfirst ?_), hf.ext h3.x fun k hk => ?_⟩⟩, by simp only [intOf_i64]; omega⟩
      · rw [estep, h2]; exact goesL_fail h4 hto hg
      · rcases hk with rfl | rfl | rfl
        · exact hlo.2.1
        · exact hlo.2.2.1
        · exact hlo.2.2.2
end Go.Proofs.YtcdbikfnlggbnaaGreatDoor
namespace Go.Vc
theorem q_nilPtr {P : Program} {w : World} {s e : TypeId} (hs : P.underlying s = some (.pointer e)) (d : Nat) {a : Addr} : (Op.equalIn (d + 1) s (.pointer (some a)) (Value.pointer none)).run P w = .ok false w := by
  simp [Op.equalIn, run_underlying hs]
theorem q_nilPtr0 {P : Program} {w : World} {s e : TypeId} (hs : P.underlying s = some (.pointer e)) (d : Nat) : (Op.equalIn (d + 1) s (Value.pointer none) (Value.pointer none)).run P w = .ok true w := by
  simp [Op.equalIn, run_underlying hs]
theorem r_eqNilPtr {P : Program} {w : World} {s e : TypeId} (hs : P.underlying s = some (.pointer e)) {x y : Operand} {a : Addr} :
    (do eqGuard .eql s x y (.pointer (some a)) (Value.pointer none); binOp .eql s (.pointer (some a)) (Value.pointer none)).run P w = .ok (.bool false) w := by
  simp [eqGuard, binOp, equal_succ, q_nilPtr hs]
theorem r_eqNilPtr0 {P : Program} {w : World} {s e : TypeId} (hs : P.underlying s = some (.pointer e)) {x y : Operand} :
    (do eqGuard .eql s x y (Value.pointer none) (Value.pointer none); binOp .eql s (Value.pointer none) (Value.pointer none)).run P w = .ok (.bool true) w := by
  simp [eqGuard, binOp, equal_succ, q_nilPtr0 hs]
end Go.Vc
namespace Go.Proofs.YtcdbikfnlggbnaaGreatDoor
open Go.Vc Go.Tc
variable {w : World} {K : Value → World → Prop}
/-- Is the image taken? -/
theorem verify102 {p : ImgV} {i : Img} (h : ImgAt w p i) (hn : NamesOk w i) (hb7 : Img.rg i) (hk : ∀ a b e w', (e = 0 ↔ Taken i) → Ext w w' → K (.tuple #[.agg #[i64 a, i64 b], i64 e]) w') : callD Tryz.prog 102 #[p.val i] w K := by
  apply F102_wp
  unfold F102_den ImgV.val
  refine bx fun b1 w1 hb1 x1 => ?_
  refine alK inf32 fun w2 hB2 x2 => ?_
  have x12 := x1.trans x2
  have hg : w.heap.size ≤ w1.heap.size := x1.size
  have hb1 := hb1.ext x2
  generalize w1.heap.size = g at hB2 hg
  have hB2 : Blk w2 g [i64 0, i64 0] 32 := hB2
  refine ldA hb1 la_27 rfl ?_
  refine (right119 (h.ext x12) hb7 (hn.ext x12)).mono fun v w3 ⟨b, hv, hb, x3⟩ => ?_
  subst hv
  have x13 := x12.trans x3
  have fin : ∀ {w' : World} {a b e : Int}, Blk w' g [i64 0, i64 0] 32 → Ext w w' → (e = 0 ↔ Taken i) → U Tryz.prog (Instr.storeAt 32 (.pointer (some ⟨g, 0, none⟩)) (.agg #[i64 a, i64 b])) w' fun _ w7 =>
      ∃ r1, (loadVar 32 (match (Value.pointer (some ⟨g, 0, none⟩)) with | .pointer (some p) => p | _ => ⟨0, 0, none⟩)).run Tryz.prog w7 = .ok r1 w7 ∧ (∃ p, (Value.pointer (some ⟨g, 0, none⟩)) = Value.pointer (some p)) ∧ K (.tuple #[r1, i64 e]) w7 := by
    intro w' a b e hB hx he
    refine stA inf32 hB (l := [i64 a, i64 b]) rfl rfl rfl rfl fun w7 hB7 hc => ?_
    exact ⟨_, r_var Tryz.underlying32 rfl inf32 hB7 rfl, ⟨_, rfl⟩, hk a b e _ he (hc.ext _ hx hg)⟩
  refine V_not.2 ?_
  cases b with
  | false =>
    simp only [evL, Bool.not_false]
    refine bld bd_32 [] rfl rfl ?_
    exact fin (hB2.ext x3) x13 ⟨fun h => (by cases h), fun h => by have := hb.2 h.1; cases this⟩
  | true =>
  simp only [evL, Bool.not_true]
  have ir := hb.1 rfl
  have hm8 := ir.2.2.1.1.2
  refine ldB (hb1.ext x3) fa_27_3 l1_25 rfl (lnS xa_25 (h.ext x13).mt ?_)
  refine ⟨fun v w' => ∃ j : Nat, v = i64 j ∧ j ≤ i.methods.length ∧ Ext w2 w' ∧ ∀ q, q < j → ∃ st, Walk i (i.meth q) (some st), fun v _ => i.methods.length - (RowKit.intOf v).toNat, ⟨0, rfl, Nat.zero_le _, x3, fun _ h => absurd h (Nat.not_lt_zero _)⟩, ?_⟩
  rintro _ w4 ⟨j, rfl, hj, x4, hall⟩ _
  refine V_lss.2 (ifD_dec (fun hlt => ?_) fun hge => ?_)
  · refine ldA (hb1.ext x4) la_27 rfl ?_
    have hmm := meth_get (i := i) (a := (j : Int)) (by omega) (by omega)
    have mr : (i.meth j).right := ir.2.2.1.2.1 _ (List.mem_of_getElem? hmm)
    refine method103 ((h.ext x12).ext x4) ir (by omega) fun w0 c w5 x40 hW x45 => ?_
    refine run104 hW ir mr (fun st w6 hw hW6 => ?_) fun pc e w6 hw hne x6 => ?_
    · refine V_ext0.2 (V_ext1.2 (V_neqI.2 ?_))
      simp only [evL, not_true_eq_false, ne_eq, decide_false]
      refine V_add.2 ?_
      rw [wrap_id (by omega) (by omega)]
      refine ⟨⟨j + 1, rfl, by omega, x4.trans (x40.trans hW6.x), fun q hq => ?_⟩, by simp only [intOf_i64]; omega⟩
      by_cases hqj : q = j
      · subst hqj; exact ⟨st, hw⟩
      · exact hall q (by omega)
    · refine V_ext0.2 (V_ext1.2 (V_neqI.2 ?_))
      simp only [hne, evL, not_false_eq_true, ne_eq, decide_true]
      refine bld bd_32 [(0, i64 j), (1, i64 pc)] rfl rfl ?_
      refine fin (hB2.ext (x4.trans (x40.trans x6))) ((x12.trans x4).trans (x40.trans x6)) ⟨fun h => absurd h hne, fun ht => ?_⟩
      obtain ⟨s, hs⟩ := ht.2 _ (List.mem_of_getElem? hmm)
      have := hs.det hw
      cases this
  · have hjl : j = i.methods.length := by omega
    subst hjl
    refine bld bd_32 [] rfl rfl ?_
    refine fin (hB2.ext x4) (x12.trans x4) ⟨fun _ => ⟨ir, fun m hm => ?_⟩, fun _ => rfl⟩
    obtain ⟨q, hq⟩ := List.getElem?_of_mem hm
    have hlt := (List.getElem?_eq_some_iff.1 hq).1
    have hmm := meth_get (i := i) (a := (q : Int)) (by omega) (by omega)
    rw [Int.toNat_natCast, hq] at hmm
    cases hmm
    exact hall q hlt
theorem walked60 {p : ImgV} {i : Img} {k : Int} (h : ImgAt w p i) (hn : NamesOk w i) (hb7 : Img.rg i)
    (yes : ∀ w0 c st w', Taken i → 0 ≤ k → k < i.methods.length → Walk i (i.meth k) (some st) → Ext w w0 → Wk w0 w' c i (i.meth k) st → K (.pointer (some ⟨c.gb, 0, none⟩)) w')
    (no : ∀ w', ¬ (Taken i ∧ 0 ≤ k ∧ k < i.methods.length) → Ext w w' → K (Value.pointer none) w') : callD Tryz.prog 60 #[p.val i, i64 k] w K := by
  apply F60_wp
  unfold F60_den ImgV.val
  refine bx fun b1 w1 hb1 x1 => ?_
  refine ldA hb1 la_27 rfl ?_
  refine verify102 (h.ext x1) (hn.ext x1) hb7 fun a b e w2 he x2 => ?_
  refine V_ext0.2 (V_ext1.2 ?_)
  refine asB sa_32 rfl rfl fun b3 w3 _ x3 => ?_
  have x13 := (x1.trans x2).trans x3
  have hb1 := hb1.ext (x2.trans x3)
  refine V_neqI.2 ?_
  by_cases he0 : e = 0
  case neg =>
    simp only [he0, evL, not_false_eq_true, ne_eq, reduceIte, decide_true]
    exact no _ (fun ht => he0 (he.2 ht.1)) x13
  have ht := he.1 he0
  by_cases hk0 : k < 0
  · simp only [he0, hk0, evL, not_true_eq_false, ne_eq, reduceIte, Bool.false_eq_true, decide_true, decide_false]
    exact no _ (fun ht => by omega) x13
  simp only [he0, hk0, evL, not_true_eq_false, ne_eq, reduceIte, Bool.false_eq_true, decide_false]
  refine ldB hb1 fa_27_3 l1_25 rfl (lnS xa_25 (h.ext x13).mt (V_geq.2 ?_))
  by_cases hkl : (i.methods.length : Int) ≤ k
  · simp only [hkl, evL, decide_true]
    exact no _ (fun ht => by omega) x13
  simp only [hkl, evL, decide_false]
  obtain ⟨q, rfl⟩ : ∃ q : Nat, k = q := ⟨k.toNat, by omega⟩
  have hmm := meth_get (i := i) (a := (q : Int)) (by omega) (by omega)
  have mr : (i.meth q).right := ht.1.2.2.1.2.1 _ (List.mem_of_getElem? hmm)
  refine ldA hb1 la_27 rfl ?_
  refine method103 (h.ext x13) ht.1 (by omega) fun w0 c w5 x30 hW x35 => ?_
  refine run104 hW ht.1 mr (fun st w6 hw hW6 => ?_) fun pc e' w6 hw hne x6 => ?_
  · exact yes w0 c st w6 ht (by omega) (by omega) hw (x13.trans x30) hW6
  · obtain ⟨s, hs⟩ := ht.2 _ (List.mem_of_getElem? hmm)
    have := hs.det hw
    cases this
theorem states29 {p : ImgV} {i : Img} {k : Int} (h : ImgAt w p i) (hn : NamesOk w i) (hb7 : Img.rg i)
    (yes : ∀ st sv w', Taken i → 0 ≤ k → k < i.methods.length → Walk i (i.meth k) (some st) → StatesAre w' sv st.st → Ext w w' → K (.tuple #[sv, .bool true]) w')
    (no : ∀ w', ¬ (Taken i ∧ 0 ≤ k ∧ k < i.methods.length) → Ext w w' → K (.tuple #[nilS, .bool false]) w') : callD Tryz.prog 29 #[p.val i, i64 k] w K := by
  apply F29_wp
  unfold F29_den ImgV.val
  refine bx fun b1 w1 hb1 x1 => ?_
  refine ldA hb1 la_27 rfl ?_
  refine walked60 (h.ext x1) (hn.ext x1) hb7 (fun w0 c st w2 ht h0 hk hw x2 hW => ?_) fun w2 hne x2 => ?_
  · refine V.ok (r_eqNilPtr Tryz.underlying134) ?_
    simp only [evL]
    refine ⟨.inl ⟨_, rfl⟩, ldB hW.boxed fa_137_3 l1_77 rfl ?_⟩
    have hm := meth_get (i := i) (a := k) h0 hk
    have mr : (i.meth k).right := ht.1.2.2.1.2.1 _ (List.mem_of_getElem? hm)
    have := mr.2.2.2.1.2
    exact yes st _ _ ht h0 hk hw (hW.mem.states (by omega)) ((x1.trans x2).trans hW.x)
  · refine V.ok (r_eqNilPtr0 Tryz.underlying134) ?_
    simp only [evL]
    exact no _ hne (x1.trans x2)
end Go.Proofs.YtcdbikfnlggbnaaGreatDoor
namespace Go.Vc
section
variable {P : Program} {w : World} {K : Value → World → Prop}
/-- An append onto what the call owns, and where it lies: elements of any size. -/
theorem apG {t e by_ ty sz : Nat} {z : Value} (ht : P.underlying t = some (.slice e)) (hi : Inf P e z sz by_) (hz : (z.cells.size == sz) = true) (hsz : 0 < sz) {B : Nat} {v : Value} {n : Nat} {xs : List Value} (ho : w.ownsRow B e sz v n xs) {x : Value} {m : Nat} {news : List Value} (hs : SliceIs w x sz m news) (h1 : news.all oneC = true)
    (hb : (n + m) * by_ ≤ 140737488355328) (h63 : n + m ≤ maxLen) (hB : B ≤ w.heap.size)
    (hk : ∀ v' w', w'.ownsRow B e sz v' (n + m) (xs ++ news) → w.grownBy w' v.ownBlock → (v'.ownBlock = v.ownBlock ∨ v'.ownBlock = some w.heap.size) → K v' w') :
    V P (Builtin.append_ #[t, t] ty #[v, x]) w K := by
  obtain ⟨i, hi', hz', hn, hby⟩ := info_parts hi
  rcases hs.2 with ⟨rfl, rfl⟩ | ⟨b, off, cap, rfl, _, _, hc⟩
  · have hnews : news = [] := by have := hs.1; simpa using this
    subst hnews
    exact V.ok (run_append_owned_none w B t ty e i sz ht hi' v n xs ho) (hk _ _ (by simpa using ho) ⟨rfl, rfl, rfl, Nat.le_refl _, fun _ _ _ => rfl⟩ (.inl rfl))
  · obtain ⟨v', w', hr, h2, h3, _, h5⟩ := run_append_own_at (P := P) w B t ty e i z sz by_ ht hi' hz' hn hby (by simpa using hz) hsz v n xs ho ⟨b, off, none⟩ m cap news hs.1
      (fun j u hj => by rw [add_mk]; exact hc j u hj) (fun u hu => by rw [oneC_eq]; exact List.all_eq_true.1 h1 u hu) h63 hb hB
    exact V.ok hr (hk v' w' h2 h3 h5)
/-- A slice literal, of elements of any size. -/
theorem bslG {t e by_ sz : Nat} {z : Value} (ht : P.underlying t = some (.slice e)) (hi : Inf P e z sz by_) (hz : (z.cells.size == sz) = true) (hsz : 0 < sz) (vs : List Value) {n : Nat} {parts : Array (Nat × Value)} (hn : n = vs.length) (hp : parts.toList = (vs.zipIdx 0).map fun x => (x.2, x.1)) (hc : ∀ v ∈ vs, v.cells.size = sz)
    (h0 : 0 < n) (hl : n * sz ≤ 16777216) (hk : ∀ v w', w'.ownsRow w.heap.size e sz v n (vs.flatMap fun v => v.cells.toList) → Ext w w' → K v w') : V P (Instr.buildSlice t n parts) w K := by
  subst hn
  obtain ⟨i, hi', hz', hn, hby⟩ := info_parts hi
  have hz2 : z.cells.size = sz := by simpa using hz
  have hl1 : vs.length ≤ vs.length * sz := Nat.le_mul_of_pos_right _ hsz
  have hf := Go.Great.fill_whole hsz vs ((Array.range (vs.length * sz)).map (z.cells[· % z.cells.size]!)) hc (by simp)
  have hr := run_buildSlice (P := P) w t e vs.length parts _ i z ht hi' hz' (by rw [hn]; omega) (by rw [hn]; omega) (by rw [hn, hp]; exact hf)
  refine V.ok hr (hk _ _ ?_ ((Ext.refl w).alloc _))
  have hsize : ((vs.flatMap fun v => v.cells.toList).toArray).size = vs.length * sz := by
    clear hr hf hl hp h0 hl1 hk
    simp only [List.size_toArray]
    induction vs with
    | nil => simp
    | cons v l ih =>
      have h1 := hc v (by simp)
      have h2 := ih fun u hu => hc u (by simp [hu])
      simp only [List.flatMap_cons, List.length_append, List.length_cons, Array.length_toList, h1, h2, Nat.add_mul]
      omega
  have := World.ownsRow_lit (base := w.heap.size) (e := e) (size := sz) w (vs.flatMap fun v => v.cells.toList).toArray vs.length (Nat.le_refl _) (by unfold maxLen; omega) hsize
  simpa using this
/-- An array of whole numbers, a literal, asked. -/
theorem idxA {t e n by_ : Nat} {z : Value} {k : IntKind} (ht : P.underlying t = some (.array n e)) (hi : Inf P e z 1 by_) (hd : P.underlying e = some (.int k)) {l : List Int} (hl : l.length = n) {i : Int} (h0 : 0 ≤ i) (h1 : i < n) (hk : ∀ z ∈ l, K (i64 z) w) :
    V P (Instr.index t (.agg (l.map i64).toArray) (i64 i)) w K := by
  have hlt : i.toNat < l.length := by omega
  refine V.ok (r_idx ht hi ⟨_, hd⟩ h0 h1 (u := i64 l[i.toNat]) ?_ rfl) (hk _ (List.getElem_mem hlt))
  simp [hlt]
end
end Go.Vc
namespace Go.Proofs.YtcdbikfnlggbnaaGreatDoor
open Go.Vc Go.Tc
variable {w : World} {K : Value → World → Prop}
theorem pick10 {n m : Int} (hm : 0 < m) (hm2 : m ≤ 4611686018427387904) (hk : ∀ k, 0 ≤ k → k < m → K (i64 k) w) : callD Tryz.prog 10 #[i64 n, i64 m] w K := by
  apply F10_wp
  unfold F10_den
  refine rm hm fun c _ h1 h2 => ?_
  refine V_lss.2 (ifD_dec (fun hlt => ?_) fun hge => ?_)
  · refine V_add.2 ?_
    rw [wrap_id (by omega) (by omega)]
    exact hk _ (by omega) (by omega)
  · exact hk _ (by omega) h2
def BinsOk (w : World) : Prop := ∀ j, j < 12 → ∃ n, w.cell? ⟨0, j, none⟩ = some (i64 n)
/-- A maker's surroundings: the blocks that stay (H), where its code's rows lie from (B), its own block, its numbers and locals. -/
structure Mc where
  H : Nat → Prop
  B : Nat
  g : Nat
  nv : Value
  lv : Value
  nums : List Int
  loc : List Int
structure Mo (c : Mc) (wb : World) : Prop where
  gB : c.g < c.B ∧ c.B ≤ wb.heap.size
  hH : ∀ k, c.H k → k < wb.heap.size ∧ k ≠ c.g
  nums : ∀ w, Fr (fun k => ¬ c.H k) wb w → IntsAre w c.nv c.nums
  loc : ∀ w, Fr (fun k => ¬ c.H k) wb w → IntsAre w c.lv c.loc
  bins : ∀ w, Fr (fun k => ¬ c.H k) wb w → BinsOk w
  ln : c.nums.length ≤ 4611686018427387904
  ll : c.loc.length ≤ 1000000
/-- A maker, on its way: its code has lo to n instructions, its numbers were asked at most n times, and it is d deep. -/
structure Mk (c : Mc) (wb w : World) (lo n d : Nat) : Prop where
  o : Mo c wb
  fr : Fr (fun k => ¬ c.H k) wb w
  at_ : ∃ (cv : Value) (code : List Ins) (pos : Nat), Blk w c.g [cv, c.nv, i64 pos, c.lv, i64 d] 118 ∧ w.ownsRow c.B 71 3 cv code.length (insC code) ∧ lo ≤ code.length ∧ code.length ≤ n ∧ pos ≤ n ∧ (∀ x ∈ code, x.rg) ∧ ∀ k, cv.ownBlock = some k → ¬ c.H k
theorem Mk.mono {c : Mc} {wb : World} {lo n d lo' n' : Nat} (h : Mk c wb w lo n d) (h1 : lo' ≤ lo) (h2 : n ≤ n') : Mk c wb w lo' n' d := by
  obtain ⟨o, fr, cv, code, pos, a1, a2, a3, a4, a5, a6⟩ := h
  exact ⟨o, fr, cv, code, pos, a1, a2, by omega, by omega, by omega, a6⟩
theorem Mk.up {c : Mc} {wb : World} {lo n d n' : Nat} (h : Mk c wb w lo n d) (h2 : n ≤ n') : Mk c wb w 0 n' d := h.mono (Nat.zero_le _) h2
theorem Mk.ext {c : Mc} {wb w' : World} {lo n d : Nat} (h : Mk c wb w lo n d) (hx : Ext w w') : Mk c wb w' lo n d := by
  obtain ⟨o, fr, cv, code, pos, a1, a2, a3⟩ := h
  exact ⟨o, fr.trans (Fr.of_ext hx) fun _ _ h => h, cv, code, pos, a1.ext hx, hx.own a2, a3⟩
theorem Mk.numsAt {c : Mc} {wb : World} {lo n d : Nat} (h : Mk c wb w lo n d) : IntsAre w c.nv c.nums := h.o.nums w h.fr
theorem Mk.locAt {c : Mc} {wb : World} {lo n d : Nat} (h : Mk c wb w lo n d) : IntsAre w c.lv c.loc := h.o.loc w h.fr
theorem Mk.gH {c : Mc} {wb : World} {lo n d : Nat} (h : Mk c wb w lo n d) : ¬ c.H c.g := fun hg => (h.o.hH _ hg).2 rfl
/-- How deep it is, read. -/
theorem ldD {c : Mc} {wb : World} {lo n d : Nat} (h : Mk c wb w lo n d) (hk : K (i64 (d : Nat)) w) : V Tryz.prog (Instr.fieldAt 118 (.pointer (some ⟨c.g, 0, none⟩)) 4) w fun q w1 => V Tryz.prog (Instr.loadAt 3 q) w1 K := by
  obtain ⟨cv, code, pos, a1, _⟩ := h.at_
  exact ldB (Blk.boxed a1) fa_118_4 l1_3 rfl hk
/-- ... set. -/
theorem stD {c : Mc} {wb : World} {lo n d d' : Nat} {K' : World → Prop} (h : Mk c wb w lo n d) (hk : ∀ w', Mk c wb w' lo n d' → K' w') : V Tryz.prog (Instr.fieldAt 118 (.pointer (some ⟨c.g, 0, none⟩)) 4) w fun q w1 => U Tryz.prog (Instr.storeAt 3 q (i64 (d' : Nat))) w1 fun _ w2 => K' w2 := by
  have hg := h.gH
  obtain ⟨o, fr, cv, code, pos, a1, a2, a3⟩ := h
  refine stF fa_118_4 inf3 a1 (n := 5) rfl (by decide) rfl (hk _ ⟨o, fr.set hg, cv, code, pos, a1.set 4 _, ?_, a3⟩)
  exact (Fr.of_set (S := fun i => i = c.g) rfl).own a2 fun k hk he => by have := (a2.lt k hk).1; have := o.gB.1; omega
theorem insC_snoc (l : List Ins) (x : Ins) : insC (l ++ [x]) = insC l ++ [i64 x.op, i64 x.a, i64 x.b] := by simp [insC]
/-- An instruction more. -/
theorem put51 {c : Mc} {wb : World} {lo n d : Nat} {op a b : Int} (h : Mk c wb w lo n d) (hn : n ≤ 1000000) (hk : ∀ w', Mk c wb w' 1 (n + 1) d → K (.tuple #[]) w') (hb : -9223372036854775808 ≤ b ∧ b ≤ 9223372036854775807 := by decide) :
    callD Tryz.prog 51 #[.pointer (some ⟨c.g, 0, none⟩), i64 op, i64 a, i64 b] w K := by
  have hg := h.gH
  obtain ⟨o, fr, cv, code, pos, a1, a2, a3, a4, a5, a6, a7⟩ := h
  have hgB := o.gB
  apply F51_wp
  unfold F51_den
  refine ⟨.inl ⟨_, rfl⟩, ldB (Blk.boxed a1) fa_118_0 l1_45 rfl ?_⟩
  refine bld bd_71 [(0, i64 op), (1, i64 a), (2, i64 b)] rfl rfl ?_
  refine bslG Tryz.underlying45 inf71 rfl (by decide) [.agg #[i64 op, i64 a, i64 b]] rfl rfl (by intro v hv; rw [List.mem_singleton] at hv; subst hv; rfl) (by decide) (by decide) fun uv w5 ho5 x5 => ?_
  refine apG Tryz.underlying45 inf71 rfl (by decide) (x5.own a2) (SliceIs.of_own ho5) (by rfl) (by omega) (by unfold maxLen; omega) (Nat.le_trans hgB.2 (fr.trans (Fr.of_ext x5) fun _ _ h => h).size) fun v6 w6 ho6 hg6 hl6 => ?_
  have a1' : Blk w6 c.g _ _ := (Fr.of_grown (S := fun k => cv.ownBlock = some k) hg6 fun k hk => hk).blk (a1.ext x5) fun hk => by have := (a2.lt _ hk).1; omega
  have fr6 : Fr (fun k => ¬ c.H k) wb w6 := (fr.trans (Fr.of_ext x5) fun _ _ h => h).trans (Fr.of_grown (S := fun k => ¬ c.H k) hg6 fun k hk => a7 k hk) fun _ _ h => h
  have e6 : insC code ++ [Value.agg #[i64 op, i64 a, i64 b]].flatMap (fun v => v.cells.toList) = insC (code ++ [⟨op, a, b⟩]) := by rw [insC_snoc]; rfl
  rw [e6] at ho6
  refine ⟨.inl ⟨_, rfl⟩, stF fa_118_0 inf45 a1' (n := 5) rfl (by decide) (own_one ho6) (hk _ ⟨o, fr6.set hg, v6, code ++ [⟨op, a, b⟩], pos, a1'.set 0 _, ?_, by simp, by simp; omega, by omega, fun x hx => ?_, fun k hk => ?_⟩)⟩
  · rw [List.length_append]
    exact (Fr.of_set (S := fun i => i = c.g) rfl).own ho6 fun k hk he => by have := (ho6.lt k hk).1; omega
  · rcases List.mem_append.1 hx with hx | hx
    · exact a6 x hx
    · rw [List.mem_singleton] at hx; subst hx; exact hb
  · rcases hl6 with h6 | h6
    · rw [h6] at hk; exact a7 k hk
    · rw [h6] at hk
      cases hk
      intro hH
      have h1 := (o.hH _ hH).1
      have h2 := fr.size
      have h3 := x5.size
      omega
/-- The next of its numbers. -/
theorem next112 {c : Mc} {wb : World} {lo n d : Nat} (h : Mk c wb w lo n d) (hn : n ≤ 1000000) (hk : ∀ z w', Mk c wb w' lo (n + 1) d → Fr (fun k => k = c.g) w w' → K (i64 z) w') :
    callD Tryz.prog 112 #[.pointer (some ⟨c.g, 0, none⟩)] w K := by
  have hg := h.gH
  have hnum := h.numsAt
  have h0 := h
  obtain ⟨o, fr, cv, code, pos, a1, a2, a3, a4, a5, a6⟩ := h
  have hgB := o.gB
  have hln := o.ln
  apply F112_wp
  unfold F112_den
  refine ⟨.inl ⟨_, rfl⟩, ldB (Blk.boxed a1) fa_118_1 l1_23 rfl (lnx xa_23 hnum (V_eqlI.2 (ifD_dec (fun hz => ?_) fun hz => ?_)))⟩
  · exact hk 0 w (h0.mono (Nat.le_refl _) (by omega)) (Fr.refl _ _)
  refine ⟨.inl ⟨_, rfl⟩, ldB (Blk.boxed a1) fa_118_2 l1_3 rfl (V_add.2 ?_)⟩
  rw [wrap_id (by omega) (by omega), i64_succ]
  refine ⟨.inl ⟨_, rfl⟩, stF fa_118_2 inf3 a1 (n := 5) rfl (by decide) rfl ?_⟩
  have hset : Fr (fun k => k = c.g) w (w.setCell ⟨c.g, 2, none⟩ (i64 ((pos + 1 : Nat) : Int))) := Fr.of_set rfl
  have hm : Mk c wb (w.setCell ⟨c.g, 2, none⟩ (i64 ((pos + 1 : Nat) : Int))) lo (n + 1) d := by
    refine ⟨o, fr.set hg, cv, code, pos + 1, a1.set 2 _, ?_, a3, by omega, by omega, a6⟩
    exact hset.own a2 fun k hk he => by have := (a2.lt k hk).1; omega
  have a1s := a1.set 2 (i64 ((pos + 1 : Nat) : Int))
  generalize w.setCell ⟨c.g, 2, none⟩ (i64 ((pos + 1 : Nat) : Int)) = w2 at hset hm a1s
  have D1 : Ext w2 w2.drew := (Ext.refl _).drew
  have hbx : ∀ w', Ext w2.drew w' → Boxed w' c.g [cv, c.nv, i64 ((pos + 1 : Nat) : Int), c.lv, i64 d] := fun w' hx => Blk.boxed (a1s.ext (D1.trans hx))
  have hnum2 := (hm.ext D1).numsAt
  have hlen : 0 < c.nums.length := by omega
  refine drawD.mk' (fun w' => Ext w2.drew w') (Ext.refl _) ?_
  refine ⟨.inl ⟨_, rfl⟩, yfB hbx fa_118_1 l1_23 rfl ?_⟩
  refine ⟨.inl ⟨_, rfl⟩, yfB hbx fa_118_2 l1_3 rfl ?_⟩
  refine ⟨.inl ⟨_, rfl⟩, yfB hbx fa_118_1 l1_23 rfl (yLen xa_23 hnum2 ?_)⟩
  refine yieldS.ok (fun w' _ => r_rem (by omega)) ?_
  have e1 : (((pos + 1 : Nat) : Int)).tmod (c.nums.length : Int) = (((pos + 1) % c.nums.length : Nat) : Int) := by
    rw [Int.tmod_eq_emod_of_nonneg (by omega)]; rfl
  rw [e1]
  have hlt := Nat.mod_lt (pos + 1) hlen
  refine ySl xa_23 l1_3 hnum2 (fun _ h => h) (by omega) (by omega) (getI (getN hlt)) ?_
  refine ⟨.inl ⟨_, rfl⟩, yfB hbx fa_118_2 l1_3 rfl ?_⟩
  refine ⟨.inl ⟨_, rfl⟩, yfB hbx fa_118_1 l1_23 rfl (yLen xa_23 hnum2 ?_)⟩
  refine yieldS.ok (fun w' _ => r_quo (by omega)) (yieldS.ok (fun w' _ => r_add) ?_)
  exact hk _ _ (hm.ext D1) (hset.trans (Fr.of_ext D1) fun _ _ h => h)
end Go.Proofs.YtcdbikfnlggbnaaGreatDoor
namespace Go.Proofs.YtcdbikfnlggbnaaGreatDoor
open Go.Vc Go.Tc
variable {w : World} {K : Value → World → Prop}
/-- A local of a kind, if there is one. -/
theorem local113 {c : Mc} {wb : World} {lo n d : Nat} {k : Int} (h : Mk c wb w lo n d) (hn : n ≤ 1000000) (hk : ∀ z b w', Mk c wb w' lo (n + 1) d → K (.tuple #[i64 z, .bool b]) w') :
    callD Tryz.prog 113 #[.pointer (some ⟨c.g, 0, none⟩), i64 k] w K := by
  have hgB := h.o.gB
  have hsz := h.fr.size
  have hll := h.o.ll
  apply F113_wp
  unfold F113_den
  refine ⟨fun sv v w' => ∃ (j : Nat) (l : List Int), v = i64 j ∧ j ≤ c.loc.length ∧ l.length ≤ j ∧ Ext w w' ∧ w'.ownsRow w.heap.size 3 1 sv l.length (l.map i64), fun _ v _ => c.loc.length - (RowKit.intOf v).toNat, ⟨0, [], rfl, Nat.zero_le _, Nat.le_refl _, Ext.refl _, World.ownsRow_nil _ _ _ _⟩, ?_⟩
  rintro sv _ w1 ⟨j, l, rfl, hj, hl, x1, ho⟩ _
  have h1 := h.ext x1
  obtain ⟨o, fr, cv, code, pos, a1, a2, _⟩ := h1
  have hloc := o.loc _ fr
  refine ⟨.inl ⟨_, rfl⟩, ldB (Blk.boxed a1) fa_118_3 l1_23 rfl (lnx xa_23 hloc (V_lss.2 (ifD_dec (fun hlt => ?_) fun hge => ?_)))⟩
  · refine ⟨.inl ⟨_, rfl⟩, ldB (Blk.boxed a1) fa_118_3 l1_23 rfl ?_⟩
    refine ldx xa_23 l1_3 hloc (by omega) (by omega) (getI (getN (l := c.loc) (j := j) (by omega))) (V_eqlI.2 (ifD_dec (fun he => ?_) fun he => ?_))
    · refine bsl xe_23 [i64 j] rfl rfl (by simp) rfl fun v2 w2 ho2 x2 => ?_
      refine apO xe_23 (x2.own ho) (SliceIs.of_own ho2) rfl (by omega) (by unfold maxLen; omega) (x1.trans x2).size fun v3 w3 ho3 hg3 => ?_
      refine V_add.2 ?_
      rw [wrap_id (by omega) (by omega), i64_succ]
      exact ⟨⟨j + 1, l ++ [(j : Int)], rfl, by omega, by simp; omega, (x1.trans x2).grown hg3 fun q hq => ((x2.own ho).lt q hq).1, by simpa using ho3⟩, by simp only [intOf_i64]; omega⟩
    · refine V_add.2 ?_
      rw [wrap_id (by omega) (by omega), i64_succ]
      exact ⟨⟨j + 1, l, rfl, by omega, by omega, x1, ho⟩, by simp only [intOf_i64]; omega⟩
  refine lnx xa_23 (SliceIs.of_own ho) (V_eqlI.2 (ifD_dec (fun hz => ?_) fun hz => ?_))
  · exact hk _ _ _ ((h.ext x1).mono (Nat.le_refl _) (by omega))
  refine next112 (h.ext x1) hn fun z w2 h2 f2 => ?_
  have ho2 := f2.own ho fun q hq he => by have := (ho.lt q hq).1; omega
  refine lnx xa_23 (SliceIs.of_own ho2) (pick10 (by omega) (by omega) fun q hq0 hq1 => ?_)
  obtain ⟨r, rfl⟩ : ∃ r : Nat, q = r := ⟨q.toNat, by omega⟩
  refine ldO' xa_23 l1_3 ho2 (by omega) (by omega) (getI (getN (by omega))) ?_
  exact hk _ _ _ h2
/-- An array of a kind. -/
theorem arr83 {c : Mc} {wb : World} {lo n d : Nat} {k : Int} (h : Mk c wb w lo n d) (hn : n ≤ 900000) (hk : ∀ w', Mk c wb w' 0 (n + 6) d → K (.tuple #[]) w') :
    callD Tryz.prog 83 #[.pointer (some ⟨c.g, 0, none⟩), i64 k] w K := by
  apply F83_wp
  unfold F83_den
  refine next112 h (by omega) fun z w1 h1 _ => ?_
  refine pick10 (by decide) (by decide) fun q hq0 hq1 => ?_
  have hc : q = 0 ∨ q = 1 ∨ q = 2 ∨ q = 3 ∨ q = 4 ∨ q = 5 := by omega
  rcases hc with rfl | rfl | rfl | rfl | rfl | rfl
  case inl | inr.inl =>
    all_goals
      simp only [evL, Int.reduceEq, decide_true, decide_false]
      try intro _
      refine local113 h1 (by omega) fun z b w2 h2 => ?_
      refine V_ext0.2 (V_ext1.2 ?_)
      cases b with
      | true =>
        refine ifD_true.2 ?_
        exact put51 h2 (by omega) fun w3 h3 => hk _ (h3.up (by omega))
      | false =>
        refine ifD_false.2 ?_
        exact put51 h2 (by omega) fun w3 h3 => hk _ (h3.up (by omega))
  case inr.inr.inl | inr.inr.inr.inl =>
    all_goals
      simp only [evL, Int.reduceEq, decide_true, decide_false]
      intros
      refine V_sub.2 ?_
      refine V_add.2 ?_
      exact put51 h1 (by omega) fun w3 h3 => hk _ (h3.up (by omega))
  · simp only [evL, Int.reduceEq, decide_true, decide_false]
    intros
    refine V_sub.2 ?_
    exact put51 h1 (by omega) fun w3 h3 => hk _ (h3.up (by omega))
  · simp only [evL, Int.reduceEq, decide_false]
    intros
    refine next112 h1 (by omega) fun z w2 h2 _ => ?_
    refine pick10 (by decide) (by decide) fun q hq0 hq1 => ?_
    refine put51 h2 (by omega) fun w3 h3 => ?_
    refine V.ok (w' := w3) (v := .agg (([0, 1, 2, 4, 5, 6] : List Int).map i64).toArray) (by kernel_rfl) ?_
    refine next112 h3 (by omega) fun z w4 h4 _ => ?_
    refine pick10 (by decide) (by decide) fun q hq0 hq1 => ?_
    refine idxA Tryz.underlying191 inf3 Tryz.underlying3 (by decide) hq0 (by simpa using hq1) fun u hu => ?_
    refine put51 h4 (by omega) (fun w5 h5 => hk _ (h5.up (by omega))) ?_
    simp at hu
    omega
end Go.Proofs.YtcdbikfnlggbnaaGreatDoor
namespace Go.Vc
theorem bldA {P : Program} {w : World} {K : Value → World → Prop} {t : TypeId} {parts : Array (Nat × Value)} {v : Value} (h : ∀ w, (Instr.build t parts).run P w = .ok v w) (hk : K v w) : V P (Instr.build t parts) w K := V.ok (h w) hk
end Go.Vc
namespace Go.Proofs.YtcdbikfnlggbnaaGreatDoor
open Go.Vc Go.Tc
variable {w : World} {K : Value → World → Prop}
def PubOk (d k : Nat) : Prop := ∀ {c : Mc} {wb w : World} {lo n : Nat} {K : Value → World → Prop}, Mk c wb w lo n d → n + k ≤ 800000 → (∀ w', Mk c wb w' 0 (n + k) d → K (.tuple #[]) w') → callD Tryz.prog 85 #[.pointer (some ⟨c.g, 0, none⟩)] w K
def SecOk (d k : Nat) : Prop := ∀ {c : Mc} {wb w : World} {lo n : Nat} {K : Value → World → Prop}, Mk c wb w lo n d → n + k ≤ 800000 → (∀ w', Mk c wb w' 0 (n + k) d → K (.tuple #[]) w') → callD Tryz.prog 86 #[.pointer (some ⟨c.g, 0, none⟩)] w K
theorem index84 {d k : Nat} (hp : PubOk d k) (hk2 : 2 ≤ k) {c : Mc} {wb : World} {lo n : Nat} (h : Mk c wb w lo n d) (hn : n + k + 1 ≤ 800000) (hk : ∀ w', Mk c wb w' 0 (n + k + 1) d → K (.tuple #[]) w') :
    callD Tryz.prog 84 #[.pointer (some ⟨c.g, 0, none⟩)] w K := by
  apply F84_wp
  unfold F84_den
  refine next112 h (by omega) fun z w1 h1 _ => ?_
  refine pick10 (by decide) (by decide) fun q hq0 hq1 => ?_
  refine V_eqlI.2 (ifD_dec (fun he => ?_) fun he => ?_)
  · exact hp h1 (by omega) fun w2 h2 => hk _ (h2.up (by omega))
  · refine next112 h1 (by omega) fun z w2 h2 _ => ?_
    refine pick10 (by decide) (by decide) fun q hq0 hq1 => ?_
    exact put51 h2 (by omega) fun w3 h3 => hk _ (h3.up (by omega))
theorem ldBins {c : Mc} {wb : World} {lo n d : Nat} {i : Int} (h : Mk c wb w lo n d) (h0 : 0 ≤ i) (h1 : i < 12) (hk : ∀ z, K (i64 z) w) :
    V Tryz.prog (Instr.indexAt 193 (.pointer (some ⟨0, 0, none⟩)) (i64 i)) w fun p w1 => V Tryz.prog (Instr.loadAt 3 p) w1 K := by
  refine V.ok (r_arr Tryz.underlying193 inf3 h0 (by simpa using h1)) ?_
  obtain ⟨op, hop⟩ := h.o.bins _ h.fr i.toNat (by omega)
  exact V.ok (r_ld_3 (by rw [Nat.zero_add]; exact hop)) (hk _)
theorem pubStep {d k : Nat} (h20 : 20 ≤ k) (hd : d ≤ 3) (hs : d < 3 → ∃ k', PubOk (d + 1) k' ∧ SecOk (d + 1) k' ∧ 20 ≤ k' ∧ k = 3 * k' + 20) : PubOk d k := by
  intro c wb w lo n K h hn hk
  apply F85_wp
  unfold F85_den
  refine ⟨.inl ⟨_, rfl⟩, ldD h (V_add.2 ?_)⟩
  rw [wrap_id (by omega) (by omega), i64_succ]
  refine ⟨.inl ⟨_, rfl⟩, stD h fun w1 h1 => ?_⟩
  refine next112 h1 (by omega) fun z0 w2 hh0 _ => ?_
  refine pick10 (by decide) (by decide) fun q hq0 hq1 => ?_
  refine ⟨fun v w' => ∃ z, v = i64 z ∧ w' = w2 ∧ 0 ≤ z ∧ z < 12 ∧ (d = 3 → z < 3), ?_, ?_⟩
  · refine ⟨.inl ⟨_, rfl⟩, ldD hh0 (V_gtr.2 (ifD_dec (fun hg => ?_) fun hg => ?_))⟩
    · refine rm (by decide) fun e he h1 h2 => ⟨e, rfl, rfl, ?_, by omega, fun _ => by omega⟩
      rw [he]; exact Int.tmod_nonneg _ hq0
    · exact ⟨q, rfl, rfl, hq0, hq1, fun _ => by omega⟩
  rintro _ _ ⟨z, rfl, rfl, hz0, hz1, hleaf⟩ _
  refine ⟨fun w' => Mk c wb w' 0 (n + k) (d + 1), ?_, ?_⟩
  case refine_2 =>
    intro w3 h3 _
    refine ⟨.inl ⟨_, rfl⟩, ldD h3 (V_sub.2 ?_)⟩
    rw [wrap_id (by omega) (by omega), show ((d + 1 : Nat) : Int) - 1 = ((d : Nat) : Int) by omega]
    exact ⟨.inl ⟨_, rfl⟩, stD h3 fun w4 h4 => hk _ h4⟩
  have hc : z = 0 ∨ z = 1 ∨ z = 2 ∨ z = 3 ∨ z = 4 ∨ z = 5 ∨ z = 6 ∨ z = 7 ∨ z = 8 ∨ z = 9 ∨ z = 10 ∨ z = 11 := by omega
  have hdeep : 3 ≤ z → ∃ k', PubOk (d + 1) k' ∧ SecOk (d + 1) k' ∧ 20 ≤ k' ∧ k = 3 * k' + 20 := fun hz => hs (by omega)
  rcases hc with rfl | rfl | rfl | rfl | rfl | rfl | rfl | rfl | rfl | rfl | rfl | rfl
  · simp only [evL, Int.reduceEq, Int.reduceNeg, decide_true, decide_false]
    intros
    refine bldA (v := .agg (([0, 1, 2, 3, 7, -1, 64, 1073741824] : List Int).map i64).toArray) (fun w => by kernel_rfl) ?_
    refine next112 hh0 (by omega) fun z w1 hh1 _ => ?_
    refine pick10 (by decide) (by decide) fun q hq0 hq1 => ?_
    refine idxA Tryz.underlying192 inf3 Tryz.underlying3 (by decide) hq0 (by simpa using hq1) fun u hu => ?_
    refine put51 hh1 (by omega) fun w1 hh2 => ?_
    exact hh2.up (by omega)
  · simp only [evL, Int.reduceEq, Int.reduceNeg, decide_true, decide_false]
    intros
    refine bldA (v := .agg (([0, 1, 2, 3, 7, -1, 64, 1073741824] : List Int).map i64).toArray) (fun w => by kernel_rfl) ?_
    refine next112 hh0 (by omega) fun z w1 hh1 _ => ?_
    refine pick10 (by decide) (by decide) fun q hq0 hq1 => ?_
    refine idxA Tryz.underlying192 inf3 Tryz.underlying3 (by decide) hq0 (by simpa using hq1) fun u hu => ?_
    refine put51 hh1 (by omega) fun w1 hh2 => ?_
    exact hh2.up (by omega)
  · simp only [evL, Int.reduceEq, Int.reduceNeg, decide_true, decide_false]
    intros
    refine local113 hh0 (by omega) fun z b w1 hh1 => ?_
    refine V_ext0.2 (V_ext1.2 ?_)
    cases b with
    | true =>
      refine ifD_true.2 ?_
      refine put51 hh1 (by omega) fun w1 hh2 => ?_
      exact hh2.up (by omega)
    | false =>
      refine ifD_false.2 ?_
      refine next112 hh1 (by omega) fun z w1 hh2 _ => ?_
      refine rm (by decide) fun e _ _ _ => ?_
      refine put51 hh2 (by omega) fun w1 hh3 => ?_
      exact hh3.up (by omega)
  · simp only [evL, Int.reduceEq, Int.reduceNeg, decide_true, decide_false]
    intros
    obtain ⟨k2, hpub, hsec, h21, hk3⟩ := hdeep (by decide)
    refine local113 hh0 (by omega) fun z b w1 hh1 => ?_
    refine V_ext0.2 (V_ext1.2 ?_)
    cases b with
    | true =>
      refine ifD_true.2 ?_
      refine put51 hh1 (by omega) fun w1 hh2 => ?_
      exact hh2.up (by omega)
    | false =>
      refine ifD_false.2 ?_
      refine next112 hh1 (by omega) fun z w1 hh2 _ => ?_
      refine rm (by decide) fun e _ _ _ => ?_
      refine put51 hh2 (by omega) fun w1 hh3 => ?_
      exact hh3.up (by omega)
  · simp only [evL, Int.reduceEq, Int.reduceNeg, decide_true, decide_false]
    intros
    obtain ⟨k2, hpub, hsec, h21, hk3⟩ := hdeep (by decide)
    refine hpub hh0 (by omega) fun w1 hh1 => ?_
    refine hpub hh1 (by omega) fun w1 hh2 => ?_
    refine next112 hh2 (by omega) fun z w1 hh3 _ => ?_
    refine pick10 (by decide) (by decide) fun q hq0 hq1 => ?_
    refine ldBins hh3 hq0 hq1 fun u => ?_
    refine put51 hh3 (by omega) fun w1 hh4 => ?_
    exact hh4.up (by omega)
  · simp only [evL, Int.reduceEq, Int.reduceNeg, decide_true, decide_false]
    intros
    obtain ⟨k2, hpub, hsec, h21, hk3⟩ := hdeep (by decide)
    refine hpub hh0 (by omega) fun w1 hh1 => ?_
    refine hpub hh1 (by omega) fun w1 hh2 => ?_
    refine next112 hh2 (by omega) fun z w1 hh3 _ => ?_
    refine pick10 (by decide) (by decide) fun q hq0 hq1 => ?_
    refine ldBins hh3 hq0 hq1 fun u => ?_
    refine put51 hh3 (by omega) fun w1 hh4 => ?_
    exact hh4.up (by omega)
  · simp only [evL, Int.reduceEq, Int.reduceNeg, decide_true, decide_false]
    intros
    obtain ⟨k2, hpub, hsec, h21, hk3⟩ := hdeep (by decide)
    refine hpub hh0 (by omega) fun w1 hh1 => ?_
    refine hpub hh1 (by omega) fun w1 hh2 => ?_
    refine next112 hh2 (by omega) fun z w1 hh3 _ => ?_
    refine pick10 (by decide) (by decide) fun q hq0 hq1 => ?_
    refine ldBins hh3 hq0 hq1 fun u => ?_
    refine put51 hh3 (by omega) fun w1 hh4 => ?_
    exact hh4.up (by omega)
  · simp only [evL, Int.reduceEq, Int.reduceNeg, decide_true, decide_false]
    intros
    obtain ⟨k2, hpub, hsec, h21, hk3⟩ := hdeep (by decide)
    refine next112 hh0 (by omega) fun z w1 hh1 _ => ?_
    refine pick10 (by decide) (by decide) fun q hq0 hq1 => ?_
    refine V_add.2 ?_
    refine put51 hh1 (by omega) fun w1 hh2 => ?_
    refine put51 hh2 (by omega) fun w1 hh3 => ?_
    exact hh3.up (by omega)
  · simp only [evL, Int.reduceEq, Int.reduceNeg, decide_true, decide_false]
    intros
    obtain ⟨k2, hpub, hsec, h21, hk3⟩ := hdeep (by decide)
    refine hpub hh0 (by omega) fun w1 hh1 => ?_
    refine hpub hh1 (by omega) fun w1 hh2 => ?_
    refine bldA (v := .agg (([17, 18] : List Int).map i64).toArray) (fun w => by kernel_rfl) ?_
    refine next112 hh2 (by omega) fun z w1 hh3 _ => ?_
    refine pick10 (by decide) (by decide) fun q hq0 hq1 => ?_
    refine idxA Tryz.underlying194 inf3 Tryz.underlying3 (by decide) hq0 (by simpa using hq1) fun u hu => ?_
    refine put51 hh3 (by omega) fun w1 hh4 => ?_
    exact hh4.up (by omega)
  · simp only [evL, Int.reduceEq, Int.reduceNeg, decide_true, decide_false]
    intros
    obtain ⟨k2, hpub, hsec, h21, hk3⟩ := hdeep (by decide)
    refine arr83 hh0 (by omega) fun w1 hh1 => ?_
    refine index84 hpub (by omega) hh1 (by omega) fun w1 hh2 => ?_
    refine put51 hh2 (by omega) fun w1 hh3 => ?_
    exact hh3.up (by omega)
  · simp only [evL, Int.reduceEq, Int.reduceNeg, decide_true, decide_false]
    intros
    obtain ⟨k2, hpub, hsec, h21, hk3⟩ := hdeep (by decide)
    refine hpub hh0 (by omega) fun w1 hh1 => ?_
    refine bldA (v := .agg (([15, 16, 15] : List Int).map i64).toArray) (fun w => by kernel_rfl) ?_
    refine next112 hh1 (by omega) fun z w1 hh2 _ => ?_
    refine pick10 (by decide) (by decide) fun q hq0 hq1 => ?_
    refine idxA Tryz.underlying195 inf3 Tryz.underlying3 (by decide) hq0 (by simpa using hq1) fun u hu => ?_
    refine put51 hh2 (by omega) fun w1 hh3 => ?_
    exact hh3.up (by omega)
  · simp only [evL, Int.reduceEq, Int.reduceNeg, decide_false]
    intros
    obtain ⟨k2, hpub, hsec, h21, hk3⟩ := hdeep (by decide)
    refine next112 hh0 (by omega) fun z w1 hh1 _ => ?_
    refine pick10 (by decide) (by decide) fun q hq0 hq1 => ?_
    refine V_add.2 ?_
    refine arr83 hh1 (by omega) fun w1 hh2 => ?_
    refine put51 hh2 (by omega) fun w1 hh3 => ?_
    exact hh3.up (by omega)
theorem secStep {d k : Nat} (h20 : 20 ≤ k) (hd : d ≤ 3) (hs : d < 3 → ∃ k', PubOk (d + 1) k' ∧ SecOk (d + 1) k' ∧ 20 ≤ k' ∧ k = 3 * k' + 20) : SecOk d k := by
  intro c wb w lo n K h hn hk
  apply F86_wp
  unfold F86_den
  refine ⟨.inl ⟨_, rfl⟩, ldD h (V_add.2 ?_)⟩
  rw [wrap_id (by omega) (by omega), i64_succ]
  refine ⟨.inl ⟨_, rfl⟩, stD h fun w1 h1 => ?_⟩
  refine next112 h1 (by omega) fun z0 w2 hh0 _ => ?_
  refine pick10 (by decide) (by decide) fun q hq0 hq1 => ?_
  refine ⟨fun v w' => ∃ z, v = i64 z ∧ w' = w2 ∧ 0 ≤ z ∧ z < 9 ∧ (d = 3 → z < 2), ?_, ?_⟩
  · refine ⟨.inl ⟨_, rfl⟩, ldD hh0 (V_gtr.2 (ifD_dec (fun hg => ?_) fun hg => ?_))⟩
    · refine rm (by decide) fun e he h1 h2 => ⟨e, rfl, rfl, ?_, by omega, fun _ => by omega⟩
      rw [he]; exact Int.tmod_nonneg _ hq0
    · exact ⟨q, rfl, rfl, hq0, hq1, fun _ => by omega⟩
  rintro _ _ ⟨z, rfl, rfl, hz0, hz1, hleaf⟩ _
  refine ⟨fun w' => Mk c wb w' 0 (n + k) (d + 1), ?_, ?_⟩
  case refine_2 =>
    intro w3 h3 _
    refine ⟨.inl ⟨_, rfl⟩, ldD h3 (V_sub.2 ?_)⟩
    rw [wrap_id (by omega) (by omega), show ((d + 1 : Nat) : Int) - 1 = ((d : Nat) : Int) by omega]
    exact ⟨.inl ⟨_, rfl⟩, stD h3 fun w4 h4 => hk _ h4⟩
  have hc : z = 0 ∨ z = 1 ∨ z = 2 ∨ z = 3 ∨ z = 4 ∨ z = 5 ∨ z = 6 ∨ z = 7 ∨ z = 8 := by omega
  have hdeep : 2 ≤ z → ∃ k', PubOk (d + 1) k' ∧ SecOk (d + 1) k' ∧ 20 ≤ k' ∧ k = 3 * k' + 20 := fun hz => hs (by omega)
  rcases hc with rfl | rfl | rfl | rfl | rfl | rfl | rfl | rfl | rfl
  · simp only [evL, Int.reduceEq, decide_true, decide_false]
    intros
    refine local113 hh0 (by omega) fun z b w1 hh1 => ?_
    refine V_ext0.2 (V_ext1.2 ?_)
    cases b with
    | true =>
      refine ifD_true.2 ?_
      refine put51 hh1 (by omega) fun w1 hh2 => ?_
      exact hh2.up (by omega)
    | false =>
      refine ifD_false.2 ?_
      refine put51 hh1 (by omega) fun w1 hh2 => ?_
      exact hh2.up (by omega)
  · simp only [evL, Int.reduceEq, decide_true, decide_false]
    intros
    refine next112 hh0 (by omega) fun z w1 hh1 _ => ?_
    refine rm (by decide) fun e _ _ _ => ?_
    refine put51 hh1 (by omega) fun w1 hh2 => ?_
    exact hh2.up (by omega)
  · simp only [evL, Int.reduceEq, decide_true, decide_false]
    intros
    obtain ⟨k2, hpub, hsec, h21, hk3⟩ := hdeep (by decide)
    refine hsec hh0 (by omega) fun w1 hh1 => ?_
    refine hsec hh1 (by omega) fun w1 hh2 => ?_
    refine next112 hh2 (by omega) fun z w1 hh3 _ => ?_
    refine pick10 (by decide) (by decide) fun q hq0 hq1 => ?_
    refine ldBins hh3 hq0 hq1 fun u => ?_
    refine put51 hh3 (by omega) fun w1 hh4 => ?_
    exact hh4.up (by omega)
  · simp only [evL, Int.reduceEq, decide_true, decide_false]
    intros
    obtain ⟨k2, hpub, hsec, h21, hk3⟩ := hdeep (by decide)
    refine hsec hh0 (by omega) fun w1 hh1 => ?_
    refine hsec hh1 (by omega) fun w1 hh2 => ?_
    refine next112 hh2 (by omega) fun z w1 hh3 _ => ?_
    refine pick10 (by decide) (by decide) fun q hq0 hq1 => ?_
    refine ldBins hh3 hq0 hq1 fun u => ?_
    refine put51 hh3 (by omega) fun w1 hh4 => ?_
    exact hh4.up (by omega)
  · simp only [evL, Int.reduceEq, decide_true, decide_false]
    intros
    obtain ⟨k2, hpub, hsec, h21, hk3⟩ := hdeep (by decide)
    refine arr83 hh0 (by omega) fun w1 hh1 => ?_
    refine index84 hpub (by omega) hh1 (by omega) fun w1 hh2 => ?_
    refine put51 hh2 (by omega) fun w1 hh3 => ?_
    exact hh3.up (by omega)
  · simp only [evL, Int.reduceEq, decide_true, decide_false]
    intros
    obtain ⟨k2, hpub, hsec, h21, hk3⟩ := hdeep (by decide)
    refine arr83 hh0 (by omega) fun w1 hh1 => ?_
    refine index84 hpub (by omega) hh1 (by omega) fun w1 hh2 => ?_
    refine put51 hh2 (by omega) fun w1 hh3 => ?_
    exact hh3.up (by omega)
  · simp only [evL, Int.reduceEq, decide_true, decide_false]
    intros
    obtain ⟨k2, hpub, hsec, h21, hk3⟩ := hdeep (by decide)
    refine hsec hh0 (by omega) fun w1 hh1 => ?_
    refine hsec hh1 (by omega) fun w1 hh2 => ?_
    refine hsec hh2 (by omega) fun w1 hh3 => ?_
    refine put51 hh3 (by omega) fun w1 hh4 => ?_
    exact hh4.up (by omega)
  · simp only [evL, Int.reduceEq, decide_true, decide_false]
    intros
    obtain ⟨k2, hpub, hsec, h21, hk3⟩ := hdeep (by decide)
    refine arr83 hh0 (by omega) fun w1 hh1 => ?_
    refine index84 hpub (by omega) hh1 (by omega) fun w1 hh2 => ?_
    refine next112 hh2 (by omega) fun z w1 hh3 _ => ?_
    refine pick10 (by decide) (by decide) fun q hq0 hq1 => ?_
    refine V_add.2 ?_
    refine arr83 hh3 (by omega) fun w1 hh4 => ?_
    refine index84 hpub (by omega) hh4 (by omega) fun w1 hh5 => ?_
    refine index84 hpub (by omega) hh5 (by omega) fun w1 hh6 => ?_
    refine put51 hh6 (by omega) fun w1 hh7 => ?_
    exact hh7.up (by omega)
  · simp only [evL, Int.reduceEq, decide_false]
    intros
    obtain ⟨k2, hpub, hsec, h21, hk3⟩ := hdeep (by decide)
    refine put51 hh0 (by omega) fun w1 hh1 => ?_
    exact hh1.up (by omega)
theorem both3 : PubOk 3 20 ∧ SecOk 3 20 := ⟨pubStep (by omega) (by omega) fun h => by omega, secStep (by omega) (by omega) fun h => by omega⟩
theorem both2 : PubOk 2 80 ∧ SecOk 2 80 := ⟨pubStep (by omega) (by omega) fun _ => ⟨20, both3.1, both3.2, by omega, by omega⟩, secStep (by omega) (by omega) fun _ => ⟨20, both3.1, both3.2, by omega, by omega⟩⟩
theorem both1 : PubOk 1 260 ∧ SecOk 1 260 := ⟨pubStep (by omega) (by omega) fun _ => ⟨80, both2.1, both2.2, by omega, by omega⟩, secStep (by omega) (by omega) fun _ => ⟨80, both2.1, both2.2, by omega, by omega⟩⟩
theorem both0 : PubOk 0 800 ∧ SecOk 0 800 := ⟨pubStep (by omega) (by omega) fun _ => ⟨260, both1.1, both1.2, by omega, by omega⟩, secStep (by omega) (by omega) fun _ => ⟨260, both1.1, both1.2, by omega, by omega⟩⟩
theorem any50 {c : Mc} {wb : World} {lo n : Nat} {k : Int} (h : Mk c wb w lo n 0) (hn : n + 800 ≤ 800000) (hk : ∀ w', Mk c wb w' 0 (n + 800) 0 → K (.tuple #[]) w') :
    callD Tryz.prog 50 #[.pointer (some ⟨c.g, 0, none⟩), i64 k] w K := by
  apply F50_wp
  unfold F50_den
  refine V_eqlI.2 (ifD_dec (fun h1 => ?_) fun h1 => V_eqlI.2 (ifD_dec (fun h2 => ?_) fun h2 => ?_))
  · exact both0.1 h hn hk
  · exact both0.2 h hn hk
  · exact arr83 h (by omega) fun w1 h1 => hk _ (h1.up (by omega))
end Go.Proofs.YtcdbikfnlggbnaaGreatDoor
namespace Go.Tc
theorem set_len {α : Type} {l : List α} {k : Nat} {x : α} : (l.set k x).length = l.length := List.length_set
end Go.Tc
namespace Go.Proofs.YtcdbikfnlggbnaaGreatDoor
open Go.Vc Go.Tc
variable {w : World} {K : Value → World → Prop}
/-- One block more that stays. -/
def Mc.hold (c : Mc) (b : Nat) : Mc := { c with H := fun k => c.H k ∨ k = b }
theorem Mk.stay {c : Mc} {wb w1 w' : World} {lo n d b : Nat} (h : Mk c wb w lo n d) (x : Ext w w1) (f : Fr (fun k => ¬ (c.hold b).H k) w1 w') : Fr (fun k => ¬ c.H k) wb w' :=
  (h.fr.trans (Fr.of_ext x) fun _ _ h => h).trans (f.mono (T := fun k => ¬ c.H k) fun _ hk hH => hk (.inl hH)) fun _ _ h => h
theorem Mk.hold {c : Mc} {wb w1 : World} {lo n d b : Nat} (h : Mk c wb w lo n d) (x : Ext w w1) (hb : b = w.heap.size) (hlt : b < w1.heap.size) : Mk (c.hold b) w1 w1 lo n d := by
  have hst : ∀ w', Fr (fun k => ¬ (c.hold b).H k) w1 w' → Fr (fun k => ¬ c.H k) wb w' := fun w' f => h.stay x f
  have s1 := h.fr.size
  have s2 := x.size
  have hgB := h.o.gB
  refine ⟨⟨⟨hgB.1, by show c.B ≤ _; omega⟩, fun k hk => ?_, fun w' f => h.o.nums w' (hst w' f), fun w' f => h.o.loc w' (hst w' f), fun w' f => h.o.bins w' (hst w' f), h.o.ln, h.o.ll⟩, Fr.refl _ _, ?_⟩
  · rcases hk with hk | hk
    · have := h.o.hH k hk
      exact ⟨by omega, this.2⟩
    · subst hk
      refine ⟨hlt, ?_⟩
      show k ≠ c.g
      omega
  · obtain ⟨cv, code, pos, a1, a2, a3, a4, a5, a6, a7⟩ := h.at_
    refine ⟨cv, code, pos, a1.ext x, x.own a2, a3, a4, a5, a6, fun k hk hH => ?_⟩
    rcases hH with hH | hH
    · exact a7 k hk hH
    · have := (a2.lt k hk).2; omega
theorem Mk.back {c : Mc} {wb w1 w' : World} {lo n d lo' n' d' b : Nat} (h : Mk c wb w lo n d) (x : Ext w w1) (h' : Mk (c.hold b) w1 w' lo' n' d') : Mk c wb w' lo' n' d' := by
  obtain ⟨o, fr, cv, code, pos, a1, a2, a3, a4, a5, a6, a7⟩ := h'
  exact ⟨h.o, h.stay x fr, cv, code, pos, a1, a2, a3, a4, a5, a6, fun k hk hH => a7 k hk (.inl hH)⟩
theorem insC_at {l : List Ins} {k : Nat} {x : Ins} (h : l[k]? = some x) : (insC l)[k * 3 + 1]? = some (i64 x.a) := by
  have := insC_row h
  have e : ((insC l).drop (k * 3))[1]? = some (i64 x.a) := by
    rw [← List.take_append_drop 3 ((insC l).drop (k * 3)), this]; rfl
  rwa [List.getElem?_drop] at e
theorem insC_setA : ∀ {l : List Ins} {k : Nat} {x : Ins} {z : Int}, l[k]? = some x → (insC l).set (k * 3 + 1) (i64 z) = insC (l.set k ⟨x.op, z, x.b⟩)
  | [], _, _, _, h => by simp at h
  | y :: l, 0, x, z, h => by simp at h; subst h; simp [insC]
  | y :: l, k + 1, x, z, h => by
    have := insC_setA (l := l) (k := k) (z := z) (by simpa using h)
    simp only [insC, List.flatMap_cons, List.set_cons_succ] at this ⊢
    rw [show (k + 1) * 3 + 1 = k * 3 + 1 + 3 by omega]
    simpa using this
/-- A maker's code, and where it lies. -/
structure Code (c : Mc) (wb w : World) (lo n d : Nat) (g' cap : Nat) (code : List Ins) (pos : Nat) : Prop where
  o : Mo c wb
  fr : Fr (fun k => ¬ c.H k) wb w
  blk : Blk w c.g [.slice (some ⟨g', 0, none⟩) code.length cap, c.nv, i64 pos, c.lv, i64 d] 118
  own : w.ownsRow c.B 71 3 (.slice (some ⟨g', 0, none⟩) code.length cap) code.length (insC code)
  lo : lo ≤ code.length
  hi : code.length ≤ n
  ps : pos ≤ n
  rg : ∀ x ∈ code, x.rg
  nH : ¬ c.H g'
theorem Mk.code {c : Mc} {wb : World} {lo n d : Nat} (h : Mk c wb w lo n d) (h1 : 1 ≤ lo) : ∃ g' cap code pos, Code c wb w lo n d g' cap code pos := by
  obtain ⟨o, fr, cv, code, pos, a1, a2, a3, a4, a5, a6, a7⟩ := h
  rcases a2.2 with ⟨_, e⟩ | ⟨g', cap, cur, rfl, _⟩
  · exact absurd e (by omega)
  · exact ⟨g', cap, code, pos, o, fr, a1, a2, a3, a4, a5, a6, a7 _ rfl⟩
theorem Code.toMk {c : Mc} {wb : World} {lo n d g' cap : Nat} {code : List Ins} {pos : Nat} (h : Code c wb w lo n d g' cap code pos) : Mk c wb w lo n d :=
  ⟨h.o, h.fr, _, code, pos, h.blk, h.own, h.lo, h.hi, h.ps, h.rg, fun k hk => by cases hk; exact h.nH⟩
theorem Code.ext {c : Mc} {wb w' : World} {lo n d g' cap : Nat} {code : List Ins} {pos : Nat} (h : Code c wb w lo n d g' cap code pos) (hx : Ext w w') : Code c wb w' lo n d g' cap code pos :=
  ⟨h.o, h.fr.trans (Fr.of_ext hx) fun _ _ h => h, h.blk.ext hx, hx.own h.own, h.lo, h.hi, h.ps, h.rg, h.nH⟩
/-- The first number of an instruction is set. -/
theorem stIns {c : Mc} {wb : World} {lo n d g' cap : Nat} {code : List Ins} {pos k : Nat} {z : Int} {K' : World → Prop} (h : Code c wb w lo n d g' cap code pos) (hkl : k < code.length)
    (hk : ∀ w' code', code'.length = code.length → Code c wb w' lo n d g' cap code' pos → K' w') : U Tryz.prog (Instr.storeAt 3 (.pointer (some ⟨g', 0 + k * 3 + 1, none⟩)) (i64 z)) w fun _ w2 => K' w2 := by
  have hx : code[k]? = some code[k] := List.getElem?_eq_getElem hkl
  obtain ⟨s1, s2⟩ := h.own.stored (k * 3 + 1) (i64 z)
  have hc := h.own.cellAt (k * 3 + 1) (by omega)
  rw [insC_at hx] at hc
  rw [Nat.zero_add]
  have hgB := h.o.gB.1
  have hgg : c.B ≤ g' := (h.own.lt g' rfl).1
  refine U.ok (r_store inf3 rfl hc (h.own.frozenAt _)) (hk _ (code.set k ⟨code[k].op, z, code[k].b⟩) set_len ⟨h.o, h.fr.set h.nH, ?_, ?_, ?_, ?_, h.ps, fun y hy => ?_, h.nH⟩)
  · rw [set_len]; exact h.blk.other (by omega)
  · rw [set_len, ← insC_setA hx]; exact s1
  · rw [set_len]; exact h.lo
  · rw [set_len]; exact h.hi
  · rcases List.mem_or_eq_of_mem_set hy with hy | rfl
    · exact h.rg y hy
    · have := h.rg code[k] (List.getElem_mem hkl)
      exact this
set_option maxHeartbeats 4000000 in
theorem stmt49 {c : Mc} {wb : World} {lo n : Nat} {k a b e : Int} (h : Mk c wb w lo n 0) (hn : n + 4000 ≤ 700000) {tv mv iv : Value} {tl : List Int} {ms : List Mth} {is : List Imp} (ht : ∀ w', Fr (fun k => ¬ c.H k) wb w' → IntsAre w' tv tl) (htl : tl.length ≤ 1000000)
    (hm : ∀ w', Fr (fun k => ¬ c.H k) wb w' → MthsAre w' mv ms) (hi : ∀ w', Fr (fun k => ¬ c.H k) wb w' → ImpsAre w' iv is) (m0 : 0 < ms.length ∧ ms.length ≤ 1000) (m4 : ∀ m ∈ ms, m.params.length ≤ 4) (i0 : is.length ≤ 1000) (i4 : ∀ x ∈ is, x.params.length ≤ 4)
    (hk : ∀ w', Mk c wb w' 0 (n + 4000) 0 → K (.tuple #[]) w') :
    callD Tryz.prog 49 #[.pointer (some ⟨c.g, 0, none⟩), .agg #[i64 k, i64 a, i64 b, i64 e], tv, mv, iv] w K := by
  apply F49_wp
  unfold F49_den
  refine bxK fun w1 hB1 x1 => ?_
  have hh0 := h.hold x1 rfl hB1.lt
  have fin : ∀ {w' lo' n'}, Mk (c.hold w.heap.size) w1 w' lo' n' 0 → n' ≤ n + 4000 → K (.tuple #[]) w' := fun hh hle => hk _ ((h.back x1 hh).up hle)
  have bx1 : ∀ {w'}, Fr (fun k => ¬ (c.hold w.heap.size).H k) w1 w' → Boxed w' w.heap.size [i64 k, i64 a, i64 b, i64 e] := fun f => Blk.boxed (f.blk hB1 fun hn => hn (.inr rfl))
  have ht := fun w' f => ht w' (h.stay (b := w.heap.size) x1 f)
  have hm := fun w' f => hm w' (h.stay (b := w.heap.size) x1 f)
  have hi := fun w' f => hi w' (h.stay (b := w.heap.size) x1 f)
  have hll := hh0.o.ll
  have hgc : (c.hold w.heap.size).g = c.g := rfl
  rw [← hgc]
  clear hB1
  generalize c.hold w.heap.size = c' at *
  generalize w.heap.size = rb at *
  clear hgc h hk
  refine ldB (bx1 (Fr.refl _ _)) fa_120_0 l1_3 rfl ?_
  refine pick10 (by decide) (by decide) fun q hq0 hq1 => ?_
  have hc : q = 0 ∨ q = 1 ∨ q = 2 ∨ q = 3 ∨ q = 4 ∨ q = 5 ∨ q = 6 ∨ q = 7 ∨ q = 8 ∨ q = 9 ∨ q = 10 ∨ q = 11 ∨ q = 12 ∨ q = 13 ∨ q = 14 ∨ q = 15 := by omega
  rcases hc with rfl | rfl | rfl | rfl | rfl | rfl | rfl | rfl | rfl | rfl | rfl | rfl | rfl | rfl | rfl | rfl
  · simp only [evL, Int.reduceEq, Int.reduceNeg, decide_true, decide_false]
    intros
    have hloc := hh0.locAt
    obtain ⟨cv, code, pos, a1, _⟩ := hh0.at_
    refine ⟨.inl ⟨_, rfl⟩, ldB (Blk.boxed a1) fa_118_3 l1_23 rfl (lnx xa_23 hloc (V_eqlI.2 (ifD_dec (fun hz => fin hh0 (by omega)) fun hz => ?_)))⟩
    have D1 : Ext w1 w1.drew := (Ext.refl _).drew
    have hh1 := hh0.ext D1
    have hlocd := hh1.locAt
    have hbx : ∀ w', Ext w1.drew w' → Boxed w' c'.g [cv, c'.nv, i64 pos, c'.lv, i64 (0 : Nat)] := fun w' hx => Blk.boxed (a1.ext (D1.trans hx))
    refine drawD.mk' (fun w' => Ext w1.drew w') (Ext.refl _) ?_
    refine yfB (fun w' hx => (bx1 hh1.fr).ext hx) fa_120_1 l1_3 rfl ?_
    refine ⟨.inl ⟨_, rfl⟩, yfB hbx fa_118_3 l1_23 rfl (yLen xa_23 hlocd ?_)⟩
    refine pick10 (by omega) (by omega) fun r hr0 hr1 => ⟨Ext.refl _, ?_⟩
    refine ⟨.inl ⟨_, rfl⟩, ldB (hbx _ (Ext.refl _)) fa_118_3 l1_23 rfl ?_⟩
    obtain ⟨r, rfl⟩ : ∃ r2 : Nat, r = r2 := ⟨r.toNat, by omega⟩
    refine ldx xa_23 l1_3 hlocd (by omega) (by omega) (getI (getN (by omega))) ?_
    refine any50 hh1 (by omega) fun w1 hh2 => ?_
    refine put51 hh2 (by omega) fun w1 hh3 => ?_
    exact fin hh3 (by omega)
  · simp only [evL, Int.reduceEq, Int.reduceNeg, decide_true, decide_false]
    intros
    have hloc := hh0.locAt
    obtain ⟨cv, code, pos, a1, _⟩ := hh0.at_
    refine ⟨.inl ⟨_, rfl⟩, ldB (Blk.boxed a1) fa_118_3 l1_23 rfl (lnx xa_23 hloc (V_eqlI.2 (ifD_dec (fun hz => fin hh0 (by omega)) fun hz => ?_)))⟩
    have D1 : Ext w1 w1.drew := (Ext.refl _).drew
    have hh1 := hh0.ext D1
    have hlocd := hh1.locAt
    have hbx : ∀ w', Ext w1.drew w' → Boxed w' c'.g [cv, c'.nv, i64 pos, c'.lv, i64 (0 : Nat)] := fun w' hx => Blk.boxed (a1.ext (D1.trans hx))
    refine drawD.mk' (fun w' => Ext w1.drew w') (Ext.refl _) ?_
    refine yfB (fun w' hx => (bx1 hh1.fr).ext hx) fa_120_1 l1_3 rfl ?_
    refine ⟨.inl ⟨_, rfl⟩, yfB hbx fa_118_3 l1_23 rfl (yLen xa_23 hlocd ?_)⟩
    refine pick10 (by omega) (by omega) fun r hr0 hr1 => ⟨Ext.refl _, ?_⟩
    refine ⟨.inl ⟨_, rfl⟩, ldB (hbx _ (Ext.refl _)) fa_118_3 l1_23 rfl ?_⟩
    obtain ⟨r, rfl⟩ : ∃ r2 : Nat, r = r2 := ⟨r.toNat, by omega⟩
    refine ldx xa_23 l1_3 hlocd (by omega) (by omega) (getI (getN (by omega))) ?_
    refine any50 hh1 (by omega) fun w1 hh2 => ?_
    refine put51 hh2 (by omega) fun w1 hh3 => ?_
    exact fin hh3 (by omega)
  · simp only [evL, Int.reduceEq, Int.reduceNeg, decide_true, decide_false]
    intros
    have hloc := hh0.locAt
    obtain ⟨cv, code, pos, a1, _⟩ := hh0.at_
    refine ⟨.inl ⟨_, rfl⟩, ldB (Blk.boxed a1) fa_118_3 l1_23 rfl (lnx xa_23 hloc (V_eqlI.2 (ifD_dec (fun hz => fin hh0 (by omega)) fun hz => ?_)))⟩
    have D1 : Ext w1 w1.drew := (Ext.refl _).drew
    have hh1 := hh0.ext D1
    have hlocd := hh1.locAt
    have hbx : ∀ w', Ext w1.drew w' → Boxed w' c'.g [cv, c'.nv, i64 pos, c'.lv, i64 (0 : Nat)] := fun w' hx => Blk.boxed (a1.ext (D1.trans hx))
    refine drawD.mk' (fun w' => Ext w1.drew w') (Ext.refl _) ?_
    refine yfB (fun w' hx => (bx1 hh1.fr).ext hx) fa_120_1 l1_3 rfl ?_
    refine ⟨.inl ⟨_, rfl⟩, yfB hbx fa_118_3 l1_23 rfl (yLen xa_23 hlocd ?_)⟩
    refine pick10 (by omega) (by omega) fun r hr0 hr1 => ⟨Ext.refl _, ?_⟩
    refine ⟨.inl ⟨_, rfl⟩, ldB (hbx _ (Ext.refl _)) fa_118_3 l1_23 rfl ?_⟩
    obtain ⟨r, rfl⟩ : ∃ r2 : Nat, r = r2 := ⟨r.toNat, by omega⟩
    refine ldx xa_23 l1_3 hlocd (by omega) (by omega) (getI (getN (by omega))) ?_
    refine any50 hh1 (by omega) fun w1 hh2 => ?_
    refine put51 hh2 (by omega) fun w1 hh3 => ?_
    exact fin hh3 (by omega)
  · simp only [evL, Int.reduceEq, Int.reduceNeg, decide_true, decide_false]
    intros
    refine ldB (bx1 hh0.fr) fa_120_1 l1_3 rfl ?_
    refine pick10 (by decide) (by decide) fun q hq0 hq1 => ?_
    refine V_add.2 ?_
    refine arr83 hh0 (by omega) fun w1 hh1 => ?_
    refine index84 both0.1 (by omega) hh1 (by omega) fun w1 hh2 => ?_
    refine V_sub.2 ?_
    refine any50 hh2 (by omega) fun w1 hh3 => ?_
    refine put51 hh3 (by omega) fun w1 hh4 => ?_
    exact fin hh4 (by omega)
  · simp only [evL, Int.reduceEq, Int.reduceNeg, decide_true, decide_false]
    intros
    refine ldB (bx1 hh0.fr) fa_120_1 l1_3 rfl ?_
    refine pick10 (by decide) (by decide) fun q hq0 hq1 => ?_
    refine V_add.2 ?_
    refine arr83 hh0 (by omega) fun w1 hh1 => ?_
    refine index84 both0.1 (by omega) hh1 (by omega) fun w1 hh2 => ?_
    refine V_sub.2 ?_
    refine any50 hh2 (by omega) fun w1 hh3 => ?_
    refine put51 hh3 (by omega) fun w1 hh4 => ?_
    exact fin hh4 (by omega)
  · simp only [evL, Int.reduceEq, Int.reduceNeg, decide_true, decide_false]
    intros
    refine ldB (bx1 hh0.fr) fa_120_1 l1_3 rfl ?_
    refine pick10 (by decide) (by decide) fun q hq0 hq1 => ?_
    refine V_add.2 ?_
    refine any50 hh0 (by omega) fun w1 hh1 => ?_
    refine put51 hh1 (by omega) fun w1 hh2 => ?_
    exact fin hh2 (by omega)
  · simp only [evL, Int.reduceEq, Int.reduceNeg, decide_true, decide_false]
    intros
    refine ldB (bx1 hh0.fr) fa_120_1 l1_3 rfl ?_
    refine pick10 (by decide) (by decide) fun q hq0 hq1 => ?_
    refine V_add.2 ?_
    refine ldB (bx1 hh0.fr) fa_120_2 l1_3 rfl ?_
    refine pick10 (by decide) (by decide) fun q hq0 hq1 => ?_
    refine V_add.2 ?_
    refine ⟨fun v w' => (∃ z, v = i64 z) ∧ w' = w1, ?_, ?_⟩
    · exact V_eqlI.2 (ifD_dec (fun _ => ⟨⟨_, rfl⟩, rfl⟩) fun _ => ⟨⟨_, rfl⟩, rfl⟩)
    rintro _ _ ⟨⟨z, rfl⟩, rfl⟩ _
    refine arr83 hh0 (by omega) fun w1 hh1 => ?_
    refine index84 both0.1 (by omega) hh1 (by omega) fun w1 hh2 => ?_
    refine arr83 hh2 (by omega) fun w1 hh3 => ?_
    refine index84 both0.1 (by omega) hh3 (by omega) fun w1 hh4 => ?_
    refine index84 both0.1 (by omega) hh4 (by omega) fun w1 hh5 => ?_
    refine put51 hh5 (by omega) fun w1 hh6 => ?_
    exact fin hh6 (by omega)
  · simp only [evL, Int.reduceEq, Int.reduceNeg, decide_true, decide_false]
    intros
    refine ldB (bx1 hh0.fr) fa_120_1 l1_3 rfl ?_
    refine pick10 (by decide) (by decide) fun q hq0 hq1 => ?_
    refine V_add.2 ?_
    refine V_add.2 ?_
    refine V_sub.2 ?_
    refine arr83 hh0 (by omega) fun w1 hh1 => ?_
    refine index84 both0.1 (by omega) hh1 (by omega) fun w1 hh2 => ?_
    refine index84 both0.1 (by omega) hh2 (by omega) fun w1 hh3 => ?_
    refine put51 hh3 (by omega) fun w1 hh4 => ?_
    exact fin hh4 (by omega)
  · simp only [evL, Int.reduceEq, Int.reduceNeg, decide_true, decide_false]
    intros
    refine ldB (bx1 hh0.fr) fa_120_1 l1_3 rfl ?_
    refine pick10 (by decide) (by decide) fun q hq0 hq1 => ?_
    refine V_add.2 ?_
    refine V_add.2 ?_
    refine V_sub.2 ?_
    refine arr83 hh0 (by omega) fun w1 hh1 => ?_
    refine index84 both0.1 (by omega) hh1 (by omega) fun w1 hh2 => ?_
    refine index84 both0.1 (by omega) hh2 (by omega) fun w1 hh3 => ?_
    refine put51 hh3 (by omega) fun w1 hh4 => ?_
    exact fin hh4 (by omega)
  · simp only [evL, Int.reduceEq, Int.reduceNeg, decide_true, decide_false]
    intros
    refine both0.1 hh0 (by omega) fun w1 hh1 => ?_
    refine put51 hh1 (by omega) fun w1 hh2 => ?_
    refine ldB (bx1 hh2.fr) fa_120_1 l1_3 rfl ?_
    refine pick10 (by decide) (by decide) fun r hr0 hr1 => ?_
    by_cases hr : r = 0
    case neg =>
      simp only [hr, evL, reduceIte, Bool.false_eq_true, decide_false]
      exact fin hh2 (by omega)
    have htv := ht _ hh2.fr
    subst hr
    simp only [evL, reduceIte, decide_true]
    refine lnx xa_23 htv ?_
    by_cases hgt : (tl.length : Int) > 0
    case neg =>
      simp only [hgt, evL, decide_false]
      exact fin hh2 (by omega)
    simp only [hgt, evL, decide_true]
    obtain ⟨g', cap, code, pos, hcd⟩ := hh2.code (Nat.le_refl _)
    have D1 : Ext w1 w1.drew := (Ext.refl _).drew
    have hcd := hcd.ext D1
    have hlo := hcd.lo
    have hhi := hcd.hi
    have htv := htv.ext D1
    have hbr := (bx1 hh2.fr).ext D1
    refine drawD.mk' (fun w' => Ext w1.drew w') (Ext.refl _) ?_
    refine ⟨.inl ⟨_, rfl⟩, yfB (fun w' hx => Blk.boxed (hcd.blk.ext hx)) fa_118_0 l1_45 rfl ?_⟩
    refine ⟨.inl ⟨_, rfl⟩, yfB (fun w' hx => Blk.boxed (hcd.blk.ext hx)) fa_118_0 l1_45 rfl (yLen xa_45 (SliceIs.of_own hcd.own) ?_)⟩
    refine yieldS.ok (fun w' _ => r_sub) ?_
    rw [wrap_id (by omega) (by omega)]
    refine yfB (fun w' hx => hbr.ext hx) fa_120_2 l1_3 rfl (yLen xa_23 htv ?_)
    refine pick10 (by omega) (by omega) fun r hr0 hr1 => ⟨Ext.refl _, ?_⟩
    obtain ⟨r, rfl⟩ : ∃ r2 : Nat, r = r2 := ⟨r.toNat, by omega⟩
    refine ySl xa_23 l1_3 htv (fun _ h => h) (by omega) (by omega) (getI (getN (by omega))) ?_
    refine yieldS.ok (fun w' _ => r_index Tryz.underlying45 inf71 (by omega) (by omega)) ?_
    refine yieldS.ok (fun w' _ => FA.ex fa_71_1 w' _ _) ?_
    rw [show ((code.length : Int) - 1).toNat = code.length - 1 by omega]
    exact stIns hcd (by omega) fun w3 code' _ hc' => fin hc'.toMk (by omega)
  · simp only [evL, Int.reduceEq, Int.reduceNeg, decide_true, decide_false]
    intros
    refine both0.1 hh0 (by omega) fun w1 hh1 => ?_
    refine put51 hh1 (by omega) fun w1 hh2 => ?_
    refine ldB (bx1 hh2.fr) fa_120_1 l1_3 rfl ?_
    refine pick10 (by decide) (by decide) fun r hr0 hr1 => ?_
    by_cases hr : r = 0
    case neg =>
      simp only [hr, evL, reduceIte, Bool.false_eq_true, decide_false]
      exact fin hh2 (by omega)
    have htv := ht _ hh2.fr
    subst hr
    simp only [evL, reduceIte, decide_true]
    refine lnx xa_23 htv ?_
    by_cases hgt : (tl.length : Int) > 0
    case neg =>
      simp only [hgt, evL, decide_false]
      exact fin hh2 (by omega)
    simp only [hgt, evL, decide_true]
    obtain ⟨g', cap, code, pos, hcd⟩ := hh2.code (Nat.le_refl _)
    have D1 : Ext w1 w1.drew := (Ext.refl _).drew
    have hcd := hcd.ext D1
    have hlo := hcd.lo
    have hhi := hcd.hi
    have htv := htv.ext D1
    have hbr := (bx1 hh2.fr).ext D1
    refine drawD.mk' (fun w' => Ext w1.drew w') (Ext.refl _) ?_
    refine ⟨.inl ⟨_, rfl⟩, yfB (fun w' hx => Blk.boxed (hcd.blk.ext hx)) fa_118_0 l1_45 rfl ?_⟩
    refine ⟨.inl ⟨_, rfl⟩, yfB (fun w' hx => Blk.boxed (hcd.blk.ext hx)) fa_118_0 l1_45 rfl (yLen xa_45 (SliceIs.of_own hcd.own) ?_)⟩
    refine yieldS.ok (fun w' _ => r_sub) ?_
    rw [wrap_id (by omega) (by omega)]
    refine yfB (fun w' hx => hbr.ext hx) fa_120_2 l1_3 rfl (yLen xa_23 htv ?_)
    refine pick10 (by omega) (by omega) fun r hr0 hr1 => ⟨Ext.refl _, ?_⟩
    obtain ⟨r, rfl⟩ : ∃ r2 : Nat, r = r2 := ⟨r.toNat, by omega⟩
    refine ySl xa_23 l1_3 htv (fun _ h => h) (by omega) (by omega) (getI (getN (by omega))) ?_
    refine yieldS.ok (fun w' _ => r_index Tryz.underlying45 inf71 (by omega) (by omega)) ?_
    refine yieldS.ok (fun w' _ => FA.ex fa_71_1 w' _ _) ?_
    rw [show ((code.length : Int) - 1).toNat = code.length - 1 by omega]
    exact stIns hcd (by omega) fun w3 code' _ hc' => fin hc'.toMk (by omega)
  · simp only [evL, Int.reduceEq, Int.reduceNeg, decide_true, decide_false]
    intros
    refine ldB (bx1 hh0.fr) fa_120_1 l1_3 rfl ?_
    have hms := hm _ hh0.fr
    refine lnS xa_25 hms ?_
    refine pick10 (by omega) (by omega) fun r hr0 hr1 => ?_
    refine ⟨fun v w' => (∃ z : Nat, v = i64 z ∧ z < ms.length) ∧ w' = w1, ?_, ?_⟩
    · have hr : (∃ z : Nat, i64 r = i64 z ∧ z < ms.length) := ⟨r.toNat, by rw [Int.toNat_of_nonneg hr0], by omega⟩
      refine V_eqlI.2 ?_
      by_cases hz : r = 0
      case neg =>
        simp only [hz, evL, reduceIte, Bool.false_eq_true, decide_false]
        exact ⟨hr, by trivial⟩
      simp only [hz, evL, reduceIte, decide_true]
      refine ldB (bx1 hh0.fr) fa_120_2 l1_3 rfl ?_
      refine rm (by decide) fun e _ _ _ => ?_
      refine V_gtr.2 ?_
      by_cases he : e > 0
      case neg =>
        simp only [he, evL, decide_false]
        rw [hz] at hr; exact ⟨hr, by trivial⟩
      simp only [he, evL, decide_true]
      refine lnS xa_25 hms (V_sub.2 ?_)
      rw [wrap_id (by omega) (by omega)]
      exact ⟨⟨ms.length - 1, by congr 1; omega, by omega⟩, rfl⟩
    rintro _ w9 ⟨⟨t, rfl, htl2⟩, hw9⟩ _
    have hw9 := hw9.symm
    subst hw9
    obtain ⟨m, hmt⟩ := ex_get htl2
    have hm4 := m4 m (List.mem_of_getElem? hmt)
    refine ⟨fun v w' => ∃ j : Nat, v = i64 j ∧ j ≤ m.params.length ∧ Mk c' w1 w' 0 (n + 800 * j) 0, fun v _ => m.params.length - (RowKit.intOf v).toNat, ⟨0, rfl, Nat.zero_le _, hh0.up (by omega)⟩, ?_⟩
    rintro _ w2 ⟨j, rfl, hj, h2⟩ _
    refine ldSF xa_25 fa_47_0 l1_23 (hm _ h2.fr) hmt fun row hrow => ?_
    obtain ⟨pv, lv, cv, rfl, hp, _, _⟩ := hrow
    refine ⟨pv, rfl, by decide, lnx xa_23 hp (V_lss.2 (ifD_dec (fun hlt => ?_) fun hge => ?_))⟩
    · refine ldSF xa_25 fa_47_0 l1_23 (hm _ h2.fr) hmt fun row hrow => ?_
      obtain ⟨pv, lv, cv, rfl, hp, _, _⟩ := hrow
      refine ⟨pv, rfl, by decide, ?_⟩
      refine ldx xa_23 l1_3 hp (by omega) (by omega) (getI (getN (by omega))) ?_
      refine any50 h2 (by omega) fun w3 h3 => V_add.2 ?_
      rw [wrap_id (by omega) (by omega), i64_succ]
      exact ⟨⟨j + 1, rfl, by omega, h3.up (by omega)⟩, by simp only [intOf_i64]; omega⟩
    · refine put51 h2 (by omega) fun w3 h3 => ?_
      refine ldSF xa_25 fa_47_1 l1_3 (hm _ h3.fr) hmt fun row hrow => ?_
      obtain ⟨pv, lv, cv, rfl, hp, _, _⟩ := hrow
      refine ⟨_, rfl, by decide, V_neqI.2 (ifD_dec (fun hr => ?_) fun hr => ?_)⟩
      · exact put51 h3 (by omega) fun w4 h4 => fin h4 (by omega)
      · exact fin h3 (by omega)
  · simp only [evL, Int.reduceEq, Int.reduceNeg, decide_true, decide_false]
    intros
    refine ldB (bx1 hh0.fr) fa_120_1 l1_3 rfl ?_
    have hms := hm _ hh0.fr
    refine lnS xa_25 hms ?_
    refine pick10 (by omega) (by omega) fun r hr0 hr1 => ?_
    refine ⟨fun v w' => (∃ z : Nat, v = i64 z ∧ z < ms.length) ∧ w' = w1, ?_, ?_⟩
    · have hr : (∃ z : Nat, i64 r = i64 z ∧ z < ms.length) := ⟨r.toNat, by rw [Int.toNat_of_nonneg hr0], by omega⟩
      refine V_eqlI.2 ?_
      by_cases hz : r = 0
      case neg =>
        simp only [hz, evL, reduceIte, Bool.false_eq_true, decide_false]
        exact ⟨hr, by trivial⟩
      simp only [hz, evL, reduceIte, decide_true]
      refine ldB (bx1 hh0.fr) fa_120_2 l1_3 rfl ?_
      refine rm (by decide) fun e _ _ _ => ?_
      refine V_gtr.2 ?_
      by_cases he : e > 0
      case neg =>
        simp only [he, evL, decide_false]
        rw [hz] at hr; exact ⟨hr, by trivial⟩
      simp only [he, evL, decide_true]
      refine lnS xa_25 hms (V_sub.2 ?_)
      rw [wrap_id (by omega) (by omega)]
      exact ⟨⟨ms.length - 1, by congr 1; omega, by omega⟩, rfl⟩
    rintro _ w9 ⟨⟨t, rfl, htl2⟩, hw9⟩ _
    have hw9 := hw9.symm
    subst hw9
    obtain ⟨m, hmt⟩ := ex_get htl2
    have hm4 := m4 m (List.mem_of_getElem? hmt)
    refine ⟨fun v w' => ∃ j : Nat, v = i64 j ∧ j ≤ m.params.length ∧ Mk c' w1 w' 0 (n + 800 * j) 0, fun v _ => m.params.length - (RowKit.intOf v).toNat, ⟨0, rfl, Nat.zero_le _, hh0.up (by omega)⟩, ?_⟩
    rintro _ w2 ⟨j, rfl, hj, h2⟩ _
    refine ldSF xa_25 fa_47_0 l1_23 (hm _ h2.fr) hmt fun row hrow => ?_
    obtain ⟨pv, lv, cv, rfl, hp, _, _⟩ := hrow
    refine ⟨pv, rfl, by decide, lnx xa_23 hp (V_lss.2 (ifD_dec (fun hlt => ?_) fun hge => ?_))⟩
    · refine ldSF xa_25 fa_47_0 l1_23 (hm _ h2.fr) hmt fun row hrow => ?_
      obtain ⟨pv, lv, cv, rfl, hp, _, _⟩ := hrow
      refine ⟨pv, rfl, by decide, ?_⟩
      refine ldx xa_23 l1_3 hp (by omega) (by omega) (getI (getN (by omega))) ?_
      refine any50 h2 (by omega) fun w3 h3 => V_add.2 ?_
      rw [wrap_id (by omega) (by omega), i64_succ]
      exact ⟨⟨j + 1, rfl, by omega, h3.up (by omega)⟩, by simp only [intOf_i64]; omega⟩
    · refine put51 h2 (by omega) fun w3 h3 => ?_
      refine ldSF xa_25 fa_47_1 l1_3 (hm _ h3.fr) hmt fun row hrow => ?_
      obtain ⟨pv, lv, cv, rfl, hp, _, _⟩ := hrow
      refine ⟨_, rfl, by decide, V_neqI.2 (ifD_dec (fun hr => ?_) fun hr => ?_)⟩
      · exact put51 h3 (by omega) fun w4 h4 => fin h4 (by omega)
      · exact fin h3 (by omega)
  · simp only [evL, Int.reduceEq, Int.reduceNeg, decide_true, decide_false]
    intros
    have his := hi _ hh0.fr
    refine lnS xa_24 his (V_eqlI.2 (ifD_dec (fun hz => fin hh0 (by omega)) fun hz => ?_))
    refine ldB (bx1 hh0.fr) fa_120_1 l1_3 rfl ?_
    refine lnS xa_24 his ?_
    refine pick10 (by omega) (by omega) fun r hr0 hr1 => ?_
    obtain ⟨t, rfl⟩ : ∃ r2 : Nat, r = r2 := ⟨r.toNat, by omega⟩
    obtain ⟨m, hmt⟩ := ex_get (l := is) (j := t) (by omega)
    have hm4 := i4 m (List.mem_of_getElem? hmt)
    refine ⟨fun v w' => ∃ j : Nat, v = i64 j ∧ j ≤ m.params.length ∧ Mk c' w1 w' 0 (n + 800 * j) 0, fun v _ => m.params.length - (RowKit.intOf v).toNat, ⟨0, rfl, Nat.zero_le _, hh0.up (by omega)⟩, ?_⟩
    rintro _ w2 ⟨j, rfl, hj, h2⟩ _
    refine ldSF xa_24 fa_74_2 l1_23 (hi _ h2.fr) hmt fun row hrow => ?_
    obtain ⟨pv, rfl, hp⟩ := hrow
    refine ⟨pv, rfl, by decide, lnx xa_23 hp (V_lss.2 (ifD_dec (fun hlt => ?_) fun hge => ?_))⟩
    · refine ldSF xa_24 fa_74_2 l1_23 (hi _ h2.fr) hmt fun row hrow => ?_
      obtain ⟨pv, rfl, hp⟩ := hrow
      refine ⟨pv, rfl, by decide, ?_⟩
      refine ldx xa_23 l1_3 hp (by omega) (by omega) (getI (getN (by omega))) ?_
      refine any50 h2 (by omega) fun w3 h3 => V_add.2 ?_
      rw [wrap_id (by omega) (by omega), i64_succ]
      exact ⟨⟨j + 1, rfl, by omega, h3.up (by omega)⟩, by simp only [intOf_i64]; omega⟩
    · refine put51 h2 (by omega) fun w3 h3 => ?_
      refine ldSF xa_24 fa_74_3 l1_3 (hi _ h3.fr) hmt fun row hrow => ?_
      obtain ⟨pv, rfl, hp⟩ := hrow
      refine ⟨_, rfl, by decide, V_neqI.2 (ifD_dec (fun hr => ?_) fun hr => ?_)⟩
      · exact put51 h3 (by omega) fun w4 h4 => fin h4 (by omega)
      · exact fin h3 (by omega)
  · simp only [evL, Int.reduceEq, Int.reduceNeg, decide_true, decide_false]
    intros
    refine both0.1 hh0 (by omega) fun w1 hh1 => ?_
    refine put51 hh1 (by omega) fun w1 hh2 => ?_
    refine put51 hh2 (by omega) fun w1 hh3 => ?_
    refine put51 hh3 (by omega) fun w1 hh4 => ?_
    exact fin hh4 (by omega)
  · simp only [evL, Int.reduceEq, Int.reduceNeg, decide_false]
    intros
    refine ldB (bx1 hh0.fr) fa_120_1 l1_3 rfl ?_
    refine rm (by decide) fun e _ _ _ => ?_
    refine put51 hh0 (by omega) fun w1 hh1 => ?_
    refine put51 hh1 (by omega) fun w1 hh2 => ?_
    exact fin hh2 (by omega)
end Go.Proofs.YtcdbikfnlggbnaaGreatDoor
namespace Go.Vc
end Go.Vc
namespace Go.Proofs.YtcdbikfnlggbnaaGreatDoor
open Go.Vc Go.Tc
variable {w : World} {K : Value → World → Prop}
structure Rw where
  k : Int
  a : Int
  b : Int
  e : Int
def RwIs (_ : World) (row : List Value) (x : Rw) : Prop := row = [i64 x.k, i64 x.a, i64 x.b, i64 x.e]
def RwsAre (w : World) (v : Value) (l : List Rw) : Prop := (∃ a c, v = .slice a l.length c) ∧ (0 < l.length → StrsAre RwIs 4 w v l)
theorem RwsAre.ext {w' : World} {v : Value} {l : List Rw} (h : RwsAre w v l) (hx : Ext w w') : RwsAre w' v l := ⟨h.1, fun h0 => StrsAre.ext (fun h _ => h) (h.2 h0) hx⟩
theorem RwsAre.of {v : Value} {l : List Rw} (h : StrsAre RwIs 4 w v l) : RwsAre w v l := by
  obtain ⟨cs, h1⟩ := h.sl
  exact ⟨h1.shape, fun _ => h⟩
theorem RwsAre.str {v : Value} {l : List Rw} {i : Nat} {x : Rw} (h : RwsAre w v l) (hi : l[i]? = some x) : StrsAre RwIs 4 w v l := h.2 (by have := (List.getElem?_eq_some_iff.1 hi).1; omega)
theorem lnR {t ty : TypeId} {v : Value} {l : List Rw} (h : XA Tryz.prog t 4) (hs : RwsAre w v l) (hk : K (i64 l.length) w) : V Tryz.prog (Builtin.len_ #[t] ty #[v]) w K := by
  obtain ⟨e, z, b, ht, hi⟩ := h
  obtain ⟨⟨a, c, rfl⟩, _⟩ := hs
  exact V.ok (r_len ht) hk
theorem yLenR {S : World → Prop} {L : Value → Prop} {t ty : TypeId} {v : Value} {l : List Rw} (h : XA Tryz.prog t 4) (hs : RwsAre w v l) (hk : L (i64 l.length)) : yieldS Tryz.prog S (Builtin.len_ #[t] ty #[v]) L := by
  obtain ⟨e, z, b, ht, hi⟩ := h
  obtain ⟨⟨a, c, rfl⟩, _⟩ := hs
  exact yieldS.ok (fun w' _ => r_len ht) hk
/-- An element of a row of structs, whole, wherever. -/
theorem ySS {S : World → Prop} {L : Value → Prop} {α : Type} {T : World → List Value → α → Prop} {sz : Nat} {t x : TypeId} {v : Value} {l : List α} {i : Nat} {e : α} (h : XA Tryz.prog t sz) (ht : ∃ d z by_, Program.underlying Tryz.prog x = some d ∧ aggB d = true ∧ Inf Tryz.prog x z sz by_) (hs : StrsAre T sz w v l) (hx : ∀ w', S w' → Ext w w') (hi : l[i]? = some e) (hT : ∀ w row e, T w row e → row.length = sz)
    (hk : ∀ row, T w row e → L (.agg row.toArray)) : yieldS Tryz.prog S (Instr.indexAt t v (i64 i)) fun p => yieldS Tryz.prog S (Instr.loadAt x p) L := by
  obtain ⟨cs, h1, h2⟩ := hs
  obtain ⟨row, h3, h4⟩ := h2 i e hi
  have hlt : i < l.length := (List.getElem?_eq_some_iff.1 hi).1
  obtain ⟨e', z, b', hte, hinf⟩ := h
  obtain ⟨d, z', by_, g2, g3, g4⟩ := ht
  obtain ⟨b, off, cap, rfl, hcell⟩ := h1.there (by omega)
  refine yieldS.ok (fun w' _ => r_index hte hinf (by omega) (by omega)) (yieldS.ok (fun w' hw => r_loadAgg (cs := row) g2 g3 g4 (hT _ _ _ h4) fun j hj => ?_) (hk row h4))
  obtain ⟨u, hu⟩ : ∃ u, row[j]? = some u := ⟨_, List.getElem?_eq_getElem hj⟩
  rw [hu, Nat.add_assoc]
  refine (hx w' hw).cell (hcell _ u ?_)
  rw [← h3, List.getElem?_take, List.getElem?_drop] at hu
  split at hu
  · simpa using hu
  · cases hu
theorem r_min {t : TypeId} {ts : Array TypeId} {a b : Int} : (Builtin.min_ ts t #[i64 a, i64 b]).run Tryz.prog w = .ok (i64 (min a b)) w := by
  rcases r_min2 (P := Tryz.prog) (w := w) (t := t) (ts := ts) (a := a) (b := b) with h | h
  · rw [h]
    have : (if a < b then a else b) = min a b := by split <;> omega
    rw [this]
  · rw [h]
    have : (if b < a then b else a) = min a b := by split <;> omega
    rw [this]
/-- A maker whose code has L instructions. -/
def Cd (c : Mc) (wb w : World) (L N d : Nat) : Prop := Mo c wb ∧ Fr (fun k => ¬ c.H k) wb w ∧ ∃ (cv : Value) (code : List Ins) (pos : Nat), Blk w c.g [cv, c.nv, i64 pos, c.lv, i64 d] 118 ∧ w.ownsRow c.B 71 3 cv code.length (insC code) ∧ code.length = L ∧ pos ≤ N ∧ (∀ x ∈ code, x.rg) ∧ ∀ k, cv.ownBlock = some k → ¬ c.H k
theorem Cd.mk {c : Mc} {wb : World} {L N d n : Nat} (h : Cd c wb w L N d) (h1 : L ≤ n) (h2 : N ≤ n) : Mk c wb w 0 n d := by
  obtain ⟨o, fr, cv, code, pos, a1, a2, a3, a4, a5, a6⟩ := h
  exact ⟨o, fr, cv, code, pos, a1, a2, Nat.zero_le _, by omega, by omega, a5, a6⟩
theorem Cd.code {c : Mc} {wb : World} {L N d : Nat} (h : Cd c wb w L N d) (h1 : 0 < L) : ∃ g' cap code pos, code.length = L ∧ pos ≤ N ∧ Code c wb w L (L + N) d g' cap code pos := by
  obtain ⟨o, fr, cv, code, pos, a1, a2, a3, a4, a5, a6⟩ := h
  rcases a2.2 with ⟨_, e⟩ | ⟨g', cap, cur, rfl, _⟩
  · exact absurd e (by omega)
  · exact ⟨g', cap, code, pos, a3, a4, o, fr, a1, a2, by omega, by omega, by omega, a5, a6 _ rfl⟩
theorem Code.cd {c : Mc} {wb : World} {lo n d g' cap : Nat} {code : List Ins} {pos L N : Nat} (h : Code c wb w lo n d g' cap code pos) (h1 : code.length = L) (h2 : pos ≤ N) : Cd c wb w L N d :=
  ⟨h.o, h.fr, _, code, pos, h.blk, h.own, h1, h2, h.rg, fun k hk => by cases hk; exact h.nH⟩
theorem Mk.cd {c : Mc} {wb : World} {lo n d : Nat} (h : Mk c wb w lo n d) : ∃ L, L ≤ n ∧ Cd c wb w L n d := by
  obtain ⟨o, fr, cv, code, pos, a1, a2, a3, a4, a5, a6, a7⟩ := h
  exact ⟨_, a4, o, fr, cv, code, pos, a1, a2, rfl, a5, a6, a7⟩
theorem Cd.ext {c : Mc} {wb w' : World} {L N d : Nat} (h : Cd c wb w L N d) (hx : Ext w w') : Cd c wb w' L N d := by
  obtain ⟨o, fr, cv, code, pos, a1, a2, a3⟩ := h
  exact ⟨o, fr.trans (Fr.of_ext hx) fun _ _ h => h, cv, code, pos, a1.ext hx, hx.own a2, a3⟩
/-- The code's place, read; how long the code is. -/
theorem ldCL {c : Mc} {wb : World} {L N d : Nat} {ty : TypeId} (h : Cd c wb w L N d) (hk : K (i64 (L : Nat)) w) :
    V Tryz.prog (Instr.fieldAt 118 (.pointer (some ⟨c.g, 0, none⟩)) 0) w fun q w1 => V Tryz.prog (Instr.loadAt 45 q) w1 fun v w2 => V Tryz.prog (Builtin.len_ #[45] ty #[v]) w2 K := by
  obtain ⟨o, fr, cv, code, pos, a1, a2, rfl, _⟩ := h
  exact ldB (Blk.boxed a1) fa_118_0 l1_45 rfl (lnx xa_45 (SliceIs.of_own a2) hk)
/-- The code is set anew. -/
theorem stCode {c : Mc} {wb : World} {L N d B : Nat} {v : Value} {code : List Ins} {K' : World → Prop} (h : Cd c wb w L N d) (ho : w.ownsRow B 71 3 v code.length (insC code)) (hB : c.B ≤ B) (hr : ∀ x ∈ code, x.rg) (hv : ∀ k, v.ownBlock = some k → ¬ c.H k)
    (hk : ∀ w', Cd c wb w' code.length N d → K' w') : V Tryz.prog (Instr.fieldAt 118 (.pointer (some ⟨c.g, 0, none⟩)) 0) w fun q w1 => U Tryz.prog (Instr.storeAt 45 q v) w1 fun _ w2 => K' w2 := by
  obtain ⟨o, fr, cv, code0, pos, a1, a2, a3, a4, a5, a6⟩ := h
  have hg : ¬ c.H c.g := fun hg => (o.hH _ hg).2 rfl
  have hgB := o.gB.1
  refine stF fa_118_0 inf45 a1 (n := 5) rfl (by decide) (own_one ho) (hk _ ⟨o, fr.set hg, v, code, pos, a1.set 0 _, ?_, rfl, a4, hr, hv⟩)
  exact own_mono ((Fr.of_set (S := fun i => i = c.g) rfl).own ho fun k hk he => by have := (ho.lt k hk).1; omega) hB
end Go.Proofs.YtcdbikfnlggbnaaGreatDoor
namespace Go.Vc
theorem apS {P : Program} {w : World} {K : Value → World → Prop} {t e by_ ty : Nat} (h : XE P t e by_) {B : Nat} {v : Value} {n : Nat} {xs : List Value} (ho : w.ownsRow B e 1 v n xs) {x : Value} {m : Nat} {news : List Value} (hs : SliceIs w x 1 m news) (h1 : news.all oneC = true)
    (hb : (n + m) * by_ ≤ 140737488355328) (h63 : n + m ≤ maxLen) (hB : B ≤ w.heap.size)
    (hk : ∀ v' w', w'.ownsRow B e 1 v' (n + m) (xs ++ news) → w.grownBy w' v.ownBlock → (v'.ownBlock = v.ownBlock ∨ v'.ownBlock = some w.heap.size) → K v' w') :
    V P (Builtin.append_ #[t, t] ty #[v, x]) w K := by
  obtain ⟨z, ht, hi, hz⟩ := h
  exact apG ht hi hz (by omega) ho hs h1 hb h63 hB hk
end Go.Vc
namespace Go.Proofs.YtcdbikfnlggbnaaGreatDoor
open Go.Vc Go.Tc
variable {w : World} {K : Value → World → Prop}
theorem insC_op {l : List Ins} {k : Nat} {x : Ins} (h : l[k]? = some x) : (insC l)[k * 3 + 0]? = some (i64 x.op) := by
  have := insC_row h
  have e : ((insC l).drop (k * 3))[0]? = some (i64 x.op) := by
    rw [← List.take_append_drop 3 ((insC l).drop (k * 3)), this]; rfl
  rwa [List.getElem?_drop] at e
theorem Cd.weak {c : Mc} {wb : World} {L N d N' : Nat} (h : Cd c wb w L N d) (h2 : N ≤ N') : Cd c wb w L N' d := by
  obtain ⟨o, fr, cv, code, pos, a1, a2, a3, a4, a5⟩ := h
  exact ⟨o, fr, cv, code, pos, a1, a2, a3, by omega, a5⟩
set_option maxHeartbeats 4000000 in
theorem code26 {rv mv iv : Value} {rl : List Rw} {row : List Value} {m : Mth} {ms : List Mth} {is : List Imp} (hr : RwsAre w rv rl) (hrow : MthIs w row m) (hm : MthsAre w mv ms) (hi : ImpsAre w iv is) (hb : BinsOk w) (rn : rl.length ≤ 5000000000000) (pl : m.params.length ≤ 1000) (ll : m.locals.length ≤ 1000)
    (m0 : 0 < ms.length ∧ ms.length ≤ 1000) (m4 : ∀ m ∈ ms, m.params.length ≤ 4) (i0 : is.length ≤ 1000) (i4 : ∀ x ∈ is, x.params.length ≤ 4)
    (hk : ∀ v code w', w'.ownsRow w.heap.size 71 3 v code.length (insC code) → (∀ x ∈ code, x.rg) → code.length ≤ 700000 → Ext w w' → K v w') :
    callD Tryz.prog 26 #[rv, .agg row.toArray, mv, iv] w K := by
  obtain ⟨pv, lv, cv, rfl, hp, hl, hc⟩ := hrow
  apply F26_wp
  unfold F26_den
  refine bx fun b5 w1 hb5 x1 => ?_
  have hb5 : Boxed w1 b5 [pv, i64 m.result, lv, cv] := hb5
  have D1 : Ext w1 w1.drew := (Ext.refl _).drew
  have x2 := x1.trans D1
  refine drawD.mk' (fun w' => Ext w1.drew w') (Ext.refl _) ?_
  refine yfB (fun w' hx => hb5.ext (D1.trans hx)) fa_47_0 l1_23 rfl ?_
  refine yfB (fun w' hx => hb5.ext (D1.trans hx)) fa_47_2 l1_23 rfl ?_
  have hb5 := hb5.ext D1
  generalize w1.drew = w2 at x2 hb5
  clear D1
  refine bsl xe_23 [] rfl rfl (by simp) rfl fun v3 w3 ho3 x3 => ⟨x3, ?_⟩
  refine apO xe_23 ho3 (hp.ext (x2.trans x3)) (allI _) (by omega) (by unfold maxLen; omega) x3.size fun v4 w4 ho4 hg4 => ?_
  have x4 : Ext w2 w4 := x3.grown hg4 fun k hk => (ho3.lt k hk).1
  refine ⟨x4, apO xe_23 ho4 (hl.ext (x2.trans x4)) (allI _) (by omega) (by unfold maxLen; omega) x4.size fun lv' w5 ho5 hg5 => ?_⟩
  have x5 : Ext w2 w5 := x4.grown hg5 fun k hk => (ho4.lt k hk).1
  refine ⟨x5, yBld bd_118 [(3, lv')] rfl (by simp [own_one ho5]) ?_⟩
  have hloc : IntsAre w5 lv' (m.params ++ m.locals) := by
    have := SliceIs.of_own ho5
    unfold IntsAre
    simpa using this
  clear ho3 ho4 ho5 hg4 hg5
  refine bxK fun w6 hB6 x6 => ⟨x5.trans x6, ?_⟩
  have hB6 : Blk w6 w5.heap.size [nilS, nilS, i64 ((0 : Nat) : Int), lv', i64 ((0 : Nat) : Int)] 118 := hB6
  have x25 := x2.trans x5
  have hr := hr.ext x25
  have hm := hm.ext x25
  have hi := hi.ext x25
  have hbins : BinsOk w5 := fun j hj => by
    obtain ⟨n, hn⟩ := hb j hj
    exact ⟨n, x25.cell hn⟩
  have hb5 := hb5.ext x5
  have hw5 : w.heap.size ≤ w5.heap.size := x25.size
  generalize hgg : w5.heap.size = g at hB6 hw5
  clear x1 x3 x4
  have hlocl : (m.params ++ m.locals).length ≤ 1000000 := by simp; omega
  generalize m.params ++ m.locals = loc at hloc hlocl
  -- the numbers
  refine ⟨fun v w' => ∃ (j : Nat) (nv : Value) (nums : List Int), v = i64 j ∧ j ≤ rl.length ∧ nums.length = 3 * j ∧ Ext w5 w' ∧ Blk w' g [nilS, nv, i64 ((0 : Nat) : Int), lv', i64 ((0 : Nat) : Int)] 118 ∧ w'.ownsRow (g + 1) 3 1 nv nums.length (nums.map i64), fun v _ => rl.length - (RowKit.intOf v).toNat, ⟨0, nilS, [], rfl, Nat.zero_le _, rfl, x6, hB6, World.ownsRow_nil _ _ _ _⟩, ?_⟩
  rintro _ wB ⟨j, nv, nums, rfl, hj, hnl, xB, hBB, hoB⟩ _
  have hlt5 := hBB.lt
  refine lnR xa_22 (hr.ext xB) (V_lss.2 (ifD_dec (fun hlt => ?_) fun hge => ?_))
  · obtain ⟨x, hx⟩ := ex_get (l := rl) (j := j) (by omega)
    have D2 : Ext wB wB.drew := (Ext.refl _).drew
    have xd := xB.trans D2
    have hBd := hBB.ext D2
    have hod := D2.own hoB
    refine drawD.mk' (fun w' => Ext w5 w' ∧ Blk w' g [nilS, nv, i64 ((0 : Nat) : Int), lv', i64 ((0 : Nat) : Int)] 118) ⟨xd, hBd⟩ ?_
    refine ⟨.inl ⟨_, rfl⟩, yfB (fun w' hw => Blk.boxed hw.2) fa_118_1 l1_23 rfl ?_⟩
    refine ySF xa_22 fa_120_1 l1_3 (hr.str hx) (fun w' hw => hw.1) hx fun row hrow => ⟨i64 x.a, by rw [hrow]; rfl, by decide, ?_⟩
    refine ySF xa_22 fa_120_2 l1_3 (hr.str hx) (fun w' hw => hw.1) hx fun row hrow => ⟨i64 x.b, by rw [hrow]; rfl, by decide, ?_⟩
    refine ySF xa_22 fa_120_3 l1_3 (hr.str hx) (fun w' hw => hw.1) hx fun row hrow => ⟨i64 x.e, by rw [hrow]; rfl, by decide, ?_⟩
    refine bsl xe_23 [i64 x.a, i64 x.b, i64 x.e] rfl rfl (by simp) rfl fun v7 w7 ho7 x7 => ⟨⟨xd.trans x7, hBd.ext x7⟩, ?_⟩
    have hs7 := hBd.lt
    have hs8 := x7.size
    refine apO xe_23 (x7.own hod) (SliceIs.of_own ho7) rfl (by omega) (by unfold maxLen; omega) (by omega) fun v8 w8 ho8 hg8 => ?_
    have hlo : ∀ k, nv.ownBlock = some k → g + 1 ≤ k := fun k hk => (hod.lt k hk).1
    have x8 : Ext w5 w8 := (xd.trans x7).grown hg8 fun k hk => by have := hlo k hk; omega
    have hB8 : Blk w8 g _ _ := (Fr.of_grown (S := fun k => nv.ownBlock = some k) hg8 fun k hk => hk).blk (hBd.ext x7) fun hk => by have := hlo _ hk; omega
    refine ⟨⟨x8, hB8⟩, ⟨.inl ⟨_, rfl⟩, yieldS.ok (fun w' hw => FA.ex fa_118_1 w' _ _) ?_⟩⟩
    refine stFU inf23 hB8 (n := 5) rfl (by decide) (own_one ho8) (V_add.2 ?_)
    rw [wrap_id (by omega) (by omega), i64_succ]
    refine ⟨⟨j + 1, v8, nums ++ [x.a, x.b, x.e], rfl, by omega, by simp; omega, x8.setCell (by omega) _, hB8.set 1 _, ?_⟩, by simp only [intOf_i64]; omega⟩
    have := (Fr.of_set (S := fun i => i = g) (w := w8) (b := g) (o := 1) (v := v8) rfl).own ho8 fun k hk he => by have := (ho8.lt k hk).1; omega
    simpa using this
  -- the statements
  have hf : ∀ {w'}, Fr (fun k => k = g ∨ wB.heap.size ≤ k) wB w' → IntsAre w' nv nums ∧ Ext w5 w' := fun f => ⟨SliceIs.of_own (f.own hoB fun k hk hS => by have := hoB.lt k hk; omega), f.ext xB fun k hS => by have := xB.size; omega⟩
  have hMo : ∀ (H : Nat → Prop) {w1 : World}, Fr (fun k => k = g ∨ wB.heap.size ≤ k) wB w1 → (∀ k, k < wB.heap.size → ¬ H k → k = g) → (∀ k, H k → k < w1.heap.size ∧ k ≠ g) → Mo ⟨H, wB.heap.size, g, nv, lv', nums, loc⟩ w1 ∧ ∀ w', Fr (fun k => ¬ H k) w1 w' → Fr (fun k => k = g ∨ wB.heap.size ≤ k) wB w' := by
    intro H w1 f h1 h2
    have tr : ∀ w', Fr (fun k => ¬ H k) w1 w' → Fr (fun k => k = g ∨ wB.heap.size ≤ k) wB w' := fun w' f' => f.trans f' fun i hi hn => .inl (h1 i hi hn)
    refine ⟨⟨⟨hlt5, f.size⟩, h2, fun w' f' => (hf (tr w' f')).1, fun w' f' => hloc.ext (hf (tr w' f')).2, fun w' f' j hj => ?_, ?_, hlocl⟩, tr⟩
    · obtain ⟨n, hn⟩ := hbins j hj
      exact ⟨n, (hf (tr w' f')).2.cell hn⟩
    · show nums.length ≤ _
      omega
  refine ⟨fun tv v w' => ∃ (j : Nat) (tl : List Int) (cv : Value) (code : List Ins) (pos : Nat), v = i64 j ∧ j ≤ rl.length ∧ j ≤ 12 ∧ tl.length = j ∧ Fr (fun k => k = g ∨ wB.heap.size ≤ k) wB w' ∧ Blk w' g [cv, nv, i64 (pos : Nat), lv', i64 ((0 : Nat) : Int)] 118 ∧ w'.ownsRow wB.heap.size 71 3 cv code.length (insC code) ∧ code.length ≤ 4100 * j ∧ pos ≤ 4100 * j ∧ (∀ x ∈ code, x.rg) ∧ w'.ownsRow wB.heap.size 3 1 tv tl.length (tl.map i64) ∧ ∀ k, cv.ownBlock = some k → tv.ownBlock ≠ some k,
    fun _ v _ => 12 - (RowKit.intOf v).toNat, ⟨0, [], nilS, [], 0, rfl, Nat.zero_le _, Nat.zero_le _, rfl, Fr.refl _ _, hBB, World.ownsRow_nil _ _ _ _, Nat.le_refl _, Nat.le_refl _, fun _ h => by simp at h, World.ownsRow_nil _ _ _ _, fun k hk => by cases hk⟩, ?_⟩
  rintro tv _ w9 ⟨j, tl, cv, code, pos, rfl, hj, hj12, htl, fr, hB9, ho9, hc9, hp9, hrg, hot, hne⟩ _
  have hs9 := fr.size
  have hng : ∀ k, tv.ownBlock = some k → wB.heap.size ≤ k := fun k hk => (hot.lt k hk).1
  -- marks grow by one
  have grow : ∀ {K' : Value → World → Prop}, (∀ tv' w', Fr (fun k => k = g ∨ wB.heap.size ≤ k) wB w' → Blk w' g [cv, nv, i64 (pos : Nat), lv', i64 ((0 : Nat) : Int)] 118 → w'.ownsRow wB.heap.size 71 3 cv code.length (insC code) → w'.ownsRow wB.heap.size 3 1 tv' (tl ++ [(code.length : Int)]).length ((tl ++ [(code.length : Int)]).map i64) → (∀ k, cv.ownBlock = some k → tv'.ownBlock ≠ some k) → K' tv' w') →
      Go.Vc.Safe (.pointer (some ⟨g, 0, none⟩)) ∧ V Tryz.prog (Instr.fieldAt 118 (.pointer (some ⟨g, 0, none⟩)) 0) w9 fun t75 w29 => V Tryz.prog (Instr.loadAt 45 t75) w29 fun t76 w30 => V Tryz.prog (Builtin.len_ #[45] 3 #[t76]) w30 fun t77 w31 => V Tryz.prog (Instr.buildSlice 23 1 #[(0, t77)]) w31 fun t78 w32 => V Tryz.prog (Builtin.append_ #[23, 23] 23 #[tv, t78]) w32 K' := by
    intro K' hK
    refine ⟨.inl ⟨_, rfl⟩, ldB (Blk.boxed hB9) fa_118_0 l1_45 rfl (lnx xa_45 (SliceIs.of_own ho9) ?_)⟩
    refine bsl xe_23 [i64 (code.length : Nat)] rfl rfl (by simp) rfl fun v7 w7 ho7 x7 => ?_
    have hs7 := x7.size
    refine apS xe_23 (x7.own hot) (SliceIs.of_own ho7) rfl (by omega) (by unfold maxLen; omega) (by omega) fun v8 w8 ho8 hg8 hl8 => ?_
    have f8 : Fr (fun k => tv.ownBlock = some k) w9 w8 := (Fr.of_ext x7).trans (Fr.of_grown hg8 fun k hk => hk) fun _ _ h => h
    refine hK v8 w8 (fr.trans f8 fun i _ hi => .inr (hng i hi)) (f8.blk hB9 fun hk => by have := hng _ hk; omega) (f8.own ho9 fun k hk hk' => hne k hk hk') (by simpa using ho8) fun k hk hk' => ?_
    rcases hl8 with h8 | h8
    · rw [h8] at hk'; exact hne k hk hk'
    · rw [h8] at hk'
      cases hk'
      have := (ho9.lt _ hk).2
      omega
  -- what stays, where the marks have grown
  have hold : ∀ {tv' : Value} {w' : World} {L N : Nat}, code.length = L → pos ≤ N → Fr (fun k => k = g ∨ wB.heap.size ≤ k) wB w' → Blk w' g [cv, nv, i64 (pos : Nat), lv', i64 ((0 : Nat) : Int)] 118 → w'.ownsRow wB.heap.size 71 3 cv code.length (insC code) → w'.ownsRow wB.heap.size 3 1 tv' (tl ++ [(code.length : Int)]).length ((tl ++ [(code.length : Int)]).map i64) → (∀ k, cv.ownBlock = some k → tv'.ownBlock ≠ some k) →
      ∃ H : Nat → Prop, Cd ⟨H, wB.heap.size, g, nv, lv', nums, loc⟩ w' w' L N 0 ∧ (∀ w2, Fr (fun k => ¬ H k) w' w2 → Fr (fun k => k = g ∨ wB.heap.size ≤ k) wB w2 ∧ w2.ownsRow wB.heap.size 3 1 tv' (tl ++ [(code.length : Int)]).length ((tl ++ [(code.length : Int)]).map i64)) ∧ (∀ k, tv'.ownBlock = some k → H k) := by
    intro tv' w' L N hL hN f' hB' ho' ho2' hne'
    have hs := f'.size
    have hcv : ∀ k, cv.ownBlock = some k → wB.heap.size ≤ k := fun k hk => (ho'.lt k hk).1
    have htv : ∀ k, tv'.ownBlock = some k → k < w'.heap.size ∧ k ≠ g ∧ cv.ownBlock ≠ some k := fun k hk => ⟨(ho2'.lt k hk).2, by have := (ho2'.lt k hk).1; omega, fun hc => hne' k hc hk⟩
    obtain ⟨mo, tr⟩ := hMo (fun k => k < w'.heap.size ∧ k ≠ g ∧ cv.ownBlock ≠ some k) f' (fun k hk hH => by
      apply Classical.byContradiction
      intro hkg
      exact hH ⟨by omega, hkg, fun hc => by have := hcv k hc; omega⟩) (fun k hk => ⟨hk.1, hk.2.1⟩)
    exact ⟨_, ⟨mo, Fr.refl _ _, cv, code, pos, hB', ho', hL, hN, hrg, fun k hk hH => hH.2.2 hk⟩, fun w2 f2 => ⟨tr w2 f2, f2.own ho2' fun k hk hH => hH (htv k hk)⟩, htv⟩
  refine lnR xa_22 (hr.ext (hf fr).2) (V_lss.2 ?_)
  by_cases c0 : (j : Int) < (rl.length : Int) ∧ (j : Int) < 12 ∧ (code.length : Int) < 70
  case pos =>
    obtain ⟨c1, c2, c3⟩ := c0
    simp only [c1, c2, evL, ne_eq, reduceIte, decide_true]
    refine ⟨.inl ⟨_, rfl⟩, ldB (Blk.boxed hB9) fa_118_0 l1_45 rfl (lnx xa_45 (SliceIs.of_own ho9) (V_lss.2 ?_))⟩
    simp only [c3, evL, decide_true]
    refine grow fun tv' w3 f3 hB3 ho3 ho4 hne3 => ?_
    obtain ⟨H, hcd, hst, htH⟩ := hold rfl (Nat.le_refl _) f3 hB3 ho3 ho4 hne3
    have D3 : Ext w3 w3.drew := (Ext.refl _).drew
    obtain ⟨x, hx⟩ := ex_get (l := rl) (j := j) (by omega)
    obtain ⟨uv, urun, usl⟩ := r_sl Tryz.underlying23 inf3 (SliceIs.of_own ho4) (lo := none) (hi' := some (.int .i64 (j : Int))) (a := 0) (b := j) (.inl ⟨rfl, rfl⟩) (.inr rfl) (by omega) (by simp; omega)
    refine drawD.mk' (fun w' => Ext w3 w') D3 ?_
    refine ySS xa_22 la_120 ((hr.ext (hf f3).2).str hx) (fun _ h => h) hx (fun _ row e h => by rw [h]; rfl) fun row hrow => ?_
    have hrow : row = [i64 x.k, i64 x.a, i64 x.b, i64 x.e] := hrow
    subst hrow
    refine yieldS.ok (fun w' _ => urun _) ?_
    have mk3 := (hcd.mk (n := 4100 * j) hc9 hp9).ext D3
    refine stmt49 (tl := tl) (ms := ms) (is := is) mk3 (by omega) (fun w' f => ?_) (by omega) (fun w' f => hm.ext (hf (hst w' f).1).2) (fun w' f => hi.ext (hf (hst w' f).1).2) m0 m4 i0 i4 fun w4 h4 => V_add.2 ?_
    · have := usl w' (SliceIs.of_own (hst w' f).2)
      unfold IntsAre
      rw [htl]
      simpa [← htl] using this
    · rw [wrap_id (by omega) (by omega), i64_succ]
      obtain ⟨_, f4, cv4, code4, pos4, b1, b2, b3, b4, b5, b6, b7⟩ := h4
      obtain ⟨f5, ho5⟩ := hst _ f4
      exact ⟨⟨j + 1, tl ++ [(code.length : Int)], cv4, code4, pos4, rfl, by omega, by omega, by simp [htl], f5, b1, b2, by omega, by omega, b6, ho5, fun k hk hk' => b7 k hk (htH k hk')⟩, by simp only [intOf_i64]; omega⟩
  have c5 : ¬ ((j : Int) < (rl.length : Int)) ∨ ((j : Int) < (rl.length : Int) ∧ ¬ ((j : Int) < 12)) ∨ ((j : Int) < (rl.length : Int) ∧ (j : Int) < 12 ∧ ¬ ((code.length : Int) < 70)) := by omega
  clear c0
  rcases c5 with c1 | ⟨c1, c2⟩ | ⟨c1, c2, c3⟩
  case' neg.inl => simp only [c1, evL, ne_eq, reduceIte, Bool.false_eq_true, decide_false]
  case' neg.inr.inl => simp only [c1, c2, evL, ne_eq, reduceIte, Bool.false_eq_true, decide_true, decide_false]
  case' neg.inr.inr =>
    simp only [c1, c2, evL, ne_eq, reduceIte, decide_true]
    refine ⟨.inl ⟨_, rfl⟩, ldB (Blk.boxed hB9) fa_118_0 l1_45 rfl (lnx xa_45 (SliceIs.of_own ho9) (V_lss.2 ?_))⟩
    simp only [c3, evL, decide_false]
  all_goals
    refine grow fun tv' w3 f3 hB3 ho3 ho4 hne3 => ?_
    obtain ⟨H, hcd, hst, htH⟩ := hold (N := 4100 * j) rfl hp9 f3 hB3 ho3 ho4 hne3
    have htl' : (tl ++ [(code.length : Int)]).length = j + 1 := by simp [htl]
    clear hold grow
    generalize tl ++ [(code.length : Int)] = tl' at *
    clear hB9 ho9 hrg hot hne fr hng hs9 hB3 ho3 hne3 f3 hp9 htl
    generalize code.length = L at *
    have fin : ∀ {w' L N}, Cd ⟨H, wB.heap.size, g, nv, lv', nums, loc⟩ w3 w' L N 0 → L ≤ 700000 → Go.Vc.Safe (.pointer (some ⟨g, 0, none⟩)) ∧ V Tryz.prog (Instr.fieldAt 118 (.pointer (some ⟨g, 0, none⟩)) 0) w' fun t w => V Tryz.prog (Instr.loadAt 45 t) w K := by
      intro w' L N hc hL
      obtain ⟨_, f, cv, code, pos, b1, b2, b3, b4, b5, b6⟩ := hc
      have hx := (hf (hst _ f).1).2
      have := xB.size
      exact ⟨.inl ⟨_, rfl⟩, ldB (Blk.boxed b1) (by first | exact fa_105_0 | exact fa_113_0 | exact fa_113_1 | exact fa_113_2 | exact fa_113_3 | exact fa_118_0) (by first | exact l1_126 | exact l1_179 | exact l1_21 | exact l1_210 | exact l1_212 | exact l1_22 | exact l1_23 | exact l1_24 | exact l1_25 | exact l1_3 | exact l1_36 | exact l1_4 | exact l1_45) rfl (hk _ code w' (own_mono b2 (show w.heap.size ≤ wB.heap.size by omega)) b5 (by omega) (x25.trans hx))⟩
    have hmt : ∀ {w'}, Fr (fun k => ¬ H k) w3 w' → Boxed w' b5 [pv, i64 m.result, lv, _] := fun f => hb5.ext (hf (hst _ f).1).2
    refine ⟨fun v w' => ∃ k : Nat, v = i64 k ∧ k ≤ L ∧ Cd ⟨H, wB.heap.size, g, nv, lv', nums, loc⟩ w3 w' L (4100 * j) 0, fun v _ => L - (RowKit.intOf v).toNat, ⟨0, rfl, Nat.zero_le _, hcd⟩, ?_⟩
    clear hcd
    rintro _ w10 ⟨k, rfl, hkL, hcd⟩ _
    refine ⟨.inl ⟨_, rfl⟩, ldCL hcd (V_lss.2 (ifD_dec (fun hlt => ?_) fun hge2 => ?_))⟩
    · obtain ⟨g', cap, code', pos', hcl, hpp, hC⟩ := hcd.code (by omega)
      obtain ⟨x, hx⟩ := ex_get (l := code') (j := k) (by omega)
      have hsl := SliceIs.of_own hC.own
      have nxt : ∀ {w'}, Cd ⟨H, wB.heap.size, g, nv, lv', nums, loc⟩ w3 w' L (4100 * j) 0 → V Tryz.prog (binOp .add 3 (i64 k) (i64 1)) w' fun t w2 => (∃ k : Nat, t = i64 k ∧ k ≤ L ∧ Cd ⟨H, wB.heap.size, g, nv, lv', nums, loc⟩ w3 w2 L (4100 * j) 0) ∧ L - (RowKit.intOf t).toNat < L - (RowKit.intOf (i64 (k : Int))).toNat := by
        intro w' hc'
        refine V_add.2 ?_
        rw [wrap_id (by omega) (by omega), i64_succ]
        exact ⟨⟨k + 1, rfl, by omega, hc'⟩, by simp only [intOf_i64]; omega⟩
      refine ⟨.inl ⟨_, rfl⟩, ldB (Blk.boxed hC.blk) (by first | exact fa_105_0 | exact fa_113_0 | exact fa_113_1 | exact fa_113_2 | exact fa_113_3 | exact fa_118_0) (by first | exact l1_126 | exact l1_179 | exact l1_21 | exact l1_210 | exact l1_212 | exact l1_22 | exact l1_23 | exact l1_24 | exact l1_25 | exact l1_3 | exact l1_36 | exact l1_4 | exact l1_45) rfl ?_⟩
      refine ldxF xa_45 fa_71_0 (by first | exact l1_126 | exact l1_179 | exact l1_21 | exact l1_210 | exact l1_212 | exact l1_22 | exact l1_23 | exact l1_24 | exact l1_25 | exact l1_3) hsl (by omega) (by omega) (insC_op hx) (V_eqlI.2 ?_)
      by_cases h24 : x.op = 24
      case neg => simp only [h24, evL, reduceIte, Bool.false_eq_true, decide_false]; exact nxt hcd
      simp only [h24, evL, reduceIte, decide_true]
      refine ⟨.inl ⟨_, rfl⟩, ldB (Blk.boxed hC.blk) (by first | exact fa_105_0 | exact fa_113_0 | exact fa_113_1 | exact fa_113_2 | exact fa_113_3 | exact fa_118_0) (by first | exact l1_126 | exact l1_179 | exact l1_21 | exact l1_210 | exact l1_212 | exact l1_22 | exact l1_23 | exact l1_24 | exact l1_25 | exact l1_3 | exact l1_36 | exact l1_4 | exact l1_45) rfl ?_⟩
      refine ldxF xa_45 fa_71_1 (by first | exact l1_126 | exact l1_179 | exact l1_21 | exact l1_210 | exact l1_212 | exact l1_22 | exact l1_23 | exact l1_24 | exact l1_25 | exact l1_3) hsl (by omega) (by omega) (insC_at hx) (V_lss.2 ?_)
      by_cases ha0 : x.a < 0
      case neg => simp only [ha0, evL, decide_false]; exact nxt hcd
      simp only [ha0, evL, decide_true]
      refine ⟨fun v w' => ∃ q : Nat, v = i64 q ∧ q < tl'.length ∧ w' = w10, fun v _ => tl'.length - (RowKit.intOf v).toNat, ⟨0, rfl, by omega, rfl⟩, ?_⟩
      rintro _ w11 ⟨q, rfl, hq, hw⟩ _
      have hw := hw.symm
      subst hw
      have hot := SliceIs.of_own (hst _ hC.fr).2
      refine lnx xa_23 hot (V_sub.2 ?_)
      rw [wrap_id (by omega) (by omega)]
      refine V_lss.2 ?_
      by_cases c0 : (q : Int) < (tl'.length : Int) - 1 ∧ nth tl' q ≤ (k : Int)
      case pos =>
        obtain ⟨c1, c2⟩ := c0
        simp only [c1, evL, reduceIte, decide_true]
        refine ldx xa_23 l1_3 hot (by omega) (by omega) (getI (getN (by omega))) (V_leq.2 ?_)
        simp only [c2, evL, decide_true]
        refine V_add.2 ?_
        rw [wrap_id (by omega) (by omega), i64_succ]
        exact ⟨⟨q + 1, rfl, by omega, rfl⟩, by simp only [intOf_i64]; omega⟩
      have c5 : ¬ ((q : Int) < (tl'.length : Int) - 1) ∨ ((q : Int) < (tl'.length : Int) - 1 ∧ ¬ (nth tl' q ≤ (k : Int))) := by omega
      clear c0
      rcases c5 with c1 | ⟨c1, c2⟩
      case' neg.inl => simp only [c1, evL, reduceIte, Bool.false_eq_true, decide_false]
      case' neg.inr =>
        simp only [c1, evL, reduceIte, decide_true]
        refine ldx xa_23 l1_3 hot (by omega) (by omega) (getI (getN (by omega))) (V_leq.2 ?_)
        simp only [c2, evL, decide_false]
      all_goals
        have D1 : Ext w10 w10.drew := (Ext.refl _).drew
        have hC := hC.ext D1
        have hot := hot.ext D1
        refine drawD.mk' (fun w' => Ext w10.drew w') (Ext.refl _) ?_
        refine ⟨.inl ⟨_, rfl⟩, yfB (fun w' hx => Blk.boxed (hC.blk.ext hx)) (by first | exact fa_105_0 | exact fa_113_0 | exact fa_113_1 | exact fa_113_2 | exact fa_113_3 | exact fa_118_0) (by first | exact l1_126 | exact l1_179 | exact l1_21 | exact l1_210 | exact l1_212 | exact l1_22 | exact l1_23 | exact l1_24 | exact l1_25 | exact l1_3 | exact l1_36 | exact l1_4 | exact l1_45) rfl ?_⟩
        refine yLen xa_23 hot ?_
        refine yieldS.ok (fun w' _ => r_sub) (yieldS.ok (fun w' _ => r_add) (yieldS.ok (fun w' _ => r_min) ?_))
        rw [show IntKind.i64.wrap ((tl'.length : Int) - 1) = (tl'.length : Int) - 1 from wrap_id (by omega) (by omega), show IntKind.i64.wrap ((q : Int) + 1) = (q : Int) + 1 from wrap_id (by omega) (by omega)]
        obtain ⟨r, hr2, hr3⟩ : ∃ r : Nat, min ((tl'.length : Int) - 1) ((q : Int) + 1) = r ∧ r < tl'.length := ⟨min (tl'.length - 1) (q + 1), by omega, by omega⟩
        rw [hr2]
        refine ySl xa_23 l1_3 hot (fun _ h => h) (by omega) (by omega) (getI (getN hr3)) ?_
        refine yieldS.ok (fun w' _ => r_index Tryz.underlying45 inf71 (by omega) (by omega)) ?_
        refine yieldS.ok (fun w' _ => FA.ex fa_71_1 w' _ _) ?_
        rw [Int.toNat_natCast]
        exact stIns hC (by omega) fun w12 code2 hl2 hC2 => nxt (hC2.cd (by omega) hpp)
    refine ⟨fun w' => ∃ L', L' ≤ 60000 ∧ Cd ⟨H, wB.heap.size, g, nv, lv', nums, loc⟩ w3 w' L' 60000 0, ?_, ?_⟩
    · refine ldB (hmt hcd.2.1) (by first | exact fa_105_0 | exact fa_113_0 | exact fa_113_1 | exact fa_113_2 | exact fa_113_3 | exact fa_118_0 | exact fa_118_1 | exact fa_118_2 | exact fa_118_3 | exact fa_118_4 | exact fa_120_0 | exact fa_120_1 | exact fa_120_2 | exact fa_120_3 | exact fa_137_0 | exact fa_137_1 | exact fa_137_2 | exact fa_137_3 | exact fa_137_4 | exact fa_137_5 | exact fa_140_0 | exact fa_140_1 | exact fa_142_0 | exact fa_142_1 | exact fa_142_2 | exact fa_144_0 | exact fa_144_1 | exact fa_144_2 | exact fa_144_3 | exact fa_146_0 | exact fa_148_0 | exact fa_148_1 | exact fa_150_0 | exact fa_150_1 | exact fa_152_0 | exact fa_152_1 | exact fa_155_0 | exact fa_155_1 | exact fa_155_2 | exact fa_157_0 | exact fa_157_1 | exact fa_157_2 | exact fa_162_0 | exact fa_162_1 | exact fa_162_2 | exact fa_162_3 | exact fa_162_4 | exact fa_178_0 | exact fa_178_1 | exact fa_199_0 | exact fa_199_1 | exact fa_27_0 | exact fa_27_1 | exact fa_27_2 | exact fa_27_3 | exact fa_27_4 | exact fa_38_0 | exact fa_38_1 | exact fa_38_2 | exact fa_47_0 | exact fa_47_1) (by first | exact l1_126 | exact l1_179 | exact l1_21 | exact l1_210 | exact l1_212 | exact l1_22 | exact l1_23 | exact l1_24 | exact l1_25 | exact l1_3) rfl (V_neqI.2 (ifD_dec (fun hr => ?_) fun hr => ⟨L, by omega, hcd.weak (by omega)⟩))
      refine ldB (hmt hcd.2.1) (by first | exact fa_105_0 | exact fa_113_0 | exact fa_113_1 | exact fa_113_2 | exact fa_113_3 | exact fa_118_0 | exact fa_118_1 | exact fa_118_2 | exact fa_118_3 | exact fa_118_4 | exact fa_120_0 | exact fa_120_1 | exact fa_120_2 | exact fa_120_3 | exact fa_137_0 | exact fa_137_1 | exact fa_137_2 | exact fa_137_3 | exact fa_137_4 | exact fa_137_5 | exact fa_140_0 | exact fa_140_1 | exact fa_142_0 | exact fa_142_1 | exact fa_142_2 | exact fa_144_0 | exact fa_144_1 | exact fa_144_2 | exact fa_144_3 | exact fa_146_0 | exact fa_148_0 | exact fa_148_1 | exact fa_150_0 | exact fa_150_1 | exact fa_152_0 | exact fa_152_1 | exact fa_155_0 | exact fa_155_1 | exact fa_155_2 | exact fa_157_0 | exact fa_157_1 | exact fa_157_2 | exact fa_162_0 | exact fa_162_1 | exact fa_162_2 | exact fa_162_3 | exact fa_162_4 | exact fa_178_0 | exact fa_178_1 | exact fa_199_0 | exact fa_199_1 | exact fa_27_0 | exact fa_27_1 | exact fa_27_2 | exact fa_27_3 | exact fa_27_4 | exact fa_38_0 | exact fa_38_1 | exact fa_38_2 | exact fa_47_0 | exact fa_47_1) (by first | exact l1_126 | exact l1_179 | exact l1_21 | exact l1_210 | exact l1_212 | exact l1_22 | exact l1_23 | exact l1_24 | exact l1_25 | exact l1_3) rfl ?_
      refine any50 (hcd.mk (n := 49200) (by omega) (by omega)) (by omega) fun w11 h11 => ?_
      obtain ⟨L', h1, h2⟩ := h11.cd
      exact ⟨L', by omega, h2.weak (by omega)⟩
    rintro w11 ⟨L', hL', hcd'⟩ _
    refine put51 (hcd'.mk (n := 60000) (by omega) (by omega)) (by omega) fun w12 h12 => ?_
    obtain ⟨L2, hL2, hcd2⟩ := h12.cd
    refine ⟨.inl ⟨_, rfl⟩, ldCL hcd2 (V_gtr.2 (ifD_dec (fun hg => ?_) fun hg => fin hcd2 (by omega)))⟩
    have hsB : wB.heap.size ≤ w12.heap.size := (hst _ hcd2.2.1).1.size
    refine bld bd_71 [(0, i64 39)] rfl rfl ?_
    refine bslG Tryz.underlying45 inf71 rfl (by decide) [.agg #[i64 39, i64 0, i64 0]] rfl rfl (by intro v hv; rw [List.mem_singleton] at hv; subst hv; rfl) (by decide) (by decide) fun uv w13 ho13 x13 => ?_
    refine ⟨.inl ⟨_, rfl⟩, stCode (code := [⟨39, 0, 0⟩]) (hcd2.ext x13) ho13 hsB (by intro x hx; rw [List.mem_singleton] at hx; subst hx; exact ⟨by decide, by decide⟩) (fun k hk hH => ?_) fun w14 hcd4 => ?_⟩
    · have h1 := (ho13.lt k hk).1
      have h2 := (hcd2.1.hH k hH).1
      have h3 := hcd2.2.1.size
      omega
    refine ldB (hmt hcd4.2.1) (by first | exact fa_105_0 | exact fa_113_0 | exact fa_113_1 | exact fa_113_2 | exact fa_113_3 | exact fa_118_0 | exact fa_118_1 | exact fa_118_2 | exact fa_118_3 | exact fa_118_4 | exact fa_120_0 | exact fa_120_1 | exact fa_120_2 | exact fa_120_3 | exact fa_137_0 | exact fa_137_1 | exact fa_137_2 | exact fa_137_3 | exact fa_137_4 | exact fa_137_5 | exact fa_140_0 | exact fa_140_1 | exact fa_142_0 | exact fa_142_1 | exact fa_142_2 | exact fa_144_0 | exact fa_144_1 | exact fa_144_2 | exact fa_144_3 | exact fa_146_0 | exact fa_148_0 | exact fa_148_1 | exact fa_150_0 | exact fa_150_1 | exact fa_152_0 | exact fa_152_1 | exact fa_155_0 | exact fa_155_1 | exact fa_155_2 | exact fa_157_0 | exact fa_157_1 | exact fa_157_2 | exact fa_162_0 | exact fa_162_1 | exact fa_162_2 | exact fa_162_3 | exact fa_162_4 | exact fa_178_0 | exact fa_178_1 | exact fa_199_0 | exact fa_199_1 | exact fa_27_0 | exact fa_27_1 | exact fa_27_2 | exact fa_27_3 | exact fa_27_4 | exact fa_38_0 | exact fa_38_1 | exact fa_38_2 | exact fa_47_0 | exact fa_47_1) (by first | exact l1_126 | exact l1_179 | exact l1_21 | exact l1_210 | exact l1_212 | exact l1_22 | exact l1_23 | exact l1_24 | exact l1_25 | exact l1_3) rfl (V_neqI.2 (ifD_dec (fun hr => ?_) fun hr => fin hcd4 (by simp)))
    refine bld bd_71 [(0, i64 1)] rfl rfl (bld bd_71 [(0, i64 39)] rfl rfl ?_)
    have hsB4 : wB.heap.size ≤ w14.heap.size := (hst _ hcd4.2.1).1.size
    refine bslG Tryz.underlying45 inf71 rfl (by decide) [.agg #[i64 1, i64 0, i64 0], .agg #[i64 39, i64 0, i64 0]] rfl rfl (by intro v hv; simp only [List.mem_cons, List.not_mem_nil, or_false] at hv; rcases hv with rfl | rfl <;> rfl) (by decide) (by decide) fun uv5 w15 ho15 x15 => ?_
    refine ⟨.inl ⟨_, rfl⟩, stCode (code := [⟨1, 0, 0⟩, ⟨39, 0, 0⟩]) (hcd4.ext x15) ho15 hsB4 (by intro x hx; simp only [List.mem_cons, List.not_mem_nil, or_false] at hx; rcases hx with rfl | rfl <;> exact ⟨by decide, by decide⟩) (fun k hk hH => ?_) fun w16 hcd6 => fin hcd6 (by simp)⟩
    have h1 := (ho15.lt k hk).1
    have h2 := (hcd4.1.hH k hH).1
    have h3 := hcd4.2.1.size
    omega
end Go.Proofs.YtcdbikfnlggbnaaGreatDoor
namespace Go.Vc
section
variable {P : Program} {w : World} {K : Value → World → Prop}
theorem run_next_dec (w : World) (s : ByteArray) (pos : Nat) (ty : TypeId) (h : pos < s.size) :
    (Instr.next (.pointer (some ⟨w.heap.size, 0, none⟩)) true ty).run P (w.iter s pos) = .ok (.tuple #[.bool true, i64 pos, .int .i32 (Utf8.decode s pos).1]) (w.iter s (pos + (Utf8.decode s pos).2)) := by
  simp only [Instr.next, getObj, setObj, Sem.run_bind, Sem.run, World.iter_heap, Result.andThen, h, if_true, World.iter_set]
  simp [goInt]
theorem V_tup {a : Array Value} {n : Nat} {v : Value} (h : a[n]? = some v) (hk : K v w) : V P (Instr.extract (.tuple a) n) w K := V.ok (by simp [Instr.extract, h]) hk
theorem r_slS {t : TypeId} (ht : P.underlying t = some .string) {s : ByteArray} {k : Nat} (h : k ≤ s.size) : (Instr.sliceAt t (.string s) (some (i64 k)) none none).run P w = .ok (.string (s.extract k s.size)) w := by
  simp [Instr.sliceAt, Instr.slice, run_underlying ht, Instr.sliceBounds, Instr.sliceBound, asIntOf, h]
theorem r_arrK {t e n : TypeId} {z : Value} {by_ sz : Nat} (ht : P.underlying t = some (.array n e)) (hi : Inf P e z sz by_) {b off : Nat} {k : IntKind} {i : Int} (h0 : 0 ≤ i) (h1 : i < n) :
    (Instr.indexAt t (.pointer (some ⟨b, off, none⟩)) (.int k i)).run P w = .ok (.pointer (some ⟨b, off + i.toNat * sz, none⟩)) w := by
  simp [Instr.indexAt, asIntOf, run_underlying ht, Instr.sureAddr, run_size hi, h0, h1, add_mk]
end
end Go.Vc
namespace Go.Proofs.YtcdbikfnlggbnaaGreatDoor
open Go.Vc Go.Tc
variable {w : World} {K : Value → World → Prop}
def nmB : List ByteArray := [⟨#[97, 108, 112, 104, 97]⟩, ⟨#[98, 195, 169, 116, 97]⟩, ⟨#[103, 45, 49]⟩, ⟨#[100, 46, 195, 191]⟩]
/-- What the tables of package utf8 say. -/
structure Tabs (w : World) : Prop where
  f : w.cell? ⟨1, 195, none⟩ = some (.int .u8 2)
  a0 : w.cell? ⟨2, 0, none⟩ = some (.int .u8 128)
  a1 : w.cell? ⟨2, 1, none⟩ = some (.int .u8 191)
theorem Tabs.ext {w' : World} (h : Tabs w) (hx : Ext w w') : Tabs w' := ⟨hx.cell h.f, hx.cell h.a0, hx.cell h.a1⟩
def sufB (t : ByteArray) (vs : List ByteArray) : Prop := t.size ≤ 8 ∧ (t.size = 0 ∨ (∃ c, t[0]? = some c ∧ c.toNat < 128 ∧ t.extract 1 t.size ∈ vs) ∨ (∃ c, t[0]? = some 195 ∧ t[1]? = some c ∧ 128 ≤ c.toNat ∧ c.toNat ≤ 191 ∧ t.extract 2 t.size ∈ vs))
theorem valid87 {s : ByteArray} {vs : List ByteArray} (hT : Tabs w) (h0 : s ∈ vs) (hvs : ∀ t ∈ vs, sufB t vs) (hk : ∀ w', Ext w w' → K (.bool true) w') : callD Tryz.prog 87 #[.string s] w K := by
  apply F87_wp
  unfold F87_den
  refine ⟨fun v w' => ∃ t, t ∈ vs ∧ v = .string t ∧ Ext w w', fun v _ => match v with | .string s => s.size | _ => 0, ⟨s, h0, rfl, Ext.refl _⟩, ?_⟩
  rintro _ w1 ⟨t, ht, rfl, x1⟩ _
  obtain ⟨h8, hc⟩ := hvs t ht
  refine V.ok (lenStr Tryz.underlying9) (V_gtr.2 ?_)
  have hsz : ∀ {j : Nat} {c : UInt8}, t[j]? = some c → j < t.size := fun h => (getElem?_eq_some_iff.1 h).1
  have hex : ∀ k, (t.extract k t.size).size = t.size - k := fun k => by simp
  rcases hc with hz | ⟨c, hc0, hlt, hmem⟩ | ⟨c, hc0, hc1, hlo, hhi, hmem⟩
  · have : ¬ (t.size : Int) > 0 := by omega
    simp only [this, evL, decide_false]
    exact hk _ x1
  · have hs := hsz hc0
    have e1 : (t.size : Int) > 0 := by omega
    simp only [e1, evL, decide_true]
    refine V.ok (r_idxS Tryz.underlying9 hc0) (V_lss.2 ?_)
    have e2 : (c.toNat : Int) < 128 := by omega
    simp only [e2, evL, decide_true]
    refine V.ok (r_slS (k := 1) Tryz.underlying9 (by omega)) ?_
    refine ⟨fun v w' => v = .string (t.extract 1 t.size) ∧ w' = w1, V.ok (lenStr Tryz.underlying9) (V_gtr.2 ?_), ?_⟩
    · have e3 : ¬ ((t.extract 1 t.size).size : Int) > 8 := by rw [hex]; omega
      simp only [e3, evL, reduceIte, Bool.false_eq_true, decide_false]
      exact ⟨trivial, trivial⟩
    · rintro _ _ ⟨rfl, rfl⟩ _
      refine ⟨⟨_, hmem, rfl, x1⟩, ?_⟩
      show (t.extract 1 t.size).size < t.size
      rw [hex]; omega
  · have hs0 := hsz hc0
    have hs := hsz hc1
    have e1 : (t.size : Int) > 0 := by omega
    simp only [e1, evL, decide_true]
    refine V.ok (r_idxS Tryz.underlying9 hc0) (V_lss.2 ?_)
    have e2 : ¬ (((195 : UInt8).toNat : Nat) : Int) < 128 := by decide
    simp only [e2, evL, decide_false]
    have hT1 := hT.ext x1
    refine V.ok (r_arrK Tryz.underlying197 inf5 (by decide) (by decide)) ?_
    refine V.ok (r_ld_5 hT1.f) ?_
    refine V.ok (v := .int .u8 2) (w' := w1) (by kernel_rfl) ?_
    refine V.ok (v := i64 2) (w' := w1) (by kernel_rfl) ?_
    refine V.ok (v := .int .u8 0) (w' := w1) (by kernel_rfl) ?_
    refine V.ok (r_arrK Tryz.underlying200 inf199 (by decide) (by decide)) ?_
    obtain ⟨d, z, by_, g1, g2, g3⟩ := la_199
    refine V.ok (r_loadAgg (cs := [.int .u8 128, .int .u8 191]) g1 g2 g3 rfl fun j hj => ?_) ?_
    · match j, hj with
      | 0, _ => exact hT1.a0
      | 1, _ => exact hT1.a1
    refine asB sa_199 rfl rfl fun b2 w2 hb2 x2 => ?_
    have hb2 : Boxed w2 b2 [.int .u8 128, .int .u8 191] := hb2
    refine V_eqlI.2 ?_
    simp only [evL, Int.reduceEq, decide_true, decide_false]
    have D1 : Ext w2 w2.drew := (Ext.refl _).drew
    refine drawD.mk' (fun w' => Ext w2 w') D1 ?_
    refine yieldS.ok (fun w' _ => lenStr Tryz.underlying9) (yieldS.ok (fun w' _ => r_lss) ?_)
    have e3 : ¬ (t.size : Int) < 2 := by omega
    simp only [e3, evL, reduceIte, Bool.false_eq_true, decide_false]
    refine yieldS.ok (fun w' _ => r_idxS Tryz.underlying9 hc1) ?_
    refine yfB (fun w' hw => hb2.ext hw) fa_199_0 l1_5 rfl (yieldS.ok (fun w' _ => r_lss) ?_)
    have e4 : ¬ (c.toNat : Int) < 128 := by omega
    simp only [e4, evL, reduceIte, Bool.false_eq_true, decide_false]
    refine yfB (fun w' hw => hb2.ext hw) fa_199_1 l1_5 rfl ?_
    refine yieldS.ok (fun w' _ => r_idxS Tryz.underlying9 hc1) (yieldS.ok (fun w' _ => r_lss) ?_)
    have e5 : ¬ (191 : Int) < (c.toNat : Int) := by omega
    simp only [e5, evL, decide_false]
    refine V.ok (r_slS (k := 2) Tryz.underlying9 (by omega)) ?_
    refine ⟨⟨_, hmem, rfl, (x1.trans x2).trans D1⟩, ?_⟩
    show (t.extract 2 t.size).size < t.size
    rw [hex]; omega
def rnB (c : Nat) : Bool := (97 ≤ c && c ≤ 122) || (48 ≤ c && c ≤ 57) || c == 45 || c == 46 || (224 ≤ c && c ≤ 255)
theorem rnB_cases {c : Nat} (h : rnB c = true) : (97 ≤ c ∧ c ≤ 122) ∨ (¬ (97 ≤ c) ∧ 48 ≤ c ∧ c ≤ 57) ∨ c = 45 ∨ c = 46 ∨ (224 ≤ c ∧ c ≤ 255) := by
  simp only [rnB, Bool.or_eq_true, Bool.and_eq_true, decide_eq_true_eq, beq_iff_eq] at h
  omega
theorem isRune142 {c : Nat} (h : rnB c = true) (hk : K (.bool true) w) : callD Tryz.prog 142 #[.int .i32 c] w K := by
  apply F142_wp
  unfold F142_den
  rcases rnB_cases h with ⟨h1, h2⟩ | ⟨h0, h1, h2⟩ | rfl | rfl | ⟨h1, h2⟩
  · have a1 : (c : Int) ≥ 97 := by omega
    have a2 : (c : Int) ≤ 122 := by omega
    simp only [a1, a2, evL, reduceIte, decide_true]; exact hk
  · have a1 : ¬ (c : Int) ≥ 97 := by omega
    have a2 : (c : Int) ≥ 48 := by omega
    have a3 : (c : Int) ≤ 57 := by omega
    simp only [a1, a2, a3, evL, reduceIte, Bool.false_eq_true, decide_true, decide_false]; exact hk
  · simp only [show ((45 : Nat) : Int) = 45 from rfl, evL, Int.reduceGE, reduceIte, Bool.false_eq_true, decide_true, decide_false]; exact hk
  · simp only [show ((46 : Nat) : Int) = 46 from rfl, evL, Int.reduceEq, Int.reduceGE, reduceIte, Bool.false_eq_true, decide_true, decide_false]; exact hk
  · have a1 : (c : Int) ≥ 97 := by omega
    have a2 : ¬ (c : Int) ≤ 122 := by omega
    have a3 : (c : Int) ≥ 48 := by omega
    have a4 : ¬ (c : Int) ≤ 57 := by omega
    have a5 : ¬ (c : Int) = 45 := by omega
    have a6 : ¬ (c : Int) = 46 := by omega
    have a7 : (c : Int) ≥ 224 := by omega
    have a8 : (c : Int) ≤ 255 := by omega
    simp only [a1, a2, a3, a4, a5, a6, a7, a8, evL, reduceIte, Bool.false_eq_true, decide_true, decide_false]; exact hk
/-- What is asked of a name: its suffixes, and where its letters begin. -/
def nmOk (s : ByteArray) (vs : List ByteArray) (ps : List Nat) : Prop := (s ∈ vs ∧ ∀ t ∈ vs, sufB t vs) ∧ (1 ≤ s.size ∧ s.size ≤ 16) ∧ 0 ∈ ps ∧ ∀ p ∈ ps, p < s.size → rnB (Utf8.decode s p).1 = true ∧ p + (Utf8.decode s p).2 ∈ ps ∧ 0 < (Utf8.decode s p).2
theorem isName52 {s : ByteArray} {vs : List ByteArray} {ps : List Nat} (hT : Tabs w) (h : nmOk s vs ps) : callD Tryz.prog 52 #[.string s] w (Tells True w) := by
  obtain ⟨⟨h1, h2⟩, ⟨h3, h4⟩, h5, h6⟩ := h
  apply F52_wp
  suffices key : ∀ R : Value → World → Prop, (∀ w', Ext w w' → R (.bool true) w') → F52_den (.string s) w R from key _ fun _ hx => Tells.yes trivial hx
  intro R hR
  unfold F52_den
  refine V.ok (lenStr Tryz.underlying9) (V_lss.2 ?_)
  have e1 : ¬ (s.size : Int) < 1 := by omega
  simp only [e1, evL, reduceIte, Bool.false_eq_true, decide_false]
  refine V.ok (lenStr Tryz.underlying9) (V_gtr.2 ?_)
  have e2 : ¬ (s.size : Int) > 16 := by omega
  simp only [e2, evL, reduceIte, Bool.false_eq_true, decide_false]
  refine valid87 hT h1 h2 fun w1 x1 => V_not.2 ?_
  simp only [evL, Bool.not_true]
  refine V.ok (run_range_string _ _ _ Tryz.underlying9) ?_
  refine ⟨fun w' => ∃ p ∈ ps, w' = w1.iter s p, fun w' => mu fun q => ∃ p ∈ ps, w' = w1.iter s p ∧ s.size - p = q, ⟨0, h5, rfl⟩, ?_⟩
  rintro _ ⟨p0, hp0, rfl⟩ _
  obtain ⟨p, hp, hpe, hmu⟩ := mu_spec (p := fun q => ∃ p ∈ ps, w1.iter s p0 = w1.iter s p ∧ s.size - p = q) ⟨_, p0, hp0, rfl, rfl⟩
  rw [hpe]
  rw [hpe] at hmu
  by_cases hlt : p < s.size
  · obtain ⟨g1, g2, g3⟩ := h6 p hp hlt
    refine V.ok (run_next_dec _ _ _ _ hlt) (V_tup (v := .bool true) rfl (ifD_true.2 (V_tup (v := .int .i32 ((Utf8.decode s p).1 : Nat)) rfl ?_)))
    have hmu' : mu (fun q => ∃ p' ∈ ps, w1.iter s (p + (Utf8.decode s p).2) = w1.iter s p' ∧ s.size - p' = q) < mu (fun q => ∃ p' ∈ ps, w1.iter s p = w1.iter s p' ∧ s.size - p' = q) := by
      rw [← hmu]
      exact Nat.lt_of_le_of_lt (mu_le ⟨_, g2, rfl, rfl⟩) (by omega)
    generalize (Utf8.decode s p).2 = wd at *
    generalize (Utf8.decode s p).1 = c at *
    rcases rnB_cases g1 with ⟨h1, h2⟩ | ⟨h0, h1, h2⟩ | rfl | rfl | ⟨h1, h2⟩
    · have a1 : (c : Int) ≥ 97 := by omega
      have a2 : (c : Int) ≤ 122 := by omega
      simp only [a1, a2, evL, reduceIte, Bool.not_true, decide_true]
      exact ⟨⟨_, g2, rfl⟩, hmu'⟩
    · have a1 : ¬ (c : Int) ≥ 97 := by omega
      have a2 : (c : Int) ≥ 48 := by omega
      have a3 : (c : Int) ≤ 57 := by omega
      simp only [a1, a2, a3, evL, reduceIte, Bool.false_eq_true, Bool.not_true, decide_true, decide_false]; exact ⟨⟨_, g2, rfl⟩, hmu'⟩
    · simp only [show ((45 : Nat) : Int) = 45 from rfl, evL, Int.reduceGE, reduceIte, Bool.false_eq_true, Bool.not_true, decide_true, decide_false]; exact ⟨⟨_, g2, rfl⟩, hmu'⟩
    · simp only [show ((46 : Nat) : Int) = 46 from rfl, evL, Int.reduceEq, Int.reduceGE, reduceIte, Bool.false_eq_true, Bool.not_true, decide_true, decide_false]; exact ⟨⟨_, g2, rfl⟩, hmu'⟩
    · have a1 : (c : Int) ≥ 97 := by omega
      have a2 : ¬ (c : Int) ≤ 122 := by omega
      have a3 : (c : Int) ≥ 48 := by omega
      have a4 : ¬ (c : Int) ≤ 57 := by omega
      have a5 : ¬ (c : Int) = 45 := by omega
      have a6 : ¬ (c : Int) = 46 := by omega
      have a7 : (c : Int) ≥ 224 := by omega
      have a8 : (c : Int) ≤ 255 := by omega
      simp only [a1, a2, a3, a4, a5, a6, a7, a8, evL, reduceIte, Bool.false_eq_true, Bool.not_true, decide_true, decide_false]; exact ⟨⟨_, g2, rfl⟩, hmu'⟩
  · refine V.ok (run_next_end _ _ _ _ hlt) (V_tup rfl (ifD_false.2 ?_))
    exact hR _ (x1.trans ((Ext.refl _).alloc _))
theorem isName126 {s : ByteArray} {vs : List ByteArray} {ps : List Nat} (hT : Tabs w) (h : nmOk s vs ps) (hne : (s.toList == ({ data := #[] } : ByteArray).toList) = false) : callD Tryz.prog 126 #[.string s] w (Tells True w) := by
  obtain ⟨⟨h1, h2⟩, ⟨h3, h4⟩, h5, h6⟩ := h
  apply F126_wp
  suffices key : ∀ R : Value → World → Prop, (∀ w', Ext w w' → R (.bool true) w') → F126_den (.string s) w R from key _ fun _ hx => Tells.yes trivial hx
  intro R hR
  unfold F126_den
  refine V.ok r_eqStr ?_
  rw [hne]
  simp only [evL, reduceIte, Bool.false_eq_true]
  refine V.ok (lenStr Tryz.underlying9) (V_gtr.2 ?_)
  have e2 : ¬ (s.size : Int) > 16 := by omega
  simp only [e2, evL, reduceIte, Bool.false_eq_true, decide_false]
  refine valid87 hT h1 h2 fun w1 x1 => V_not.2 ?_
  simp only [evL, Bool.not_true]
  refine V.ok (run_range_string _ _ _ Tryz.underlying9) ?_
  refine ⟨fun w' => ∃ p ∈ ps, w' = w1.iter s p, fun w' => mu fun q => ∃ p ∈ ps, w' = w1.iter s p ∧ s.size - p = q, ⟨0, h5, rfl⟩, ?_⟩
  rintro _ ⟨p0, hp0, rfl⟩ _
  obtain ⟨p, hp, hpe, hmu⟩ := mu_spec (p := fun q => ∃ p ∈ ps, w1.iter s p0 = w1.iter s p ∧ s.size - p = q) ⟨_, p0, hp0, rfl, rfl⟩
  rw [hpe]
  rw [hpe] at hmu
  by_cases hlt : p < s.size
  · obtain ⟨g1, g2, g3⟩ := h6 p hp hlt
    refine V.ok (run_next_dec _ _ _ _ hlt) (V_tup (v := .bool true) rfl (ifD_true.2 (V_tup (v := .int .i32 ((Utf8.decode s p).1 : Nat)) rfl ?_)))
    refine isRune142 g1 (V_not.2 (ifD_false.2 ⟨⟨_, g2, rfl⟩, ?_⟩))
    show mu _ < mu _
    rw [← hmu]
    exact Nat.lt_of_le_of_lt (mu_le ⟨_, g2, rfl, rfl⟩) (by omega)
  · refine V.ok (run_next_end _ _ _ _ hlt) (V_tup rfl (ifD_false.2 ?_))
    exact hR _ (x1.trans ((Ext.refl _).alloc _))
def memB (t : ByteArray) (vs : List ByteArray) : Bool := vs.any fun u => decide (u.data = t.data)
theorem memB_ok {t : ByteArray} {vs : List ByteArray} (h : memB t vs = true) : t ∈ vs := by
  simp only [memB, List.any_eq_true, decide_eq_true_eq] at h
  obtain ⟨u, hu, he⟩ := h
  have : u = t := ByteArray.ext he
  subst this; exact hu
def sufBB (t : ByteArray) (vs : List ByteArray) : Bool :=
  decide (t.size ≤ 8) && (decide (t.size = 0) || (match t[0]? with
    | some c => (decide (c.toNat < 128) && memB (t.extract 1 t.size) vs) || (decide (c = 195) && (match t[1]? with
      | some d => decide (128 ≤ d.toNat ∧ d.toNat ≤ 191) && memB (t.extract 2 t.size) vs
      | none => false))
    | none => false))
theorem sufBB_ok {t : ByteArray} {vs : List ByteArray} (h : sufBB t vs = true) : sufB t vs := by
  simp only [sufBB, Bool.and_eq_true, Bool.or_eq_true, decide_eq_true_eq] at h
  refine ⟨h.1, ?_⟩
  rcases h.2 with h2 | h2
  · exact .inl h2
  · right
    cases h0 : t[0]? with
    | none => rw [h0] at h2; cases h2
    | some c =>
      rw [h0] at h2
      simp only [Bool.or_eq_true, Bool.and_eq_true, decide_eq_true_eq] at h2
      rcases h2 with ⟨a, b⟩ | ⟨a, b⟩
      · exact .inl ⟨c, rfl, a, memB_ok b⟩
      · subst a
        cases h1 : t[1]? with
        | none => rw [h1] at b; cases b
        | some d =>
          rw [h1] at b
          simp only [Bool.and_eq_true, decide_eq_true_eq] at b
          exact .inr ⟨d, rfl, rfl, b.1.1, b.1.2, memB_ok b.2⟩
def nmOkB (s : ByteArray) (vs : List ByteArray) (ps : List Nat) : Bool :=
  (memB s vs && vs.all fun t => sufBB t vs) && decide (1 ≤ s.size ∧ s.size ≤ 16) && decide (0 ∈ ps) && ps.all fun p => !decide (p < s.size) || (rnB (Utf8.decode s p).1 && decide (p + (Utf8.decode s p).2 ∈ ps) && decide (0 < (Utf8.decode s p).2))
theorem nmOkB_ok {s : ByteArray} {vs : List ByteArray} {ps : List Nat} (h : nmOkB s vs ps = true) : nmOk s vs ps := by
  simp only [nmOkB, Bool.and_eq_true, decide_eq_true_eq, List.all_eq_true] at h
  obtain ⟨⟨⟨⟨h1, h2⟩, h3⟩, h4⟩, h5⟩ := h
  refine ⟨⟨memB_ok h1, fun t ht => sufBB_ok (h2 t ht)⟩, h3, h4, fun p hp hlt => ?_⟩
  have := h5 p hp
  simp only [hlt, decide_true, Bool.not_true, Bool.false_or, Bool.and_eq_true, decide_eq_true_eq] at this
  exact ⟨this.1.1, this.1.2, this.2⟩
/-- Each of the four names is one. -/
theorem nmB_ok {s : ByteArray} (h : s ∈ nmB) (hT : Tabs w) : NameOk w s := by
  have key : ∀ {vs : List ByteArray} {ps : List Nat}, nmOkB s vs ps = true → (s.toList == ({ data := #[] } : ByteArray).toList) = false → NameOk w s := fun h1 h2 w' hx => ⟨isName52 (hT.ext hx) (nmOkB_ok h1), isName126 (hT.ext hx) (nmOkB_ok h1) h2⟩
  simp only [nmB, List.mem_cons, List.not_mem_nil, or_false] at h
  rcases h with rfl | rfl | rfl | rfl
  · exact key (vs := [⟨#[97, 108, 112, 104, 97]⟩, ⟨#[108, 112, 104, 97]⟩, ⟨#[112, 104, 97]⟩, ⟨#[104, 97]⟩, ⟨#[97]⟩, ⟨#[]⟩]) (ps := [0, 1, 2, 3, 4, 5]) (by kernel_rfl) (by kernel_rfl)
  · exact key (vs := [⟨#[98, 195, 169, 116, 97]⟩, ⟨#[195, 169, 116, 97]⟩, ⟨#[116, 97]⟩, ⟨#[97]⟩, ⟨#[]⟩]) (ps := [0, 1, 3, 4, 5]) (by kernel_rfl) (by kernel_rfl)
  · exact key (vs := [⟨#[103, 45, 49]⟩, ⟨#[45, 49]⟩, ⟨#[49]⟩, ⟨#[]⟩]) (ps := [0, 1, 2, 3]) (by kernel_rfl) (by kernel_rfl)
  · exact key (vs := [⟨#[100, 46, 195, 191]⟩, ⟨#[46, 195, 191]⟩, ⟨#[195, 191]⟩, ⟨#[]⟩]) (ps := [0, 1, 2, 4]) (by kernel_rfl) (by kernel_rfl)
/-- One of the four. -/
theorem name25 {n : Int} (hk : ∀ s ∈ nmB, K (.string s) w) : callD Tryz.prog 25 #[i64 n] w K := by
  apply F25_wp
  unfold F25_den
  refine bldA (v := .agg (nmB.map Value.string).toArray) (fun w => by kernel_rfl) ?_
  refine pick10 (by decide) (by decide) fun q hq0 hq1 => ?_
  have hc : q = 0 ∨ q = 1 ∨ q = 2 ∨ q = 3 := by omega
  rcases hc with rfl | rfl | rfl | rfl
  · exact V.ok (v := .string ⟨#[97, 108, 112, 104, 97]⟩) (w' := w) (by kernel_rfl) (hk _ (by simp [nmB]))
  · exact V.ok (v := .string ⟨#[98, 195, 169, 116, 97]⟩) (w' := w) (by kernel_rfl) (hk _ (by simp [nmB]))
  · exact V.ok (v := .string ⟨#[103, 45, 49]⟩) (w' := w) (by kernel_rfl) (hk _ (by simp [nmB]))
  · exact V.ok (v := .string ⟨#[100, 46, 195, 191]⟩) (w' := w) (by kernel_rfl) (hk _ (by simp [nmB]))
end Go.Proofs.YtcdbikfnlggbnaaGreatDoor
namespace Go.Vc
section
variable {P : Program} {w : World} {K : Value → World → Prop}
/-- a[lo:hi], elements of any size. -/
theorem r_slN {t e sz : Nat} {z : Value} {by_ : Nat} (ht : P.underlying t = some (.slice e)) (hi : Inf P e z sz by_) {v : Value} {n : Nat} {cs : List Value} (h : SliceIs w v sz n cs) {lo hi' : Option Value} {a b : Nat} (ha : (lo = none ∧ a = 0) ∨ lo = some (.int .i64 a)) (hb : (hi' = none ∧ b = n) ∨ hi' = some (.int .i64 b)) (hab : a ≤ b) (hbn : b ≤ n) :
    ∃ v', (∀ w', (Instr.sliceAt t v lo hi' none).run P w' = .ok v' w') ∧ ∀ w2, SliceIs w2 v sz n cs → SliceIs w2 v' sz (b - a) ((cs.drop (a * sz)).take ((b - a) * sz)) := by
  have hcl : cs.length = n * sz := h.1
  have hmul : (b - a) * sz + a * sz ≤ n * sz := by rw [← Nat.add_mul]; exact Nat.mul_le_mul_right _ (by omega)
  rcases h.2 with ⟨rfl, h0⟩ | ⟨g, off, cap, rfl, h1, h2, _⟩
  · have ea : a = 0 := by omega
    have eb : b = 0 := by omega
    subst ea eb
    refine ⟨.slice none 0 0, fun w' => ?_, fun w2 _ => ?_⟩
    · rcases ha with ⟨rfl, _⟩ | rfl <;> rcases hb with ⟨rfl, _⟩ | rfl <;> simp [Instr.sliceAt, Instr.slice, run_underlying ht, run_size hi, Instr.sliceBounds, Instr.sliceBound, asIntOf]
    · simp
      exact SliceIs.nil w2 _
  · have hb1 : (0 : Int) ≤ b ∧ (b : Int) ≤ cap := ⟨by omega, by omega⟩
    have ha1 : (0 : Int) ≤ a ∧ (a : Int) ≤ b := ⟨by omega, by omega⟩
    have hbc : b ≤ cap := by omega
    refine ⟨.slice (if cap = a then some ⟨g, off, none⟩ else (some (⟨g, off, none⟩ : Addr)).map (·.add (a * sz))) (b - a) (cap - a), fun w' => ?_, fun w2 hw2 => ?_⟩
    · rcases ha with ⟨rfl, rfl⟩ | rfl <;> rcases hb with ⟨rfl, rfl⟩ | rfl <;> simp [Instr.sliceAt, Instr.slice, run_underlying ht, run_size hi, Instr.sliceBounds, Instr.sliceBound, asIntOf, hab, hbc]
    · refine ⟨by rw [List.length_take, List.length_drop]; omega, .inr ?_⟩
      by_cases hca : cap = a
      · rw [if_pos hca]
        have e0 : b - a = 0 := by omega
        exact ⟨g, off, cap - a, rfl, by omega, by omega, fun j u hj => by rw [e0] at hj; simp at hj⟩
      · rw [if_neg hca]
        rcases hw2.2 with ⟨he, _⟩ | ⟨g', off', cap', he, _, _, h3⟩
        · cases he
        · cases he
          refine ⟨g, off + a * sz, cap - a, by simp [add_mk], by omega, by omega, fun j u hj => ?_⟩
          rw [List.getElem?_take] at hj
          split at hj
          · rw [List.getElem?_drop] at hj
            have := h3 _ _ hj
            rw [Nat.add_assoc]; exact this
          · cases hj
end
end Go.Vc
namespace Go.Proofs.YtcdbikfnlggbnaaGreatDoor
open Go.Vc Go.Tc
variable {w : World} {K : Value → World → Prop}
/-- A part of a row of structs. -/
theorem StrsAre.part {α : Type} {T : World → List Value → α → Prop} {sz t e by_ : Nat} {z v : Value} {l : List α} (ht : Program.underlying Tryz.prog t = some (.slice e)) (hi : Inf Tryz.prog e z sz by_) (h : StrsAre T sz w v l) {lo hi' : Option Value} {a b : Nat} (ha : (lo = none ∧ a = 0) ∨ lo = some (.int .i64 a)) (hb : (hi' = none ∧ b = l.length) ∨ hi' = some (.int .i64 b)) (hab : a ≤ b) (hbn : b ≤ l.length) :
    ∃ v', (∀ w', (Instr.sliceAt t v lo hi' none).run Tryz.prog w' = .ok v' w') ∧ StrsAre T sz w v' ((l.drop a).take (b - a)) := by
  obtain ⟨cs, h1, h2⟩ := h
  obtain ⟨v', hr, hs⟩ := r_slN ht hi h1 ha hb hab hbn
  refine ⟨v', hr, (cs.drop (a * sz)).take ((b - a) * sz), ?_, fun k x hk => ?_⟩
  · have := hs w h1
    rwa [show ((l.drop a).take (b - a)).length = b - a by simp; omega]
  · rw [List.getElem?_take] at hk
    split at hk
    case isFalse => cases hk
    rename_i hlt
    rw [List.getElem?_drop] at hk
    obtain ⟨row, h3, h4⟩ := h2 (a + k) x hk
    refine ⟨row, ?_, h4⟩
    have hle : k * sz + sz ≤ (b - a) * sz := by
      have := Nat.mul_le_mul_right sz (show k + 1 ≤ b - a by omega)
      rw [Nat.add_mul, Nat.one_mul] at this; exact this
    have hmin : min sz ((b - a) * sz - k * sz) = sz := Nat.min_eq_left (by omega)
    rw [← h3, List.drop_take, List.drop_drop, List.take_take, Nat.add_mul, hmin]
/-- A part of a row of raw steps. -/
theorem RwsAre.part {t e by_ : Nat} {z v : Value} {l : List Rw} (ht : Program.underlying Tryz.prog t = some (.slice e)) (hi : Inf Tryz.prog e z 4 by_) (h : RwsAre w v l) {lo hi' : Option Value} {a b : Nat} (ha : (lo = none ∧ a = 0) ∨ lo = some (.int .i64 a)) (hb : (hi' = none ∧ b = l.length) ∨ hi' = some (.int .i64 b)) (hab : a ≤ b) (hbn : b ≤ l.length) :
    ∃ v', (∀ w', (Instr.sliceAt t v lo hi' none).run Tryz.prog w' = .ok v' w') ∧ RwsAre w v' ((l.drop a).take (b - a)) := by
  by_cases h0 : 0 < l.length
  · obtain ⟨v', h1, h2⟩ := StrsAre.part ht hi (h.2 h0) ha hb hab hbn
    exact ⟨v', h1, RwsAre.of h2⟩
  · obtain ⟨⟨a0, c, rfl⟩, _⟩ := h
    have el : l = [] := List.length_eq_zero_iff.1 (by omega)
    subst el
    obtain rfl : a = 0 := by simp at hbn; omega
    obtain rfl : b = 0 := by simpa using hbn
    refine ⟨.slice (if c = 0 then a0 else a0.map (·.add (0 * 4))) 0 c, fun w' => ?_, ⟨_, _, rfl⟩, fun h => by simp at h⟩
    rcases ha with ⟨rfl, _⟩ | rfl <;> rcases hb with ⟨rfl, _⟩ | rfl <;> simp [Instr.sliceAt, Instr.slice, run_underlying ht, run_size hi, Instr.sliceBounds, Instr.sliceBound, asIntOf]
/-- A field of an element of a row that the call owns is turned. -/
theorem stOF {t s f o ft sz n g cap B e : Nat} {ez fz : Value} {eb fb : Nat} {xs : List Value} {k : Nat} {u : Value} {K' : World → Prop} (_ : Program.underlying Tryz.prog t = some (.slice e)) (_ : Inf Tryz.prog e ez sz eb) (_ : FA Tryz.prog s f o) (hft : Inf Tryz.prog ft fz 1 fb)
    (ho : w.ownsRow B e sz (.slice (some ⟨g, 0, none⟩) n cap) n xs) (hk : k < n) (hos : o < sz) (hu : oneC u = true) (hK : ∀ w', w' = w.setCell ⟨g, k * sz + o, none⟩ u → w'.ownsRow B e sz (.slice (some ⟨g, 0, none⟩) n cap) n (xs.set (k * sz + o) u) → Fr (fun i => i = g) w w' → K' w') :
    U Tryz.prog (Instr.storeAt ft (.pointer (some ⟨g, 0 + k * sz + o, none⟩)) u) w fun _ w2 => K' w2 := by
  have hle : k * sz + sz ≤ n * sz := by
    have := Nat.mul_le_mul_right sz (show k + 1 ≤ n by omega)
    rw [Nat.add_mul, Nat.one_mul] at this; exact this
  obtain ⟨s1, s2⟩ := ho.stored (k * sz + o) u
  have hc := ho.cellAt (k * sz + o) (by omega)
  have hlt : k * sz + o < xs.length := by rw [ho.1]; omega
  rw [List.getElem?_eq_getElem hlt] at hc
  rw [Nat.zero_add]
  exact U.ok (r_store hft hu hc (ho.frozenAt _)) (hK _ rfl s1 (Fr.of_set rfl))
end Go.Proofs.YtcdbikfnlggbnaaGreatDoor
namespace Go.Proofs.YtcdbikfnlggbnaaGreatDoor
open Go.Vc Go.Tc
variable {w : World} {K : Value → World → Prop}
def apMs (code : Nat → List Ins) : List Mth := [⟨[], 0, [1, 2, 3, 4], code 0⟩, ⟨[1, 2], 2, [1, 2, 3, 4], code 1⟩, ⟨[4, 3], 3, [1, 2], code 2⟩]
def apIs (n1 n2 : ByteArray) : List Imp := [⟨n1, 0, [1, 2], 2⟩, ⟨n2, 1, [4, 3], 3⟩]
def apC (lv p1 p2 lv3 : Value) (c : Nat → Value) : List Value := [nilS, i64 0, lv, c 0, p1, i64 2, lv, c 1, p2, i64 3, lv3, c 2]
theorem apMths {mv lv p1 p2 lv3 : Value} {c : Nat → Value} {code : Nat → List Ins} (h : SliceIs w mv 4 3 (apC lv p1 p2 lv3 c)) (hl : IntsAre w lv [1, 2, 3, 4]) (h1 : IntsAre w p1 [1, 2]) (h2 : IntsAre w p2 [4, 3]) (h3 : IntsAre w lv3 [1, 2]) (hc : ∀ k, k < 3 → InsAre w (c k) (code k)) : MthsAre w mv (apMs code) := by
  refine ⟨_, h, fun k x hk => ?_⟩
  match k, hk with
  | 0, hk => cases hk; exact ⟨_, rfl, nilS, lv, c 0, rfl, SliceIs.nil _ _, hl, hc 0 (by decide)⟩
  | 1, hk => cases hk; exact ⟨_, rfl, p1, lv, c 1, rfl, h1, hl, hc 1 (by decide)⟩
  | 2, hk => cases hk; exact ⟨_, rfl, p2, lv3, c 2, rfl, h2, h3, hc 2 (by decide)⟩
  | k + 3, hk => simp [apMs] at hk
theorem apImps {iv q1 q2 : Value} {n1 n2 : ByteArray} (h : SliceIs w iv 4 2 [.string n1, i64 0, q1, i64 2, .string n2, i64 1, q2, i64 3]) (h1 : IntsAre w q1 [1, 2]) (h2 : IntsAre w q2 [4, 3]) : ImpsAre w iv (apIs n1 n2) := by
  refine ⟨_, h, fun k x hk => ?_⟩
  match k, hk with
  | 0, hk => cases hk; exact ⟨_, rfl, q1, rfl, h1⟩
  | 1, hk => cases hk; exact ⟨_, rfl, q2, rfl, h2⟩
  | k + 2, hk => simp [apIs] at hk
theorem chg_fr {g : Nat} {w' : World} (h : Chg w g w') : Fr (fun k => k = g) w w' := Fr.of_grown h.grown fun k hk => by cases hk; rfl
/-- A row of whole numbers that the call made, aside from two blocks. -/
structure Row (g4 gi : Nat) (w : World) (v : Value) (l : List Int) : Prop where
  own : w.ownsRow (g4 + 1) 3 1 v l.length (l.map i64)
  ne : ∀ k, v.ownBlock = some k → k ≠ gi
theorem Row.ext {g4 gi : Nat} {w' : World} {v : Value} {l : List Int} (h : Row g4 gi w v l) (hx : Ext w w') : Row g4 gi w' v l := ⟨hx.own h.own, h.ne⟩
theorem Row.fr {g4 gi N : Nat} {w' : World} {v : Value} {l : List Int} (h : Row g4 gi w v l) (f : Fr (fun k => k = gi ∨ k ≤ g4 ∨ N ≤ k) w w') (hN : w.heap.size ≤ N) : Row g4 gi w' v l :=
  ⟨f.own h.own fun k hk hS => by have := h.own.lt k hk; have := h.ne k hk; omega, h.ne⟩
theorem Row.ints {g4 gi : Nat} {v : Value} {l : List Int} (h : Row g4 gi w v l) : IntsAre w v l := SliceIs.of_own h.own
theorem one_i (n : Int) : oneC (i64 n) = true := rfl
theorem one_s (s : ByteArray) : oneC (.string s) = true := rfl
theorem one_l (a : Option Addr) (n c : Nat) : oneC (.slice a n c) = true := rfl
theorem apM_small {code : Nat → List Ins} {j : Nat} {m : Mth} (h : (apMs code)[j]? = some m) : m.params.length ≤ 4 ∧ m.locals.length ≤ 4 := by
  match j, h with
  | 0, hm => cases hm; exact ⟨by simp, by simp⟩
  | 1, hm => cases hm; exact ⟨by simp, by simp⟩
  | 2, hm => cases hm; exact ⟨by simp, by simp⟩
  | k + 3, hm => simp [apMs] at hm
theorem apC_set {lv p1 p2 lv3 v : Value} {c : Nat → Value} {j : Nat} (h : j < 3) : (apC lv p1 p2 lv3 c).set (j * 4 + 3) v = apC lv p1 p2 lv3 (fun k => if k = j then v else c k) := by
  match j, h with
  | 0, _ => rfl
  | 1, _ => rfl
  | 2, _ => rfl
theorem apMths' {mv lv p1 p2 lv3 : Value} {c : Nat → Value} {code : Nat → List Ins} (h : SliceIs w mv 4 3 (apC lv p1 p2 lv3 c)) (hl : IntsAre w lv [1, 2, 3, 4]) (h1 : IntsAre w p1 [1, 2]) (h2 : IntsAre w p2 [4, 3]) (h3 : IntsAre w lv3 [1, 2]) (hc : ∀ k, k < 3 → InsAre w (c k) (code k)) :
    SliceIs w mv 4 3 (apC lv p1 p2 lv3 c) ∧ ∀ (k : Nat) (x : Mth), (apMs code)[k]? = some x → MthIs w (((apC lv p1 p2 lv3 c).drop (k * 4)).take 4) x := by
  refine ⟨h, fun k x hk => ?_⟩
  match k, hk with
  | 0, hk => cases hk; exact ⟨nilS, lv, c 0, rfl, SliceIs.nil _ _, hl, hc 0 (by decide)⟩
  | 1, hk => cases hk; exact ⟨p1, lv, c 1, rfl, h1, hl, hc 1 (by decide)⟩
  | 2, hk => cases hk; exact ⟨p2, lv3, c 2, rfl, h2, h3, hc 2 (by decide)⟩
  | k + 3, hk => simp [apMs] at hk
end Go.Proofs.YtcdbikfnlggbnaaGreatDoor
namespace Go.Proofs.YtcdbikfnlggbnaaGreatDoor
open Go.Vc Go.Tc
variable {w : World} {K : Value → World → Prop}
set_option maxHeartbeats 4000000 in
theorem applet9 {n : Int} {rv : Value} {rl : List Rw} (hr : RwsAre w rv rl) (hb : BinsOk w) (hT : Tabs w) (rn : rl.length ≤ 5000000000000)
    (hk : ∀ p i w', ImgAt w' p i → NamesOk w' i → i.rg → i.methods.length = 3 → (∀ m ∈ i.methods, m.code.length ≤ 700000) → (∀ w'', Fr (fun k => k < w.heap.size) w' w'' → Tabs w'' → ImgAt w'' p i ∧ NamesOk w'' i) → (∃ cs : List Value, ∀ w'', Fr (fun k => k < w.heap.size) w' w'' → SliceIs w'' p.mv 4 i.methods.length cs ∧ ∀ (k : Nat) (x : Mth), i.methods[k]? = some x → MthIs w'' ((cs.drop (k * 4)).take 4) x) → Ext w w' → K (p.val i) w') : callD Tryz.prog 9 #[i64 n, rv] w K := by
  apply F9_wp
  unfold F9_den
  refine alK inf27 fun w1 hB4 x1 => ?_
  have hlt4 := hB4.lt
  have hg4 : w.heap.size ≤ w.heap.size := Nat.le_refl _
  generalize hgg4 : w.heap.size = g4 at hB4 hg4 hlt4
  refine bsl xe_23 [i64 1, i64 2, i64 3, i64 4] rfl rfl (by simp) rfl fun lv w2 hol x2 => ?_
  refine name25 fun nm hnm => ?_
  refine bsl xe_23 [i64 1, i64 2, i64 3, i64 4] rfl rfl (by simp) rfl fun fv w3 hof x3 => ?_
  refine bsl xe_23 [i64 1, i64 2] rfl rfl (by simp) rfl fun xv w4 hox x4 => ?_
  have o1 := own_one hof; have o2 := own_one hox
  refine bld bd_27 [(0, .string nm), (1, fv), (4, xv)] rfl (by simp [o1, o2, one_s]) ?_
  refine asK sa_27 rfl (show ([.string nm, fv, nilS, nilS, xv] : List Value).all oneC = true by simp [o1, o2, one_s, one_l]) fun w5 hBi x5 => ?_
  have hBi : Blk w5 w4.heap.size [.string nm, fv, nilS, nilS, xv] 27 := hBi
  have s1 := x1.size; have s2 := x2.size; have s3 := x3.size; have s4 := x4.size; have s5 := x5.size
  have R0 : ∀ {v : Value} {l : List Int} {wa wb : World}, wb.ownsRow wa.heap.size 3 1 v l.length (l.map i64) → w1.heap.size ≤ wa.heap.size → wb.heap.size ≤ w4.heap.size → Row g4 w4.heap.size wb v l := fun ho h1 h2 => ⟨own_mono ho (by omega), fun k hk => by have := (ho.lt k hk).2; omega⟩
  have rl5 : Row g4 w4.heap.size w5 lv [1, 2, 3, 4] := (R0 (l := [1, 2, 3, 4]) hol (by omega) (by omega)).ext ((x3.trans x4).trans x5)
  have rf5 : Row g4 w4.heap.size w5 fv [1, 2, 3, 4] := (R0 (l := [1, 2, 3, 4]) hof (by omega) (by omega)).ext (x4.trans x5)
  have rx5 : Row g4 w4.heap.size w5 xv [1, 2] := (R0 (l := [1, 2]) hox (by omega) (by omega)).ext x5
  clear R0 hol hof hox
  have x15 := (((x2.trans x3).trans x4).trans x5)
  have hB4 := hB4.ext x15
  have hgi4 : g4 ≠ w4.heap.size := by omega
  have hiw : w4.heap.size < w5.heap.size := hBi.lt
  have hiw0 : w.heap.size ≤ w4.heap.size := by omega
  have x05 := x1.trans x15
  have hr0 := hr
  have hr := hr.ext x05
  generalize w4.heap.size = gi at *
  have R1 : ∀ {v : Value} {l : List Int} {wa wb : World}, wb.ownsRow wa.heap.size 3 1 v l.length (l.map i64) → w5.heap.size ≤ wa.heap.size → Row g4 gi wb v l := fun ho h1 => ⟨own_mono ho (by omega), fun k hk => by have := (ho.lt k hk).1; omega⟩
  refine V_add.2 (name25 fun n1 hn1 => ?_)
  refine bsl xe_23 [i64 1, i64 2] rfl rfl (by simp) rfl fun q1 w6 hq1 x6 => ?_
  have s6 := x6.size
  have rq1 : Row g4 gi w6 q1 [1, 2] := R1 (l := [1, 2]) hq1 (by omega)
  have oq1 := own_one hq1
  refine bld bd_74 [(0, .string n1), (1, i64 0), (2, q1), (3, i64 2)] rfl (by simp [oq1, one_i, one_s]) ?_
  refine V_add.2 (lnR xa_22 (hr.ext x6) ?_)
  refine pick10 (by decide) (by decide) fun _ _ _ => V_add.2 (name25 fun n2 hn2 => ?_)
  refine bsl xe_23 [i64 4, i64 3] rfl rfl (by simp) rfl fun q2 w7 hq2 x7 => ?_
  have s7 := x7.size
  have rq2 : Row g4 gi w7 q2 [4, 3] := R1 (l := [4, 3]) hq2 (by omega)
  have oq2 := own_one hq2
  refine bld bd_74 [(0, .string n2), (1, i64 1), (2, q2), (3, i64 3)] rfl (by simp [oq2, one_i, one_s]) ?_
  refine bslG Tryz.underlying24 inf74 rfl (by decide) [.agg #[.string n1, i64 0, q1, i64 2], .agg #[.string n2, i64 1, q2, i64 3]] rfl rfl (by intro v hv; simp only [List.mem_cons, List.not_mem_nil, or_false] at hv; rcases hv with rfl | rfl <;> rfl) (by decide) (by decide) fun iv w8 hoi x8 => ?_
  have s8 := x8.size
  have hoi : w8.ownsRow w7.heap.size 74 4 iv 2 [.string n1, i64 0, q1, i64 2, .string n2, i64 1, q2, i64 3] := hoi
  have x58 := (x6.trans x7).trans x8
  refine stF fa_27_2 inf24 (hBi.ext x58) (n := 5) rfl (by decide) (own_one hoi) ?_
  have hB9 : Blk (w8.setCell ⟨gi, 2, none⟩ iv) gi [.string nm, fv, iv, nilS, xv] 27 := (hBi.ext x58).set 2 iv
  have f9 : Fr (fun k => k = gi ∨ k ≤ g4 ∨ w8.heap.size ≤ k) w8 (w8.setCell ⟨gi, 2, none⟩ iv) := Fr.of_set (.inl rfl)
  have rl9 := (rl5.ext x58).fr f9 (Nat.le_refl _)
  have rf9 := (rf5.ext x58).fr f9 (Nat.le_refl _)
  have rx9 := (rx5.ext x58).fr f9 (Nat.le_refl _)
  have rq19 := (rq1.ext (x7.trans x8)).fr f9 (Nat.le_refl _)
  have rq29 := (rq2.ext x8).fr f9 (Nat.le_refl _)
  have hoi9 := f9.own hoi fun k hk hS => by have := hoi.lt k hk; omega
  have hB49 : Blk (w8.setCell ⟨gi, 2, none⟩ iv) g4 _ _ := (hB4.ext x58).other hgi4
  have f59 : Ext w (w8.setCell ⟨gi, 2, none⟩ iv) := (x05.trans x58).setCell hiw0 iv
  have xr9 : ∀ {w'}, Fr (fun k => k = gi ∨ k = g4 ∨ w8.heap.size ≤ k) (w8.setCell ⟨gi, 2, none⟩ iv) w' → Ext w w' := fun f => f.ext f59 fun k hk => by omega
  have sz9 : (w8.setCell ⟨gi, 2, none⟩ iv).heap.size = w8.heap.size := by simp
  generalize w8.setCell ⟨gi, 2, none⟩ iv = w9 at *
  have hoi0 := hoi
  clear rl5 rf5 rx5 rq1 rq2 hoi hB4 hBi hq1 hq2 f9
  have ol := own_one rl9.own
  refine bld bd_47 [(2, lv)] rfl (by simp [ol]) ?_
  refine bsl xe_23 [i64 1, i64 2] rfl rfl (by simp) rfl fun p1 w10 hp1 x10 => ?_
  have s10 := x10.size
  have rp1 : Row g4 gi w10 p1 [1, 2] := R1 (l := [1, 2]) hp1 (by omega)
  have op1 := own_one hp1
  refine bld bd_47 [(0, p1), (1, i64 2), (2, lv)] rfl (by simp [ol, op1, one_i]) ?_
  refine bsl xe_23 [i64 4, i64 3] rfl rfl (by simp) rfl fun p2 w11 hp2 x11 => ?_
  have s11 := x11.size
  have rp2 : Row g4 gi w11 p2 [4, 3] := R1 (l := [4, 3]) hp2 (by omega)
  have op2 := own_one hp2
  obtain ⟨lv3, urun, usl⟩ := r_sl Tryz.underlying23 inf3 rl9.ints (lo := none) (hi' := some (.int .i64 ((2 : Nat) : Int))) (a := 0) (b := 2) (.inl ⟨rfl, rfl⟩) (.inr rfl) (by decide) (by decide)
  refine V.ok (urun _) ?_
  have ol3 : oneC lv3 = true := by obtain ⟨a, c, rfl⟩ := (usl _ rl9.ints).shape; rfl
  refine bld bd_47 [(0, p2), (1, i64 3), (2, lv3)] rfl (by simp [ol3, op2, one_i]) ?_
  refine bslG Tryz.underlying25 inf47 rfl (by decide) [.agg #[nilS, i64 0, lv, nilS], .agg #[p1, i64 2, lv, nilS], .agg #[p2, i64 3, lv3, nilS]] rfl rfl (by intro v hv; simp only [List.mem_cons, List.not_mem_nil, or_false] at hv; rcases hv with rfl | rfl | rfl <;> rfl) (by decide) (by decide) fun mv w12 hom x12 => ?_
  have s12 := x12.size
  have hom : w12.ownsRow w11.heap.size 47 4 mv 3 (apC lv p1 p2 lv3 fun _ => nilS) := hom
  obtain ⟨gm, cap, rfl⟩ : ∃ gm cap, mv = .slice (some ⟨gm, 0, none⟩) 3 cap := by
    rcases hom.2 with ⟨_, e⟩ | ⟨gm, cap, cur, rfl, _⟩
    · cases e
    · exact ⟨gm, cap, rfl⟩
  have hgm := hom.lt gm rfl
  have x9b := x10.trans x11
  have x9c := x9b.trans x12
  refine stF fa_27_3 inf25 (hB9.ext x9c) (n := 5) rfl (by decide) rfl ?_
  have hBC : Blk (w12.setCell ⟨gi, 3, none⟩ (.slice (some ⟨gm, 0, none⟩) 3 cap)) gi [.string nm, fv, iv, .slice (some ⟨gm, 0, none⟩) 3 cap, xv] 27 := (hB9.ext x9c).set 3 _
  have fC : Fr (fun k => k = gi ∨ k = g4 ∨ w11.heap.size ≤ k) w11 (w12.setCell ⟨gi, 3, none⟩ (.slice (some ⟨gm, 0, none⟩) 3 cap)) := (Fr.of_ext x12).set (.inl rfl)
  have homC : (w12.setCell ⟨gi, 3, none⟩ (.slice (some ⟨gm, 0, none⟩) 3 cap)).ownsRow w11.heap.size 47 4 (.slice (some ⟨gm, 0, none⟩) 3 cap) 3 (apC lv p1 p2 lv3 fun _ => nilS) := (Fr.of_set (S := fun k => k = gi) rfl).own hom fun k hk hS => by have := hom.lt k hk; omega
  have hB4C : Blk (w12.setCell ⟨gi, 3, none⟩ (.slice (some ⟨gm, 0, none⟩) 3 cap)) g4 _ _ := (hB49.ext x9c).other hgi4
  have szC : (w12.setCell ⟨gi, 3, none⟩ (.slice (some ⟨gm, 0, none⟩) 3 cap)).heap.size = w12.heap.size := by simp
  generalize w12.setCell ⟨gi, 3, none⟩ (.slice (some ⟨gm, 0, none⟩) 3 cap) = wC at *
  have hb11 : Ext w w11 := (Ext.refl w).trans (f59.trans x9b)
  have hr0 : ∀ {w'}, Ext w w' → RwsAre w' rv rl := fun hx => (hr0 : RwsAre w rv rl).ext hx
  have hall : ∀ {w'}, Fr (fun k => k = gi ∨ k ≤ g4 ∨ w11.heap.size ≤ k) w11 w' → IntsAre w' fv [1, 2, 3, 4] ∧ IntsAre w' xv [1, 2] ∧ IntsAre w' lv [1, 2, 3, 4] ∧ IntsAre w' p1 [1, 2] ∧ IntsAre w' p2 [4, 3] ∧ IntsAre w' lv3 [1, 2] ∧ ImpsAre w' iv (apIs n1 n2) := by
    intro w' f
    have hN := Nat.le_refl w11.heap.size
    have hl := ((rl9.ext x9b).fr f hN).ints
    refine ⟨((rf9.ext x9b).fr f hN).ints, ((rx9.ext x9b).fr f hN).ints, hl, ((rp1.ext x11).fr f hN).ints, (rp2.fr f hN).ints, usl w' hl, apImps (SliceIs.of_own (f.own (x9b.own hoi9) fun k hk hS => ?_)) ((rq19.ext x9b).fr f hN).ints ((rq29.ext x9b).fr f hN).ints⟩
    have := (x9b.own hoi9).lt k hk
    omega
  have hallX : ∀ {w'}, Fr (fun k => k = gi ∨ k = g4 ∨ w11.heap.size ≤ k) w11 w' → Ext w w' := fun f => f.ext hb11 fun k hS => by omega
  have hS : ∀ {w'}, Fr (fun k => k = gi ∨ k = g4 ∨ w11.heap.size ≤ k) w11 w' → Fr (fun k => k = gi ∨ k ≤ g4 ∨ w11.heap.size ≤ k) w11 w' := fun f => f.mono fun k hk => by omega
  clear rl9 rf9 rx9 rq19 rq29 hoi9 rp1 rp2 hB9 hB49 hom usl urun hp1 hp2
  refine lnR xa_22 (hr0 (hallX fC)) ?_
  have hgmC : gm < wC.heap.size := by omega
  refine ⟨fun v w' => ∃ (j : Nat) (c : Nat → Value) (code : Nat → List Ins), v = i64 j ∧ j ≤ 3 ∧ Fr (fun k => k = gi ∨ k = g4 ∨ w11.heap.size ≤ k) w11 w' ∧ wC.heap.size ≤ w'.heap.size ∧ Blk w' gi [.string nm, fv, iv, .slice (some ⟨gm, 0, none⟩) 3 cap, xv] 27 ∧ Blk w' g4 [.string ByteArray.empty, nilS, nilS, nilS, nilS] 27 ∧ w'.ownsRow w11.heap.size 47 4 (.slice (some ⟨gm, 0, none⟩) 3 cap) 3 (apC lv p1 p2 lv3 c) ∧ ∀ k, w'.ownsRow (gm + 1) 71 3 (c k) (code k).length (insC (code k)) ∧ (∀ x ∈ code k, x.rg) ∧ (code k).length ≤ 700000,
    fun v _ => 3 - (RowKit.intOf v).toNat, ⟨0, fun _ => nilS, fun _ => [], rfl, Nat.zero_le _, fC, Nat.le_refl _, hBC, hB4C, homC, fun k => ⟨World.ownsRow_nil _ _ _ _, fun _ h => by simp at h, Nat.zero_le _⟩⟩, ?_⟩
  clear hBC hB4C homC fC
  rintro _ wD ⟨j, c, code, rfl, hj, f, hsz, hBi, hB4, hom, hcs⟩ _
  obtain ⟨rf, rx, rl', rp1, rp2, rl3, rim⟩ := hall (hS f)
  have xw := hallX f
  have hms : MthsAre wD (.slice (some ⟨gm, 0, none⟩) 3 cap) (apMs code) := apMths (SliceIs.of_own hom) rl' rp1 rp2 rl3 fun k _ => SliceIs.of_own (hcs k).1
  refine V_lss.2 (ifD_dec (fun hlt => ?_) fun hge => ?_)
  · have hrD := hr0 xw
    have e1 : ∀ m : Nat, m ≤ 3 → V Tryz.prog (binOp .mul 3 (i64 m) (i64 rl.length)) wD = V Tryz.prog (binOp .mul 3 (i64 m) (i64 rl.length)) wD := fun _ _ => rfl
    have e2 : ∀ m : Nat, m ≤ 3 → IntKind.i64.wrap ((m : Int) * (rl.length : Int)) = ((m * rl.length : Nat) : Int) := fun m hm => by
      have : m * rl.length ≤ 3 * rl.length := Nat.mul_le_mul_right _ hm
      rw [← Int.natCast_mul]
      exact wrap_id (by omega) (by omega)
    have e3 : ∀ (m d : Nat), m ≤ 15000000000000 → IntKind.i64.wrap (((m : Nat) : Int).tdiv ((d : Nat) : Int)) = ((m / d : Nat) : Int) := fun m d hm => by
      have h1 : ((m : Nat) : Int).tdiv ((d : Nat) : Int) = ((m / d : Nat) : Int) := by
        rw [Int.tdiv_eq_ediv_of_nonneg (by omega)]; rfl
      have h2 : m / d ≤ m := Nat.div_le_self _ _
      rw [h1]
      clear h1
      generalize m / d = q at *
      exact wrap_id (by omega) (by omega)
    have e4 : ∀ a b : Nat, min ((a : Nat) : Int) ((b : Nat) : Int) = ((min a b : Nat) : Int) := fun a b => by omega
    have hj3 : j * rl.length ≤ 3 * rl.length := Nat.mul_le_mul_right _ hj
    have hj4 : (j + 1) * rl.length ≤ 3 * rl.length := Nat.mul_le_mul_right _ (by omega)
    refine V_mul.2 ?_
    rw [e2 j hj]
    refine (V_quo (by decide)).2 ?_
    rw [show (3 : Int) = ((3 : Nat) : Int) from rfl, e3 _ 3 (by omega)]
    refine V.ok r_min (V_add.2 ?_)
    rw [e4, wrap_id (n := (j : Int) + 1) (by omega) (by omega), i64_succ]
    refine V_mul.2 ?_
    rw [e2 (j + 1) (by omega)]
    refine (V_quo (by decide)).2 ?_
    rw [e3 _ 3 (by omega)]
    refine V.ok r_min ?_
    rw [e4]
    have hd1 : j * rl.length / 3 ≤ (j + 1) * rl.length / 3 := Nat.div_le_div_right (Nat.mul_le_mul_right _ (by omega))
    obtain ⟨v1, r1, hs1⟩ := RwsAre.part Tryz.underlying22 inf120 hrD (lo := some (.int .i64 ((min rl.length (j * rl.length / 3) : Nat) : Int))) (hi' := some (.int .i64 ((min rl.length ((j + 1) * rl.length / 3) : Nat) : Int))) (.inr rfl) (.inr rfl) (by omega) (by omega)
    refine V.ok (r1 _) ?_
    refine ⟨fun v w' => ∃ l, RwsAre wD v l ∧ l.length ≤ 5000000000000 ∧ w' = wD, V_eqlI.2 (ifD_dec (fun hz => ?_) fun hz => ⟨_, hs1, by simp; omega, rfl⟩), ?_⟩
    · refine (V_quo (by decide)).2 ?_
      rw [show (2 : Int) = ((2 : Nat) : Int) from rfl, e3 _ 2 (by omega)]
      refine V.ok r_min ?_
      rw [e4]
      obtain ⟨v2, r2, hs2⟩ := RwsAre.part Tryz.underlying22 inf120 hrD (lo := none) (hi' := some (.int .i64 ((min rl.length (rl.length / 2) : Nat) : Int))) (a := 0) (.inl ⟨rfl, rfl⟩) (.inr rfl) (by omega) (by omega)
      exact V.ok (r2 _) ⟨_, hs2, by simp; omega, rfl⟩
    rintro v3 wD' ⟨l, hl, hll, hwD⟩ _
    have hwD := hwD.symm
    subst hwD
    have D1 : Ext wD wD.drew := (Ext.refl _).drew
    have hBid := hBi.ext D1
    obtain ⟨m, hm⟩ := ex_get (l := apMs code) (j := j) (by simp [apMs]; omega)
    refine drawD.mk' (fun w' => Ext wD.drew w') (Ext.refl _) ?_
    refine yfB (fun w' hx => Blk.boxed (hBid.ext hx)) fa_27_3 l1_25 rfl ?_
    refine yfB (fun w' hx => Blk.boxed (hBid.ext hx)) fa_27_3 l1_25 rfl ?_
    refine ySS xa_25 la_47 (hms.ext D1) (fun _ h => h) hm mth_len fun row hrow => ?_
    refine yfB (fun w' hx => Blk.boxed (hBid.ext hx)) fa_27_3 l1_25 rfl ?_
    refine yfB (fun w' hx => Blk.boxed (hBid.ext hx)) fa_27_2 l1_24 rfl ?_
    have xwd := xw.trans D1
    have hmp := apM_small hm
    refine code26 (hl.ext D1) hrow (hms.ext D1) (rim.ext D1) (fun q hq => ?_) hll (by omega) (by omega) ⟨by simp [apMs], by simp [apMs]⟩ (by simp [apMs]) (by simp [apIs]) (by simp [apIs]) fun v4 code4 wE ho4 hrg4 hlen4 xE => ⟨xE, ?_⟩
    · obtain ⟨z, hz⟩ := hb q hq
      exact ⟨z, xwd.cell hz⟩
    have x3E := D1.trans xE
    refine yieldS.ok (fun w' _ => r_index Tryz.underlying25 inf47 (by omega) (by omega)) ?_
    refine yieldS.ok (fun w' _ => FA.ex fa_47_3 w' _ _) ?_
    rw [Int.toNat_natCast]
    refine stOF Tryz.underlying25 inf47 fa_47_3 inf45 (x3E.own hom) (by omega) (by decide) (own_one ho4) fun wF hwF hoF fF => V_add.2 ?_
    rw [wrap_id (by omega) (by omega), i64_succ]
    have sE := x3E.size
    have sD := D1.size
    have sF := fF.size
    rw [apC_set (by omega)] at hoF
    refine ⟨⟨j + 1, fun k => if k = j then v4 else c k, fun k => if k = j then code4 else code k, rfl, by omega, (f.trans (Fr.of_ext x3E) fun _ _ h => h).trans fF fun k _ hk => by omega, by omega, fF.blk (hBi.ext x3E) (by omega), fF.blk (hB4.ext x3E) (by omega), hoF, fun k => ?_⟩, by simp only [intOf_i64]; omega⟩
    by_cases hkj : k = j
    · simp only [hkj, if_true]
      exact ⟨own_mono (fF.own ho4 fun q hq hS => by have := (ho4.lt q hq).1; omega) (by omega), hrg4, hlen4⟩
    · simp only [hkj, if_false]
      obtain ⟨c1, c2, c3⟩ := hcs k
      exact ⟨fF.own (x3E.own c1) fun q hq hS => by have := (c1.lt q hq).1; omega, c2, c3⟩
  · refine ldA (Blk.boxed hBi) la_27 rfl ?_
    refine stA inf27 hB4 (l := [.string nm, fv, iv, .slice (some ⟨gm, 0, none⟩) 3 cap, xv]) rfl rfl rfl (by simp [o1, o2, own_one hoi0, one_s, one_l]) fun wE hBE hc => ?_
    refine ⟨_, r_var Tryz.underlying27 rfl inf27 hBE rfl, ⟨_, rfl⟩, ?_⟩
    have fE : Fr (fun k => k = gi ∨ k = g4 ∨ w11.heap.size ≤ k) w11 wE := f.trans ((chg_fr hc).mono fun k hk => .inr (.inl hk)) fun _ _ h => h
    have xw := hallX fE
    have hg4m : g4 < gm := by omega
    have homE := (chg_fr hc).own hom fun k hk hS => by have := (hom.lt k hk).1; omega
    have hcsE : ∀ k, wE.ownsRow (gm + 1) 71 3 (c k) (code k).length (insC (code k)) := fun k => (chg_fr hc).own (hcs k).1 fun q hq hS => by have := ((hcs k).1.lt q hq).1; omega
    have stay : ∀ w'', Fr (fun k => k < g4) wE w'' → Tabs w'' → ImgAt w'' ⟨fv, iv, .slice (some ⟨gm, 0, none⟩) 3 cap, xv⟩ ⟨nm, [1, 2, 3, 4], apIs n1 n2, apMs code, [1, 2]⟩ ∧ NamesOk w'' ⟨nm, [1, 2, 3, 4], apIs n1 n2, apMs code, [1, 2]⟩ := by
      intro w'' f'' hT''
      have f3 : Fr (fun k => k = gi ∨ k ≤ g4 ∨ w11.heap.size ≤ k) w11 w'' := (hS fE).trans f'' fun k _ hk => by omega
      obtain ⟨rf, rx, rl', rp1, rp2, rl3, rim⟩ := hall f3
      refine ⟨⟨rf, rim, apMths (SliceIs.of_own (f''.own homE fun k hk hS => by have := (homE.lt k hk).1; omega)) rl' rp1 rp2 rl3 fun k _ => SliceIs.of_own (f''.own (hcsE k) fun q hq hS => by have := ((hcsE k).lt q hq).1; omega), rx⟩, nmB_ok hnm hT'', fun x hx => ?_⟩
      simp only [apIs, List.mem_cons, List.not_mem_nil, or_false] at hx
      rcases hx with rfl | rfl
      · exact nmB_ok hn1 hT''
      · exact nmB_ok hn2 hT''
    have stayM : ∃ cs : List Value, ∀ w'', Fr (fun k => k < g4) wE w'' → SliceIs w'' (.slice (some ⟨gm, 0, none⟩) 3 cap) 4 3 cs ∧ ∀ (k : Nat) (x : Mth), (apMs code)[k]? = some x → MthIs w'' ((cs.drop (k * 4)).take 4) x := by
      refine ⟨apC lv p1 p2 lv3 c, fun w'' f'' => ?_⟩
      have f3 : Fr (fun k => k = gi ∨ k ≤ g4 ∨ w11.heap.size ≤ k) w11 w'' := (hS fE).trans f'' fun k _ hk => by omega
      obtain ⟨rf, rx, rl', rp1, rp2, rl3, rim⟩ := hall f3
      exact apMths' (w := w'') (SliceIs.of_own (f''.own homE fun k hk hS => by have := (homE.lt k hk).1; omega)) rl' rp1 rp2 rl3 fun k _ => SliceIs.of_own (f''.own (hcsE k) fun q hq hS => by have := ((hcsE k).lt q hq).1; omega)
    have hTE := hT.ext xw
    obtain ⟨hat, hnmE⟩ := stay wE (Fr.refl _ _) hTE
    refine hk ⟨fv, iv, .slice (some ⟨gm, 0, none⟩) 3 cap, xv⟩ ⟨nm, [1, 2, 3, 4], apIs n1 n2, apMs code, [1, 2]⟩ wE hat hnmE (fun m hm x hx => ?_) rfl (fun m hm => ?_) (by rw [hgg4]; exact stay) (by rw [hgg4]; exact stayM) xw
    · simp only [apMs, List.mem_cons, List.not_mem_nil, or_false] at hm
      rcases hm with rfl | rfl | rfl
      · exact (hcs 0).2.1 x hx
      · exact (hcs 1).2.1 x hx
      · exact (hcs 2).2.1 x hx
    · simp only [apMs, List.mem_cons, List.not_mem_nil, or_false] at hm
      rcases hm with rfl | rfl | rfl
      · exact (hcs 0).2.2
      · exact (hcs 1).2.2
      · exact (hcs 2).2.2
end Go.Proofs.YtcdbikfnlggbnaaGreatDoor
namespace Go.Vc
section
variable {P : Program} {w : World} {K : Value → World → Prop}
/-- A struct of three cells is stored into a row that the call owns. -/
theorem stO3 {t : TypeId} {z : Value} {by_ g n cap B k : Nat} {e : TypeId} {xs : List Value} {a b c : Value} {K' : Value → World → Prop} (hi : Inf P t z 3 by_) (ho : w.ownsRow B e 3 (.slice (some ⟨g, 0, none⟩) n cap) n xs) (hk : k < n) (h1 : oneC a = true) (h2 : oneC b = true) (h3 : oneC c = true)
    (hK : ∀ w', w'.ownsRow B e 3 (.slice (some ⟨g, 0, none⟩) n cap) n (((xs.set (k * 3) a).set (k * 3 + 1) b).set (k * 3 + 2) c) → Fr (fun i => i = g) w w' → K' undef w') : U P (Instr.storeAt t (.pointer (some ⟨g, 0 + k * 3, none⟩)) (.agg #[a, b, c])) w K' := by
  have hl : xs.length = n * 3 := ho.1
  have hle : k * 3 + 3 ≤ n * 3 := by omega
  obtain ⟨o1, _⟩ := ho.stored (k * 3) a
  obtain ⟨o2, _⟩ := o1.stored (k * 3 + 1) b
  obtain ⟨o3, _⟩ := o2.stored (k * 3 + 2) c
  have c1 := ho.cellAt (k * 3) (by omega)
  rw [List.getElem?_eq_getElem (by omega)] at c1
  have c2 := o1.cellAt (k * 3 + 1) (by omega)
  rw [List.getElem?_eq_getElem (by rw [List.length_set]; omega)] at c2
  have c3 := o2.cellAt (k * 3 + 2) (by omega)
  rw [List.getElem?_eq_getElem (by rw [List.length_set, List.length_set]; omega)] at c3
  have r1 := run_store1 (P := P) h1 c1 (ho.frozenAt _)
  have r2 := run_store1 (P := P) h2 c2 (o1.frozenAt _)
  have r3 := run_store1 (P := P) h3 c3 (o2.frozenAt _)
  have hs : (storeCells ⟨g, k * 3, none⟩ [a, b, c] 0).run P w = .ok () (((w.setCell ⟨g, k * 3, none⟩ a).setCell ⟨g, k * 3 + 1, none⟩ b).setCell ⟨g, k * 3 + 2, none⟩ c) := by
    simp only [storeCells, add_mk, Sem.run_bind, Nat.add_zero, Nat.zero_add]
    rw [r1, Result.andThen_ok, r2, Result.andThen_ok, r3, Result.andThen_ok]
    simp
  rw [Nat.zero_add]
  refine U.ok ?_ (hK _ o3 ((Fr.of_set (S := fun i => i = g) rfl).set rfl |>.set rfl))
  simp [Instr.storeAt, Instr.sureAddr, storeVar, run_size hi, Value.cells, hs]
/-- l[:k], of a row that the call owns. -/
theorem slO {t e sz : Nat} {z : Value} {by_ : Nat} (ht : P.underlying t = some (.slice e)) (hi : Inf P e z sz by_) (_ : 0 < sz) {B n g cap : Nat} {xs : List Value} (ho : w.ownsRow B e sz (.slice (some ⟨g, 0, none⟩) n cap) n xs) {k : Nat} (hk : k ≤ n) (h0 : 0 < n)
    (hK : w.ownsRow B e sz (.slice (some ⟨g, 0, none⟩) k cap) k (xs.take (k * sz)) → K (.slice (some ⟨g, 0, none⟩) k cap) w) : V P (Instr.sliceAt t (.slice (some ⟨g, 0, none⟩) n cap) none (some (i64 k)) none) w K := by
  have hcap : n ≤ cap := by
    rcases ho.2 with ⟨he, _⟩ | ⟨g', cap', cur, he, _, _, h3, _⟩
    · cases he
    · cases he; exact h3
  have hc0 : ¬ cap = 0 := by omega
  have hkc : k ≤ cap := by omega
  refine V.ok ?_ (hK (own_take' ho hk))
  simp [Instr.sliceAt, Instr.slice, run_underlying ht, run_size hi, Instr.sliceBounds, Instr.sliceBound, asIntOf, hkc, hc0, add_mk]
end
end Go.Vc
namespace Go.Proofs.YtcdbikfnlggbnaaGreatDoor
open Go.Vc Go.Tc
variable {w : World} {K : Value → World → Prop}
theorem insC_app (l m : List Ins) : insC (l ++ m) = insC l ++ insC m := by simp [insC]
theorem insC_drop : ∀ (l : List Ins) (a : Nat), (insC l).drop (a * 3) = insC (l.drop a)
  | [], a => by simp [insC]
  | x :: l, 0 => by simp
  | x :: l, a + 1 => by
    have := insC_drop l a
    simp only [insC, List.flatMap_cons, List.drop_succ_cons] at this ⊢
    rw [show (a + 1) * 3 = 3 + a * 3 by omega, ← List.drop_drop, List.drop_left' (by rfl)]
    exact this
theorem insC_take : ∀ (l : List Ins) (a : Nat), (insC l).take (a * 3) = insC (l.take a)
  | [], a => by simp [insC]
  | x :: l, 0 => by simp [insC]
  | x :: l, a + 1 => by
    have := insC_take l a
    simp only [insC, List.flatMap_cons, List.take_succ_cons] at this ⊢
    rw [show (a + 1) * 3 = 3 + a * 3 by omega, List.take_add, List.take_left' (by rfl), List.drop_left' (by rfl), this]
theorem insC_setO : ∀ {l : List Ins} {k : Nat} {x : Ins} {z : Int}, l[k]? = some x → (insC l).set (k * 3 + 0) (i64 z) = insC (l.set k ⟨z, x.a, x.b⟩)
  | [], _, _, _, h => by simp at h
  | y :: l, 0, x, z, h => by simp at h; subst h; simp [insC]
  | y :: l, k + 1, x, z, h => by
    have := insC_setO (l := l) (k := k) (z := z) (by simpa using h)
    simp only [insC, List.flatMap_cons, List.set_cons_succ] at this ⊢
    rw [show (k + 1) * 3 + 0 = k * 3 + 0 + 3 by omega]
    simpa using this
theorem insC_setW : ∀ {l : List Ins} {k : Nat} {x : Ins}, k < l.length → (((insC l).set (k * 3) (i64 x.op)).set (k * 3 + 1) (i64 x.a)).set (k * 3 + 2) (i64 x.b) = insC (l.set k x)
  | [], _, _, h => by simp at h
  | y :: l, 0, x, h => by simp [insC]
  | y :: l, k + 1, x, h => by
    have := insC_setW (l := l) (k := k) (x := x) (by simpa using h)
    simp only [insC, List.flatMap_cons, List.set_cons_succ] at this ⊢
    rw [show (k + 1) * 3 = k * 3 + 3 by omega, show k * 3 + 3 + 1 = k * 3 + 1 + 3 by omega, show k * 3 + 3 + 2 = k * 3 + 2 + 3 by omega]
    simpa using this
/-- One element's cell is another. -/
theorem row_set {cs row : List Value} {sz k q o : Nat} {v : Value} (h : (cs.drop (k * sz)).take sz = row) (hrow : row.length = sz) (ho : o < sz) : ((cs.set (q * sz + o) v).drop (k * sz)).take sz = if k = q then row.set o v else row := by
  apply List.ext_getElem?
  intro j
  have hj : ∀ l : List Value, ((l.drop (k * sz)).take sz)[j]? = if j < sz then l[k * sz + j]? else none := fun l => by
    rw [List.getElem?_take, List.getElem?_drop]
  have hr : row[j]? = if j < sz then cs[k * sz + j]? else none := by rw [← h, hj]
  rw [hj]
  by_cases hjs : j < sz
  · rw [if_pos hjs]
    by_cases hkq : k = q
    · subst hkq
      rw [if_pos rfl, List.getElem?_set, List.getElem?_set]
      rw [if_pos hjs] at hr
      by_cases hoj : o = j
      · subst hoj
        rw [if_pos rfl, if_pos rfl]
        have h1 : o < row.length := by omega
        have h2 : k * sz + o < cs.length := by
          have : row[o]? ≠ none := by rw [List.getElem?_eq_getElem h1]; simp
          rw [hr] at this
          exact Nat.lt_of_not_le fun hle => this (List.getElem?_eq_none hle)
        rw [if_pos h1, if_pos h2]
      · rw [if_neg hoj, if_neg (by omega), hr]
    · rw [if_neg hkq, List.getElem?_set, if_neg ?_]
      · rw [hr, if_pos hjs]
      · intro he
        rcases Nat.lt_or_gt_of_ne hkq with hlt | hgt
        · have := Nat.mul_le_mul_right sz (show k + 1 ≤ q by omega)
          rw [Nat.add_mul, Nat.one_mul] at this; omega
        · have := Nat.mul_le_mul_right sz (show q + 1 ≤ k by omega)
          rw [Nat.add_mul, Nat.one_mul] at this; omega
  · rw [if_neg hjs]
    split
    · rw [List.getElem?_eq_none (by rw [List.length_set]; omega)]
    · rw [List.getElem?_eq_none (by omega)]
end Go.Proofs.YtcdbikfnlggbnaaGreatDoor
namespace Go.Tc
def Img.withCode (i : Img) (q : Nat) (code : List Ins) : Img := { i with methods := i.methods.set q { i.meth q with code := code } }
end Go.Tc
namespace Go.Proofs.YtcdbikfnlggbnaaGreatDoor
open Go.Vc Go.Tc
variable {w : World} {K : Value → World → Prop}
theorem rg_set {l : List Ins} {k : Nat} {x : Ins} (h : ∀ y ∈ l, y.rg) (hx : x.rg) : ∀ y ∈ l.set k x, y.rg := fun y hy => by
  rcases List.mem_or_eq_of_mem_set hy with hy | rfl
  · exact h y hy
  · exact hx
theorem rg0 (op a : Int) : Ins.rg ⟨op, a, 0⟩ := ⟨by show (-9223372036854775808 : Int) ≤ 0; decide, by show (0 : Int) ≤ 9223372036854775807; decide⟩
/-- What an applet is, for the laws. -/
structure Apl (w : World) (p : ImgV) (i : Img) : Prop where
  at_ : ImgAt w p i
  nm : NamesOk w i
  rg : i.rg
  ml : i.methods.length = 3
  cl : ∀ m ∈ i.methods, m.code.length ≤ 2000000
theorem Apl.ext {w' : World} {p : ImgV} {i : Img} (h : Apl w p i) (hx : Ext w w') : Apl w' p i := ⟨h.at_.ext hx, h.nm.ext hx, h.rg, h.ml, h.cl⟩
theorem insC_one (l : List Ins) : (insC l).all oneC = true := List.all_eq_true.2 fun v hv => by
  simp only [insC, List.mem_flatMap, List.mem_cons, List.not_mem_nil, or_false] at hv
  obtain ⟨x, _, rfl | rfl | rfl⟩ := hv <;> rfl
theorem bs0M (hk : ∀ v w', w'.ownsRow w.heap.size 47 4 v 0 [] → Ext w w' → K v w') : V Tryz.prog (Instr.buildSlice 25 0 #[]) w K := by
  refine V.ok (v := .slice (some ⟨w.heap.size, 0, none⟩) 0 0) (w' := w.alloc (.cells (([] : List Value)).toArray 47)) (by kernel_rfl) ?_
  exact hk _ _ (World.ownsRow_lit (base := w.heap.size) (e := 47) (size := 4) w (([] : List Value)).toArray 0 (Nat.le_refl _) (Nat.zero_le _) rfl) ((Ext.refl _).alloc _)
theorem bs0I (hk : ∀ v w', w'.ownsRow w.heap.size 71 3 v 0 (insC []) → Ext w w' → K v w') : V Tryz.prog (Instr.buildSlice 45 0 #[]) w K := by
  refine V.ok (v := .slice (some ⟨w.heap.size, 0, none⟩) 0 0) (w' := w.alloc (.cells (([] : List Value)).toArray 71)) (by kernel_rfl) ?_
  exact hk _ _ (World.ownsRow_lit (base := w.heap.size) (e := 71) (size := 3) w (([] : List Value)).toArray 0 (Nat.le_refl _) (Nat.zero_le _) rfl) ((Ext.refl _).alloc _)
/-- An append of instructions. -/
theorem apI {B : Nat} {v x : Value} {l m : List Ins} (ho : w.ownsRow B 71 3 v l.length (insC l)) (hs : InsAre w x m) (hl : l.length + m.length ≤ 10000000) (hB : B ≤ w.heap.size)
    (hk : ∀ v' w', w'.ownsRow B 71 3 v' (l ++ m).length (insC (l ++ m)) → w.grownBy w' v.ownBlock → K v' w') : V Tryz.prog (Builtin.append_ #[45, 45] 45 #[v, x]) w K := by
  refine apG Tryz.underlying45 inf71 rfl (by decide) ho hs (insC_one _) (by omega) (by unfold maxLen; omega) hB fun v' w' h1 h2 _ => hk v' w' ?_ h2
  rw [List.length_append, insC_app]; exact h1
/-- A part of a row of instructions. -/
theorem ins_part {v : Value} {l : List Ins} (h : InsAre w v l) {lo hi' : Option Value} {a b : Nat} (ha : (lo = none ∧ a = 0) ∨ lo = some (.int .i64 a)) (hb : (hi' = none ∧ b = l.length) ∨ hi' = some (.int .i64 b)) (hab : a ≤ b) (hbn : b ≤ l.length) :
    ∃ v', (∀ w', (Instr.sliceAt 45 v lo hi' none).run Tryz.prog w' = .ok v' w') ∧ InsAre w v' ((l.drop a).take (b - a)) := by
  obtain ⟨v', h1, h2⟩ := r_slN Tryz.underlying45 inf71 h ha hb hab hbn
  refine ⟨v', h1, ?_⟩
  have := h2 w h
  rw [insC_drop, insC_take] at this
  unfold InsAre
  rwa [show ((l.drop a).take (b - a)).length = b - a by simp; omega]
/-- What a bend leaves of the code. -/
def BJ (N0 : Nat) (w0 : World) (v : Value) (w' : World) : Prop := ∃ code' : List Ins, w'.ownsRow N0 71 3 v code'.length (insC code') ∧ (∀ x ∈ code', x.rg) ∧ code'.length ≤ 2000000 ∧ Fr (fun k => N0 ≤ k) w0 w'
/-- An applet stays whatever happens to the blocks ahead of B. -/
structure Stay (B : Nat) (w : World) (p : ImgV) (i : Img) : Prop where
  ap : ∀ w'', Fr (fun k => k < B) w w'' → Tabs w'' → Apl w'' p i
  mt : ∃ cs : List Value, ∀ w'', Fr (fun k => k < B) w w'' → SliceIs w'' p.mv 4 i.methods.length cs ∧ ∀ (k : Nat) (x : Mth), i.methods[k]? = some x → MthIs w'' ((cs.drop (k * 4)).take 4) x
theorem Stay.by_ {B B' : Nat} {w' : World} {p : ImgV} {i : Img} (h : Stay B w p i) (hf : ∀ w'', Fr (fun k => k < B') w' w'' → Fr (fun k => k < B) w w'') : Stay B' w' p i := by
  obtain ⟨h1, cs, h2⟩ := h
  exact ⟨fun w'' f hT => h1 w'' (hf w'' f) hT, cs, fun w'' f => h2 w'' (hf w'' f)⟩
theorem Stay.ext {B : Nat} {w' : World} {p : ImgV} {i : Img} (h : Stay B w p i) (hx : Ext w w') : Stay B w' p i := h.by_ fun _ f => (Fr.of_ext hx).trans f fun _ _ h => h
theorem Stay.now {B : Nat} {p : ImgV} {i : Img} (h : Stay B w p i) (hT : Tabs w) : Apl w p i := h.ap w (Fr.refl _ _) hT
theorem Stay.chg {B B' g : Nat} {w' : World} {p : ImgV} {i : Img} (h : Stay B w p i) (f : Fr (fun k => k = g) w w') (hg : g < B) (hB : B' ≤ B) : Stay B' w' p i := h.by_ fun w'' f' => ((f.mono (T := fun k => k < B) fun k hk => by omega)).trans f' fun k _ hk => by omega
set_option maxHeartbeats 4000000 in
theorem bent8 {p : ImgV} {i : Img} {a b e : Int} {B : Nat} (hst : Stay B w p i) (hT : Tabs w) (hB0 : B ≤ w.heap.size) (hc7 : ∀ m ∈ i.methods, m.code.length ≤ 700000) (hk : ∀ p' i' w', Stay B w' p' i' → Ext w w' → K (p'.val i') w') :
    callD Tryz.prog 8 #[p.val i, i64 a, i64 b, i64 e] w K := by
  apply F8_wp
  unfold F8_den ImgV.val
  have h := hst.now hT
  have ml := h.ml
  refine bxK fun w1 hB4 x1 => ?_
  have hB4 : Blk w1 w.heap.size [.string i.name, p.fv, p.iv, p.mv, p.xv] 27 := hB4
  have l4 := hB4.lt
  refine alK inf27 fun w2 hB8 x2 => ?_
  have hB8 : Blk w2 w1.heap.size [.string ByteArray.empty, nilS, nilS, nilS, nilS] 27 := hB8
  have l8 := hB8.lt
  have hB4 := hB4.ext x2
  generalize hg4 : w.heap.size = g4 at *
  generalize hg8 : w1.heap.size = g8 at *
  obtain ⟨cs, hcsA⟩ := hst.mt
  obtain ⟨hcs, hrowsA⟩ := hcsA w (Fr.refl _ _)
  have hrows : ∀ (k : Nat) x, i.methods[k]? = some x → ∃ row, (cs.drop (k * 4)).take 4 = row ∧ MthIs w row x := fun k x hx => ⟨_, rfl, hrowsA k x hx⟩
  have hcl : cs.length = i.methods.length * 4 := hcs.1
  have x12 := x1.trans x2
  refine bs0M fun v3 w3 ho3 x3 => ?_
  have s3 := x3.size
  refine ldB (Blk.boxed (hB4.ext x3)) fa_27_3 l1_25 rfl ?_
  have hone : cs.all oneC = true := List.all_eq_true.2 fun u hu => by
    obtain ⟨j, hj⟩ := List.getElem?_of_mem hu
    have hjl := (List.getElem?_eq_some_iff.1 hj).1
    obtain ⟨row, hrow, pv, lv, cv, hre, hp, hl, hc⟩ := hrows (j / 4) _ (List.getElem?_eq_getElem (show j / 4 < i.methods.length by omega))
    have hj4 : row[j % 4]? = some u := by
      rw [← hrow, List.getElem?_take, if_pos (by omega), List.getElem?_drop, show j / 4 * 4 + j % 4 = j by omega]
      exact hj
    rw [hre] at hj4
    obtain ⟨a1, c1, rfl⟩ := hp.shape
    obtain ⟨a2, c2, rfl⟩ := hl.shape
    obtain ⟨a3, c3, rfl⟩ := SliceIs.shape hc
    have h4 : j % 4 = 0 ∨ j % 4 = 1 ∨ j % 4 = 2 ∨ j % 4 = 3 := by omega
    rcases h4 with h4 | h4 | h4 | h4 <;> rw [h4] at hj4 <;> cases hj4 <;> rfl
  refine apG Tryz.underlying25 inf47 rfl (by decide) ho3 (hcs.ext (x12.trans x3)) hone (by omega) (by unfold maxLen; omega) s3 fun v4 w4 ho4 hg4' _ => ?_
  have ho4 : w4.ownsRow w2.heap.size 47 4 v4 (0 + i.methods.length) cs := by simpa using ho4
  rw [Nat.zero_add, ml] at ho4
  have x4 : Ext w2 w4 := x3.grown hg4' fun k hk => (ho3.lt k hk).1
  have s4 := x4.size
  obtain ⟨gm, capm, rfl⟩ : ∃ gm cap, v4 = .slice (some ⟨gm, 0, none⟩) 3 cap := by
    rcases ho4.2 with ⟨_, e⟩ | ⟨gm, cap, cur, rfl, _⟩
    · cases e
    · exact ⟨gm, cap, rfl⟩
  have hgm := ho4.lt gm rfl
  refine lnx xa_25 (SliceIs.of_own ho4) (pick10 (by decide) (by decide) fun q hq0 hq1 => ?_)
  obtain ⟨q, rfl⟩ : ∃ q2 : Nat, q = q2 := ⟨q.toNat, by omega⟩
  have hq3 : q < 3 := by omega
  have x04 := x12.trans x4
  obtain ⟨m, hm⟩ := ex_get (l := i.methods) (j := q) (by omega)
  obtain ⟨row, hrow, pv, lv, cv, rfl, hp, hl, hc⟩ := hrows q m hm
  have hmm := List.mem_of_getElem? hm
  have hml := hc7 m hmm
  have hmrg := h.rg m hmm
  have hrow3 : cs[q * 4 + 3]? = some cv := by
    have : ((cs.drop (q * 4)).take 4)[3]? = some cv := by rw [hrow]; rfl
    rwa [List.getElem?_take, if_pos (by decide), List.getElem?_drop] at this
  refine bs0I fun v5 w5 ho5 x5 => ?_
  have s5 := x5.size
  have x05 := x04.trans x5
  refine ldxF xa_25 fa_47_3 l1_45 (SliceIs.of_own (x5.own ho4)) (by omega) (by omega) (u := cv) (by simpa using hrow3) ?_
  refine apI (l := []) ho5 (hc.ext x05) (by simp; omega) s5 fun v6 w6 ho6 hg6 => ?_
  have x6 : Ext w4 w6 := x5.grown hg6 fun k hk => (ho5.lt k hk).1
  have s6 := x6.size
  have x06 := x04.trans x6
  rw [List.nil_append] at ho6
  have hB46 := hB4.ext (x4.trans x6)
  have hB86 := hB8.ext (x4.trans x6)
  have ho46 := x6.own ho4
  refine lnx xa_45 (SliceIs.of_own ho6) (V_eqlI.2 (ifD_dec (fun hz => ?_) fun hz => ?_))
  · refine ldA (Blk.boxed hB46) la_27 rfl ?_
    have hv : ([.string i.name, p.fv, p.iv, p.mv, p.xv] : List Value).all oneC = true := by
      obtain ⟨a1, c1, e1⟩ := SliceIs.shape h.at_.fl
      obtain ⟨_, hx1, _⟩ := h.at_.im
      obtain ⟨a2, c2, e2⟩ := SliceIs.shape hx1
      obtain ⟨a3, c3, e3⟩ := SliceIs.shape hcs
      obtain ⟨a4, c4, e4⟩ := SliceIs.shape h.at_.ex
      rw [e1, e2, e3, e4]; rfl
    refine stA inf27 hB86 (l := [.string i.name, p.fv, p.iv, p.mv, p.xv]) rfl rfl rfl hv fun w7 hB7 hc7' => ?_
    refine ⟨_, r_var Tryz.underlying27 rfl inf27 hB7 rfl, ⟨_, rfl⟩, ?_⟩
    have x07 : Ext w w7 := hc7'.ext _ x06 (by omega)
    exact hk p i w7 (hst.ext x07) x07
  obtain ⟨gq, capq, rfl⟩ : ∃ gm cap, v6 = .slice (some ⟨gm, 0, none⟩) m.code.length cap := by
    rcases ho6.2 with ⟨_, e⟩ | ⟨gm, cap, cur, rfl, _⟩
    · omega
    · exact ⟨gm, cap, rfl⟩
  have hgq := ho6.lt gq rfl
  refine (V_quo (by decide)).2 ?_
  refine lnx xa_45 (SliceIs.of_own ho6) (pick10 (by omega) (by omega) fun k hk0 hk1 => ?_)
  obtain ⟨k, rfl⟩ : ∃ q2 : Nat, k = q2 := ⟨k.toNat, by omega⟩
  have hkl : k < m.code.length := by omega
  obtain ⟨x, hx⟩ := ex_get hkl
  have hxr := hmrg x (List.mem_of_getElem? hx)
  have hIA : InsAre w6 (.slice (some ⟨gq, 0, none⟩) m.code.length capq) m.code := SliceIs.of_own ho6
  refine ⟨BJ w4.heap.size w6, ?_, ?_⟩
  · refine pick10 (by decide) (by decide) fun z hz0 hz1 => ?_
    have same : BJ w4.heap.size w6 (.slice (some ⟨gq, 0, none⟩) m.code.length capq) w6 := ⟨m.code, ho6, hmrg, by omega, Fr.refl _ _⟩
    have whole : ∀ {op av : Int}, V Tryz.prog (Instr.indexAt 45 (.slice (some ⟨gq, 0, none⟩) m.code.length capq) (i64 k)) w6 fun t w1 => U Tryz.prog (Instr.storeAt 71 t (.agg #[i64 op, i64 av, i64 0])) w1 fun _ w2 => BJ w4.heap.size w6 (.slice (some ⟨gq, 0, none⟩) m.code.length capq) w2 := by
      intro op av
      refine V.ok (r_index Tryz.underlying45 inf71 (by omega) (by omega)) ?_
      rw [Int.toNat_natCast]
      refine stO3 inf71 ho6 hkl rfl rfl rfl fun w7 ho7 f7 => ?_
      refine ⟨m.code.set k ⟨op, av, 0⟩, ?_, rg_set hmrg (rg0 _ _), by rw [List.length_set]; omega, f7.mono fun i hi => by omega⟩
      rw [List.length_set, ← insC_setW hkl]; exact ho7
    refine V_eqlI.2 (ifD_dec (fun _ => ?_) fun _ => ?_)
    · refine pick10 (by decide) (by decide) fun y hy0 hy1 => V_add.2 ?_
      refine V.ok (r_index Tryz.underlying45 inf71 (by omega) (by omega)) (V.ok (FA.ex fa_71_0 _ _ _) ?_)
      rw [Int.toNat_natCast]
      refine stOF Tryz.underlying45 inf71 fa_71_0 inf3 ho6 hkl (by decide) rfl fun w7 _ ho7 f7 => ?_
      refine ⟨m.code.set k ⟨IntKind.i64.wrap (1 + y), x.a, x.b⟩, ?_, rg_set hmrg hxr, by rw [List.length_set]; omega, f7.mono fun i hi => by omega⟩
      rw [List.length_set, ← insC_setO hx]; exact ho7
    refine V_eqlI.2 (ifD_dec (fun _ => ?_) fun _ => ?_)
    · refine pick10 (by decide) (by decide) fun y hy0 hy1 => ?_
      refine V.ok (r_index Tryz.underlying45 inf71 (by omega) (by omega)) (V.ok (FA.ex fa_71_1 _ _ _) ?_)
      rw [Int.toNat_natCast]
      refine stOF Tryz.underlying45 inf71 fa_71_1 inf3 ho6 hkl (by decide) rfl fun w7 _ ho7 f7 => ?_
      refine ⟨m.code.set k ⟨x.op, y, x.b⟩, ?_, rg_set hmrg hxr, by rw [List.length_set]; omega, f7.mono fun i hi => by omega⟩
      rw [List.length_set, ← insC_setA hx]; exact ho7
    have D1 : Ext w6 w6.drew := (Ext.refl _).drew
    have hIAd := hIA.ext D1
    have sd : w4.heap.size ≤ w6.drew.heap.size := by have := D1.size; omega
    obtain ⟨u1, ur1, us1⟩ := ins_part hIAd (lo := none) (hi' := some (.int .i64 (k : Int))) (a := 0) (b := k) (.inl ⟨rfl, rfl⟩) (.inr rfl) (by omega) (by omega)
    obtain ⟨u2, ur2, us2⟩ := ins_part hIAd (lo := some (.int .i64 ((k + 1 : Nat) : Int))) (hi' := none) (a := k + 1) (b := m.code.length) (.inr rfl) (.inl ⟨rfl, rfl⟩) (by omega) (by omega)
    obtain ⟨u3, ur3, us3⟩ := ins_part hIAd (lo := some (.int .i64 (k : Int))) (hi' := none) (a := k) (b := m.code.length) (.inr rfl) (.inl ⟨rfl, rfl⟩) (by omega) (by omega)
    have rgp : ∀ {a b : Nat}, ∀ y ∈ (m.code.drop a).take b, y.rg := fun y hy => hmrg y (List.mem_of_mem_drop (List.mem_of_mem_take hy))
    have lnp : ∀ {a b : Nat}, ((m.code.drop a).take b).length ≤ m.code.length := by intro a b; simp; omega
    refine V_eqlI.2 (ifD_dec (fun _ => ?_) fun _ => ?_)
    · refine drawD.mk' (fun w' => Ext w6.drew w') (Ext.refl _) ?_
      refine yieldS.ok (fun w' _ => ur1 _) (yieldS.ok (fun w' _ => r_add) ?_)
      rw [wrap_id (by omega) (by omega), i64_succ]
      refine yieldS.ok (fun w' _ => ur2 _) ?_
      refine bs0I fun v7 w7 ho7 x7 => ⟨x7, ?_⟩
      have := lnp (a := 0) (b := k - 0)
      have := lnp (a := k + 1) (b := m.code.length - (k + 1))
      refine apI (l := []) ho7 (us1.ext x7) (by simp only [List.length_nil]; omega) x7.size fun v8 w8 ho8 hg8 => ?_
      have x8 : Ext w6.drew w8 := x7.grown hg8 fun k hk => (ho7.lt k hk).1
      refine ⟨x8, apI ho8 (us2.ext x8) (by simp only [List.nil_append]; omega) x8.size fun v9 w9 ho9 hg9 => ?_⟩
      have x9 : Ext w6.drew w9 := x8.grown hg9 fun k hk => (ho8.lt k hk).1
      refine ⟨x9, _, own_mono ho9 sd, fun y hy => ?_, by simp only [List.nil_append, List.length_append]; omega, Fr.of_ext (D1.trans x9)⟩
      rw [List.nil_append] at hy
      rcases List.mem_append.1 hy with hy | hy
      · exact rgp y hy
      · exact rgp y hy
    refine V_eqlI.2 (ifD_dec (fun _ => ?_) fun _ => ?_)
    · refine drawD.mk' (fun w' => Ext w6.drew w') (Ext.refl _) ?_
      refine yieldS.ok (fun w' _ => ur1 _) ?_
      refine yI hIAd (fun _ h => h) hx ?_
      refine yieldS.ok (fun w' _ => ur3 _) ?_
      have l1 := lnp (a := 0) (b := k - 0)
      have l3 := lnp (a := k) (b := m.code.length - k)
      have one : ∀ {K' : Value → World → Prop} {w' : World}, (∀ v w2, w2.ownsRow w'.heap.size 71 3 v 1 (insC [x]) → Ext w' w2 → K' v w2) → V Tryz.prog (Instr.buildSlice 45 1 #[(0, .agg #[i64 x.op, i64 x.a, i64 x.b])]) w' K' := fun hK => by
        refine bslG Tryz.underlying45 inf71 rfl (by decide) [.agg #[i64 x.op, i64 x.a, i64 x.b]] rfl rfl (by intro v hv; rw [List.mem_singleton] at hv; subst hv; rfl) (by decide) (by decide) fun v w2 h1 h2 => hK v w2 h1 h2
      have tail : ∀ {w' : World} {t74 t79 : Value}, Ext w6.drew w' → w'.ownsRow w6.drew.heap.size 71 3 t74 ([] ++ (m.code.drop 0).take (k - 0)).length (insC ([] ++ (m.code.drop 0).take (k - 0))) → InsAre w' t79 [x] → V Tryz.prog (Builtin.append_ #[45, 45] 45 #[t74, t79]) w' fun t80 w43 => Ext w6.drew w43 ∧ V Tryz.prog (Builtin.append_ #[45, 45] 45 #[t80, u3]) w43 fun t84 w44 => Ext w6.drew w44 ∧ BJ w4.heap.size w6 t84 w44 := by
        intro w' t74 t79 xw ho hs
        refine apI ho hs (by simp only [List.nil_append, List.length_cons, List.length_nil]; omega) xw.size fun v8 w8 ho8 hg8 => ?_
        have x8 : Ext w6.drew w8 := xw.grown hg8 fun k hk => (ho.lt k hk).1
        refine ⟨x8, apI ho8 (us3.ext x8) (by simp only [List.nil_append, List.length_append, List.length_cons, List.length_nil]; omega) x8.size fun v9 w9 ho9 hg9 => ?_⟩
        have x9 : Ext w6.drew w9 := x8.grown hg9 fun k hk => (ho8.lt k hk).1
        refine ⟨x9, _, own_mono ho9 sd, fun y hy => ?_, by simp only [List.nil_append, List.length_append, List.length_cons, List.length_nil]; omega, Fr.of_ext (D1.trans x9)⟩
        simp only [List.nil_append, List.mem_append, List.mem_cons, List.not_mem_nil, or_false] at hy
        rcases hy with (hy | rfl) | hy
        · exact rgp y hy
        · exact hxr
        · exact rgp y hy
      have tail0 : ∀ {w' : World} {t70 t79 : Value}, Ext w6.drew w' → w'.ownsRow w6.drew.heap.size 71 3 t70 0 (insC []) → w'.ownsRow w6.drew.heap.size 71 3 t79 1 (insC [x]) → (∀ k, t70.ownBlock = some k → t79.ownBlock ≠ some k) → V Tryz.prog (Builtin.append_ #[45, 45] 45 #[t70, u1]) w' fun t74 w41 => Ext w6.drew w41 ∧ V Tryz.prog (Builtin.append_ #[45, 45] 45 #[t74, t79]) w41 fun t80 w43 => Ext w6.drew w43 ∧ V Tryz.prog (Builtin.append_ #[45, 45] 45 #[t80, u3]) w43 fun t84 w44 => Ext w6.drew w44 ∧ BJ w4.heap.size w6 t84 w44 := by
        intro w' t70 t79 xw ho ho79 hne
        refine apI (l := []) ho (us1.ext xw) (by simp only [List.length_nil]; omega) xw.size fun v8 w8 ho8 hg8 => ?_
        have x8 : Ext w6.drew w8 := xw.grown hg8 fun k hk => (ho.lt k hk).1
        exact ⟨x8, tail x8 ho8 (SliceIs.of_own ((Fr.of_grown (S := fun k => t70.ownBlock = some k) hg8 fun k hk => hk).own ho79 fun k hk hk' => hne k hk' hk))⟩
      refine ⟨?_, ?_⟩
      · refine bs0I fun v7 w7 ho7 x7 => ⟨x7, ?_, ?_⟩
        · refine apI (l := []) ho7 (us1.ext x7) (by simp only [List.length_nil]; omega) x7.size fun v8 w8 ho8 hg8 => ?_
          have x8 : Ext w6.drew w8 := x7.grown hg8 fun k hk => (ho7.lt k hk).1
          refine ⟨x8, ?_⟩
          refine one fun v9 w9 ho9 x9 => ⟨x8.trans x9, ?_⟩
          exact tail (x8.trans x9) (x9.own ho8) (SliceIs.of_own ho9)
        · refine one fun v9 w9 ho9 x9 => ⟨x7.trans x9, ?_⟩
          exact tail0 (x7.trans x9) (x9.own ho7) (own_mono ho9 x7.size) fun k hk hk' => by
            have := (ho7.lt k hk).2; have := (ho9.lt k hk').1; omega
      · refine one fun v9 w9 ho9 x9 => ⟨x9, ?_⟩
        refine bs0I fun v7 w7 ho7 x7 => ⟨x9.trans x7, ?_⟩
        exact tail0 (x9.trans x7) (own_mono ho7 x9.size) (x7.own ho9) fun k hk hk' => by
          have := (ho7.lt k hk).1; have := (ho9.lt k hk').2; omega
    refine V_eqlI.2 (ifD_dec (fun _ => ?_) fun _ => ?_)
    · refine bld bd_71 [(0, i64 35), (1, i64 2)] rfl rfl ?_
      exact whole
    refine V_eqlI.2 (ifD_dec (fun _ => ?_) fun _ => ?_)
    · refine lnx xa_45 hIA (pick10 (by omega) (by omega) fun y hy0 hy1 => ?_)
      refine bld bd_71 [(0, i64 23), (1, i64 y)] rfl rfl ?_
      exact whole
    refine V_eqlI.2 (ifD_dec (fun _ => ?_) fun _ => ?_)
    · refine bld bd_71 [(0, i64 4)] rfl rfl ?_
      exact whole
    refine V_eqlI.2 (ifD_dec (fun _ => ?_) fun _ => ?_)
    · refine slO Tryz.underlying45 inf71 (by decide) ho6 (by omega) (by omega) fun ho7 => ?_
      refine ⟨m.code.take k, ?_, fun y hy => hmrg y (List.mem_of_mem_take hy), by simp; omega, Fr.refl _ _⟩
      rw [insC_take] at ho7
      rw [show (m.code.take k).length = k by simp; omega]; exact ho7
    refine V_eqlI.2 (ifD_dec (fun _ => ?_) fun _ => same)
    refine pick10 (by decide) (by decide) fun y hy0 hy1 => ?_
    refine bld bd_71 [(0, i64 33), (1, i64 y)] rfl rfl ?_
    exact whole
  rintro v7 w7 ⟨code', hoJ, hrgJ, hlenJ, fJ⟩ _
  have ho4J := fJ.own ho46 fun k hk hS => by cases hk; have hS : w4.heap.size ≤ gm := hS; omega
  have hB4J := fJ.blk hB46 (by omega)
  have hB8J := fJ.blk hB86 (by omega)
  have x07 : Ext w w7 := fJ.ext x06 fun k hS => by omega
  refine V.ok (r_index Tryz.underlying25 inf47 (by omega) (by omega)) (V.ok (FA.ex fa_47_3 _ _ _) ?_)
  rw [Int.toNat_natCast]
  refine stOF Tryz.underlying25 inf47 fa_47_3 inf45 ho4J hq3 (by decide) (own_one hoJ) fun w8 _ ho8 f8 => ?_
  have hB48 := f8.blk hB4J (by omega)
  have hB88 := f8.blk hB8J (by omega)
  have hoJ8 := f8.own hoJ fun k hk hS => by have := (hoJ.lt k hk).1; omega
  have x08 : Ext w w8 := f8.ext x07 fun k hS => by omega
  refine stF fa_27_3 inf25 hB48 (n := 5) rfl (by decide) rfl ?_
  have f9 : Fr (fun k => k = g4) w8 (w8.setCell ⟨g4, 3, none⟩ (.slice (some ⟨gm, 0, none⟩) 3 capm)) := Fr.of_set rfl
  have hB49 := hB48.set 3 (.slice (some ⟨gm, 0, none⟩) 3 capm)
  generalize w8.setCell ⟨g4, 3, none⟩ (.slice (some ⟨gm, 0, none⟩) 3 capm) = w9 at f9 hB49
  have hB49 : Blk w9 g4 [.string i.name, p.fv, p.iv, .slice (some ⟨gm, 0, none⟩) 3 capm, p.xv] 27 := hB49
  have hB89 := f9.blk hB88 (by omega)
  have hoJ9 := f9.own hoJ8 fun k hk hS => by have := (hoJ8.lt k hk).1; omega
  have ho9 := f9.own ho8 fun k hk hS => by cases hk; have hS : gm = g4 := hS; omega
  have x09 : Ext w w9 := f9.ext x08 fun k hS => by omega
  refine ldA (Blk.boxed hB49) la_27 rfl ?_
  have hv : ([.string i.name, p.fv, p.iv, .slice (some ⟨gm, 0, none⟩) 3 capm, p.xv] : List Value).all oneC = true := by
    obtain ⟨a1, c1, e1⟩ := SliceIs.shape h.at_.fl
    obtain ⟨_, hx1, _⟩ := h.at_.im
    obtain ⟨a2, c2, e2⟩ := SliceIs.shape hx1
    obtain ⟨a4, c4, e4⟩ := SliceIs.shape h.at_.ex
    rw [e1, e2, e4]; rfl
  refine stA inf27 hB89 (l := [.string i.name, p.fv, p.iv, .slice (some ⟨gm, 0, none⟩) 3 capm, p.xv]) rfl rfl rfl hv fun wE hBE hcE => ?_
  refine ⟨_, r_var Tryz.underlying27 rfl inf27 hBE rfl, ⟨_, rfl⟩, ?_⟩
  have xE : Ext w wE := hcE.ext _ x09 (by omega)
  have hoE := (chg_fr hcE).own ho9 fun k hk hS => by cases hk; have hS : gm = g8 := hS; omega
  have hoJE := (chg_fr hcE).own hoJ9 fun k hk hS => by have := (hoJ9.lt k hk).1; omega
  have hmeq : i.meth q = m := by
    have := meth_get (i := i) (a := (q : Int)) (by omega) (by omega)
    rw [Int.toNat_natCast, hm] at this
    cases this; rfl
  have hwE := xE.size
  have key : ∀ w'', Fr (fun k => k < B) wE w'' → SliceIs w'' (.slice (some ⟨gm, 0, none⟩) 3 capm) 4 (i.withCode q code').methods.length (cs.set (q * 4 + 3) v7) ∧ ∀ (k : Nat) (x : Mth), (i.withCode q code').methods[k]? = some x → MthIs w'' (((cs.set (q * 4 + 3) v7).drop (k * 4)).take 4) x := by
    intro w'' f''
    have fw : Fr (fun k => k < B) w w'' := (Fr.of_ext xE).trans f'' fun _ _ h => h
    obtain ⟨_, hrows''⟩ := hcsA w'' fw
    have hoE' := f''.own hoE fun k hk hS => by cases hk; have hS : gm < B := hS; omega
    have hoJE' := f''.own hoJE fun k hk hS => by have := (hoJE.lt k hk).1; have hS : k < B := hS; omega
    refine ⟨by rw [show (i.withCode q code').methods.length = 3 by simp [Img.withCode, ml]]; exact SliceIs.of_own hoE', fun k y hy => ?_⟩
    have hy : (i.methods.set q { i.meth q with code := code' })[k]? = some y := hy
    have hk3 : k < i.methods.length := by
      have := (List.getElem?_eq_some_iff.1 hy).1
      simpa using this
    have hTk := hrows'' k _ (List.getElem?_eq_getElem hk3)
    rw [row_set rfl (mth_len _ _ _ hTk) (by decide)]
    rw [List.getElem?_set] at hy
    by_cases hkq : q = k
    · subst hkq
      rw [if_pos rfl, if_pos hk3] at hy
      cases hy
      rw [if_pos rfl]
      have hTq := hrows'' q m hm
      rw [hrow] at hTq ⊢
      obtain ⟨pv', lv', cv', e1, hp', hl', _⟩ := hTq
      simp only [List.cons.injEq, and_true, true_and] at e1
      obtain ⟨rfl, rfl, rfl⟩ := e1
      rw [hmeq]
      exact ⟨pv, lv, v7, rfl, hp', hl', SliceIs.of_own hoJE'⟩
    · rw [if_neg hkq] at hy
      rw [if_neg (fun e => hkq e.symm)]
      rw [List.getElem?_eq_getElem hk3] at hy
      cases hy
      exact hTk
  refine hk ⟨p.fv, p.iv, .slice (some ⟨gm, 0, none⟩) 3 capm, p.xv⟩ (i.withCode q code') wE ⟨fun w'' f'' hT'' => ?_, _, key⟩ xE
  have hA := hst.ap w'' ((Fr.of_ext xE).trans f'' fun _ _ h => h) hT''
  refine ⟨⟨hA.at_.fl, hA.at_.im, ⟨_, (key w'' f'').1, fun k x hx => ⟨_, rfl, (key w'' f'').2 k x hx⟩⟩, hA.at_.ex⟩, hA.nm, fun m' hm' y hy => ?_, by simp [Img.withCode, ml], fun m' hm' => ?_⟩
  · have hm' : m' ∈ i.methods.set q { i.meth q with code := code' } := hm'
    rcases List.mem_or_eq_of_mem_set hm' with hm' | rfl
    · exact h.rg m' hm' y hy
    · exact hrgJ y hy
  · have hm' : m' ∈ i.methods.set q { i.meth q with code := code' } := hm'
    rcases List.mem_or_eq_of_mem_set hm' with hm' | rfl
    · exact h.cl m' hm'
    · exact hlenJ
end Go.Proofs.YtcdbikfnlggbnaaGreatDoor
namespace Go.Proofs.YtcdbikfnlggbnaaGreatDoor
open Go.Vc Go.Tc
variable {w : World} {K : Value → World → Prop}
def ImgV.cells (p : ImgV) (i : Img) : List Value := [.string i.name, p.fv, p.iv, p.mv, p.xv]
theorem Apl.one {p : ImgV} {i : Img} (h : Apl w p i) : (p.cells i).all oneC = true := by
  obtain ⟨a1, c1, e1⟩ := SliceIs.shape h.at_.fl
  obtain ⟨_, hx1, _⟩ := h.at_.im
  obtain ⟨a2, c2, e2⟩ := SliceIs.shape hx1
  obtain ⟨_, hx3, _⟩ := h.at_.mt
  obtain ⟨a3, c3, e3⟩ := SliceIs.shape hx3
  obtain ⟨a4, c4, e4⟩ := SliceIs.shape h.at_.ex
  unfold ImgV.cells
  rw [e1, e2, e3, e4]; rfl
/-- An applet, of steps. -/
theorem apl9 {n : Int} {rv : Value} {rl : List Rw} (hr : RwsAre w rv rl) (hb : BinsOk w) (hT : Tabs w) (rn : rl.length ≤ 5000000000000)
    (hk : ∀ p i w', Stay w.heap.size w' p i → (∀ m ∈ i.methods, m.code.length ≤ 700000) → Ext w w' → K (p.val i) w') : callD Tryz.prog 9 #[i64 n, rv] w K :=
  applet9 hr hb hT rn fun p i w' _ _ h3 h4 h5 h7 h8 h6 => hk p i w' ⟨fun w'' f hT'' => ⟨(h7 w'' f hT'').1, (h7 w'' f hT'').2, h3, h4, fun m hm => Nat.le_trans (h5 m hm) (by decide)⟩, h8⟩ h5 h6
def imgC (l : List (ImgV × Img)) : List Value := l.flatMap fun x => x.1.cells x.2
def AplsIs (w : World) (row : List Value) (x : ImgV × Img) : Prop := row = x.1.cells x.2 ∧ Apl w x.1 x.2 ∧ Taken x.2
/-- The applets that were made. -/
def AplsAre (w : World) (v : Value) (l : List (ImgV × Img)) : Prop := StrsAre AplsIs 5 w v l
theorem imgC_row : ∀ {l : List (ImgV × Img)} {k : Nat} {x : ImgV × Img}, l[k]? = some x → ((imgC l).drop (k * 5)).take 5 = x.1.cells x.2
  | [], _, _, h => by simp at h
  | y :: l, 0, x, h => by simp at h; subst h; simp [imgC, ImgV.cells]
  | y :: l, k + 1, x, h => by
    have := imgC_row (l := l) (k := k) (by simpa using h)
    simp only [imgC, List.flatMap_cons] at this ⊢
    rw [show (k + 1) * 5 = 5 + k * 5 by omega, ← List.drop_drop, List.drop_left' (by rfl)]
    exact this
theorem aplLen (w : World) (row : List Value) (x : ImgV × Img) (h : AplsIs w row x) : row.length = 5 := by rw [h.1]; rfl
/-- Lists of steps. -/
def RwssAre (w : World) (v : Value) (ll : List (List Rw)) : Prop := ∃ vs : List Value, SliceIs w v 1 ll.length vs ∧ ∀ (k : Nat) (l : List Rw), ll[k]? = some l → ∃ u, vs[k]? = some u ∧ RwsAre w u l ∧ l.length ≤ 5000000000000
theorem RwssAre.ext {w' : World} {v : Value} {ll : List (List Rw)} (h : RwssAre w v ll) (hx : Ext w w') : RwssAre w' v ll := by
  obtain ⟨vs, h1, h2⟩ := h
  refine ⟨vs, h1.ext hx, fun k l hk => ?_⟩
  obtain ⟨u, h3, h4, h5⟩ := h2 k l hk
  exact ⟨u, h3, h4.ext hx, h5⟩
set_option maxHeartbeats 4000000 in
theorem applets19 {v : Value} {ll : List (List Rw)} (h : RwssAre w v ll) (hb : BinsOk w) (hT : Tabs w) (hk : ∀ v' l w', AplsAre w' v' l → l.length ≤ 3 → (∀ x ∈ l, ∀ w'', Fr (fun k => k < w.heap.size) w' w'' → Tabs w'' → Apl w'' x.1 x.2) → Ext w w' → K v' w') : callD Tryz.prog 19 #[v] w K := by
  apply F19_wp
  unfold F19_den
  refine ⟨fun t v w' => ∃ (j : Nat) (l : List (ImgV × Img)), v = i64 j ∧ j ≤ ll.length ∧ j ≤ 3 ∧ l.length ≤ j ∧ Ext w w' ∧ w'.ownsRow w.heap.size 27 5 t l.length (imgC l) ∧ ∀ x ∈ l, (∀ w'', Fr (fun k => t.ownBlock = some k ∨ k < w.heap.size) w' w'' → Tabs w'' → Apl w'' x.1 x.2) ∧ Taken x.2, fun _ v _ => 3 - (RowKit.intOf v).toNat, ⟨0, [], rfl, Nat.zero_le _, Nat.zero_le _, Nat.le_refl _, Ext.refl _, World.ownsRow_nil _ _ _ _, fun _ h => by simp at h⟩, ?_⟩
  rintro tv _ w1 ⟨j, l, rfl, hj, hj3, hlj, x1, ho, hl⟩ _
  obtain ⟨vs, hvs, hvl⟩ := h.ext x1
  have hb1 : ∀ {w'}, Ext w w' → BinsOk w' := fun hx q hq => by
    obtain ⟨z, hz⟩ := hb q hq
    exact ⟨z, hx.cell hz⟩
  refine lnx xa_64 hvs (V_lss.2 ?_)
  by_cases c0 : (j : Int) < (ll.length : Int) ∧ (j : Int) < 3
  case neg =>
    have fin : K tv w1 := hk tv l w1 ⟨imgC l, SliceIs.of_own ho, fun k x hx => ⟨_, imgC_row hx, rfl, (hl x (List.mem_of_getElem? hx)).1 _ (Fr.refl _ _) (hT.ext x1), (hl x (List.mem_of_getElem? hx)).2⟩⟩ (by omega) (fun x hx w'' f hT'' => (hl x hx).1 w'' (f.mono fun k hk => .inr hk) hT'') x1
    by_cases c1 : (j : Int) < (ll.length : Int)
    · have c2 : ¬ (j : Int) < 3 := fun hc => c0 ⟨c1, hc⟩
      simp only [c1, c2, evL, reduceIte, decide_true, decide_false]
      exact fin
    · simp only [c1, evL, reduceIte, Bool.false_eq_true, decide_false]
      exact fin
  obtain ⟨c1, c2⟩ := c0
  simp only [c1, c2, evL, reduceIte, decide_true]
  obtain ⟨rl, hrl⟩ := ex_get (l := ll) (j := j) (by omega)
  obtain ⟨ru, hru, hrr, hrn⟩ := hvl j rl hrl
  refine ldx xa_64 l1_22 hvs (by omega) (by omega) (by simpa using hru) ?_
  refine apl9 hrr (hb1 x1) (hT.ext x1) hrn fun p2 i2 w2 ha2 hc2 x2 => ?_
  have hone := (ha2.now (hT.ext (x1.trans x2))).one
  refine asK sa_27 rfl hone fun w3 hB3 x3 => ?_
  have hB3 : Blk w3 w2.heap.size (p2.cells i2) 27 := hB3
  have s2 := x2.size
  have x13 := x2.trans x3
  have hg : w1.heap.size ≤ w2.heap.size := s2
  have ha3 := ha2.ext x3
  generalize w2.heap.size = g at *
  clear ha2 x2 x3 s2 hone hc2
  have hT1 : ∀ {w'}, Ext w1 w' → Tabs w' := fun hx => hT.ext (x1.trans hx)
  -- once more, if it is not taken
  refine ⟨fun w' => ∃ p i, Blk w' g (ImgV.cells p i) 27 ∧ Stay w1.heap.size w' p i ∧ Ext w1 w', ?_, ?_⟩
  · refine ldA (Blk.boxed hB3) la_27 rfl ?_
    have hA3 := ha3.now (hT1 x13)
    refine verify11 (p := p2) (i := i2) hA3.at_ hA3.nm fun a b e w4 _ x4 => ?_
    refine V_ext0.2 (V_ext1.2 ?_)
    refine asB sa_32 rfl rfl fun b5 w5 _ x5 => ?_
    have x45 := x4.trans x5
    have hB5 := hB3.ext x45
    have ha5 := ha3.ext x45
    have x15 := x13.trans x45
    refine V_neqI.2 (ifD_dec (fun hne => ?_) fun heq => ⟨p2, i2, hB5, ha5, x15⟩)
    have D1 : Ext w5 w5.drew := (Ext.refl _).drew
    have x1d := x15.trans D1
    have hrrd := hrr.ext x1d
    obtain ⟨u6, r6, hs6⟩ := RwsAre.part Tryz.underlying22 inf120 hrrd (lo := none) (hi' := some (.int .i64 ((rl.length / 2 : Nat) : Int))) (a := 0) (b := rl.length / 2) (.inl ⟨rfl, rfl⟩) (.inr rfl) (by omega) (by omega)
    refine drawD.mk' (fun w' => Ext w5.drew w') (Ext.refl _) ?_
    refine ySl xa_64 l1_22 (hvs.ext x1d) (fun _ h => h) (by omega) (by omega) (by simpa using hru) ?_
    refine ySl xa_64 l1_22 (hvs.ext x1d) (fun _ h => h) (by omega) (by omega) (by simpa using hru) ?_
    refine yLenR xa_22 hrrd ?_
    refine yieldS.ok (fun w' _ => r_quo (by decide)) ?_
    have e2 : IntKind.i64.wrap (((rl.length : Nat) : Int).tdiv 2) = ((rl.length / 2 : Nat) : Int) := by
      rw [Int.tdiv_eq_ediv_of_nonneg (by omega), wrap_id (by omega) (by omega)]; rfl
    rw [e2]
    refine yieldS.ok (fun w' _ => r6 _) ?_
    refine apl9 hs6 (hb1 (x1.trans x1d)) (hT.ext (x1.trans x1d)) (by simp; omega) fun p7 i7 w7 ha7 _ x7 => ⟨x7, ?_⟩
    have x17 := x1d.trans x7
    have hgd : g < w5.drew.heap.size := (hB5.ext D1).lt
    have s1d := x1d.size
    refine stA inf27 (hB5.ext (D1.trans x7)) (l := p7.cells i7) rfl rfl rfl (ha7.now (hT1 x17)).one fun w8 hB8 hc8 => ?_
    have x18 : Ext w1 w8 := hc8.ext _ x17 hg
    have ha8 : Stay w1.heap.size w8 p7 i7 := ha7.chg (chg_fr hc8) hgd s1d
    refine ldA (Blk.boxed hB8) la_27 rfl ?_
    have hA8 := ha8.now (hT1 x18)
    refine verify11 (p := p7) (i := i7) hA8.at_ hA8.nm fun a b e w9 _ x9 => ?_
    refine V_ext0.2 (V_ext1.2 ?_)
    refine asB sa_32 rfl rfl fun b10 w10 _ x10 => ?_
    have x910 := x9.trans x10
    refine V_neqI.2 (ifD_dec (fun hne2 => ?_) fun heq => ⟨p7, i7, hB8.ext x910, ha8.ext x910, x18.trans x910⟩)
    have x1A := x18.trans x910
    refine apl9 (rl := []) ⟨⟨none, 0, rfl⟩, fun h => by simp at h⟩ (hb1 (x1.trans x1A)) (hT.ext (x1.trans x1A)) (by simp) fun p11 i11 w11 ha11 _ x11 => ?_
    have hgA : g < w10.heap.size := (hB8.ext x910).lt
    have s1A := x1A.size
    refine stA inf27 (hB8.ext (x910.trans x11)) (l := p11.cells i11) rfl rfl rfl (ha11.now (hT1 (x1A.trans x11))).one fun w12 hB12 hc12 => ?_
    exact ⟨p11, i11, hB12, ha11.chg (chg_fr hc12) hgA s1A, hc12.ext _ (x1A.trans x11) hg⟩
  rintro w4 ⟨p, i, hB, ha, x14⟩ _
  refine ldA (Blk.boxed hB) la_27 rfl ?_
  have hA := ha.now (hT1 x14)
  refine verify11 (p := p) (i := i) hA.at_ hA.nm fun a b e w5 he x5 => ?_
  refine V_ext0.2 (V_ext1.2 ?_)
  refine asB sa_32 rfl rfl fun b6 w6 _ x6 => ?_
  have x46 := x5.trans x6
  have x16 := x14.trans x46
  refine V_eqlI.2 (ifD_dec (fun hz => ?_) fun hz => ?_)
  · have ht := he.1 hz
    refine ldA (Blk.boxed (hB.ext x46)) la_27 rfl ?_
    refine bslG Tryz.underlying62 inf27 rfl (by decide) [.agg (p.cells i).toArray] rfl rfl (by intro v hv; rw [List.mem_singleton] at hv; subst hv; rfl) (by decide) (by decide) fun v7 w7 ho7 x7 => ?_
    have s7 := (x1.trans (x16.trans x7)).size
    have hone7 : ([Value.agg (p.cells i).toArray].flatMap fun v => v.cells.toList).all oneC = true := by simpa [Value.cells] using hA.one
    refine apG Tryz.underlying62 inf27 rfl (by decide) ((x16.trans x7).own ho) (SliceIs.of_own ho7) hone7 (by omega) (by unfold maxLen; omega) s7 fun v8 w8 ho8 hg8 hl8 => ?_
    have x18 : Ext w w8 := (x1.trans (x16.trans x7)).grown hg8 fun k hk => (ho.lt k hk).1
    refine V_add.2 ?_
    rw [wrap_id (by omega) (by omega), i64_succ]
    refine ⟨⟨j + 1, l ++ [(p, i)], rfl, by omega, by omega, by simp; omega, x18, ?_, fun x hx => ?_⟩, by simp only [intOf_i64]; omega⟩
    · have e1 : imgC (l ++ [(p, i)]) = imgC l ++ ([Value.agg (p.cells i).toArray].flatMap fun v => v.cells.toList) := by simp [imgC, Value.cells]
      rw [e1, List.length_append]
      exact ho8
    · have f8 : Fr (fun k => tv.ownBlock = some k) w7 w8 := Fr.of_grown hg8 fun k hk => hk
      have x17 := x16.trans x7
      have s17 := x17.size
      have f78 : ∀ {w''}, Fr (fun k => v8.ownBlock = some k ∨ k < w.heap.size) w8 w'' → Fr (fun k => tv.ownBlock = some k ∨ k < w.heap.size) w7 w'' := fun f => (f8.mono fun k hk => .inl hk).trans f fun k hk hk' => by
        rcases hk' with hk' | hk'
        · rcases hl8 with h8 | h8
          · rw [h8] at hk'; exact .inl hk'
          · rw [h8] at hk'; cases hk'; omega
        · exact .inr hk'
      rcases List.mem_append.1 hx with hx | hx
      · exact ⟨fun w'' f hT'' => (hl x hx).1 w'' ((Fr.of_ext x17).trans (f78 f) fun _ _ h => h) hT'', (hl x hx).2⟩
      · rw [List.mem_singleton] at hx
        subst hx
        refine ⟨fun w'' f hT'' => ha.ap w'' ((Fr.of_ext (x46.trans x7)).trans ((f78 f).mono fun k hk => ?_) fun _ _ h => h) hT'', ht⟩
        have := x1.size
        rcases hk with hk | hk
        · exact (ho.lt k hk).2
        · omega
  · refine V_add.2 ?_
    rw [wrap_id (by omega) (by omega), i64_succ]
    exact ⟨⟨j + 1, l, rfl, by omega, by omega, by omega, x1.trans x16, x16.own ho, fun x hx => ⟨fun w'' f hT'' => (hl x hx).1 w'' ((Fr.of_ext x16).trans f fun _ _ h => h) hT'', (hl x hx).2⟩⟩, by simp only [intOf_i64]; omega⟩
end Go.Proofs.YtcdbikfnlggbnaaGreatDoor
namespace Go.Proofs.YtcdbikfnlggbnaaGreatDoor
open Go.Vc Go.Tc
variable {w : World} {K : Value → World → Prop}
theorem BinsOk.ext {w' : World} (hb : BinsOk w) (hx : Ext w w') : BinsOk w' := fun q hq => by
  obtain ⟨z, hz⟩ := hb q hq
  exact ⟨z, hx.cell hz⟩
theorem RwsAre.one {v : Value} {l : List Rw} (h : RwsAre w v l) : oneC v = true := by
  obtain ⟨⟨a, c, rfl⟩, _⟩ := h
  rfl
set_option maxHeartbeats 4000000 in
theorem applet14 {n a b e : Int} {rv : Value} {rl : List Rw} (hr : RwsAre w rv rl) (hb : BinsOk w) (hT : Tabs w) (rn : rl.length ≤ 5000000000000)
    (hk : ∀ p i ok w', Apl w' p i → (ok = true → Taken i) → Ext w w' → K (.tuple #[p.val i, .bool ok]) w') : callD Tryz.prog 14 #[i64 n, rv, i64 a, i64 b, i64 e] w K := by
  apply F14_wp
  unfold F14_den
  refine alK inf27 fun w1 hB10 x1 => ?_
  have hlt := hB10.lt
  have hB10 : Blk w1 w.heap.size (List.replicate 5 nilS |>.set 0 (.string ByteArray.empty)) 27 := hB10
  refine apl9 (hr.ext x1) (hb.ext x1) (hT.ext x1) rn fun p i w2 hst hc7 x2 => ?_
  have x02 := x1.trans x2
  refine pick10 (by decide) (by decide) fun _ _ _ => pick10 (by decide) (by decide) fun _ _ _ => ?_
  refine bent8 hst (hT.ext x02) x2.size hc7 fun p3 i3 w3 hst3 x3 => ?_
  have x03 := x02.trans x3
  have hA3 := hst3.now (hT.ext x03)
  refine asB sa_27 rfl hA3.one fun b4 w4 hb4 x4 => ?_
  have hb4 : Boxed w4 b4 (p3.cells i3) := hb4
  have x04 := x03.trans x4
  have hA4 := hA3.ext x4
  refine ldA hb4 la_27 rfl ?_
  refine verify11 (p := p3) (i := i3) hA4.at_ hA4.nm fun a b e w5 he x5 => ?_
  refine V_ext0.2 (V_ext1.2 ?_)
  refine asB sa_32 rfl rfl fun b6 w6 _ x6 => ?_
  have x46 := x5.trans x6
  have x06 := x04.trans x46
  have hb6 := hb4.ext x46
  have hst6 := (hst3.ext x4).ext x46
  have s13 := x2.size
  -- the end
  have fin : ∀ {w' : World} {p' : ImgV} {i' : Img} {ok : Bool}, Apl w' p' i' → (∀ w'', Fr (fun k => k = w.heap.size) w' w'' → Tabs w'' → Apl w'' p' i') → (ok = true → Taken i') → Ext w w' → Blk w' w.heap.size (List.replicate 5 nilS |>.set 0 (.string ByteArray.empty)) 27 → U Tryz.prog (Instr.storeAt 27 (.pointer (some ⟨w.heap.size, 0, none⟩)) (.agg (p'.cells i').toArray)) w' fun _ w7 =>
      ∃ r1, (loadVar 27 (match (Value.pointer (some ⟨w.heap.size, 0, none⟩)) with | .pointer (some p) => p | _ => ⟨0, 0, none⟩)).run Tryz.prog w7 = .ok r1 w7 ∧ (∃ p, (Value.pointer (some ⟨w.heap.size, 0, none⟩)) = Value.pointer (some p)) ∧ K (.tuple #[r1, .bool ok]) w7 := by
    intro w' p' i' ok hA hS hok hx hB
    refine stA inf27 hB (l := p'.cells i') rfl rfl rfl hA.one fun w7 hB7 hc => ?_
    have x7 : Ext w w7 := hc.ext _ hx (Nat.le_refl _)
    exact ⟨_, r_var Tryz.underlying27 rfl inf27 hB7 rfl, ⟨_, rfl⟩, hk p' i' ok w7 (hS w7 (chg_fr hc) (hT.ext x7)) hok x7⟩
  have hB6 := hB10.ext (((x2.trans x3).trans x4).trans x46)
  have stays : ∀ {w'}, Ext w6 w' → ∀ w'', Fr (fun k => k = w.heap.size) w' w'' → Tabs w'' → Apl w'' p3 i3 := fun hx w'' f hT'' => (hst6.ext hx).ap w'' (f.mono fun k hk => by omega) hT''
  refine V_neqI.2 (ifD_dec (fun hne => ?_) fun heq => ?_)
  · refine bsl xe_64 [rv] rfl rfl (by simp) (by simp [hr.one]) fun v7 w7 ho7 x7 => ?_
    have x07 := x06.trans x7
    refine applets19 (ll := [rl]) ⟨[rv], SliceIs.of_own ho7, fun k l hkl => ?_⟩ (hb.ext x07) (hT.ext x07) fun v8 l8 w8 hl8 _ hs8 x8 => ?_
    · match k, hkl with
      | 0, hkl => cases hkl; exact ⟨rv, rfl, hr.ext x07, rn⟩
      | k + 1, hkl => simp at hkl
    have x68 := x7.trans x8
    have x08 := x07.trans x8
    refine lnS xa_62 hl8 (V_eqlI.2 (ifD_dec (fun hz => ?_) fun hz => ?_))
    · refine ldA (hb6.ext x68) la_27 rfl ?_
      exact fin ((hst6.ext x68).now (hT.ext x08)) (stays x68) (fun h => by cases h) x08 (hB6.ext x68)
    · obtain ⟨y, hy⟩ := ex_get (l := l8) (j := 0) (by omega)
      have hym := List.mem_of_getElem? hy
      have hs7 := x7.size
      have s06 := x06.size
      have hlt6 := hB6.lt
      refine ldS (i := 0) xa_62 la_27 hl8 hy aplLen fun row hrow => ?_
      obtain ⟨hrow, hAy, hty⟩ := hrow
      subst hrow
      exact fin hAy (fun w'' f hT'' => hs8 y hym w'' (f.mono fun k hk => by omega) hT'') (fun _ => hty) x08 (hB6.ext x68)
  · refine ldA hb6 la_27 rfl ?_
    exact fin (hst6.now (hT.ext x06)) (stays (Ext.refl _)) (fun _ => he.1 (by omega)) x06 hB6
end Go.Proofs.YtcdbikfnlggbnaaGreatDoor
namespace Go.Proofs.YtcdbikfnlggbnaaGreatDoor
open Go.Vc Go.Tc
variable {w : World} {K : Value → World → Prop}
/-- How many a service takes, and whether it gives. -/
def srvP (op : Int) : Int × Bool := if op = 27 ∨ op = 28 then (1, true) else if op = 17 ∨ op = 18 ∨ op = 29 then (2, true) else if op = 30 ∨ op = 36 then (3, false) else if op = 31 then (5, false) else if op = 32 then (5, true) else (0, false)
/-- The registers of the last n. -/
def rowP (h n : Nat) : List Int := (List.range n).map fun k => 10 + ((h - n + k : Nat) : Int)
def resP (r : Int) (k : Int) : Int := if r = 0 then -1 else 10 + k
/-- The node of an instruction, over a stack of h. -/
def liftN (i : Img) (m : Mth) (x : Ins) (h : Nat) : Option GNode :=
  if x.op = 1 then some (.const (10 + (h : Int)) (IntKind.i32.wrap x.a)) else if x.op = 2 then some (.move (10 + (h : Int)) x.a) else if x.op = 3 then some (.move x.a (10 + ((h : Int) - 1))) else if x.op = 4 then none
  else if x.op = 5 then some (.move (10 + (h : Int)) (10 + ((h : Int) - 1))) else if x.op = 15 ∨ x.op = 16 ∨ x.op = 26 then some (.un x.op (10 + ((h : Int) - 1)) (10 + ((h : Int) - 1)))
  else if x.op = 22 then some (.choose (10 + ((h : Int) - 3)) (10 + ((h : Int) - 3)) (10 + ((h : Int) - 2)) (10 + ((h : Int) - 1))) else if x.op = 23 then some (.goto x.a) else if x.op = 24 then some (.branch (10 + ((h : Int) - 1)) x.a)
  else if x.op = 25 then some (.const (10 + (h : Int)) 0) else if x.op = 35 then some (.const (10 + (h : Int)) (IntKind.i32.wrap x.a)) else if x.op = 33 then some (.getField (10 + (h : Int)) x.a) else if x.op = 34 then some (.putField x.a (10 + ((h : Int) - 1)))
  else if x.op = 37 then some (.call x.a (resP (i.meth x.a).result ((h : Int) - (i.meth x.a).params.length)) (rowP h (i.meth x.a).params.length))
  else if x.op = 38 then some (.callX x.a (resP (i.imp x.a).result ((h : Int) - (i.imp x.a).params.length)) (rowP h (i.imp x.a).params.length))
  else if x.op = 39 then some (.ret (resP m.result ((h : Int) - 1)))
  else if (srvP x.op).1 ≠ 0 then some (.serve x.op x.a x.b (if (srvP x.op).2 then 10 + ((h : Int) - (srvP x.op).1) else -1) (rowP h (srvP x.op).1.toNat))
  else some (.bin x.op (10 + ((h : Int) - 2)) (10 + ((h : Int) - 2)) (10 + ((h : Int) - 1)))
/-- A node whose arguments lie in a row that was made behind B. -/
def NodeOwn (B : Nat) (w : World) (v : Value) (n : GNode) : Prop := ∃ sv, v = n.val sv ∧ w.ownsRow B 3 1 sv n.args.length (n.args.map i64)
/-- A node, or none. -/
def LN (B : Nat) (w : World) (v : Value) : Option GNode → Prop
  | none => v = Value.nilIface
  | some n => NodeOwn B w v n
theorem s61 {k : Int} (h : -1000 ≤ k ∧ k ≤ 1000) (hk : K (i64 (10 + k)) w) : callD Tryz.prog 61 #[i64 k] w K := by
  apply F61_wp
  unfold F61_den
  refine V_add.2 ?_
  rw [wrap_id (by omega) (by omega)]
  exact hk
theorem result62 {r k : Int} (h : -1000 ≤ k ∧ k ≤ 1000) (hk : K (i64 (resP r k)) w) : callD Tryz.prog 62 #[i64 r, i64 k] w K := by
  apply F62_wp
  unfold F62_den
  unfold resP at hk
  refine V_eqlI.2 (ifD_dec (fun he => ?_) fun he => ?_)
  · rw [if_pos he] at hk; exact hk
  · rw [if_neg he] at hk; exact s61 h hk
theorem rowP_snoc {h n j : Nat} (hj : j < n) : (rowP h n).take (j + 1) = (rowP h n).take j ++ [10 + ((h - n + j : Nat) : Int)] := by
  have hl : (rowP h n).length = n := by simp [rowP]
  rw [List.take_add_one]
  congr 1
  simp [rowP, hj]
theorem row63 {h n : Nat} (hn : n ≤ h) (hh : h ≤ 500) (hk : ∀ v w', w'.ownsRow w.heap.size 3 1 v (rowP h n).length ((rowP h n).map i64) → Ext w w' → K v w') : callD Tryz.prog 63 #[i64 h, i64 n] w K := by
  have hl : (rowP h n).length = n := by simp [rowP]
  apply F63_wp
  unfold F63_den
  refine V_sub.2 ?_
  rw [wrap_id (by omega) (by omega)]
  refine ⟨fun tv v w' => ∃ j : Nat, v = i64 ((h - n + j : Nat) : Int) ∧ j ≤ n ∧ Ext w w' ∧ w'.ownsRow w.heap.size 3 1 tv j (((rowP h n).take j).map i64), fun _ v _ => h - (RowKit.intOf v).toNat, ⟨0, by congr 1; omega, Nat.zero_le _, Ext.refl _, World.ownsRow_nil _ _ _ _⟩, ?_⟩
  rintro tv _ w1 ⟨j, rfl, hj, x1, ho⟩ _
  refine V_lss.2 (ifD_dec (fun hlt => ?_) fun hge => ?_)
  · refine s61 (by omega) ?_
    refine bsl xe_23 [i64 (10 + ((h - n + j : Nat) : Int))] rfl rfl (by simp) rfl fun v2 w2 ho2 x2 => ?_
    refine apO xe_23 (x2.own ho) (SliceIs.of_own ho2) rfl (by omega) (by unfold maxLen; omega) (x1.trans x2).size fun v3 w3 ho3 hg3 => ?_
    refine V_add.2 ?_
    rw [wrap_id (by omega) (by omega), i64_succ]
    refine ⟨⟨j + 1, rfl, by omega, (x1.trans x2).grown hg3 fun q hq => ((x2.own ho).lt q hq).1, ?_⟩, by simp only [intOf_i64]; omega⟩
    rw [rowP_snoc (by omega), List.map_append]
    exact ho3
  · have hjn : j = n := by omega
    subst hjn
    refine hk tv w1 ?_ x1
    rw [hl]
    have := ho
    rw [List.take_of_length_le (by omega)] at this
    exact this
theorem serves105 {op : Int} (hk : K (.tuple #[i64 (srvP op).1, .bool (srvP op).2]) w) : callD Tryz.prog 105 #[i64 op] w K := by
  apply F105_wp
  unfold F105_den
  by_cases c27 : op = 27
  · subst c27; simp only [evL, Int.reduceEq, decide_true, decide_false]; exact hk
  by_cases c28 : op = 28
  · subst c28; simp only [evL, Int.reduceEq, decide_true, decide_false]; exact hk
  by_cases c17 : op = 17
  · subst c17; simp only [evL, Int.reduceEq, decide_true, decide_false]; intros; exact hk
  by_cases c18 : op = 18
  · subst c18; simp only [evL, Int.reduceEq, decide_true, decide_false]; intros; exact hk
  by_cases c29 : op = 29
  · subst c29; simp only [evL, Int.reduceEq, decide_true, decide_false]; intros; exact hk
  by_cases c30 : op = 30
  · subst c30; simp only [evL, Int.reduceEq, decide_true, decide_false]; intros; exact hk
  by_cases c36 : op = 36
  · subst c36; simp only [evL, Int.reduceEq, decide_true, decide_false]; intros; exact hk
  by_cases c31 : op = 31
  · subst c31; simp only [evL, Int.reduceEq, decide_true, decide_false]; intros; exact hk
  by_cases c32 : op = 32
  · subst c32; simp only [evL, Int.reduceEq, decide_true, decide_false]; intros; exact hk
  simp only [c27, c28, c17, c18, c29, c30, c36, c31, c32, evL, decide_false]
  intros
  simp only [srvP, c27, c28, c17, c18, c29, c30, c36, c31, c32, or_self, if_false] at hk
  exact hk
end Go.Proofs.YtcdbikfnlggbnaaGreatDoor
namespace Go.Proofs.YtcdbikfnlggbnaaGreatDoor
open Go.Vc Go.Tc
variable {w : World} {K : Value → World → Prop}
theorem plainN {B : Nat} {v : Value} {n : GNode} (h : v = n.val nilS) (ha : n.args = []) : NodeOwn B w v n := ⟨nilS, h, by rw [ha]; exact World.ownsRow_nil _ _ _ _⟩
theorem srvP_le (op : Int) : 0 ≤ (srvP op).1 ∧ (srvP op).1 ≤ 5 := by
  unfold srvP
  split
  · exact ⟨by decide, by decide⟩
  split
  · exact ⟨by decide, by decide⟩
  split
  · exact ⟨by decide, by decide⟩
  split
  · exact ⟨by decide, by decide⟩
  split
  · exact ⟨by decide, by decide⟩
  · exact ⟨by decide, by decide⟩
theorem served64 {x : Ins} {h : Nat} (hn : (srvP x.op).1.toNat ≤ h) (hh : h ≤ 500) (hk : ∀ v w', LN w.heap.size w' v (if (srvP x.op).1 = 0 then none else some (.serve x.op x.a x.b (if (srvP x.op).2 then 10 + ((h : Int) - (srvP x.op).1) else -1) (rowP h (srvP x.op).1.toNat))) → Ext w w' → K v w') :
    callD Tryz.prog 64 #[.agg #[i64 x.op, i64 x.a, i64 x.b], i64 h] w K := by
  have h0 := srvP_le x.op
  apply F64_wp
  unfold F64_den
  refine bx fun b1 w1 hb1 x1 => ?_
  refine ldB hb1 fa_71_0 l1_3 rfl (serves105 (V_ext0.2 (V_ext1.2 (V_eqlI.2 ?_))))
  by_cases hz : (srvP x.op).1 = 0
  · simp only [hz, evL, Int.reduceNeg, decide_true]
    exact hk _ _ (by rw [if_pos hz]; rfl) x1
  simp only [hz, evL, Int.reduceNeg, decide_false]
  rw [if_neg hz] at hk
  obtain ⟨n, hn1⟩ : ∃ n : Nat, (srvP x.op).1 = n := ⟨(srvP x.op).1.toNat, by omega⟩
  rw [hn1] at hk hn h0 ⊢
  rw [Int.toNat_natCast] at hk hn
  refine ⟨fun v w' => v = i64 (if (srvP x.op).2 then 10 + ((h : Int) - (n : Int)) else -1) ∧ w' = w1, ?_, ?_⟩
  · cases h2 : (srvP x.op).2 with
    | true =>
      refine ifD_true.2 (V_sub.2 ?_)
      rw [wrap_id (by omega) (by omega)]
      exact s61 (by omega) ⟨rfl, rfl⟩
    | false => exact ifD_false.2 ⟨rfl, rfl⟩
  rintro _ w9 ⟨rfl, hw⟩ _
  have hw := hw.symm
  subst hw
  have D1 : Ext w1 w1.drew := (Ext.refl _).drew
  refine drawD.mk' (fun w' => Ext w1 w') D1 ?_
  refine yfB (fun w' hw => hb1.ext hw) fa_71_0 l1_3 rfl (yfB (fun w' hw => hb1.ext hw) fa_71_1 l1_3 rfl (yfB (fun w' hw => hb1.ext hw) fa_71_2 l1_3 rfl ?_))
  refine row63 hn hh fun v w2 ho x2 => ⟨D1.trans x2, ?_⟩
  refine yBld bd_162 [(0, i64 x.op), (1, i64 x.a), (2, i64 x.b), (3, i64 _), (4, v)] rfl (by simp [own_one ho, one_i]) (yMki mi_162 ?_)
  refine hk _ _ ⟨v, rfl, own_mono ho (x1.trans D1).size⟩ ((x1.trans D1).trans x2)
end Go.Proofs.YtcdbikfnlggbnaaGreatDoor
namespace Go.Proofs.YtcdbikfnlggbnaaGreatDoor
open Go.Vc Go.Tc
variable {w : World} {K : Value → World → Prop}
set_option maxHeartbeats 4000000 in
theorem node31 {p : ImgV} {i : Img} {row : List Value} {m : Mth} {x : Ins} {h : Nat} (hA : ImgAt w p i) (hm : MthIs w row m) (hx : Okx i m x) (hh : h ≤ 8) (ha : (asked i m x).length ≤ h) (hk : ∀ v w', LN w.heap.size w' v (liftN i m x h) → Ext w w' → K v w') :
    callD Tryz.prog 31 #[p.val i, .agg row.toArray, .agg #[i64 x.op, i64 x.a, i64 x.b], i64 h] w K := by
  obtain ⟨op, a, b⟩ := x
  obtain ⟨ir, mr, ⟨ho, a1, a2, _⟩, hn⟩ := hx
  obtain ⟨pv, lv, cv, rfl, hp, hl, hc⟩ := hm
  have ho : 1 ≤ op ∧ op ≤ 39 := ho
  apply F31_wp
  unfold F31_den ImgV.val
  refine bx fun b4 w1 hb4 x1 => bx fun b5 w2 hb5 x2 => bx fun b6 w3 hb6 x3 => ?_
  have hb4 : Boxed w3 b4 [.string i.name, p.fv, p.iv, p.mv, p.xv] := (hb4.ext x2).ext x3
  have hb5 : Boxed w3 b5 [pv, i64 m.result, lv, cv] := hb5.ext x3
  have hb6 : Boxed w3 b6 [i64 op, i64 a, i64 b] := hb6
  have xx := (x1.trans x2).trans x3
  have hA := hA.ext xx
  refine ldB hb6 fa_71_0 l1_3 rfl ?_
  have D1 : Ext w3 w3.drew := (Ext.refl _).drew
  have xd := xx.trans D1
  rcases op39 ho with rfl | rfl | rfl | rfl | rfl | rfl | rfl | rfl | rfl | rfl | rfl | rfl | rfl | rfl | rfl | rfl | rfl | rfl | rfl | rfl | rfl | rfl | rfl | rfl | rfl | rfl | rfl | rfl | rfl | rfl | rfl | rfl | rfl | rfl | rfl | rfl | rfl | rfl | rfl
  · simp only [evL, Int.reduceEq, decide_true, decide_false]
    intros
    refine drawD.mk' (fun w' => Ext w3 w') D1 ?_
    refine yfB (fun w' hw => hb6.ext hw) fa_71_1 l1_3 rfl ?_
    refine yieldS.ok (fun w' _ => r_convI Tryz.underlying3 Tryz.underlying21) ?_
    refine s61 (by omega) ⟨D1, ?_⟩
    refine yBld bd_84 [(0, i64 (10 + (h : Int))), (1, i32 (IntKind.i32.wrap a))] rfl rfl (yMki mi_84 ?_)
    exact hk _ _ (plainN rfl rfl) xd
  · simp only [evL, Int.reduceEq, decide_true, decide_false]
    intros
    refine drawD.mk' (fun w' => Ext w3 w') D1 ?_
    refine yfB (fun w' hw => hb6.ext hw) fa_71_1 l1_3 rfl ?_
    refine s61 (by omega) ⟨D1, ?_⟩
    refine yBld bd_140 [(0, i64 (10 + (h : Int))), (1, i64 a)] rfl rfl (yMki mi_140 ?_)
    exact hk _ _ (plainN rfl rfl) xd
  · simp only [evL, Int.reduceEq, decide_true, decide_false]
    intros
    refine drawD.mk' (fun w' => Ext w3 w') D1 ?_
    refine yfB (fun w' hw => hb6.ext hw) fa_71_1 l1_3 rfl ?_
    refine yieldS.ok (fun w' _ => r_sub) ?_
    rw [wrap_id (by omega) (by omega)]
    refine s61 (by omega) ⟨D1, ?_⟩
    refine yBld bd_140 [(0, i64 a), (1, i64 (10 + ((h : Int) - 1)))] rfl rfl (yMki mi_140 ?_)
    exact hk _ _ (plainN rfl rfl) xd
  · simp only [evL, Int.reduceEq, decide_true, decide_false]
    intros
    exact hk _ _ rfl xx
  · simp only [evL, Int.reduceEq, decide_true, decide_false]
    intros
    refine s61 (by omega) ?_
    refine V_sub.2 ?_
    rw [wrap_id (by omega) (by omega)]
    refine s61 (by omega) ?_
    refine bld bd_140 [(0, i64 (10 + (h : Int))), (1, i64 (10 + ((h : Int) - 1)))] rfl rfl (mki mi_140 ?_)
    exact hk _ _ (plainN rfl rfl) xx
  · simp only [evL, Int.reduceEq, decide_false]
    intros
    refine ldA hb6 la_71 rfl ?_
    refine served64 (x := ⟨6, a, b⟩) (show _ ≤ h from Nat.zero_le _) (by omega) fun v w4 hv x4 => ?_
    have hv : v = Value.nilIface := hv
    subst hv
    refine V.ok (r_neqNilNil Tryz.underlying52) (ifD_false.2 ?_)
    have D4 : Ext w4 w4.drew := (Ext.refl _).drew
    refine drawD.mk' (fun w' => Ext w4 w') D4 ?_
    refine yfB (fun w' hw => (hb6.ext x4).ext hw) fa_71_0 l1_3 rfl ?_
    refine yieldS.ok (fun w' _ => r_sub) ?_
    rw [wrap_id (by omega) (by omega)]
    refine yieldS.ok (fun w' _ => r_sub) ?_
    rw [wrap_id (by omega) (by omega)]
    refine yieldS.ok (fun w' _ => r_sub) ?_
    rw [wrap_id (by omega) (by omega)]
    refine s61 (by omega) ⟨D4, ?_⟩
    refine s61 (by omega) ⟨D4, ?_⟩
    refine s61 (by omega) ⟨D4, ?_⟩
    refine yBld bd_113 [(0, i64 6), (1, i64 (10 + ((h : Int) - 2))), (2, i64 (10 + ((h : Int) - 2))), (3, i64 (10 + ((h : Int) - 1)))] rfl rfl (yMki mi_113 ?_)
    exact hk _ _ (plainN rfl rfl) ((xx.trans x4).trans D4)
  · simp only [evL, Int.reduceEq, decide_false]
    intros
    refine ldA hb6 la_71 rfl ?_
    refine served64 (x := ⟨7, a, b⟩) (show _ ≤ h from Nat.zero_le _) (by omega) fun v w4 hv x4 => ?_
    have hv : v = Value.nilIface := hv
    subst hv
    refine V.ok (r_neqNilNil Tryz.underlying52) (ifD_false.2 ?_)
    have D4 : Ext w4 w4.drew := (Ext.refl _).drew
    refine drawD.mk' (fun w' => Ext w4 w') D4 ?_
    refine yfB (fun w' hw => (hb6.ext x4).ext hw) fa_71_0 l1_3 rfl ?_
    refine yieldS.ok (fun w' _ => r_sub) ?_
    rw [wrap_id (by omega) (by omega)]
    refine yieldS.ok (fun w' _ => r_sub) ?_
    rw [wrap_id (by omega) (by omega)]
    refine yieldS.ok (fun w' _ => r_sub) ?_
    rw [wrap_id (by omega) (by omega)]
    refine s61 (by omega) ⟨D4, ?_⟩
    refine s61 (by omega) ⟨D4, ?_⟩
    refine s61 (by omega) ⟨D4, ?_⟩
    refine yBld bd_113 [(0, i64 7), (1, i64 (10 + ((h : Int) - 2))), (2, i64 (10 + ((h : Int) - 2))), (3, i64 (10 + ((h : Int) - 1)))] rfl rfl (yMki mi_113 ?_)
    exact hk _ _ (plainN rfl rfl) ((xx.trans x4).trans D4)
  · simp only [evL, Int.reduceEq, decide_false]
    intros
    refine ldA hb6 la_71 rfl ?_
    refine served64 (x := ⟨8, a, b⟩) (show _ ≤ h from Nat.zero_le _) (by omega) fun v w4 hv x4 => ?_
    have hv : v = Value.nilIface := hv
    subst hv
    refine V.ok (r_neqNilNil Tryz.underlying52) (ifD_false.2 ?_)
    have D4 : Ext w4 w4.drew := (Ext.refl _).drew
    refine drawD.mk' (fun w' => Ext w4 w') D4 ?_
    refine yfB (fun w' hw => (hb6.ext x4).ext hw) fa_71_0 l1_3 rfl ?_
    refine yieldS.ok (fun w' _ => r_sub) ?_
    rw [wrap_id (by omega) (by omega)]
    refine yieldS.ok (fun w' _ => r_sub) ?_
    rw [wrap_id (by omega) (by omega)]
    refine yieldS.ok (fun w' _ => r_sub) ?_
    rw [wrap_id (by omega) (by omega)]
    refine s61 (by omega) ⟨D4, ?_⟩
    refine s61 (by omega) ⟨D4, ?_⟩
    refine s61 (by omega) ⟨D4, ?_⟩
    refine yBld bd_113 [(0, i64 8), (1, i64 (10 + ((h : Int) - 2))), (2, i64 (10 + ((h : Int) - 2))), (3, i64 (10 + ((h : Int) - 1)))] rfl rfl (yMki mi_113 ?_)
    exact hk _ _ (plainN rfl rfl) ((xx.trans x4).trans D4)
  · simp only [evL, Int.reduceEq, decide_false]
    intros
    refine ldA hb6 la_71 rfl ?_
    refine served64 (x := ⟨9, a, b⟩) (show _ ≤ h from Nat.zero_le _) (by omega) fun v w4 hv x4 => ?_
    have hv : v = Value.nilIface := hv
    subst hv
    refine V.ok (r_neqNilNil Tryz.underlying52) (ifD_false.2 ?_)
    have D4 : Ext w4 w4.drew := (Ext.refl _).drew
    refine drawD.mk' (fun w' => Ext w4 w') D4 ?_
    refine yfB (fun w' hw => (hb6.ext x4).ext hw) fa_71_0 l1_3 rfl ?_
    refine yieldS.ok (fun w' _ => r_sub) ?_
    rw [wrap_id (by omega) (by omega)]
    refine yieldS.ok (fun w' _ => r_sub) ?_
    rw [wrap_id (by omega) (by omega)]
    refine yieldS.ok (fun w' _ => r_sub) ?_
    rw [wrap_id (by omega) (by omega)]
    refine s61 (by omega) ⟨D4, ?_⟩
    refine s61 (by omega) ⟨D4, ?_⟩
    refine s61 (by omega) ⟨D4, ?_⟩
    refine yBld bd_113 [(0, i64 9), (1, i64 (10 + ((h : Int) - 2))), (2, i64 (10 + ((h : Int) - 2))), (3, i64 (10 + ((h : Int) - 1)))] rfl rfl (yMki mi_113 ?_)
    exact hk _ _ (plainN rfl rfl) ((xx.trans x4).trans D4)
  · simp only [evL, Int.reduceEq, decide_false]
    intros
    refine ldA hb6 la_71 rfl ?_
    refine served64 (x := ⟨10, a, b⟩) (show _ ≤ h from Nat.zero_le _) (by omega) fun v w4 hv x4 => ?_
    have hv : v = Value.nilIface := hv
    subst hv
    refine V.ok (r_neqNilNil Tryz.underlying52) (ifD_false.2 ?_)
    have D4 : Ext w4 w4.drew := (Ext.refl _).drew
    refine drawD.mk' (fun w' => Ext w4 w') D4 ?_
    refine yfB (fun w' hw => (hb6.ext x4).ext hw) fa_71_0 l1_3 rfl ?_
    refine yieldS.ok (fun w' _ => r_sub) ?_
    rw [wrap_id (by omega) (by omega)]
    refine yieldS.ok (fun w' _ => r_sub) ?_
    rw [wrap_id (by omega) (by omega)]
    refine yieldS.ok (fun w' _ => r_sub) ?_
    rw [wrap_id (by omega) (by omega)]
    refine s61 (by omega) ⟨D4, ?_⟩
    refine s61 (by omega) ⟨D4, ?_⟩
    refine s61 (by omega) ⟨D4, ?_⟩
    refine yBld bd_113 [(0, i64 10), (1, i64 (10 + ((h : Int) - 2))), (2, i64 (10 + ((h : Int) - 2))), (3, i64 (10 + ((h : Int) - 1)))] rfl rfl (yMki mi_113 ?_)
    exact hk _ _ (plainN rfl rfl) ((xx.trans x4).trans D4)
  · simp only [evL, Int.reduceEq, decide_false]
    intros
    refine ldA hb6 la_71 rfl ?_
    refine served64 (x := ⟨11, a, b⟩) (show _ ≤ h from Nat.zero_le _) (by omega) fun v w4 hv x4 => ?_
    have hv : v = Value.nilIface := hv
    subst hv
    refine V.ok (r_neqNilNil Tryz.underlying52) (ifD_false.2 ?_)
    have D4 : Ext w4 w4.drew := (Ext.refl _).drew
    refine drawD.mk' (fun w' => Ext w4 w') D4 ?_
    refine yfB (fun w' hw => (hb6.ext x4).ext hw) fa_71_0 l1_3 rfl ?_
    refine yieldS.ok (fun w' _ => r_sub) ?_
    rw [wrap_id (by omega) (by omega)]
    refine yieldS.ok (fun w' _ => r_sub) ?_
    rw [wrap_id (by omega) (by omega)]
    refine yieldS.ok (fun w' _ => r_sub) ?_
    rw [wrap_id (by omega) (by omega)]
    refine s61 (by omega) ⟨D4, ?_⟩
    refine s61 (by omega) ⟨D4, ?_⟩
    refine s61 (by omega) ⟨D4, ?_⟩
    refine yBld bd_113 [(0, i64 11), (1, i64 (10 + ((h : Int) - 2))), (2, i64 (10 + ((h : Int) - 2))), (3, i64 (10 + ((h : Int) - 1)))] rfl rfl (yMki mi_113 ?_)
    exact hk _ _ (plainN rfl rfl) ((xx.trans x4).trans D4)
  · simp only [evL, Int.reduceEq, decide_false]
    intros
    refine ldA hb6 la_71 rfl ?_
    refine served64 (x := ⟨12, a, b⟩) (show _ ≤ h from Nat.zero_le _) (by omega) fun v w4 hv x4 => ?_
    have hv : v = Value.nilIface := hv
    subst hv
    refine V.ok (r_neqNilNil Tryz.underlying52) (ifD_false.2 ?_)
    have D4 : Ext w4 w4.drew := (Ext.refl _).drew
    refine drawD.mk' (fun w' => Ext w4 w') D4 ?_
    refine yfB (fun w' hw => (hb6.ext x4).ext hw) fa_71_0 l1_3 rfl ?_
    refine yieldS.ok (fun w' _ => r_sub) ?_
    rw [wrap_id (by omega) (by omega)]
    refine yieldS.ok (fun w' _ => r_sub) ?_
    rw [wrap_id (by omega) (by omega)]
    refine yieldS.ok (fun w' _ => r_sub) ?_
    rw [wrap_id (by omega) (by omega)]
    refine s61 (by omega) ⟨D4, ?_⟩
    refine s61 (by omega) ⟨D4, ?_⟩
    refine s61 (by omega) ⟨D4, ?_⟩
    refine yBld bd_113 [(0, i64 12), (1, i64 (10 + ((h : Int) - 2))), (2, i64 (10 + ((h : Int) - 2))), (3, i64 (10 + ((h : Int) - 1)))] rfl rfl (yMki mi_113 ?_)
    exact hk _ _ (plainN rfl rfl) ((xx.trans x4).trans D4)
  · simp only [evL, Int.reduceEq, decide_false]
    intros
    refine ldA hb6 la_71 rfl ?_
    refine served64 (x := ⟨13, a, b⟩) (show _ ≤ h from Nat.zero_le _) (by omega) fun v w4 hv x4 => ?_
    have hv : v = Value.nilIface := hv
    subst hv
    refine V.ok (r_neqNilNil Tryz.underlying52) (ifD_false.2 ?_)
    have D4 : Ext w4 w4.drew := (Ext.refl _).drew
    refine drawD.mk' (fun w' => Ext w4 w') D4 ?_
    refine yfB (fun w' hw => (hb6.ext x4).ext hw) fa_71_0 l1_3 rfl ?_
    refine yieldS.ok (fun w' _ => r_sub) ?_
    rw [wrap_id (by omega) (by omega)]
    refine yieldS.ok (fun w' _ => r_sub) ?_
    rw [wrap_id (by omega) (by omega)]
    refine yieldS.ok (fun w' _ => r_sub) ?_
    rw [wrap_id (by omega) (by omega)]
    refine s61 (by omega) ⟨D4, ?_⟩
    refine s61 (by omega) ⟨D4, ?_⟩
    refine s61 (by omega) ⟨D4, ?_⟩
    refine yBld bd_113 [(0, i64 13), (1, i64 (10 + ((h : Int) - 2))), (2, i64 (10 + ((h : Int) - 2))), (3, i64 (10 + ((h : Int) - 1)))] rfl rfl (yMki mi_113 ?_)
    exact hk _ _ (plainN rfl rfl) ((xx.trans x4).trans D4)
  · simp only [evL, Int.reduceEq, decide_false]
    intros
    refine ldA hb6 la_71 rfl ?_
    refine served64 (x := ⟨14, a, b⟩) (show _ ≤ h from Nat.zero_le _) (by omega) fun v w4 hv x4 => ?_
    have hv : v = Value.nilIface := hv
    subst hv
    refine V.ok (r_neqNilNil Tryz.underlying52) (ifD_false.2 ?_)
    have D4 : Ext w4 w4.drew := (Ext.refl _).drew
    refine drawD.mk' (fun w' => Ext w4 w') D4 ?_
    refine yfB (fun w' hw => (hb6.ext x4).ext hw) fa_71_0 l1_3 rfl ?_
    refine yieldS.ok (fun w' _ => r_sub) ?_
    rw [wrap_id (by omega) (by omega)]
    refine yieldS.ok (fun w' _ => r_sub) ?_
    rw [wrap_id (by omega) (by omega)]
    refine yieldS.ok (fun w' _ => r_sub) ?_
    rw [wrap_id (by omega) (by omega)]
    refine s61 (by omega) ⟨D4, ?_⟩
    refine s61 (by omega) ⟨D4, ?_⟩
    refine s61 (by omega) ⟨D4, ?_⟩
    refine yBld bd_113 [(0, i64 14), (1, i64 (10 + ((h : Int) - 2))), (2, i64 (10 + ((h : Int) - 2))), (3, i64 (10 + ((h : Int) - 1)))] rfl rfl (yMki mi_113 ?_)
    exact hk _ _ (plainN rfl rfl) ((xx.trans x4).trans D4)
  · simp only [evL, Int.reduceEq, decide_true, decide_false]
    intros
    refine drawD.mk' (fun w' => Ext w3 w') D1 ?_
    refine yfB (fun w' hw => hb6.ext hw) fa_71_0 l1_3 rfl ?_
    refine yieldS.ok (fun w' _ => r_sub) ?_
    rw [wrap_id (by omega) (by omega)]
    refine yieldS.ok (fun w' _ => r_sub) ?_
    rw [wrap_id (by omega) (by omega)]
    refine s61 (by omega) ⟨D1, ?_⟩
    refine s61 (by omega) ⟨D1, ?_⟩
    refine yBld bd_142 [(0, i64 15), (1, i64 (10 + ((h : Int) - 1))), (2, i64 (10 + ((h : Int) - 1)))] rfl rfl (yMki mi_142 ?_)
    exact hk _ _ (plainN rfl rfl) xd
  · simp only [evL, Int.reduceEq, decide_true, decide_false]
    intros
    refine drawD.mk' (fun w' => Ext w3 w') D1 ?_
    refine yfB (fun w' hw => hb6.ext hw) fa_71_0 l1_3 rfl ?_
    refine yieldS.ok (fun w' _ => r_sub) ?_
    rw [wrap_id (by omega) (by omega)]
    refine yieldS.ok (fun w' _ => r_sub) ?_
    rw [wrap_id (by omega) (by omega)]
    refine s61 (by omega) ⟨D1, ?_⟩
    refine s61 (by omega) ⟨D1, ?_⟩
    refine yBld bd_142 [(0, i64 16), (1, i64 (10 + ((h : Int) - 1))), (2, i64 (10 + ((h : Int) - 1)))] rfl rfl (yMki mi_142 ?_)
    exact hk _ _ (plainN rfl rfl) xd
  · simp only [evL, Int.reduceEq, decide_false]
    intros
    refine ldA hb6 la_71 rfl ?_
    refine served64 (x := ⟨17, a, b⟩) (show _ ≤ h from ha) (by omega) fun v w4 hv x4 => ?_
    obtain ⟨sv, rfl, hsv⟩ := (hv : NodeOwn w3.heap.size w4 v _)
    refine V.ok (r_neqNilIface Tryz.underlying52) (ifD_true.2 ?_)
    exact hk _ _ ⟨sv, rfl, own_mono hsv xx.size⟩ (xx.trans x4)
  · simp only [evL, Int.reduceEq, decide_false]
    intros
    refine ldA hb6 la_71 rfl ?_
    refine served64 (x := ⟨18, a, b⟩) (show _ ≤ h from ha) (by omega) fun v w4 hv x4 => ?_
    obtain ⟨sv, rfl, hsv⟩ := (hv : NodeOwn w3.heap.size w4 v _)
    refine V.ok (r_neqNilIface Tryz.underlying52) (ifD_true.2 ?_)
    exact hk _ _ ⟨sv, rfl, own_mono hsv xx.size⟩ (xx.trans x4)
  · simp only [evL, Int.reduceEq, decide_false]
    intros
    refine ldA hb6 la_71 rfl ?_
    refine served64 (x := ⟨19, a, b⟩) (show _ ≤ h from Nat.zero_le _) (by omega) fun v w4 hv x4 => ?_
    have hv : v = Value.nilIface := hv
    subst hv
    refine V.ok (r_neqNilNil Tryz.underlying52) (ifD_false.2 ?_)
    have D4 : Ext w4 w4.drew := (Ext.refl _).drew
    refine drawD.mk' (fun w' => Ext w4 w') D4 ?_
    refine yfB (fun w' hw => (hb6.ext x4).ext hw) fa_71_0 l1_3 rfl ?_
    refine yieldS.ok (fun w' _ => r_sub) ?_
    rw [wrap_id (by omega) (by omega)]
    refine yieldS.ok (fun w' _ => r_sub) ?_
    rw [wrap_id (by omega) (by omega)]
    refine yieldS.ok (fun w' _ => r_sub) ?_
    rw [wrap_id (by omega) (by omega)]
    refine s61 (by omega) ⟨D4, ?_⟩
    refine s61 (by omega) ⟨D4, ?_⟩
    refine s61 (by omega) ⟨D4, ?_⟩
    refine yBld bd_113 [(0, i64 19), (1, i64 (10 + ((h : Int) - 2))), (2, i64 (10 + ((h : Int) - 2))), (3, i64 (10 + ((h : Int) - 1)))] rfl rfl (yMki mi_113 ?_)
    exact hk _ _ (plainN rfl rfl) ((xx.trans x4).trans D4)
  · simp only [evL, Int.reduceEq, decide_false]
    intros
    refine ldA hb6 la_71 rfl ?_
    refine served64 (x := ⟨20, a, b⟩) (show _ ≤ h from Nat.zero_le _) (by omega) fun v w4 hv x4 => ?_
    have hv : v = Value.nilIface := hv
    subst hv
    refine V.ok (r_neqNilNil Tryz.underlying52) (ifD_false.2 ?_)
    have D4 : Ext w4 w4.drew := (Ext.refl _).drew
    refine drawD.mk' (fun w' => Ext w4 w') D4 ?_
    refine yfB (fun w' hw => (hb6.ext x4).ext hw) fa_71_0 l1_3 rfl ?_
    refine yieldS.ok (fun w' _ => r_sub) ?_
    rw [wrap_id (by omega) (by omega)]
    refine yieldS.ok (fun w' _ => r_sub) ?_
    rw [wrap_id (by omega) (by omega)]
    refine yieldS.ok (fun w' _ => r_sub) ?_
    rw [wrap_id (by omega) (by omega)]
    refine s61 (by omega) ⟨D4, ?_⟩
    refine s61 (by omega) ⟨D4, ?_⟩
    refine s61 (by omega) ⟨D4, ?_⟩
    refine yBld bd_113 [(0, i64 20), (1, i64 (10 + ((h : Int) - 2))), (2, i64 (10 + ((h : Int) - 2))), (3, i64 (10 + ((h : Int) - 1)))] rfl rfl (yMki mi_113 ?_)
    exact hk _ _ (plainN rfl rfl) ((xx.trans x4).trans D4)
  · simp only [evL, Int.reduceEq, decide_false]
    intros
    refine ldA hb6 la_71 rfl ?_
    refine served64 (x := ⟨21, a, b⟩) (show _ ≤ h from Nat.zero_le _) (by omega) fun v w4 hv x4 => ?_
    have hv : v = Value.nilIface := hv
    subst hv
    refine V.ok (r_neqNilNil Tryz.underlying52) (ifD_false.2 ?_)
    have D4 : Ext w4 w4.drew := (Ext.refl _).drew
    refine drawD.mk' (fun w' => Ext w4 w') D4 ?_
    refine yfB (fun w' hw => (hb6.ext x4).ext hw) fa_71_0 l1_3 rfl ?_
    refine yieldS.ok (fun w' _ => r_sub) ?_
    rw [wrap_id (by omega) (by omega)]
    refine yieldS.ok (fun w' _ => r_sub) ?_
    rw [wrap_id (by omega) (by omega)]
    refine yieldS.ok (fun w' _ => r_sub) ?_
    rw [wrap_id (by omega) (by omega)]
    refine s61 (by omega) ⟨D4, ?_⟩
    refine s61 (by omega) ⟨D4, ?_⟩
    refine s61 (by omega) ⟨D4, ?_⟩
    refine yBld bd_113 [(0, i64 21), (1, i64 (10 + ((h : Int) - 2))), (2, i64 (10 + ((h : Int) - 2))), (3, i64 (10 + ((h : Int) - 1)))] rfl rfl (yMki mi_113 ?_)
    exact hk _ _ (plainN rfl rfl) ((xx.trans x4).trans D4)
  · simp only [evL, Int.reduceEq, decide_true, decide_false]
    intros
    refine V_sub.2 ?_
    rw [wrap_id (by omega) (by omega)]
    refine s61 (by omega) ?_
    refine V_sub.2 ?_
    rw [wrap_id (by omega) (by omega)]
    refine s61 (by omega) ?_
    refine V_sub.2 ?_
    rw [wrap_id (by omega) (by omega)]
    refine s61 (by omega) ?_
    refine V_sub.2 ?_
    rw [wrap_id (by omega) (by omega)]
    refine s61 (by omega) ?_
    refine bld bd_144 [(0, i64 (10 + ((h : Int) - 3))), (1, i64 (10 + ((h : Int) - 3))), (2, i64 (10 + ((h : Int) - 2))), (3, i64 (10 + ((h : Int) - 1)))] rfl rfl (mki mi_144 ?_)
    exact hk _ _ (plainN rfl rfl) xx
  · simp only [evL, Int.reduceEq, decide_true, decide_false]
    intros
    refine ldB hb6 fa_71_1 l1_3 rfl ?_
    refine bld bd_146 [(0, i64 a)] rfl rfl (mki mi_146 ?_)
    exact hk _ _ (plainN rfl rfl) xx
  · simp only [evL, Int.reduceEq, decide_true, decide_false]
    intros
    refine drawD.mk' (fun w' => Ext w3 w') D1 ?_
    refine yieldS.ok (fun w' _ => r_sub) ?_
    rw [wrap_id (by omega) (by omega)]
    refine yfB (fun w' hw => hb6.ext hw) fa_71_1 l1_3 rfl ?_
    refine s61 (by omega) ⟨D1, ?_⟩
    refine yBld bd_148 [(0, i64 (10 + ((h : Int) - 1))), (1, i64 a)] rfl rfl (yMki mi_148 ?_)
    exact hk _ _ (plainN rfl rfl) xd
  · simp only [evL, Int.reduceEq, decide_true, decide_false]
    intros
    refine s61 (by omega) ?_
    refine bld bd_84 [(0, i64 (10 + (h : Int)))] rfl rfl (mki mi_84 ?_)
    exact hk _ _ (plainN rfl rfl) xx
  · simp only [evL, Int.reduceEq, decide_true, decide_false]
    intros
    refine drawD.mk' (fun w' => Ext w3 w') D1 ?_
    refine yfB (fun w' hw => hb6.ext hw) fa_71_0 l1_3 rfl ?_
    refine yieldS.ok (fun w' _ => r_sub) ?_
    rw [wrap_id (by omega) (by omega)]
    refine yieldS.ok (fun w' _ => r_sub) ?_
    rw [wrap_id (by omega) (by omega)]
    refine s61 (by omega) ⟨D1, ?_⟩
    refine s61 (by omega) ⟨D1, ?_⟩
    refine yBld bd_142 [(0, i64 26), (1, i64 (10 + ((h : Int) - 1))), (2, i64 (10 + ((h : Int) - 1)))] rfl rfl (yMki mi_142 ?_)
    exact hk _ _ (plainN rfl rfl) xd
  · simp only [evL, Int.reduceEq, decide_false]
    intros
    refine ldA hb6 la_71 rfl ?_
    refine served64 (x := ⟨27, a, b⟩) (show _ ≤ h from ha) (by omega) fun v w4 hv x4 => ?_
    obtain ⟨sv, rfl, hsv⟩ := (hv : NodeOwn w3.heap.size w4 v _)
    refine V.ok (r_neqNilIface Tryz.underlying52) (ifD_true.2 ?_)
    exact hk _ _ ⟨sv, rfl, own_mono hsv xx.size⟩ (xx.trans x4)
  · simp only [evL, Int.reduceEq, decide_false]
    intros
    refine ldA hb6 la_71 rfl ?_
    refine served64 (x := ⟨28, a, b⟩) (show _ ≤ h from ha) (by omega) fun v w4 hv x4 => ?_
    obtain ⟨sv, rfl, hsv⟩ := (hv : NodeOwn w3.heap.size w4 v _)
    refine V.ok (r_neqNilIface Tryz.underlying52) (ifD_true.2 ?_)
    exact hk _ _ ⟨sv, rfl, own_mono hsv xx.size⟩ (xx.trans x4)
  · simp only [evL, Int.reduceEq, decide_false]
    intros
    refine ldA hb6 la_71 rfl ?_
    refine served64 (x := ⟨29, a, b⟩) (show _ ≤ h from ha) (by omega) fun v w4 hv x4 => ?_
    obtain ⟨sv, rfl, hsv⟩ := (hv : NodeOwn w3.heap.size w4 v _)
    refine V.ok (r_neqNilIface Tryz.underlying52) (ifD_true.2 ?_)
    exact hk _ _ ⟨sv, rfl, own_mono hsv xx.size⟩ (xx.trans x4)
  · simp only [evL, Int.reduceEq, decide_false]
    intros
    refine ldA hb6 la_71 rfl ?_
    refine served64 (x := ⟨30, a, b⟩) (show _ ≤ h from ha) (by omega) fun v w4 hv x4 => ?_
    obtain ⟨sv, rfl, hsv⟩ := (hv : NodeOwn w3.heap.size w4 v _)
    refine V.ok (r_neqNilIface Tryz.underlying52) (ifD_true.2 ?_)
    exact hk _ _ ⟨sv, rfl, own_mono hsv xx.size⟩ (xx.trans x4)
  · simp only [evL, Int.reduceEq, decide_false]
    intros
    refine ldA hb6 la_71 rfl ?_
    refine served64 (x := ⟨31, a, b⟩) (show _ ≤ h from ha) (by omega) fun v w4 hv x4 => ?_
    obtain ⟨sv, rfl, hsv⟩ := (hv : NodeOwn w3.heap.size w4 v _)
    refine V.ok (r_neqNilIface Tryz.underlying52) (ifD_true.2 ?_)
    exact hk _ _ ⟨sv, rfl, own_mono hsv xx.size⟩ (xx.trans x4)
  · simp only [evL, Int.reduceEq, decide_false]
    intros
    refine ldA hb6 la_71 rfl ?_
    refine served64 (x := ⟨32, a, b⟩) (show _ ≤ h from ha) (by omega) fun v w4 hv x4 => ?_
    obtain ⟨sv, rfl, hsv⟩ := (hv : NodeOwn w3.heap.size w4 v _)
    refine V.ok (r_neqNilIface Tryz.underlying52) (ifD_true.2 ?_)
    exact hk _ _ ⟨sv, rfl, own_mono hsv xx.size⟩ (xx.trans x4)
  · simp only [evL, Int.reduceEq, decide_true, decide_false]
    intros
    refine drawD.mk' (fun w' => Ext w3 w') D1 ?_
    refine yfB (fun w' hw => hb6.ext hw) fa_71_1 l1_3 rfl ?_
    refine s61 (by omega) ⟨D1, ?_⟩
    refine yBld bd_150 [(0, i64 (10 + (h : Int))), (1, i64 a)] rfl rfl (yMki mi_150 ?_)
    exact hk _ _ (plainN rfl rfl) xd
  · simp only [evL, Int.reduceEq, decide_true, decide_false]
    intros
    refine drawD.mk' (fun w' => Ext w3 w') D1 ?_
    refine yfB (fun w' hw => hb6.ext hw) fa_71_1 l1_3 rfl ?_
    refine yieldS.ok (fun w' _ => r_sub) ?_
    rw [wrap_id (by omega) (by omega)]
    refine s61 (by omega) ⟨D1, ?_⟩
    refine yBld bd_152 [(0, i64 a), (1, i64 (10 + ((h : Int) - 1)))] rfl rfl (yMki mi_152 ?_)
    exact hk _ _ (plainN rfl rfl) xd
  · simp only [evL, Int.reduceEq, decide_true, decide_false]
    intros
    refine drawD.mk' (fun w' => Ext w3 w') D1 ?_
    refine yfB (fun w' hw => hb6.ext hw) fa_71_1 l1_3 rfl ?_
    refine yieldS.ok (fun w' _ => r_convI Tryz.underlying3 Tryz.underlying21) ?_
    refine s61 (by omega) ⟨D1, ?_⟩
    refine yBld bd_84 [(0, i64 (10 + (h : Int))), (1, i32 (IntKind.i32.wrap a))] rfl rfl (yMki mi_84 ?_)
    exact hk _ _ (plainN rfl rfl) xd
  · simp only [evL, Int.reduceEq, decide_false]
    intros
    refine ldA hb6 la_71 rfl ?_
    refine served64 (x := ⟨36, a, b⟩) (show _ ≤ h from ha) (by omega) fun v w4 hv x4 => ?_
    obtain ⟨sv, rfl, hsv⟩ := (hv : NodeOwn w3.heap.size w4 v _)
    refine V.ok (r_neqNilIface Tryz.underlying52) (ifD_true.2 ?_)
    exact hk _ _ ⟨sv, rfl, own_mono hsv xx.size⟩ (xx.trans x4)
  · simp only [evL, Int.reduceEq, decide_true, decide_false]
    intros
    have a1 : 0 ≤ a := a1
    have hn : a < (i.methods.length : Int) := hn
    have ha : (i.meth a).params.length ≤ h := ha
    refine ldB hb4 fa_27_3 l1_25 rfl (ldB hb6 fa_71_1 l1_3 rfl ?_)
    obtain ⟨ka, rfl⟩ : ∃ ka : Nat, a = ka := ⟨a.toNat, by omega⟩
    have hmi := meth_get a1 hn
    rw [Int.toNat_natCast] at hmi
    refine ldS xa_25 la_47 hA.mt hmi mth_len fun row hrow => ?_
    obtain ⟨pv9, lv9, cv9, rfl, hp9, _, _⟩ := hrow
    obtain ⟨a7, c7, rfl⟩ := hp9.shape
    rename_i hl9 hc9
    obtain ⟨a8, c8, rfl⟩ := hl9.shape
    obtain ⟨a9, c9, rfl⟩ := SliceIs.shape hc9
    refine asB sa_47 rfl rfl fun b9 w9 hb9 x9 => ?_
    have hb9 : Boxed w9 b9 [.slice a7 (i.meth (ka : Int)).params.length c7, i64 (i.meth (ka : Int)).result, .slice a8 (i.meth (ka : Int)).locals.length c8, .slice a9 (i.meth (ka : Int)).code.length c9] := hb9
    have D9 : Ext w9 w9.drew := (Ext.refl _).drew
    have xd9 := (xx.trans x9).trans D9
    have hp9 := (hp9.ext x9).ext D9
    refine drawD.mk' (fun w' => Ext w9 w') D9 ?_
    refine yfB (fun w' hw => (hb6.ext x9).ext hw) fa_71_1 l1_3 rfl ?_
    refine yfB (fun w' hw => hb9.ext hw) fa_47_1 l1_3 rfl ?_
    refine yfB (fun w' hw => hb9.ext hw) fa_47_0 l1_23 rfl (yLen xa_23 hp9 ?_)
    refine yieldS.ok (fun w' _ => r_sub) ?_
    rw [wrap_id (by omega) (by omega)]
    refine yfB (fun w' hw => hb9.ext hw) fa_47_0 l1_23 rfl (yLen xa_23 hp9 ?_)
    refine result62 (by omega) ⟨D9, ?_⟩
    refine row63 ha (by omega) fun v w10 ho10 x10 => ⟨D9.trans x10, ?_⟩
    refine yBld bd_155 [(0, i64 (ka : Nat)), (1, i64 _), (2, v)] rfl (by simp [own_one ho10, one_i]) (yMki mi_155 ?_)
    exact hk _ _ ⟨v, rfl, own_mono ho10 xd9.size⟩ (xd9.trans x10)
  · simp only [evL, Int.reduceEq, decide_true, decide_false]
    intros
    have a1 : 0 ≤ a := a1
    have hn : a < (i.imports.length : Int) := hn
    have ha : (i.imp a).params.length ≤ h := ha
    refine ldB hb4 fa_27_2 l1_24 rfl (ldB hb6 fa_71_1 l1_3 rfl ?_)
    obtain ⟨ka, rfl⟩ : ∃ ka : Nat, a = ka := ⟨a.toNat, by omega⟩
    have hmi := imp_get a1 hn
    rw [Int.toNat_natCast] at hmi
    refine ldS xa_24 la_74 hA.im hmi imp_len fun row hrow => ?_
    obtain ⟨pv9, rfl, hp9⟩ := hrow
    obtain ⟨a7, c7, rfl⟩ := hp9.shape
    refine asB sa_74 rfl rfl fun b9 w9 hb9 x9 => ?_
    have hb9 : Boxed w9 b9 [.string (i.imp (ka : Int)).name, i64 (i.imp (ka : Int)).exp, .slice a7 (i.imp (ka : Int)).params.length c7, i64 (i.imp (ka : Int)).result] := hb9
    have D9 : Ext w9 w9.drew := (Ext.refl _).drew
    have xd9 := (xx.trans x9).trans D9
    have hp9 := (hp9.ext x9).ext D9
    refine drawD.mk' (fun w' => Ext w9 w') D9 ?_
    refine yfB (fun w' hw => (hb6.ext x9).ext hw) fa_71_1 l1_3 rfl ?_
    refine yfB (fun w' hw => hb9.ext hw) fa_74_3 l1_3 rfl ?_
    refine yfB (fun w' hw => hb9.ext hw) fa_74_2 l1_23 rfl (yLen xa_23 hp9 ?_)
    refine yieldS.ok (fun w' _ => r_sub) ?_
    rw [wrap_id (by omega) (by omega)]
    refine yfB (fun w' hw => hb9.ext hw) fa_74_2 l1_23 rfl (yLen xa_23 hp9 ?_)
    refine result62 (by omega) ⟨D9, ?_⟩
    refine row63 ha (by omega) fun v w10 ho10 x10 => ⟨D9.trans x10, ?_⟩
    refine yBld bd_157 [(0, i64 (ka : Nat)), (1, i64 _), (2, v)] rfl (by simp [own_one ho10, one_i]) (yMki mi_157 ?_)
    exact hk _ _ ⟨v, rfl, own_mono ho10 xd9.size⟩ (xd9.trans x10)
  · simp only [evL, Int.reduceEq, decide_true, decide_false]
    intros
    refine ldB hb5 fa_47_1 l1_3 rfl ?_
    refine V_sub.2 ?_
    rw [wrap_id (by omega) (by omega)]
    refine result62 (by omega) ?_
    refine bld bd_105 [(0, i64 _)] rfl rfl (mki mi_105 ?_)
    exact hk _ _ (plainN rfl rfl) xx
end Go.Proofs.YtcdbikfnlggbnaaGreatDoor
namespace Go.Proofs.YtcdbikfnlggbnaaGreatDoor
open Go.Vc Go.Tc
variable {w : World} {K : Value → World → Prop}
def aimN (st : List Int) : GNode → GNode
  | .goto t => .goto (nth st t.toNat)
  | .branch c t => .branch c (nth st t.toNat)
  | n => n
def aimOk (st : List Int) : GNode → Prop
  | .goto t => 0 ≤ t ∧ t < st.length
  | .branch _ t => 0 ≤ t ∧ t < st.length
  | _ => True
theorem aimed32 {av sv : Value} {n : GNode} {st : List Int} (hs : IntsAre w sv st) (hb : aimOk st n) (hk : ∀ w', Ext w w' → K ((aimN st n).val av) w') : callD Tryz.prog 32 #[n.val av, sv] w K := by
  apply F32_wp
  unfold F32_den
  have other : ∀ {t : Nat} {c : Array Value}, t ≠ 146 → t ≠ 148 → n.val av = .iface t (.agg c) → aimN st n = n → F32_den (n.val av) sv w K := fun h1 h2 he h3 => by
    unfold F32_den
    rw [he]
    refine tm ta_146 h1 fun _ _ _ => ?_
    refine tm ta_148 h2 fun _ _ _ => ?_
    rw [h3, he] at hk
    exact hk _ (Ext.refl _)
  unfold F32_den at other
  cases n with
  | goto t =>
    obtain ⟨h0, h1⟩ := hb
    refine th ta_146 ?_
    refine asK sa_146 rfl rfl fun w1 hB x1 => ?_
    have hB : Blk w1 w.heap.size [i64 t] 146 := hB
    refine ldB (Blk.boxed hB) fa_146_0 l1_3 rfl ?_
    obtain ⟨t, rfl⟩ : ∃ q : Nat, t = q := ⟨t.toNat, by omega⟩
    refine ldx xa_23 l1_3 (hs.ext x1) (by omega) (by omega) (getI (getN (by omega))) ?_
    refine stF fa_146_0 inf3 hB (n := 1) rfl (by decide) rfl ?_
    have hB2 := hB.set 0 (i64 (nth st t))
    have x2 : Ext w (w1.setCell ⟨w.heap.size, 0, none⟩ (i64 (nth st t))) := x1.setCell (Nat.le_refl _) _
    generalize w1.setCell ⟨w.heap.size, 0, none⟩ (i64 (nth st t)) = w2 at hB2 x2
    refine ldA (Blk.boxed hB2) la_146 rfl (mki mi_146 ?_)
    exact hk _ x2
  | branch c t =>
    obtain ⟨h0, h1⟩ := hb
    refine tm ta_146 (by decide) fun _ _ _ => ?_
    refine th ta_148 ?_
    refine asK sa_148 rfl rfl fun w1 hB x1 => ?_
    have hB : Blk w1 w.heap.size [i64 c, i64 t] 148 := hB
    refine ldB (Blk.boxed hB) fa_148_1 l1_3 rfl ?_
    obtain ⟨t, rfl⟩ : ∃ q : Nat, t = q := ⟨t.toNat, by omega⟩
    refine ldx xa_23 l1_3 (hs.ext x1) (by omega) (by omega) (getI (getN (by omega))) ?_
    refine stF fa_148_1 inf3 hB (n := 2) rfl (by decide) rfl ?_
    have hB2 := hB.set 1 (i64 (nth st t))
    have x2 : Ext w (w1.setCell ⟨w.heap.size, 1, none⟩ (i64 (nth st t))) := x1.setCell (Nat.le_refl _) _
    generalize w1.setCell ⟨w.heap.size, 1, none⟩ (i64 (nth st t)) = w2 at hB2 x2
    refine ldA (Blk.boxed hB2) la_148 rfl (mki mi_148 ?_)
    exact hk _ x2
  | _ => exact other (by decide) (by decide) rfl rfl
end Go.Proofs.YtcdbikfnlggbnaaGreatDoor
