/- The maker of applets: a method's code, walked. The four names. An applet, made: slices of steps, rows of structs. An applet, made. An applet, made, walked. An applet, bent: laws. An applet, bent. Applets. The law's applet. The lifting, as plain data; its small functions. The lifting: a node. The lifting: a node, walked. The lifting: where a jump aims. The lifting: what is reached. The lifting: the program under way, in memory. The lifting: a node of the program is set; jumps aim well. The lifting, walked. LiftRefuses: the law. Chapter 18's example: a closed call, by the contract of Lift. The row's last step, from 'Ext': what was there is as it was; new blocks may be anything. What an argument reads as, it reads as behind a call that leaves all that was there. What a row lays, read at an element of an array, wherever the array stands on the list. -/
import Derived.Test.YtcdbikfnlggbnaaGreatDoorGe
import Derived.Laws.RangeString
import Derived.Test.YtcdbikfnlggbnaaGreatDoorGb
import Derived.WalkKit
import Derived.ProofKit
import Derived.OpenShut
import Derived.WideKeyArgs
import Derived.ChangeArms
import Derived.FnData
namespace Go.Vc
theorem apS {P : Program} {w : World} {K : Value → World → Prop} {t e by_ ty : Nat} (h : XE P t e by_) {B : Nat} {v : Value} {n : Nat} {xs : List Value} (ho : w.ownsRow B e 1 v n xs) {x : Value} {m : Nat} {news : List Value} (hs : SliceIs w x 1 m news) (h1 : news.all oneC = true)
    (hb : (n + m) * by_ ≤ 140737488355328) (h63 : n + m ≤ maxLen) (hB : B ≤ w.heap.size)
    (hk : ∀ v' w', w'.ownsRow B e 1 v' (n + m) (xs ++ news) → w.grownBy w' v.ownBlock → (v'.ownBlock = v.ownBlock ∨ v'.ownBlock = some w.heap.size) → K v' w') :
    V P (Builtin.append_ #[t, t] ty #[v, x]) w K := by
  obtain ⟨z, ht, hi, hz⟩ := h
  exact apG ht hi hz (by omega) ho hs h1 hb h63 hB hk
end Go.Vc
namespace Go.Proofs.YtcdbikfnlggbnaaGreatDoor
open Go.Vc Go.Tc
variable {w : World} {K : Value → World → Prop}
theorem insC_op {l : List Ins} {k : Nat} {x : Ins} (h : l[k]? = some x) : (insC l)[k * 3 + 0]? = some (i64 x.op) := by
  have := insC_row h
  have e : ((insC l).drop (k * 3))[0]? = some (i64 x.op) := by
    rw [← List.take_append_drop 3 ((insC l).drop (k * 3)), this]; rfl
  rwa [List.getElem?_drop] at e
theorem Cd.weak {c : Mc} {wb : World} {L N d N' : Nat} (h : Cd c wb w L N d) (h2 : N ≤ N') : Cd c wb w L N' d := by
  obtain ⟨o, fr, cv, code, pos, a1, a2, a3, a4, a5⟩ := h
  exact ⟨o, fr, cv, code, pos, a1, a2, a3, by omega, a5⟩
set_option maxHeartbeats 4000000 in
theorem code26 {rv mv iv : Value} {rl : List Rw} {row : List Value} {m : Mth} {ms : List Mth} {is : List Imp} (hr : RwsAre w rv rl) (hrow : MthIs w row m) (hm : MthsAre w mv ms) (hi : ImpsAre w iv is) (hb : BinsOk w) (rn : rl.length ≤ 5000000000000) (pl : m.params.length ≤ 1000) (ll : m.locals.length ≤ 1000)
    (m0 : 0 < ms.length ∧ ms.length ≤ 1000) (m4 : ∀ m ∈ ms, m.params.length ≤ 4) (i0 : is.length ≤ 1000) (i4 : ∀ x ∈ is, x.params.length ≤ 4)
    (hk : ∀ v code w', w'.ownsRow w.heap.size 71 3 v code.length (insC code) → (∀ x ∈ code, x.rg) → code.length ≤ 700000 → Ext w w' → K v w') :
    callD Tryz.prog 26 #[rv, .agg row.toArray, mv, iv] w K := by
  obtain ⟨pv, lv, cv, rfl, hp, hl, hc⟩ := hrow
  apply F26_wp
  unfold F26_den
  refine bx fun b5 w1 hb5 x1 => ?_
  have hb5 : Boxed w1 b5 [pv, i64 m.result, lv, cv] := hb5
  have D1 : Ext w1 w1.drew := (Ext.refl _).drew
  have x2 := x1.trans D1
  refine drawD.mk' (fun w' => Ext w1.drew w') (Ext.refl _) ?_
  refine yfB (fun w' hx => hb5.ext (D1.trans hx)) fa_47_0 l1_23 rfl ?_
  refine yfB (fun w' hx => hb5.ext (D1.trans hx)) fa_47_2 l1_23 rfl ?_
  have hb5 := hb5.ext D1
  generalize w1.drew = w2 at x2 hb5
  clear D1
  refine bsl xe_23 [] rfl rfl (by simp) rfl fun v3 w3 ho3 x3 => ⟨x3, ?_⟩
  refine apO xe_23 ho3 (hp.ext (x2.trans x3)) (allI _) (by omega) (by unfold maxLen; omega) x3.size fun v4 w4 ho4 hg4 => ?_
  have x4 : Ext w2 w4 := x3.grown hg4 fun k hk => (ho3.lt k hk).1
  refine ⟨x4, apO xe_23 ho4 (hl.ext (x2.trans x4)) (allI _) (by omega) (by unfold maxLen; omega) x4.size fun lv' w5 ho5 hg5 => ?_⟩
  have x5 : Ext w2 w5 := x4.grown hg5 fun k hk => (ho4.lt k hk).1
  refine ⟨x5, yBld bd_118 [(3, lv')] rfl (by simp [own_one ho5]) ?_⟩
  have hloc : IntsAre w5 lv' (m.params ++ m.locals) := by
    have := SliceIs.of_own ho5
    unfold IntsAre
    simpa using this
  clear ho3 ho4 ho5 hg4 hg5
  refine bxK fun w6 hB6 x6 => ⟨x5.trans x6, ?_⟩
  have hB6 : Blk w6 w5.heap.size [nilS, nilS, i64 ((0 : Nat) : Int), lv', i64 ((0 : Nat) : Int)] 118 := hB6
  have x25 := x2.trans x5
  have hr := hr.ext x25
  have hm := hm.ext x25
  have hi := hi.ext x25
  have hbins : BinsOk w5 := fun j hj => by
    obtain ⟨n, hn⟩ := hb j hj
    exact ⟨n, x25.cell hn⟩
  have hb5 := hb5.ext x5
  have hw5 : w.heap.size ≤ w5.heap.size := x25.size
  generalize hgg : w5.heap.size = g at hB6 hw5
  clear x1 x3 x4
  have hlocl : (m.params ++ m.locals).length ≤ 1000000 := by simp; omega
  generalize m.params ++ m.locals = loc at hloc hlocl
  -- the numbers
  refine ⟨fun v w' => ∃ (j : Nat) (nv : Value) (nums : List Int), v = i64 j ∧ j ≤ rl.length ∧ nums.length = 3 * j ∧ Ext w5 w' ∧ Blk w' g [nilS, nv, i64 ((0 : Nat) : Int), lv', i64 ((0 : Nat) : Int)] 118 ∧ w'.ownsRow (g + 1) 3 1 nv nums.length (nums.map i64), fun v _ => rl.length - (RowKit.intOf v).toNat, ⟨0, nilS, [], rfl, Nat.zero_le _, rfl, x6, hB6, World.ownsRow_nil _ _ _ _⟩, ?_⟩
  rintro _ wB ⟨j, nv, nums, rfl, hj, hnl, xB, hBB, hoB⟩ _
  have hlt5 := hBB.lt
  refine lnR xa_22 (hr.ext xB) (V_lss.2 (ifD_dec (fun hlt => ?_) fun hge => ?_))
  · obtain ⟨x, hx⟩ := ex_get (l := rl) (j := j) (by omega)
    have D2 : Ext wB wB.drew := (Ext.refl _).drew
    have xd := xB.trans D2
    have hBd := hBB.ext D2
    have hod := D2.own hoB
    refine drawD.mk' (fun w' => Ext w5 w' ∧ Blk w' g [nilS, nv, i64 ((0 : Nat) : Int), lv', i64 ((0 : Nat) : Int)] 118) ⟨xd, hBd⟩ ?_
    refine ⟨.inl ⟨_, rfl⟩, yfB (fun w' hw => Blk.boxed hw.2) fa_118_1 l1_23 rfl ?_⟩
    refine ySF xa_22 fa_120_1 l1_3 (hr.str hx) (fun w' hw => hw.1) hx fun row hrow => ⟨i64 x.a, by rw [hrow]; rfl, by decide, ?_⟩
    refine ySF xa_22 fa_120_2 l1_3 (hr.str hx) (fun w' hw => hw.1) hx fun row hrow => ⟨i64 x.b, by rw [hrow]; rfl, by decide, ?_⟩
    refine ySF xa_22 fa_120_3 l1_3 (hr.str hx) (fun w' hw => hw.1) hx fun row hrow => ⟨i64 x.e, by rw [hrow]; rfl, by decide, ?_⟩
    refine bsl xe_23 [i64 x.a, i64 x.b, i64 x.e] rfl rfl (by simp) rfl fun v7 w7 ho7 x7 => ⟨⟨xd.trans x7, hBd.ext x7⟩, ?_⟩
    have hs7 := hBd.lt
    have hs8 := x7.size
    refine apO xe_23 (x7.own hod) (SliceIs.of_own ho7) rfl (by omega) (by unfold maxLen; omega) (by omega) fun v8 w8 ho8 hg8 => ?_
    have hlo : ∀ k, nv.ownBlock = some k → g + 1 ≤ k := fun k hk => (hod.lt k hk).1
    have x8 : Ext w5 w8 := (xd.trans x7).grown hg8 fun k hk => by have := hlo k hk; omega
    have hB8 : Blk w8 g _ _ := (Fr.of_grown (S := fun k => nv.ownBlock = some k) hg8 fun k hk => hk).blk (hBd.ext x7) fun hk => by have := hlo _ hk; omega
    refine ⟨⟨x8, hB8⟩, ⟨.inl ⟨_, rfl⟩, yieldS.ok (fun w' hw => FA.ex fa_118_1 w' _ _) ?_⟩⟩
    refine stFU inf23 hB8 (n := 5) rfl (by decide) (own_one ho8) (V_add.2 ?_)
    rw [wrap_id (by omega) (by omega), i64_succ]
    refine ⟨⟨j + 1, v8, nums ++ [x.a, x.b, x.e], rfl, by omega, by simp; omega, x8.setCell (by omega) _, hB8.set 1 _, ?_⟩, by simp only [intOf_i64]; omega⟩
    have := (Fr.of_set (S := fun i => i = g) (w := w8) (b := g) (o := 1) (v := v8) rfl).own ho8 fun k hk he => by have := (ho8.lt k hk).1; omega
    simpa using this
  -- the statements
  have hf : ∀ {w'}, Fr (fun k => k = g ∨ wB.heap.size ≤ k) wB w' → IntsAre w' nv nums ∧ Ext w5 w' := fun f => ⟨SliceIs.of_own (f.own hoB fun k hk hS => by have := hoB.lt k hk; omega), f.ext xB fun k hS => by have := xB.size; omega⟩
  have hMo : ∀ (H : Nat → Prop) {w1 : World}, Fr (fun k => k = g ∨ wB.heap.size ≤ k) wB w1 → (∀ k, k < wB.heap.size → ¬ H k → k = g) → (∀ k, H k → k < w1.heap.size ∧ k ≠ g) → Mo ⟨H, wB.heap.size, g, nv, lv', nums, loc⟩ w1 ∧ ∀ w', Fr (fun k => ¬ H k) w1 w' → Fr (fun k => k = g ∨ wB.heap.size ≤ k) wB w' := by
    intro H w1 f h1 h2
    have tr : ∀ w', Fr (fun k => ¬ H k) w1 w' → Fr (fun k => k = g ∨ wB.heap.size ≤ k) wB w' := fun w' f' => f.trans f' fun i hi hn => .inl (h1 i hi hn)
    refine ⟨⟨⟨hlt5, f.size⟩, h2, fun w' f' => (hf (tr w' f')).1, fun w' f' => hloc.ext (hf (tr w' f')).2, fun w' f' j hj => ?_, ?_, hlocl⟩, tr⟩
    · obtain ⟨n, hn⟩ := hbins j hj
      exact ⟨n, (hf (tr w' f')).2.cell hn⟩
    · show nums.length ≤ _
      omega
  refine ⟨fun tv v w' => ∃ (j : Nat) (tl : List Int) (cv : Value) (code : List Ins) (pos : Nat), v = i64 j ∧ j ≤ rl.length ∧ j ≤ 12 ∧ tl.length = j ∧ Fr (fun k => k = g ∨ wB.heap.size ≤ k) wB w' ∧ Blk w' g [cv, nv, i64 (pos : Nat), lv', i64 ((0 : Nat) : Int)] 118 ∧ w'.ownsRow wB.heap.size 71 3 cv code.length (insC code) ∧ code.length ≤ 4100 * j ∧ pos ≤ 4100 * j ∧ (∀ x ∈ code, x.rg) ∧ w'.ownsRow wB.heap.size 3 1 tv tl.length (tl.map i64) ∧ ∀ k, cv.ownBlock = some k → tv.ownBlock ≠ some k,
    fun _ v _ => 12 - (RowKit.intOf v).toNat, ⟨0, [], nilS, [], 0, rfl, Nat.zero_le _, Nat.zero_le _, rfl, Fr.refl _ _, hBB, World.ownsRow_nil _ _ _ _, Nat.le_refl _, Nat.le_refl _, fun _ h => by simp at h, World.ownsRow_nil _ _ _ _, fun k hk => by cases hk⟩, ?_⟩
  rintro tv _ w9 ⟨j, tl, cv, code, pos, rfl, hj, hj12, htl, fr, hB9, ho9, hc9, hp9, hrg, hot, hne⟩ _
  have hs9 := fr.size
  have hng : ∀ k, tv.ownBlock = some k → wB.heap.size ≤ k := fun k hk => (hot.lt k hk).1
  -- marks grow by one
  have grow : ∀ {K' : Value → World → Prop}, (∀ tv' w', Fr (fun k => k = g ∨ wB.heap.size ≤ k) wB w' → Blk w' g [cv, nv, i64 (pos : Nat), lv', i64 ((0 : Nat) : Int)] 118 → w'.ownsRow wB.heap.size 71 3 cv code.length (insC code) → w'.ownsRow wB.heap.size 3 1 tv' (tl ++ [(code.length : Int)]).length ((tl ++ [(code.length : Int)]).map i64) → (∀ k, cv.ownBlock = some k → tv'.ownBlock ≠ some k) → K' tv' w') →
      Go.Vc.Safe (.pointer (some ⟨g, 0, none⟩)) ∧ V Tryz.prog (Instr.fieldAt 118 (.pointer (some ⟨g, 0, none⟩)) 0) w9 fun t75 w29 => V Tryz.prog (Instr.loadAt 45 t75) w29 fun t76 w30 => V Tryz.prog (Builtin.len_ #[45] 3 #[t76]) w30 fun t77 w31 => V Tryz.prog (Instr.buildSlice 23 1 #[(0, t77)]) w31 fun t78 w32 => V Tryz.prog (Builtin.append_ #[23, 23] 23 #[tv, t78]) w32 K' := by
    intro K' hK
    refine ⟨.inl ⟨_, rfl⟩, ldB (Blk.boxed hB9) fa_118_0 l1_45 rfl (lnx xa_45 (SliceIs.of_own ho9) ?_)⟩
    refine bsl xe_23 [i64 (code.length : Nat)] rfl rfl (by simp) rfl fun v7 w7 ho7 x7 => ?_
    have hs7 := x7.size
    refine apS xe_23 (x7.own hot) (SliceIs.of_own ho7) rfl (by omega) (by unfold maxLen; omega) (by omega) fun v8 w8 ho8 hg8 hl8 => ?_
    have f8 : Fr (fun k => tv.ownBlock = some k) w9 w8 := (Fr.of_ext x7).trans (Fr.of_grown hg8 fun k hk => hk) fun _ _ h => h
    refine hK v8 w8 (fr.trans f8 fun i _ hi => .inr (hng i hi)) (f8.blk hB9 fun hk => by have := hng _ hk; omega) (f8.own ho9 fun k hk hk' => hne k hk hk') (by simpa using ho8) fun k hk hk' => ?_
    rcases hl8 with h8 | h8
    · rw [h8] at hk'; exact hne k hk hk'
    · rw [h8] at hk'
      cases hk'
      have := (ho9.lt _ hk).2
      omega
  -- what stays, where the marks have grown
  have hold : ∀ {tv' : Value} {w' : World} {L N : Nat}, code.length = L → pos ≤ N → Fr (fun k => k = g ∨ wB.heap.size ≤ k) wB w' → Blk w' g [cv, nv, i64 (pos : Nat), lv', i64 ((0 : Nat) : Int)] 118 → w'.ownsRow wB.heap.size 71 3 cv code.length (insC code) → w'.ownsRow wB.heap.size 3 1 tv' (tl ++ [(code.length : Int)]).length ((tl ++ [(code.length : Int)]).map i64) → (∀ k, cv.ownBlock = some k → tv'.ownBlock ≠ some k) →
      ∃ H : Nat → Prop, Cd ⟨H, wB.heap.size, g, nv, lv', nums, loc⟩ w' w' L N 0 ∧ (∀ w2, Fr (fun k => ¬ H k) w' w2 → Fr (fun k => k = g ∨ wB.heap.size ≤ k) wB w2 ∧ w2.ownsRow wB.heap.size 3 1 tv' (tl ++ [(code.length : Int)]).length ((tl ++ [(code.length : Int)]).map i64)) ∧ (∀ k, tv'.ownBlock = some k → H k) := by
    intro tv' w' L N hL hN f' hB' ho' ho2' hne'
    have hs := f'.size
    have hcv : ∀ k, cv.ownBlock = some k → wB.heap.size ≤ k := fun k hk => (ho'.lt k hk).1
    have htv : ∀ k, tv'.ownBlock = some k → k < w'.heap.size ∧ k ≠ g ∧ cv.ownBlock ≠ some k := fun k hk => ⟨(ho2'.lt k hk).2, by have := (ho2'.lt k hk).1; omega, fun hc => hne' k hc hk⟩
    obtain ⟨mo, tr⟩ := hMo (fun k => k < w'.heap.size ∧ k ≠ g ∧ cv.ownBlock ≠ some k) f' (fun k hk hH => by
      apply Classical.byContradiction
      intro hkg
      exact hH ⟨by omega, hkg, fun hc => by have := hcv k hc; omega⟩) (fun k hk => ⟨hk.1, hk.2.1⟩)
    exact ⟨_, ⟨mo, Fr.refl _ _, cv, code, pos, hB', ho', hL, hN, hrg, fun k hk hH => hH.2.2 hk⟩, fun w2 f2 => ⟨tr w2 f2, f2.own ho2' fun k hk hH => hH (htv k hk)⟩, htv⟩
  refine lnR xa_22 (hr.ext (hf fr).2) (V_lss.2 ?_)
  by_cases c0 : (j : Int) < (rl.length : Int) ∧ (j : Int) < 12 ∧ (code.length : Int) < 70
  case pos =>
    obtain ⟨c1, c2, c3⟩ := c0
    simp only [c1, c2, evL, ne_eq, reduceIte, decide_true]
    refine ⟨.inl ⟨_, rfl⟩, ldB (Blk.boxed hB9) fa_118_0 l1_45 rfl (lnx xa_45 (SliceIs.of_own ho9) (V_lss.2 ?_))⟩
    simp only [c3, evL, decide_true]
    refine grow fun tv' w3 f3 hB3 ho3 ho4 hne3 => ?_
    obtain ⟨H, hcd, hst, htH⟩ := hold rfl (Nat.le_refl _) f3 hB3 ho3 ho4 hne3
    have D3 : Ext w3 w3.drew := (Ext.refl _).drew
    obtain ⟨x, hx⟩ := ex_get (l := rl) (j := j) (by omega)
    obtain ⟨uv, urun, usl⟩ := r_sl Tryz.underlying23 inf3 (SliceIs.of_own ho4) (lo := none) (hi' := some (.int .i64 (j : Int))) (a := 0) (b := j) (.inl ⟨rfl, rfl⟩) (.inr rfl) (by omega) (by simp; omega)
    refine drawD.mk' (fun w' => Ext w3 w') D3 ?_
    refine ySS xa_22 la_120 ((hr.ext (hf f3).2).str hx) (fun _ h => h) hx (fun _ row e h => by rw [h]; rfl) fun row hrow => ?_
    have hrow : row = [i64 x.k, i64 x.a, i64 x.b, i64 x.e] := hrow
    subst hrow
    refine yieldS.ok (fun w' _ => urun _) ?_
    have mk3 := (hcd.mk (n := 4100 * j) hc9 hp9).ext D3
    refine stmt49 (tl := tl) (ms := ms) (is := is) mk3 (by omega) (fun w' f => ?_) (by omega) (fun w' f => hm.ext (hf (hst w' f).1).2) (fun w' f => hi.ext (hf (hst w' f).1).2) m0 m4 i0 i4 fun w4 h4 => V_add.2 ?_
    · have := usl w' (SliceIs.of_own (hst w' f).2)
      unfold IntsAre
      rw [htl]
      simpa [← htl] using this
    · rw [wrap_id (by omega) (by omega), i64_succ]
      obtain ⟨_, f4, cv4, code4, pos4, b1, b2, b3, b4, b5, b6, b7⟩ := h4
      obtain ⟨f5, ho5⟩ := hst _ f4
      exact ⟨⟨j + 1, tl ++ [(code.length : Int)], cv4, code4, pos4, rfl, by omega, by omega, by simp [htl], f5, b1, b2, by omega, by omega, b6, ho5, fun k hk hk' => b7 k hk (htH k hk')⟩, by simp only [intOf_i64]; omega⟩
  have c5 : ¬ ((j : Int) < (rl.length : Int)) ∨ ((j : Int) < (rl.length : Int) ∧ ¬ ((j : Int) < 12)) ∨ ((j : Int) < (rl.length : Int) ∧ (j : Int) < 12 ∧ ¬ ((code.length : Int) < 70)) := by omega
  clear c0
  rcases c5 with c1 | ⟨c1, c2⟩ | ⟨c1, c2, c3⟩
  case' neg.inl => simp only [c1, evL, ne_eq, reduceIte, Bool.false_eq_true, decide_false]
  case' neg.inr.inl => simp only [c1, c2, evL, ne_eq, reduceIte, Bool.false_eq_true, decide_true, decide_false]
  case' neg.inr.inr =>
    simp only [c1, c2, evL, ne_eq, reduceIte, decide_true]
    refine ⟨.inl ⟨_, rfl⟩, ldB (Blk.boxed hB9) fa_118_0 l1_45 rfl (lnx xa_45 (SliceIs.of_own ho9) (V_lss.2 ?_))⟩
    simp only [c3, evL, decide_false]
  all_goals
    refine grow fun tv' w3 f3 hB3 ho3 ho4 hne3 => ?_
    obtain ⟨H, hcd, hst, htH⟩ := hold (N := 4100 * j) rfl hp9 f3 hB3 ho3 ho4 hne3
    have htl' : (tl ++ [(code.length : Int)]).length = j + 1 := by simp [htl]
    clear hold grow
    generalize tl ++ [(code.length : Int)] = tl' at *
    clear hB9 ho9 hrg hot hne fr hng hs9 hB3 ho3 hne3 f3 hp9 htl
    generalize code.length = L at *
    have fin : ∀ {w' L N}, Cd ⟨H, wB.heap.size, g, nv, lv', nums, loc⟩ w3 w' L N 0 → L ≤ 700000 → Go.Vc.Safe (.pointer (some ⟨g, 0, none⟩)) ∧ V Tryz.prog (Instr.fieldAt 118 (.pointer (some ⟨g, 0, none⟩)) 0) w' fun t w => V Tryz.prog (Instr.loadAt 45 t) w K := by
      intro w' L N hc hL
      obtain ⟨_, f, cv, code, pos, b1, b2, b3, b4, b5, b6⟩ := hc
      have hx := (hf (hst _ f).1).2
      have := xB.size
      exact ⟨.inl ⟨_, rfl⟩, ldB (Blk.boxed b1) (by first | exact fa_118_0) (by first | exact l1_126 | exact l1_179 | exact l1_210 | exact l1_212 | exact l1_23 | exact l1_24 | exact l1_25 | exact l1_3 | exact l1_36 | exact l1_4 | exact l1_45) rfl (hk _ code w' (own_mono b2 (show w.heap.size ≤ wB.heap.size by omega)) b5 (by omega) (x25.trans hx))⟩
    have hmt : ∀ {w'}, Fr (fun k => ¬ H k) w3 w' → Boxed w' b5 [pv, i64 m.result, lv, _] := fun f => hb5.ext (hf (hst _ f).1).2
    refine ⟨fun v w' => ∃ k : Nat, v = i64 k ∧ k ≤ L ∧ Cd ⟨H, wB.heap.size, g, nv, lv', nums, loc⟩ w3 w' L (4100 * j) 0, fun v _ => L - (RowKit.intOf v).toNat, ⟨0, rfl, Nat.zero_le _, hcd⟩, ?_⟩
    clear hcd
    rintro _ w10 ⟨k, rfl, hkL, hcd⟩ _
    refine ⟨.inl ⟨_, rfl⟩, ldCL hcd (V_lss.2 (ifD_dec (fun hlt => ?_) fun hge2 => ?_))⟩
    · obtain ⟨g', cap, code', pos', hcl, hpp, hC⟩ := hcd.code (by omega)
      obtain ⟨x, hx⟩ := ex_get (l := code') (j := k) (by omega)
      have hsl := SliceIs.of_own hC.own
      have nxt : ∀ {w'}, Cd ⟨H, wB.heap.size, g, nv, lv', nums, loc⟩ w3 w' L (4100 * j) 0 → V Tryz.prog (binOp .add 3 (i64 k) (i64 1)) w' fun t w2 => (∃ k : Nat, t = i64 k ∧ k ≤ L ∧ Cd ⟨H, wB.heap.size, g, nv, lv', nums, loc⟩ w3 w2 L (4100 * j) 0) ∧ L - (RowKit.intOf t).toNat < L - (RowKit.intOf (i64 (k : Int))).toNat := by
        intro w' hc'
        refine V_add.2 ?_
        rw [wrap_id (by omega) (by omega), i64_succ]
        exact ⟨⟨k + 1, rfl, by omega, hc'⟩, by simp only [intOf_i64]; omega⟩
      refine ⟨.inl ⟨_, rfl⟩, ldB (Blk.boxed hC.blk) (by first | exact fa_118_0) (by first | exact l1_126 | exact l1_179 | exact l1_210 | exact l1_212 | exact l1_23 | exact l1_24 | exact l1_25 | exact l1_3 | exact l1_36 | exact l1_4 | exact l1_45) rfl ?_⟩
      refine ldxF xa_45 fa_71_0 (by first | exact l1_126 | exact l1_179 | exact l1_210 | exact l1_212 | exact l1_23 | exact l1_24 | exact l1_25 | exact l1_3) hsl (by omega) (by omega) (insC_op hx) (V_eqlI.2 ?_)
      by_cases h24 : x.op = 24
      case neg => simp only [h24, evL, reduceIte, Bool.false_eq_true, decide_false]; exact nxt hcd
      simp only [h24, evL, reduceIte, decide_true]
      refine ⟨.inl ⟨_, rfl⟩, ldB (Blk.boxed hC.blk) (by first | exact fa_118_0) (by first | exact l1_126 | exact l1_179 | exact l1_210 | exact l1_212 | exact l1_23 | exact l1_24 | exact l1_25 | exact l1_3 | exact l1_36 | exact l1_4 | exact l1_45) rfl ?_⟩
      refine ldxF xa_45 fa_71_1 (by first | exact l1_126 | exact l1_179 | exact l1_210 | exact l1_212 | exact l1_23 | exact l1_24 | exact l1_25 | exact l1_3) hsl (by omega) (by omega) (insC_at hx) (V_lss.2 ?_)
      by_cases ha0 : x.a < 0
      case neg => simp only [ha0, evL, decide_false]; exact nxt hcd
      simp only [ha0, evL, decide_true]
      refine ⟨fun v w' => ∃ q : Nat, v = i64 q ∧ q < tl'.length ∧ w' = w10, fun v _ => tl'.length - (RowKit.intOf v).toNat, ⟨0, rfl, by omega, rfl⟩, ?_⟩
      rintro _ w11 ⟨q, rfl, hq, hw⟩ _
      have hw := hw.symm
      subst hw
      have hot := SliceIs.of_own (hst _ hC.fr).2
      refine lnx xa_23 hot (V_sub.2 ?_)
      rw [wrap_id (by omega) (by omega)]
      refine V_lss.2 ?_
      by_cases c0 : (q : Int) < (tl'.length : Int) - 1 ∧ nth tl' q ≤ (k : Int)
      case pos =>
        obtain ⟨c1, c2⟩ := c0
        simp only [c1, evL, reduceIte, decide_true]
        refine ldx xa_23 l1_3 hot (by omega) (by omega) (getI (getN (by omega))) (V_leq.2 ?_)
        simp only [c2, evL, decide_true]
        refine V_add.2 ?_
        rw [wrap_id (by omega) (by omega), i64_succ]
        exact ⟨⟨q + 1, rfl, by omega, rfl⟩, by simp only [intOf_i64]; omega⟩
      have c5 : ¬ ((q : Int) < (tl'.length : Int) - 1) ∨ ((q : Int) < (tl'.length : Int) - 1 ∧ ¬ (nth tl' q ≤ (k : Int))) := by omega
      clear c0
      rcases c5 with c1 | ⟨c1, c2⟩
      case' neg.inl => simp only [c1, evL, reduceIte, Bool.false_eq_true, decide_false]
      case' neg.inr =>
        simp only [c1, evL, reduceIte, decide_true]
        refine ldx xa_23 l1_3 hot (by omega) (by omega) (getI (getN (by omega))) (V_leq.2 ?_)
        simp only [c2, evL, decide_false]
      all_goals
        have D1 : Ext w10 w10.drew := (Ext.refl _).drew
        have hC := hC.ext D1
        have hot := hot.ext D1
        refine drawD.mk' (fun w' => Ext w10.drew w') (Ext.refl _) ?_
        refine ⟨.inl ⟨_, rfl⟩, yfB (fun w' hx => Blk.boxed (hC.blk.ext hx)) (by first | exact fa_118_0) (by first | exact l1_126 | exact l1_179 | exact l1_210 | exact l1_212 | exact l1_23 | exact l1_24 | exact l1_25 | exact l1_3 | exact l1_36 | exact l1_4 | exact l1_45) rfl ?_⟩
        refine yLen xa_23 hot ?_
        refine yieldS.ok (fun w' _ => r_sub) (yieldS.ok (fun w' _ => r_add) (yieldS.ok (fun w' _ => r_min) ?_))
        rw [show IntKind.i64.wrap ((tl'.length : Int) - 1) = (tl'.length : Int) - 1 from wrap_id (by omega) (by omega), show IntKind.i64.wrap ((q : Int) + 1) = (q : Int) + 1 from wrap_id (by omega) (by omega)]
        obtain ⟨r, hr2, hr3⟩ : ∃ r : Nat, min ((tl'.length : Int) - 1) ((q : Int) + 1) = r ∧ r < tl'.length := ⟨min (tl'.length - 1) (q + 1), by omega, by omega⟩
        rw [hr2]
        refine ySl xa_23 l1_3 hot (fun _ h => h) (by omega) (by omega) (getI (getN hr3)) ?_
        refine yieldS.ok (fun w' _ => r_index Tryz.underlying45 inf71 (by omega) (by omega)) ?_
        refine yieldS.ok (fun w' _ => FA.ex fa_71_1 w' _ _) ?_
        rw [Int.toNat_natCast]
        exact stIns hC (by omega) fun w12 code2 hl2 hC2 => nxt (hC2.cd (by omega) hpp)
    refine ⟨fun w' => ∃ L', L' ≤ 60000 ∧ Cd ⟨H, wB.heap.size, g, nv, lv', nums, loc⟩ w3 w' L' 60000 0, ?_, ?_⟩
    · refine ldB (hmt hcd.2.1) (by first | exact fa_118_0 | exact fa_118_1 | exact fa_118_2 | exact fa_118_3 | exact fa_118_4 | exact fa_120_0 | exact fa_120_1 | exact fa_120_2 | exact fa_120_3 | exact fa_137_0 | exact fa_137_1 | exact fa_137_2 | exact fa_137_3 | exact fa_137_4 | exact fa_137_5 | exact fa_146_0 | exact fa_148_1 | exact fa_178_0 | exact fa_178_1 | exact fa_199_0 | exact fa_199_1 | exact fa_27_0 | exact fa_27_1 | exact fa_27_2 | exact fa_27_3 | exact fa_27_4 | exact fa_38_1 | exact fa_38_2 | exact fa_47_0 | exact fa_47_1) (by first | exact l1_126 | exact l1_179 | exact l1_210 | exact l1_212 | exact l1_23 | exact l1_24 | exact l1_25 | exact l1_3) rfl (V_neqI.2 (ifD_dec (fun hr => ?_) fun hr => ⟨L, by omega, hcd.weak (by omega)⟩))
      refine ldB (hmt hcd.2.1) (by first | exact fa_118_0 | exact fa_118_1 | exact fa_118_2 | exact fa_118_3 | exact fa_118_4 | exact fa_120_0 | exact fa_120_1 | exact fa_120_2 | exact fa_120_3 | exact fa_137_0 | exact fa_137_1 | exact fa_137_2 | exact fa_137_3 | exact fa_137_4 | exact fa_137_5 | exact fa_146_0 | exact fa_148_1 | exact fa_178_0 | exact fa_178_1 | exact fa_199_0 | exact fa_199_1 | exact fa_27_0 | exact fa_27_1 | exact fa_27_2 | exact fa_27_3 | exact fa_27_4 | exact fa_38_1 | exact fa_38_2 | exact fa_47_0 | exact fa_47_1) (by first | exact l1_126 | exact l1_179 | exact l1_210 | exact l1_212 | exact l1_23 | exact l1_24 | exact l1_25 | exact l1_3) rfl ?_
      refine any50 (hcd.mk (n := 49200) (by omega) (by omega)) (by omega) fun w11 h11 => ?_
      obtain ⟨L', h1, h2⟩ := h11.cd
      exact ⟨L', by omega, h2.weak (by omega)⟩
    rintro w11 ⟨L', hL', hcd'⟩ _
    refine put51 (hcd'.mk (n := 60000) (by omega) (by omega)) (by omega) fun w12 h12 => ?_
    obtain ⟨L2, hL2, hcd2⟩ := h12.cd
    refine ⟨.inl ⟨_, rfl⟩, ldCL hcd2 (V_gtr.2 (ifD_dec (fun hg => ?_) fun hg => fin hcd2 (by omega)))⟩
    have hsB : wB.heap.size ≤ w12.heap.size := (hst _ hcd2.2.1).1.size
    refine bld bd_71 [(0, i64 39)] rfl rfl ?_
    refine bslG Tryz.underlying45 inf71 rfl (by decide) [.agg #[i64 39, i64 0, i64 0]] rfl rfl (by intro v hv; rw [List.mem_singleton] at hv; subst hv; rfl) (by decide) (by decide) fun uv w13 ho13 x13 => ?_
    refine ⟨.inl ⟨_, rfl⟩, stCode (code := [⟨39, 0, 0⟩]) (hcd2.ext x13) ho13 hsB (by intro x hx; rw [List.mem_singleton] at hx; subst hx; exact ⟨by decide, by decide⟩) (fun k hk hH => ?_) fun w14 hcd4 => ?_⟩
    · have h1 := (ho13.lt k hk).1
      have h2 := (hcd2.1.hH k hH).1
      have h3 := hcd2.2.1.size
      omega
    refine ldB (hmt hcd4.2.1) (by first | exact fa_118_0 | exact fa_118_1 | exact fa_118_2 | exact fa_118_3 | exact fa_118_4 | exact fa_120_0 | exact fa_120_1 | exact fa_120_2 | exact fa_120_3 | exact fa_137_0 | exact fa_137_1 | exact fa_137_2 | exact fa_137_3 | exact fa_137_4 | exact fa_137_5 | exact fa_146_0 | exact fa_148_1 | exact fa_178_0 | exact fa_178_1 | exact fa_199_0 | exact fa_199_1 | exact fa_27_0 | exact fa_27_1 | exact fa_27_2 | exact fa_27_3 | exact fa_27_4 | exact fa_38_1 | exact fa_38_2 | exact fa_47_0 | exact fa_47_1) (by first | exact l1_126 | exact l1_179 | exact l1_210 | exact l1_212 | exact l1_23 | exact l1_24 | exact l1_25 | exact l1_3) rfl (V_neqI.2 (ifD_dec (fun hr => ?_) fun hr => fin hcd4 (by simp)))
    refine bld bd_71 [(0, i64 1)] rfl rfl (bld bd_71 [(0, i64 39)] rfl rfl ?_)
    have hsB4 : wB.heap.size ≤ w14.heap.size := (hst _ hcd4.2.1).1.size
    refine bslG Tryz.underlying45 inf71 rfl (by decide) [.agg #[i64 1, i64 0, i64 0], .agg #[i64 39, i64 0, i64 0]] rfl rfl (by intro v hv; simp only [List.mem_cons, List.not_mem_nil, or_false] at hv; rcases hv with rfl | rfl <;> rfl) (by decide) (by decide) fun uv5 w15 ho15 x15 => ?_
    refine ⟨.inl ⟨_, rfl⟩, stCode (code := [⟨1, 0, 0⟩, ⟨39, 0, 0⟩]) (hcd4.ext x15) ho15 hsB4 (by intro x hx; simp only [List.mem_cons, List.not_mem_nil, or_false] at hx; rcases hx with rfl | rfl <;> exact ⟨by decide, by decide⟩) (fun k hk hH => ?_) fun w16 hcd6 => fin hcd6 (by simp)⟩
    have h1 := (ho15.lt k hk).1
    have h2 := (hcd4.1.hH k hH).1
    have h3 := hcd4.2.1.size
    omega
end Go.Proofs.YtcdbikfnlggbnaaGreatDoor
namespace Go.Vc
section
variable {P : Program} {w : World} {K : Value → World → Prop}
theorem run_next_dec (w : World) (s : ByteArray) (pos : Nat) (ty : TypeId) (h : pos < s.size) :
    (Instr.next (.pointer (some ⟨w.heap.size, 0, none⟩)) true ty).run P (w.iter s pos) = .ok (.tuple #[.bool true, i64 pos, .int .i32 (Utf8.decode s pos).1]) (w.iter s (pos + (Utf8.decode s pos).2)) := by
  simp only [Instr.next, getObj, setObj, Sem.run_bind, Sem.run, World.iter_heap, Result.andThen, h, if_true, World.iter_set]
  simp [goInt]
theorem V_tup {a : Array Value} {n : Nat} {v : Value} (h : a[n]? = some v) (hk : K v w) : V P (Instr.extract (.tuple a) n) w K := V.ok (by simp [Instr.extract, h]) hk
theorem r_slS {t : TypeId} (ht : P.underlying t = some .string) {s : ByteArray} {k : Nat} (h : k ≤ s.size) : (Instr.sliceAt t (.string s) (some (i64 k)) none none).run P w = .ok (.string (s.extract k s.size)) w := by
  simp [Instr.sliceAt, Instr.slice, run_underlying ht, Instr.sliceBounds, Instr.sliceBound, asIntOf, h]
theorem r_arrK {t e n : TypeId} {z : Value} {by_ sz : Nat} (ht : P.underlying t = some (.array n e)) (hi : Inf P e z sz by_) {b off : Nat} {k : IntKind} {i : Int} (h0 : 0 ≤ i) (h1 : i < n) :
    (Instr.indexAt t (.pointer (some ⟨b, off, none⟩)) (.int k i)).run P w = .ok (.pointer (some ⟨b, off + i.toNat * sz, none⟩)) w := by
  simp [Instr.indexAt, asIntOf, run_underlying ht, Instr.sureAddr, run_size hi, h0, h1, add_mk]
end
end Go.Vc
namespace Go.Proofs.YtcdbikfnlggbnaaGreatDoor
open Go.Vc Go.Tc
variable {w : World} {K : Value → World → Prop}
def nmB : List ByteArray := [⟨#[97, 108, 112, 104, 97]⟩, ⟨#[98, 195, 169, 116, 97]⟩, ⟨#[103, 45, 49]⟩, ⟨#[100, 46, 195, 191]⟩]
/-- What the tables of package utf8 say. -/
structure Tabs (w : World) : Prop where
  f : w.cell? ⟨1, 195, none⟩ = some (.int .u8 2)
  a0 : w.cell? ⟨2, 0, none⟩ = some (.int .u8 128)
  a1 : w.cell? ⟨2, 1, none⟩ = some (.int .u8 191)
theorem Tabs.ext {w' : World} (h : Tabs w) (hx : Ext w w') : Tabs w' := ⟨hx.cell h.f, hx.cell h.a0, hx.cell h.a1⟩
def sufB (t : ByteArray) (vs : List ByteArray) : Prop := t.size ≤ 8 ∧ (t.size = 0 ∨ (∃ c, t[0]? = some c ∧ c.toNat < 128 ∧ t.extract 1 t.size ∈ vs) ∨ (∃ c, t[0]? = some 195 ∧ t[1]? = some c ∧ 128 ≤ c.toNat ∧ c.toNat ≤ 191 ∧ t.extract 2 t.size ∈ vs))
theorem valid87 {s : ByteArray} {vs : List ByteArray} (hT : Tabs w) (h0 : s ∈ vs) (hvs : ∀ t ∈ vs, sufB t vs) (hk : ∀ w', Ext w w' → K (.bool true) w') : callD Tryz.prog 87 #[.string s] w K := by
  apply F87_wp
  unfold F87_den
  refine ⟨fun v w' => ∃ t, t ∈ vs ∧ v = .string t ∧ Ext w w', fun v _ => match v with | .string s => s.size | _ => 0, ⟨s, h0, rfl, Ext.refl _⟩, ?_⟩
  rintro _ w1 ⟨t, ht, rfl, x1⟩ _
  obtain ⟨h8, hc⟩ := hvs t ht
  refine V.ok (lenStr Tryz.underlying9) (V_gtr.2 ?_)
  have hsz : ∀ {j : Nat} {c : UInt8}, t[j]? = some c → j < t.size := fun h => (getElem?_eq_some_iff.1 h).1
  have hex : ∀ k, (t.extract k t.size).size = t.size - k := fun k => by simp
  rcases hc with hz | ⟨c, hc0, hlt, hmem⟩ | ⟨c, hc0, hc1, hlo, hhi, hmem⟩
  · have : ¬ (t.size : Int) > 0 := by omega
    simp only [this, evL, decide_false]
    exact hk _ x1
  · have hs := hsz hc0
    have e1 : (t.size : Int) > 0 := by omega
    simp only [e1, evL, decide_true]
    refine V.ok (r_idxS Tryz.underlying9 hc0) (V_lss.2 ?_)
    have e2 : (c.toNat : Int) < 128 := by omega
    simp only [e2, evL, decide_true]
    refine V.ok (r_slS (k := 1) Tryz.underlying9 (by omega)) ?_
    refine ⟨fun v w' => v = .string (t.extract 1 t.size) ∧ w' = w1, V.ok (lenStr Tryz.underlying9) (V_gtr.2 ?_), ?_⟩
    · have e3 : ¬ ((t.extract 1 t.size).size : Int) > 8 := by rw [hex]; omega
      simp only [e3, evL, reduceIte, Bool.false_eq_true, decide_false]
      exact ⟨trivial, trivial⟩
    · rintro _ _ ⟨rfl, rfl⟩ _
      refine ⟨⟨_, hmem, rfl, x1⟩, ?_⟩
      show (t.extract 1 t.size).size < t.size
      rw [hex]; omega
  · have hs0 := hsz hc0
    have hs := hsz hc1
    have e1 : (t.size : Int) > 0 := by omega
    simp only [e1, evL, decide_true]
    refine V.ok (r_idxS Tryz.underlying9 hc0) (V_lss.2 ?_)
    have e2 : ¬ (((195 : UInt8).toNat : Nat) : Int) < 128 := by decide
    simp only [e2, evL, decide_false]
    have hT1 := hT.ext x1
    refine V.ok (r_arrK Tryz.underlying197 inf5 (by decide) (by decide)) ?_
    refine V.ok (r_ld_5 hT1.f) ?_
    refine V.ok (v := .int .u8 2) (w' := w1) (by kernel_rfl) ?_
    refine V.ok (v := i64 2) (w' := w1) (by kernel_rfl) ?_
    refine V.ok (v := .int .u8 0) (w' := w1) (by kernel_rfl) ?_
    refine V.ok (r_arrK Tryz.underlying200 inf199 (by decide) (by decide)) ?_
    obtain ⟨d, z, by_, g1, g2, g3⟩ := la_199
    refine V.ok (r_loadAgg (cs := [.int .u8 128, .int .u8 191]) g1 g2 g3 rfl fun j hj => ?_) ?_
    · match j, hj with
      | 0, _ => exact hT1.a0
      | 1, _ => exact hT1.a1
    refine asB sa_199 rfl rfl fun b2 w2 hb2 x2 => ?_
    have hb2 : Boxed w2 b2 [.int .u8 128, .int .u8 191] := hb2
    refine V_eqlI.2 ?_
    simp only [evL, Int.reduceEq, decide_true, decide_false]
    have D1 : Ext w2 w2.drew := (Ext.refl _).drew
    refine drawD.mk' (fun w' => Ext w2 w') D1 ?_
    refine yieldS.ok (fun w' _ => lenStr Tryz.underlying9) (yieldS.ok (fun w' _ => r_lss) ?_)
    have e3 : ¬ (t.size : Int) < 2 := by omega
    simp only [e3, evL, reduceIte, Bool.false_eq_true, decide_false]
    refine yieldS.ok (fun w' _ => r_idxS Tryz.underlying9 hc1) ?_
    refine yfB (fun w' hw => hb2.ext hw) fa_199_0 l1_5 rfl (yieldS.ok (fun w' _ => r_lss) ?_)
    have e4 : ¬ (c.toNat : Int) < 128 := by omega
    simp only [e4, evL, reduceIte, Bool.false_eq_true, decide_false]
    refine yfB (fun w' hw => hb2.ext hw) fa_199_1 l1_5 rfl ?_
    refine yieldS.ok (fun w' _ => r_idxS Tryz.underlying9 hc1) (yieldS.ok (fun w' _ => r_lss) ?_)
    have e5 : ¬ (191 : Int) < (c.toNat : Int) := by omega
    simp only [e5, evL, decide_false]
    refine V.ok (r_slS (k := 2) Tryz.underlying9 (by omega)) ?_
    refine ⟨⟨_, hmem, rfl, (x1.trans x2).trans D1⟩, ?_⟩
    show (t.extract 2 t.size).size < t.size
    rw [hex]; omega
def rnB (c : Nat) : Bool := (97 ≤ c && c ≤ 122) || (48 ≤ c && c ≤ 57) || c == 45 || c == 46 || (224 ≤ c && c ≤ 255)
theorem rnB_cases {c : Nat} (h : rnB c = true) : (97 ≤ c ∧ c ≤ 122) ∨ (¬ (97 ≤ c) ∧ 48 ≤ c ∧ c ≤ 57) ∨ c = 45 ∨ c = 46 ∨ (224 ≤ c ∧ c ≤ 255) := by
  simp only [rnB, Bool.or_eq_true, Bool.and_eq_true, decide_eq_true_eq, beq_iff_eq] at h
  omega
theorem isRune142 {c : Nat} (h : rnB c = true) (hk : K (.bool true) w) : callD Tryz.prog 142 #[.int .i32 c] w K := by
  apply F142_wp
  unfold F142_den
  rcases rnB_cases h with ⟨h1, h2⟩ | ⟨h0, h1, h2⟩ | rfl | rfl | ⟨h1, h2⟩
  · have a1 : (c : Int) ≥ 97 := by omega
    have a2 : (c : Int) ≤ 122 := by omega
    simp only [a1, a2, evL, reduceIte, decide_true]; exact hk
  · have a1 : ¬ (c : Int) ≥ 97 := by omega
    have a2 : (c : Int) ≥ 48 := by omega
    have a3 : (c : Int) ≤ 57 := by omega
    simp only [a1, a2, a3, evL, reduceIte, Bool.false_eq_true, decide_true, decide_false]; exact hk
  · simp only [show ((45 : Nat) : Int) = 45 from rfl, evL, Int.reduceGE, reduceIte, Bool.false_eq_true, decide_true, decide_false]; exact hk
  · simp only [show ((46 : Nat) : Int) = 46 from rfl, evL, Int.reduceEq, Int.reduceGE, reduceIte, Bool.false_eq_true, decide_true, decide_false]; exact hk
  · have a1 : (c : Int) ≥ 97 := by omega
    have a2 : ¬ (c : Int) ≤ 122 := by omega
    have a3 : (c : Int) ≥ 48 := by omega
    have a4 : ¬ (c : Int) ≤ 57 := by omega
    have a5 : ¬ (c : Int) = 45 := by omega
    have a6 : ¬ (c : Int) = 46 := by omega
    have a7 : (c : Int) ≥ 224 := by omega
    have a8 : (c : Int) ≤ 255 := by omega
    simp only [a1, a2, a3, a4, a5, a6, a7, a8, evL, reduceIte, Bool.false_eq_true, decide_true, decide_false]; exact hk
/-- What is asked of a name: its suffixes, and where its letters begin. -/
def nmOk (s : ByteArray) (vs : List ByteArray) (ps : List Nat) : Prop := (s ∈ vs ∧ ∀ t ∈ vs, sufB t vs) ∧ (1 ≤ s.size ∧ s.size ≤ 16) ∧ 0 ∈ ps ∧ ∀ p ∈ ps, p < s.size → rnB (Utf8.decode s p).1 = true ∧ p + (Utf8.decode s p).2 ∈ ps ∧ 0 < (Utf8.decode s p).2
theorem isName52 {s : ByteArray} {vs : List ByteArray} {ps : List Nat} (hT : Tabs w) (h : nmOk s vs ps) : callD Tryz.prog 52 #[.string s] w (Tells True w) := by
  obtain ⟨⟨h1, h2⟩, ⟨h3, h4⟩, h5, h6⟩ := h
  apply F52_wp
  suffices key : ∀ R : Value → World → Prop, (∀ w', Ext w w' → R (.bool true) w') → F52_den (.string s) w R from key _ fun _ hx => Tells.yes trivial hx
  intro R hR
  unfold F52_den
  refine V.ok (lenStr Tryz.underlying9) (V_lss.2 ?_)
  have e1 : ¬ (s.size : Int) < 1 := by omega
  simp only [e1, evL, reduceIte, Bool.false_eq_true, decide_false]
  refine V.ok (lenStr Tryz.underlying9) (V_gtr.2 ?_)
  have e2 : ¬ (s.size : Int) > 16 := by omega
  simp only [e2, evL, reduceIte, Bool.false_eq_true, decide_false]
  refine valid87 hT h1 h2 fun w1 x1 => V_not.2 ?_
  simp only [evL, Bool.not_true]
  refine V.ok (run_range_string _ _ _ Tryz.underlying9) ?_
  refine ⟨fun w' => ∃ p ∈ ps, w' = w1.iter s p, fun w' => mu fun q => ∃ p ∈ ps, w' = w1.iter s p ∧ s.size - p = q, ⟨0, h5, rfl⟩, ?_⟩
  rintro _ ⟨p0, hp0, rfl⟩ _
  obtain ⟨p, hp, hpe, hmu⟩ := mu_spec (p := fun q => ∃ p ∈ ps, w1.iter s p0 = w1.iter s p ∧ s.size - p = q) ⟨_, p0, hp0, rfl, rfl⟩
  rw [hpe]
  rw [hpe] at hmu
  by_cases hlt : p < s.size
  · obtain ⟨g1, g2, g3⟩ := h6 p hp hlt
    refine V.ok (run_next_dec _ _ _ _ hlt) (V_tup (v := .bool true) rfl (ifD_true.2 (V_tup (v := .int .i32 ((Utf8.decode s p).1 : Nat)) rfl ?_)))
    have hmu' : mu (fun q => ∃ p' ∈ ps, w1.iter s (p + (Utf8.decode s p).2) = w1.iter s p' ∧ s.size - p' = q) < mu (fun q => ∃ p' ∈ ps, w1.iter s p = w1.iter s p' ∧ s.size - p' = q) := by
      rw [← hmu]
      exact Nat.lt_of_le_of_lt (mu_le ⟨_, g2, rfl, rfl⟩) (by omega)
    generalize (Utf8.decode s p).2 = wd at *
    generalize (Utf8.decode s p).1 = c at *
    rcases rnB_cases g1 with ⟨h1, h2⟩ | ⟨h0, h1, h2⟩ | rfl | rfl | ⟨h1, h2⟩
    · have a1 : (c : Int) ≥ 97 := by omega
      have a2 : (c : Int) ≤ 122 := by omega
      simp only [a1, a2, evL, reduceIte, Bool.not_true, decide_true]
      exact ⟨⟨_, g2, rfl⟩, hmu'⟩
    · have a1 : ¬ (c : Int) ≥ 97 := by omega
      have a2 : (c : Int) ≥ 48 := by omega
      have a3 : (c : Int) ≤ 57 := by omega
      simp only [a1, a2, a3, evL, reduceIte, Bool.false_eq_true, Bool.not_true, decide_true, decide_false]; exact ⟨⟨_, g2, rfl⟩, hmu'⟩
    · simp only [show ((45 : Nat) : Int) = 45 from rfl, evL, Int.reduceGE, reduceIte, Bool.false_eq_true, Bool.not_true, decide_true, decide_false]; exact ⟨⟨_, g2, rfl⟩, hmu'⟩
    · simp only [show ((46 : Nat) : Int) = 46 from rfl, evL, Int.reduceEq, Int.reduceGE, reduceIte, Bool.false_eq_true, Bool.not_true, decide_true, decide_false]; exact ⟨⟨_, g2, rfl⟩, hmu'⟩
    · have a1 : (c : Int) ≥ 97 := by omega
      have a2 : ¬ (c : Int) ≤ 122 := by omega
      have a3 : (c : Int) ≥ 48 := by omega
      have a4 : ¬ (c : Int) ≤ 57 := by omega
      have a5 : ¬ (c : Int) = 45 := by omega
      have a6 : ¬ (c : Int) = 46 := by omega
      have a7 : (c : Int) ≥ 224 := by omega
      have a8 : (c : Int) ≤ 255 := by omega
      simp only [a1, a2, a3, a4, a5, a6, a7, a8, evL, reduceIte, Bool.false_eq_true, Bool.not_true, decide_true, decide_false]; exact ⟨⟨_, g2, rfl⟩, hmu'⟩
  · refine V.ok (run_next_end _ _ _ _ hlt) (V_tup rfl (ifD_false.2 ?_))
    exact hR _ (x1.trans ((Ext.refl _).alloc _))
theorem isName126 {s : ByteArray} {vs : List ByteArray} {ps : List Nat} (hT : Tabs w) (h : nmOk s vs ps) (hne : (s.toList == ({ data := #[] } : ByteArray).toList) = false) : callD Tryz.prog 126 #[.string s] w (Tells True w) := by
  obtain ⟨⟨h1, h2⟩, ⟨h3, h4⟩, h5, h6⟩ := h
  apply F126_wp
  suffices key : ∀ R : Value → World → Prop, (∀ w', Ext w w' → R (.bool true) w') → F126_den (.string s) w R from key _ fun _ hx => Tells.yes trivial hx
  intro R hR
  unfold F126_den
  refine V.ok r_eqStr ?_
  rw [hne]
  simp only [evL, reduceIte, Bool.false_eq_true]
  refine V.ok (lenStr Tryz.underlying9) (V_gtr.2 ?_)
  have e2 : ¬ (s.size : Int) > 16 := by omega
  simp only [e2, evL, reduceIte, Bool.false_eq_true, decide_false]
  refine valid87 hT h1 h2 fun w1 x1 => V_not.2 ?_
  simp only [evL, Bool.not_true]
  refine V.ok (run_range_string _ _ _ Tryz.underlying9) ?_
  refine ⟨fun w' => ∃ p ∈ ps, w' = w1.iter s p, fun w' => mu fun q => ∃ p ∈ ps, w' = w1.iter s p ∧ s.size - p = q, ⟨0, h5, rfl⟩, ?_⟩
  rintro _ ⟨p0, hp0, rfl⟩ _
  obtain ⟨p, hp, hpe, hmu⟩ := mu_spec (p := fun q => ∃ p ∈ ps, w1.iter s p0 = w1.iter s p ∧ s.size - p = q) ⟨_, p0, hp0, rfl, rfl⟩
  rw [hpe]
  rw [hpe] at hmu
  by_cases hlt : p < s.size
  · obtain ⟨g1, g2, g3⟩ := h6 p hp hlt
    refine V.ok (run_next_dec _ _ _ _ hlt) (V_tup (v := .bool true) rfl (ifD_true.2 (V_tup (v := .int .i32 ((Utf8.decode s p).1 : Nat)) rfl ?_)))
    refine isRune142 g1 (V_not.2 (ifD_false.2 ⟨⟨_, g2, rfl⟩, ?_⟩))
    show mu _ < mu _
    rw [← hmu]
    exact Nat.lt_of_le_of_lt (mu_le ⟨_, g2, rfl, rfl⟩) (by omega)
  · refine V.ok (run_next_end _ _ _ _ hlt) (V_tup rfl (ifD_false.2 ?_))
    exact hR _ (x1.trans ((Ext.refl _).alloc _))
def memB (t : ByteArray) (vs : List ByteArray) : Bool := vs.any fun u => decide (u.data = t.data)
theorem memB_ok {t : ByteArray} {vs : List ByteArray} (h : memB t vs = true) : t ∈ vs := by
  simp only [memB, List.any_eq_true, decide_eq_true_eq] at h
  obtain ⟨u, hu, he⟩ := h
  have : u = t := ByteArray.ext he
  subst this; exact hu
def sufBB (t : ByteArray) (vs : List ByteArray) : Bool :=
  decide (t.size ≤ 8) && (decide (t.size = 0) || (match t[0]? with
    | some c => (decide (c.toNat < 128) && memB (t.extract 1 t.size) vs) || (decide (c = 195) && (match t[1]? with
      | some d => decide (128 ≤ d.toNat ∧ d.toNat ≤ 191) && memB (t.extract 2 t.size) vs
      | none => false))
    | none => false))
theorem sufBB_ok {t : ByteArray} {vs : List ByteArray} (h : sufBB t vs = true) : sufB t vs := by
  simp only [sufBB, Bool.and_eq_true, Bool.or_eq_true, decide_eq_true_eq] at h
  refine ⟨h.1, ?_⟩
  rcases h.2 with h2 | h2
  · exact .inl h2
  · right
    cases h0 : t[0]? with
    | none => rw [h0] at h2; cases h2
    | some c =>
      rw [h0] at h2
      simp only [Bool.or_eq_true, Bool.and_eq_true, decide_eq_true_eq] at h2
      rcases h2 with ⟨a, b⟩ | ⟨a, b⟩
      · exact .inl ⟨c, rfl, a, memB_ok b⟩
      · subst a
        cases h1 : t[1]? with
        | none => rw [h1] at b; cases b
        | some d =>
          rw [h1] at b
          simp only [Bool.and_eq_true, decide_eq_true_eq] at b
          exact .inr ⟨d, rfl, rfl, b.1.1, b.1.2, memB_ok b.2⟩
def nmOkB (s : ByteArray) (vs : List ByteArray) (ps : List Nat) : Bool :=
  (memB s vs && vs.all fun t => sufBB t vs) && decide (1 ≤ s.size ∧ s.size ≤ 16) && decide (0 ∈ ps) && ps.all fun p => !decide (p < s.size) || (rnB (Utf8.decode s p).1 && decide (p + (Utf8.decode s p).2 ∈ ps) && decide (0 < (Utf8.decode s p).2))
theorem nmOkB_ok {s : ByteArray} {vs : List ByteArray} {ps : List Nat} (h : nmOkB s vs ps = true) : nmOk s vs ps := by
  simp only [nmOkB, Bool.and_eq_true, decide_eq_true_eq, List.all_eq_true] at h
  obtain ⟨⟨⟨⟨h1, h2⟩, h3⟩, h4⟩, h5⟩ := h
  refine ⟨⟨memB_ok h1, fun t ht => sufBB_ok (h2 t ht)⟩, h3, h4, fun p hp hlt => ?_⟩
  have := h5 p hp
  simp only [hlt, decide_true, Bool.not_true, Bool.false_or, Bool.and_eq_true, decide_eq_true_eq] at this
  exact ⟨this.1.1, this.1.2, this.2⟩
/-- Each of the four names is one. -/
theorem nmB_ok {s : ByteArray} (h : s ∈ nmB) (hT : Tabs w) : NameOk w s := by
  have key : ∀ {vs : List ByteArray} {ps : List Nat}, nmOkB s vs ps = true → (s.toList == ({ data := #[] } : ByteArray).toList) = false → NameOk w s := fun h1 h2 w' hx => ⟨isName52 (hT.ext hx) (nmOkB_ok h1), isName126 (hT.ext hx) (nmOkB_ok h1) h2⟩
  simp only [nmB, List.mem_cons, List.not_mem_nil, or_false] at h
  rcases h with rfl | rfl | rfl | rfl
  · exact key (vs := [⟨#[97, 108, 112, 104, 97]⟩, ⟨#[108, 112, 104, 97]⟩, ⟨#[112, 104, 97]⟩, ⟨#[104, 97]⟩, ⟨#[97]⟩, ⟨#[]⟩]) (ps := [0, 1, 2, 3, 4, 5]) (by kernel_rfl) (by kernel_rfl)
  · exact key (vs := [⟨#[98, 195, 169, 116, 97]⟩, ⟨#[195, 169, 116, 97]⟩, ⟨#[116, 97]⟩, ⟨#[97]⟩, ⟨#[]⟩]) (ps := [0, 1, 3, 4, 5]) (by kernel_rfl) (by kernel_rfl)
  · exact key (vs := [⟨#[103, 45, 49]⟩, ⟨#[45, 49]⟩, ⟨#[49]⟩, ⟨#[]⟩]) (ps := [0, 1, 2, 3]) (by kernel_rfl) (by kernel_rfl)
  · exact key (vs := [⟨#[100, 46, 195, 191]⟩, ⟨#[46, 195, 191]⟩, ⟨#[195, 191]⟩, ⟨#[]⟩]) (ps := [0, 1, 2, 4]) (by kernel_rfl) (by kernel_rfl)
/-- One of the four. -/
theorem name25 {n : Int} (hk : ∀ s ∈ nmB, K (.string s) w) : callD Tryz.prog 25 #[i64 n] w K := by
  apply F25_wp
  unfold F25_den
  refine bldA (v := .agg (nmB.map Value.string).toArray) (fun w => by kernel_rfl) ?_
  refine pick10 (by decide) (by decide) fun q hq0 hq1 => ?_
  have hc : q = 0 ∨ q = 1 ∨ q = 2 ∨ q = 3 := by omega
  rcases hc with rfl | rfl | rfl | rfl
  · exact V.ok (v := .string ⟨#[97, 108, 112, 104, 97]⟩) (w' := w) (by kernel_rfl) (hk _ (by simp [nmB]))
  · exact V.ok (v := .string ⟨#[98, 195, 169, 116, 97]⟩) (w' := w) (by kernel_rfl) (hk _ (by simp [nmB]))
  · exact V.ok (v := .string ⟨#[103, 45, 49]⟩) (w' := w) (by kernel_rfl) (hk _ (by simp [nmB]))
  · exact V.ok (v := .string ⟨#[100, 46, 195, 191]⟩) (w' := w) (by kernel_rfl) (hk _ (by simp [nmB]))
end Go.Proofs.YtcdbikfnlggbnaaGreatDoor
namespace Go.Vc
section
variable {P : Program} {w : World} {K : Value → World → Prop}
/-- a[lo:hi], elements of any size. -/
theorem r_slN {t e sz : Nat} {z : Value} {by_ : Nat} (ht : P.underlying t = some (.slice e)) (hi : Inf P e z sz by_) {v : Value} {n : Nat} {cs : List Value} (h : SliceIs w v sz n cs) {lo hi' : Option Value} {a b : Nat} (ha : (lo = none ∧ a = 0) ∨ lo = some (.int .i64 a)) (hb : (hi' = none ∧ b = n) ∨ hi' = some (.int .i64 b)) (hab : a ≤ b) (hbn : b ≤ n) :
    ∃ v', (∀ w', (Instr.sliceAt t v lo hi' none).run P w' = .ok v' w') ∧ ∀ w2, SliceIs w2 v sz n cs → SliceIs w2 v' sz (b - a) ((cs.drop (a * sz)).take ((b - a) * sz)) := by
  have hcl : cs.length = n * sz := h.1
  have hmul : (b - a) * sz + a * sz ≤ n * sz := by rw [← Nat.add_mul]; exact Nat.mul_le_mul_right _ (by omega)
  rcases h.2 with ⟨rfl, h0⟩ | ⟨g, off, cap, rfl, h1, h2, _⟩
  · have ea : a = 0 := by omega
    have eb : b = 0 := by omega
    subst ea eb
    refine ⟨.slice none 0 0, fun w' => ?_, fun w2 _ => ?_⟩
    · rcases ha with ⟨rfl, _⟩ | rfl <;> rcases hb with ⟨rfl, _⟩ | rfl <;> simp [Instr.sliceAt, Instr.slice, run_underlying ht, run_size hi, Instr.sliceBounds, Instr.sliceBound, asIntOf]
    · simp
      exact SliceIs.nil w2 _
  · have hb1 : (0 : Int) ≤ b ∧ (b : Int) ≤ cap := ⟨by omega, by omega⟩
    have ha1 : (0 : Int) ≤ a ∧ (a : Int) ≤ b := ⟨by omega, by omega⟩
    have hbc : b ≤ cap := by omega
    refine ⟨.slice (if cap = a then some ⟨g, off, none⟩ else (some (⟨g, off, none⟩ : Addr)).map (·.add (a * sz))) (b - a) (cap - a), fun w' => ?_, fun w2 hw2 => ?_⟩
    · rcases ha with ⟨rfl, rfl⟩ | rfl <;> rcases hb with ⟨rfl, rfl⟩ | rfl <;> simp [Instr.sliceAt, Instr.slice, run_underlying ht, run_size hi, Instr.sliceBounds, Instr.sliceBound, asIntOf, hab, hbc]
    · refine ⟨by rw [List.length_take, List.length_drop]; omega, .inr ?_⟩
      by_cases hca : cap = a
      · rw [if_pos hca]
        have e0 : b - a = 0 := by omega
        exact ⟨g, off, cap - a, rfl, by omega, by omega, fun j u hj => by rw [e0] at hj; simp at hj⟩
      · rw [if_neg hca]
        rcases hw2.2 with ⟨he, _⟩ | ⟨g', off', cap', he, _, _, h3⟩
        · cases he
        · cases he
          refine ⟨g, off + a * sz, cap - a, by simp [add_mk], by omega, by omega, fun j u hj => ?_⟩
          rw [List.getElem?_take] at hj
          split at hj
          · rw [List.getElem?_drop] at hj
            have := h3 _ _ hj
            rw [Nat.add_assoc]; exact this
          · cases hj
end
end Go.Vc
namespace Go.Proofs.YtcdbikfnlggbnaaGreatDoor
open Go.Vc Go.Tc
variable {w : World} {K : Value → World → Prop}
/-- A part of a row of structs. -/
theorem StrsAre.part {α : Type} {T : World → List Value → α → Prop} {sz t e by_ : Nat} {z v : Value} {l : List α} (ht : Program.underlying Tryz.prog t = some (.slice e)) (hi : Inf Tryz.prog e z sz by_) (h : StrsAre T sz w v l) {lo hi' : Option Value} {a b : Nat} (ha : (lo = none ∧ a = 0) ∨ lo = some (.int .i64 a)) (hb : (hi' = none ∧ b = l.length) ∨ hi' = some (.int .i64 b)) (hab : a ≤ b) (hbn : b ≤ l.length) :
    ∃ v', (∀ w', (Instr.sliceAt t v lo hi' none).run Tryz.prog w' = .ok v' w') ∧ StrsAre T sz w v' ((l.drop a).take (b - a)) := by
  obtain ⟨cs, h1, h2⟩ := h
  obtain ⟨v', hr, hs⟩ := r_slN ht hi h1 ha hb hab hbn
  refine ⟨v', hr, (cs.drop (a * sz)).take ((b - a) * sz), ?_, fun k x hk => ?_⟩
  · have := hs w h1
    rwa [show ((l.drop a).take (b - a)).length = b - a by simp; omega]
  · rw [List.getElem?_take] at hk
    split at hk
    case isFalse => cases hk
    rename_i hlt
    rw [List.getElem?_drop] at hk
    obtain ⟨row, h3, h4⟩ := h2 (a + k) x hk
    refine ⟨row, ?_, h4⟩
    have hle : k * sz + sz ≤ (b - a) * sz := by
      have := Nat.mul_le_mul_right sz (show k + 1 ≤ b - a by omega)
      rw [Nat.add_mul, Nat.one_mul] at this; exact this
    have hmin : min sz ((b - a) * sz - k * sz) = sz := Nat.min_eq_left (by omega)
    rw [← h3, List.drop_take, List.drop_drop, List.take_take, Nat.add_mul, hmin]
/-- A part of a row of raw steps. -/
theorem RwsAre.part {t e by_ : Nat} {z v : Value} {l : List Rw} (ht : Program.underlying Tryz.prog t = some (.slice e)) (hi : Inf Tryz.prog e z 4 by_) (h : RwsAre w v l) {lo hi' : Option Value} {a b : Nat} (ha : (lo = none ∧ a = 0) ∨ lo = some (.int .i64 a)) (hb : (hi' = none ∧ b = l.length) ∨ hi' = some (.int .i64 b)) (hab : a ≤ b) (hbn : b ≤ l.length) :
    ∃ v', (∀ w', (Instr.sliceAt t v lo hi' none).run Tryz.prog w' = .ok v' w') ∧ RwsAre w v' ((l.drop a).take (b - a)) := by
  by_cases h0 : 0 < l.length
  · obtain ⟨v', h1, h2⟩ := StrsAre.part ht hi (h.2 h0) ha hb hab hbn
    exact ⟨v', h1, RwsAre.of h2⟩
  · obtain ⟨⟨a0, c, rfl⟩, _⟩ := h
    have el : l = [] := List.length_eq_zero_iff.1 (by omega)
    subst el
    obtain rfl : a = 0 := by simp at hbn; omega
    obtain rfl : b = 0 := by simpa using hbn
    refine ⟨.slice (if c = 0 then a0 else a0.map (·.add (0 * 4))) 0 c, fun w' => ?_, ⟨_, _, rfl⟩, fun h => by simp at h⟩
    rcases ha with ⟨rfl, _⟩ | rfl <;> rcases hb with ⟨rfl, _⟩ | rfl <;> simp [Instr.sliceAt, Instr.slice, run_underlying ht, run_size hi, Instr.sliceBounds, Instr.sliceBound, asIntOf]
/-- A field of an element of a row that the call owns is turned. -/
theorem stOF {t s f o ft sz n g cap B e : Nat} {ez fz : Value} {eb fb : Nat} {xs : List Value} {k : Nat} {u : Value} {K' : World → Prop} (ht : Program.underlying Tryz.prog t = some (.slice e)) (hi : Inf Tryz.prog e ez sz eb) (hf : FA Tryz.prog s f o) (hft : Inf Tryz.prog ft fz 1 fb)
    (ho : w.ownsRow B e sz (.slice (some ⟨g, 0, none⟩) n cap) n xs) (hk : k < n) (hos : o < sz) (hu : oneC u = true) (hK : ∀ w', w' = w.setCell ⟨g, k * sz + o, none⟩ u → w'.ownsRow B e sz (.slice (some ⟨g, 0, none⟩) n cap) n (xs.set (k * sz + o) u) → Fr (fun i => i = g) w w' → K' w') :
    U Tryz.prog (Instr.storeAt ft (.pointer (some ⟨g, 0 + k * sz + o, none⟩)) u) w fun _ w2 => K' w2 := by
  have hle : k * sz + sz ≤ n * sz := by
    have := Nat.mul_le_mul_right sz (show k + 1 ≤ n by omega)
    rw [Nat.add_mul, Nat.one_mul] at this; exact this
  obtain ⟨s1, s2⟩ := ho.stored (k * sz + o) u
  have hc := ho.cellAt (k * sz + o) (by omega)
  have hlt : k * sz + o < xs.length := by rw [ho.1]; omega
  rw [List.getElem?_eq_getElem hlt] at hc
  rw [Nat.zero_add]
  exact U.ok (r_store hft hu hc (ho.frozenAt _)) (hK _ rfl s1 (Fr.of_set rfl))
end Go.Proofs.YtcdbikfnlggbnaaGreatDoor
namespace Go.Proofs.YtcdbikfnlggbnaaGreatDoor
open Go.Vc Go.Tc
variable {w : World} {K : Value → World → Prop}
def apMs (code : Nat → List Ins) : List Mth := [⟨[], 0, [1, 2, 3, 4], code 0⟩, ⟨[1, 2], 2, [1, 2, 3, 4], code 1⟩, ⟨[4, 3], 3, [1, 2], code 2⟩]
def apIs (n1 n2 : ByteArray) : List Imp := [⟨n1, 0, [1, 2], 2⟩, ⟨n2, 1, [4, 3], 3⟩]
def apC (lv p1 p2 lv3 : Value) (c : Nat → Value) : List Value := [nilS, i64 0, lv, c 0, p1, i64 2, lv, c 1, p2, i64 3, lv3, c 2]
theorem apMths {mv lv p1 p2 lv3 : Value} {c : Nat → Value} {code : Nat → List Ins} (h : SliceIs w mv 4 3 (apC lv p1 p2 lv3 c)) (hl : IntsAre w lv [1, 2, 3, 4]) (h1 : IntsAre w p1 [1, 2]) (h2 : IntsAre w p2 [4, 3]) (h3 : IntsAre w lv3 [1, 2]) (hc : ∀ k, k < 3 → InsAre w (c k) (code k)) : MthsAre w mv (apMs code) := by
  refine ⟨_, h, fun k x hk => ?_⟩
  match k, hk with
  | 0, hk => cases hk; exact ⟨_, rfl, nilS, lv, c 0, rfl, SliceIs.nil _ _, hl, hc 0 (by decide)⟩
  | 1, hk => cases hk; exact ⟨_, rfl, p1, lv, c 1, rfl, h1, hl, hc 1 (by decide)⟩
  | 2, hk => cases hk; exact ⟨_, rfl, p2, lv3, c 2, rfl, h2, h3, hc 2 (by decide)⟩
  | k + 3, hk => simp [apMs] at hk
theorem apImps {iv q1 q2 : Value} {n1 n2 : ByteArray} (h : SliceIs w iv 4 2 [.string n1, i64 0, q1, i64 2, .string n2, i64 1, q2, i64 3]) (h1 : IntsAre w q1 [1, 2]) (h2 : IntsAre w q2 [4, 3]) : ImpsAre w iv (apIs n1 n2) := by
  refine ⟨_, h, fun k x hk => ?_⟩
  match k, hk with
  | 0, hk => cases hk; exact ⟨_, rfl, q1, rfl, h1⟩
  | 1, hk => cases hk; exact ⟨_, rfl, q2, rfl, h2⟩
  | k + 2, hk => simp [apIs] at hk
theorem chg_fr {g : Nat} {w' : World} (h : Chg w g w') : Fr (fun k => k = g) w w' := Fr.of_grown h.grown fun k hk => by cases hk; rfl
/-- A row of whole numbers that the call made, aside from two blocks. -/
structure Row (g4 gi : Nat) (w : World) (v : Value) (l : List Int) : Prop where
  own : w.ownsRow (g4 + 1) 3 1 v l.length (l.map i64)
  ne : ∀ k, v.ownBlock = some k → k ≠ gi
theorem Row.ext {g4 gi : Nat} {w' : World} {v : Value} {l : List Int} (h : Row g4 gi w v l) (hx : Ext w w') : Row g4 gi w' v l := ⟨hx.own h.own, h.ne⟩
theorem Row.fr {g4 gi N : Nat} {w' : World} {v : Value} {l : List Int} (h : Row g4 gi w v l) (f : Fr (fun k => k = gi ∨ k ≤ g4 ∨ N ≤ k) w w') (hN : w.heap.size ≤ N) : Row g4 gi w' v l :=
  ⟨f.own h.own fun k hk hS => by have := h.own.lt k hk; have := h.ne k hk; omega, h.ne⟩
theorem Row.ints {g4 gi : Nat} {v : Value} {l : List Int} (h : Row g4 gi w v l) : IntsAre w v l := SliceIs.of_own h.own
theorem one_i (n : Int) : oneC (i64 n) = true := rfl
theorem one_s (s : ByteArray) : oneC (.string s) = true := rfl
theorem one_l (a : Option Addr) (n c : Nat) : oneC (.slice a n c) = true := rfl
theorem apM_small {code : Nat → List Ins} {j : Nat} {m : Mth} (h : (apMs code)[j]? = some m) : m.params.length ≤ 4 ∧ m.locals.length ≤ 4 := by
  match j, h with
  | 0, hm => cases hm; exact ⟨by simp, by simp⟩
  | 1, hm => cases hm; exact ⟨by simp, by simp⟩
  | 2, hm => cases hm; exact ⟨by simp, by simp⟩
  | k + 3, hm => simp [apMs] at hm
theorem apC_set {lv p1 p2 lv3 v : Value} {c : Nat → Value} {j : Nat} (h : j < 3) : (apC lv p1 p2 lv3 c).set (j * 4 + 3) v = apC lv p1 p2 lv3 (fun k => if k = j then v else c k) := by
  match j, h with
  | 0, _ => rfl
  | 1, _ => rfl
  | 2, _ => rfl
theorem apMths' {mv lv p1 p2 lv3 : Value} {c : Nat → Value} {code : Nat → List Ins} (h : SliceIs w mv 4 3 (apC lv p1 p2 lv3 c)) (hl : IntsAre w lv [1, 2, 3, 4]) (h1 : IntsAre w p1 [1, 2]) (h2 : IntsAre w p2 [4, 3]) (h3 : IntsAre w lv3 [1, 2]) (hc : ∀ k, k < 3 → InsAre w (c k) (code k)) :
    SliceIs w mv 4 3 (apC lv p1 p2 lv3 c) ∧ ∀ (k : Nat) (x : Mth), (apMs code)[k]? = some x → MthIs w (((apC lv p1 p2 lv3 c).drop (k * 4)).take 4) x := by
  refine ⟨h, fun k x hk => ?_⟩
  match k, hk with
  | 0, hk => cases hk; exact ⟨nilS, lv, c 0, rfl, SliceIs.nil _ _, hl, hc 0 (by decide)⟩
  | 1, hk => cases hk; exact ⟨p1, lv, c 1, rfl, h1, hl, hc 1 (by decide)⟩
  | 2, hk => cases hk; exact ⟨p2, lv3, c 2, rfl, h2, h3, hc 2 (by decide)⟩
  | k + 3, hk => simp [apMs] at hk
end Go.Proofs.YtcdbikfnlggbnaaGreatDoor
namespace Go.Proofs.YtcdbikfnlggbnaaGreatDoor
open Go.Vc Go.Tc
variable {w : World} {K : Value → World → Prop}
set_option maxHeartbeats 4000000 in
theorem applet9 {n : Int} {rv : Value} {rl : List Rw} (hr : RwsAre w rv rl) (hb : BinsOk w) (hT : Tabs w) (rn : rl.length ≤ 5000000000000)
    (hk : ∀ p i w', ImgAt w' p i → NamesOk w' i → i.rg → i.methods.length = 3 → (∀ m ∈ i.methods, m.code.length ≤ 700000) → (∀ w'', Fr (fun k => k < w.heap.size) w' w'' → Tabs w'' → ImgAt w'' p i ∧ NamesOk w'' i) → (∃ cs : List Value, ∀ w'', Fr (fun k => k < w.heap.size) w' w'' → SliceIs w'' p.mv 4 i.methods.length cs ∧ ∀ (k : Nat) (x : Mth), i.methods[k]? = some x → MthIs w'' ((cs.drop (k * 4)).take 4) x) → Ext w w' → K (p.val i) w') : callD Tryz.prog 9 #[i64 n, rv] w K := by
  apply F9_wp
  unfold F9_den
  refine alK inf27 fun w1 hB4 x1 => ?_
  have hlt4 := hB4.lt
  have hg4 : w.heap.size ≤ w.heap.size := Nat.le_refl _
  generalize hgg4 : w.heap.size = g4 at hB4 hg4 hlt4
  refine bsl xe_23 [i64 1, i64 2, i64 3, i64 4] rfl rfl (by simp) rfl fun lv w2 hol x2 => ?_
  refine name25 fun nm hnm => ?_
  refine bsl xe_23 [i64 1, i64 2, i64 3, i64 4] rfl rfl (by simp) rfl fun fv w3 hof x3 => ?_
  refine bsl xe_23 [i64 1, i64 2] rfl rfl (by simp) rfl fun xv w4 hox x4 => ?_
  have o1 := own_one hof; have o2 := own_one hox
  refine bld bd_27 [(0, .string nm), (1, fv), (4, xv)] rfl (by simp [o1, o2, one_s]) ?_
  refine asK sa_27 rfl (show ([.string nm, fv, nilS, nilS, xv] : List Value).all oneC = true by simp [o1, o2, one_s, one_l]) fun w5 hBi x5 => ?_
  have hBi : Blk w5 w4.heap.size [.string nm, fv, nilS, nilS, xv] 27 := hBi
  have s1 := x1.size; have s2 := x2.size; have s3 := x3.size; have s4 := x4.size; have s5 := x5.size
  have R0 : ∀ {v : Value} {l : List Int} {wa wb : World}, wb.ownsRow wa.heap.size 3 1 v l.length (l.map i64) → w1.heap.size ≤ wa.heap.size → wb.heap.size ≤ w4.heap.size → Row g4 w4.heap.size wb v l := fun ho h1 h2 => ⟨own_mono ho (by omega), fun k hk => by have := (ho.lt k hk).2; omega⟩
  have rl5 : Row g4 w4.heap.size w5 lv [1, 2, 3, 4] := (R0 (l := [1, 2, 3, 4]) hol (by omega) (by omega)).ext ((x3.trans x4).trans x5)
  have rf5 : Row g4 w4.heap.size w5 fv [1, 2, 3, 4] := (R0 (l := [1, 2, 3, 4]) hof (by omega) (by omega)).ext (x4.trans x5)
  have rx5 : Row g4 w4.heap.size w5 xv [1, 2] := (R0 (l := [1, 2]) hox (by omega) (by omega)).ext x5
  clear R0 hol hof hox
  have x15 := (((x2.trans x3).trans x4).trans x5)
  have hB4 := hB4.ext x15
  have hgi4 : g4 ≠ w4.heap.size := by omega
  have hiw : w4.heap.size < w5.heap.size := hBi.lt
  have hiw0 : w.heap.size ≤ w4.heap.size := by omega
  have x05 := x1.trans x15
  have hr0 := hr
  have hr := hr.ext x05
  generalize w4.heap.size = gi at *
  have R1 : ∀ {v : Value} {l : List Int} {wa wb : World}, wb.ownsRow wa.heap.size 3 1 v l.length (l.map i64) → w5.heap.size ≤ wa.heap.size → Row g4 gi wb v l := fun ho h1 => ⟨own_mono ho (by omega), fun k hk => by have := (ho.lt k hk).1; omega⟩
  refine V_add.2 (name25 fun n1 hn1 => ?_)
  refine bsl xe_23 [i64 1, i64 2] rfl rfl (by simp) rfl fun q1 w6 hq1 x6 => ?_
  have s6 := x6.size
  have rq1 : Row g4 gi w6 q1 [1, 2] := R1 (l := [1, 2]) hq1 (by omega)
  have oq1 := own_one hq1
  refine bld bd_74 [(0, .string n1), (1, i64 0), (2, q1), (3, i64 2)] rfl (by simp [oq1, one_i, one_s]) ?_
  refine V_add.2 (lnR xa_22 (hr.ext x6) ?_)
  refine pick10 (by decide) (by decide) fun _ _ _ => V_add.2 (name25 fun n2 hn2 => ?_)
  refine bsl xe_23 [i64 4, i64 3] rfl rfl (by simp) rfl fun q2 w7 hq2 x7 => ?_
  have s7 := x7.size
  have rq2 : Row g4 gi w7 q2 [4, 3] := R1 (l := [4, 3]) hq2 (by omega)
  have oq2 := own_one hq2
  refine bld bd_74 [(0, .string n2), (1, i64 1), (2, q2), (3, i64 3)] rfl (by simp [oq2, one_i, one_s]) ?_
  refine bslG Tryz.underlying24 inf74 rfl (by decide) [.agg #[.string n1, i64 0, q1, i64 2], .agg #[.string n2, i64 1, q2, i64 3]] rfl rfl (by intro v hv; simp only [List.mem_cons, List.not_mem_nil, or_false] at hv; rcases hv with rfl | rfl <;> rfl) (by decide) (by decide) fun iv w8 hoi x8 => ?_
  have s8 := x8.size
  have hoi : w8.ownsRow w7.heap.size 74 4 iv 2 [.string n1, i64 0, q1, i64 2, .string n2, i64 1, q2, i64 3] := hoi
  have x58 := (x6.trans x7).trans x8
  refine stF fa_27_2 inf24 (hBi.ext x58) (n := 5) rfl (by decide) (own_one hoi) ?_
  have hB9 : Blk (w8.setCell ⟨gi, 2, none⟩ iv) gi [.string nm, fv, iv, nilS, xv] 27 := (hBi.ext x58).set 2 iv
  have f9 : Fr (fun k => k = gi ∨ k ≤ g4 ∨ w8.heap.size ≤ k) w8 (w8.setCell ⟨gi, 2, none⟩ iv) := Fr.of_set (.inl rfl)
  have rl9 := (rl5.ext x58).fr f9 (Nat.le_refl _)
  have rf9 := (rf5.ext x58).fr f9 (Nat.le_refl _)
  have rx9 := (rx5.ext x58).fr f9 (Nat.le_refl _)
  have rq19 := (rq1.ext (x7.trans x8)).fr f9 (Nat.le_refl _)
  have rq29 := (rq2.ext x8).fr f9 (Nat.le_refl _)
  have hoi9 := f9.own hoi fun k hk hS => by have := hoi.lt k hk; omega
  have hB49 : Blk (w8.setCell ⟨gi, 2, none⟩ iv) g4 _ _ := (hB4.ext x58).other hgi4
  have f59 : Ext w (w8.setCell ⟨gi, 2, none⟩ iv) := (x05.trans x58).setCell hiw0 iv
  have xr9 : ∀ {w'}, Fr (fun k => k = gi ∨ k = g4 ∨ w8.heap.size ≤ k) (w8.setCell ⟨gi, 2, none⟩ iv) w' → Ext w w' := fun f => f.ext f59 fun k hk => by omega
  have sz9 : (w8.setCell ⟨gi, 2, none⟩ iv).heap.size = w8.heap.size := by simp
  generalize w8.setCell ⟨gi, 2, none⟩ iv = w9 at *
  have hoi0 := hoi
  clear rl5 rf5 rx5 rq1 rq2 hoi hB4 hBi hq1 hq2 f9
  have ol := own_one rl9.own
  refine bld bd_47 [(2, lv)] rfl (by simp [ol]) ?_
  refine bsl xe_23 [i64 1, i64 2] rfl rfl (by simp) rfl fun p1 w10 hp1 x10 => ?_
  have s10 := x10.size
  have rp1 : Row g4 gi w10 p1 [1, 2] := R1 (l := [1, 2]) hp1 (by omega)
  have op1 := own_one hp1
  refine bld bd_47 [(0, p1), (1, i64 2), (2, lv)] rfl (by simp [ol, op1, one_i]) ?_
  refine bsl xe_23 [i64 4, i64 3] rfl rfl (by simp) rfl fun p2 w11 hp2 x11 => ?_
  have s11 := x11.size
  have rp2 : Row g4 gi w11 p2 [4, 3] := R1 (l := [4, 3]) hp2 (by omega)
  have op2 := own_one hp2
  obtain ⟨lv3, urun, usl⟩ := r_sl Tryz.underlying23 inf3 rl9.ints (lo := none) (hi' := some (.int .i64 ((2 : Nat) : Int))) (a := 0) (b := 2) (.inl ⟨rfl, rfl⟩) (.inr rfl) (by decide) (by decide)
  refine V.ok (urun _) ?_
  have ol3 : oneC lv3 = true := by obtain ⟨a, c, rfl⟩ := (usl _ rl9.ints).shape; rfl
  refine bld bd_47 [(0, p2), (1, i64 3), (2, lv3)] rfl (by simp [ol3, op2, one_i]) ?_
  refine bslG Tryz.underlying25 inf47 rfl (by decide) [.agg #[nilS, i64 0, lv, nilS], .agg #[p1, i64 2, lv, nilS], .agg #[p2, i64 3, lv3, nilS]] rfl rfl (by intro v hv; simp only [List.mem_cons, List.not_mem_nil, or_false] at hv; rcases hv with rfl | rfl | rfl <;> rfl) (by decide) (by decide) fun mv w12 hom x12 => ?_
  have s12 := x12.size
  have hom : w12.ownsRow w11.heap.size 47 4 mv 3 (apC lv p1 p2 lv3 fun _ => nilS) := hom
  obtain ⟨gm, cap, rfl⟩ : ∃ gm cap, mv = .slice (some ⟨gm, 0, none⟩) 3 cap := by
    rcases hom.2 with ⟨_, e⟩ | ⟨gm, cap, cur, rfl, _⟩
    · cases e
    · exact ⟨gm, cap, rfl⟩
  have hgm := hom.lt gm rfl
  have x9b := x10.trans x11
  have x9c := x9b.trans x12
  refine stF fa_27_3 inf25 (hB9.ext x9c) (n := 5) rfl (by decide) rfl ?_
  have hBC : Blk (w12.setCell ⟨gi, 3, none⟩ (.slice (some ⟨gm, 0, none⟩) 3 cap)) gi [.string nm, fv, iv, .slice (some ⟨gm, 0, none⟩) 3 cap, xv] 27 := (hB9.ext x9c).set 3 _
  have fC : Fr (fun k => k = gi ∨ k = g4 ∨ w11.heap.size ≤ k) w11 (w12.setCell ⟨gi, 3, none⟩ (.slice (some ⟨gm, 0, none⟩) 3 cap)) := (Fr.of_ext x12).set (.inl rfl)
  have homC : (w12.setCell ⟨gi, 3, none⟩ (.slice (some ⟨gm, 0, none⟩) 3 cap)).ownsRow w11.heap.size 47 4 (.slice (some ⟨gm, 0, none⟩) 3 cap) 3 (apC lv p1 p2 lv3 fun _ => nilS) := (Fr.of_set (S := fun k => k = gi) rfl).own hom fun k hk hS => by have := hom.lt k hk; omega
  have hB4C : Blk (w12.setCell ⟨gi, 3, none⟩ (.slice (some ⟨gm, 0, none⟩) 3 cap)) g4 _ _ := (hB49.ext x9c).other hgi4
  have szC : (w12.setCell ⟨gi, 3, none⟩ (.slice (some ⟨gm, 0, none⟩) 3 cap)).heap.size = w12.heap.size := by simp
  generalize w12.setCell ⟨gi, 3, none⟩ (.slice (some ⟨gm, 0, none⟩) 3 cap) = wC at *
  have hb11 : Ext w w11 := (Ext.refl w).trans (f59.trans x9b)
  have hr0 : ∀ {w'}, Ext w w' → RwsAre w' rv rl := fun hx => (hr0 : RwsAre w rv rl).ext hx
  have hall : ∀ {w'}, Fr (fun k => k = gi ∨ k ≤ g4 ∨ w11.heap.size ≤ k) w11 w' → IntsAre w' fv [1, 2, 3, 4] ∧ IntsAre w' xv [1, 2] ∧ IntsAre w' lv [1, 2, 3, 4] ∧ IntsAre w' p1 [1, 2] ∧ IntsAre w' p2 [4, 3] ∧ IntsAre w' lv3 [1, 2] ∧ ImpsAre w' iv (apIs n1 n2) := by
    intro w' f
    have hN := Nat.le_refl w11.heap.size
    have hl := ((rl9.ext x9b).fr f hN).ints
    refine ⟨((rf9.ext x9b).fr f hN).ints, ((rx9.ext x9b).fr f hN).ints, hl, ((rp1.ext x11).fr f hN).ints, (rp2.fr f hN).ints, usl w' hl, apImps (SliceIs.of_own (f.own (x9b.own hoi9) fun k hk hS => ?_)) ((rq19.ext x9b).fr f hN).ints ((rq29.ext x9b).fr f hN).ints⟩
    have := (x9b.own hoi9).lt k hk
    omega
  have hallX : ∀ {w'}, Fr (fun k => k = gi ∨ k = g4 ∨ w11.heap.size ≤ k) w11 w' → Ext w w' := fun f => f.ext hb11 fun k hS => by omega
  have hS : ∀ {w'}, Fr (fun k => k = gi ∨ k = g4 ∨ w11.heap.size ≤ k) w11 w' → Fr (fun k => k = gi ∨ k ≤ g4 ∨ w11.heap.size ≤ k) w11 w' := fun f => f.mono fun k hk => by omega
  clear rl9 rf9 rx9 rq19 rq29 hoi9 rp1 rp2 hB9 hB49 hom usl urun hp1 hp2
  refine lnR xa_22 (hr0 (hallX fC)) ?_
  have hgmC : gm < wC.heap.size := by omega
  refine ⟨fun v w' => ∃ (j : Nat) (c : Nat → Value) (code : Nat → List Ins), v = i64 j ∧ j ≤ 3 ∧ Fr (fun k => k = gi ∨ k = g4 ∨ w11.heap.size ≤ k) w11 w' ∧ wC.heap.size ≤ w'.heap.size ∧ Blk w' gi [.string nm, fv, iv, .slice (some ⟨gm, 0, none⟩) 3 cap, xv] 27 ∧ Blk w' g4 [.string ByteArray.empty, nilS, nilS, nilS, nilS] 27 ∧ w'.ownsRow w11.heap.size 47 4 (.slice (some ⟨gm, 0, none⟩) 3 cap) 3 (apC lv p1 p2 lv3 c) ∧ ∀ k, w'.ownsRow (gm + 1) 71 3 (c k) (code k).length (insC (code k)) ∧ (∀ x ∈ code k, x.rg) ∧ (code k).length ≤ 700000,
    fun v _ => 3 - (RowKit.intOf v).toNat, ⟨0, fun _ => nilS, fun _ => [], rfl, Nat.zero_le _, fC, Nat.le_refl _, hBC, hB4C, homC, fun k => ⟨World.ownsRow_nil _ _ _ _, fun _ h => by simp at h, Nat.zero_le _⟩⟩, ?_⟩
  clear hBC hB4C homC fC
  rintro _ wD ⟨j, c, code, rfl, hj, f, hsz, hBi, hB4, hom, hcs⟩ _
  obtain ⟨rf, rx, rl', rp1, rp2, rl3, rim⟩ := hall (hS f)
  have xw := hallX f
  have hms : MthsAre wD (.slice (some ⟨gm, 0, none⟩) 3 cap) (apMs code) := apMths (SliceIs.of_own hom) rl' rp1 rp2 rl3 fun k _ => SliceIs.of_own (hcs k).1
  refine V_lss.2 (ifD_dec (fun hlt => ?_) fun hge => ?_)
  · have hrD := hr0 xw
    have e1 : ∀ m : Nat, m ≤ 3 → V Tryz.prog (binOp .mul 3 (i64 m) (i64 rl.length)) wD = V Tryz.prog (binOp .mul 3 (i64 m) (i64 rl.length)) wD := fun _ _ => rfl
    have e2 : ∀ m : Nat, m ≤ 3 → IntKind.i64.wrap ((m : Int) * (rl.length : Int)) = ((m * rl.length : Nat) : Int) := fun m hm => by
      have : m * rl.length ≤ 3 * rl.length := Nat.mul_le_mul_right _ hm
      rw [← Int.natCast_mul]
      exact wrap_id (by omega) (by omega)
    have e3 : ∀ (m d : Nat), m ≤ 15000000000000 → IntKind.i64.wrap (((m : Nat) : Int).tdiv ((d : Nat) : Int)) = ((m / d : Nat) : Int) := fun m d hm => by
      have h1 : ((m : Nat) : Int).tdiv ((d : Nat) : Int) = ((m / d : Nat) : Int) := by
        rw [Int.tdiv_eq_ediv_of_nonneg (by omega)]; rfl
      have h2 : m / d ≤ m := Nat.div_le_self _ _
      rw [h1]
      clear h1
      generalize m / d = q at *
      exact wrap_id (by omega) (by omega)
    have e4 : ∀ a b : Nat, min ((a : Nat) : Int) ((b : Nat) : Int) = ((min a b : Nat) : Int) := fun a b => by omega
    have hj3 : j * rl.length ≤ 3 * rl.length := Nat.mul_le_mul_right _ hj
    have hj4 : (j + 1) * rl.length ≤ 3 * rl.length := Nat.mul_le_mul_right _ (by omega)
    refine V_mul.2 ?_
    rw [e2 j hj]
    refine (V_quo (by decide)).2 ?_
    rw [show (3 : Int) = ((3 : Nat) : Int) from rfl, e3 _ 3 (by omega)]
    refine V.ok r_min (V_add.2 ?_)
    rw [e4, wrap_id (n := (j : Int) + 1) (by omega) (by omega), i64_succ]
    refine V_mul.2 ?_
    rw [e2 (j + 1) (by omega)]
    refine (V_quo (by decide)).2 ?_
    rw [e3 _ 3 (by omega)]
    refine V.ok r_min ?_
    rw [e4]
    have hd1 : j * rl.length / 3 ≤ (j + 1) * rl.length / 3 := Nat.div_le_div_right (Nat.mul_le_mul_right _ (by omega))
    obtain ⟨v1, r1, hs1⟩ := RwsAre.part Tryz.underlying22 inf120 hrD (lo := some (.int .i64 ((min rl.length (j * rl.length / 3) : Nat) : Int))) (hi' := some (.int .i64 ((min rl.length ((j + 1) * rl.length / 3) : Nat) : Int))) (.inr rfl) (.inr rfl) (by omega) (by omega)
    refine V.ok (r1 _) ?_
    refine ⟨fun v w' => ∃ l, RwsAre wD v l ∧ l.length ≤ 5000000000000 ∧ w' = wD, V_eqlI.2 (ifD_dec (fun hz => ?_) fun hz => ⟨_, hs1, by simp; omega, rfl⟩), ?_⟩
    · refine (V_quo (by decide)).2 ?_
      rw [show (2 : Int) = ((2 : Nat) : Int) from rfl, e3 _ 2 (by omega)]
      refine V.ok r_min ?_
      rw [e4]
      obtain ⟨v2, r2, hs2⟩ := RwsAre.part Tryz.underlying22 inf120 hrD (lo := none) (hi' := some (.int .i64 ((min rl.length (rl.length / 2) : Nat) : Int))) (a := 0) (.inl ⟨rfl, rfl⟩) (.inr rfl) (by omega) (by omega)
      exact V.ok (r2 _) ⟨_, hs2, by simp; omega, rfl⟩
    rintro v3 wD' ⟨l, hl, hll, hwD⟩ _
    have hwD := hwD.symm
    subst hwD
    have D1 : Ext wD wD.drew := (Ext.refl _).drew
    have hBid := hBi.ext D1
    obtain ⟨m, hm⟩ := ex_get (l := apMs code) (j := j) (by simp [apMs]; omega)
    refine drawD.mk' (fun w' => Ext wD.drew w') (Ext.refl _) ?_
    refine yfB (fun w' hx => Blk.boxed (hBid.ext hx)) fa_27_3 l1_25 rfl ?_
    refine yfB (fun w' hx => Blk.boxed (hBid.ext hx)) fa_27_3 l1_25 rfl ?_
    refine ySS xa_25 la_47 (hms.ext D1) (fun _ h => h) hm mth_len fun row hrow => ?_
    refine yfB (fun w' hx => Blk.boxed (hBid.ext hx)) fa_27_3 l1_25 rfl ?_
    refine yfB (fun w' hx => Blk.boxed (hBid.ext hx)) fa_27_2 l1_24 rfl ?_
    have xwd := xw.trans D1
    have hmp := apM_small hm
    refine code26 (hl.ext D1) hrow (hms.ext D1) (rim.ext D1) (fun q hq => ?_) hll (by omega) (by omega) ⟨by simp [apMs], by simp [apMs]⟩ (by simp [apMs]) (by simp [apIs]) (by simp [apIs]) fun v4 code4 wE ho4 hrg4 hlen4 xE => ⟨xE, ?_⟩
    · obtain ⟨z, hz⟩ := hb q hq
      exact ⟨z, xwd.cell hz⟩
    have x3E := D1.trans xE
    refine yieldS.ok (fun w' _ => r_index Tryz.underlying25 inf47 (by omega) (by omega)) ?_
    refine yieldS.ok (fun w' _ => FA.ex fa_47_3 w' _ _) ?_
    rw [Int.toNat_natCast]
    refine stOF Tryz.underlying25 inf47 fa_47_3 inf45 (x3E.own hom) (by omega) (by decide) (own_one ho4) fun wF hwF hoF fF => V_add.2 ?_
    rw [wrap_id (by omega) (by omega), i64_succ]
    have sE := x3E.size
    have sD := D1.size
    have sF := fF.size
    rw [apC_set (by omega)] at hoF
    refine ⟨⟨j + 1, fun k => if k = j then v4 else c k, fun k => if k = j then code4 else code k, rfl, by omega, (f.trans (Fr.of_ext x3E) fun _ _ h => h).trans fF fun k _ hk => by omega, by omega, fF.blk (hBi.ext x3E) (by omega), fF.blk (hB4.ext x3E) (by omega), hoF, fun k => ?_⟩, by simp only [intOf_i64]; omega⟩
    by_cases hkj : k = j
    · simp only [hkj, if_true]
      exact ⟨own_mono (fF.own ho4 fun q hq hS => by have := (ho4.lt q hq).1; omega) (by omega), hrg4, hlen4⟩
    · simp only [hkj, if_false]
      obtain ⟨c1, c2, c3⟩ := hcs k
      exact ⟨fF.own (x3E.own c1) fun q hq hS => by have := (c1.lt q hq).1; omega, c2, c3⟩
  · refine ldA (Blk.boxed hBi) la_27 rfl ?_
    refine stA inf27 hB4 (l := [.string nm, fv, iv, .slice (some ⟨gm, 0, none⟩) 3 cap, xv]) rfl rfl rfl (by simp [o1, o2, own_one hoi0, one_s, one_l]) fun wE hBE hc => ?_
    refine ⟨_, r_var Tryz.underlying27 rfl inf27 hBE rfl, ⟨_, rfl⟩, ?_⟩
    have fE : Fr (fun k => k = gi ∨ k = g4 ∨ w11.heap.size ≤ k) w11 wE := f.trans ((chg_fr hc).mono fun k hk => .inr (.inl hk)) fun _ _ h => h
    have xw := hallX fE
    have hg4m : g4 < gm := by omega
    have homE := (chg_fr hc).own hom fun k hk hS => by have := (hom.lt k hk).1; omega
    have hcsE : ∀ k, wE.ownsRow (gm + 1) 71 3 (c k) (code k).length (insC (code k)) := fun k => (chg_fr hc).own (hcs k).1 fun q hq hS => by have := ((hcs k).1.lt q hq).1; omega
    have stay : ∀ w'', Fr (fun k => k < g4) wE w'' → Tabs w'' → ImgAt w'' ⟨fv, iv, .slice (some ⟨gm, 0, none⟩) 3 cap, xv⟩ ⟨nm, [1, 2, 3, 4], apIs n1 n2, apMs code, [1, 2]⟩ ∧ NamesOk w'' ⟨nm, [1, 2, 3, 4], apIs n1 n2, apMs code, [1, 2]⟩ := by
      intro w'' f'' hT''
      have f3 : Fr (fun k => k = gi ∨ k ≤ g4 ∨ w11.heap.size ≤ k) w11 w'' := (hS fE).trans f'' fun k _ hk => by omega
      obtain ⟨rf, rx, rl', rp1, rp2, rl3, rim⟩ := hall f3
      refine ⟨⟨rf, rim, apMths (SliceIs.of_own (f''.own homE fun k hk hS => by have := (homE.lt k hk).1; omega)) rl' rp1 rp2 rl3 fun k _ => SliceIs.of_own (f''.own (hcsE k) fun q hq hS => by have := ((hcsE k).lt q hq).1; omega), rx⟩, nmB_ok hnm hT'', fun x hx => ?_⟩
      simp only [apIs, List.mem_cons, List.not_mem_nil, or_false] at hx
      rcases hx with rfl | rfl
      · exact nmB_ok hn1 hT''
      · exact nmB_ok hn2 hT''
    have stayM : ∃ cs : List Value, ∀ w'', Fr (fun k => k < g4) wE w'' → SliceIs w'' (.slice (some ⟨gm, 0, none⟩) 3 cap) 4 3 cs ∧ ∀ (k : Nat) (x : Mth), (apMs code)[k]? = some x → MthIs w'' ((cs.drop (k * 4)).take 4) x := by
      refine ⟨apC lv p1 p2 lv3 c, fun w'' f'' => ?_⟩
      have f3 : Fr (fun k => k = gi ∨ k ≤ g4 ∨ w11.heap.size ≤ k) w11 w'' := (hS fE).trans f'' fun k _ hk => by omega
      obtain ⟨rf, rx, rl', rp1, rp2, rl3, rim⟩ := hall f3
      exact apMths' (w := w'') (SliceIs.of_own (f''.own homE fun k hk hS => by have := (homE.lt k hk).1; omega)) rl' rp1 rp2 rl3 fun k _ => SliceIs.of_own (f''.own (hcsE k) fun q hq hS => by have := ((hcsE k).lt q hq).1; omega)
    have hTE := hT.ext xw
    obtain ⟨hat, hnmE⟩ := stay wE (Fr.refl _ _) hTE
    refine hk ⟨fv, iv, .slice (some ⟨gm, 0, none⟩) 3 cap, xv⟩ ⟨nm, [1, 2, 3, 4], apIs n1 n2, apMs code, [1, 2]⟩ wE hat hnmE (fun m hm x hx => ?_) rfl (fun m hm => ?_) (by rw [hgg4]; exact stay) (by rw [hgg4]; exact stayM) xw
    · simp only [apMs, List.mem_cons, List.not_mem_nil, or_false] at hm
      rcases hm with rfl | rfl | rfl
      · exact (hcs 0).2.1 x hx
      · exact (hcs 1).2.1 x hx
      · exact (hcs 2).2.1 x hx
    · simp only [apMs, List.mem_cons, List.not_mem_nil, or_false] at hm
      rcases hm with rfl | rfl | rfl
      · exact (hcs 0).2.2
      · exact (hcs 1).2.2
      · exact (hcs 2).2.2
end Go.Proofs.YtcdbikfnlggbnaaGreatDoor
namespace Go.Vc
section
variable {P : Program} {w : World} {K : Value → World → Prop}
/-- A struct of three cells is stored into a row that the call owns. -/
theorem stO3 {t : TypeId} {z : Value} {by_ g n cap B k : Nat} {e : TypeId} {xs : List Value} {a b c : Value} {K' : Value → World → Prop} (hi : Inf P t z 3 by_) (ho : w.ownsRow B e 3 (.slice (some ⟨g, 0, none⟩) n cap) n xs) (hk : k < n) (h1 : oneC a = true) (h2 : oneC b = true) (h3 : oneC c = true)
    (hK : ∀ w', w'.ownsRow B e 3 (.slice (some ⟨g, 0, none⟩) n cap) n (((xs.set (k * 3) a).set (k * 3 + 1) b).set (k * 3 + 2) c) → Fr (fun i => i = g) w w' → K' undef w') : U P (Instr.storeAt t (.pointer (some ⟨g, 0 + k * 3, none⟩)) (.agg #[a, b, c])) w K' := by
  have hl : xs.length = n * 3 := ho.1
  have hle : k * 3 + 3 ≤ n * 3 := by omega
  obtain ⟨o1, _⟩ := ho.stored (k * 3) a
  obtain ⟨o2, _⟩ := o1.stored (k * 3 + 1) b
  obtain ⟨o3, _⟩ := o2.stored (k * 3 + 2) c
  have c1 := ho.cellAt (k * 3) (by omega)
  rw [List.getElem?_eq_getElem (by omega)] at c1
  have c2 := o1.cellAt (k * 3 + 1) (by omega)
  rw [List.getElem?_eq_getElem (by rw [List.length_set]; omega)] at c2
  have c3 := o2.cellAt (k * 3 + 2) (by omega)
  rw [List.getElem?_eq_getElem (by rw [List.length_set, List.length_set]; omega)] at c3
  have r1 := run_store1 (P := P) h1 c1 (ho.frozenAt _)
  have r2 := run_store1 (P := P) h2 c2 (o1.frozenAt _)
  have r3 := run_store1 (P := P) h3 c3 (o2.frozenAt _)
  have hs : (storeCells ⟨g, k * 3, none⟩ [a, b, c] 0).run P w = .ok () (((w.setCell ⟨g, k * 3, none⟩ a).setCell ⟨g, k * 3 + 1, none⟩ b).setCell ⟨g, k * 3 + 2, none⟩ c) := by
    simp only [storeCells, add_mk, Sem.run_bind, Nat.add_zero, Nat.zero_add]
    rw [r1, Result.andThen_ok, r2, Result.andThen_ok, r3, Result.andThen_ok]
    simp
  rw [Nat.zero_add]
  refine U.ok ?_ (hK _ o3 ((Fr.of_set (S := fun i => i = g) rfl).set rfl |>.set rfl))
  simp [Instr.storeAt, Instr.sureAddr, storeVar, run_size hi, Value.cells, hs]
/-- l[:k], of a row that the call owns. -/
theorem slO {t e sz : Nat} {z : Value} {by_ : Nat} (ht : P.underlying t = some (.slice e)) (hi : Inf P e z sz by_) (hsz : 0 < sz) {B n g cap : Nat} {xs : List Value} (ho : w.ownsRow B e sz (.slice (some ⟨g, 0, none⟩) n cap) n xs) {k : Nat} (hk : k ≤ n) (h0 : 0 < n)
    (hK : w.ownsRow B e sz (.slice (some ⟨g, 0, none⟩) k cap) k (xs.take (k * sz)) → K (.slice (some ⟨g, 0, none⟩) k cap) w) : V P (Instr.sliceAt t (.slice (some ⟨g, 0, none⟩) n cap) none (some (i64 k)) none) w K := by
  have hcap : n ≤ cap := by
    rcases ho.2 with ⟨he, _⟩ | ⟨g', cap', cur, he, _, _, h3, _⟩
    · cases he
    · cases he; exact h3
  have hc0 : ¬ cap = 0 := by omega
  have hkc : k ≤ cap := by omega
  refine V.ok ?_ (hK (own_take' ho hk))
  simp [Instr.sliceAt, Instr.slice, run_underlying ht, run_size hi, Instr.sliceBounds, Instr.sliceBound, asIntOf, hkc, hc0, add_mk]
end
end Go.Vc
namespace Go.Proofs.YtcdbikfnlggbnaaGreatDoor
open Go.Vc Go.Tc
variable {w : World} {K : Value → World → Prop}
theorem insC_app (l m : List Ins) : insC (l ++ m) = insC l ++ insC m := by simp [insC]
theorem insC_drop : ∀ (l : List Ins) (a : Nat), (insC l).drop (a * 3) = insC (l.drop a)
  | [], a => by simp [insC]
  | x :: l, 0 => by simp
  | x :: l, a + 1 => by
    have := insC_drop l a
    simp only [insC, List.flatMap_cons, List.drop_succ_cons] at this ⊢
    rw [show (a + 1) * 3 = 3 + a * 3 by omega, ← List.drop_drop, List.drop_left' (by rfl)]
    exact this
theorem insC_take : ∀ (l : List Ins) (a : Nat), (insC l).take (a * 3) = insC (l.take a)
  | [], a => by simp [insC]
  | x :: l, 0 => by simp [insC]
  | x :: l, a + 1 => by
    have := insC_take l a
    simp only [insC, List.flatMap_cons, List.take_succ_cons] at this ⊢
    rw [show (a + 1) * 3 = 3 + a * 3 by omega, List.take_add, List.take_left' (by rfl), List.drop_left' (by rfl), this]
theorem insC_setO : ∀ {l : List Ins} {k : Nat} {x : Ins} {z : Int}, l[k]? = some x → (insC l).set (k * 3 + 0) (i64 z) = insC (l.set k ⟨z, x.a, x.b⟩)
  | [], _, _, _, h => by simp at h
  | y :: l, 0, x, z, h => by simp at h; subst h; simp [insC]
  | y :: l, k + 1, x, z, h => by
    have := insC_setO (l := l) (k := k) (z := z) (by simpa using h)
    simp only [insC, List.flatMap_cons, List.set_cons_succ] at this ⊢
    rw [show (k + 1) * 3 + 0 = k * 3 + 0 + 3 by omega]
    simpa using this
theorem insC_setW : ∀ {l : List Ins} {k : Nat} {x : Ins}, k < l.length → (((insC l).set (k * 3) (i64 x.op)).set (k * 3 + 1) (i64 x.a)).set (k * 3 + 2) (i64 x.b) = insC (l.set k x)
  | [], _, _, h => by simp at h
  | y :: l, 0, x, h => by simp [insC]
  | y :: l, k + 1, x, h => by
    have := insC_setW (l := l) (k := k) (x := x) (by simpa using h)
    simp only [insC, List.flatMap_cons, List.set_cons_succ] at this ⊢
    rw [show (k + 1) * 3 = k * 3 + 3 by omega, show k * 3 + 3 + 1 = k * 3 + 1 + 3 by omega, show k * 3 + 3 + 2 = k * 3 + 2 + 3 by omega]
    simpa using this
/-- One element's cell is another. -/
theorem row_set {cs row : List Value} {sz k q o : Nat} {v : Value} (h : (cs.drop (k * sz)).take sz = row) (hrow : row.length = sz) (ho : o < sz) : ((cs.set (q * sz + o) v).drop (k * sz)).take sz = if k = q then row.set o v else row := by
  apply List.ext_getElem?
  intro j
  have hj : ∀ l : List Value, ((l.drop (k * sz)).take sz)[j]? = if j < sz then l[k * sz + j]? else none := fun l => by
    rw [List.getElem?_take, List.getElem?_drop]
  have hr : row[j]? = if j < sz then cs[k * sz + j]? else none := by rw [← h, hj]
  rw [hj]
  by_cases hjs : j < sz
  · rw [if_pos hjs]
    by_cases hkq : k = q
    · subst hkq
      rw [if_pos rfl, List.getElem?_set, List.getElem?_set]
      rw [if_pos hjs] at hr
      by_cases hoj : o = j
      · subst hoj
        rw [if_pos rfl, if_pos rfl]
        have h1 : o < row.length := by omega
        have h2 : k * sz + o < cs.length := by
          have : row[o]? ≠ none := by rw [List.getElem?_eq_getElem h1]; simp
          rw [hr] at this
          exact Nat.lt_of_not_le fun hle => this (List.getElem?_eq_none hle)
        rw [if_pos h1, if_pos h2]
      · rw [if_neg hoj, if_neg (by omega), hr]
    · rw [if_neg hkq, List.getElem?_set, if_neg ?_]
      · rw [hr, if_pos hjs]
      · intro he
        rcases Nat.lt_or_gt_of_ne hkq with hlt | hgt
        · have := Nat.mul_le_mul_right sz (show k + 1 ≤ q by omega)
          rw [Nat.add_mul, Nat.one_mul] at this; omega
        · have := Nat.mul_le_mul_right sz (show q + 1 ≤ k by omega)
          rw [Nat.add_mul, Nat.one_mul] at this; omega
  · rw [if_neg hjs]
    split
    · rw [List.getElem?_eq_none (by rw [List.length_set]; omega)]
    · rw [List.getElem?_eq_none (by omega)]
end Go.Proofs.YtcdbikfnlggbnaaGreatDoor
namespace Go.Tc
def Img.withCode (i : Img) (q : Nat) (code : List Ins) : Img := { i with methods := i.methods.set q { i.meth q with code := code } }
end Go.Tc
namespace Go.Proofs.YtcdbikfnlggbnaaGreatDoor
open Go.Vc Go.Tc
variable {w : World} {K : Value → World → Prop}
theorem rg_set {l : List Ins} {k : Nat} {x : Ins} (h : ∀ y ∈ l, y.rg) (hx : x.rg) : ∀ y ∈ l.set k x, y.rg := fun y hy => by
  rcases List.mem_or_eq_of_mem_set hy with hy | rfl
  · exact h y hy
  · exact hx
theorem rg0 (op a : Int) : Ins.rg ⟨op, a, 0⟩ := ⟨by show (-9223372036854775808 : Int) ≤ 0; decide, by show (0 : Int) ≤ 9223372036854775807; decide⟩
/-- What an applet is, for the laws. -/
structure Apl (w : World) (p : ImgV) (i : Img) : Prop where
  at_ : ImgAt w p i
  nm : NamesOk w i
  rg : i.rg
  ml : i.methods.length = 3
  cl : ∀ m ∈ i.methods, m.code.length ≤ 2000000
theorem Apl.ext {w' : World} {p : ImgV} {i : Img} (h : Apl w p i) (hx : Ext w w') : Apl w' p i := ⟨h.at_.ext hx, h.nm.ext hx, h.rg, h.ml, h.cl⟩
theorem insC_one (l : List Ins) : (insC l).all oneC = true := List.all_eq_true.2 fun v hv => by
  simp only [insC, List.mem_flatMap, List.mem_cons, List.not_mem_nil, or_false] at hv
  obtain ⟨x, _, rfl | rfl | rfl⟩ := hv <;> rfl
theorem bs0M (hk : ∀ v w', w'.ownsRow w.heap.size 47 4 v 0 [] → Ext w w' → K v w') : V Tryz.prog (Instr.buildSlice 25 0 #[]) w K := by
  refine V.ok (v := .slice (some ⟨w.heap.size, 0, none⟩) 0 0) (w' := w.alloc (.cells (([] : List Value)).toArray 47)) (by kernel_rfl) ?_
  exact hk _ _ (World.ownsRow_lit (base := w.heap.size) (e := 47) (size := 4) w (([] : List Value)).toArray 0 (Nat.le_refl _) (Nat.zero_le _) rfl) ((Ext.refl _).alloc _)
theorem bs0I (hk : ∀ v w', w'.ownsRow w.heap.size 71 3 v 0 (insC []) → Ext w w' → K v w') : V Tryz.prog (Instr.buildSlice 45 0 #[]) w K := by
  refine V.ok (v := .slice (some ⟨w.heap.size, 0, none⟩) 0 0) (w' := w.alloc (.cells (([] : List Value)).toArray 71)) (by kernel_rfl) ?_
  exact hk _ _ (World.ownsRow_lit (base := w.heap.size) (e := 71) (size := 3) w (([] : List Value)).toArray 0 (Nat.le_refl _) (Nat.zero_le _) rfl) ((Ext.refl _).alloc _)
/-- An append of instructions. -/
theorem apI {B : Nat} {v x : Value} {l m : List Ins} (ho : w.ownsRow B 71 3 v l.length (insC l)) (hs : InsAre w x m) (hl : l.length + m.length ≤ 10000000) (hB : B ≤ w.heap.size)
    (hk : ∀ v' w', w'.ownsRow B 71 3 v' (l ++ m).length (insC (l ++ m)) → w.grownBy w' v.ownBlock → K v' w') : V Tryz.prog (Builtin.append_ #[45, 45] 45 #[v, x]) w K := by
  refine apG Tryz.underlying45 inf71 rfl (by decide) ho hs (insC_one _) (by omega) (by unfold maxLen; omega) hB fun v' w' h1 h2 _ => hk v' w' ?_ h2
  rw [List.length_append, insC_app]; exact h1
/-- A part of a row of instructions. -/
theorem ins_part {v : Value} {l : List Ins} (h : InsAre w v l) {lo hi' : Option Value} {a b : Nat} (ha : (lo = none ∧ a = 0) ∨ lo = some (.int .i64 a)) (hb : (hi' = none ∧ b = l.length) ∨ hi' = some (.int .i64 b)) (hab : a ≤ b) (hbn : b ≤ l.length) :
    ∃ v', (∀ w', (Instr.sliceAt 45 v lo hi' none).run Tryz.prog w' = .ok v' w') ∧ InsAre w v' ((l.drop a).take (b - a)) := by
  obtain ⟨v', h1, h2⟩ := r_slN Tryz.underlying45 inf71 h ha hb hab hbn
  refine ⟨v', h1, ?_⟩
  have := h2 w h
  rw [insC_drop, insC_take] at this
  unfold InsAre
  rwa [show ((l.drop a).take (b - a)).length = b - a by simp; omega]
/-- What a bend leaves of the code. -/
def BJ (N0 : Nat) (w0 : World) (v : Value) (w' : World) : Prop := ∃ code' : List Ins, w'.ownsRow N0 71 3 v code'.length (insC code') ∧ (∀ x ∈ code', x.rg) ∧ code'.length ≤ 2000000 ∧ Fr (fun k => N0 ≤ k) w0 w'
/-- An applet stays whatever happens to the blocks ahead of B. -/
structure Stay (B : Nat) (w : World) (p : ImgV) (i : Img) : Prop where
  ap : ∀ w'', Fr (fun k => k < B) w w'' → Tabs w'' → Apl w'' p i
  mt : ∃ cs : List Value, ∀ w'', Fr (fun k => k < B) w w'' → SliceIs w'' p.mv 4 i.methods.length cs ∧ ∀ (k : Nat) (x : Mth), i.methods[k]? = some x → MthIs w'' ((cs.drop (k * 4)).take 4) x
theorem Stay.by_ {B B' : Nat} {w' : World} {p : ImgV} {i : Img} (h : Stay B w p i) (hf : ∀ w'', Fr (fun k => k < B') w' w'' → Fr (fun k => k < B) w w'') : Stay B' w' p i := by
  obtain ⟨h1, cs, h2⟩ := h
  exact ⟨fun w'' f hT => h1 w'' (hf w'' f) hT, cs, fun w'' f => h2 w'' (hf w'' f)⟩
theorem Stay.ext {B : Nat} {w' : World} {p : ImgV} {i : Img} (h : Stay B w p i) (hx : Ext w w') : Stay B w' p i := h.by_ fun w'' f => (Fr.of_ext hx).trans f fun _ _ h => h
theorem Stay.now {B : Nat} {p : ImgV} {i : Img} (h : Stay B w p i) (hT : Tabs w) : Apl w p i := h.ap w (Fr.refl _ _) hT
set_option maxHeartbeats 4000000 in
theorem bent8 {p : ImgV} {i : Img} {a b e : Int} {B : Nat} (hst : Stay B w p i) (hT : Tabs w) (hB0 : B ≤ w.heap.size) (hc7 : ∀ m ∈ i.methods, m.code.length ≤ 700000) (hk : ∀ p' i' w', Stay B w' p' i' → Ext w w' → K (p'.val i') w') :
    callD Tryz.prog 8 #[p.val i, i64 a, i64 b, i64 e] w K := by
  apply F8_wp
  unfold F8_den ImgV.val
  have h := hst.now hT
  have ml := h.ml
  refine bxK fun w1 hB4 x1 => ?_
  have hB4 : Blk w1 w.heap.size [.string i.name, p.fv, p.iv, p.mv, p.xv] 27 := hB4
  have l4 := hB4.lt
  refine alK inf27 fun w2 hB8 x2 => ?_
  have hB8 : Blk w2 w1.heap.size [.string ByteArray.empty, nilS, nilS, nilS, nilS] 27 := hB8
  have l8 := hB8.lt
  have hB4 := hB4.ext x2
  generalize hg4 : w.heap.size = g4 at *
  generalize hg8 : w1.heap.size = g8 at *
  obtain ⟨cs, hcsA⟩ := hst.mt
  obtain ⟨hcs, hrowsA⟩ := hcsA w (Fr.refl _ _)
  have hrows : ∀ (k : Nat) x, i.methods[k]? = some x → ∃ row, (cs.drop (k * 4)).take 4 = row ∧ MthIs w row x := fun k x hx => ⟨_, rfl, hrowsA k x hx⟩
  have hcl : cs.length = i.methods.length * 4 := hcs.1
  have x12 := x1.trans x2
  refine bs0M fun v3 w3 ho3 x3 => ?_
  have s3 := x3.size
  refine ldB (Blk.boxed (hB4.ext x3)) fa_27_3 l1_25 rfl ?_
  have hone : cs.all oneC = true := List.all_eq_true.2 fun u hu => by
    obtain ⟨j, hj⟩ := List.getElem?_of_mem hu
    have hjl := (List.getElem?_eq_some_iff.1 hj).1
    obtain ⟨row, hrow, pv, lv, cv, hre, hp, hl, hc⟩ := hrows (j / 4) _ (List.getElem?_eq_getElem (show j / 4 < i.methods.length by omega))
    have hj4 : row[j % 4]? = some u := by
      rw [← hrow, List.getElem?_take, if_pos (by omega), List.getElem?_drop, show j / 4 * 4 + j % 4 = j by omega]
      exact hj
    rw [hre] at hj4
    obtain ⟨a1, c1, rfl⟩ := hp.shape
    obtain ⟨a2, c2, rfl⟩ := hl.shape
    obtain ⟨a3, c3, rfl⟩ := SliceIs.shape hc
    have h4 : j % 4 = 0 ∨ j % 4 = 1 ∨ j % 4 = 2 ∨ j % 4 = 3 := by omega
    rcases h4 with h4 | h4 | h4 | h4 <;> rw [h4] at hj4 <;> cases hj4 <;> rfl
  refine apG Tryz.underlying25 inf47 rfl (by decide) ho3 (hcs.ext (x12.trans x3)) hone (by omega) (by unfold maxLen; omega) s3 fun v4 w4 ho4 hg4' _ => ?_
  have ho4 : w4.ownsRow w2.heap.size 47 4 v4 (0 + i.methods.length) cs := by simpa using ho4
  rw [Nat.zero_add, ml] at ho4
  have x4 : Ext w2 w4 := x3.grown hg4' fun k hk => (ho3.lt k hk).1
  have s4 := x4.size
  obtain ⟨gm, capm, rfl⟩ : ∃ gm cap, v4 = .slice (some ⟨gm, 0, none⟩) 3 cap := by
    rcases ho4.2 with ⟨_, e⟩ | ⟨gm, cap, cur, rfl, _⟩
    · cases e
    · exact ⟨gm, cap, rfl⟩
  have hgm := ho4.lt gm rfl
  refine lnx xa_25 (SliceIs.of_own ho4) (pick10 (by decide) (by decide) fun q hq0 hq1 => ?_)
  obtain ⟨q, rfl⟩ : ∃ q2 : Nat, q = q2 := ⟨q.toNat, by omega⟩
  have hq3 : q < 3 := by omega
  have x04 := x12.trans x4
  obtain ⟨m, hm⟩ := ex_get (l := i.methods) (j := q) (by omega)
  obtain ⟨row, hrow, pv, lv, cv, rfl, hp, hl, hc⟩ := hrows q m hm
  have hmm := List.mem_of_getElem? hm
  have hml := hc7 m hmm
  have hmrg := h.rg m hmm
  have hrow3 : cs[q * 4 + 3]? = some cv := by
    have : ((cs.drop (q * 4)).take 4)[3]? = some cv := by rw [hrow]; rfl
    rwa [List.getElem?_take, if_pos (by decide), List.getElem?_drop] at this
  refine bs0I fun v5 w5 ho5 x5 => ?_
  have s5 := x5.size
  have x05 := x04.trans x5
  refine ldxF xa_25 fa_47_3 l1_45 (SliceIs.of_own (x5.own ho4)) (by omega) (by omega) (u := cv) (by simpa using hrow3) ?_
  refine apI (l := []) ho5 (hc.ext x05) (by simp; omega) s5 fun v6 w6 ho6 hg6 => ?_
  have x6 : Ext w4 w6 := x5.grown hg6 fun k hk => (ho5.lt k hk).1
  have s6 := x6.size
  have x06 := x04.trans x6
  rw [List.nil_append] at ho6
  have hB46 := hB4.ext (x4.trans x6)
  have hB86 := hB8.ext (x4.trans x6)
  have ho46 := x6.own ho4
  refine lnx xa_45 (SliceIs.of_own ho6) (V_eqlI.2 (ifD_dec (fun hz => ?_) fun hz => ?_))
  · refine ldA (Blk.boxed hB46) la_27 rfl ?_
    have hv : ([.string i.name, p.fv, p.iv, p.mv, p.xv] : List Value).all oneC = true := by
      obtain ⟨a1, c1, e1⟩ := SliceIs.shape h.at_.fl
      obtain ⟨_, hx1, _⟩ := h.at_.im
      obtain ⟨a2, c2, e2⟩ := SliceIs.shape hx1
      obtain ⟨a3, c3, e3⟩ := SliceIs.shape hcs
      obtain ⟨a4, c4, e4⟩ := SliceIs.shape h.at_.ex
      rw [e1, e2, e3, e4]; rfl
    refine stA inf27 hB86 (l := [.string i.name, p.fv, p.iv, p.mv, p.xv]) rfl rfl rfl hv fun w7 hB7 hc7' => ?_
    refine ⟨_, r_var Tryz.underlying27 rfl inf27 hB7 rfl, ⟨_, rfl⟩, ?_⟩
    have x07 : Ext w w7 := hc7'.ext _ x06 (by omega)
    exact hk p i w7 (hst.ext x07) x07
  obtain ⟨gq, capq, rfl⟩ : ∃ gm cap, v6 = .slice (some ⟨gm, 0, none⟩) m.code.length cap := by
    rcases ho6.2 with ⟨_, e⟩ | ⟨gm, cap, cur, rfl, _⟩
    · omega
    · exact ⟨gm, cap, rfl⟩
  have hgq := ho6.lt gq rfl
  refine (V_quo (by decide)).2 ?_
  refine lnx xa_45 (SliceIs.of_own ho6) (pick10 (by omega) (by omega) fun k hk0 hk1 => ?_)
  obtain ⟨k, rfl⟩ : ∃ q2 : Nat, k = q2 := ⟨k.toNat, by omega⟩
  have hkl : k < m.code.length := by omega
  obtain ⟨x, hx⟩ := ex_get hkl
  have hxr := hmrg x (List.mem_of_getElem? hx)
  have hIA : InsAre w6 (.slice (some ⟨gq, 0, none⟩) m.code.length capq) m.code := SliceIs.of_own ho6
  refine ⟨BJ w4.heap.size w6, ?_, ?_⟩
  · refine pick10 (by decide) (by decide) fun z hz0 hz1 => ?_
    have same : BJ w4.heap.size w6 (.slice (some ⟨gq, 0, none⟩) m.code.length capq) w6 := ⟨m.code, ho6, hmrg, by omega, Fr.refl _ _⟩
    have whole : ∀ {op av : Int}, V Tryz.prog (Instr.indexAt 45 (.slice (some ⟨gq, 0, none⟩) m.code.length capq) (i64 k)) w6 fun t w1 => U Tryz.prog (Instr.storeAt 71 t (.agg #[i64 op, i64 av, i64 0])) w1 fun _ w2 => BJ w4.heap.size w6 (.slice (some ⟨gq, 0, none⟩) m.code.length capq) w2 := by
      intro op av
      refine V.ok (r_index Tryz.underlying45 inf71 (by omega) (by omega)) ?_
      rw [Int.toNat_natCast]
      refine stO3 inf71 ho6 hkl rfl rfl rfl fun w7 ho7 f7 => ?_
      refine ⟨m.code.set k ⟨op, av, 0⟩, ?_, rg_set hmrg (rg0 _ _), by rw [List.length_set]; omega, f7.mono fun i hi => by omega⟩
      rw [List.length_set, ← insC_setW hkl]; exact ho7
    refine V_eqlI.2 (ifD_dec (fun _ => ?_) fun _ => ?_)
    · refine pick10 (by decide) (by decide) fun y hy0 hy1 => V_add.2 ?_
      refine V.ok (r_index Tryz.underlying45 inf71 (by omega) (by omega)) (V.ok (FA.ex fa_71_0 _ _ _) ?_)
      rw [Int.toNat_natCast]
      refine stOF Tryz.underlying45 inf71 fa_71_0 inf3 ho6 hkl (by decide) rfl fun w7 _ ho7 f7 => ?_
      refine ⟨m.code.set k ⟨IntKind.i64.wrap (1 + y), x.a, x.b⟩, ?_, rg_set hmrg hxr, by rw [List.length_set]; omega, f7.mono fun i hi => by omega⟩
      rw [List.length_set, ← insC_setO hx]; exact ho7
    refine V_eqlI.2 (ifD_dec (fun _ => ?_) fun _ => ?_)
    · refine pick10 (by decide) (by decide) fun y hy0 hy1 => ?_
      refine V.ok (r_index Tryz.underlying45 inf71 (by omega) (by omega)) (V.ok (FA.ex fa_71_1 _ _ _) ?_)
      rw [Int.toNat_natCast]
      refine stOF Tryz.underlying45 inf71 fa_71_1 inf3 ho6 hkl (by decide) rfl fun w7 _ ho7 f7 => ?_
      refine ⟨m.code.set k ⟨x.op, y, x.b⟩, ?_, rg_set hmrg hxr, by rw [List.length_set]; omega, f7.mono fun i hi => by omega⟩
      rw [List.length_set, ← insC_setA hx]; exact ho7
    have D1 : Ext w6 w6.drew := (Ext.refl _).drew
    have hIAd := hIA.ext D1
    have sd : w4.heap.size ≤ w6.drew.heap.size := by have := D1.size; omega
    obtain ⟨u1, ur1, us1⟩ := ins_part hIAd (lo := none) (hi' := some (.int .i64 (k : Int))) (a := 0) (b := k) (.inl ⟨rfl, rfl⟩) (.inr rfl) (by omega) (by omega)
    obtain ⟨u2, ur2, us2⟩ := ins_part hIAd (lo := some (.int .i64 ((k + 1 : Nat) : Int))) (hi' := none) (a := k + 1) (b := m.code.length) (.inr rfl) (.inl ⟨rfl, rfl⟩) (by omega) (by omega)
    obtain ⟨u3, ur3, us3⟩ := ins_part hIAd (lo := some (.int .i64 (k : Int))) (hi' := none) (a := k) (b := m.code.length) (.inr rfl) (.inl ⟨rfl, rfl⟩) (by omega) (by omega)
    have rgp : ∀ {a b : Nat}, ∀ y ∈ (m.code.drop a).take b, y.rg := fun y hy => hmrg y (List.mem_of_mem_drop (List.mem_of_mem_take hy))
    have lnp : ∀ {a b : Nat}, ((m.code.drop a).take b).length ≤ m.code.length := by intro a b; simp; omega
    refine V_eqlI.2 (ifD_dec (fun _ => ?_) fun _ => ?_)
    · refine drawD.mk' (fun w' => Ext w6.drew w') (Ext.refl _) ?_
      refine yieldS.ok (fun w' _ => ur1 _) (yieldS.ok (fun w' _ => r_add) ?_)
      rw [wrap_id (by omega) (by omega), i64_succ]
      refine yieldS.ok (fun w' _ => ur2 _) ?_
      refine bs0I fun v7 w7 ho7 x7 => ⟨x7, ?_⟩
      have := lnp (a := 0) (b := k - 0)
      have := lnp (a := k + 1) (b := m.code.length - (k + 1))
      refine apI (l := []) ho7 (us1.ext x7) (by simp only [List.length_nil]; omega) x7.size fun v8 w8 ho8 hg8 => ?_
      have x8 : Ext w6.drew w8 := x7.grown hg8 fun k hk => (ho7.lt k hk).1
      refine ⟨x8, apI ho8 (us2.ext x8) (by simp only [List.nil_append]; omega) x8.size fun v9 w9 ho9 hg9 => ?_⟩
      have x9 : Ext w6.drew w9 := x8.grown hg9 fun k hk => (ho8.lt k hk).1
      refine ⟨x9, _, own_mono ho9 sd, fun y hy => ?_, by simp only [List.nil_append, List.length_append]; omega, Fr.of_ext (D1.trans x9)⟩
      rw [List.nil_append] at hy
      rcases List.mem_append.1 hy with hy | hy
      · exact rgp y hy
      · exact rgp y hy
    refine V_eqlI.2 (ifD_dec (fun _ => ?_) fun _ => ?_)
    · refine drawD.mk' (fun w' => Ext w6.drew w') (Ext.refl _) ?_
      refine yieldS.ok (fun w' _ => ur1 _) ?_
      refine yI hIAd (fun _ h => h) hx ?_
      refine yieldS.ok (fun w' _ => ur3 _) ?_
      have l1 := lnp (a := 0) (b := k - 0)
      have l3 := lnp (a := k) (b := m.code.length - k)
      have one : ∀ {K' : Value → World → Prop} {w' : World}, (∀ v w2, w2.ownsRow w'.heap.size 71 3 v 1 (insC [x]) → Ext w' w2 → K' v w2) → V Tryz.prog (Instr.buildSlice 45 1 #[(0, .agg #[i64 x.op, i64 x.a, i64 x.b])]) w' K' := fun hK => by
        refine bslG Tryz.underlying45 inf71 rfl (by decide) [.agg #[i64 x.op, i64 x.a, i64 x.b]] rfl rfl (by intro v hv; rw [List.mem_singleton] at hv; subst hv; rfl) (by decide) (by decide) fun v w2 h1 h2 => hK v w2 h1 h2
      have tail : ∀ {w' : World} {t74 t79 : Value}, Ext w6.drew w' → w'.ownsRow w6.drew.heap.size 71 3 t74 ([] ++ (m.code.drop 0).take (k - 0)).length (insC ([] ++ (m.code.drop 0).take (k - 0))) → InsAre w' t79 [x] → V Tryz.prog (Builtin.append_ #[45, 45] 45 #[t74, t79]) w' fun t80 w43 => Ext w6.drew w43 ∧ V Tryz.prog (Builtin.append_ #[45, 45] 45 #[t80, u3]) w43 fun t84 w44 => Ext w6.drew w44 ∧ BJ w4.heap.size w6 t84 w44 := by
        intro w' t74 t79 xw ho hs
        refine apI ho hs (by simp only [List.nil_append, List.length_cons, List.length_nil]; omega) xw.size fun v8 w8 ho8 hg8 => ?_
        have x8 : Ext w6.drew w8 := xw.grown hg8 fun k hk => (ho.lt k hk).1
        refine ⟨x8, apI ho8 (us3.ext x8) (by simp only [List.nil_append, List.length_append, List.length_cons, List.length_nil]; omega) x8.size fun v9 w9 ho9 hg9 => ?_⟩
        have x9 : Ext w6.drew w9 := x8.grown hg9 fun k hk => (ho8.lt k hk).1
        refine ⟨x9, _, own_mono ho9 sd, fun y hy => ?_, by simp only [List.nil_append, List.length_append, List.length_cons, List.length_nil]; omega, Fr.of_ext (D1.trans x9)⟩
        simp only [List.nil_append, List.mem_append, List.mem_cons, List.not_mem_nil, or_false] at hy
        rcases hy with (hy | rfl) | hy
        · exact rgp y hy
        · exact hxr
        · exact rgp y hy
      have tail0 : ∀ {w' : World} {t70 t79 : Value}, Ext w6.drew w' → w'.ownsRow w6.drew.heap.size 71 3 t70 0 (insC []) → w'.ownsRow w6.drew.heap.size 71 3 t79 1 (insC [x]) → (∀ k, t70.ownBlock = some k → t79.ownBlock ≠ some k) → V Tryz.prog (Builtin.append_ #[45, 45] 45 #[t70, u1]) w' fun t74 w41 => Ext w6.drew w41 ∧ V Tryz.prog (Builtin.append_ #[45, 45] 45 #[t74, t79]) w41 fun t80 w43 => Ext w6.drew w43 ∧ V Tryz.prog (Builtin.append_ #[45, 45] 45 #[t80, u3]) w43 fun t84 w44 => Ext w6.drew w44 ∧ BJ w4.heap.size w6 t84 w44 := by
        intro w' t70 t79 xw ho ho79 hne
        refine apI (l := []) ho (us1.ext xw) (by simp only [List.length_nil]; omega) xw.size fun v8 w8 ho8 hg8 => ?_
        have x8 : Ext w6.drew w8 := xw.grown hg8 fun k hk => (ho.lt k hk).1
        exact ⟨x8, tail x8 ho8 (SliceIs.of_own ((Fr.of_grown (S := fun k => t70.ownBlock = some k) hg8 fun k hk => hk).own ho79 fun k hk hk' => hne k hk' hk))⟩
      refine ⟨?_, ?_⟩
      · refine bs0I fun v7 w7 ho7 x7 => ⟨x7, ?_, ?_⟩
        · refine apI (l := []) ho7 (us1.ext x7) (by simp only [List.length_nil]; omega) x7.size fun v8 w8 ho8 hg8 => ?_
          have x8 : Ext w6.drew w8 := x7.grown hg8 fun k hk => (ho7.lt k hk).1
          refine ⟨x8, ?_⟩
          refine one fun v9 w9 ho9 x9 => ⟨x8.trans x9, ?_⟩
          exact tail (x8.trans x9) (x9.own ho8) (SliceIs.of_own ho9)
        · refine one fun v9 w9 ho9 x9 => ⟨x7.trans x9, ?_⟩
          exact tail0 (x7.trans x9) (x9.own ho7) (own_mono ho9 x7.size) fun k hk hk' => by
            have := (ho7.lt k hk).2; have := (ho9.lt k hk').1; omega
      · refine one fun v9 w9 ho9 x9 => ⟨x9, ?_⟩
        refine bs0I fun v7 w7 ho7 x7 => ⟨x9.trans x7, ?_⟩
        exact tail0 (x9.trans x7) (own_mono ho7 x9.size) (x7.own ho9) fun k hk hk' => by
          have := (ho7.lt k hk).1; have := (ho9.lt k hk').2; omega
    refine V_eqlI.2 (ifD_dec (fun _ => ?_) fun _ => ?_)
    · refine bld bd_71 [(0, i64 35), (1, i64 2)] rfl rfl ?_
      exact whole
    refine V_eqlI.2 (ifD_dec (fun _ => ?_) fun _ => ?_)
    · refine lnx xa_45 hIA (pick10 (by omega) (by omega) fun y hy0 hy1 => ?_)
      refine bld bd_71 [(0, i64 23), (1, i64 y)] rfl rfl ?_
      exact whole
    refine V_eqlI.2 (ifD_dec (fun _ => ?_) fun _ => ?_)
    · refine bld bd_71 [(0, i64 4)] rfl rfl ?_
      exact whole
    refine V_eqlI.2 (ifD_dec (fun _ => ?_) fun _ => ?_)
    · refine slO Tryz.underlying45 inf71 (by decide) ho6 (by omega) (by omega) fun ho7 => ?_
      refine ⟨m.code.take k, ?_, fun y hy => hmrg y (List.mem_of_mem_take hy), by simp; omega, Fr.refl _ _⟩
      rw [insC_take] at ho7
      rw [show (m.code.take k).length = k by simp; omega]; exact ho7
    refine V_eqlI.2 (ifD_dec (fun _ => ?_) fun _ => same)
    refine pick10 (by decide) (by decide) fun y hy0 hy1 => ?_
    refine bld bd_71 [(0, i64 33), (1, i64 y)] rfl rfl ?_
    exact whole
  rintro v7 w7 ⟨code', hoJ, hrgJ, hlenJ, fJ⟩ _
  have ho4J := fJ.own ho46 fun k hk hS => by cases hk; have hS : w4.heap.size ≤ gm := hS; omega
  have hB4J := fJ.blk hB46 (by omega)
  have hB8J := fJ.blk hB86 (by omega)
  have x07 : Ext w w7 := fJ.ext x06 fun k hS => by omega
  refine V.ok (r_index Tryz.underlying25 inf47 (by omega) (by omega)) (V.ok (FA.ex fa_47_3 _ _ _) ?_)
  rw [Int.toNat_natCast]
  refine stOF Tryz.underlying25 inf47 fa_47_3 inf45 ho4J hq3 (by decide) (own_one hoJ) fun w8 _ ho8 f8 => ?_
  have hB48 := f8.blk hB4J (by omega)
  have hB88 := f8.blk hB8J (by omega)
  have hoJ8 := f8.own hoJ fun k hk hS => by have := (hoJ.lt k hk).1; omega
  have x08 : Ext w w8 := f8.ext x07 fun k hS => by omega
  refine stF fa_27_3 inf25 hB48 (n := 5) rfl (by decide) rfl ?_
  have f9 : Fr (fun k => k = g4) w8 (w8.setCell ⟨g4, 3, none⟩ (.slice (some ⟨gm, 0, none⟩) 3 capm)) := Fr.of_set rfl
  have hB49 := hB48.set 3 (.slice (some ⟨gm, 0, none⟩) 3 capm)
  generalize w8.setCell ⟨g4, 3, none⟩ (.slice (some ⟨gm, 0, none⟩) 3 capm) = w9 at f9 hB49
  have hB49 : Blk w9 g4 [.string i.name, p.fv, p.iv, .slice (some ⟨gm, 0, none⟩) 3 capm, p.xv] 27 := hB49
  have hB89 := f9.blk hB88 (by omega)
  have hoJ9 := f9.own hoJ8 fun k hk hS => by have := (hoJ8.lt k hk).1; omega
  have ho9 := f9.own ho8 fun k hk hS => by cases hk; have hS : gm = g4 := hS; omega
  have x09 : Ext w w9 := f9.ext x08 fun k hS => by omega
  refine ldA (Blk.boxed hB49) la_27 rfl ?_
  have hv : ([.string i.name, p.fv, p.iv, .slice (some ⟨gm, 0, none⟩) 3 capm, p.xv] : List Value).all oneC = true := by
    obtain ⟨a1, c1, e1⟩ := SliceIs.shape h.at_.fl
    obtain ⟨_, hx1, _⟩ := h.at_.im
    obtain ⟨a2, c2, e2⟩ := SliceIs.shape hx1
    obtain ⟨a4, c4, e4⟩ := SliceIs.shape h.at_.ex
    rw [e1, e2, e4]; rfl
  refine stA inf27 hB89 (l := [.string i.name, p.fv, p.iv, .slice (some ⟨gm, 0, none⟩) 3 capm, p.xv]) rfl rfl rfl hv fun wE hBE hcE => ?_
  refine ⟨_, r_var Tryz.underlying27 rfl inf27 hBE rfl, ⟨_, rfl⟩, ?_⟩
  have xE : Ext w wE := hcE.ext _ x09 (by omega)
  have hoE := (chg_fr hcE).own ho9 fun k hk hS => by cases hk; have hS : gm = g8 := hS; omega
  have hoJE := (chg_fr hcE).own hoJ9 fun k hk hS => by have := (hoJ9.lt k hk).1; omega
  have hmeq : i.meth q = m := by
    have := meth_get (i := i) (a := (q : Int)) (by omega) (by omega)
    rw [Int.toNat_natCast, hm] at this
    cases this; rfl
  have hwE := xE.size
  have key : ∀ w'', Fr (fun k => k < B) wE w'' → SliceIs w'' (.slice (some ⟨gm, 0, none⟩) 3 capm) 4 (i.withCode q code').methods.length (cs.set (q * 4 + 3) v7) ∧ ∀ (k : Nat) (x : Mth), (i.withCode q code').methods[k]? = some x → MthIs w'' (((cs.set (q * 4 + 3) v7).drop (k * 4)).take 4) x := by
    intro w'' f''
    have fw : Fr (fun k => k < B) w w'' := (Fr.of_ext xE).trans f'' fun _ _ h => h
    obtain ⟨_, hrows''⟩ := hcsA w'' fw
    have hoE' := f''.own hoE fun k hk hS => by cases hk; have hS : gm < B := hS; omega
    have hoJE' := f''.own hoJE fun k hk hS => by have := (hoJE.lt k hk).1; have hS : k < B := hS; omega
    refine ⟨by rw [show (i.withCode q code').methods.length = 3 by simp [Img.withCode, ml]]; exact SliceIs.of_own hoE', fun k y hy => ?_⟩
    have hy : (i.methods.set q { i.meth q with code := code' })[k]? = some y := hy
    have hk3 : k < i.methods.length := by
      have := (List.getElem?_eq_some_iff.1 hy).1
      simpa using this
    have hTk := hrows'' k _ (List.getElem?_eq_getElem hk3)
    rw [row_set rfl (mth_len _ _ _ hTk) (by decide)]
    rw [List.getElem?_set] at hy
    by_cases hkq : q = k
    · subst hkq
      rw [if_pos rfl, if_pos hk3] at hy
      cases hy
      rw [if_pos rfl]
      have hTq := hrows'' q m hm
      rw [hrow] at hTq ⊢
      obtain ⟨pv', lv', cv', e1, hp', hl', _⟩ := hTq
      simp only [List.cons.injEq, and_true, true_and] at e1
      obtain ⟨rfl, rfl, rfl⟩ := e1
      rw [hmeq]
      exact ⟨pv, lv, v7, rfl, hp', hl', SliceIs.of_own hoJE'⟩
    · rw [if_neg hkq] at hy
      rw [if_neg (fun e => hkq e.symm)]
      rw [List.getElem?_eq_getElem hk3] at hy
      cases hy
      exact hTk
  refine hk ⟨p.fv, p.iv, .slice (some ⟨gm, 0, none⟩) 3 capm, p.xv⟩ (i.withCode q code') wE ⟨fun w'' f'' hT'' => ?_, _, key⟩ xE
  have hA := hst.ap w'' ((Fr.of_ext xE).trans f'' fun _ _ h => h) hT''
  refine ⟨⟨hA.at_.fl, hA.at_.im, ⟨_, (key w'' f'').1, fun k x hx => ⟨_, rfl, (key w'' f'').2 k x hx⟩⟩, hA.at_.ex⟩, hA.nm, fun m' hm' y hy => ?_, by simp [Img.withCode, ml], fun m' hm' => ?_⟩
  · have hm' : m' ∈ i.methods.set q { i.meth q with code := code' } := hm'
    rcases List.mem_or_eq_of_mem_set hm' with hm' | rfl
    · exact h.rg m' hm' y hy
    · exact hrgJ y hy
  · have hm' : m' ∈ i.methods.set q { i.meth q with code := code' } := hm'
    rcases List.mem_or_eq_of_mem_set hm' with hm' | rfl
    · exact h.cl m' hm'
    · exact hlenJ
end Go.Proofs.YtcdbikfnlggbnaaGreatDoor
namespace Go.Proofs.YtcdbikfnlggbnaaGreatDoor
open Go.Vc Go.Tc
variable {w : World} {K : Value → World → Prop}
def ImgV.cells (p : ImgV) (i : Img) : List Value := [.string i.name, p.fv, p.iv, p.mv, p.xv]
theorem Apl.one {p : ImgV} {i : Img} (h : Apl w p i) : (p.cells i).all oneC = true := by
  obtain ⟨a1, c1, e1⟩ := SliceIs.shape h.at_.fl
  obtain ⟨_, hx1, _⟩ := h.at_.im
  obtain ⟨a2, c2, e2⟩ := SliceIs.shape hx1
  obtain ⟨_, hx3, _⟩ := h.at_.mt
  obtain ⟨a3, c3, e3⟩ := SliceIs.shape hx3
  obtain ⟨a4, c4, e4⟩ := SliceIs.shape h.at_.ex
  unfold ImgV.cells
  rw [e1, e2, e3, e4]; rfl
/-- An applet, of steps. -/
theorem apl9 {n : Int} {rv : Value} {rl : List Rw} (hr : RwsAre w rv rl) (hb : BinsOk w) (hT : Tabs w) (rn : rl.length ≤ 5000000000000)
    (hk : ∀ p i w', Stay w.heap.size w' p i → (∀ m ∈ i.methods, m.code.length ≤ 700000) → Ext w w' → K (p.val i) w') : callD Tryz.prog 9 #[i64 n, rv] w K :=
  applet9 hr hb hT rn fun p i w' _ _ h3 h4 h5 h7 h8 h6 => hk p i w' ⟨fun w'' f hT'' => ⟨(h7 w'' f hT'').1, (h7 w'' f hT'').2, h3, h4, fun m hm => Nat.le_trans (h5 m hm) (by decide)⟩, h8⟩ h5 h6
def imgC (l : List (ImgV × Img)) : List Value := l.flatMap fun x => x.1.cells x.2
def AplsIs (w : World) (row : List Value) (x : ImgV × Img) : Prop := row = x.1.cells x.2 ∧ Apl w x.1 x.2 ∧ Taken x.2
/-- The applets that were made. -/
def AplsAre (w : World) (v : Value) (l : List (ImgV × Img)) : Prop := StrsAre AplsIs 5 w v l
/-- Lists of steps. -/
def RwssAre (w : World) (v : Value) (ll : List (List Rw)) : Prop := ∃ vs : List Value, SliceIs w v 1 ll.length vs ∧ ∀ (k : Nat) (l : List Rw), ll[k]? = some l → ∃ u, vs[k]? = some u ∧ RwsAre w u l ∧ l.length ≤ 5000000000000
end Go.Proofs.YtcdbikfnlggbnaaGreatDoor
namespace Go.Proofs.YtcdbikfnlggbnaaGreatDoor
open Go.Vc Go.Tc
variable {w : World} {K : Value → World → Prop}
end Go.Proofs.YtcdbikfnlggbnaaGreatDoor
namespace Go.Proofs.YtcdbikfnlggbnaaGreatDoor
open Go.Vc Go.Tc
variable {w : World} {K : Value → World → Prop}
/-- How many a service takes, and whether it gives. -/
def srvP (op : Int) : Int × Bool := if op = 27 ∨ op = 28 then (1, true) else if op = 17 ∨ op = 18 ∨ op = 29 then (2, true) else if op = 30 ∨ op = 36 then (3, false) else if op = 31 then (5, false) else if op = 32 then (5, true) else (0, false)
/-- The registers of the last n. -/
def rowP (h n : Nat) : List Int := (List.range n).map fun k => 10 + ((h - n + k : Nat) : Int)
def resP (r : Int) (k : Int) : Int := if r = 0 then -1 else 10 + k
/-- The node of an instruction, over a stack of h. -/
def liftN (i : Img) (m : Mth) (x : Ins) (h : Nat) : Option GNode :=
  if x.op = 1 then some (.const (10 + (h : Int)) (IntKind.i32.wrap x.a)) else if x.op = 2 then some (.move (10 + (h : Int)) x.a) else if x.op = 3 then some (.move x.a (10 + ((h : Int) - 1))) else if x.op = 4 then none
  else if x.op = 5 then some (.move (10 + (h : Int)) (10 + ((h : Int) - 1))) else if x.op = 15 ∨ x.op = 16 ∨ x.op = 26 then some (.un x.op (10 + ((h : Int) - 1)) (10 + ((h : Int) - 1)))
  else if x.op = 22 then some (.choose (10 + ((h : Int) - 3)) (10 + ((h : Int) - 3)) (10 + ((h : Int) - 2)) (10 + ((h : Int) - 1))) else if x.op = 23 then some (.goto x.a) else if x.op = 24 then some (.branch (10 + ((h : Int) - 1)) x.a)
  else if x.op = 25 then some (.const (10 + (h : Int)) 0) else if x.op = 35 then some (.const (10 + (h : Int)) (IntKind.i32.wrap x.a)) else if x.op = 33 then some (.getField (10 + (h : Int)) x.a) else if x.op = 34 then some (.putField x.a (10 + ((h : Int) - 1)))
  else if x.op = 37 then some (.call x.a (resP (i.meth x.a).result ((h : Int) - (i.meth x.a).params.length)) (rowP h (i.meth x.a).params.length))
  else if x.op = 38 then some (.callX x.a (resP (i.imp x.a).result ((h : Int) - (i.imp x.a).params.length)) (rowP h (i.imp x.a).params.length))
  else if x.op = 39 then some (.ret (resP m.result ((h : Int) - 1)))
  else if (srvP x.op).1 ≠ 0 then some (.serve x.op x.a x.b (if (srvP x.op).2 then 10 + ((h : Int) - (srvP x.op).1) else -1) (rowP h (srvP x.op).1.toNat))
  else some (.bin x.op (10 + ((h : Int) - 2)) (10 + ((h : Int) - 2)) (10 + ((h : Int) - 1)))
/-- A node whose arguments lie in a row that was made behind B. -/
def NodeOwn (B : Nat) (w : World) (v : Value) (n : GNode) : Prop := ∃ sv, v = n.val sv ∧ w.ownsRow B 3 1 sv n.args.length (n.args.map i64)
/-- A node, or none. -/
def LN (B : Nat) (w : World) (v : Value) : Option GNode → Prop
  | none => v = Value.nilIface
  | some n => NodeOwn B w v n
theorem s61 {k : Int} (h : -1000 ≤ k ∧ k ≤ 1000) (hk : K (i64 (10 + k)) w) : callD Tryz.prog 61 #[i64 k] w K := by
  apply F61_wp
  unfold F61_den
  refine V_add.2 ?_
  rw [wrap_id (by omega) (by omega)]
  exact hk
theorem result62 {r k : Int} (h : -1000 ≤ k ∧ k ≤ 1000) (hk : K (i64 (resP r k)) w) : callD Tryz.prog 62 #[i64 r, i64 k] w K := by
  apply F62_wp
  unfold F62_den
  unfold resP at hk
  refine V_eqlI.2 (ifD_dec (fun he => ?_) fun he => ?_)
  · rw [if_pos he] at hk; exact hk
  · rw [if_neg he] at hk; exact s61 h hk
theorem rowP_snoc {h n j : Nat} (hj : j < n) : (rowP h n).take (j + 1) = (rowP h n).take j ++ [10 + ((h - n + j : Nat) : Int)] := by
  have hl : (rowP h n).length = n := by simp [rowP]
  rw [List.take_add_one]
  congr 1
  simp [rowP, hj]
theorem row63 {h n : Nat} (hn : n ≤ h) (hh : h ≤ 500) (hk : ∀ v w', w'.ownsRow w.heap.size 3 1 v (rowP h n).length ((rowP h n).map i64) → Ext w w' → K v w') : callD Tryz.prog 63 #[i64 h, i64 n] w K := by
  have hl : (rowP h n).length = n := by simp [rowP]
  apply F63_wp
  unfold F63_den
  refine V_sub.2 ?_
  rw [wrap_id (by omega) (by omega)]
  refine ⟨fun tv v w' => ∃ j : Nat, v = i64 ((h - n + j : Nat) : Int) ∧ j ≤ n ∧ Ext w w' ∧ w'.ownsRow w.heap.size 3 1 tv j (((rowP h n).take j).map i64), fun _ v _ => h - (RowKit.intOf v).toNat, ⟨0, by congr 1; omega, Nat.zero_le _, Ext.refl _, World.ownsRow_nil _ _ _ _⟩, ?_⟩
  rintro tv _ w1 ⟨j, rfl, hj, x1, ho⟩ _
  refine V_lss.2 (ifD_dec (fun hlt => ?_) fun hge => ?_)
  · refine s61 (by omega) ?_
    refine bsl xe_23 [i64 (10 + ((h - n + j : Nat) : Int))] rfl rfl (by simp) rfl fun v2 w2 ho2 x2 => ?_
    refine apO xe_23 (x2.own ho) (SliceIs.of_own ho2) rfl (by omega) (by unfold maxLen; omega) (x1.trans x2).size fun v3 w3 ho3 hg3 => ?_
    refine V_add.2 ?_
    rw [wrap_id (by omega) (by omega), i64_succ]
    refine ⟨⟨j + 1, rfl, by omega, (x1.trans x2).grown hg3 fun q hq => ((x2.own ho).lt q hq).1, ?_⟩, by simp only [intOf_i64]; omega⟩
    rw [rowP_snoc (by omega), List.map_append]
    exact ho3
  · have hjn : j = n := by omega
    subst hjn
    refine hk tv w1 ?_ x1
    rw [hl]
    have := ho
    rw [List.take_of_length_le (by omega)] at this
    exact this
theorem serves105 {op : Int} (hk : K (.tuple #[i64 (srvP op).1, .bool (srvP op).2]) w) : callD Tryz.prog 105 #[i64 op] w K := by
  apply F105_wp
  unfold F105_den
  by_cases c27 : op = 27
  · subst c27; simp only [evL, Int.reduceEq, decide_true, decide_false]; exact hk
  by_cases c28 : op = 28
  · subst c28; simp only [evL, Int.reduceEq, decide_true, decide_false]; exact hk
  by_cases c17 : op = 17
  · subst c17; simp only [evL, Int.reduceEq, decide_true, decide_false]; intros; exact hk
  by_cases c18 : op = 18
  · subst c18; simp only [evL, Int.reduceEq, decide_true, decide_false]; intros; exact hk
  by_cases c29 : op = 29
  · subst c29; simp only [evL, Int.reduceEq, decide_true, decide_false]; intros; exact hk
  by_cases c30 : op = 30
  · subst c30; simp only [evL, Int.reduceEq, decide_true, decide_false]; intros; exact hk
  by_cases c36 : op = 36
  · subst c36; simp only [evL, Int.reduceEq, decide_true, decide_false]; intros; exact hk
  by_cases c31 : op = 31
  · subst c31; simp only [evL, Int.reduceEq, decide_true, decide_false]; intros; exact hk
  by_cases c32 : op = 32
  · subst c32; simp only [evL, Int.reduceEq, decide_true, decide_false]; intros; exact hk
  simp only [c27, c28, c17, c18, c29, c30, c36, c31, c32, evL, decide_false]
  intros
  simp only [srvP, c27, c28, c17, c18, c29, c30, c36, c31, c32, or_self, if_false] at hk
  exact hk
end Go.Proofs.YtcdbikfnlggbnaaGreatDoor
namespace Go.Proofs.YtcdbikfnlggbnaaGreatDoor
open Go.Vc Go.Tc
variable {w : World} {K : Value → World → Prop}
theorem plainN {B : Nat} {v : Value} {n : GNode} (h : v = n.val nilS) (ha : n.args = []) : NodeOwn B w v n := ⟨nilS, h, by rw [ha]; exact World.ownsRow_nil _ _ _ _⟩
theorem srvP_le (op : Int) : 0 ≤ (srvP op).1 ∧ (srvP op).1 ≤ 5 := by
  unfold srvP
  split
  · exact ⟨by decide, by decide⟩
  split
  · exact ⟨by decide, by decide⟩
  split
  · exact ⟨by decide, by decide⟩
  split
  · exact ⟨by decide, by decide⟩
  split
  · exact ⟨by decide, by decide⟩
  · exact ⟨by decide, by decide⟩
theorem served64 {x : Ins} {h : Nat} (hn : (srvP x.op).1.toNat ≤ h) (hh : h ≤ 500) (hk : ∀ v w', LN w.heap.size w' v (if (srvP x.op).1 = 0 then none else some (.serve x.op x.a x.b (if (srvP x.op).2 then 10 + ((h : Int) - (srvP x.op).1) else -1) (rowP h (srvP x.op).1.toNat))) → Ext w w' → K v w') :
    callD Tryz.prog 64 #[.agg #[i64 x.op, i64 x.a, i64 x.b], i64 h] w K := by
  have h0 := srvP_le x.op
  apply F64_wp
  unfold F64_den
  refine bx fun b1 w1 hb1 x1 => ?_
  refine ldB hb1 fa_71_0 l1_3 rfl (serves105 (V_ext0.2 (V_ext1.2 (V_eqlI.2 ?_))))
  by_cases hz : (srvP x.op).1 = 0
  · simp only [hz, evL, Int.reduceNeg, decide_true]
    exact hk _ _ (by rw [if_pos hz]; rfl) x1
  simp only [hz, evL, Int.reduceNeg, decide_false]
  rw [if_neg hz] at hk
  obtain ⟨n, hn1⟩ : ∃ n : Nat, (srvP x.op).1 = n := ⟨(srvP x.op).1.toNat, by omega⟩
  rw [hn1] at hk hn h0 ⊢
  rw [Int.toNat_natCast] at hk hn
  refine ⟨fun v w' => v = i64 (if (srvP x.op).2 then 10 + ((h : Int) - (n : Int)) else -1) ∧ w' = w1, ?_, ?_⟩
  · cases h2 : (srvP x.op).2 with
    | true =>
      refine ifD_true.2 (V_sub.2 ?_)
      rw [wrap_id (by omega) (by omega)]
      exact s61 (by omega) ⟨rfl, rfl⟩
    | false => exact ifD_false.2 ⟨rfl, rfl⟩
  rintro _ w9 ⟨rfl, hw⟩ _
  have hw := hw.symm
  subst hw
  have D1 : Ext w1 w1.drew := (Ext.refl _).drew
  refine drawD.mk' (fun w' => Ext w1 w') D1 ?_
  refine yfB (fun w' hw => hb1.ext hw) fa_71_0 l1_3 rfl (yfB (fun w' hw => hb1.ext hw) fa_71_1 l1_3 rfl (yfB (fun w' hw => hb1.ext hw) fa_71_2 l1_3 rfl ?_))
  refine row63 hn hh fun v w2 ho x2 => ⟨D1.trans x2, ?_⟩
  refine yBld bd_162 [(0, i64 x.op), (1, i64 x.a), (2, i64 x.b), (3, i64 _), (4, v)] rfl (by simp [own_one ho, one_i]) (yMki mi_162 ?_)
  refine hk _ _ ⟨v, rfl, own_mono ho (x1.trans D1).size⟩ ((x1.trans D1).trans x2)
end Go.Proofs.YtcdbikfnlggbnaaGreatDoor
namespace Go.Proofs.YtcdbikfnlggbnaaGreatDoor
open Go.Vc Go.Tc
variable {w : World} {K : Value → World → Prop}
set_option maxHeartbeats 4000000 in
theorem node31 {p : ImgV} {i : Img} {row : List Value} {m : Mth} {x : Ins} {h : Nat} (hA : ImgAt w p i) (hm : MthIs w row m) (hx : Okx i m x) (hh : h ≤ 8) (ha : (asked i m x).length ≤ h) (hk : ∀ v w', LN w.heap.size w' v (liftN i m x h) → Ext w w' → K v w') :
    callD Tryz.prog 31 #[p.val i, .agg row.toArray, .agg #[i64 x.op, i64 x.a, i64 x.b], i64 h] w K := by
  obtain ⟨op, a, b⟩ := x
  obtain ⟨ir, mr, ⟨ho, a1, a2, _⟩, hn⟩ := hx
  obtain ⟨pv, lv, cv, rfl, hp, hl, hc⟩ := hm
  have ho : 1 ≤ op ∧ op ≤ 39 := ho
  apply F31_wp
  unfold F31_den ImgV.val
  refine bx fun b4 w1 hb4 x1 => bx fun b5 w2 hb5 x2 => bx fun b6 w3 hb6 x3 => ?_
  have hb4 : Boxed w3 b4 [.string i.name, p.fv, p.iv, p.mv, p.xv] := (hb4.ext x2).ext x3
  have hb5 : Boxed w3 b5 [pv, i64 m.result, lv, cv] := hb5.ext x3
  have hb6 : Boxed w3 b6 [i64 op, i64 a, i64 b] := hb6
  have xx := (x1.trans x2).trans x3
  have hA := hA.ext xx
  refine ldB hb6 fa_71_0 l1_3 rfl ?_
  have D1 : Ext w3 w3.drew := (Ext.refl _).drew
  have xd := xx.trans D1
  rcases op39 ho with rfl | rfl | rfl | rfl | rfl | rfl | rfl | rfl | rfl | rfl | rfl | rfl | rfl | rfl | rfl | rfl | rfl | rfl | rfl | rfl | rfl | rfl | rfl | rfl | rfl | rfl | rfl | rfl | rfl | rfl | rfl | rfl | rfl | rfl | rfl | rfl | rfl | rfl | rfl
  · simp only [evL, Int.reduceEq, decide_true, decide_false]
    intros
    refine drawD.mk' (fun w' => Ext w3 w') D1 ?_
    refine yfB (fun w' hw => hb6.ext hw) fa_71_1 l1_3 rfl ?_
    refine yieldS.ok (fun w' _ => r_convI Tryz.underlying3 Tryz.underlying21) ?_
    refine s61 (by omega) ⟨D1, ?_⟩
    refine yBld bd_84 [(0, i64 (10 + (h : Int))), (1, i32 (IntKind.i32.wrap a))] rfl rfl (yMki mi_84 ?_)
    exact hk _ _ (plainN rfl rfl) xd
  · simp only [evL, Int.reduceEq, decide_true, decide_false]
    intros
    refine drawD.mk' (fun w' => Ext w3 w') D1 ?_
    refine yfB (fun w' hw => hb6.ext hw) fa_71_1 l1_3 rfl ?_
    refine s61 (by omega) ⟨D1, ?_⟩
    refine yBld bd_140 [(0, i64 (10 + (h : Int))), (1, i64 a)] rfl rfl (yMki mi_140 ?_)
    exact hk _ _ (plainN rfl rfl) xd
  · simp only [evL, Int.reduceEq, decide_true, decide_false]
    intros
    refine drawD.mk' (fun w' => Ext w3 w') D1 ?_
    refine yfB (fun w' hw => hb6.ext hw) fa_71_1 l1_3 rfl ?_
    refine yieldS.ok (fun w' _ => r_sub) ?_
    rw [wrap_id (by omega) (by omega)]
    refine s61 (by omega) ⟨D1, ?_⟩
    refine yBld bd_140 [(0, i64 a), (1, i64 (10 + ((h : Int) - 1)))] rfl rfl (yMki mi_140 ?_)
    exact hk _ _ (plainN rfl rfl) xd
  · simp only [evL, Int.reduceEq, decide_true, decide_false]
    intros
    exact hk _ _ rfl xx
  · simp only [evL, Int.reduceEq, decide_true, decide_false]
    intros
    refine s61 (by omega) ?_
    refine V_sub.2 ?_
    rw [wrap_id (by omega) (by omega)]
    refine s61 (by omega) ?_
    refine bld bd_140 [(0, i64 (10 + (h : Int))), (1, i64 (10 + ((h : Int) - 1)))] rfl rfl (mki mi_140 ?_)
    exact hk _ _ (plainN rfl rfl) xx
  · simp only [evL, Int.reduceEq, decide_false]
    intros
    refine ldA hb6 la_71 rfl ?_
    refine served64 (x := ⟨6, a, b⟩) (show _ ≤ h from Nat.zero_le _) (by omega) fun v w4 hv x4 => ?_
    have hv : v = Value.nilIface := hv
    subst hv
    refine V.ok (r_neqNilNil Tryz.underlying52) (ifD_false.2 ?_)
    have D4 : Ext w4 w4.drew := (Ext.refl _).drew
    refine drawD.mk' (fun w' => Ext w4 w') D4 ?_
    refine yfB (fun w' hw => (hb6.ext x4).ext hw) fa_71_0 l1_3 rfl ?_
    refine yieldS.ok (fun w' _ => r_sub) ?_
    rw [wrap_id (by omega) (by omega)]
    refine yieldS.ok (fun w' _ => r_sub) ?_
    rw [wrap_id (by omega) (by omega)]
    refine yieldS.ok (fun w' _ => r_sub) ?_
    rw [wrap_id (by omega) (by omega)]
    refine s61 (by omega) ⟨D4, ?_⟩
    refine s61 (by omega) ⟨D4, ?_⟩
    refine s61 (by omega) ⟨D4, ?_⟩
    refine yBld bd_113 [(0, i64 6), (1, i64 (10 + ((h : Int) - 2))), (2, i64 (10 + ((h : Int) - 2))), (3, i64 (10 + ((h : Int) - 1)))] rfl rfl (yMki mi_113 ?_)
    exact hk _ _ (plainN rfl rfl) ((xx.trans x4).trans D4)
  · simp only [evL, Int.reduceEq, decide_false]
    intros
    refine ldA hb6 la_71 rfl ?_
    refine served64 (x := ⟨7, a, b⟩) (show _ ≤ h from Nat.zero_le _) (by omega) fun v w4 hv x4 => ?_
    have hv : v = Value.nilIface := hv
    subst hv
    refine V.ok (r_neqNilNil Tryz.underlying52) (ifD_false.2 ?_)
    have D4 : Ext w4 w4.drew := (Ext.refl _).drew
    refine drawD.mk' (fun w' => Ext w4 w') D4 ?_
    refine yfB (fun w' hw => (hb6.ext x4).ext hw) fa_71_0 l1_3 rfl ?_
    refine yieldS.ok (fun w' _ => r_sub) ?_
    rw [wrap_id (by omega) (by omega)]
    refine yieldS.ok (fun w' _ => r_sub) ?_
    rw [wrap_id (by omega) (by omega)]
    refine yieldS.ok (fun w' _ => r_sub) ?_
    rw [wrap_id (by omega) (by omega)]
    refine s61 (by omega) ⟨D4, ?_⟩
    refine s61 (by omega) ⟨D4, ?_⟩
    refine s61 (by omega) ⟨D4, ?_⟩
    refine yBld bd_113 [(0, i64 7), (1, i64 (10 + ((h : Int) - 2))), (2, i64 (10 + ((h : Int) - 2))), (3, i64 (10 + ((h : Int) - 1)))] rfl rfl (yMki mi_113 ?_)
    exact hk _ _ (plainN rfl rfl) ((xx.trans x4).trans D4)
  · simp only [evL, Int.reduceEq, decide_false]
    intros
    refine ldA hb6 la_71 rfl ?_
    refine served64 (x := ⟨8, a, b⟩) (show _ ≤ h from Nat.zero_le _) (by omega) fun v w4 hv x4 => ?_
    have hv : v = Value.nilIface := hv
    subst hv
    refine V.ok (r_neqNilNil Tryz.underlying52) (ifD_false.2 ?_)
    have D4 : Ext w4 w4.drew := (Ext.refl _).drew
    refine drawD.mk' (fun w' => Ext w4 w') D4 ?_
    refine yfB (fun w' hw => (hb6.ext x4).ext hw) fa_71_0 l1_3 rfl ?_
    refine yieldS.ok (fun w' _ => r_sub) ?_
    rw [wrap_id (by omega) (by omega)]
    refine yieldS.ok (fun w' _ => r_sub) ?_
    rw [wrap_id (by omega) (by omega)]
    refine yieldS.ok (fun w' _ => r_sub) ?_
    rw [wrap_id (by omega) (by omega)]
    refine s61 (by omega) ⟨D4, ?_⟩
    refine s61 (by omega) ⟨D4, ?_⟩
    refine s61 (by omega) ⟨D4, ?_⟩
    refine yBld bd_113 [(0, i64 8), (1, i64 (10 + ((h : Int) - 2))), (2, i64 (10 + ((h : Int) - 2))), (3, i64 (10 + ((h : Int) - 1)))] rfl rfl (yMki mi_113 ?_)
    exact hk _ _ (plainN rfl rfl) ((xx.trans x4).trans D4)
  · simp only [evL, Int.reduceEq, decide_false]
    intros
    refine ldA hb6 la_71 rfl ?_
    refine served64 (x := ⟨9, a, b⟩) (show _ ≤ h from Nat.zero_le _) (by omega) fun v w4 hv x4 => ?_
    have hv : v = Value.nilIface := hv
    subst hv
    refine V.ok (r_neqNilNil Tryz.underlying52) (ifD_false.2 ?_)
    have D4 : Ext w4 w4.drew := (Ext.refl _).drew
    refine drawD.mk' (fun w' => Ext w4 w') D4 ?_
    refine yfB (fun w' hw => (hb6.ext x4).ext hw) fa_71_0 l1_3 rfl ?_
    refine yieldS.ok (fun w' _ => r_sub) ?_
    rw [wrap_id (by omega) (by omega)]
    refine yieldS.ok (fun w' _ => r_sub) ?_
    rw [wrap_id (by omega) (by omega)]
    refine yieldS.ok (fun w' _ => r_sub) ?_
    rw [wrap_id (by omega) (by omega)]
    refine s61 (by omega) ⟨D4, ?_⟩
    refine s61 (by omega) ⟨D4, ?_⟩
    refine s61 (by omega) ⟨D4, ?_⟩
    refine yBld bd_113 [(0, i64 9), (1, i64 (10 + ((h : Int) - 2))), (2, i64 (10 + ((h : Int) - 2))), (3, i64 (10 + ((h : Int) - 1)))] rfl rfl (yMki mi_113 ?_)
    exact hk _ _ (plainN rfl rfl) ((xx.trans x4).trans D4)
  · simp only [evL, Int.reduceEq, decide_false]
    intros
    refine ldA hb6 la_71 rfl ?_
    refine served64 (x := ⟨10, a, b⟩) (show _ ≤ h from Nat.zero_le _) (by omega) fun v w4 hv x4 => ?_
    have hv : v = Value.nilIface := hv
    subst hv
    refine V.ok (r_neqNilNil Tryz.underlying52) (ifD_false.2 ?_)
    have D4 : Ext w4 w4.drew := (Ext.refl _).drew
    refine drawD.mk' (fun w' => Ext w4 w') D4 ?_
    refine yfB (fun w' hw => (hb6.ext x4).ext hw) fa_71_0 l1_3 rfl ?_
    refine yieldS.ok (fun w' _ => r_sub) ?_
    rw [wrap_id (by omega) (by omega)]
    refine yieldS.ok (fun w' _ => r_sub) ?_
    rw [wrap_id (by omega) (by omega)]
    refine yieldS.ok (fun w' _ => r_sub) ?_
    rw [wrap_id (by omega) (by omega)]
    refine s61 (by omega) ⟨D4, ?_⟩
    refine s61 (by omega) ⟨D4, ?_⟩
    refine s61 (by omega) ⟨D4, ?_⟩
    refine yBld bd_113 [(0, i64 10), (1, i64 (10 + ((h : Int) - 2))), (2, i64 (10 + ((h : Int) - 2))), (3, i64 (10 + ((h : Int) - 1)))] rfl rfl (yMki mi_113 ?_)
    exact hk _ _ (plainN rfl rfl) ((xx.trans x4).trans D4)
  · simp only [evL, Int.reduceEq, decide_false]
    intros
    refine ldA hb6 la_71 rfl ?_
    refine served64 (x := ⟨11, a, b⟩) (show _ ≤ h from Nat.zero_le _) (by omega) fun v w4 hv x4 => ?_
    have hv : v = Value.nilIface := hv
    subst hv
    refine V.ok (r_neqNilNil Tryz.underlying52) (ifD_false.2 ?_)
    have D4 : Ext w4 w4.drew := (Ext.refl _).drew
    refine drawD.mk' (fun w' => Ext w4 w') D4 ?_
    refine yfB (fun w' hw => (hb6.ext x4).ext hw) fa_71_0 l1_3 rfl ?_
    refine yieldS.ok (fun w' _ => r_sub) ?_
    rw [wrap_id (by omega) (by omega)]
    refine yieldS.ok (fun w' _ => r_sub) ?_
    rw [wrap_id (by omega) (by omega)]
    refine yieldS.ok (fun w' _ => r_sub) ?_
    rw [wrap_id (by omega) (by omega)]
    refine s61 (by omega) ⟨D4, ?_⟩
    refine s61 (by omega) ⟨D4, ?_⟩
    refine s61 (by omega) ⟨D4, ?_⟩
    refine yBld bd_113 [(0, i64 11), (1, i64 (10 + ((h : Int) - 2))), (2, i64 (10 + ((h : Int) - 2))), (3, i64 (10 + ((h : Int) - 1)))] rfl rfl (yMki mi_113 ?_)
    exact hk _ _ (plainN rfl rfl) ((xx.trans x4).trans D4)
  · simp only [evL, Int.reduceEq, decide_false]
    intros
    refine ldA hb6 la_71 rfl ?_
    refine served64 (x := ⟨12, a, b⟩) (show _ ≤ h from Nat.zero_le _) (by omega) fun v w4 hv x4 => ?_
    have hv : v = Value.nilIface := hv
    subst hv
    refine V.ok (r_neqNilNil Tryz.underlying52) (ifD_false.2 ?_)
    have D4 : Ext w4 w4.drew := (Ext.refl _).drew
    refine drawD.mk' (fun w' => Ext w4 w') D4 ?_
    refine yfB (fun w' hw => (hb6.ext x4).ext hw) fa_71_0 l1_3 rfl ?_
    refine yieldS.ok (fun w' _ => r_sub) ?_
    rw [wrap_id (by omega) (by omega)]
    refine yieldS.ok (fun w' _ => r_sub) ?_
    rw [wrap_id (by omega) (by omega)]
    refine yieldS.ok (fun w' _ => r_sub) ?_
    rw [wrap_id (by omega) (by omega)]
    refine s61 (by omega) ⟨D4, ?_⟩
    refine s61 (by omega) ⟨D4, ?_⟩
    refine s61 (by omega) ⟨D4, ?_⟩
    refine yBld bd_113 [(0, i64 12), (1, i64 (10 + ((h : Int) - 2))), (2, i64 (10 + ((h : Int) - 2))), (3, i64 (10 + ((h : Int) - 1)))] rfl rfl (yMki mi_113 ?_)
    exact hk _ _ (plainN rfl rfl) ((xx.trans x4).trans D4)
  · simp only [evL, Int.reduceEq, decide_false]
    intros
    refine ldA hb6 la_71 rfl ?_
    refine served64 (x := ⟨13, a, b⟩) (show _ ≤ h from Nat.zero_le _) (by omega) fun v w4 hv x4 => ?_
    have hv : v = Value.nilIface := hv
    subst hv
    refine V.ok (r_neqNilNil Tryz.underlying52) (ifD_false.2 ?_)
    have D4 : Ext w4 w4.drew := (Ext.refl _).drew
    refine drawD.mk' (fun w' => Ext w4 w') D4 ?_
    refine yfB (fun w' hw => (hb6.ext x4).ext hw) fa_71_0 l1_3 rfl ?_
    refine yieldS.ok (fun w' _ => r_sub) ?_
    rw [wrap_id (by omega) (by omega)]
    refine yieldS.ok (fun w' _ => r_sub) ?_
    rw [wrap_id (by omega) (by omega)]
    refine yieldS.ok (fun w' _ => r_sub) ?_
    rw [wrap_id (by omega) (by omega)]
    refine s61 (by omega) ⟨D4, ?_⟩
    refine s61 (by omega) ⟨D4, ?_⟩
    refine s61 (by omega) ⟨D4, ?_⟩
    refine yBld bd_113 [(0, i64 13), (1, i64 (10 + ((h : Int) - 2))), (2, i64 (10 + ((h : Int) - 2))), (3, i64 (10 + ((h : Int) - 1)))] rfl rfl (yMki mi_113 ?_)
    exact hk _ _ (plainN rfl rfl) ((xx.trans x4).trans D4)
  · simp only [evL, Int.reduceEq, decide_false]
    intros
    refine ldA hb6 la_71 rfl ?_
    refine served64 (x := ⟨14, a, b⟩) (show _ ≤ h from Nat.zero_le _) (by omega) fun v w4 hv x4 => ?_
    have hv : v = Value.nilIface := hv
    subst hv
    refine V.ok (r_neqNilNil Tryz.underlying52) (ifD_false.2 ?_)
    have D4 : Ext w4 w4.drew := (Ext.refl _).drew
    refine drawD.mk' (fun w' => Ext w4 w') D4 ?_
    refine yfB (fun w' hw => (hb6.ext x4).ext hw) fa_71_0 l1_3 rfl ?_
    refine yieldS.ok (fun w' _ => r_sub) ?_
    rw [wrap_id (by omega) (by omega)]
    refine yieldS.ok (fun w' _ => r_sub) ?_
    rw [wrap_id (by omega) (by omega)]
    refine yieldS.ok (fun w' _ => r_sub) ?_
    rw [wrap_id (by omega) (by omega)]
    refine s61 (by omega) ⟨D4, ?_⟩
    refine s61 (by omega) ⟨D4, ?_⟩
    refine s61 (by omega) ⟨D4, ?_⟩
    refine yBld bd_113 [(0, i64 14), (1, i64 (10 + ((h : Int) - 2))), (2, i64 (10 + ((h : Int) - 2))), (3, i64 (10 + ((h : Int) - 1)))] rfl rfl (yMki mi_113 ?_)
    exact hk _ _ (plainN rfl rfl) ((xx.trans x4).trans D4)
  · simp only [evL, Int.reduceEq, decide_true, decide_false]
    intros
    refine drawD.mk' (fun w' => Ext w3 w') D1 ?_
    refine yfB (fun w' hw => hb6.ext hw) fa_71_0 l1_3 rfl ?_
    refine yieldS.ok (fun w' _ => r_sub) ?_
    rw [wrap_id (by omega) (by omega)]
    refine yieldS.ok (fun w' _ => r_sub) ?_
    rw [wrap_id (by omega) (by omega)]
    refine s61 (by omega) ⟨D1, ?_⟩
    refine s61 (by omega) ⟨D1, ?_⟩
    refine yBld bd_142 [(0, i64 15), (1, i64 (10 + ((h : Int) - 1))), (2, i64 (10 + ((h : Int) - 1)))] rfl rfl (yMki mi_142 ?_)
    exact hk _ _ (plainN rfl rfl) xd
  · simp only [evL, Int.reduceEq, decide_true, decide_false]
    intros
    refine drawD.mk' (fun w' => Ext w3 w') D1 ?_
    refine yfB (fun w' hw => hb6.ext hw) fa_71_0 l1_3 rfl ?_
    refine yieldS.ok (fun w' _ => r_sub) ?_
    rw [wrap_id (by omega) (by omega)]
    refine yieldS.ok (fun w' _ => r_sub) ?_
    rw [wrap_id (by omega) (by omega)]
    refine s61 (by omega) ⟨D1, ?_⟩
    refine s61 (by omega) ⟨D1, ?_⟩
    refine yBld bd_142 [(0, i64 16), (1, i64 (10 + ((h : Int) - 1))), (2, i64 (10 + ((h : Int) - 1)))] rfl rfl (yMki mi_142 ?_)
    exact hk _ _ (plainN rfl rfl) xd
  · simp only [evL, Int.reduceEq, decide_false]
    intros
    refine ldA hb6 la_71 rfl ?_
    refine served64 (x := ⟨17, a, b⟩) (show _ ≤ h from ha) (by omega) fun v w4 hv x4 => ?_
    obtain ⟨sv, rfl, hsv⟩ := (hv : NodeOwn w3.heap.size w4 v _)
    refine V.ok (r_neqNilIface Tryz.underlying52) (ifD_true.2 ?_)
    exact hk _ _ ⟨sv, rfl, own_mono hsv xx.size⟩ (xx.trans x4)
  · simp only [evL, Int.reduceEq, decide_false]
    intros
    refine ldA hb6 la_71 rfl ?_
    refine served64 (x := ⟨18, a, b⟩) (show _ ≤ h from ha) (by omega) fun v w4 hv x4 => ?_
    obtain ⟨sv, rfl, hsv⟩ := (hv : NodeOwn w3.heap.size w4 v _)
    refine V.ok (r_neqNilIface Tryz.underlying52) (ifD_true.2 ?_)
    exact hk _ _ ⟨sv, rfl, own_mono hsv xx.size⟩ (xx.trans x4)
  · simp only [evL, Int.reduceEq, decide_false]
    intros
    refine ldA hb6 la_71 rfl ?_
    refine served64 (x := ⟨19, a, b⟩) (show _ ≤ h from Nat.zero_le _) (by omega) fun v w4 hv x4 => ?_
    have hv : v = Value.nilIface := hv
    subst hv
    refine V.ok (r_neqNilNil Tryz.underlying52) (ifD_false.2 ?_)
    have D4 : Ext w4 w4.drew := (Ext.refl _).drew
    refine drawD.mk' (fun w' => Ext w4 w') D4 ?_
    refine yfB (fun w' hw => (hb6.ext x4).ext hw) fa_71_0 l1_3 rfl ?_
    refine yieldS.ok (fun w' _ => r_sub) ?_
    rw [wrap_id (by omega) (by omega)]
    refine yieldS.ok (fun w' _ => r_sub) ?_
    rw [wrap_id (by omega) (by omega)]
    refine yieldS.ok (fun w' _ => r_sub) ?_
    rw [wrap_id (by omega) (by omega)]
    refine s61 (by omega) ⟨D4, ?_⟩
    refine s61 (by omega) ⟨D4, ?_⟩
    refine s61 (by omega) ⟨D4, ?_⟩
    refine yBld bd_113 [(0, i64 19), (1, i64 (10 + ((h : Int) - 2))), (2, i64 (10 + ((h : Int) - 2))), (3, i64 (10 + ((h : Int) - 1)))] rfl rfl (yMki mi_113 ?_)
    exact hk _ _ (plainN rfl rfl) ((xx.trans x4).trans D4)
  · simp only [evL, Int.reduceEq, decide_false]
    intros
    refine ldA hb6 la_71 rfl ?_
    refine served64 (x := ⟨20, a, b⟩) (show _ ≤ h from Nat.zero_le _) (by omega) fun v w4 hv x4 => ?_
    have hv : v = Value.nilIface := hv
    subst hv
    refine V.ok (r_neqNilNil Tryz.underlying52) (ifD_false.2 ?_)
    have D4 : Ext w4 w4.drew := (Ext.refl _).drew
    refine drawD.mk' (fun w' => Ext w4 w') D4 ?_
    refine yfB (fun w' hw => (hb6.ext x4).ext hw) fa_71_0 l1_3 rfl ?_
    refine yieldS.ok (fun w' _ => r_sub) ?_
    rw [wrap_id (by omega) (by omega)]
    refine yieldS.ok (fun w' _ => r_sub) ?_
    rw [wrap_id (by omega) (by omega)]
    refine yieldS.ok (fun w' _ => r_sub) ?_
    rw [wrap_id (by omega) (by omega)]
    refine s61 (by omega) ⟨D4, ?_⟩
    refine s61 (by omega) ⟨D4, ?_⟩
    refine s61 (by omega) ⟨D4, ?_⟩
    refine yBld bd_113 [(0, i64 20), (1, i64 (10 + ((h : Int) - 2))), (2, i64 (10 + ((h : Int) - 2))), (3, i64 (10 + ((h : Int) - 1)))] rfl rfl (yMki mi_113 ?_)
    exact hk _ _ (plainN rfl rfl) ((xx.trans x4).trans D4)
  · simp only [evL, Int.reduceEq, decide_false]
    intros
    refine ldA hb6 la_71 rfl ?_
    refine served64 (x := ⟨21, a, b⟩) (show _ ≤ h from Nat.zero_le _) (by omega) fun v w4 hv x4 => ?_
    have hv : v = Value.nilIface := hv
    subst hv
    refine V.ok (r_neqNilNil Tryz.underlying52) (ifD_false.2 ?_)
    have D4 : Ext w4 w4.drew := (Ext.refl _).drew
    refine drawD.mk' (fun w' => Ext w4 w') D4 ?_
    refine yfB (fun w' hw => (hb6.ext x4).ext hw) fa_71_0 l1_3 rfl ?_
    refine yieldS.ok (fun w' _ => r_sub) ?_
    rw [wrap_id (by omega) (by omega)]
    refine yieldS.ok (fun w' _ => r_sub) ?_
    rw [wrap_id (by omega) (by omega)]
    refine yieldS.ok (fun w' _ => r_sub) ?_
    rw [wrap_id (by omega) (by omega)]
    refine s61 (by omega) ⟨D4, ?_⟩
    refine s61 (by omega) ⟨D4, ?_⟩
    refine s61 (by omega) ⟨D4, ?_⟩
    refine yBld bd_113 [(0, i64 21), (1, i64 (10 + ((h : Int) - 2))), (2, i64 (10 + ((h : Int) - 2))), (3, i64 (10 + ((h : Int) - 1)))] rfl rfl (yMki mi_113 ?_)
    exact hk _ _ (plainN rfl rfl) ((xx.trans x4).trans D4)
  · simp only [evL, Int.reduceEq, decide_true, decide_false]
    intros
    refine V_sub.2 ?_
    rw [wrap_id (by omega) (by omega)]
    refine s61 (by omega) ?_
    refine V_sub.2 ?_
    rw [wrap_id (by omega) (by omega)]
    refine s61 (by omega) ?_
    refine V_sub.2 ?_
    rw [wrap_id (by omega) (by omega)]
    refine s61 (by omega) ?_
    refine V_sub.2 ?_
    rw [wrap_id (by omega) (by omega)]
    refine s61 (by omega) ?_
    refine bld bd_144 [(0, i64 (10 + ((h : Int) - 3))), (1, i64 (10 + ((h : Int) - 3))), (2, i64 (10 + ((h : Int) - 2))), (3, i64 (10 + ((h : Int) - 1)))] rfl rfl (mki mi_144 ?_)
    exact hk _ _ (plainN rfl rfl) xx
  · simp only [evL, Int.reduceEq, decide_true, decide_false]
    intros
    refine ldB hb6 fa_71_1 l1_3 rfl ?_
    refine bld bd_146 [(0, i64 a)] rfl rfl (mki mi_146 ?_)
    exact hk _ _ (plainN rfl rfl) xx
  · simp only [evL, Int.reduceEq, decide_true, decide_false]
    intros
    refine drawD.mk' (fun w' => Ext w3 w') D1 ?_
    refine yieldS.ok (fun w' _ => r_sub) ?_
    rw [wrap_id (by omega) (by omega)]
    refine yfB (fun w' hw => hb6.ext hw) fa_71_1 l1_3 rfl ?_
    refine s61 (by omega) ⟨D1, ?_⟩
    refine yBld bd_148 [(0, i64 (10 + ((h : Int) - 1))), (1, i64 a)] rfl rfl (yMki mi_148 ?_)
    exact hk _ _ (plainN rfl rfl) xd
  · simp only [evL, Int.reduceEq, decide_true, decide_false]
    intros
    refine s61 (by omega) ?_
    refine bld bd_84 [(0, i64 (10 + (h : Int)))] rfl rfl (mki mi_84 ?_)
    exact hk _ _ (plainN rfl rfl) xx
  · simp only [evL, Int.reduceEq, decide_true, decide_false]
    intros
    refine drawD.mk' (fun w' => Ext w3 w') D1 ?_
    refine yfB (fun w' hw => hb6.ext hw) fa_71_0 l1_3 rfl ?_
    refine yieldS.ok (fun w' _ => r_sub) ?_
    rw [wrap_id (by omega) (by omega)]
    refine yieldS.ok (fun w' _ => r_sub) ?_
    rw [wrap_id (by omega) (by omega)]
    refine s61 (by omega) ⟨D1, ?_⟩
    refine s61 (by omega) ⟨D1, ?_⟩
    refine yBld bd_142 [(0, i64 26), (1, i64 (10 + ((h : Int) - 1))), (2, i64 (10 + ((h : Int) - 1)))] rfl rfl (yMki mi_142 ?_)
    exact hk _ _ (plainN rfl rfl) xd
  · simp only [evL, Int.reduceEq, decide_false]
    intros
    refine ldA hb6 la_71 rfl ?_
    refine served64 (x := ⟨27, a, b⟩) (show _ ≤ h from ha) (by omega) fun v w4 hv x4 => ?_
    obtain ⟨sv, rfl, hsv⟩ := (hv : NodeOwn w3.heap.size w4 v _)
    refine V.ok (r_neqNilIface Tryz.underlying52) (ifD_true.2 ?_)
    exact hk _ _ ⟨sv, rfl, own_mono hsv xx.size⟩ (xx.trans x4)
  · simp only [evL, Int.reduceEq, decide_false]
    intros
    refine ldA hb6 la_71 rfl ?_
    refine served64 (x := ⟨28, a, b⟩) (show _ ≤ h from ha) (by omega) fun v w4 hv x4 => ?_
    obtain ⟨sv, rfl, hsv⟩ := (hv : NodeOwn w3.heap.size w4 v _)
    refine V.ok (r_neqNilIface Tryz.underlying52) (ifD_true.2 ?_)
    exact hk _ _ ⟨sv, rfl, own_mono hsv xx.size⟩ (xx.trans x4)
  · simp only [evL, Int.reduceEq, decide_false]
    intros
    refine ldA hb6 la_71 rfl ?_
    refine served64 (x := ⟨29, a, b⟩) (show _ ≤ h from ha) (by omega) fun v w4 hv x4 => ?_
    obtain ⟨sv, rfl, hsv⟩ := (hv : NodeOwn w3.heap.size w4 v _)
    refine V.ok (r_neqNilIface Tryz.underlying52) (ifD_true.2 ?_)
    exact hk _ _ ⟨sv, rfl, own_mono hsv xx.size⟩ (xx.trans x4)
  · simp only [evL, Int.reduceEq, decide_false]
    intros
    refine ldA hb6 la_71 rfl ?_
    refine served64 (x := ⟨30, a, b⟩) (show _ ≤ h from ha) (by omega) fun v w4 hv x4 => ?_
    obtain ⟨sv, rfl, hsv⟩ := (hv : NodeOwn w3.heap.size w4 v _)
    refine V.ok (r_neqNilIface Tryz.underlying52) (ifD_true.2 ?_)
    exact hk _ _ ⟨sv, rfl, own_mono hsv xx.size⟩ (xx.trans x4)
  · simp only [evL, Int.reduceEq, decide_false]
    intros
    refine ldA hb6 la_71 rfl ?_
    refine served64 (x := ⟨31, a, b⟩) (show _ ≤ h from ha) (by omega) fun v w4 hv x4 => ?_
    obtain ⟨sv, rfl, hsv⟩ := (hv : NodeOwn w3.heap.size w4 v _)
    refine V.ok (r_neqNilIface Tryz.underlying52) (ifD_true.2 ?_)
    exact hk _ _ ⟨sv, rfl, own_mono hsv xx.size⟩ (xx.trans x4)
  · simp only [evL, Int.reduceEq, decide_false]
    intros
    refine ldA hb6 la_71 rfl ?_
    refine served64 (x := ⟨32, a, b⟩) (show _ ≤ h from ha) (by omega) fun v w4 hv x4 => ?_
    obtain ⟨sv, rfl, hsv⟩ := (hv : NodeOwn w3.heap.size w4 v _)
    refine V.ok (r_neqNilIface Tryz.underlying52) (ifD_true.2 ?_)
    exact hk _ _ ⟨sv, rfl, own_mono hsv xx.size⟩ (xx.trans x4)
  · simp only [evL, Int.reduceEq, decide_true, decide_false]
    intros
    refine drawD.mk' (fun w' => Ext w3 w') D1 ?_
    refine yfB (fun w' hw => hb6.ext hw) fa_71_1 l1_3 rfl ?_
    refine s61 (by omega) ⟨D1, ?_⟩
    refine yBld bd_150 [(0, i64 (10 + (h : Int))), (1, i64 a)] rfl rfl (yMki mi_150 ?_)
    exact hk _ _ (plainN rfl rfl) xd
  · simp only [evL, Int.reduceEq, decide_true, decide_false]
    intros
    refine drawD.mk' (fun w' => Ext w3 w') D1 ?_
    refine yfB (fun w' hw => hb6.ext hw) fa_71_1 l1_3 rfl ?_
    refine yieldS.ok (fun w' _ => r_sub) ?_
    rw [wrap_id (by omega) (by omega)]
    refine s61 (by omega) ⟨D1, ?_⟩
    refine yBld bd_152 [(0, i64 a), (1, i64 (10 + ((h : Int) - 1)))] rfl rfl (yMki mi_152 ?_)
    exact hk _ _ (plainN rfl rfl) xd
  · simp only [evL, Int.reduceEq, decide_true, decide_false]
    intros
    refine drawD.mk' (fun w' => Ext w3 w') D1 ?_
    refine yfB (fun w' hw => hb6.ext hw) fa_71_1 l1_3 rfl ?_
    refine yieldS.ok (fun w' _ => r_convI Tryz.underlying3 Tryz.underlying21) ?_
    refine s61 (by omega) ⟨D1, ?_⟩
    refine yBld bd_84 [(0, i64 (10 + (h : Int))), (1, i32 (IntKind.i32.wrap a))] rfl rfl (yMki mi_84 ?_)
    exact hk _ _ (plainN rfl rfl) xd
  · simp only [evL, Int.reduceEq, decide_false]
    intros
    refine ldA hb6 la_71 rfl ?_
    refine served64 (x := ⟨36, a, b⟩) (show _ ≤ h from ha) (by omega) fun v w4 hv x4 => ?_
    obtain ⟨sv, rfl, hsv⟩ := (hv : NodeOwn w3.heap.size w4 v _)
    refine V.ok (r_neqNilIface Tryz.underlying52) (ifD_true.2 ?_)
    exact hk _ _ ⟨sv, rfl, own_mono hsv xx.size⟩ (xx.trans x4)
  · simp only [evL, Int.reduceEq, decide_true, decide_false]
    intros
    have a1 : 0 ≤ a := a1
    have hn : a < (i.methods.length : Int) := hn
    have ha : (i.meth a).params.length ≤ h := ha
    refine ldB hb4 fa_27_3 l1_25 rfl (ldB hb6 fa_71_1 l1_3 rfl ?_)
    obtain ⟨ka, rfl⟩ : ∃ ka : Nat, a = ka := ⟨a.toNat, by omega⟩
    have hmi := meth_get a1 hn
    rw [Int.toNat_natCast] at hmi
    refine ldS xa_25 la_47 hA.mt hmi mth_len fun row hrow => ?_
    obtain ⟨pv9, lv9, cv9, rfl, hp9, _, _⟩ := hrow
    obtain ⟨a7, c7, rfl⟩ := hp9.shape
    rename_i hl9 hc9
    obtain ⟨a8, c8, rfl⟩ := hl9.shape
    obtain ⟨a9, c9, rfl⟩ := SliceIs.shape hc9
    refine asB sa_47 rfl rfl fun b9 w9 hb9 x9 => ?_
    have hb9 : Boxed w9 b9 [.slice a7 (i.meth (ka : Int)).params.length c7, i64 (i.meth (ka : Int)).result, .slice a8 (i.meth (ka : Int)).locals.length c8, .slice a9 (i.meth (ka : Int)).code.length c9] := hb9
    have D9 : Ext w9 w9.drew := (Ext.refl _).drew
    have xd9 := (xx.trans x9).trans D9
    have hp9 := (hp9.ext x9).ext D9
    refine drawD.mk' (fun w' => Ext w9 w') D9 ?_
    refine yfB (fun w' hw => (hb6.ext x9).ext hw) fa_71_1 l1_3 rfl ?_
    refine yfB (fun w' hw => hb9.ext hw) fa_47_1 l1_3 rfl ?_
    refine yfB (fun w' hw => hb9.ext hw) fa_47_0 l1_23 rfl (yLen xa_23 hp9 ?_)
    refine yieldS.ok (fun w' _ => r_sub) ?_
    rw [wrap_id (by omega) (by omega)]
    refine yfB (fun w' hw => hb9.ext hw) fa_47_0 l1_23 rfl (yLen xa_23 hp9 ?_)
    refine result62 (by omega) ⟨D9, ?_⟩
    refine row63 ha (by omega) fun v w10 ho10 x10 => ⟨D9.trans x10, ?_⟩
    refine yBld bd_155 [(0, i64 (ka : Nat)), (1, i64 _), (2, v)] rfl (by simp [own_one ho10, one_i]) (yMki mi_155 ?_)
    exact hk _ _ ⟨v, rfl, own_mono ho10 xd9.size⟩ (xd9.trans x10)
  · simp only [evL, Int.reduceEq, decide_true, decide_false]
    intros
    have a1 : 0 ≤ a := a1
    have hn : a < (i.imports.length : Int) := hn
    have ha : (i.imp a).params.length ≤ h := ha
    refine ldB hb4 fa_27_2 l1_24 rfl (ldB hb6 fa_71_1 l1_3 rfl ?_)
    obtain ⟨ka, rfl⟩ : ∃ ka : Nat, a = ka := ⟨a.toNat, by omega⟩
    have hmi := imp_get a1 hn
    rw [Int.toNat_natCast] at hmi
    refine ldS xa_24 la_74 hA.im hmi imp_len fun row hrow => ?_
    obtain ⟨pv9, rfl, hp9⟩ := hrow
    obtain ⟨a7, c7, rfl⟩ := hp9.shape
    refine asB sa_74 rfl rfl fun b9 w9 hb9 x9 => ?_
    have hb9 : Boxed w9 b9 [.string (i.imp (ka : Int)).name, i64 (i.imp (ka : Int)).exp, .slice a7 (i.imp (ka : Int)).params.length c7, i64 (i.imp (ka : Int)).result] := hb9
    have D9 : Ext w9 w9.drew := (Ext.refl _).drew
    have xd9 := (xx.trans x9).trans D9
    have hp9 := (hp9.ext x9).ext D9
    refine drawD.mk' (fun w' => Ext w9 w') D9 ?_
    refine yfB (fun w' hw => (hb6.ext x9).ext hw) fa_71_1 l1_3 rfl ?_
    refine yfB (fun w' hw => hb9.ext hw) fa_74_3 l1_3 rfl ?_
    refine yfB (fun w' hw => hb9.ext hw) fa_74_2 l1_23 rfl (yLen xa_23 hp9 ?_)
    refine yieldS.ok (fun w' _ => r_sub) ?_
    rw [wrap_id (by omega) (by omega)]
    refine yfB (fun w' hw => hb9.ext hw) fa_74_2 l1_23 rfl (yLen xa_23 hp9 ?_)
    refine result62 (by omega) ⟨D9, ?_⟩
    refine row63 ha (by omega) fun v w10 ho10 x10 => ⟨D9.trans x10, ?_⟩
    refine yBld bd_157 [(0, i64 (ka : Nat)), (1, i64 _), (2, v)] rfl (by simp [own_one ho10, one_i]) (yMki mi_157 ?_)
    exact hk _ _ ⟨v, rfl, own_mono ho10 xd9.size⟩ (xd9.trans x10)
  · simp only [evL, Int.reduceEq, decide_true, decide_false]
    intros
    refine ldB hb5 fa_47_1 l1_3 rfl ?_
    refine V_sub.2 ?_
    rw [wrap_id (by omega) (by omega)]
    refine result62 (by omega) ?_
    refine bld bd_105 [(0, i64 _)] rfl rfl (mki mi_105 ?_)
    exact hk _ _ (plainN rfl rfl) xx
end Go.Proofs.YtcdbikfnlggbnaaGreatDoor
namespace Go.Proofs.YtcdbikfnlggbnaaGreatDoor
open Go.Vc Go.Tc
variable {w : World} {K : Value → World → Prop}
def aimN (st : List Int) : GNode → GNode
  | .goto t => .goto (nth st t.toNat)
  | .branch c t => .branch c (nth st t.toNat)
  | n => n
def aimOk (st : List Int) : GNode → Prop
  | .goto t => 0 ≤ t ∧ t < st.length
  | .branch _ t => 0 ≤ t ∧ t < st.length
  | _ => True
theorem aimed32 {av sv : Value} {n : GNode} {st : List Int} (hs : IntsAre w sv st) (hb : aimOk st n) (hk : ∀ w', Ext w w' → K ((aimN st n).val av) w') : callD Tryz.prog 32 #[n.val av, sv] w K := by
  apply F32_wp
  unfold F32_den
  have other : ∀ {t : Nat} {c : Array Value}, t ≠ 146 → t ≠ 148 → n.val av = .iface t (.agg c) → aimN st n = n → F32_den (n.val av) sv w K := fun h1 h2 he h3 => by
    unfold F32_den
    rw [he]
    refine tm ta_146 h1 fun _ _ _ => ?_
    refine tm ta_148 h2 fun _ _ _ => ?_
    rw [h3, he] at hk
    exact hk _ (Ext.refl _)
  unfold F32_den at other
  cases n with
  | goto t =>
    obtain ⟨h0, h1⟩ := hb
    refine th ta_146 ?_
    refine asK sa_146 rfl rfl fun w1 hB x1 => ?_
    have hB : Blk w1 w.heap.size [i64 t] 146 := hB
    refine ldB (Blk.boxed hB) fa_146_0 l1_3 rfl ?_
    obtain ⟨t, rfl⟩ : ∃ q : Nat, t = q := ⟨t.toNat, by omega⟩
    refine ldx xa_23 l1_3 (hs.ext x1) (by omega) (by omega) (getI (getN (by omega))) ?_
    refine stF fa_146_0 inf3 hB (n := 1) rfl (by decide) rfl ?_
    have hB2 := hB.set 0 (i64 (nth st t))
    have x2 : Ext w (w1.setCell ⟨w.heap.size, 0, none⟩ (i64 (nth st t))) := x1.setCell (Nat.le_refl _) _
    generalize w1.setCell ⟨w.heap.size, 0, none⟩ (i64 (nth st t)) = w2 at hB2 x2
    refine ldA (Blk.boxed hB2) la_146 rfl (mki mi_146 ?_)
    exact hk _ x2
  | branch c t =>
    obtain ⟨h0, h1⟩ := hb
    refine tm ta_146 (by decide) fun _ _ _ => ?_
    refine th ta_148 ?_
    refine asK sa_148 rfl rfl fun w1 hB x1 => ?_
    have hB : Blk w1 w.heap.size [i64 c, i64 t] 148 := hB
    refine ldB (Blk.boxed hB) fa_148_1 l1_3 rfl ?_
    obtain ⟨t, rfl⟩ : ∃ q : Nat, t = q := ⟨t.toNat, by omega⟩
    refine ldx xa_23 l1_3 (hs.ext x1) (by omega) (by omega) (getI (getN (by omega))) ?_
    refine stF fa_148_1 inf3 hB (n := 2) rfl (by decide) rfl ?_
    have hB2 := hB.set 1 (i64 (nth st t))
    have x2 : Ext w (w1.setCell ⟨w.heap.size, 1, none⟩ (i64 (nth st t))) := x1.setCell (Nat.le_refl _) _
    generalize w1.setCell ⟨w.heap.size, 1, none⟩ (i64 (nth st t)) = w2 at hB2 x2
    refine ldA (Blk.boxed hB2) la_148 rfl (mki mi_148 ?_)
    exact hk _ x2
  | _ => exact other (by decide) (by decide) rfl rfl
end Go.Proofs.YtcdbikfnlggbnaaGreatDoor
namespace Go.Tc
def cf (r : List Bool) : Nat := r.countP (· == false)
theorem cf_set {r : List Bool} {k : Nat} (hk : k < r.length) (h : r.getD k false = false) : cf (r.set k true) + 1 = cf r := by
  have e : r[k] = false := by
    rw [List.getD_eq_getElem?_getD, List.getElem?_eq_getElem hk] at h; exact h
  have h1 : 0 < r.countP (· == false) := List.countP_pos_iff.2 ⟨r[k], List.getElem_mem hk, by rw [e]; rfl⟩
  have h2 : (r.set k true).countP (· == false) = r.countP (· == false) - 1 + 0 := by
    rw [List.countP_set hk, e]; rfl
  unfold cf
  omega
/-- What is pushed. -/
def pushP (x : Ins) (pc : Nat) : List Int := (if x.op = 23 ∨ x.op = 24 then [x.a] else []) ++ (if x.op ≠ 23 ∧ x.op ≠ 39 then [(pc : Int) + 1] else [])
theorem push_mem {x : Ins} {pc : Nat} {t : Int} : t ∈ pushP x pc ↔ t ∈ nextS x pc := by
  unfold pushP nextS
  by_cases c1 : x.op = 23
  · simp [c1]
  by_cases c2 : x.op = 24
  · simp [c2]; exact Or.comm
  by_cases c3 : x.op = 39
  · simp [c3]
  · simp [c1, c2, c3]
end Go.Tc
namespace Go.Proofs.YtcdbikfnlggbnaaGreatDoor
open Go.Vc Go.Tc
variable {w : World} {K : Value → World → Prop}
structure Rch (i : Img) (m : Mth) (st : St) (l : List Int) (r : List Bool) : Prop where
  rl : r.length = m.code.length
  ls : ∀ t ∈ l, 0 ≤ t ∧ t < m.code.length ∧ st.h t.toNat = true
  rs : ∀ k, r.getD k false = true → st.h k = true
  z : r.getD 0 false = true ∨ (0 : Int) ∈ l
  cl : ∀ k, r.getD k false = true → ∀ to ∈ nextS (m.ins k) k, r.getD to.toNat false = true ∨ to ∈ l
  bd : 3 * cf r + l.length ≤ 3 * m.code.length + 1
/-- The work list and the marks, in memory. -/
structure Rm (gr : Nat) (w3 w : World) (v : Value) (l : List Int) (r : List Bool) : Prop where
  own : w.ownsRow (gr + 1) 3 1 v l.length (l.map i64)
  sh : ∃ a c, v = .slice (some ⟨a, 0, none⟩) l.length c
  blk : Blk w gr (r.map .bool) 4
  fr : Fr (fun k => gr ≤ k) w3 w
theorem Rm.ext {gr : Nat} {w3 w' : World} {v : Value} {l : List Int} {r : List Bool} (h : Rm gr w3 w v l r) (hx : Ext w w') : Rm gr w3 w' v l r := ⟨hx.own h.own, h.sh, h.blk.ext hx, h.fr.trans (Fr.of_ext hx) fun _ _ h => h⟩
theorem Rm.push {gr : Nat} {w3 : World} {v : Value} {l : List Int} {r : List Bool} {t : Int} (h : Rm gr w3 w v l r) (hl : l.length ≤ 100000) (hk : ∀ v' w', Rm gr w3 w' v' (l ++ [t]) r → Fr (fun k => v.ownBlock = some k) w w' → K v' w') :
    V Tryz.prog (Instr.buildSlice 23 1 #[(0, i64 t)]) w fun u w1 => V Tryz.prog (Builtin.append_ #[23, 23] 23 #[v, u]) w1 K := by
  refine bsl xe_23 [i64 t] rfl rfl (by simp) rfl fun u w1 ho1 x1 => ?_
  have h1 := h.ext x1
  have hB := h1.blk.lt
  refine apO xe_23 h1.own (SliceIs.of_own ho1) rfl (by omega) (by unfold maxLen; omega) (by omega) fun v2 w2 ho2 hg2 => ?_
  have hlo : ∀ k, v.ownBlock = some k → gr + 1 ≤ k := fun k hk => (h.own.lt k hk).1
  have f2 : Fr (fun k => v.ownBlock = some k) w1 w2 := Fr.of_grown hg2 fun k hk => hk
  have ho2 : w2.ownsRow (gr + 1) 3 1 v2 (l ++ [t]).length ((l ++ [t]).map i64) := by simpa using ho2
  refine hk v2 w2 ⟨ho2, ?_, f2.blk h1.blk fun hk => by have := hlo _ hk; omega, h1.fr.trans (f2.mono fun k hk => by have := hlo k hk; omega) fun _ _ h => h⟩ ((Fr.of_ext x1).trans f2 fun _ _ h => h)
  rcases ho2.2 with ⟨_, e⟩ | ⟨g, cap, _, rfl, _⟩
  · simp at e
  · exact ⟨_, _, rfl⟩
set_option maxHeartbeats 1000000 in
theorem reached30 {row : List Value} {i : Img} {m : Mth} {st : St} (hrow : MthIs w row m) (hn1 : 1 ≤ m.code.length) (hn2 : m.code.length ≤ 120) (h0 : st.h 0 = true) (hled : ∀ k, st.h k = true → Led i m st k) (hwf : WF m st)
    (hk : ∀ g r w', Blk w' g (r.map .bool) 4 → w.heap.size ≤ g → Rch i m st [] r → Ext w w' → K (.slice (some ⟨g, 0, none⟩) m.code.length m.code.length) w') : callD Tryz.prog 30 #[.agg row.toArray] w K := by
  obtain ⟨pv, lv, cv, rfl, hp, hl, hc⟩ := hrow
  apply F30_wp
  unfold F30_den
  refine bx fun b1 w1 hb1 x1 => ?_
  have hb1 : Boxed w1 b1 [pv, i64 m.result, lv, cv] := hb1
  refine ldB hb1 fa_47_3 l1_45 rfl (lnx xa_45 (hc.ext x1) ?_)
  refine mkB Tryz.underlying78 inf4 rfl (by omega) (by omega) fun w2 hB2 x2 z2 => ?_
  have hgr : w.heap.size ≤ w1.heap.size := x1.size
  generalize hgr1 : w1.heap.size = gr at hB2 z2 hgr
  refine bsl xe_23 [i64 0] rfl rfl (by simp) rfl fun v3 w3 ho3 x3 => ?_
  have x13 := x2.trans x3
  have hb3 := hb1.ext x13
  have hc3 := hc.ext (x1.trans x13)
  have x03 := x1.trans x13
  have hB3 := hB2.ext x3
  have cf0 : cf (List.replicate m.code.length false) = m.code.length := by simp [cf, List.countP_replicate]
  have gd0 : ∀ k, (List.replicate m.code.length false).getD k false = false := fun k => by
    simp only [List.getD_eq_getElem?_getD, List.getElem?_replicate]; split <;> rfl
  have ini : Rm gr w3 w3 v3 [0] (List.replicate m.code.length false) ∧ Rch i m st [0] (List.replicate m.code.length false) := by
    refine ⟨⟨own_mono ho3 (by omega), ?_, by simpa using hB3, Fr.refl _ _⟩, by simp, fun t ht => ?_, fun k hk => ?_, .inr (by simp), fun k hk => ?_, by rw [cf0]; simp⟩
    · rcases ho3.2 with ⟨_, e⟩ | ⟨g, cap, _, rfl, _⟩
      · cases e
      · exact ⟨_, _, rfl⟩
    · rw [List.mem_singleton] at ht; subst ht; exact ⟨by omega, by omega, h0⟩
    · rw [gd0] at hk; cases hk
    · rw [gd0] at hk; cases hk
  refine ⟨fun t w' => ∃ l r, Rm gr w3 w' t l r ∧ Rch i m st l r, fun t w' => mu fun q => ∃ l r, (Rm gr w3 w' t l r ∧ Rch i m st l r) ∧ 3 * cf r + l.length = q, ⟨_, _, ini⟩, ?_⟩
  rintro t w4 ⟨l0, r0, hh0⟩ _
  obtain ⟨l, r, ⟨M, R⟩, hmu⟩ := mu_spec (p := fun q => ∃ l r, (Rm gr w3 w4 t l r ∧ Rch i m st l r) ∧ 3 * cf r + l.length = q) ⟨_, l0, r0, hh0, rfl⟩
  clear hh0 l0 r0
  obtain ⟨ga, cap, rfl⟩ := M.sh
  have ho := M.own
  have hbd := R.bd
  have hrl := R.rl
  have step : ∀ {t' : Value} {w' : World} {l' : List Int} {r' : List Bool}, Rm gr w3 w' t' l' r' → Rch i m st l' r' → 3 * cf r' + l'.length < 3 * cf r + l.length → (∃ l r, Rm gr w3 w' t' l r ∧ Rch i m st l r) ∧ mu (fun q => ∃ l r, (Rm gr w3 w' t' l r ∧ Rch i m st l r) ∧ 3 * cf r + l.length = q) < mu (fun q => ∃ l' r, (Rm gr w3 w4 (.slice (some ⟨ga, 0, none⟩) l.length cap) l' r ∧ Rch i m st l' r) ∧ 3 * cf r + l'.length = q) := fun h1 h2 h3 => ⟨⟨_, _, h1, h2⟩, by
    rw [← hmu]
    exact Nat.lt_of_le_of_lt (mu_le ⟨_, _, ⟨h1, h2⟩, rfl⟩) h3⟩
  refine lnx xa_23 (SliceIs.of_own ho) (V_gtr.2 (ifD_dec (fun hgt => ?_) fun hle => ?_))
  case refine_2 =>
    have : l = [] := List.eq_nil_of_length_eq_zero (by omega)
    subst this
    exact hk gr r w4 M.blk hgr R (M.fr.ext x03 fun k hk => by omega)
  refine lnx xa_23 (SliceIs.of_own ho) (V_sub.2 ?_)
  rw [wrap_id (by omega) (by omega), show (l.length : Int) - 1 = ((l.length - 1 : Nat) : Int) by omega]
  have hlm := getN (l := l) (j := l.length - 1) (by omega)
  refine ldO' xa_23 l1_3 ho (by omega) (by omega) (getI hlm) ?_
  obtain ⟨t0, t1, t2⟩ := R.ls _ (List.mem_of_getElem? hlm)
  have hsplit : l = l.take (l.length - 1) ++ [nth l (l.length - 1)] := by
    have := List.take_add_one (l := l) (i := l.length - 1)
    rw [hlm] at this
    simp only [Option.toList_some] at this
    rw [← this, List.take_of_length_le (by omega)]
  obtain ⟨pc, hpc⟩ : ∃ pc : Nat, nth l (l.length - 1) = pc := ⟨(nth l (l.length - 1)).toNat, by omega⟩
  rw [hpc] at t0 t1 t2 hsplit ⊢
  rw [Int.toNat_natCast] at t2
  have hlen2 : (l.take (l.length - 1)).length = l.length - 1 := by simp
  refine lnx xa_23 (SliceIs.of_own ho) (V_sub.2 ?_)
  rw [wrap_id (by omega) (by omega), show (l.length : Int) - 1 = ((l.length - 1 : Nat) : Int) by omega]
  refine slO Tryz.underlying23 inf3 (by decide) ho (by omega) (by omega) fun ho2 => ?_
  rw [Nat.mul_one, ← List.map_take] at ho2
  generalize hl2 : l.take (l.length - 1) = l2 at *
  have M2 : Rm gr w3 w4 (.slice (some ⟨ga, 0, none⟩) (l.length - 1) cap) l2 r := ⟨by rw [hlen2]; exact ho2, ⟨ga, cap, by rw [hlen2]⟩, M.blk, M.fr⟩
  have hin : ∀ t, t ∈ l → t ∈ l2 ∨ t = pc := fun t ht => by
    rw [hsplit] at ht
    rcases List.mem_append.1 ht with h | h
    · exact .inl h
    · rw [List.mem_singleton] at h; exact .inr h
  have hin2 : ∀ t, t ∈ l2 → t ∈ l := fun t ht => by rw [hsplit]; exact List.mem_append_left _ ht
  have hsl : SliceIs w4 (.slice (some ⟨gr, 0, none⟩) m.code.length m.code.length) 1 m.code.length (r.map .bool) := M.blk.slice (by simpa using hrl) (by unfold maxLen; omega)
  refine ldx xa_78 l1_4 hsl (by omega) (by omega) (getB' (by omega)) ?_
  cases hr : r.getD pc false with
  | true =>
    refine ifD_true.2 (step M2 ⟨hrl, fun t ht => R.ls t (hin2 t ht), R.rs, ?_, fun k hk to hto => ?_, by omega⟩ (by omega))
    · rcases R.z with h | h
      · exact .inl h
      · rcases hin _ h with h | h
        · exact .inr h
        · left
          have : pc = 0 := by omega
          rw [← this]; exact hr
    · rcases R.cl k hk to hto with h | h
      · exact .inl h
      · rcases hin _ h with h | h
        · exact .inr h
        · left; subst h; rw [Int.toNat_natCast]; exact hr
  | false =>
  refine ifD_false.2 ?_
  refine stB xa_78 inf4 M2.blk (n := m.code.length) (by simpa using hrl) (by omega) (by omega) rfl ?_
  rw [Int.toNat_natCast]
  have M3 : Rm gr w3 (w4.setCell ⟨gr, pc, none⟩ (.bool true)) (.slice (some ⟨ga, 0, none⟩) (l.length - 1) cap) l2 (r.set pc true) := by
    refine ⟨(Fr.of_set (S := fun k => k = gr) rfl).own M2.own fun k hk he => by have := (M2.own.lt k hk).1; omega, M2.sh, ?_, M2.fr.set (Nat.le_refl _)⟩
    have := M2.blk.set pc (.bool true)
    rwa [← List.map_set] at this
  generalize w4.setCell ⟨gr, pc, none⟩ (.bool true) = w5 at M3
  have x15 : Ext w1 w5 := M3.fr.ext x13 fun k hk => by omega
  have x05 := x1.trans x15
  refine ldB (hb1.ext x15) fa_47_3 l1_45 rfl ?_
  have hxi := insC_mem (m := m) (k := pc) (by omega)
  refine ldI (hc.ext x05) hxi ?_
  refine asK sa_71 rfl rfl fun w6 hB6 x6 => ?_
  have hB6 : Blk w6 w5.heap.size [i64 (m.ins pc).op, i64 (m.ins pc).a, i64 (m.ins pc).b] 71 := hB6
  have hga5 := (M3.own.lt ga rfl).2
  have hb6 := Blk.boxed hB6
  have M6 := M3.ext x6
  have hcf := cf_set (r := r) (k := pc) (by omega) hr
  -- what is pushed
  have fin : ∀ {v : Value} {w' : World} {l3 : List Int}, Rm gr w3 w' v (l2 ++ l3) (r.set pc true) → (∀ t, t ∈ l3 ↔ t ∈ nextS (m.ins pc) pc) → l3.length ≤ 2 → Rm gr w3 w' v (l2 ++ l3) (r.set pc true) ∧ Rch i m st (l2 ++ l3) (r.set pc true) ∧ 3 * cf (r.set pc true) + (l2 ++ l3).length < 3 * cf r + l.length := by
    intro v w' l3 hM hl3 hle
    obtain ⟨out, _, hout⟩ := hled pc t2
    have hlen : (l2 ++ l3).length = l2.length + l3.length := List.length_append
    have hgs : ∀ k, (r.set pc true).getD k false = true ↔ k = pc ∨ r.getD k false = true := fun k => by
      rw [getD_set]
      by_cases hkp : k = pc
      · rw [if_pos ⟨hkp, by omega⟩]; simp [hkp]
      · rw [if_neg fun h => hkp h.1]; simp [hkp]
    refine ⟨hM, ⟨by simpa using hrl, fun t ht => ?_, fun k hk => ?_, ?_, fun k hk to hto => ?_, by omega⟩, by omega⟩
    · rcases List.mem_append.1 ht with h | h
      · exact R.ls t (hin2 t h)
      · obtain ⟨q1, q2, q3, _⟩ := hout t ((hl3 t).1 h)
        exact ⟨q1, q2, q3⟩
    · rcases (hgs k).1 hk with h | h
      · rw [h]; exact t2
      · exact R.rs k h
    · rcases R.z with h | h
      · exact .inl ((hgs 0).2 (.inr h))
      · rcases hin _ h with h | h
        · exact .inr (List.mem_append_left _ h)
        · exact .inl ((hgs 0).2 (.inl (by omega)))
    · rcases (hgs k).1 hk with h | h
      · subst h; exact .inr (List.mem_append_right _ ((hl3 to).2 hto))
      · rcases R.cl k h to hto with h | h
        · exact .inl ((hgs _).2 (.inr h))
        · rcases hin _ h with h | h
          · exact .inr (List.mem_append_left _ h)
          · exact .inl ((hgs _).2 (.inl (by omega)))
  have hpm := fun t => push_mem (x := m.ins pc) (pc := pc) (t := t)
  unfold pushP at hpm
  obtain ⟨A, hA⟩ : ∃ A, A = (if (m.ins pc).op = 23 ∨ (m.ins pc).op = 24 then [(m.ins pc).a] else []) := ⟨_, rfl⟩
  obtain ⟨C, hC⟩ : ∃ C, C = (if (m.ins pc).op ≠ 23 ∧ (m.ins pc).op ≠ 39 then [(pc : Int) + 1] else []) := ⟨_, rfl⟩
  rw [← hA, ← hC] at hpm
  have hAl : A.length ≤ 1 := by rw [hA]; split <;> simp
  have hCl : C.length ≤ 1 := by rw [hC]; split <;> simp
  have fin2 : ∀ {v : Value} {w' : World}, Rm gr w3 w' v (l2 ++ A ++ C) (r.set pc true) → (∃ l r, Rm gr w3 w' v l r ∧ Rch i m st l r) ∧ mu (fun q => ∃ l r, (Rm gr w3 w' v l r ∧ Rch i m st l r) ∧ 3 * cf r + l.length = q) < mu (fun q => ∃ l' r, (Rm gr w3 w4 (.slice (some ⟨ga, 0, none⟩) l.length cap) l' r ∧ Rch i m st l' r) ∧ 3 * cf r + l'.length = q) := fun hM => by
    rw [List.append_assoc] at hM
    obtain ⟨f1, f2, f3⟩ := fin hM hpm (by rw [List.length_append]; omega)
    exact step f1 f2 f3
  clear fin hpm
  refine ⟨fun v w' => Rm gr w3 w' v (l2 ++ A) (r.set pc true) ∧ Boxed w' w5.heap.size [i64 (m.ins pc).op, i64 (m.ins pc).a, i64 (m.ins pc).b], ?_, ?_⟩
  · have psh : (m.ins pc).op = 23 ∨ (m.ins pc).op = 24 → V Tryz.prog (Instr.buildSlice 23 1 #[(0, i64 (m.ins pc).a)]) w6 fun u w1 => V Tryz.prog (Builtin.append_ #[23, 23] 23 #[.slice (some ⟨ga, 0, none⟩) (l.length - 1) cap, u]) w1 fun v w' => Rm gr w3 w' v (l2 ++ A) (r.set pc true) ∧ Boxed w' w5.heap.size [i64 (m.ins pc).op, i64 (m.ins pc).a, i64 (m.ins pc).b] := fun hop => by
      refine M6.push (by omega) fun v' w' hM hF => ⟨?_, Blk.boxed (hF.blk hB6 fun hk => ?_)⟩
      · rw [hA, if_pos hop]; exact hM
      · have hk : some ga = some w5.heap.size := hk
        rw [Option.some.injEq] at hk
        omega
    refine ldB hb6 fa_71_0 l1_3 rfl (V_eqlI.2 ?_)
    by_cases c1 : (m.ins pc).op = 23
    · simp only [c1, evL, reduceIte, decide_true]
      rw [← c1]
      exact ldB hb6 fa_71_1 l1_3 rfl (psh (.inl c1))
    simp only [c1, evL, reduceIte, Bool.false_eq_true, decide_false]
    refine ldB hb6 fa_71_0 l1_3 rfl (V_eqlI.2 ?_)
    by_cases c2 : (m.ins pc).op = 24
    · simp only [c2, evL, decide_true]
      rw [← c2]
      exact ldB hb6 fa_71_1 l1_3 rfl (psh (.inr c2))
    simp only [c2, evL, decide_false]
    refine ⟨?_, hb6⟩
    have hA0 : A = [] := by rw [hA, if_neg (by simp [c1, c2])]
    rw [hA0, List.append_nil]; exact M6
  rintro v7 w7 ⟨M7, hb7⟩ _
  refine ldB hb7 fa_71_0 l1_3 rfl (V_neqI.2 ?_)
  have hl2a : (l2 ++ A).length ≤ 100000 := by rw [List.length_append]; omega
  by_cases c1 : (m.ins pc).op = 23
  · simp only [c1, evL, not_true_eq_false, ne_eq, reduceIte, Bool.false_eq_true, decide_false]
    refine fin2 ?_
    have hC0 : C = [] := by rw [hC, if_neg (by simp [c1])]
    rw [hC0, List.append_nil]; exact M7
  simp only [c1, evL, not_false_eq_true, ne_eq, reduceIte, decide_true]
  refine ldB hb7 fa_71_0 l1_3 rfl (V_neqI.2 ?_)
  by_cases c2 : (m.ins pc).op = 39
  · simp only [c2, evL, not_true_eq_false, ne_eq, decide_false]
    refine fin2 ?_
    have hC0 : C = [] := by rw [hC, if_neg (by simp [c2])]
    rw [hC0, List.append_nil]; exact M7
  simp only [c2, evL, not_false_eq_true, ne_eq, decide_true]
  refine V_add.2 ?_
  rw [wrap_id (by omega) (by omega)]
  refine M7.push hl2a fun v8 w8 M8 _ => fin2 ?_
  have hC1 : C = [(pc : Int) + 1] := by rw [hC, if_pos ⟨c1, c2⟩]
  rw [hC1]; exact M8
end Go.Proofs.YtcdbikfnlggbnaaGreatDoor
namespace Go.Proofs.YtcdbikfnlggbnaaGreatDoor
open Go.Vc Go.Tc
variable {w : World} {K : Value → World → Prop}
/-- The nodes and the starts, up to a pc. -/
def liftK (i : Img) (m : Mth) (st : St) (r : List Bool) : Nat → List GNode × List Int
  | 0 => ((List.range m.locals.length).map fun (j : Nat) => GNode.const ((m.params.length : Int) + ((j : Nat) : Int)) 0, [])
  | k + 1 =>
    let p := liftK i m st r k
    if r.getD k false then (p.1 ++ .tick :: (liftN i m (m.ins k) (st.s k).length).toList, p.2 ++ [(p.1.length : Int)]) else (p.1, p.2 ++ [-1])
def liftP (i : Img) (m : Mth) (st : St) (r : List Bool) : List GNode := let p := liftK i m st r m.code.length; p.1.map (aimN p.2)
/-- A node in a row: its arguments lie aside from two rows' blocks. -/
def NodeAt (g : Nat) (nv tv : Value) (w : World) (u : Value) (n : GNode) : Prop := ∃ sv, u = n.val sv ∧ w.ownsRow (g + 1) 3 1 sv n.args.length (n.args.map i64) ∧ ∀ q, sv.ownBlock = some q → nv.ownBlock ≠ some q ∧ tv.ownBlock ≠ some q
/-- A program under way: block g, its nodes and its starts in rows of the call's own. -/
structure Lp (g : Nat) (np : Int) (nv tv : Value) (w : World) (N : List GNode) (T : List Int) : Prop where
  blk : Blk w g [i64 np, i64 18, nv] 38
  row : ∃ xs : List Value, w.ownsRow (g + 1) 52 1 nv N.length xs ∧ ∀ (k : Nat) n, N[k]? = some n → ∃ u, xs[k]? = some u ∧ NodeAt g nv tv w u n
  st : w.ownsRow (g + 1) 3 1 tv T.length (T.map i64)
  ne : ∀ q, nv.ownBlock = some q → tv.ownBlock ≠ some q
theorem Lp.ext {g : Nat} {np : Int} {nv tv : Value} {w' : World} {N : List GNode} {T : List Int} (h : Lp g np nv tv w N T) (hx : Ext w w') : Lp g np nv tv w' N T := by
  obtain ⟨h1, ⟨xs, h2, h3⟩, h8, h9⟩ := h
  refine ⟨h1.ext hx, ⟨xs, hx.own h2, fun k n hk => ?_⟩, hx.own h8, h9⟩
  obtain ⟨u, h4, sv, h5, h6, h7⟩ := h3 k n hk
  exact ⟨u, h4, sv, h5, hx.own h6, h7⟩
theorem val_one (n : GNode) (sv : Value) : oneC (n.val sv) = true := by cases n <;> rfl
theorem Lp.nodes {g : Nat} {np : Int} {nv tv : Value} {N : List GNode} {T : List Int} (h : Lp g np nv tv w N T) : NodesAre w nv N := by
  obtain ⟨_, ⟨xs, h2, h3⟩, _, _⟩ := h
  refine ⟨xs, SliceIs.of_own h2, fun k n hk => ?_⟩
  obtain ⟨u, h4, sv, h5, h6, _⟩ := h3 k n hk
  exact ⟨u, h4, sv, h5, SliceIs.of_own h6⟩
/-- A start more. -/
theorem Lp.start {g : Nat} {np : Int} {nv tv : Value} {N : List GNode} {T : List Int} {t : Int} (h : Lp g np nv tv w N T) (hT : T.length ≤ 100000) (hk : ∀ tv' w', Lp g np nv tv' w' N (T ++ [t]) → Fr (fun k => tv.ownBlock = some k) w w' → (∀ q, tv'.ownBlock = some q → tv.ownBlock = some q ∨ w.heap.size ≤ q) → K tv' w') :
    V Tryz.prog (Instr.buildSlice 23 1 #[(0, i64 t)]) w fun u w1 => V Tryz.prog (Builtin.append_ #[23, 23] 23 #[tv, u]) w1 K := by
  obtain ⟨hB, ⟨xs, ho, hxs⟩, hst, hne⟩ := h
  have hg := hB.lt
  refine bsl xe_23 [i64 t] rfl rfl (by simp) rfl fun u w1 ho1 x1 => ?_
  have s1 := x1.size
  refine apS xe_23 (x1.own hst) (SliceIs.of_own ho1) rfl (by omega) (by unfold maxLen; omega) (by omega) fun tv' w2 ho2 hg2 hl2 => ?_
  have hlo : ∀ k, tv.ownBlock = some k → g + 1 ≤ k := fun k hk => (hst.lt k hk).1
  have f2 : Fr (fun k => tv.ownBlock = some k) w1 w2 := Fr.of_grown hg2 fun k hk => hk
  refine hk tv' w2 ⟨f2.blk (hB.ext x1) fun hk => by have := hlo _ hk; omega, ⟨xs, f2.own (x1.own ho) fun k hk hS => hne k hk hS, fun k n hk => ?_⟩, by simpa using ho2, fun q hq hq' => ?_⟩ ((Fr.of_ext x1).trans f2 fun _ _ h => h) (fun q hq => by
      rcases hl2 with h2 | h2
      · rw [h2] at hq; exact .inl hq
      · rw [h2] at hq; cases hq; exact .inr (by omega))
  · obtain ⟨u, h4, sv, h5, h6, h7⟩ := hxs k n hk
    refine ⟨u, h4, sv, h5, f2.own (x1.own h6) fun q hq hS => (h7 q hq).2 hS, fun q hq => ⟨(h7 q hq).1, fun hq' => ?_⟩⟩
    rcases hl2 with h2 | h2
    · rw [h2] at hq'; exact (h7 q hq).2 hq'
    · rw [h2] at hq'; cases hq'; have := (h6.lt _ hq).2; omega
  · rcases hl2 with h2 | h2
    · rw [h2] at hq'; exact hne q hq hq'
    · rw [h2] at hq'; cases hq'; have := (ho.lt _ hq).2; omega
/-- A node more. -/
theorem Lp.push {g : Nat} {np : Int} {nv tv u : Value} {N : List GNode} {T : List Int} {n : GNode} {K' : World → Prop} (h : Lp g np nv tv w N T) (hu : NodeAt g nv tv w u n) (hN : N.length ≤ 100000) (hk : ∀ nv' w', Lp g np nv' tv w' (N ++ [n]) T → Fr (fun k => k = g ∨ nv.ownBlock = some k) w w' → (∀ q, nv'.ownBlock = some q → nv.ownBlock = some q ∨ w.heap.size ≤ q) → K' w') :
    V Tryz.prog (Instr.buildSlice 36 1 #[(0, u)]) w fun t w1 => V Tryz.prog (Builtin.append_ #[36, 36] 36 #[nv, t]) w1 fun t2 w2 => V Tryz.prog (Instr.fieldAt 38 (.pointer (some ⟨g, 0, none⟩)) 2) w2 fun q w3 => U Tryz.prog (Instr.storeAt 36 q t2) w3 fun _ w4 => K' w4 := by
  obtain ⟨sv, rfl, hso, hsn⟩ := hu
  obtain ⟨hB, ⟨xs, ho, hxs⟩, hst, hne⟩ := h
  have hg := hB.lt
  refine bsl xe_36 [n.val sv] rfl rfl (by simp) (by simp [val_one]) fun t w1 ho1 x1 => ?_
  have s1 := x1.size
  refine apS xe_36 (x1.own ho) (SliceIs.of_own ho1) (by simp [val_one]) (by omega) (by unfold maxLen; omega) (by omega) fun nv' w2 ho2 hg2 hl2 => ?_
  have hlo : ∀ k, nv.ownBlock = some k → g + 1 ≤ k := fun k hk => (ho.lt k hk).1
  have f2 : Fr (fun k => nv.ownBlock = some k) w1 w2 := Fr.of_grown hg2 fun k hk => hk
  have hB2 := f2.blk (hB.ext x1) fun hk => by have := hlo _ hk; omega
  refine stF fa_38_2 inf36 hB2 (n := 3) rfl (by decide) (own_one ho2) ?_
  have f3 : Fr (fun k => k = g) w2 (w2.setCell ⟨g, 2, none⟩ nv') := Fr.of_set rfl
  have hB3 := hB2.set 2 nv'
  generalize w2.setCell ⟨g, 2, none⟩ nv' = w3 at f3 hB3
  have fresh : ∀ {q : Nat}, q < w.heap.size → nv.ownBlock ≠ some q → nv'.ownBlock ≠ some q := fun hlt hb hq' => by
    rcases hl2 with h2 | h2
    · rw [h2] at hq'; exact hb hq'
    · rw [h2] at hq'; cases hq'; omega
  have keep0 : ∀ {sv : Value} {l : List Int}, w.ownsRow (g + 1) 3 1 sv l.length (l.map i64) → (∀ q, sv.ownBlock = some q → nv.ownBlock ≠ some q) → w3.ownsRow (g + 1) 3 1 sv l.length (l.map i64) := fun ha hb =>
    f3.own (f2.own (x1.own ha) fun k hk hS => hb k hk hS) fun k hk hS => by have := (ha.lt k hk).1; have hS : k = g := hS; omega
  have keep : ∀ {sv : Value} {l : List Int}, w.ownsRow (g + 1) 3 1 sv l.length (l.map i64) → (∀ q, sv.ownBlock = some q → nv.ownBlock ≠ some q ∧ tv.ownBlock ≠ some q) → w3.ownsRow (g + 1) 3 1 sv l.length (l.map i64) ∧ ∀ q, sv.ownBlock = some q → nv'.ownBlock ≠ some q ∧ tv.ownBlock ≠ some q := fun ha hb =>
    ⟨keep0 ha fun q hq => (hb q hq).1, fun q hq => ⟨fresh (ha.lt q hq).2 (hb q hq).1, (hb q hq).2⟩⟩
  refine hk nv' w3 ⟨hB3, ⟨xs ++ [n.val sv], ?_, fun k y hy => ?_⟩, keep0 hst fun q hq hq' => hne q hq' hq, fun q hq hq' => fresh (hst.lt q hq').2 (fun h => hne q h hq') hq⟩ (((Fr.of_ext x1).trans (f2.mono fun k hk => .inr hk) fun _ _ h => h).trans (f3.mono fun k hk => .inl hk) fun _ _ h => h) (fun q hq => by
      rcases hl2 with h2 | h2
      · rw [h2] at hq; exact .inl hq
      · rw [h2] at hq; cases hq; exact .inr (by omega))
  · rw [List.length_append]
    exact f3.own ho2 fun k hk hS => by have := (ho2.lt k hk).1; have hS : k = g := hS; omega
  · rw [List.getElem?_append] at hy ⊢
    have hxl : xs.length = N.length := by have := ho.1; omega
    split at hy
    · rename_i hlt
      obtain ⟨u, h4, sv2, h5, h6, h7⟩ := hxs k y hy
      rw [if_pos (by omega)]
      obtain ⟨k1, k2⟩ := keep h6 h7
      exact ⟨u, h4, sv2, h5, k1, k2⟩
    · rename_i hge
      rw [if_neg (by omega), hxl]
      have hk0 : k - N.length = 0 := by
        have := (List.getElem?_eq_some_iff.1 hy).1
        simpa using this
      rw [hk0] at hy ⊢
      cases hy
      obtain ⟨k1, k2⟩ := keep hso hsn
      exact ⟨n.val sv, rfl, sv, rfl, k1, k2⟩
end Go.Proofs.YtcdbikfnlggbnaaGreatDoor
namespace Go.Proofs.YtcdbikfnlggbnaaGreatDoor
open Go.Vc Go.Tc
variable {w : World} {K : Value → World → Prop}
theorem Lp.set {g : Nat} {np : Int} {gn c j : Nat} {tv u : Value} {N : List GNode} {T : List Int} {n : GNode} {K' : World → Prop} (h : Lp g np (.slice (some ⟨gn, 0, none⟩) N.length c) tv w N T) (hj : j < N.length) (hu : NodeAt g (.slice (some ⟨gn, 0, none⟩) N.length c) tv w u n)
    (hk : ∀ w', Lp g np (.slice (some ⟨gn, 0, none⟩) (N.set j n).length c) tv w' (N.set j n) T → Fr (fun k => k = gn) w w' → K' w') : U Tryz.prog (Instr.storeAt 52 (.pointer (some ⟨gn, 0 + j * 1, none⟩)) u) w fun _ w2 => K' w2 := by
  obtain ⟨sv, rfl, hso, hsn⟩ := hu
  obtain ⟨hB, ⟨xs, ho, hxs⟩, hst, hne⟩ := h
  have hgn := ho.lt gn rfl
  have hxl : xs.length = N.length := by have := ho.1; omega
  refine stY inf52 ho hj (val_one _ _) fun w' ho' hg' => ?_
  have f : Fr (fun k => k = gn) w w' := Fr.of_grown hg' fun k hk => by cases hk; rfl
  have keep : ∀ {sv : Value} {l : List Int}, w.ownsRow (g + 1) 3 1 sv l.length (l.map i64) → (∀ q, sv.ownBlock = some q → gn ≠ q) → w'.ownsRow (g + 1) 3 1 sv l.length (l.map i64) := fun ha hb => f.own ha fun k hk hS => hb k hk hS.symm
  have hne' : ∀ {v : Value} {q : Nat}, (Value.slice (some ⟨gn, 0, none⟩) N.length c).ownBlock ≠ some q → gn ≠ q := fun h e => h (by rw [e]; rfl)
  refine hk w' ⟨by rw [List.length_set]; exact f.blk hB (by omega), ⟨xs.set j (n.val sv), by rw [List.length_set]; exact ho', fun k y hy => ?_⟩, keep hst fun q hq e => hne gn rfl (by rw [e]; exact hq), by rw [List.length_set]; exact hne⟩ f
  rw [List.length_set]
  rw [List.getElem?_set] at hy ⊢
  by_cases hkj : j = k
  · subst hkj
    rw [if_pos rfl, if_pos hj] at hy
    rw [if_pos rfl, if_pos (by omega)]
    cases hy
    exact ⟨_, rfl, sv, rfl, keep hso fun q hq => hne' (v := sv) (hsn q hq).1, hsn⟩
  · rw [if_neg hkj] at hy ⊢
    obtain ⟨u2, h4, sv2, h5, h6, h7⟩ := hxs k y hy
    exact ⟨u2, h4, sv2, h5, keep h6 fun q hq => hne' (v := sv2) (h7 q hq).1, h7⟩
theorem liftN_aim {i : Img} {m : Mth} {x : Ins} {h pc : Nat} {n : GNode} {T : List Int} (hn : liftN i m x h = some n) (hT : ∀ to ∈ nextS x pc, 0 ≤ to ∧ to < T.length) : aimOk T n := by
  by_cases c1 : x.op = 23
  · have : n = .goto x.a := by simp [liftN, c1] at hn; exact hn.symm
    subst this
    exact hT x.a (by simp [nextS, c1])
  by_cases c2 : x.op = 24
  · have : n = .branch (10 + ((h : Int) - 1)) x.a := by simp [liftN, c2] at hn; exact hn.symm
    subst this
    exact hT x.a (by simp [nextS, c2])
  unfold liftN at hn
  by_cases d0 : x.op = 1
  · rw [if_pos d0] at hn; cases hn; trivial
  rw [if_neg d0] at hn
  by_cases d1 : x.op = 2
  · rw [if_pos d1] at hn; cases hn; trivial
  rw [if_neg d1] at hn
  by_cases d2 : x.op = 3
  · rw [if_pos d2] at hn; cases hn; trivial
  rw [if_neg d2] at hn
  by_cases d3 : x.op = 4
  · rw [if_pos d3] at hn; cases hn
  rw [if_neg d3] at hn
  by_cases d4 : x.op = 5
  · rw [if_pos d4] at hn; cases hn; trivial
  rw [if_neg d4] at hn
  by_cases d5 : x.op = 15 ∨ x.op = 16 ∨ x.op = 26
  · rw [if_pos d5] at hn; cases hn; trivial
  rw [if_neg d5] at hn
  by_cases d6 : x.op = 22
  · rw [if_pos d6] at hn; cases hn; trivial
  rw [if_neg d6] at hn
  rw [if_neg c1] at hn
  rw [if_neg c2] at hn
  by_cases d9 : x.op = 25
  · rw [if_pos d9] at hn; cases hn; trivial
  rw [if_neg d9] at hn
  by_cases d10 : x.op = 35
  · rw [if_pos d10] at hn; cases hn; trivial
  rw [if_neg d10] at hn
  by_cases d11 : x.op = 33
  · rw [if_pos d11] at hn; cases hn; trivial
  rw [if_neg d11] at hn
  by_cases d12 : x.op = 34
  · rw [if_pos d12] at hn; cases hn; trivial
  rw [if_neg d12] at hn
  by_cases d13 : x.op = 37
  · rw [if_pos d13] at hn; cases hn; trivial
  rw [if_neg d13] at hn
  by_cases d14 : x.op = 38
  · rw [if_pos d14] at hn; cases hn; trivial
  rw [if_neg d14] at hn
  by_cases d15 : x.op = 39
  · rw [if_pos d15] at hn; cases hn; trivial
  rw [if_neg d15] at hn
  by_cases d16 : (srvP x.op).1 ≠ 0
  · rw [if_pos d16] at hn; cases hn; trivial
  rw [if_neg d16] at hn
  cases hn
  trivial
theorem liftK_aim {i : Img} {m : Mth} {st : St} {r : List Bool} {T : List Int} (hT : T.length = m.code.length) (hled : ∀ k, st.h k = true → Led i m st k) (hr : ∀ k, r.getD k false = true → st.h k = true) : ∀ (k : Nat) (n : GNode), n ∈ (liftK i m st r k).1 → aimOk T n
  | 0, n, h => by
    simp only [liftK, List.mem_map] at h
    obtain ⟨j, _, rfl⟩ := h
    trivial
  | k + 1, n, h => by
    have ih := liftK_aim hT hled hr k
    cases hk : r.getD k false with
    | false =>
      have e : (liftK i m st r (k + 1)).1 = (liftK i m st r k).1 := by simp only [liftK, hk]; rfl
      rw [e] at h
      exact ih n h
    | true =>
      have e : (liftK i m st r (k + 1)).1 = (liftK i m st r k).1 ++ .tick :: (liftN i m (m.ins k) (st.s k).length).toList := by simp only [liftK, hk]; rfl
      rw [e] at h
      rcases List.mem_append.1 h with h | h
      · exact ih n h
      · rcases List.mem_cons.1 h with h | h
        · subst h; trivial
        · obtain ⟨out, _, hto⟩ := hled k (hr k hk)
          refine liftN_aim (pc := k) (by simpa using h) fun to ht => ?_
          obtain ⟨q1, q2, _⟩ := hto to ht
          exact ⟨q1, by rw [hT]; exact q2⟩
end Go.Proofs.YtcdbikfnlggbnaaGreatDoor
namespace Go.Proofs.YtcdbikfnlggbnaaGreatDoor
open Go.Vc Go.Tc
variable {w : World} {K : Value → World → Prop}
theorem val_neq {n : GNode} {sv : Value} {x y : Operand} {R : Value → World → Prop} (hk : R (.bool true) w) : V Tryz.prog (do eqGuard .neq 52 x y (n.val sv) Value.nilIface; binOp .neq 52 (n.val sv) Value.nilIface) w R := by
  cases n <;> exact V.ok (r_neqNilIface Tryz.underlying52) hk
set_option maxHeartbeats 4000000 in
theorem lift12 {p : ImgV} {i : Img} {k : Int} (h : ImgAt w p i) (hn : NamesOk w i) (hrg : i.rg)
    (yes : ∀ st r nv sv w', Taken i → 0 ≤ k → k < i.methods.length → Walk i (i.meth k) (some st) → Rch i (i.meth k) st [] r → NodesAre w' nv (liftP i (i.meth k) st r) → IntsAre w' sv (liftK i (i.meth k) st r (i.meth k).code.length).2 → Ext w w' → K (.tuple #[.agg #[i64 (i.meth k).params.length, i64 18, nv], sv, .bool true]) w')
    (no : ∀ w', ¬ (Taken i ∧ 0 ≤ k ∧ k < i.methods.length) → Ext w w' → K (.tuple #[.agg #[i64 0, i64 0, nilS], nilS, .bool false]) w') : callD Tryz.prog 12 #[p.val i, i64 k] w K := by
  apply F12_wp
  unfold F12_den ImgV.val
  refine bx fun b2 w1 hb2 x1 => ?_
  have hb2 : Boxed w1 b2 [.string i.name, p.fv, p.iv, p.mv, p.xv] := hb2
  refine alK inf38 fun w2 hB4 x2 => ?_
  have hB4 : Blk w2 w1.heap.size [i64 0, i64 0, nilS] 38 := hB4
  have x02 := x1.trans x2
  have hg4 := x1.size
  have hb2 := hb2.ext x2
  generalize w1.heap.size = g4 at hB4 hg4
  refine ldA hb2 la_27 rfl ?_
  refine states29 (p := p) (i := i) (h.ext x02) (hn.ext x02) hrg (fun st sv w3 ht h0 hkl hw hst x3 => ?_) fun w3 hne x3 => ?_
  case refine_2 =>
    refine V_ext0.2 (V_ext1.2 (V_not.2 ?_))
    simp only [evL, Int.reduceNeg, Bool.not_false]
    refine bld bd_38 [] rfl rfl ?_
    refine stA inf38 (hB4.ext x3) (l := [i64 0, i64 0, nilS]) rfl rfl rfl rfl fun w4 hB hc => ?_
    exact ⟨_, r_var Tryz.underlying38 rfl inf38 hB rfl, ⟨_, rfl⟩, no w4 hne (hc.ext _ (x02.trans x3) hg4)⟩
  refine V_ext0.2 (V_ext1.2 (V_not.2 ?_))
  simp only [evL, Int.reduceNeg, Bool.not_true]
  obtain ⟨kn, rfl⟩ : ∃ q : Nat, k = q := ⟨k.toNat, by omega⟩
  have hmi := meth_get (i := i) (a := (kn : Int)) (by omega) (by omega)
  rw [Int.toNat_natCast] at hmi
  have ir := ht.1
  have mr : (i.meth kn).right := ir.2.2.1.2.1 _ (List.mem_of_getElem? hmi)
  obtain ⟨hox, hwf, hh0, hs0, hled⟩ := hw.led ir mr
  have x03 := x02.trans x3
  have hb3 := hb2.ext x3
  refine ldB hb3 fa_27_3 l1_25 rfl ?_
  refine ldS xa_25 la_47 (h.ext x03).mt hmi mth_len fun row hrow => ?_
  generalize hmm : i.meth kn = m at *
  have hrow0 := hrow
  obtain ⟨pv, lv, cv, rfl, hp, hl, hc⟩ := hrow
  have hone : ([pv, i64 m.result, lv, cv] : List Value).all oneC = true := by
    obtain ⟨a1, c1, rfl⟩ := hp.shape
    obtain ⟨a2, c2, rfl⟩ := hl.shape
    obtain ⟨a3, c3, rfl⟩ := SliceIs.shape hc
    rfl
  refine asB sa_47 rfl hone fun b9 w4 hb9 x4 => ?_
  have hb9 : Boxed w4 b9 [pv, i64 m.result, lv, cv] := hb9
  have hp4 := hp.ext x4
  refine ldB hb9 fa_47_0 l1_23 rfl (lnx xa_23 hp4 ?_)
  refine bld bd_38 [(0, i64 m.params.length), (1, i64 18)] rfl rfl ?_
  refine asK sa_38 rfl rfl fun w5 hB5 x5 => ?_
  have hB5 : Blk w5 w4.heap.size [i64 m.params.length, i64 18, nilS] 38 := hB5
  have hg4' : g4 < w4.heap.size := by have := hB4.lt; have := x3.size; have := x4.size; omega
  have hb9' := hb9.ext x5
  refine ldB hb9' fa_47_2 l1_23 rfl (lnx xa_23 ((hl.ext x4).ext x5) ?_)
  have hL0 : Lp w4.heap.size m.params.length nilS nilS w5 [] [] := ⟨hB5, ⟨[], World.ownsRow_nil _ _ _ _, fun k n hk => by simp at hk⟩, World.ownsRow_nil _ _ _ _, fun q hq => by cases hq⟩
  have x04 := x03.trans x4
  have hgx := hB5.lt
  generalize hgg : w4.heap.size = g at *
  have pl := mr.1.2
  have ll := mr.2.2.1.2
  -- the locals
  refine ⟨fun v w' => ∃ (j : Nat) (nv : Value), v = i64 j ∧ j ≤ m.locals.length ∧ Ext w4 w' ∧ Lp g m.params.length nv nilS w' ((List.range j).map fun (j : Nat) => GNode.const ((m.params.length : Int) + ((j : Nat) : Int)) 0) [], fun v _ => m.locals.length - (RowKit.intOf v).toNat, ⟨0, nilS, rfl, Nat.zero_le _, x5, hL0⟩, ?_⟩
  clear hL0 hB5
  rintro _ w6 ⟨j, nv, rfl, hj, x6, hL⟩ _
  refine V_lss.2 (ifD_dec (fun hlt => ?_) fun hge => ?_)
  · refine ldB (Blk.boxed hL.blk) fa_38_2 l1_36 rfl ?_
    refine ldB (hb9.ext x6) fa_47_0 l1_23 rfl (lnx xa_23 (hp4.ext x6) (V_add.2 ?_))
    rw [wrap_id (by omega) (by omega)]
    refine bld bd_84 [(0, i64 ((m.params.length : Int) + (j : Int)))] rfl rfl (mki mi_84 ?_)
    refine hL.push (n := .const ((m.params.length : Int) + (j : Int)) 0) ⟨nilS, rfl, World.ownsRow_nil _ _ _ _, fun q hq => by cases hq⟩ (by simp; omega) fun nv' w7 hL7 f7 _ => V_add.2 ?_
    rw [wrap_id (by omega) (by omega), i64_succ]
    have hnv : ∀ q, nv.ownBlock = some q → g + 1 ≤ q := fun q hq => by obtain ⟨xs, ho, _⟩ := hL.row; exact (ho.lt q hq).1
    refine ⟨⟨j + 1, nv', rfl, by omega, f7.ext x6 fun q hq => ?_, ?_⟩, by simp only [intOf_i64]; omega⟩
    · rcases hq with hq | hq
      · omega
      · have := hnv q hq; omega
    · rw [List.range_succ, List.map_append]; exact hL7
  have hjl : j = m.locals.length := by omega
  subst hjl
  have hn1 := mr.2.2.2.1.1; have hn2 := mr.2.2.2.1.2
  refine ldA (hb9.ext x6) la_47 rfl ?_
  refine reached30 (i := i) (m := m) (st := st) (row := [pv, i64 m.result, lv, cv]) ((hrow0.ext x4).ext x6) hn1 (by omega) hh0 hled hwf fun gr r w7 hBr hgr R x7 => ?_
  have x47 := x6.trans x7
  refine ldB (hb9.ext x47) fa_47_3 l1_45 rfl (lnx xa_45 ((hc.ext x4).ext x47) ?_)
  have hnvb : ∀ q, nv.ownBlock = some q → q ≠ gr := fun q hq => by obtain ⟨xs, ho, _⟩ := hL.row; have := (ho.lt q hq).2; omega
  have hgg6 : g < w6.heap.size := hL.blk.lt
  have hgrg : gr ≠ g := by omega
  -- the nodes
  refine ⟨fun tv v w' => ∃ (j : Nat) (nv : Value), v = i64 j ∧ j ≤ m.code.length ∧ Ext w4 w' ∧ Lp g m.params.length nv tv w' (liftK i m st r j).1 (liftK i m st r j).2 ∧ (liftK i m st r j).1.length ≤ 10 + 2 * j ∧ (liftK i m st r j).2.length = j ∧ Blk w' gr (r.map .bool) 4 ∧ ∀ q, nv.ownBlock = some q ∨ tv.ownBlock = some q → q ≠ gr,
    fun _ v _ => m.code.length - (RowKit.intOf v).toNat, ⟨0, nv, rfl, Nat.zero_le _, x47, hL.ext x7, by simp [liftK]; omega, rfl, hBr, fun q hq => ?_⟩, ?_⟩
  · rcases hq with hq | hq
    · exact hnvb q hq
    · cases hq
  clear hL hBr hnvb
  rintro tv _ w8 ⟨j, nv, rfl, hj, x8, hL, hNl, hTl, hBr, hgb⟩ _
  refine V_lss.2 (ifD_dec (fun hlt => ?_) fun hge => ?_)
  · have hj' : j < m.code.length := by omega
    have hxi := insC_mem (m := m) (k := j) hj'
    have ox := hox _ (List.mem_of_getElem? hxi)
    refine ldI ((hc.ext x4).ext x8) hxi ?_
    refine asK sa_71 rfl rfl fun w9 hB15 x9 => ?_
    have hB15 : Blk w9 w8.heap.size [i64 (m.ins j).op, i64 (m.ins j).a, i64 (m.ins j).b] 71 := hB15
    have hnv8 : ∀ q, nv.ownBlock = some q → q < w8.heap.size := fun q hq => by obtain ⟨xs, ho, _⟩ := hL.row; exact (ho.lt q hq).2
    have htv8 : ∀ q, tv.ownBlock = some q → q < w8.heap.size := fun q hq => (hL.st.lt q hq).2
    have hg8 : g < w8.heap.size := hL.blk.lt
    have x49 := x8.trans x9
    have hL9 := hL.ext x9
    have hB9 := hBr.ext x9
    have hrl := R.rl
    have hsl : SliceIs w9 (.slice (some ⟨gr, 0, none⟩) m.code.length m.code.length) 1 m.code.length (r.map .bool) := hB9.slice (by simpa using hrl) (by unfold maxLen; omega)
    refine ldx xa_78 l1_4 hsl (by omega) (by omega) (getB' (by omega)) (V_not.2 ?_)
    have hlo : ∀ q, nv.ownBlock = some q ∨ tv.ownBlock = some q → g + 1 ≤ q := fun q hq => by
      rcases hq with hq | hq
      · obtain ⟨xs, ho, _⟩ := hL.row; exact (ho.lt q hq).1
      · exact (hL.st.lt q hq).1
    cases hrj : r.getD j false with
    | false =>
      simp only [evL, Int.reduceNeg, ne_eq, Bool.not_false]
      refine hL9.start (by omega) fun tv' w10 hL10 f10 q10 => V_add.2 ?_
      rw [wrap_id (by omega) (by omega), i64_succ]
      have hK : liftK i m st r (j + 1) = ((liftK i m st r j).1, (liftK i m st r j).2 ++ [-1]) := by simp only [liftK, hrj]; rfl
      refine ⟨⟨j + 1, nv, rfl, by omega, f10.ext x49 fun q hq => ?_, by rw [hK]; exact hL10, by rw [hK]; dsimp only; omega, by rw [hK]; simp [hTl], f10.blk hB9 fun hq => hgb gr (.inr hq) rfl, fun q hq => ?_⟩, by simp only [intOf_i64]; omega⟩
      · have := hlo q (.inr hq); omega
      · have hs9 := hB9.lt
        rcases hq with hq | hq
        · exact hgb q (.inl hq)
        · rcases q10 q hq with h10 | h10
          · exact hgb q (.inr h10)
          · omega
    | true =>
      simp only [evL, Int.reduceNeg, ne_eq, Bool.not_true]
      have hh := R.rs j hrj
      obtain ⟨out, hdo, _⟩ := hled j hh
      obtain ⟨hkd, hl8⟩ := hwf.kd j hh
      obtain ⟨_, _, hask, _⟩ := doS_ok ox hkd hdo
      refine ldB (Blk.boxed hL9.blk) fa_38_2 l1_36 rfl ?_
      have hnl : ∀ {nv tv w' N T}, Lp g m.params.length nv tv w' N T → ∃ vs, SliceIs w' nv 1 N.length vs := fun h => by obtain ⟨vs, h1, _⟩ := h.nodes; exact ⟨vs, h1⟩
      obtain ⟨nvs, hnvs⟩ := hnl hL9
      refine lnx xa_36 hnvs ?_
      refine hL9.start (by omega) fun tv' w10 hL10 f10 q10 => ?_
      have x10 : Ext w4 w10 := f10.ext x49 fun q hq => by have := hlo q (.inr hq); omega
      have hB10 := f10.blk hB9 fun hq => hgb gr (.inr hq) rfl
      refine ldB (Blk.boxed hL10.blk) fa_38_2 l1_36 rfl ?_
      refine bld bd_49 [] rfl rfl (mki mi_49 ?_)
      refine hL10.push (n := .tick) ⟨nilS, rfl, World.ownsRow_nil _ _ _ _, fun q hq => by cases hq⟩ (by omega) fun nv' w11 hL11 f11 q11 => ?_
      have hgw : w4.heap.size = g := hgg
      have x11 : Ext w4 w11 := f11.ext x10 fun q hq => by
        rcases hq with hq | hq
        · omega
        · have := hlo q (.inl hq); omega
      have hB11 := f11.blk hB10 fun hq => by
        rcases hq with hq | hq
        · exact hgrg hq
        · exact hgb gr (.inl hq) rfl
      have hB15' := f11.blk (f10.blk hB15 fun hq => by have := htv8 _ hq; omega) fun hq => by
        rcases hq with hq | hq
        · omega
        · have := hnv8 _ hq; omega
      have D1 : Ext w11 w11.drew := (Ext.refl _).drew
      have x1D := x11.trans D1
      obtain ⟨svs, hsv1, hsv2⟩ := (hst.ext x4).ext x1D
      have hstl : st.st.length = m.code.length := hwf.l1
      obtain ⟨su, hsu, hsi⟩ := hsv2 j (by omega)
      refine drawD.mk' (fun w' => Ext w11.drew w') (Ext.refl _) ?_
      refine yA (fun w' hx => ((hb3.ext x4).ext x1D).ext hx) la_27 rfl ?_
      refine yA (fun w' hx => (hb9.ext x1D).ext hx) la_47 rfl ?_
      refine yA (fun w' hx => (Blk.boxed (hB15'.ext D1)).ext hx) la_71 rfl ?_
      refine ySl xa_77 l1_23 hsv1 (fun _ h => h) (by omega) (by omega) (by simpa using hsu) ?_
      refine yLen xa_23 hsi ?_
      refine node31 (p := p) (i := i) (m := m) (x := m.ins j) (row := [pv, i64 m.result, lv, cv]) ((h.ext (x03.trans x4)).ext x1D) ((hrow0.ext x4).ext x1D) ox hl8 hask fun v w12 hv x12 => ⟨x12, ?_⟩
      have x1E := x1D.trans x12
      have xDE := D1.trans x12
      have hL12 := hL11.ext xDE
      have hB12 := hB11.ext xDE
      have sD := D1.size
      have s12 := x12.size
      have hK : liftK i m st r (j + 1) = ((liftK i m st r j).1 ++ .tick :: (liftN i m (m.ins j) (st.s j).length).toList, (liftK i m st r j).2 ++ [((liftK i m st r j).1.length : Int)]) := by simp only [liftK, hrj]; rfl
      have hs9 := hB9.lt
      have hs10 := f10.size
      have hs11 := f11.size
      have hgb11 : ∀ q, nv'.ownBlock = some q ∨ tv'.ownBlock = some q → q ≠ gr := fun q hq => by
        rcases hq with hq | hq
        · rcases q11 q hq with h11 | h11
          · exact hgb q (.inl h11)
          · omega
        · rcases q10 q hq with h10 | h10
          · exact hgb q (.inr h10)
          · omega
      have hv : LN w11.drew.heap.size w12 v (liftN i m (m.ins j) (st.s j).length) := hv
      cases ho : liftN i m (m.ins j) (st.s j).length with
      | none =>
        rw [ho] at hv hK
        have hv : v = Value.nilIface := hv
        subst hv
        refine V.ok (r_neqNilNil Tryz.underlying52) (ifD_false.2 (V_add.2 ?_))
        rw [wrap_id (by omega) (by omega), i64_succ]
        exact ⟨⟨j + 1, nv', rfl, by omega, x1E, by rw [hK]; exact hL12, by rw [hK]; simp; omega, by rw [hK]; simp [hTl], hB12, hgb11⟩, by simp only [intOf_i64]; omega⟩
      | some n =>
        rw [ho] at hv hK
        obtain ⟨asv, rfl, hown⟩ := hv
        refine val_neq (ifD_true.2 ?_)
        refine ldB (Blk.boxed hL12.blk) fa_38_2 l1_36 rfl ?_
        have hnv11 : ∀ q, nv'.ownBlock = some q ∨ tv'.ownBlock = some q → q < w11.heap.size ∧ g + 1 ≤ q := fun q hq => by
          rcases hq with hq | hq
          · obtain ⟨xs, ho, _⟩ := hL11.row; have := ho.lt q hq; omega
          · have := hL11.st.lt q hq; omega
        have hg11 := hL11.blk.lt
        refine hL12.push (n := n) ⟨asv, rfl, own_mono hown (by omega), fun q hq => ⟨fun h => ?_, fun h => ?_⟩⟩ (by simp; omega) fun nv2 w13 hL13 f13 q13 => V_add.2 ?_
        · have := (hown.lt q hq).1; have := (hnv11 q (.inl h)).1; omega
        · have := (hown.lt q hq).1; have := (hnv11 q (.inr h)).1; omega
        rw [wrap_id (by omega) (by omega), i64_succ]
        refine ⟨⟨j + 1, nv2, rfl, by omega, f13.ext x1E fun q hq => ?_, by rw [hK]; simpa using hL13, by rw [hK]; simp; omega, by rw [hK]; simp [hTl], f13.blk hB12 fun hq => ?_, fun q hq => ?_⟩, by simp only [intOf_i64]; omega⟩
        · rcases hq with hq | hq
          · omega
          · have := (hnv11 q (.inl hq)).2; omega
        · rcases hq with hq | hq
          · exact hgrg hq
          · exact hgb11 gr (.inl hq) rfl
        · rcases hq with hq | hq
          · rcases q13 q hq with h13 | h13
            · exact hgb11 q (.inl h13)
            · have := hB12.lt; omega
          · exact hgb11 q (.inr hq)
  · have hjn : j = m.code.length := by omega
    subst hjn
    have haim : ∀ (q : Nat) y, (liftK i m st r m.code.length).1[q]? = some y → aimOk (liftK i m st r m.code.length).2 y := fun q y hy => liftK_aim hTl hled R.rs _ y (List.mem_of_getElem? hy)
    have eP : liftP i m st r = (liftK i m st r m.code.length).1.map (aimN (liftK i m st r m.code.length).2) := rfl
    generalize hNN : (liftK i m st r m.code.length).1 = N at *
    generalize hTT : (liftK i m st r m.code.length).2 = T at *
    refine ldB (Blk.boxed hL.blk) fa_38_2 l1_36 rfl ?_
    obtain ⟨nvs, hnvs, _⟩ := hL.nodes
    refine lnx xa_36 hnvs ?_
    refine ⟨fun v w' => ∃ (q : Nat) (M : List GNode), v = i64 q ∧ q ≤ N.length ∧ Ext w4 w' ∧ Lp g m.params.length nv tv w' M T ∧ M.length = N.length ∧ ∀ a : Nat, M[a]? = if a < q then (N[a]?).map (aimN T) else N[a]?, fun v _ => N.length - (RowKit.intOf v).toNat, ⟨0, N, rfl, Nat.zero_le _, x8, hL, rfl, fun a => by simp⟩, ?_⟩
    rintro _ w9 ⟨q, M, rfl, hq, x9, hM, hMl, hMa⟩ _
    refine V_lss.2 (ifD_dec (fun hlt => ?_) fun hge2 => ?_)
    · obtain ⟨xs, hox2, hxs⟩ := hM.row
      obtain ⟨y, hy⟩ := ex_get (l := N) (j := q) (by omega)
      have hyM : M[q]? = some y := by rw [hMa, if_neg (by omega)]; exact hy
      obtain ⟨u, hu, asv, rfl, has, hapart⟩ := hxs q y hyM
      obtain ⟨gn, cn, rfl⟩ : ∃ gn c, nv = .slice (some ⟨gn, 0, none⟩) M.length c := by
        rcases hox2.2 with ⟨_, e⟩ | ⟨g', c', _, rfl, _⟩
        · omega
        · exact ⟨g', c', rfl⟩
      refine ldx xa_36 l1_52 (SliceIs.of_own hox2) (by omega) (by omega) (by simpa using hu) ?_
      have D1 : Ext w9 w9.drew := (Ext.refl _).drew
      have hMd := hM.ext D1
      refine drawD.mk' (fun w' => Ext w9.drew w') (Ext.refl _) ?_
      refine yfB (fun w' hx => Blk.boxed (hMd.blk.ext hx)) fa_38_2 l1_36 rfl ?_
      refine aimed32 (SliceIs.of_own hMd.st) (haim q y hy) fun w10 x10 => ⟨x10, ?_⟩
      refine yieldS.ok (fun w' _ => r_index Tryz.underlying36 inf52 (by omega) (by omega)) ?_
      rw [Int.toNat_natCast]
      have hargs : (aimN T y).args = y.args := by cases y <;> rfl
      have hMl2 : (M.set q (aimN T y)).length = M.length := List.length_set
      have hgn := hox2.lt gn rfl
      refine (hMd.ext x10).set (n := aimN T y) (by omega) ⟨asv, rfl, by rw [hargs]; exact (D1.trans x10).own has, hapart⟩ fun w11 hM11 f11 => V_add.2 ?_
      rw [wrap_id (by omega) (by omega), i64_succ]
      rw [hMl2] at hM11
      refine ⟨⟨q + 1, M.set q (aimN T y), rfl, by omega, f11.ext (x9.trans (D1.trans x10)) fun k hk => by omega, hM11, by omega, fun a => ?_⟩, by simp only [intOf_i64]; omega⟩
      rw [List.getElem?_set]
      by_cases haq : q = a
      · subst haq
        rw [if_pos rfl, if_pos (by omega), if_pos (by omega), hy]; rfl
      · rw [if_neg haq, hMa]
        by_cases hlt2 : a < q
        · rw [if_pos hlt2, if_pos (by omega)]
        · rw [if_neg hlt2, if_neg (by omega)]
    · have hMe : M = liftP i m st r := by
        rw [eP]
        apply List.ext_getElem?
        intro a
        rw [hMa, List.getElem?_map]
        by_cases ha : a < q
        · rw [if_pos ha]
        · rw [if_neg ha, List.getElem?_eq_none (by omega)]; rfl
      have hB4E := ((hB4.ext x3).ext x4).ext x9
      obtain ⟨xs, hox2, hxs⟩ := hM.row
      refine ldA (Blk.boxed hM.blk) la_38 rfl ?_
      refine stA inf38 hB4E (l := [i64 m.params.length, i64 18, nv]) rfl rfl rfl (by simp [own_one hox2, one_i]) fun wE hBE hcE => ?_
      refine ⟨_, r_var Tryz.underlying38 rfl inf38 hBE rfl, ⟨_, rfl⟩, ?_⟩
      have fE := chg_fr hcE
      have kp : ∀ {e : TypeId} {v : Value} {n : Nat} {ys : List Value}, w9.ownsRow (g + 1) e 1 v n ys → wE.ownsRow (g + 1) e 1 v n ys := fun ho => fE.own ho fun k hk hS => by have := (ho.lt k hk).1; have hS : k = g4 := hS; omega
      refine yes st r nv tv wE ht h0 hkl hw R ?_ (by rw [hTT]; exact SliceIs.of_own (kp hM.st)) (hcE.ext _ (x04.trans x9) (by omega))
      rw [← hMe]
      refine ⟨xs, SliceIs.of_own (kp hox2), fun k y hy => ?_⟩
      obtain ⟨u, h4, asv, h5, h6, _⟩ := hxs k y hy
      exact ⟨u, h4, asv, h5, SliceIs.of_own (kp h6)⟩
end Go.Proofs.YtcdbikfnlggbnaaGreatDoor
namespace Go.Proofs.YtcdbikfnlggbnaaGreatDoor
open Go.Vc Go.Tc
variable {w : World}
set_option maxHeartbeats 2000000 in
theorem refuses3 {n a b e f : Int} {rv : Value} {rl : List Rw} (hr : RwsAre w rv rl) (hb : BinsOk w) (hT : Tabs w) (rn : rl.length ≤ 5000000000000) (known : ∀ {w}, Tabs w → callD Tryz.prog 13 #[] w fun v w' => v = .bool true ∧ Ext w w') :
    callD Tryz.prog 3 #[i64 n, rv, i64 a, i64 b, i64 e, i64 f] w fun v w' => v = .bool true ∧ Ext w w' := by
  apply F3_wp
  suffices key : ∀ R : Value → World → Prop, (∀ w', Ext w w' → R (.bool true) w') → F3_den (i64 n) rv (i64 a) (i64 b) (i64 e) (i64 f) w R from key _ fun _ hx => ⟨rfl, hx⟩
  intro R hR
  unfold F3_den
  refine apl9 hr hb hT rn fun p i w2 hst hc7 x2 => ?_
  refine pick10 (by decide) (by decide) fun _ _ _ => pick10 (by decide) (by decide) fun _ _ _ => ?_
  refine bent8 hst (hT.ext x2) x2.size hc7 fun p i w3 hst3 x3 => ?_
  have x03 := x2.trans x3
  have hA3 := hst3.now (hT.ext x03)
  refine asB sa_27 rfl hA3.one fun b4 w4 hb4 x4 => ?_
  have hb4 : Boxed w4 b4 (p.cells i) := hb4
  have x04 := x03.trans x4
  have hA4 := hA3.ext x4
  refine ldA hb4 la_27 rfl ?_
  refine verify11 (p := p) (i := i) hA4.at_ hA4.nm fun a b er w5 he x5 => ?_
  refine V_ext0.2 (V_ext1.2 ?_)
  refine asB sa_32 rfl rfl fun b6 w6 _ x6 => ?_
  have x46 := x5.trans x6
  have x06 := x04.trans x46
  have hA6 := hA4.ext x46
  have hb6 := hb4.ext x46
  refine pick10 (by decide) (by decide) fun q hq0 hq1 => ?_
  refine ldA hb6 la_27 rfl ?_
  refine lift12 (p := p) (i := i) hA6.at_ hA6.nm hA6.rg (fun st r nv sv w7 ht h0 hql _ _ hN hS x7 => ?_) fun w7 hne x7 => ?_
  · obtain ⟨nvs, hnvs, _⟩ := hN
    obtain ⟨na, nc, rfl⟩ := SliceIs.shape hnvs
    refine V_tup (v := .agg #[i64 (i.meth q).params.length, i64 18, .slice na (liftP i (i.meth q) st r).length nc]) rfl (V_tup (v := sv) rfl (V_tup (v := .bool true) rfl ?_))
    refine asB sa_38 rfl rfl fun b8 w8 hb8 x8 => ?_
    refine (known (hT.ext (x06.trans (x7.trans x8)))).mono fun kv w9 ⟨hkv, x9⟩ => ?_
    subst hkv
    have x69 := (x7.trans x8).trans x9
    have he0 : er = 0 := he.2 ht
    simp only [he0, evL, reduceIte, decide_true]
    refine ldB (hb6.ext x69) fa_27_3 l1_25 rfl (lnS xa_25 (hA6.ext x69).at_.mt (V_lss.2 ?_))
    simp only [hql, decide_true]
    refine V.ok (r_eqBool Tryz.underlying4) ?_
    simp only [beq_self_eq_true, evL, reduceIte]
    exact hR _ (x06.trans x69)
  · refine V_tup (v := .agg #[i64 0, i64 0, nilS]) rfl (V_tup (v := nilS) rfl (V_tup (v := .bool false) rfl ?_))
    refine asB sa_38 rfl rfl fun b8 w8 hb8 x8 => ?_
    have hb8 : Boxed w8 b8 [i64 0, i64 0, nilS] := hb8
    refine (known (hT.ext (x06.trans (x7.trans x8)))).mono fun kv w9 ⟨hkv, x9⟩ => ?_
    subst hkv
    have x69 := (x7.trans x8).trans x9
    by_cases he0 : er = 0
    · have hql : ¬ q < (i.methods.length : Int) := fun hq => hne ⟨he.1 he0, hq0, hq⟩
      simp only [he0, evL, reduceIte, decide_true]
      refine ldB (hb6.ext x69) fa_27_3 l1_25 rfl (lnS xa_25 (hA6.ext x69).at_.mt (V_lss.2 ?_))
      simp only [hql, decide_false]
      refine V.ok (r_eqBool Tryz.underlying4) ?_
      simp only [beq_self_eq_true, evL, reduceIte, Bool.false_eq_true]
      refine ldB (hb8.ext x9) fa_38_2 l1_36 rfl (lnx xa_36 (SliceIs.nil _ 1) (V_eqlI.2 ?_))
      simp only [show ((0 : Nat) : Int) = 0 from rfl, evL, reduceIte, decide_true]
      refine lnx xa_23 (SliceIs.nil _ 1) ?_
      refine V_eqlI.2 ?_
      simp only [show ((0 : Nat) : Int) = 0 from rfl, decide_true]
      exact hR _ (x06.trans x69)
    · simp only [he0, evL, reduceIte, Bool.false_eq_true, decide_false]
      refine V.ok (r_eqBool Tryz.underlying4) ?_
      simp only [beq_self_eq_true, evL, reduceIte, Bool.false_eq_true]
      refine ldB (hb8.ext x9) fa_38_2 l1_36 rfl (lnx xa_36 (SliceIs.nil _ 1) (V_eqlI.2 ?_))
      simp only [show ((0 : Nat) : Int) = 0 from rfl, evL, reduceIte, decide_true]
      refine lnx xa_23 (SliceIs.nil _ 1) ?_
      refine V_eqlI.2 ?_
      simp only [show ((0 : Nat) : Int) = 0 from rfl, decide_true]
      exact hR _ (x06.trans x69)
end Go.Proofs.YtcdbikfnlggbnaaGreatDoor
namespace Go.Proofs.YtcdbikfnlggbnaaGreatDoor
open Go.Vc Go.Tc
variable {w : World} {K : Value → World → Prop}
def m18 : Mth := ⟨[], 0, [], [⟨1, 7, 0⟩, ⟨4, 0, 0⟩, ⟨39, 0, 0⟩]⟩
def i18 : Img := ⟨⟨#[97]⟩, [], [], [m18], []⟩
theorem taken18 : Taken i18 := by
  refine ⟨by simp [Img.right, kindsR, Kds, Mth.right, Ins.right, lim, Img.meth, i18, m18], fun m hm => ?_⟩
  have : m = m18 := by simpa [i18] using hm
  subst this
  refine ⟨⟨[[], [1], []], [true, true, true], [false, false, false]⟩, .inr ⟨by simp [m18, namesS], ?_⟩⟩
  exact .go (pc := 0) (s' := ⟨[[], [1], []], [true, true, false], [false, true, false]⟩) rfl rfl (.go (pc := 1) (s' := ⟨[[], [1], []], [true, true, true], [false, false, true]⟩) rfl rfl (.go (pc := 2) (s' := ⟨[[], [1], []], [true, true, true], [false, false, false]⟩) rfl rfl (.done rfl)))
theorem lift18 {st : Tc.St} {r : List Bool} (hw : Walk i18 m18 (some st)) (R : Rch i18 m18 st [] r) : liftP i18 m18 st r = [.tick, .const 10 7, .tick, .tick, .ret (-1)] ∧ (liftK i18 m18 st r 3).2 = [0, 2, 3] := by
  have mr : m18.right := taken18.1.2.2.1.2.1 m18 (by simp [i18])
  obtain ⟨hox, hwf, hh0, hs0, hled⟩ := hw.led taken18.1 mr
  have h0 : r.getD 0 false = true := by rcases R.z with h | h; exact h; cases h
  have h1 : r.getD 1 false = true := by rcases R.cl 0 h0 1 (by decide) with h | h; exact h; cases h
  have h2 : r.getD 2 false = true := by rcases R.cl 1 h1 2 (by decide) with h | h; exact h; cases h
  have e1 : liftN i18 m18 (m18.ins 0) (st.s 0).length = some (.const 10 7) := by rw [hs0]; rfl
  have e2 : liftN i18 m18 (m18.ins 1) (st.s 1).length = none := rfl
  have e3 : liftN i18 m18 (m18.ins 2) (st.s 2).length = some (.ret (-1)) := rfl
  have k : liftK i18 m18 st r 3 = ([.tick, .const 10 7, .tick, .tick, .ret (-1)], [0, 2, 3]) := by
    simp only [liftK, h0, h1, h2, e1, e2, e3, if_true]; rfl
  refine ⟨?_, by rw [k]⟩
  show (liftK i18 m18 st r 3).1.map (aimN (liftK i18 m18 st r 3).2) = _
  rw [k]; rfl
theorem eqConst {x y : Operand} : (do eqGuard .eql 84 x y (.agg #[i64 10, i32 7]) (.agg #[i64 10, i32 7]); binOp .eql 84 (.agg #[i64 10, i32 7]) (.agg #[i64 10, i32 7])).run Tryz.prog w = .ok (.bool true) w := by kernel_rfl
theorem eqTick {x y : Operand} : (do eqGuard .eql 52 x y (.iface 49 (.agg #[])) (.iface 49 (.agg #[])); binOp .eql 52 (.iface 49 (.agg #[])) (.iface 49 (.agg #[]))).run Tryz.prog w = .ok (.bool true) w := by kernel_rfl
theorem nameA (hT : Tabs w) : NameOk w ⟨#[97]⟩ := fun w' hx =>
  have h : nmOkB ⟨#[97]⟩ [⟨#[97]⟩, ⟨#[]⟩] [0, 1] = true := by kernel_rfl
  ⟨isName52 (hT.ext hx) (nmOkB_ok h), isName126 (hT.ext hx) (nmOkB_ok h) (by kernel_rfl)⟩
set_option maxHeartbeats 4000000 in
theorem known18 (hT : Tabs w) : callD Tryz.prog 13 #[] w fun v w' => v = .bool true ∧ Ext w w' := by
  apply F13_wp
  suffices key : ∀ R : Value → World → Prop, (∀ w', Ext w w' → R (.bool true) w') → F13_den w R from key _ fun _ hx => ⟨rfl, hx⟩
  intro R hR
  unfold F13_den
  refine bld bd_71 [(0, i64 1), (1, i64 7)] rfl rfl (bld bd_71 [(0, i64 4)] rfl rfl (bld bd_71 [(0, i64 39)] rfl rfl ?_))
  refine bslG Tryz.underlying45 inf71 rfl (by decide) [.agg #[i64 1, i64 7, i64 0], .agg #[i64 4, i64 0, i64 0], .agg #[i64 39, i64 0, i64 0]] rfl rfl (by intro v hv; simp only [List.mem_cons, List.not_mem_nil, or_false] at hv; rcases hv with rfl | rfl | rfl <;> rfl) (by decide) (by decide) fun cv w1 hc1 x1 => ?_
  have hc : InsAre w1 cv m18.code := SliceIs.of_own hc1
  obtain ⟨ca, cc, rfl⟩ := SliceIs.shape hc
  refine bld bd_47 [(3, _)] rfl rfl ?_
  refine bslG Tryz.underlying25 inf47 rfl (by decide) [.agg #[nilS, i64 0, nilS, .slice ca m18.code.length cc]] rfl rfl (by intro v hv; rw [List.mem_singleton] at hv; subst hv; rfl) (by decide) (by decide) fun mv w2 hm2 x2 => ?_
  have hm : MthsAre w2 mv [m18] := by
    refine ⟨[nilS, i64 0, nilS, .slice ca m18.code.length cc], SliceIs.of_own hm2, fun k x hk => ?_⟩
    match k, hk with
    | 0, hk => cases hk; exact ⟨_, rfl, nilS, nilS, _, rfl, SliceIs.nil _ _, SliceIs.nil _ _, hc.ext x2⟩
    | k + 1, hk => simp at hk
  obtain ⟨ma, mc, rfl⟩ : ∃ a c, mv = .slice a 1 c := by obtain ⟨cs, h1, _⟩ := hm; exact SliceIs.shape h1
  refine bld bd_27 [(0, .string ⟨#[97]⟩), (3, _)] rfl rfl ?_
  have x02 := x1.trans x2
  have hA : ImgAt w2 ⟨nilS, nilS, .slice ma 1 mc, nilS⟩ i18 := ⟨SliceIs.nil _ _, ⟨[], SliceIs.nil _ _, fun k x hk => by simp [i18] at hk⟩, hm, SliceIs.nil _ _⟩
  refine lift12 (p := ⟨nilS, nilS, .slice ma 1 mc, nilS⟩) (i := i18) (k := 0) hA ⟨nameA (hT.ext x02), fun x hx => by simp [i18] at hx⟩ (by simp [Img.rg, i18, m18, Ins.rg]) (fun st r nv sv w3 _ _ _ hw Rc hN hS x3 => ?_) fun w3 hne _ => absurd ⟨taken18, by decide, by decide⟩ hne
  have hw : Walk i18 m18 (some st) := hw
  have Rc : Rch i18 m18 st [] r := Rc
  obtain ⟨e1, e2⟩ := lift18 hw Rc
  have hN : NodesAre w3 nv [.tick, .const 10 7, .tick, .tick, .ret (-1)] := by rw [← e1]; exact hN
  have hS : IntsAre w3 sv [0, 2, 3] := by rw [← e2]; exact hS
  obtain ⟨vs, hvs, hvn⟩ := hN
  obtain ⟨na, nc, rfl⟩ := hvs.shape
  obtain ⟨u0, hu0, s0, rfl, _⟩ := hvn 0 _ rfl
  obtain ⟨u1, hu1, s1, rfl, _⟩ := hvn 1 _ rfl
  obtain ⟨u3, hu3, s3, rfl, _⟩ := hvn 3 _ rfl
  refine V_tup (v := .agg #[i64 0, i64 18, .slice na 5 nc]) rfl (V_tup (v := sv) rfl (V_tup (v := .bool true) rfl ?_))
  refine asB sa_38 rfl rfl fun b4 w4 hb4 x4 => ?_
  have hb4 : Boxed w4 b4 [i64 0, i64 18, .slice na 5 nc] := hb4
  have hvs4 : SliceIs w4 (.slice na 5 nc) 1 5 vs := hvs.ext x4
  have ne : ∀ {a : Int}, decide (a ≠ a) = false := fun {a} => decide_eq_false fun h => h rfl
  refine V_not.2 ?_
  simp only [Bool.not_true, gd_f]
  refine ldB hb4 fa_38_2 l1_36 rfl (lnx xa_36 hvs4 (V_neqI.2 ?_))
  rw [show decide (((5 : Nat) : Int) ≠ 5) = false from rfl]
  simp only [pickD_iff, gd_f, reduceIte, Bool.false_eq_true]
  refine lnx xa_23 (hS.ext x4) (V_neqI.2 ?_)
  rw [show decide (((([0, 2, 3] : List Int).length : Nat) : Int) ≠ 3) = false from rfl]
  simp only [gd_f]
  refine ldB hb4 fa_38_1 l1_3 rfl (V_neqI.2 ?_)
  rw [ne]
  refine pickF (ifD_false.2 ?_)
  refine ldB hb4 fa_38_2 l1_36 rfl (ldx xa_36 l1_52 hvs4 (by decide) (by decide) hu1 ?_)
  refine V.ok (r_ta Tryz.underlying84 rfl inf84) ?_
  rw [if_pos rfl]
  refine V_ext0.2 (V_ext1.2 ?_)
  refine asB sa_84 rfl rfl fun b5 w5 hb5 x5 => ?_
  have hb5 : Boxed w5 b5 [i64 10, i32 7] := hb5
  have hb4 := hb4.ext x5
  have hvs5 := hvs4.ext x5
  simp only [gd_t]
  refine ldA hb5 la_84 rfl (bld bd_84 [(0, i64 10), (1, i32 7)] rfl rfl ?_)
  refine V.ok eqConst ?_
  simp only [pickD_iff, gd_t, reduceIte]
  refine ldB hb4 fa_38_2 l1_36 rfl (ldx xa_36 l1_52 hvs5 (by decide) (by decide) hu0 ?_)
  refine bld bd_49 [] rfl rfl (mki mi_49 (V.ok eqTick ?_))
  simp only [pickD_iff, gd_t, reduceIte]
  refine ldB hb4 fa_38_2 l1_36 rfl (ldx xa_36 l1_52 hvs5 (by decide) (by decide) hu3 ?_)
  refine bld bd_49 [] rfl rfl (mki mi_49 (V.ok eqTick ?_))
  simp only [pickD_iff, gd_t, reduceIte]
  have hS5 := (hS.ext x4).ext x5
  have te : ∀ {a : Int}, decide (a = a) = true := fun {a} => decide_eq_true rfl
  refine ldx xa_23 l1_3 hS5 (by decide) (by decide) (u := i64 0) rfl (V_eqlI.2 ?_)
  rw [te]
  simp only [pickD_iff, gd_t, reduceIte]
  refine ldx xa_23 l1_3 hS5 (by decide) (by decide) (u := i64 2) rfl (V_eqlI.2 ?_)
  rw [te]
  simp only [pickD_iff, gd_t, reduceIte]
  refine ldx xa_23 l1_3 hS5 (by decide) (by decide) (u := i64 3) rfl (V_eqlI.2 ?_)
  rw [te]

  exact hR _ (((x02.trans x3).trans x4).trans x5)
end Go.Proofs.YtcdbikfnlggbnaaGreatDoor
namespace Go.Vc
open Go.ChangeShapes Go.WideShapes Go.ChangeAt Go.RowKit
variable {H : Type} {enc : TypeId × Value → H} {P : Program}

theorem post_of_ext {f : Func} {s : ChangeSpec} {apart fresh handsOn again : Bool} {W W' : World} {args : Array Value} {v : Value} {ds gs : List (DataW H)} {pa pv : List MemPlace}
    (hW : DataW.Whole enc P f.params.toList s.vars apart W args.toList ds gs (pa ++ pv)) (hx : Ext W W')
    (hr : ∀ b sp hd, DataW.TrodAll enc P W' b sp hd f.resultTypes.toList (v.resultList f.resultTypes.size) (s.fn H (ds ++ gs)).results [])
    (ha : ∀ sp : Nat → Bool, (∀ p ∈ pa ++ pv, sp p.block = true) → DataW.TrodAll enc P W' 0 sp true f.params.toList args.toList (s.fn H (ds ++ gs)).args pa)
    (hv : ∀ sp : Nat → Bool, (∀ p ∈ pa ++ pv, sp p.block = true) → DataW.TrodVars enc P W' sp s.vars (s.fn H (ds ++ gs)).vars pv)
    (hok : ∀ (j : Nat) (t : TypeId) (r : Value), f.resultTypes[j]? = some t → (v.resultList f.resultTypes.size)[j]? = some r → Value.okWide P W' .any 0 t r) :
    s.post enc P f apart fresh handsOn again W args v W' := by
  have hlt := hW.lt
  have hall : ∀ p ∈ pa ++ pv, (fun b => decide (b < W.heap.size)) p.block = true := fun p hp => decide_eq_true (hlt p hp)
  have hk := hx.below.frame (· ∈ pa ++ pv)
  refine ⟨ds, gs, pa ++ pv, [], pa, pv, hW, hr _ _ _, ha _ hall, hv _ hall, World.keptBut_mono (fun p hp => ⟨hp, .inr (by simpa using hp)⟩) hk, fun _ => ?_⟩
  obtain ⟨_, _, _, _, _, hz, hn⟩ := hW
  have h2 := trodAll_append (ha (fun _ => true) fun _ _ => rfl) (hr 0 (fun _ => true) true)
  refine ⟨hok, _, _, pa ++ pv, ⟨pa, pv, (by simpa using h2), hv _ fun _ _ => rfl, rfl, fun b off hp => ?_, hn⟩, fun p hp _ => hp⟩
  rw [hx.below.frozen (hlt _ hp)]
  exact hz b off hp
end Go.Vc
namespace Go.Vc
open Go.ChangeShapes Go.WideShapes Go.ChangeAt Go.RowKit
variable {H : Type} {enc : TypeId × Value → H} {P : Program}
theorem args_stay (hl : laidOutB P = true) {W W' : World} (hx : Ext W W') {sp : Nat → Bool} : ∀ {ts : List TypeId} {vs : List Value} {ds : List (DataW H)} {p : List MemPlace}, (ts.all fun t => P.readableRec t && decide (t < P.types.size)) = true →
    DataW.TrodAll enc P W 0 (fun _ => true) true ts vs ds p → (∀ x ∈ p, x.block < W.heap.size) → (∀ x ∈ p, sp x.block = true) → DataW.TrodAll enc P W' 0 sp true ts vs ds p
  | [], vs, ds, p, _, h, _, _ => by
    obtain ⟨rfl, rfl, rfl⟩ := trodAll_nil h
    exact trodAll_mk0
  | t :: ts, vs, ds, p, hr, h, hlt, hs => by
    simp only [List.all_cons, Bool.and_eq_true, decide_eq_true_eq] at hr
    obtain ⟨v, vs', d, ds', p1, p2, rfl, rfl, rfl, h1, h2⟩ := trodAll_cons h
    exact trodAll_cons_mk (WideElems.Trod_stays hl hr.1.1 hr.1.2 h1 (fun x hx' => hx.below.same (hlt x (by simp [hx']))) fun x hx' => hs x (by simp [hx']))
      (args_stay hl hx (by simpa using hr.2) h2 (fun x hx' => hlt x (by simp [hx'])) fun x hx' => hs x (by simp [hx']))
end Go.Vc
namespace Go.Vc
open Go.ChangeShapes
theorem laid_elem {P : Program} {W : World} {x : String} {ds : List (DataW Unit)} {g t e m : Nat} (hg : P.globalNamed x = some g) (ht : (P.globals[g]?).map (·.type) = some t) (hu : P.underlying t = some (.array m e)) {i : Nat} (hi : i < m) :
    ∀ {laid : List (String × DataW Unit)} {ps : List MemPlace}, DataW.LaidVars P W laid ps → (x, .agg ds) ∈ laid → ∃ (fuel : Nat) (q : List MemPlace) (cs : List Value) (d : DataW Unit), ds[i]? = some d ∧ DataW.trod (fun _ => ()) P W 0 (fun _ => true) false fuel e ((cs.drop (i * P.cellsOf e)).take (P.cellsOf e)) = some (d, q) ∧ ∀ j : Nat, W.cell? ⟨g, j, none⟩ = cs[j]?
  | [], _, _, hm => by cases hm
  | (n', d') :: r, ps, h, hm => by
    obtain ⟨g', t', cs, fuel, p, q, h1, h2, h3, h4, h5, _⟩ := h
    rcases List.mem_cons.1 hm with e1 | e1
    · cases e1
      obtain rfl := Option.some.inj (hg.symm.trans h1)
      obtain rfl := Option.some.inj (ht.symm.trans h2)
      obtain ⟨xs, m', _, ex, _, hxl, hel⟩ := DataW.trod_array hu h4
      have hE := hel i hi
      rw [List.getElem?_eq_getElem (by omega)] at hE
      refine ⟨m', (xs[i]'(by omega)).2, cs.toList, (xs[i]'(by omega)).1, ?_, hE, fun j => by rw [World.var?_cell hg h3 j, ← Array.getElem?_toList]⟩
      have : ds = xs.map (·.1) := by have := congrArg Prod.fst ex; simpa using this
      rw [this, List.getElem?_map, List.getElem?_eq_getElem (by omega)]; rfl
    · exact laid_elem hg ht hu hi h5 e1
/-- A whole number of an array of them. -/
theorem laid_int {P : Program} {W : World} {x : String} {ds : List (DataW Unit)} {g t e m : Nat} {k : IntKind} {laid : List (String × DataW Unit)} {ps : List MemPlace} (hg : P.globalNamed x = some g) (ht : (P.globals[g]?).map (·.type) = some t) (hu : P.underlying t = some (.array m e)) (he : P.underlying e = some (.int k)) (c1 : P.cellsOf e = 1)
    (h : DataW.LaidVars P W laid ps) (hm : (x, .agg ds) ∈ laid) {i : Nat} (hi : i < m) : ∃ z, ds[i]? = some (.lit (.int k z)) ∧ W.cell? ⟨g, i, none⟩ = some (.int k z) := by
  obtain ⟨fuel, q, cs, d, h1, h2, h3⟩ := laid_elem hg ht hu hi h hm
  rw [c1, Nat.mul_one] at h2
  obtain ⟨z, e1, e2, _⟩ := DataW.trod_int he h2
  cases e2
  refine ⟨z, h1, ?_⟩
  rw [h3 i]
  have h0 : ((cs.drop i).take 1)[0]? = some (.int k z) := by rw [e1]; rfl
  simpa using h0
/-- A field that is a whole number, of an array of structs. -/
theorem laid_fld {P : Program} {W : World} {x : String} {ds : List (DataW Unit)} {g t e m c f o u : Nat} {fs : Array Field} {k : IntKind} {laid : List (String × DataW Unit)} {ps : List MemPlace} (hg : P.globalNamed x = some g) (ht : (P.globals[g]?).map (·.type) = some t) (hu : P.underlying t = some (.array m e)) (he : P.underlying e = some (.struct fs)) (hc : P.cellsOf e = c)
    (hf : (fs[f]?).map (fun y => (y.type, y.offset)) = some (u, o)) (hk : P.underlying u = some (.int k)) (c1 : P.cellsOf u = 1) (ho : o < c)
    (h : DataW.LaidVars P W laid ps) (hm : (x, .agg ds) ∈ laid) {i : Nat} (hi : i < m) : ∃ l z, ds[i]? = some (.agg l) ∧ l[f]? = some (.lit (.int k z)) ∧ W.cell? ⟨g, i * c + o, none⟩ = some (.int k z) := by
  obtain ⟨fuel, q, cs, d, h1, h2, h3⟩ := laid_elem hg ht hu hi h hm
  rw [hc] at h2
  obtain ⟨xs, n, _, ex, _, hxl, hel⟩ := DataW.trod_struct he h2
  obtain ⟨fd, hfd, hfe⟩ := Option.map_eq_some_iff.1 hf
  have h4 := hel f fd hfd
  have hlt : f < fs.size := (Array.getElem?_eq_some_iff.1 hfd).1
  simp only [Prod.mk.injEq] at hfe
  obtain ⟨rfl, rfl⟩ := hfe
  rw [c1, List.getElem?_eq_getElem (by omega)] at h4
  obtain ⟨z, e1, e2, _⟩ := DataW.trod_int hk h4
  have e3 : d = .agg (xs.map (·.1)) := congrArg Prod.fst ex
  refine ⟨_, z, by rw [h1, e3], by rw [List.getElem?_map, List.getElem?_eq_getElem (by omega)]; simp [e2], ?_⟩
  rw [h3]
  have h0 : ((((cs.drop (i * c)).take c).drop fd.offset).take 1)[0]? = some (.int k z) := by rw [e1]; rfl
  simpa [List.getElem?_take, List.getElem?_drop, ho] using h0
end Go.Vc
