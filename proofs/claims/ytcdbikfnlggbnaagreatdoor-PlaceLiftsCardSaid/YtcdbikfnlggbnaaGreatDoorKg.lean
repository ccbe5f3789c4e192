/- An applet, made, walked. -/
import Derived.Test.YtcdbikfnlggbnaaGreatDoorKf
namespace Go.Proofs.YtcdbikfnlggbnaaGreatDoor
open Tryz
open Go.Vc Go.Tc
variable {w : World} {K : Value → World → Prop}
set_option maxHeartbeats 4000000 in
theorem applet9 {n : Int} {rv : Value} {rl : List Rw} (hr : RwsAre w rv rl) (hb : BinsOk w) (hT : Tabs w) (rn : rl.length ≤ 5000000000000)
  (hk : ∀ p i w', ImgAt w' p i → NamesOk w' i → i.rg → i.methods.length = 3 → (∀ m ∈ i.methods, m.code.length ≤ 700000) → (∀ w'', Fr (fun k => k < w.heap.size) w' w'' → Tabs w'' → ImgAt w'' p i ∧ NamesOk w'' i) → (∃ cs : List Value, ∀ w'', Fr (fun k => k < w.heap.size) w' w'' → SliceIs w'' p.mv 4 i.methods.length cs ∧ ∀ (k : Nat) (x : Mth), i.methods[k]? = some x → MthIs w'' ((cs.drop (k * 4)).take 4) x) → Ext w w' → K (p.val i) w') : callD prog 9 #[i64 n, rv] w K := by
 apply F9_wp
 unfold F9_den
 refine alK inf27 fun w1 hB4 x1 => ?_
 have hlt4 := hB4.lt
 have hg4 : w.heap.size ≤ w.heap.size := Nat.le_refl _
 generalize hgg4 : w.heap.size = g4 at hB4 hg4 hlt4
 refine bsl xe_23 [i64 1, i64 2, i64 3, i64 4] rfl rfl (by simp) rfl fun lv w2 hol x2 => ?_
 refine name25 fun nm hnm => ?_
 refine bsl xe_23 [i64 1, i64 2, i64 3, i64 4] rfl rfl (by simp) rfl fun fv w3 hof x3 => ?_
 refine bsl xe_23 [i64 1, i64 2] rfl rfl (by simp) rfl fun xv w4 hox x4 => ?_
 have o1 := own_one hof; have o2 := own_one hox
 refine bld bd_27 [(0, .string nm), (1, fv), (4, xv)] rfl (by simp [o1, o2, one_s]) ?_
 refine asK sa_27 rfl (show ([.string nm, fv, nilS, nilS, xv] : List Value).all oneC = true by simp [o1, o2, one_s, one_l]) fun w5 hBi x5 => ?_
 have hBi : Blk w5 w4.heap.size [.string nm, fv, nilS, nilS, xv] 27 := hBi
 have s1 := x1.size; have s2 := x2.size; have s3 := x3.size; have s4 := x4.size; have s5 := x5.size
 have R0 : ∀ {v : Value} {l : List Int} {wa wb : World}, wb.ownsRow wa.heap.size 3 1 v l.length (l.map i64) → w1.heap.size ≤ wa.heap.size → wb.heap.size ≤ w4.heap.size → Row g4 w4.heap.size wb v l := fun ho h1 h2 => ⟨own_mono ho (by omega), fun k hk => by have := (ho.lt k hk).2; omega⟩
 have rl5 : Row g4 w4.heap.size w5 lv [1, 2, 3, 4] := (R0 (l := [1, 2, 3, 4]) hol (by omega) (by omega)).ext ((x3.trans x4).trans x5)
 have rf5 : Row g4 w4.heap.size w5 fv [1, 2, 3, 4] := (R0 (l := [1, 2, 3, 4]) hof (by omega) (by omega)).ext (x4.trans x5)
 have rx5 : Row g4 w4.heap.size w5 xv [1, 2] := (R0 (l := [1, 2]) hox (by omega) (by omega)).ext x5
 clear R0 hol hof hox
 have x15 := (((x2.trans x3).trans x4).trans x5)
 have hB4 := hB4.ext x15
 have hgi4 : g4 ≠ w4.heap.size := by omega
 have hiw : w4.heap.size < w5.heap.size := hBi.lt
 have hiw0 : w.heap.size ≤ w4.heap.size := by omega
 have x05 := x1.trans x15
 have hr0 := hr
 have hr := hr.ext x05
 generalize w4.heap.size = gi at *
 have R1 : ∀ {v : Value} {l : List Int} {wa wb : World}, wb.ownsRow wa.heap.size 3 1 v l.length (l.map i64) → w5.heap.size ≤ wa.heap.size → Row g4 gi wb v l := fun ho h1 => ⟨own_mono ho (by omega), fun k hk => by have := (ho.lt k hk).1; omega⟩
 refine V_add.2 (name25 fun n1 hn1 => ?_)
 refine bsl xe_23 [i64 1, i64 2] rfl rfl (by simp) rfl fun q1 w6 hq1 x6 => ?_
 have s6 := x6.size
 have rq1 : Row g4 gi w6 q1 [1, 2] := R1 (l := [1, 2]) hq1 (by omega)
 have oq1 := own_one hq1
 refine bld bd_74 [(0, .string n1), (1, i64 0), (2, q1), (3, i64 2)] rfl (by simp [oq1, one_i, one_s]) ?_
 refine V_add.2 (lnR xa_22 (hr.ext x6) ?_)
 refine pick10 (by decide) (by decide) fun _ _ _ => V_add.2 (name25 fun n2 hn2 => ?_)
 refine bsl xe_23 [i64 4, i64 3] rfl rfl (by simp) rfl fun q2 w7 hq2 x7 => ?_
 have s7 := x7.size
 have rq2 : Row g4 gi w7 q2 [4, 3] := R1 (l := [4, 3]) hq2 (by omega)
 have oq2 := own_one hq2
 refine bld bd_74 [(0, .string n2), (1, i64 1), (2, q2), (3, i64 3)] rfl (by simp [oq2, one_i, one_s]) ?_
 refine bslG underlying24 inf74 rfl (by decide) [.agg #[.string n1, i64 0, q1, i64 2], .agg #[.string n2, i64 1, q2, i64 3]] rfl rfl (by intro v hv; simp only [List.mem_cons, List.not_mem_nil, or_false] at hv; rcases hv with rfl | rfl <;> rfl) (by decide) (by decide) fun iv w8 hoi x8 => ?_
 have s8 := x8.size
 have hoi : w8.ownsRow w7.heap.size 74 4 iv 2 [.string n1, i64 0, q1, i64 2, .string n2, i64 1, q2, i64 3] := hoi
 have x58 := (x6.trans x7).trans x8
 refine stF fa_27_2 inf24 (hBi.ext x58) (n := 5) rfl (by decide) (own_one hoi) ?_
 have hB9 : Blk (w8.setCell ⟨gi, 2, none⟩ iv) gi [.string nm, fv, iv, nilS, xv] 27 := (hBi.ext x58).set 2 iv
 have f9 : Fr (fun k => k = gi ∨ k ≤ g4 ∨ w8.heap.size ≤ k) w8 (w8.setCell ⟨gi, 2, none⟩ iv) := Fr.of_set (.inl rfl)
 have rl9 := (rl5.ext x58).fr f9 (Nat.le_refl _)
 have rf9 := (rf5.ext x58).fr f9 (Nat.le_refl _)
 have rx9 := (rx5.ext x58).fr f9 (Nat.le_refl _)
 have rq19 := (rq1.ext (x7.trans x8)).fr f9 (Nat.le_refl _)
 have rq29 := (rq2.ext x8).fr f9 (Nat.le_refl _)
 have hoi9 := f9.own hoi fun k hk hS => by have := hoi.lt k hk; omega
 have hB49 : Blk (w8.setCell ⟨gi, 2, none⟩ iv) g4 _ _ := (hB4.ext x58).other hgi4
 have f59 : Ext w (w8.setCell ⟨gi, 2, none⟩ iv) := (x05.trans x58).setCell hiw0 iv
 have xr9 : ∀ {w'}, Fr (fun k => k = gi ∨ k = g4 ∨ w8.heap.size ≤ k) (w8.setCell ⟨gi, 2, none⟩ iv) w' → Ext w w' := fun f => f.ext f59 fun k hk => by omega
 have sz9 : (w8.setCell ⟨gi, 2, none⟩ iv).heap.size = w8.heap.size := by simp
 generalize w8.setCell ⟨gi, 2, none⟩ iv = w9 at *
 have hoi0 := hoi
 clear rl5 rf5 rx5 rq1 rq2 hoi hB4 hBi hq1 hq2 f9
 have ol := own_one rl9.own
 refine bld bd_47 [(2, lv)] rfl (by simp [ol]) ?_
 refine bsl xe_23 [i64 1, i64 2] rfl rfl (by simp) rfl fun p1 w10 hp1 x10 => ?_
 have s10 := x10.size
 have rp1 : Row g4 gi w10 p1 [1, 2] := R1 (l := [1, 2]) hp1 (by omega)
 have op1 := own_one hp1
 refine bld bd_47 [(0, p1), (1, i64 2), (2, lv)] rfl (by simp [ol, op1, one_i]) ?_
 refine bsl xe_23 [i64 4, i64 3] rfl rfl (by simp) rfl fun p2 w11 hp2 x11 => ?_
 have s11 := x11.size
 have rp2 : Row g4 gi w11 p2 [4, 3] := R1 (l := [4, 3]) hp2 (by omega)
 have op2 := own_one hp2
 obtain ⟨lv3, urun, usl⟩ := r_sl underlying23 inf3 rl9.ints (lo := none) (hi' := some (.int .i64 ((2 : Nat) : Int))) (a := 0) (b := 2) (.inl ⟨rfl, rfl⟩) (.inr rfl) (by decide) (by decide)
 refine V.ok (urun _) ?_
 have ol3 : oneC lv3 = true := by obtain ⟨a, c, rfl⟩ := (usl _ rl9.ints).shape; rfl
 refine bld bd_47 [(0, p2), (1, i64 3), (2, lv3)] rfl (by simp [ol3, op2, one_i]) ?_
 refine bslG underlying25 inf47 rfl (by decide) [.agg #[nilS, i64 0, lv, nilS], .agg #[p1, i64 2, lv, nilS], .agg #[p2, i64 3, lv3, nilS]] rfl rfl (by intro v hv; simp only [List.mem_cons, List.not_mem_nil, or_false] at hv; rcases hv with rfl | rfl | rfl <;> rfl) (by decide) (by decide) fun mv w12 hom x12 => ?_
 have s12 := x12.size
 have hom : w12.ownsRow w11.heap.size 47 4 mv 3 (apC lv p1 p2 lv3 fun _ => nilS) := hom
 obtain ⟨gm, cap, rfl⟩ : ∃ gm cap, mv = .slice (some ⟨gm, 0, none⟩) 3 cap := by
  rcases hom.2 with ⟨_, e⟩ | ⟨gm, cap, cur, rfl, _⟩
  ·cases e
  ·exact ⟨gm, cap, rfl⟩
 have hgm := hom.lt gm rfl
 have x9b := x10.trans x11
 have x9c := x9b.trans x12
 refine stF fa_27_3 inf25 (hB9.ext x9c) (n := 5) rfl (by decide) rfl ?_
 have hBC : Blk (w12.setCell ⟨gi, 3, none⟩ (.slice (some ⟨gm, 0, none⟩) 3 cap)) gi [.string nm, fv, iv, .slice (some ⟨gm, 0, none⟩) 3 cap, xv] 27 := (hB9.ext x9c).set 3 _
 have fC : Fr (fun k => k = gi ∨ k = g4 ∨ w11.heap.size ≤ k) w11 (w12.setCell ⟨gi, 3, none⟩ (.slice (some ⟨gm, 0, none⟩) 3 cap)) := (Fr.of_ext x12).set (.inl rfl)
 have homC : (w12.setCell ⟨gi, 3, none⟩ (.slice (some ⟨gm, 0, none⟩) 3 cap)).ownsRow w11.heap.size 47 4 (.slice (some ⟨gm, 0, none⟩) 3 cap) 3 (apC lv p1 p2 lv3 fun _ => nilS) := (Fr.of_set (S := fun k => k = gi) rfl).own hom fun k hk hS => by have := hom.lt k hk; omega
 have hB4C : Blk (w12.setCell ⟨gi, 3, none⟩ (.slice (some ⟨gm, 0, none⟩) 3 cap)) g4 _ _ := (hB49.ext x9c).other hgi4
 have szC : (w12.setCell ⟨gi, 3, none⟩ (.slice (some ⟨gm, 0, none⟩) 3 cap)).heap.size = w12.heap.size := by simp
 generalize w12.setCell ⟨gi, 3, none⟩ (.slice (some ⟨gm, 0, none⟩) 3 cap) = wC at *
 have hb11 : Ext w w11 := (Ext.refl w).trans (f59.trans x9b)
 have hr0 : ∀ {w'}, Ext w w' → RwsAre w' rv rl := fun hx => (hr0 : RwsAre w rv rl).ext hx
 have hall : ∀ {w'}, Fr (fun k => k = gi ∨ k ≤ g4 ∨ w11.heap.size ≤ k) w11 w' → IntsAre w' fv [1, 2, 3, 4] ∧ IntsAre w' xv [1, 2] ∧ IntsAre w' lv [1, 2, 3, 4] ∧ IntsAre w' p1 [1, 2] ∧ IntsAre w' p2 [4, 3] ∧ IntsAre w' lv3 [1, 2] ∧ ImpsAre w' iv (apIs n1 n2) := by
  intro w' f
  have hN := Nat.le_refl w11.heap.size
  have hl := ((rl9.ext x9b).fr f hN).ints
  refine ⟨((rf9.ext x9b).fr f hN).ints, ((rx9.ext x9b).fr f hN).ints, hl, ((rp1.ext x11).fr f hN).ints, (rp2.fr f hN).ints, usl w' hl, apImps (SliceIs.of_own (f.own (x9b.own hoi9) fun k hk hS => ?_)) ((rq19.ext x9b).fr f hN).ints ((rq29.ext x9b).fr f hN).ints⟩
  have := (x9b.own hoi9).lt k hk
  omega
 have hallX : ∀ {w'}, Fr (fun k => k = gi ∨ k = g4 ∨ w11.heap.size ≤ k) w11 w' → Ext w w' := fun f => f.ext hb11 fun k hS => by omega
 have hS : ∀ {w'}, Fr (fun k => k = gi ∨ k = g4 ∨ w11.heap.size ≤ k) w11 w' → Fr (fun k => k = gi ∨ k ≤ g4 ∨ w11.heap.size ≤ k) w11 w' := fun f => f.mono fun k hk => by omega
 clear rl9 rf9 rx9 rq19 rq29 hoi9 rp1 rp2 hB9 hB49 hom usl urun hp1 hp2
 refine lnR xa_22 (hr0 (hallX fC)) ?_
 have hgmC : gm < wC.heap.size := by omega
 refine ⟨fun v w' => ∃ (j : Nat) (c : Nat → Value) (code : Nat → List Ins), v = i64 j ∧ j ≤ 3 ∧ Fr (fun k => k = gi ∨ k = g4 ∨ w11.heap.size ≤ k) w11 w' ∧ wC.heap.size ≤ w'.heap.size ∧ Blk w' gi [.string nm, fv, iv, .slice (some ⟨gm, 0, none⟩) 3 cap, xv] 27 ∧ Blk w' g4 [.string ByteArray.empty, nilS, nilS, nilS, nilS] 27 ∧ w'.ownsRow w11.heap.size 47 4 (.slice (some ⟨gm, 0, none⟩) 3 cap) 3 (apC lv p1 p2 lv3 c) ∧ ∀ k, w'.ownsRow (gm + 1) 71 3 (c k) (code k).length (insC (code k)) ∧ (∀ x ∈ code k, x.rg) ∧ (code k).length ≤ 700000,
  fun v _ => 3 - (RowKit.intOf v).toNat, ⟨0, fun _ => nilS, fun _ => [], rfl, Nat.zero_le _, fC, Nat.le_refl _, hBC, hB4C, homC, fun k => ⟨World.ownsRow_nil _ _ _ _, fun _ h => by simp at h, Nat.zero_le _⟩⟩, ?_⟩
 clear hBC hB4C homC fC
 rintro _ wD ⟨j, c, code, rfl, hj, f, hsz, hBi, hB4, hom, hcs⟩ _
 obtain ⟨rf, rx, rl', rp1, rp2, rl3, rim⟩ := hall (hS f)
 have xw := hallX f
 have hms : MthsAre wD (.slice (some ⟨gm, 0, none⟩) 3 cap) (apMs code) := apMths (SliceIs.of_own hom) rl' rp1 rp2 rl3 fun k _ => SliceIs.of_own (hcs k).1
 refine V_lss.2 (ifD_dec (fun hlt => ?_) fun hge => ?_)
 ·have hrD := hr0 xw
  have e1 : ∀ m : Nat, m ≤ 3 → V prog (binOp .mul 3 (i64 m) (i64 rl.length)) wD = V prog (binOp .mul 3 (i64 m) (i64 rl.length)) wD := fun _ _ => rfl
  have e2 : ∀ m : Nat, m ≤ 3 → IntKind.i64.wrap ((m : Int) * (rl.length : Int)) = ((m * rl.length : Nat) : Int) := fun m hm => by
   have : m * rl.length ≤ 3 * rl.length := Nat.mul_le_mul_right _ hm
   rw [← Int.natCast_mul]
   exact wrap_id (by omega) (by omega)
  have e3 : ∀ (m d : Nat), m ≤ 15000000000000 → IntKind.i64.wrap (((m : Nat) : Int).tdiv ((d : Nat) : Int)) = ((m / d : Nat) : Int) := fun m d hm => by
   have h1 : ((m : Nat) : Int).tdiv ((d : Nat) : Int) = ((m / d : Nat) : Int) := by
    rw [Int.tdiv_eq_ediv_of_nonneg (by omega)]; rfl
   have h2 : m / d ≤ m := Nat.div_le_self _ _
   rw [h1]
   clear h1
   generalize m / d = q at *
   exact wrap_id (by omega) (by omega)
  have e4 : ∀ a b : Nat, min ((a : Nat) : Int) ((b : Nat) : Int) = ((min a b : Nat) : Int) := fun a b => by omega
  have hj3 : j * rl.length ≤ 3 * rl.length := Nat.mul_le_mul_right _ hj
  have hj4 : (j + 1) * rl.length ≤ 3 * rl.length := Nat.mul_le_mul_right _ (by omega)
  refine V_mul.2 ?_
  rw [e2 j hj]
  refine (V_quo (by decide)).2 ?_
  rw [show (3 : Int) = ((3 : Nat) : Int) from rfl, e3 _ 3 (by omega)]
  refine V.ok r_min (V_add.2 ?_)
  rw [e4, wrap_id (n := (j : Int) + 1) (by omega) (by omega), i64_succ]
  refine V_mul.2 ?_
  rw [e2 (j + 1) (by omega)]
  refine (V_quo (by decide)).2 ?_
  rw [e3 _ 3 (by omega)]
  refine V.ok r_min ?_
  rw [e4]
  have hd1 : j * rl.length / 3 ≤ (j + 1) * rl.length / 3 := Nat.div_le_div_right (Nat.mul_le_mul_right _ (by omega))
  obtain ⟨v1, r1, hs1⟩ := RwsAre.part underlying22 inf120 hrD (lo := some (.int .i64 ((min rl.length (j * rl.length / 3) : Nat) : Int))) (hi' := some (.int .i64 ((min rl.length ((j + 1) * rl.length / 3) : Nat) : Int))) (.inr rfl) (.inr rfl) (by omega) (by omega)
  refine V.ok (r1 _) ?_
  refine ⟨fun v w' => ∃ l, RwsAre wD v l ∧ l.length ≤ 5000000000000 ∧ w' = wD, V_eqlI.2 (ifD_dec (fun hz => ?_) fun hz => ⟨_, hs1, by simp; omega, rfl⟩), ?_⟩
  ·refine (V_quo (by decide)).2 ?_
   rw [show (2 : Int) = ((2 : Nat) : Int) from rfl, e3 _ 2 (by omega)]
   refine V.ok r_min ?_
   rw [e4]
   obtain ⟨v2, r2, hs2⟩ := RwsAre.part underlying22 inf120 hrD (lo := none) (hi' := some (.int .i64 ((min rl.length (rl.length / 2) : Nat) : Int))) (a := 0) (.inl ⟨rfl, rfl⟩) (.inr rfl) (by omega) (by omega)
   exact V.ok (r2 _) ⟨_, hs2, by simp; omega, rfl⟩
  rintro v3 wD' ⟨l, hl, hll, hwD⟩ _
  have hwD := hwD.symm
  subst hwD
  have D1 : Ext wD wD.drew := (Ext.refl _).drew
  have hBid := hBi.ext D1
  obtain ⟨m, hm⟩ := ex_get (l := apMs code) (j := j) (by simp [apMs]; omega)
  refine drawD.mk' (fun w' => Ext wD.drew w') (Ext.refl _) ?_
  refine yfB (fun w' hx => Blk.boxed (hBid.ext hx)) fa_27_3 l1_25 rfl ?_
  refine yfB (fun w' hx => Blk.boxed (hBid.ext hx)) fa_27_3 l1_25 rfl ?_
  refine ySS xa_25 la_47 (hms.ext D1) (fun _ h => h) hm mth_len fun row hrow => ?_
  refine yfB (fun w' hx => Blk.boxed (hBid.ext hx)) fa_27_3 l1_25 rfl ?_
  refine yfB (fun w' hx => Blk.boxed (hBid.ext hx)) fa_27_2 l1_24 rfl ?_
  have xwd := xw.trans D1
  have hmp := apM_small hm
  refine code26 (hl.ext D1) hrow (hms.ext D1) (rim.ext D1) (fun q hq => ?_) hll (by omega) (by omega) ⟨by simp [apMs], by simp [apMs]⟩ (by simp [apMs]) (by simp [apIs]) (by simp [apIs]) fun v4 code4 wE ho4 hrg4 hlen4 xE => ⟨xE, ?_⟩
  ·obtain ⟨z, hz⟩ := hb q hq
   exact ⟨z, xwd.cell hz⟩
  have x3E := D1.trans xE
  refine yieldS.ok (fun w' _ => r_index underlying25 inf47 (by omega) (by omega)) ?_
  refine yieldS.ok (fun w' _ => FA.ex fa_47_3 w' _ _) ?_
  rw [Int.toNat_natCast]
  refine stOF underlying25 inf47 fa_47_3 inf45 (x3E.own hom) (by omega) (by decide) (own_one ho4) fun wF hwF hoF fF => V_add.2 ?_
  rw [wrap_id (by omega) (by omega), i64_succ]
  have sE := x3E.size
  have sD := D1.size
  have sF := fF.size
  rw [apC_set (by omega)] at hoF
  refine ⟨⟨j + 1, fun k => if k = j then v4 else c k, fun k => if k = j then code4 else code k, rfl, by omega, (f.trans (Fr.of_ext x3E) fun _ _ h => h).trans fF fun k _ hk => by omega, by omega, fF.blk (hBi.ext x3E) (by omega), fF.blk (hB4.ext x3E) (by omega), hoF, fun k => ?_⟩, by simp only [intOf_i64]; omega⟩
  by_cases hkj : k = j
  ·simp only [hkj, if_true]
   exact ⟨own_mono (fF.own ho4 fun q hq hS => by have := (ho4.lt q hq).1; omega) (by omega), hrg4, hlen4⟩
  ·simp only [hkj, if_false]
   obtain ⟨c1, c2, c3⟩ := hcs k
   exact ⟨fF.own (x3E.own c1) fun q hq hS => by have := (c1.lt q hq).1; omega, c2, c3⟩
 ·refine ldA (Blk.boxed hBi) la_27 rfl ?_
  refine stA inf27 hB4 (l := [.string nm, fv, iv, .slice (some ⟨gm, 0, none⟩) 3 cap, xv]) rfl rfl rfl (by simp [o1, o2, own_one hoi0, one_s, one_l]) fun wE hBE hc => ?_
  refine ⟨_, r_var underlying27 rfl inf27 hBE rfl, ⟨_, rfl⟩, ?_⟩
  have fE : Fr (fun k => k = gi ∨ k = g4 ∨ w11.heap.size ≤ k) w11 wE := f.trans ((chg_fr hc).mono fun k hk => .inr (.inl hk)) fun _ _ h => h
  have xw := hallX fE
  have hg4m : g4 < gm := by omega
  have homE := (chg_fr hc).own hom fun k hk hS => by have := (hom.lt k hk).1; omega
  have hcsE : ∀ k, wE.ownsRow (gm + 1) 71 3 (c k) (code k).length (insC (code k)) := fun k => (chg_fr hc).own (hcs k).1 fun q hq hS => by have := ((hcs k).1.lt q hq).1; omega
  have stay : ∀ w'', Fr (fun k => k < g4) wE w'' → Tabs w'' → ImgAt w'' ⟨fv, iv, .slice (some ⟨gm, 0, none⟩) 3 cap, xv⟩ ⟨nm, [1, 2, 3, 4], apIs n1 n2, apMs code, [1, 2]⟩ ∧ NamesOk w'' ⟨nm, [1, 2, 3, 4], apIs n1 n2, apMs code, [1, 2]⟩ := by
   intro w'' f'' hT''
   have f3 : Fr (fun k => k = gi ∨ k ≤ g4 ∨ w11.heap.size ≤ k) w11 w'' := (hS fE).trans f'' fun k _ hk => by omega
   obtain ⟨rf, rx, rl', rp1, rp2, rl3, rim⟩ := hall f3
   refine ⟨⟨rf, rim, apMths (SliceIs.of_own (f''.own homE fun k hk hS => by have := (homE.lt k hk).1; omega)) rl' rp1 rp2 rl3 fun k _ => SliceIs.of_own (f''.own (hcsE k) fun q hq hS => by have := ((hcsE k).lt q hq).1; omega), rx⟩, nmB_ok hnm hT'', fun x hx => ?_⟩
   simp only [apIs, List.mem_cons, List.not_mem_nil, or_false] at hx
   rcases hx with rfl | rfl
   ·exact nmB_ok hn1 hT''
   ·exact nmB_ok hn2 hT''
  have stayM : ∃ cs : List Value, ∀ w'', Fr (fun k => k < g4) wE w'' → SliceIs w'' (.slice (some ⟨gm, 0, none⟩) 3 cap) 4 3 cs ∧ ∀ (k : Nat) (x : Mth), (apMs code)[k]? = some x → MthIs w'' ((cs.drop (k * 4)).take 4) x := by
   refine ⟨apC lv p1 p2 lv3 c, fun w'' f'' => ?_⟩
   have f3 : Fr (fun k => k = gi ∨ k ≤ g4 ∨ w11.heap.size ≤ k) w11 w'' := (hS fE).trans f'' fun k _ hk => by omega
   obtain ⟨rf, rx, rl', rp1, rp2, rl3, rim⟩ := hall f3
   exact apMths' (w := w'') (SliceIs.of_own (f''.own homE fun k hk hS => by have := (homE.lt k hk).1; omega)) rl' rp1 rp2 rl3 fun k _ => SliceIs.of_own (f''.own (hcsE k) fun q hq hS => by have := ((hcsE k).lt q hq).1; omega)
  have hTE := hT.ext xw
  obtain ⟨hat, hnmE⟩ := stay wE (Fr.refl _ _) hTE
  refine hk ⟨fv, iv, .slice (some ⟨gm, 0, none⟩) 3 cap, xv⟩ ⟨nm, [1, 2, 3, 4], apIs n1 n2, apMs code, [1, 2]⟩ wE hat hnmE (fun m hm x hx => ?_) rfl (fun m hm => ?_) (by rw [hgg4]; exact stay) (by rw [hgg4]; exact stayM) xw
  ·simp only [apMs, List.mem_cons, List.not_mem_nil, or_false] at hm
   rcases hm with rfl | rfl | rfl
   ·exact (hcs 0).2.1 x hx
   ·exact (hcs 1).2.1 x hx
   ·exact (hcs 2).2.1 x hx
  ·simp only [apMs, List.mem_cons, List.not_mem_nil, or_false] at hm
   rcases hm with rfl | rfl | rfl
   ·exact (hcs 0).2.2
   ·exact (hcs 1).2.2
   ·exact (hcs 2).2.2
end Go.Proofs.YtcdbikfnlggbnaaGreatDoor
namespace Go.Vc
section
variable {P : Program} {w : World} {K : Value → World → Prop}
theorem slO {t e sz : Nat} {z : Value} {by_ : Nat} (ht : P.underlying t = some (.slice e)) (hi : Inf P e z sz by_) (_ : 0 < sz) {B n g cap : Nat} {xs : List Value} (ho : w.ownsRow B e sz (.slice (some ⟨g, 0, none⟩) n cap) n xs) {k : Nat} (hk : k ≤ n) (h0 : 0 < n)
  (hK : w.ownsRow B e sz (.slice (some ⟨g, 0, none⟩) k cap) k (xs.take (k * sz)) → K (.slice (some ⟨g, 0, none⟩) k cap) w) : V P (Instr.sliceAt t (.slice (some ⟨g, 0, none⟩) n cap) none (some (i64 k)) none) w K := by
 have hcap : n ≤ cap := by
  rcases ho.2 with ⟨he, _⟩ | ⟨g', cap', cur, he, _, _, h3, _⟩
  ·cases he
  ·cases he; exact h3
 have hc0 : ¬ cap = 0 := by omega
 have hkc : k ≤ cap := by omega
 refine V.ok ?_ (hK (own_take' ho hk))
 simp [Instr.sliceAt, Instr.slice, run_underlying ht, run_size hi, Instr.sliceBounds, Instr.sliceBound, asIntOf, hkc, hc0, add_mk]
end
end Go.Vc
namespace Go.Proofs.YtcdbikfnlggbnaaGreatDoor
open Tryz
open Go.Vc Go.Tc
variable {w : World} {K : Value → World → Prop}
end Go.Proofs.YtcdbikfnlggbnaaGreatDoor
namespace Go.Tc
def Img.withCode (i : Img) (q : Nat) (code : List Ins) : Img := { i with methods := i.methods.set q { i.meth q with code := code } }
end Go.Tc
namespace Go.Proofs.YtcdbikfnlggbnaaGreatDoor
open Tryz
open Go.Vc Go.Tc
variable {w : World} {K : Value → World → Prop}
structure Apl (w : World) (p : ImgV) (i : Img) : Prop where
 at_ : ImgAt w p i
 nm : NamesOk w i
 rg : i.rg
 ml : i.methods.length = 3
 cl : ∀ m ∈ i.methods, m.code.length ≤ 2000000
theorem Apl.ext {w' : World} {p : ImgV} {i : Img} (h : Apl w p i) (hx : Ext w w') : Apl w' p i := ⟨h.at_.ext hx, h.nm.ext hx, h.rg, h.ml, h.cl⟩
def BJ (N0 : Nat) (w0 : World) (v : Value) (w' : World) : Prop := ∃ code' : List Ins, w'.ownsRow N0 71 3 v code'.length (insC code') ∧ (∀ x ∈ code', x.rg) ∧ code'.length ≤ 2000000 ∧ Fr (fun k => N0 ≤ k) w0 w'
structure Stay (B : Nat) (w : World) (p : ImgV) (i : Img) : Prop where
 ap : ∀ w'', Fr (fun k => k < B) w w'' → Tabs w'' → Apl w'' p i
 mt : ∃ cs : List Value, ∀ w'', Fr (fun k => k < B) w w'' → SliceIs w'' p.mv 4 i.methods.length cs ∧ ∀ (k : Nat) (x : Mth), i.methods[k]? = some x → MthIs w'' ((cs.drop (k * 4)).take 4) x
theorem Stay.by_ {B B' : Nat} {w' : World} {p : ImgV} {i : Img} (h : Stay B w p i) (hf : ∀ w'', Fr (fun k => k < B') w' w'' → Fr (fun k => k < B) w w'') : Stay B' w' p i := by
 obtain ⟨h1, cs, h2⟩ := h
 exact ⟨fun w'' f hT => h1 w'' (hf w'' f) hT, cs, fun w'' f => h2 w'' (hf w'' f)⟩
theorem Stay.ext {B : Nat} {w' : World} {p : ImgV} {i : Img} (h : Stay B w p i) (hx : Ext w w') : Stay B w' p i := h.by_ fun _ f => (Fr.of_ext hx).trans f fun _ _ h => h
theorem Stay.now {B : Nat} {p : ImgV} {i : Img} (h : Stay B w p i) (hT : Tabs w) : Apl w p i := h.ap w (Fr.refl _ _) hT
theorem Stay.chg {B B' g : Nat} {w' : World} {p : ImgV} {i : Img} (h : Stay B w p i) (f : Fr (fun k => k = g) w w') (hg : g < B) (hB : B' ≤ B) : Stay B' w' p i := h.by_ fun w'' f' => ((f.mono (T := fun k => k < B) fun k hk => by omega)).trans f' fun k _ hk => by omega
end Go.Proofs.YtcdbikfnlggbnaaGreatDoor
namespace Go.Proofs.YtcdbikfnlggbnaaGreatDoor
open Tryz
open Go.Vc Go.Tc
variable {w : World} {K : Value → World → Prop}
def ImgV.cells (p : ImgV) (i : Img) : List Value := [.string i.name, p.fv, p.iv, p.mv, p.xv]
theorem Apl.one {p : ImgV} {i : Img} (h : Apl w p i) : (p.cells i).all oneC = true := by
 obtain ⟨a1, c1, e1⟩ := SliceIs.shape h.at_.fl
 obtain ⟨_, hx1, _⟩ := h.at_.im
 obtain ⟨a2, c2, e2⟩ := SliceIs.shape hx1
 obtain ⟨_, hx3, _⟩ := h.at_.mt
 obtain ⟨a3, c3, e3⟩ := SliceIs.shape hx3
 obtain ⟨a4, c4, e4⟩ := SliceIs.shape h.at_.ex
 unfold ImgV.cells
 rw [e1, e2, e3, e4]; rfl
theorem apl9 {n : Int} {rv : Value} {rl : List Rw} (hr : RwsAre w rv rl) (hb : BinsOk w) (hT : Tabs w) (rn : rl.length ≤ 5000000000000)
  (hk : ∀ p i w', Stay w.heap.size w' p i → (∀ m ∈ i.methods, m.code.length ≤ 700000) → Ext w w' → K (p.val i) w') : callD prog 9 #[i64 n, rv] w K :=
 applet9 hr hb hT rn fun p i w' _ _ h3 h4 h5 h7 h8 h6 => hk p i w' ⟨fun w'' f hT'' => ⟨(h7 w'' f hT'').1, (h7 w'' f hT'').2, h3, h4, fun m hm => Nat.le_trans (h5 m hm) (by decide)⟩, h8⟩ h5 h6
def imgC (l : List (ImgV × Img)) : List Value := l.flatMap fun x => x.1.cells x.2
def AplsIs (w : World) (row : List Value) (x : ImgV × Img) : Prop := row = x.1.cells x.2 ∧ Apl w x.1 x.2 ∧ Taken x.2
def AplsAre (w : World) (v : Value) (l : List (ImgV × Img)) : Prop := StrsAre AplsIs 5 w v l
theorem AplsAre.ext {w' : World} {v : Value} {l : List (ImgV × Img)} (h : AplsAre w v l) (hx : Ext w w') : AplsAre w' v l := StrsAre.ext (fun h k => ⟨h.1, h.2.1.ext k, h.2.2⟩) h hx
theorem imgC_row : ∀ {l : List (ImgV × Img)} {k : Nat} {x : ImgV × Img}, l[k]? = some x → ((imgC l).drop (k * 5)).take 5 = x.1.cells x.2
 | [], _, _, h => by simp at h
 | y :: l, 0, x, h => by simp at h; subst h; simp [imgC, ImgV.cells]
 | y :: l, k + 1, x, h => by
  have := imgC_row (l := l) (k := k) (by simpa using h)
  simp only [imgC, List.flatMap_cons] at this ⊢
  rw [show (k + 1) * 5 = 5 + k * 5 by omega, ← List.drop_drop, List.drop_left' (by rfl)]
  exact this
theorem aplLen (w : World) (row : List Value) (x : ImgV × Img) (h : AplsIs w row x) : row.length = 5 := by rw [h.1]; rfl
def RwssAre (w : World) (v : Value) (ll : List (List Rw)) : Prop := ∃ vs : List Value, SliceIs w v 1 ll.length vs ∧ ∀ (k : Nat) (l : List Rw), ll[k]? = some l → ∃ u, vs[k]? = some u ∧ RwsAre w u l ∧ l.length ≤ 5000000000000
theorem RwssAre.ext {w' : World} {v : Value} {ll : List (List Rw)} (h : RwssAre w v ll) (hx : Ext w w') : RwssAre w' v ll := by
 obtain ⟨vs, h1, h2⟩ := h
 refine ⟨vs, h1.ext hx, fun k l hk => ?_⟩
 obtain ⟨u, h3, h4, h5⟩ := h2 k l hk
 exact ⟨u, h3, h4.ext hx, h5⟩
set_option maxHeartbeats 4000000 in
theorem applets19 {v : Value} {ll : List (List Rw)} (h : RwssAre w v ll) (hb : BinsOk w) (hT : Tabs w) (hk : ∀ v' l w', AplsAre w' v' l → l.length ≤ 3 → (∀ x ∈ l, ∀ w'', Fr (fun k => k < w.heap.size) w' w'' → Tabs w'' → Apl w'' x.1 x.2) → Ext w w' → K v' w') : callD prog 19 #[v] w K := by
 apply F19_wp
 unfold F19_den
 refine ⟨fun t v w' => ∃ (j : Nat) (l : List (ImgV × Img)), v = i64 j ∧ j ≤ ll.length ∧ j ≤ 3 ∧ l.length ≤ j ∧ Ext w w' ∧ w'.ownsRow w.heap.size 27 5 t l.length (imgC l) ∧ ∀ x ∈ l, (∀ w'', Fr (fun k => t.ownBlock = some k ∨ k < w.heap.size) w' w'' → Tabs w'' → Apl w'' x.1 x.2) ∧ Taken x.2, fun _ v _ => 3 - (RowKit.intOf v).toNat, ⟨0, [], rfl, Nat.zero_le _, Nat.zero_le _, Nat.le_refl _, Ext.refl _, World.ownsRow_nil _ _ _ _, fun _ h => by simp at h⟩, ?_⟩
 rintro tv _ w1 ⟨j, l, rfl, hj, hj3, hlj, x1, ho, hl⟩ _
 obtain ⟨vs, hvs, hvl⟩ := h.ext x1
 have hb1 : ∀ {w'}, Ext w w' → BinsOk w' := fun hx q hq => by
  obtain ⟨z, hz⟩ := hb q hq
  exact ⟨z, hx.cell hz⟩
 refine lnx xa_64 hvs (V_lss.2 ?_)
 by_cases c0 : (j : Int) < (ll.length : Int) ∧ (j : Int) < 3
 case neg =>
  have fin : K tv w1 := hk tv l w1 ⟨imgC l, SliceIs.of_own ho, fun k x hx => ⟨_, imgC_row hx, rfl, (hl x (List.mem_of_getElem? hx)).1 _ (Fr.refl _ _) (hT.ext x1), (hl x (List.mem_of_getElem? hx)).2⟩⟩ (by omega) (fun x hx w'' f hT'' => (hl x hx).1 w'' (f.mono fun k hk => .inr hk) hT'') x1
  by_cases c1 : (j : Int) < (ll.length : Int)
  ·have c2 : ¬ (j : Int) < 3 := fun hc => c0 ⟨c1, hc⟩
   simp only [c1, c2, evL, reduceIte, decide_true, decide_false]
   exact fin
  ·simp only [c1, evL, reduceIte, Bool.false_eq_true, decide_false]
   exact fin
 obtain ⟨c1, c2⟩ := c0
 simp only [c1, c2, evL, reduceIte, decide_true]
 obtain ⟨rl, hrl⟩ := ex_get (l := ll) (j := j) (by omega)
 obtain ⟨ru, hru, hrr, hrn⟩ := hvl j rl hrl
 refine ldx xa_64 l1_22 hvs (by omega) (by omega) (by simpa using hru) ?_
 refine apl9 hrr (hb1 x1) (hT.ext x1) hrn fun p2 i2 w2 ha2 hc2 x2 => ?_
 have hone := (ha2.now (hT.ext (x1.trans x2))).one
 refine asK sa_27 rfl hone fun w3 hB3 x3 => ?_
 have hB3 : Blk w3 w2.heap.size (p2.cells i2) 27 := hB3
 have s2 := x2.size
 have x13 := x2.trans x3
 have hg : w1.heap.size ≤ w2.heap.size := s2
 have ha3 := ha2.ext x3
 generalize w2.heap.size = g at *
 clear ha2 x2 x3 s2 hone hc2
 have hT1 : ∀ {w'}, Ext w1 w' → Tabs w' := fun hx => hT.ext (x1.trans hx)
 refine ⟨fun w' => ∃ p i, Blk w' g (ImgV.cells p i) 27 ∧ Stay w1.heap.size w' p i ∧ Ext w1 w', ?_, ?_⟩
 ·refine ldA (Blk.boxed hB3) la_27 rfl ?_
  have hA3 := ha3.now (hT1 x13)
  refine verify11 (p := p2) (i := i2) hA3.at_ hA3.nm fun a b e w4 _ x4 => ?_
  refine V_ext0.2 (V_ext1.2 ?_)
  refine asB sa_32 rfl rfl fun b5 w5 _ x5 => ?_
  have x45 := x4.trans x5
  have hB5 := hB3.ext x45
  have ha5 := ha3.ext x45
  have x15 := x13.trans x45
  refine V_neqI.2 (ifD_dec (fun hne => ?_) fun heq => ⟨p2, i2, hB5, ha5, x15⟩)
  have D1 : Ext w5 w5.drew := (Ext.refl _).drew
  have x1d := x15.trans D1
  have hrrd := hrr.ext x1d
  obtain ⟨u6, r6, hs6⟩ := RwsAre.part underlying22 inf120 hrrd (lo := none) (hi' := some (.int .i64 ((rl.length / 2 : Nat) : Int))) (a := 0) (b := rl.length / 2) (.inl ⟨rfl, rfl⟩) (.inr rfl) (by omega) (by omega)
  refine drawD.mk' (fun w' => Ext w5.drew w') (Ext.refl _) ?_
  refine ySl xa_64 l1_22 (hvs.ext x1d) (fun _ h => h) (by omega) (by omega) (by simpa using hru) ?_
  refine ySl xa_64 l1_22 (hvs.ext x1d) (fun _ h => h) (by omega) (by omega) (by simpa using hru) ?_
  refine yLenR xa_22 hrrd ?_
  refine yieldS.ok (fun w' _ => r_quo (by decide)) ?_
  have e2 : IntKind.i64.wrap (((rl.length : Nat) : Int).tdiv 2) = ((rl.length / 2 : Nat) : Int) := by
   rw [Int.tdiv_eq_ediv_of_nonneg (by omega), wrap_id (by omega) (by omega)]; rfl
  rw [e2]
  refine yieldS.ok (fun w' _ => r6 _) ?_
  refine apl9 hs6 (hb1 (x1.trans x1d)) (hT.ext (x1.trans x1d)) (by simp; omega) fun p7 i7 w7 ha7 _ x7 => ⟨x7, ?_⟩
  have x17 := x1d.trans x7
  have hgd : g < w5.drew.heap.size := (hB5.ext D1).lt
  have s1d := x1d.size
  refine stA inf27 (hB5.ext (D1.trans x7)) (l := p7.cells i7) rfl rfl rfl (ha7.now (hT1 x17)).one fun w8 hB8 hc8 => ?_
  have x18 : Ext w1 w8 := hc8.ext _ x17 hg
  have ha8 : Stay w1.heap.size w8 p7 i7 := ha7.chg (chg_fr hc8) hgd s1d
  refine ldA (Blk.boxed hB8) la_27 rfl ?_
  have hA8 := ha8.now (hT1 x18)
  refine verify11 (p := p7) (i := i7) hA8.at_ hA8.nm fun a b e w9 _ x9 => ?_
  refine V_ext0.2 (V_ext1.2 ?_)
  refine asB sa_32 rfl rfl fun b10 w10 _ x10 => ?_
  have x910 := x9.trans x10
  refine V_neqI.2 (ifD_dec (fun hne2 => ?_) fun heq => ⟨p7, i7, hB8.ext x910, ha8.ext x910, x18.trans x910⟩)
  have x1A := x18.trans x910
  refine apl9 (rl := []) ⟨⟨none, 0, rfl⟩, fun h => by simp at h⟩ (hb1 (x1.trans x1A)) (hT.ext (x1.trans x1A)) (by simp) fun p11 i11 w11 ha11 _ x11 => ?_
  have hgA : g < w10.heap.size := (hB8.ext x910).lt
  have s1A := x1A.size
  refine stA inf27 (hB8.ext (x910.trans x11)) (l := p11.cells i11) rfl rfl rfl (ha11.now (hT1 (x1A.trans x11))).one fun w12 hB12 hc12 => ?_
  exact ⟨p11, i11, hB12, ha11.chg (chg_fr hc12) hgA s1A, hc12.ext _ (x1A.trans x11) hg⟩
 rintro w4 ⟨p, i, hB, ha, x14⟩ _
 refine ldA (Blk.boxed hB) la_27 rfl ?_
 have hA := ha.now (hT1 x14)
 refine verify11 (p := p) (i := i) hA.at_ hA.nm fun a b e w5 he x5 => ?_
 refine V_ext0.2 (V_ext1.2 ?_)
 refine asB sa_32 rfl rfl fun b6 w6 _ x6 => ?_
 have x46 := x5.trans x6
 have x16 := x14.trans x46
 refine V_eqlI.2 (ifD_dec (fun hz => ?_) fun hz => ?_)
 ·have ht := he.1 hz
  refine ldA (Blk.boxed (hB.ext x46)) la_27 rfl ?_
  refine bslG underlying62 inf27 rfl (by decide) [.agg (p.cells i).toArray] rfl rfl (by intro v hv; rw [List.mem_singleton] at hv; subst hv; rfl) (by decide) (by decide) fun v7 w7 ho7 x7 => ?_
  have s7 := (x1.trans (x16.trans x7)).size
  have hone7 : ([Value.agg (p.cells i).toArray].flatMap fun v => v.cells.toList).all oneC = true := by simpa [Value.cells] using hA.one
  refine apG underlying62 inf27 rfl (by decide) ((x16.trans x7).own ho) (SliceIs.of_own ho7) hone7 (by omega) (by unfold maxLen; omega) s7 fun v8 w8 ho8 hg8 hl8 => ?_
  have x18 : Ext w w8 := (x1.trans (x16.trans x7)).grown hg8 fun k hk => (ho.lt k hk).1
  refine V_add.2 ?_
  rw [wrap_id (by omega) (by omega), i64_succ]
  refine ⟨⟨j + 1, l ++ [(p, i)], rfl, by omega, by omega, by simp; omega, x18, ?_, fun x hx => ?_⟩, by simp only [intOf_i64]; omega⟩
  ·have e1 : imgC (l ++ [(p, i)]) = imgC l ++ ([Value.agg (p.cells i).toArray].flatMap fun v => v.cells.toList) := by simp [imgC, Value.cells]
   rw [e1, List.length_append]
   exact ho8
  ·have f8 : Fr (fun k => tv.ownBlock = some k) w7 w8 := Fr.of_grown hg8 fun k hk => hk
   have x17 := x16.trans x7
   have s17 := x17.size
   have f78 : ∀ {w''}, Fr (fun k => v8.ownBlock = some k ∨ k < w.heap.size) w8 w'' → Fr (fun k => tv.ownBlock = some k ∨ k < w.heap.size) w7 w'' := fun f => (f8.mono fun k hk => .inl hk).trans f fun k hk hk' => by
    rcases hk' with hk' | hk'
    ·rcases hl8 with h8 | h8
     ·rw [h8] at hk'; exact .inl hk'
     ·rw [h8] at hk'; cases hk'; omega
    ·exact .inr hk'
   rcases List.mem_append.1 hx with hx | hx
   ·exact ⟨fun w'' f hT'' => (hl x hx).1 w'' ((Fr.of_ext x17).trans (f78 f) fun _ _ h => h) hT'', (hl x hx).2⟩
   ·rw [List.mem_singleton] at hx
    subst hx
    refine ⟨fun w'' f hT'' => ha.ap w'' ((Fr.of_ext (x46.trans x7)).trans ((f78 f).mono fun k hk => ?_) fun _ _ h => h) hT'', ht⟩
    have := x1.size
    rcases hk with hk | hk
    ·exact (ho.lt k hk).2
    ·omega
 ·refine V_add.2 ?_
  rw [wrap_id (by omega) (by omega), i64_succ]
  exact ⟨⟨j + 1, l, rfl, by omega, by omega, by omega, x1.trans x16, x16.own ho, fun x hx => ⟨fun w'' f hT'' => (hl x hx).1 w'' ((Fr.of_ext x16).trans f fun _ _ h => h) hT'', (hl x hx).2⟩⟩, by simp only [intOf_i64]; omega⟩
end Go.Proofs.YtcdbikfnlggbnaaGreatDoor
namespace Go.Proofs.YtcdbikfnlggbnaaGreatDoor
open Tryz
open Go.Vc Go.Tc
variable {w : World} {K : Value → World → Prop}
theorem BinsOk.ext {w' : World} (hb : BinsOk w) (hx : Ext w w') : BinsOk w' := fun q hq => by
 obtain ⟨z, hz⟩ := hb q hq
 exact ⟨z, hx.cell hz⟩
theorem RwsAre.one {v : Value} {l : List Rw} (h : RwsAre w v l) : oneC v = true := by
 obtain ⟨⟨a, c, rfl⟩, _⟩ := h
 rfl
end Go.Proofs.YtcdbikfnlggbnaaGreatDoor
namespace Go.Proofs.YtcdbikfnlggbnaaGreatDoor
open Tryz
open Go.Vc Go.Tc
variable {w : World} {K : Value → World → Prop}
def srvP (op : Int) : Int × Bool := if op = 27 ∨ op = 28 then (1, true) else if op = 17 ∨ op = 18 ∨ op = 29 then (2, true) else if op = 30 ∨ op = 36 then (3, false) else if op = 31 then (5, false) else if op = 32 then (5, true) else (0, false)
def rowP (h n : Nat) : List Int := (List.range n).map fun k => 10 + ((h - n + k : Nat) : Int)
def resP (r : Int) (k : Int) : Int := if r = 0 then -1 else 10 + k
def liftN (i : Img) (m : Mth) (x : Ins) (h : Nat) : Option GNode :=
 if x.op = 1 then some (.const (10 + (h : Int)) (IntKind.i32.wrap x.a)) else if x.op = 2 then some (.move (10 + (h : Int)) x.a) else if x.op = 3 then some (.move x.a (10 + ((h : Int) - 1))) else if x.op = 4 then none
 else if x.op = 5 then some (.move (10 + (h : Int)) (10 + ((h : Int) - 1))) else if x.op = 15 ∨ x.op = 16 ∨ x.op = 26 then some (.un x.op (10 + ((h : Int) - 1)) (10 + ((h : Int) - 1)))
 else if x.op = 22 then some (.choose (10 + ((h : Int) - 3)) (10 + ((h : Int) - 3)) (10 + ((h : Int) - 2)) (10 + ((h : Int) - 1))) else if x.op = 23 then some (.goto x.a) else if x.op = 24 then some (.branch (10 + ((h : Int) - 1)) x.a)
 else if x.op = 25 then some (.const (10 + (h : Int)) 0) else if x.op = 35 then some (.const (10 + (h : Int)) (IntKind.i32.wrap x.a)) else if x.op = 33 then some (.getField (10 + (h : Int)) x.a) else if x.op = 34 then some (.putField x.a (10 + ((h : Int) - 1)))
 else if x.op = 37 then some (.call x.a (resP (i.meth x.a).result ((h : Int) - (i.meth x.a).params.length)) (rowP h (i.meth x.a).params.length))
 else if x.op = 38 then some (.callX x.a (resP (i.imp x.a).result ((h : Int) - (i.imp x.a).params.length)) (rowP h (i.imp x.a).params.length))
 else if x.op = 39 then some (.ret (resP m.result ((h : Int) - 1)))
 else if (srvP x.op).1 ≠ 0 then some (.serve x.op x.a x.b (if (srvP x.op).2 then 10 + ((h : Int) - (srvP x.op).1) else -1) (rowP h (srvP x.op).1.toNat))
 else some (.bin x.op (10 + ((h : Int) - 2)) (10 + ((h : Int) - 2)) (10 + ((h : Int) - 1)))
def NodeOwn (B : Nat) (w : World) (v : Value) (n : GNode) : Prop := ∃ sv, v = n.val sv ∧ w.ownsRow B 3 1 sv n.args.length (n.args.map i64)
def LN (B : Nat) (w : World) (v : Value) : Option GNode → Prop
 | none => v = Value.nilIface
 | some n => NodeOwn B w v n
theorem s61 {k : Int} (h : -1000 ≤ k ∧ k ≤ 1000) (hk : K (i64 (10 + k)) w) : callD prog 61 #[i64 k] w K := by
 apply F61_wp
 unfold F61_den
 refine V_add.2 ?_
 rw [wrap_id (by omega) (by omega)]
 exact hk
theorem result62 {r k : Int} (h : -1000 ≤ k ∧ k ≤ 1000) (hk : K (i64 (resP r k)) w) : callD prog 62 #[i64 r, i64 k] w K := by
 apply F62_wp
 unfold F62_den
 unfold resP at hk
 refine V_eqlI.2 (ifD_dec (fun he => ?_) fun he => ?_)
 ·rw [if_pos he] at hk; exact hk
 ·rw [if_neg he] at hk; exact s61 h hk
theorem rowP_snoc {h n j : Nat} (hj : j < n) : (rowP h n).take (j + 1) = (rowP h n).take j ++ [10 + ((h - n + j : Nat) : Int)] := by
 have hl : (rowP h n).length = n := by simp [rowP]
 rw [List.take_add_one]
 congr 1
 simp [rowP, hj]
theorem row63 {h n : Nat} (hn : n ≤ h) (hh : h ≤ 500) (hk : ∀ v w', w'.ownsRow w.heap.size 3 1 v (rowP h n).length ((rowP h n).map i64) → Ext w w' → K v w') : callD prog 63 #[i64 h, i64 n] w K := by
 have hl : (rowP h n).length = n := by simp [rowP]
 apply F63_wp
 unfold F63_den
 refine V_sub.2 ?_
 rw [wrap_id (by omega) (by omega)]
 refine ⟨fun tv v w' => ∃ j : Nat, v = i64 ((h - n + j : Nat) : Int) ∧ j ≤ n ∧ Ext w w' ∧ w'.ownsRow w.heap.size 3 1 tv j (((rowP h n).take j).map i64), fun _ v _ => h - (RowKit.intOf v).toNat, ⟨0, by congr 1; omega, Nat.zero_le _, Ext.refl _, World.ownsRow_nil _ _ _ _⟩, ?_⟩
 rintro tv _ w1 ⟨j, rfl, hj, x1, ho⟩ _
 refine V_lss.2 (ifD_dec (fun hlt => ?_) fun hge => ?_)
 ·refine s61 (by omega) ?_
  refine bsl xe_23 [i64 (10 + ((h - n + j : Nat) : Int))] rfl rfl (by simp) rfl fun v2 w2 ho2 x2 => ?_
  refine apO xe_23 (x2.own ho) (SliceIs.of_own ho2) rfl (by omega) (by unfold maxLen; omega) (x1.trans x2).size fun v3 w3 ho3 hg3 => ?_
  refine V_add.2 ?_
  rw [wrap_id (by omega) (by omega), i64_succ]
  refine ⟨⟨j + 1, rfl, by omega, (x1.trans x2).grown hg3 fun q hq => ((x2.own ho).lt q hq).1, ?_⟩, by simp only [intOf_i64]; omega⟩
  rw [rowP_snoc (by omega), List.map_append]
  exact ho3
 ·have hjn : j = n := by omega
  subst hjn
  refine hk tv w1 ?_ x1
  rw [hl]
  have := ho
  rw [List.take_of_length_le (by omega)] at this
  exact this
theorem serves105 {op : Int} (hk : K (.tuple #[i64 (srvP op).1, .bool (srvP op).2]) w) : callD prog 105 #[i64 op] w K := by
 apply F105_wp
 unfold F105_den
 by_cases c27 : op = 27
 ·subst c27; simp only [evL, Int.reduceEq, decide_true, decide_false]; exact hk
 by_cases c28 : op = 28
 ·subst c28; simp only [evL, Int.reduceEq, decide_true, decide_false]; exact hk
 by_cases c17 : op = 17
 ·subst c17; simp only [evL, Int.reduceEq, decide_true, decide_false]; intros; exact hk
 by_cases c18 : op = 18
 ·subst c18; simp only [evL, Int.reduceEq, decide_true, decide_false]; intros; exact hk
 by_cases c29 : op = 29
 ·subst c29; simp only [evL, Int.reduceEq, decide_true, decide_false]; intros; exact hk
 by_cases c30 : op = 30
 ·subst c30; simp only [evL, Int.reduceEq, decide_true, decide_false]; intros; exact hk
 by_cases c36 : op = 36
 ·subst c36; simp only [evL, Int.reduceEq, decide_true, decide_false]; intros; exact hk
 by_cases c31 : op = 31
 ·subst c31; simp only [evL, Int.reduceEq, decide_true, decide_false]; intros; exact hk
 by_cases c32 : op = 32
 ·subst c32; simp only [evL, Int.reduceEq, decide_true, decide_false]; intros; exact hk
 simp only [c27, c28, c17, c18, c29, c30, c36, c31, c32, evL, decide_false]
 intros
 simp only [srvP, c27, c28, c17, c18, c29, c30, c36, c31, c32, or_self, if_false] at hk
 exact hk
end Go.Proofs.YtcdbikfnlggbnaaGreatDoor
namespace Go.Proofs.YtcdbikfnlggbnaaGreatDoor
open Tryz
open Go.Vc Go.Tc
variable {w : World} {K : Value → World → Prop}
theorem plainN {B : Nat} {v : Value} {n : GNode} (h : v = n.val nilS) (ha : n.args = []) : NodeOwn B w v n := ⟨nilS, h, by rw [ha]; exact World.ownsRow_nil _ _ _ _⟩
theorem srvP_le (op : Int) : 0 ≤ (srvP op).1 ∧ (srvP op).1 ≤ 5 := by
 unfold srvP
 split
 ·exact ⟨by decide, by decide⟩
 split
 ·exact ⟨by decide, by decide⟩
 split
 ·exact ⟨by decide, by decide⟩
 split
 ·exact ⟨by decide, by decide⟩
 split
 iterate 2
  ·exact ⟨by decide, by decide⟩
theorem served64 {x : Ins} {h : Nat} (hn : (srvP x.op).1.toNat ≤ h) (hh : h ≤ 500) (hk : ∀ v w', LN w.heap.size w' v (if (srvP x.op).1 = 0 then none else some (.serve x.op x.a x.b (if (srvP x.op).2 then 10 + ((h : Int) - (srvP x.op).1) else -1) (rowP h (srvP x.op).1.toNat))) → Ext w w' → K v w') :
  callD prog 64 #[.agg #[i64 x.op, i64 x.a, i64 x.b], i64 h] w K := by
 have h0 := srvP_le x.op
 apply F64_wp
 unfold F64_den
 refine bx fun b1 w1 hb1 x1 => ?_
 refine ldB hb1 fa_71_0 l1_3 rfl (serves105 (V_ext0.2 (V_ext1.2 (V_eqlI.2 ?_))))
 by_cases hz : (srvP x.op).1 = 0
 ·simp only [hz, evL, Int.reduceNeg, decide_true]
  exact hk _ _ (by rw [if_pos hz]; rfl) x1
 simp only [hz, evL, Int.reduceNeg, decide_false]
 rw [if_neg hz] at hk
 obtain ⟨n, hn1⟩ : ∃ n : Nat, (srvP x.op).1 = n := ⟨(srvP x.op).1.toNat, by omega⟩
 rw [hn1] at hk hn h0 ⊢
 rw [Int.toNat_natCast] at hk hn
 refine ⟨fun v w' => v = i64 (if (srvP x.op).2 then 10 + ((h : Int) - (n : Int)) else -1) ∧ w' = w1, ?_, ?_⟩
 ·cases h2 : (srvP x.op).2 with
  | true =>
   refine ifD_true.2 (V_sub.2 ?_)
   rw [wrap_id (by omega) (by omega)]
   exact s61 (by omega) ⟨rfl, rfl⟩
  | false => exact ifD_false.2 ⟨rfl, rfl⟩
 rintro _ w9 ⟨rfl, hw⟩ _
 have hw := hw.symm
 subst hw
 have D1 : Ext w1 w1.drew := (Ext.refl _).drew
 refine drawD.mk' (fun w' => Ext w1 w') D1 ?_
 refine yfB (fun w' hw => hb1.ext hw) fa_71_0 l1_3 rfl (yfB (fun w' hw => hb1.ext hw) fa_71_1 l1_3 rfl (yfB (fun w' hw => hb1.ext hw) fa_71_2 l1_3 rfl ?_))
 refine row63 hn hh fun v w2 ho x2 => ⟨D1.trans x2, ?_⟩
 refine yBld bd_162 [(0, i64 x.op), (1, i64 x.a), (2, i64 x.b), (3, i64 _), (4, v)] rfl (by simp [own_one ho, one_i]) (yMki mi_162 ?_)
 refine hk _ _ ⟨v, rfl, own_mono ho (x1.trans D1).size⟩ ((x1.trans D1).trans x2)
end Go.Proofs.YtcdbikfnlggbnaaGreatDoor
namespace Go.Proofs.YtcdbikfnlggbnaaGreatDoor
open Tryz
open Go.Vc Go.Tc
variable {w : World} {K : Value → World → Prop}
set_option maxHeartbeats 4000000 in
theorem node31 {p : ImgV} {i : Img} {row : List Value} {m : Mth} {x : Ins} {h : Nat} (hA : ImgAt w p i) (hm : MthIs w row m) (hx : Okx i m x) (hh : h ≤ 8) (ha : (asked i m x).length ≤ h) (hk : ∀ v w', LN w.heap.size w' v (liftN i m x h) → Ext w w' → K v w') :
  callD prog 31 #[p.val i, .agg row.toArray, .agg #[i64 x.op, i64 x.a, i64 x.b], i64 h] w K := by
 obtain ⟨op, a, b⟩ := x
 obtain ⟨ir, mr, ⟨ho, a1, a2, _⟩, hn⟩ := hx
 obtain ⟨pv, lv, cv, rfl, hp, hl, hc⟩ := hm
 have ho : 1 ≤ op ∧ op ≤ 39 := ho
 apply F31_wp
 unfold F31_den ImgV.val
 refine bx fun b4 w1 hb4 x1 => bx fun b5 w2 hb5 x2 => bx fun b6 w3 hb6 x3 => ?_
 have hb4 : Boxed w3 b4 [.string i.name, p.fv, p.iv, p.mv, p.xv] := (hb4.ext x2).ext x3
 have hb5 : Boxed w3 b5 [pv, i64 m.result, lv, cv] := hb5.ext x3
 have hb6 : Boxed w3 b6 [i64 op, i64 a, i64 b] := hb6
 have xx := (x1.trans x2).trans x3
 have hA := hA.ext xx
 refine ldB hb6 fa_71_0 l1_3 rfl ?_
 have D1 : Ext w3 w3.drew := (Ext.refl _).drew
 have xd := xx.trans D1
 rcases op39 ho with rfl | rfl | rfl | rfl | rfl | rfl | rfl | rfl | rfl | rfl | rfl | rfl | rfl | rfl | rfl | rfl | rfl | rfl | rfl | rfl | rfl | rfl | rfl | rfl | rfl | rfl | rfl | rfl | rfl | rfl | rfl | rfl | rfl | rfl | rfl | rfl | rfl | rfl | rfl
 ·simp only [evL, Int.reduceEq, decide_true, decide_false]
  intros
  refine drawD.mk' (fun w' => Ext w3 w') D1 ?_
  refine yfB (fun w' hw => hb6.ext hw) fa_71_1 l1_3 rfl ?_
  refine yieldS.ok (fun w' _ => r_convI underlying3 underlying21) ?_
  refine s61 (by omega) ⟨D1, ?_⟩
  refine yBld bd_84 [(0, i64 (10 + (h : Int))), (1, i32 (IntKind.i32.wrap a))] rfl rfl (yMki mi_84 ?_)
  exact hk _ _ (plainN rfl rfl) xd
 ·simp only [evL, Int.reduceEq, decide_true, decide_false]
  intros
  refine drawD.mk' (fun w' => Ext w3 w') D1 ?_
  refine yfB (fun w' hw => hb6.ext hw) fa_71_1 l1_3 rfl ?_
  refine s61 (by omega) ⟨D1, ?_⟩
  refine yBld bd_140 [(0, i64 (10 + (h : Int))), (1, i64 a)] rfl rfl (yMki mi_140 ?_)
  exact hk _ _ (plainN rfl rfl) xd
 ·simp only [evL, Int.reduceEq, decide_true, decide_false]
  intros
  refine drawD.mk' (fun w' => Ext w3 w') D1 ?_
  refine yfB (fun w' hw => hb6.ext hw) fa_71_1 l1_3 rfl ?_
  refine yieldS.ok (fun w' _ => r_sub) ?_
  rw [wrap_id (by omega) (by omega)]
  refine s61 (by omega) ⟨D1, ?_⟩
  refine yBld bd_140 [(0, i64 a), (1, i64 (10 + ((h : Int) - 1)))] rfl rfl (yMki mi_140 ?_)
  exact hk _ _ (plainN rfl rfl) xd
 ·simp only [evL, Int.reduceEq, decide_true, decide_false]
  intros
  exact hk _ _ rfl xx
 ·simp only [evL, Int.reduceEq, decide_true, decide_false]
  intros
  refine s61 (by omega) ?_
  refine V_sub.2 ?_
  rw [wrap_id (by omega) (by omega)]
  refine s61 (by omega) ?_
  refine bld bd_140 [(0, i64 (10 + (h : Int))), (1, i64 (10 + ((h : Int) - 1)))] rfl rfl (mki mi_140 ?_)
  exact hk _ _ (plainN rfl rfl) xx
 ·simp only [evL, Int.reduceEq, decide_false]
  intros
  refine ldA hb6 la_71 rfl ?_
  refine served64 (x := ⟨6, a, b⟩) (show _ ≤ h from Nat.zero_le _) (by omega) fun v w4 hv x4 => ?_
  have hv : v = Value.nilIface := hv
  subst hv
  refine V.ok (r_neqNilNil underlying52) (ifD_false.2 ?_)
  have D4 : Ext w4 w4.drew := (Ext.refl _).drew
  refine drawD.mk' (fun w' => Ext w4 w') D4 ?_
  refine yfB (fun w' hw => (hb6.ext x4).ext hw) fa_71_0 l1_3 rfl ?_
  refine yieldS.ok (fun w' _ => r_sub) ?_
  rw [wrap_id (by omega) (by omega)]
  refine yieldS.ok (fun w' _ => r_sub) ?_
  rw [wrap_id (by omega) (by omega)]
  refine yieldS.ok (fun w' _ => r_sub) ?_
  rw [wrap_id (by omega) (by omega)]
  refine s61 (by omega) ⟨D4, ?_⟩
  refine s61 (by omega) ⟨D4, ?_⟩
  refine s61 (by omega) ⟨D4, ?_⟩
  refine yBld bd_113 [(0, i64 6), (1, i64 (10 + ((h : Int) - 2))), (2, i64 (10 + ((h : Int) - 2))), (3, i64 (10 + ((h : Int) - 1)))] rfl rfl (yMki mi_113 ?_)
  exact hk _ _ (plainN rfl rfl) ((xx.trans x4).trans D4)
 ·simp only [evL, Int.reduceEq, decide_false]
  intros
  refine ldA hb6 la_71 rfl ?_
  refine served64 (x := ⟨7, a, b⟩) (show _ ≤ h from Nat.zero_le _) (by omega) fun v w4 hv x4 => ?_
  have hv : v = Value.nilIface := hv
  subst hv
  refine V.ok (r_neqNilNil underlying52) (ifD_false.2 ?_)
  have D4 : Ext w4 w4.drew := (Ext.refl _).drew
  refine drawD.mk' (fun w' => Ext w4 w') D4 ?_
  refine yfB (fun w' hw => (hb6.ext x4).ext hw) fa_71_0 l1_3 rfl ?_
  refine yieldS.ok (fun w' _ => r_sub) ?_
  rw [wrap_id (by omega) (by omega)]
  refine yieldS.ok (fun w' _ => r_sub) ?_
  rw [wrap_id (by omega) (by omega)]
  refine yieldS.ok (fun w' _ => r_sub) ?_
  rw [wrap_id (by omega) (by omega)]
  refine s61 (by omega) ⟨D4, ?_⟩
  refine s61 (by omega) ⟨D4, ?_⟩
  refine s61 (by omega) ⟨D4, ?_⟩
  refine yBld bd_113 [(0, i64 7), (1, i64 (10 + ((h : Int) - 2))), (2, i64 (10 + ((h : Int) - 2))), (3, i64 (10 + ((h : Int) - 1)))] rfl rfl (yMki mi_113 ?_)
  exact hk _ _ (plainN rfl rfl) ((xx.trans x4).trans D4)
 ·simp only [evL, Int.reduceEq, decide_false]
  intros
  refine ldA hb6 la_71 rfl ?_
  refine served64 (x := ⟨8, a, b⟩) (show _ ≤ h from Nat.zero_le _) (by omega) fun v w4 hv x4 => ?_
  have hv : v = Value.nilIface := hv
  subst hv
  refine V.ok (r_neqNilNil underlying52) (ifD_false.2 ?_)
  have D4 : Ext w4 w4.drew := (Ext.refl _).drew
  refine drawD.mk' (fun w' => Ext w4 w') D4 ?_
  refine yfB (fun w' hw => (hb6.ext x4).ext hw) fa_71_0 l1_3 rfl ?_
  refine yieldS.ok (fun w' _ => r_sub) ?_
  rw [wrap_id (by omega) (by omega)]
  refine yieldS.ok (fun w' _ => r_sub) ?_
  rw [wrap_id (by omega) (by omega)]
  refine yieldS.ok (fun w' _ => r_sub) ?_
  rw [wrap_id (by omega) (by omega)]
  refine s61 (by omega) ⟨D4, ?_⟩
  refine s61 (by omega) ⟨D4, ?_⟩
  refine s61 (by omega) ⟨D4, ?_⟩
  refine yBld bd_113 [(0, i64 8), (1, i64 (10 + ((h : Int) - 2))), (2, i64 (10 + ((h : Int) - 2))), (3, i64 (10 + ((h : Int) - 1)))] rfl rfl (yMki mi_113 ?_)
  exact hk _ _ (plainN rfl rfl) ((xx.trans x4).trans D4)
 ·simp only [evL, Int.reduceEq, decide_false]
  intros
  refine ldA hb6 la_71 rfl ?_
  refine served64 (x := ⟨9, a, b⟩) (show _ ≤ h from Nat.zero_le _) (by omega) fun v w4 hv x4 => ?_
  have hv : v = Value.nilIface := hv
  subst hv
  refine V.ok (r_neqNilNil underlying52) (ifD_false.2 ?_)
  have D4 : Ext w4 w4.drew := (Ext.refl _).drew
  refine drawD.mk' (fun w' => Ext w4 w') D4 ?_
  refine yfB (fun w' hw => (hb6.ext x4).ext hw) fa_71_0 l1_3 rfl ?_
  refine yieldS.ok (fun w' _ => r_sub) ?_
  rw [wrap_id (by omega) (by omega)]
  refine yieldS.ok (fun w' _ => r_sub) ?_
  rw [wrap_id (by omega) (by omega)]
  refine yieldS.ok (fun w' _ => r_sub) ?_
  rw [wrap_id (by omega) (by omega)]
  refine s61 (by omega) ⟨D4, ?_⟩
  refine s61 (by omega) ⟨D4, ?_⟩
  refine s61 (by omega) ⟨D4, ?_⟩
  refine yBld bd_113 [(0, i64 9), (1, i64 (10 + ((h : Int) - 2))), (2, i64 (10 + ((h : Int) - 2))), (3, i64 (10 + ((h : Int) - 1)))] rfl rfl (yMki mi_113 ?_)
  exact hk _ _ (plainN rfl rfl) ((xx.trans x4).trans D4)
 ·simp only [evL, Int.reduceEq, decide_false]
  intros
  refine ldA hb6 la_71 rfl ?_
  refine served64 (x := ⟨10, a, b⟩) (show _ ≤ h from Nat.zero_le _) (by omega) fun v w4 hv x4 => ?_
  have hv : v = Value.nilIface := hv
  subst hv
  refine V.ok (r_neqNilNil underlying52) (ifD_false.2 ?_)
  have D4 : Ext w4 w4.drew := (Ext.refl _).drew
  refine drawD.mk' (fun w' => Ext w4 w') D4 ?_
  refine yfB (fun w' hw => (hb6.ext x4).ext hw) fa_71_0 l1_3 rfl ?_
  refine yieldS.ok (fun w' _ => r_sub) ?_
  rw [wrap_id (by omega) (by omega)]
  refine yieldS.ok (fun w' _ => r_sub) ?_
  rw [wrap_id (by omega) (by omega)]
  refine yieldS.ok (fun w' _ => r_sub) ?_
  rw [wrap_id (by omega) (by omega)]
  refine s61 (by omega) ⟨D4, ?_⟩
  refine s61 (by omega) ⟨D4, ?_⟩
  refine s61 (by omega) ⟨D4, ?_⟩
  refine yBld bd_113 [(0, i64 10), (1, i64 (10 + ((h : Int) - 2))), (2, i64 (10 + ((h : Int) - 2))), (3, i64 (10 + ((h : Int) - 1)))] rfl rfl (yMki mi_113 ?_)
  exact hk _ _ (plainN rfl rfl) ((xx.trans x4).trans D4)
 ·simp only [evL, Int.reduceEq, decide_false]
  intros
  refine ldA hb6 la_71 rfl ?_
  refine served64 (x := ⟨11, a, b⟩) (show _ ≤ h from Nat.zero_le _) (by omega) fun v w4 hv x4 => ?_
  have hv : v = Value.nilIface := hv
  subst hv
  refine V.ok (r_neqNilNil underlying52) (ifD_false.2 ?_)
  have D4 : Ext w4 w4.drew := (Ext.refl _).drew
  refine drawD.mk' (fun w' => Ext w4 w') D4 ?_
  refine yfB (fun w' hw => (hb6.ext x4).ext hw) fa_71_0 l1_3 rfl ?_
  refine yieldS.ok (fun w' _ => r_sub) ?_
  rw [wrap_id (by omega) (by omega)]
  refine yieldS.ok (fun w' _ => r_sub) ?_
  rw [wrap_id (by omega) (by omega)]
  refine yieldS.ok (fun w' _ => r_sub) ?_
  rw [wrap_id (by omega) (by omega)]
  refine s61 (by omega) ⟨D4, ?_⟩
  refine s61 (by omega) ⟨D4, ?_⟩
  refine s61 (by omega) ⟨D4, ?_⟩
  refine yBld bd_113 [(0, i64 11), (1, i64 (10 + ((h : Int) - 2))), (2, i64 (10 + ((h : Int) - 2))), (3, i64 (10 + ((h : Int) - 1)))] rfl rfl (yMki mi_113 ?_)
  exact hk _ _ (plainN rfl rfl) ((xx.trans x4).trans D4)
 ·simp only [evL, Int.reduceEq, decide_false]
  intros
  refine ldA hb6 la_71 rfl ?_
  refine served64 (x := ⟨12, a, b⟩) (show _ ≤ h from Nat.zero_le _) (by omega) fun v w4 hv x4 => ?_
  have hv : v = Value.nilIface := hv
  subst hv
  refine V.ok (r_neqNilNil underlying52) (ifD_false.2 ?_)
  have D4 : Ext w4 w4.drew := (Ext.refl _).drew
  refine drawD.mk' (fun w' => Ext w4 w') D4 ?_
  refine yfB (fun w' hw => (hb6.ext x4).ext hw) fa_71_0 l1_3 rfl ?_
  refine yieldS.ok (fun w' _ => r_sub) ?_
  rw [wrap_id (by omega) (by omega)]
  refine yieldS.ok (fun w' _ => r_sub) ?_
  rw [wrap_id (by omega) (by omega)]
  refine yieldS.ok (fun w' _ => r_sub) ?_
  rw [wrap_id (by omega) (by omega)]
  refine s61 (by omega) ⟨D4, ?_⟩
  refine s61 (by omega) ⟨D4, ?_⟩
  refine s61 (by omega) ⟨D4, ?_⟩
  refine yBld bd_113 [(0, i64 12), (1, i64 (10 + ((h : Int) - 2))), (2, i64 (10 + ((h : Int) - 2))), (3, i64 (10 + ((h : Int) - 1)))] rfl rfl (yMki mi_113 ?_)
  exact hk _ _ (plainN rfl rfl) ((xx.trans x4).trans D4)
 ·simp only [evL, Int.reduceEq, decide_false]
  intros
  refine ldA hb6 la_71 rfl ?_
  refine served64 (x := ⟨13, a, b⟩) (show _ ≤ h from Nat.zero_le _) (by omega) fun v w4 hv x4 => ?_
  have hv : v = Value.nilIface := hv
  subst hv
  refine V.ok (r_neqNilNil underlying52) (ifD_false.2 ?_)
  have D4 : Ext w4 w4.drew := (Ext.refl _).drew
  refine drawD.mk' (fun w' => Ext w4 w') D4 ?_
  refine yfB (fun w' hw => (hb6.ext x4).ext hw) fa_71_0 l1_3 rfl ?_
  refine yieldS.ok (fun w' _ => r_sub) ?_
  rw [wrap_id (by omega) (by omega)]
  refine yieldS.ok (fun w' _ => r_sub) ?_
  rw [wrap_id (by omega) (by omega)]
  refine yieldS.ok (fun w' _ => r_sub) ?_
  rw [wrap_id (by omega) (by omega)]
  refine s61 (by omega) ⟨D4, ?_⟩
  refine s61 (by omega) ⟨D4, ?_⟩
  refine s61 (by omega) ⟨D4, ?_⟩
  refine yBld bd_113 [(0, i64 13), (1, i64 (10 + ((h : Int) - 2))), (2, i64 (10 + ((h : Int) - 2))), (3, i64 (10 + ((h : Int) - 1)))] rfl rfl (yMki mi_113 ?_)
  exact hk _ _ (plainN rfl rfl) ((xx.trans x4).trans D4)
 ·simp only [evL, Int.reduceEq, decide_false]
  intros
  refine ldA hb6 la_71 rfl ?_
  refine served64 (x := ⟨14, a, b⟩) (show _ ≤ h from Nat.zero_le _) (by omega) fun v w4 hv x4 => ?_
  have hv : v = Value.nilIface := hv
  subst hv
  refine V.ok (r_neqNilNil underlying52) (ifD_false.2 ?_)
  have D4 : Ext w4 w4.drew := (Ext.refl _).drew
  refine drawD.mk' (fun w' => Ext w4 w') D4 ?_
  refine yfB (fun w' hw => (hb6.ext x4).ext hw) fa_71_0 l1_3 rfl ?_
  refine yieldS.ok (fun w' _ => r_sub) ?_
  rw [wrap_id (by omega) (by omega)]
  refine yieldS.ok (fun w' _ => r_sub) ?_
  rw [wrap_id (by omega) (by omega)]
  refine yieldS.ok (fun w' _ => r_sub) ?_
  rw [wrap_id (by omega) (by omega)]
  refine s61 (by omega) ⟨D4, ?_⟩
  refine s61 (by omega) ⟨D4, ?_⟩
  refine s61 (by omega) ⟨D4, ?_⟩
  refine yBld bd_113 [(0, i64 14), (1, i64 (10 + ((h : Int) - 2))), (2, i64 (10 + ((h : Int) - 2))), (3, i64 (10 + ((h : Int) - 1)))] rfl rfl (yMki mi_113 ?_)
  exact hk _ _ (plainN rfl rfl) ((xx.trans x4).trans D4)
 ·simp only [evL, Int.reduceEq, decide_true, decide_false]
  intros
  refine drawD.mk' (fun w' => Ext w3 w') D1 ?_
  refine yfB (fun w' hw => hb6.ext hw) fa_71_0 l1_3 rfl ?_
  refine yieldS.ok (fun w' _ => r_sub) ?_
  rw [wrap_id (by omega) (by omega)]
  refine yieldS.ok (fun w' _ => r_sub) ?_
  rw [wrap_id (by omega) (by omega)]
  refine s61 (by omega) ⟨D1, ?_⟩
  refine s61 (by omega) ⟨D1, ?_⟩
  refine yBld bd_142 [(0, i64 15), (1, i64 (10 + ((h : Int) - 1))), (2, i64 (10 + ((h : Int) - 1)))] rfl rfl (yMki mi_142 ?_)
  exact hk _ _ (plainN rfl rfl) xd
 ·simp only [evL, Int.reduceEq, decide_true, decide_false]
  intros
  refine drawD.mk' (fun w' => Ext w3 w') D1 ?_
  refine yfB (fun w' hw => hb6.ext hw) fa_71_0 l1_3 rfl ?_
  refine yieldS.ok (fun w' _ => r_sub) ?_
  rw [wrap_id (by omega) (by omega)]
  refine yieldS.ok (fun w' _ => r_sub) ?_
  rw [wrap_id (by omega) (by omega)]
  refine s61 (by omega) ⟨D1, ?_⟩
  refine s61 (by omega) ⟨D1, ?_⟩
  refine yBld bd_142 [(0, i64 16), (1, i64 (10 + ((h : Int) - 1))), (2, i64 (10 + ((h : Int) - 1)))] rfl rfl (yMki mi_142 ?_)
  exact hk _ _ (plainN rfl rfl) xd
 ·simp only [evL, Int.reduceEq, decide_false]
  intros
  refine ldA hb6 la_71 rfl ?_
  refine served64 (x := ⟨17, a, b⟩) (show _ ≤ h from ha) (by omega) fun v w4 hv x4 => ?_
  obtain ⟨sv, rfl, hsv⟩ := (hv : NodeOwn w3.heap.size w4 v _)
  refine V.ok (r_neqNilIface underlying52) (ifD_true.2 ?_)
  exact hk _ _ ⟨sv, rfl, own_mono hsv xx.size⟩ (xx.trans x4)
 ·simp only [evL, Int.reduceEq, decide_false]
  intros
  refine ldA hb6 la_71 rfl ?_
  refine served64 (x := ⟨18, a, b⟩) (show _ ≤ h from ha) (by omega) fun v w4 hv x4 => ?_
  obtain ⟨sv, rfl, hsv⟩ := (hv : NodeOwn w3.heap.size w4 v _)
  refine V.ok (r_neqNilIface underlying52) (ifD_true.2 ?_)
  exact hk _ _ ⟨sv, rfl, own_mono hsv xx.size⟩ (xx.trans x4)
 ·simp only [evL, Int.reduceEq, decide_false]
  intros
  refine ldA hb6 la_71 rfl ?_
  refine served64 (x := ⟨19, a, b⟩) (show _ ≤ h from Nat.zero_le _) (by omega) fun v w4 hv x4 => ?_
  have hv : v = Value.nilIface := hv
  subst hv
  refine V.ok (r_neqNilNil underlying52) (ifD_false.2 ?_)
  have D4 : Ext w4 w4.drew := (Ext.refl _).drew
  refine drawD.mk' (fun w' => Ext w4 w') D4 ?_
  refine yfB (fun w' hw => (hb6.ext x4).ext hw) fa_71_0 l1_3 rfl ?_
  refine yieldS.ok (fun w' _ => r_sub) ?_
  rw [wrap_id (by omega) (by omega)]
  refine yieldS.ok (fun w' _ => r_sub) ?_
  rw [wrap_id (by omega) (by omega)]
  refine yieldS.ok (fun w' _ => r_sub) ?_
  rw [wrap_id (by omega) (by omega)]
  refine s61 (by omega) ⟨D4, ?_⟩
  refine s61 (by omega) ⟨D4, ?_⟩
  refine s61 (by omega) ⟨D4, ?_⟩
  refine yBld bd_113 [(0, i64 19), (1, i64 (10 + ((h : Int) - 2))), (2, i64 (10 + ((h : Int) - 2))), (3, i64 (10 + ((h : Int) - 1)))] rfl rfl (yMki mi_113 ?_)
  exact hk _ _ (plainN rfl rfl) ((xx.trans x4).trans D4)
 ·simp only [evL, Int.reduceEq, decide_false]
  intros
  refine ldA hb6 la_71 rfl ?_
  refine served64 (x := ⟨20, a, b⟩) (show _ ≤ h from Nat.zero_le _) (by omega) fun v w4 hv x4 => ?_
  have hv : v = Value.nilIface := hv
  subst hv
  refine V.ok (r_neqNilNil underlying52) (ifD_false.2 ?_)
  have D4 : Ext w4 w4.drew := (Ext.refl _).drew
  refine drawD.mk' (fun w' => Ext w4 w') D4 ?_
  refine yfB (fun w' hw => (hb6.ext x4).ext hw) fa_71_0 l1_3 rfl ?_
  refine yieldS.ok (fun w' _ => r_sub) ?_
  rw [wrap_id (by omega) (by omega)]
  refine yieldS.ok (fun w' _ => r_sub) ?_
  rw [wrap_id (by omega) (by omega)]
  refine yieldS.ok (fun w' _ => r_sub) ?_
  rw [wrap_id (by omega) (by omega)]
  refine s61 (by omega) ⟨D4, ?_⟩
  refine s61 (by omega) ⟨D4, ?_⟩
  refine s61 (by omega) ⟨D4, ?_⟩
  refine yBld bd_113 [(0, i64 20), (1, i64 (10 + ((h : Int) - 2))), (2, i64 (10 + ((h : Int) - 2))), (3, i64 (10 + ((h : Int) - 1)))] rfl rfl (yMki mi_113 ?_)
  exact hk _ _ (plainN rfl rfl) ((xx.trans x4).trans D4)
 ·simp only [evL, Int.reduceEq, decide_false]
  intros
  refine ldA hb6 la_71 rfl ?_
  refine served64 (x := ⟨21, a, b⟩) (show _ ≤ h from Nat.zero_le _) (by omega) fun v w4 hv x4 => ?_
  have hv : v = Value.nilIface := hv
  subst hv
  refine V.ok (r_neqNilNil underlying52) (ifD_false.2 ?_)
  have D4 : Ext w4 w4.drew := (Ext.refl _).drew
  refine drawD.mk' (fun w' => Ext w4 w') D4 ?_
  refine yfB (fun w' hw => (hb6.ext x4).ext hw) fa_71_0 l1_3 rfl ?_
  refine yieldS.ok (fun w' _ => r_sub) ?_
  rw [wrap_id (by omega) (by omega)]
  refine yieldS.ok (fun w' _ => r_sub) ?_
  rw [wrap_id (by omega) (by omega)]
  refine yieldS.ok (fun w' _ => r_sub) ?_
  rw [wrap_id (by omega) (by omega)]
  refine s61 (by omega) ⟨D4, ?_⟩
  refine s61 (by omega) ⟨D4, ?_⟩
  refine s61 (by omega) ⟨D4, ?_⟩
  refine yBld bd_113 [(0, i64 21), (1, i64 (10 + ((h : Int) - 2))), (2, i64 (10 + ((h : Int) - 2))), (3, i64 (10 + ((h : Int) - 1)))] rfl rfl (yMki mi_113 ?_)
  exact hk _ _ (plainN rfl rfl) ((xx.trans x4).trans D4)
 ·simp only [evL, Int.reduceEq, decide_true, decide_false]
  intros
  refine V_sub.2 ?_
  rw [wrap_id (by omega) (by omega)]
  refine s61 (by omega) ?_
  refine V_sub.2 ?_
  rw [wrap_id (by omega) (by omega)]
  refine s61 (by omega) ?_
  refine V_sub.2 ?_
  rw [wrap_id (by omega) (by omega)]
  refine s61 (by omega) ?_
  refine V_sub.2 ?_
  rw [wrap_id (by omega) (by omega)]
  refine s61 (by omega) ?_
  refine bld bd_144 [(0, i64 (10 + ((h : Int) - 3))), (1, i64 (10 + ((h : Int) - 3))), (2, i64 (10 + ((h : Int) - 2))), (3, i64 (10 + ((h : Int) - 1)))] rfl rfl (mki mi_144 ?_)
  exact hk _ _ (plainN rfl rfl) xx
 ·simp only [evL, Int.reduceEq, decide_true, decide_false]
  intros
  refine ldB hb6 fa_71_1 l1_3 rfl ?_
  refine bld bd_146 [(0, i64 a)] rfl rfl (mki mi_146 ?_)
  exact hk _ _ (plainN rfl rfl) xx
 ·simp only [evL, Int.reduceEq, decide_true, decide_false]
  intros
  refine drawD.mk' (fun w' => Ext w3 w') D1 ?_
  refine yieldS.ok (fun w' _ => r_sub) ?_
  rw [wrap_id (by omega) (by omega)]
  refine yfB (fun w' hw => hb6.ext hw) fa_71_1 l1_3 rfl ?_
  refine s61 (by omega) ⟨D1, ?_⟩
  refine yBld bd_148 [(0, i64 (10 + ((h : Int) - 1))), (1, i64 a)] rfl rfl (yMki mi_148 ?_)
  exact hk _ _ (plainN rfl rfl) xd
 ·simp only [evL, Int.reduceEq, decide_true, decide_false]
  intros
  refine s61 (by omega) ?_
  refine bld bd_84 [(0, i64 (10 + (h : Int)))] rfl rfl (mki mi_84 ?_)
  exact hk _ _ (plainN rfl rfl) xx
 ·simp only [evL, Int.reduceEq, decide_true, decide_false]
  intros
  refine drawD.mk' (fun w' => Ext w3 w') D1 ?_
  refine yfB (fun w' hw => hb6.ext hw) fa_71_0 l1_3 rfl ?_
  refine yieldS.ok (fun w' _ => r_sub) ?_
  rw [wrap_id (by omega) (by omega)]
  refine yieldS.ok (fun w' _ => r_sub) ?_
  rw [wrap_id (by omega) (by omega)]
  refine s61 (by omega) ⟨D1, ?_⟩
  refine s61 (by omega) ⟨D1, ?_⟩
  refine yBld bd_142 [(0, i64 26), (1, i64 (10 + ((h : Int) - 1))), (2, i64 (10 + ((h : Int) - 1)))] rfl rfl (yMki mi_142 ?_)
  exact hk _ _ (plainN rfl rfl) xd
 ·simp only [evL, Int.reduceEq, decide_false]
  intros
  refine ldA hb6 la_71 rfl ?_
  refine served64 (x := ⟨27, a, b⟩) (show _ ≤ h from ha) (by omega) fun v w4 hv x4 => ?_
  obtain ⟨sv, rfl, hsv⟩ := (hv : NodeOwn w3.heap.size w4 v _)
  refine V.ok (r_neqNilIface underlying52) (ifD_true.2 ?_)
  exact hk _ _ ⟨sv, rfl, own_mono hsv xx.size⟩ (xx.trans x4)
 ·simp only [evL, Int.reduceEq, decide_false]
  intros
  refine ldA hb6 la_71 rfl ?_
  refine served64 (x := ⟨28, a, b⟩) (show _ ≤ h from ha) (by omega) fun v w4 hv x4 => ?_
  obtain ⟨sv, rfl, hsv⟩ := (hv : NodeOwn w3.heap.size w4 v _)
  refine V.ok (r_neqNilIface underlying52) (ifD_true.2 ?_)
  exact hk _ _ ⟨sv, rfl, own_mono hsv xx.size⟩ (xx.trans x4)
 ·simp only [evL, Int.reduceEq, decide_false]
  intros
  refine ldA hb6 la_71 rfl ?_
  refine served64 (x := ⟨29, a, b⟩) (show _ ≤ h from ha) (by omega) fun v w4 hv x4 => ?_
  obtain ⟨sv, rfl, hsv⟩ := (hv : NodeOwn w3.heap.size w4 v _)
  refine V.ok (r_neqNilIface underlying52) (ifD_true.2 ?_)
  exact hk _ _ ⟨sv, rfl, own_mono hsv xx.size⟩ (xx.trans x4)
 ·simp only [evL, Int.reduceEq, decide_false]
  intros
  refine ldA hb6 la_71 rfl ?_
  refine served64 (x := ⟨30, a, b⟩) (show _ ≤ h from ha) (by omega) fun v w4 hv x4 => ?_
  obtain ⟨sv, rfl, hsv⟩ := (hv : NodeOwn w3.heap.size w4 v _)
  refine V.ok (r_neqNilIface underlying52) (ifD_true.2 ?_)
  exact hk _ _ ⟨sv, rfl, own_mono hsv xx.size⟩ (xx.trans x4)
 ·simp only [evL, Int.reduceEq, decide_false]
  intros
  refine ldA hb6 la_71 rfl ?_
  refine served64 (x := ⟨31, a, b⟩) (show _ ≤ h from ha) (by omega) fun v w4 hv x4 => ?_
  obtain ⟨sv, rfl, hsv⟩ := (hv : NodeOwn w3.heap.size w4 v _)
  refine V.ok (r_neqNilIface underlying52) (ifD_true.2 ?_)
  exact hk _ _ ⟨sv, rfl, own_mono hsv xx.size⟩ (xx.trans x4)
 ·simp only [evL, Int.reduceEq, decide_false]
  intros
  refine ldA hb6 la_71 rfl ?_
  refine served64 (x := ⟨32, a, b⟩) (show _ ≤ h from ha) (by omega) fun v w4 hv x4 => ?_
  obtain ⟨sv, rfl, hsv⟩ := (hv : NodeOwn w3.heap.size w4 v _)
  refine V.ok (r_neqNilIface underlying52) (ifD_true.2 ?_)
  exact hk _ _ ⟨sv, rfl, own_mono hsv xx.size⟩ (xx.trans x4)
 ·simp only [evL, Int.reduceEq, decide_true, decide_false]
  intros
  refine drawD.mk' (fun w' => Ext w3 w') D1 ?_
  refine yfB (fun w' hw => hb6.ext hw) fa_71_1 l1_3 rfl ?_
  refine s61 (by omega) ⟨D1, ?_⟩
  refine yBld bd_150 [(0, i64 (10 + (h : Int))), (1, i64 a)] rfl rfl (yMki mi_150 ?_)
  exact hk _ _ (plainN rfl rfl) xd
 ·simp only [evL, Int.reduceEq, decide_true, decide_false]
  intros
  refine drawD.mk' (fun w' => Ext w3 w') D1 ?_
  refine yfB (fun w' hw => hb6.ext hw) fa_71_1 l1_3 rfl ?_
  refine yieldS.ok (fun w' _ => r_sub) ?_
  rw [wrap_id (by omega) (by omega)]
  refine s61 (by omega) ⟨D1, ?_⟩
  refine yBld bd_152 [(0, i64 a), (1, i64 (10 + ((h : Int) - 1)))] rfl rfl (yMki mi_152 ?_)
  exact hk _ _ (plainN rfl rfl) xd
 ·simp only [evL, Int.reduceEq, decide_true, decide_false]
  intros
  refine drawD.mk' (fun w' => Ext w3 w') D1 ?_
  refine yfB (fun w' hw => hb6.ext hw) fa_71_1 l1_3 rfl ?_
  refine yieldS.ok (fun w' _ => r_convI underlying3 underlying21) ?_
  refine s61 (by omega) ⟨D1, ?_⟩
  refine yBld bd_84 [(0, i64 (10 + (h : Int))), (1, i32 (IntKind.i32.wrap a))] rfl rfl (yMki mi_84 ?_)
  exact hk _ _ (plainN rfl rfl) xd
 ·simp only [evL, Int.reduceEq, decide_false]
  intros
  refine ldA hb6 la_71 rfl ?_
  refine served64 (x := ⟨36, a, b⟩) (show _ ≤ h from ha) (by omega) fun v w4 hv x4 => ?_
  obtain ⟨sv, rfl, hsv⟩ := (hv : NodeOwn w3.heap.size w4 v _)
  refine V.ok (r_neqNilIface underlying52) (ifD_true.2 ?_)
  exact hk _ _ ⟨sv, rfl, own_mono hsv xx.size⟩ (xx.trans x4)
 ·simp only [evL, Int.reduceEq, decide_true, decide_false]
  intros
  have a1 : 0 ≤ a := a1
  have hn : a < (i.methods.length : Int) := hn
  have ha : (i.meth a).params.length ≤ h := ha
  refine ldB hb4 fa_27_3 l1_25 rfl (ldB hb6 fa_71_1 l1_3 rfl ?_)
  obtain ⟨ka, rfl⟩ : ∃ ka : Nat, a = ka := ⟨a.toNat, by omega⟩
  have hmi := meth_get a1 hn
  rw [Int.toNat_natCast] at hmi
  refine ldS xa_25 la_47 hA.mt hmi mth_len fun row hrow => ?_
  obtain ⟨pv9, lv9, cv9, rfl, hp9, _, _⟩ := hrow
  obtain ⟨a7, c7, rfl⟩ := hp9.shape
  rename_i hl9 hc9
  obtain ⟨a8, c8, rfl⟩ := hl9.shape
  obtain ⟨a9, c9, rfl⟩ := SliceIs.shape hc9
  refine asB sa_47 rfl rfl fun b9 w9 hb9 x9 => ?_
  have hb9 : Boxed w9 b9 [.slice a7 (i.meth (ka : Int)).params.length c7, i64 (i.meth (ka : Int)).result, .slice a8 (i.meth (ka : Int)).locals.length c8, .slice a9 (i.meth (ka : Int)).code.length c9] := hb9
  have D9 : Ext w9 w9.drew := (Ext.refl _).drew
  have xd9 := (xx.trans x9).trans D9
  have hp9 := (hp9.ext x9).ext D9
  refine drawD.mk' (fun w' => Ext w9 w') D9 ?_
  refine yfB (fun w' hw => (hb6.ext x9).ext hw) fa_71_1 l1_3 rfl ?_
  refine yfB (fun w' hw => hb9.ext hw) fa_47_1 l1_3 rfl ?_
  refine yfB (fun w' hw => hb9.ext hw) fa_47_0 l1_23 rfl (yLen xa_23 hp9 ?_)
  refine yieldS.ok (fun w' _ => r_sub) ?_
  rw [wrap_id (by omega) (by omega)]
  refine yfB (fun w' hw => hb9.ext hw) fa_47_0 l1_23 rfl (yLen xa_23 hp9 ?_)
  refine result62 (by omega) ⟨D9, ?_⟩
  refine row63 ha (by omega) fun v w10 ho10 x10 => ⟨D9.trans x10, ?_⟩
  refine yBld bd_155 [(0, i64 (ka : Nat)), (1, i64 _), (2, v)] rfl (by simp [own_one ho10, one_i]) (yMki mi_155 ?_)
  exact hk _ _ ⟨v, rfl, own_mono ho10 xd9.size⟩ (xd9.trans x10)
 ·simp only [evL, Int.reduceEq, decide_true, decide_false]
  intros
  have a1 : 0 ≤ a := a1
  have hn : a < (i.imports.length : Int) := hn
  have ha : (i.imp a).params.length ≤ h := ha
  refine ldB hb4 fa_27_2 l1_24 rfl (ldB hb6 fa_71_1 l1_3 rfl ?_)
  obtain ⟨ka, rfl⟩ : ∃ ka : Nat, a = ka := ⟨a.toNat, by omega⟩
  have hmi := imp_get a1 hn
  rw [Int.toNat_natCast] at hmi
  refine ldS xa_24 la_74 hA.im hmi imp_len fun row hrow => ?_
  obtain ⟨pv9, rfl, hp9⟩ := hrow
  obtain ⟨a7, c7, rfl⟩ := hp9.shape
  refine asB sa_74 rfl rfl fun b9 w9 hb9 x9 => ?_
  have hb9 : Boxed w9 b9 [.string (i.imp (ka : Int)).name, i64 (i.imp (ka : Int)).exp, .slice a7 (i.imp (ka : Int)).params.length c7, i64 (i.imp (ka : Int)).result] := hb9
  have D9 : Ext w9 w9.drew := (Ext.refl _).drew
  have xd9 := (xx.trans x9).trans D9
  have hp9 := (hp9.ext x9).ext D9
  refine drawD.mk' (fun w' => Ext w9 w') D9 ?_
  refine yfB (fun w' hw => (hb6.ext x9).ext hw) fa_71_1 l1_3 rfl ?_
  refine yfB (fun w' hw => hb9.ext hw) fa_74_3 l1_3 rfl ?_
  refine yfB (fun w' hw => hb9.ext hw) fa_74_2 l1_23 rfl (yLen xa_23 hp9 ?_)
  refine yieldS.ok (fun w' _ => r_sub) ?_
  rw [wrap_id (by omega) (by omega)]
  refine yfB (fun w' hw => hb9.ext hw) fa_74_2 l1_23 rfl (yLen xa_23 hp9 ?_)
  refine result62 (by omega) ⟨D9, ?_⟩
  refine row63 ha (by omega) fun v w10 ho10 x10 => ⟨D9.trans x10, ?_⟩
  refine yBld bd_157 [(0, i64 (ka : Nat)), (1, i64 _), (2, v)] rfl (by simp [own_one ho10, one_i]) (yMki mi_157 ?_)
  exact hk _ _ ⟨v, rfl, own_mono ho10 xd9.size⟩ (xd9.trans x10)
 ·simp only [evL, Int.reduceEq, decide_true, decide_false]
  intros
  refine ldB hb5 fa_47_1 l1_3 rfl ?_
  refine V_sub.2 ?_
  rw [wrap_id (by omega) (by omega)]
  refine result62 (by omega) ?_
  refine bld bd_105 [(0, i64 _)] rfl rfl (mki mi_105 ?_)
  exact hk _ _ (plainN rfl rfl) xx
end Go.Proofs.YtcdbikfnlggbnaaGreatDoor
namespace Go.Proofs.YtcdbikfnlggbnaaGreatDoor
open Tryz
open Go.Vc Go.Tc
variable {w : World} {K : Value → World → Prop}
def aimN (st : List Int) : GNode → GNode
 | .goto t => .goto (nth st t.toNat)
 | .branch c t => .branch c (nth st t.toNat)
 | n => n
def aimOk (st : List Int) : GNode → Prop
 | .goto t => 0 ≤ t ∧ t < st.length
 | .branch _ t => 0 ≤ t ∧ t < st.length
 | _ => True
theorem aimed32 {av sv : Value} {n : GNode} {st : List Int} (hs : IntsAre w sv st) (hb : aimOk st n) (hk : ∀ w', Ext w w' → K ((aimN st n).val av) w') : callD prog 32 #[n.val av, sv] w K := by
 apply F32_wp
 unfold F32_den
 have other : ∀ {t : Nat} {c : Array Value}, t ≠ 146 → t ≠ 148 → n.val av = .iface t (.agg c) → aimN st n = n → F32_den (n.val av) sv w K := fun h1 h2 he h3 => by
  unfold F32_den
  rw [he]
  refine tm ta_146 h1 fun _ _ _ => ?_
  refine tm ta_148 h2 fun _ _ _ => ?_
  rw [h3, he] at hk
  exact hk _ (Ext.refl _)
 unfold F32_den at other
 cases n with
 | goto t =>
  obtain ⟨h0, h1⟩ := hb
  refine th ta_146 ?_
  refine asK sa_146 rfl rfl fun w1 hB x1 => ?_
  have hB : Blk w1 w.heap.size [i64 t] 146 := hB
  refine ldB (Blk.boxed hB) fa_146_0 l1_3 rfl ?_
  obtain ⟨t, rfl⟩ : ∃ q : Nat, t = q := ⟨t.toNat, by omega⟩
  refine ldx xa_23 l1_3 (hs.ext x1) (by omega) (by omega) (getI (getN (by omega))) ?_
  refine stF fa_146_0 inf3 hB (n := 1) rfl (by decide) rfl ?_
  have hB2 := hB.set 0 (i64 (nth st t))
  have x2 : Ext w (w1.setCell ⟨w.heap.size, 0, none⟩ (i64 (nth st t))) := x1.setCell (Nat.le_refl _) _
  generalize w1.setCell ⟨w.heap.size, 0, none⟩ (i64 (nth st t)) = w2 at hB2 x2
  refine ldA (Blk.boxed hB2) la_146 rfl (mki mi_146 ?_)
  exact hk _ x2
 | branch c t =>
  obtain ⟨h0, h1⟩ := hb
  refine tm ta_146 (by decide) fun _ _ _ => ?_
  refine th ta_148 ?_
  refine asK sa_148 rfl rfl fun w1 hB x1 => ?_
  have hB : Blk w1 w.heap.size [i64 c, i64 t] 148 := hB
  refine ldB (Blk.boxed hB) fa_148_1 l1_3 rfl ?_
  obtain ⟨t, rfl⟩ : ∃ q : Nat, t = q := ⟨t.toNat, by omega⟩
  refine ldx xa_23 l1_3 (hs.ext x1) (by omega) (by omega) (getI (getN (by omega))) ?_
  refine stF fa_148_1 inf3 hB (n := 2) rfl (by decide) rfl ?_
  have hB2 := hB.set 1 (i64 (nth st t))
  have x2 : Ext w (w1.setCell ⟨w.heap.size, 1, none⟩ (i64 (nth st t))) := x1.setCell (Nat.le_refl _) _
  generalize w1.setCell ⟨w.heap.size, 1, none⟩ (i64 (nth st t)) = w2 at hB2 x2
  refine ldA (Blk.boxed hB2) la_148 rfl (mki mi_148 ?_)
  exact hk _ x2
 | _ => exact other (by decide) (by decide) rfl rfl
end Go.Proofs.YtcdbikfnlggbnaaGreatDoor
namespace Go.Tc
def cf (r : List Bool) : Nat := r.countP (· == false)
theorem cf_set {r : List Bool} {k : Nat} (hk : k < r.length) (h : r.getD k false = false) : cf (r.set k true) + 1 = cf r := by
 have e : r[k] = false := by
  rw [List.getD_eq_getElem?_getD, List.getElem?_eq_getElem hk] at h; exact h
 have h1 : 0 < r.countP (· == false) := List.countP_pos_iff.2 ⟨r[k], List.getElem_mem hk, by rw [e]; rfl⟩
 have h2 : (r.set k true).countP (· == false) = r.countP (· == false) - 1 + 0 := by
  rw [List.countP_set hk, e]; rfl
 unfold cf
 omega
def pushP (x : Ins) (pc : Nat) : List Int := (if x.op = 23 ∨ x.op = 24 then [x.a] else []) ++ (if x.op ≠ 23 ∧ x.op ≠ 39 then [(pc : Int) + 1] else [])
theorem push_mem {x : Ins} {pc : Nat} {t : Int} : t ∈ pushP x pc ↔ t ∈ nextS x pc := by
 unfold pushP nextS
 by_cases c1 : x.op = 23
 ·simp [c1]
 by_cases c2 : x.op = 24
 ·simp [c2]; exact Or.comm
 by_cases c3 : x.op = 39
 ·simp [c3]
 ·simp [c1, c2, c3]
end Go.Tc
namespace Go.Proofs.YtcdbikfnlggbnaaGreatDoor
open Tryz
open Go.Vc Go.Tc
variable {w : World} {K : Value → World → Prop}
structure Rch (i : Img) (m : Mth) (st : St) (l : List Int) (r : List Bool) : Prop where
 rl : r.length = m.code.length
 ls : ∀ t ∈ l, 0 ≤ t ∧ t < m.code.length ∧ st.h t.toNat = true
 rs : ∀ k, r.getD k false = true → st.h k = true
 z : r.getD 0 false = true ∨ (0 : Int) ∈ l
 cl : ∀ k, r.getD k false = true → ∀ to ∈ nextS (m.ins k) k, r.getD to.toNat false = true ∨ to ∈ l
 bd : 3 * cf r + l.length ≤ 3 * m.code.length + 1
structure Rm (gr : Nat) (w3 w : World) (v : Value) (l : List Int) (r : List Bool) : Prop where
 own : w.ownsRow (gr + 1) 3 1 v l.length (l.map i64)
 sh : ∃ a c, v = .slice (some ⟨a, 0, none⟩) l.length c
 blk : Blk w gr (r.map .bool) 4
 fr : Fr (fun k => gr ≤ k) w3 w
theorem Rm.ext {gr : Nat} {w3 w' : World} {v : Value} {l : List Int} {r : List Bool} (h : Rm gr w3 w v l r) (hx : Ext w w') : Rm gr w3 w' v l r := ⟨hx.own h.own, h.sh, h.blk.ext hx, h.fr.trans (Fr.of_ext hx) fun _ _ h => h⟩
theorem Rm.push {gr : Nat} {w3 : World} {v : Value} {l : List Int} {r : List Bool} {t : Int} (h : Rm gr w3 w v l r) (hl : l.length ≤ 100000) (hk : ∀ v' w', Rm gr w3 w' v' (l ++ [t]) r → Fr (fun k => v.ownBlock = some k) w w' → K v' w') :
  V prog (Instr.buildSlice 23 1 #[(0, i64 t)]) w fun u w1 => V prog (Builtin.append_ #[23, 23] 23 #[v, u]) w1 K := by
 refine bsl xe_23 [i64 t] rfl rfl (by simp) rfl fun u w1 ho1 x1 => ?_
 have h1 := h.ext x1
 have hB := h1.blk.lt
 refine apO xe_23 h1.own (SliceIs.of_own ho1) rfl (by omega) (by unfold maxLen; omega) (by omega) fun v2 w2 ho2 hg2 => ?_
 have hlo : ∀ k, v.ownBlock = some k → gr + 1 ≤ k := fun k hk => (h.own.lt k hk).1
 have f2 : Fr (fun k => v.ownBlock = some k) w1 w2 := Fr.of_grown hg2 fun k hk => hk
 have ho2 : w2.ownsRow (gr + 1) 3 1 v2 (l ++ [t]).length ((l ++ [t]).map i64) := by simpa using ho2
 refine hk v2 w2 ⟨ho2, ?_, f2.blk h1.blk fun hk => by have := hlo _ hk; omega, h1.fr.trans (f2.mono fun k hk => by have := hlo k hk; omega) fun _ _ h => h⟩ ((Fr.of_ext x1).trans f2 fun _ _ h => h)
 rcases ho2.2 with ⟨_, e⟩ | ⟨g, cap, _, rfl, _⟩
 ·simp at e
 ·exact ⟨_, _, rfl⟩
set_option maxHeartbeats 1000000 in
theorem reached30 {row : List Value} {i : Img} {m : Mth} {st : St} (hrow : MthIs w row m) (hn1 : 1 ≤ m.code.length) (hn2 : m.code.length ≤ 120) (h0 : st.h 0 = true) (hled : ∀ k, st.h k = true → Led i m st k) (_ : WF m st)
  (hk : ∀ g r w', Blk w' g (r.map .bool) 4 → w.heap.size ≤ g → Rch i m st [] r → Ext w w' → K (.slice (some ⟨g, 0, none⟩) m.code.length m.code.length) w') : callD prog 30 #[.agg row.toArray] w K := by
 obtain ⟨pv, lv, cv, rfl, hp, hl, hc⟩ := hrow
 apply F30_wp
 unfold F30_den
 refine bx fun b1 w1 hb1 x1 => ?_
 have hb1 : Boxed w1 b1 [pv, i64 m.result, lv, cv] := hb1
 refine ldB hb1 fa_47_3 l1_45 rfl (lnx xa_45 (hc.ext x1) ?_)
 refine mkB underlying78 inf4 rfl (by omega) (by omega) fun w2 hB2 x2 z2 => ?_
 have hgr : w.heap.size ≤ w1.heap.size := x1.size
 generalize hgr1 : w1.heap.size = gr at hB2 z2 hgr
 refine bsl xe_23 [i64 0] rfl rfl (by simp) rfl fun v3 w3 ho3 x3 => ?_
 have x13 := x2.trans x3
 have hb3 := hb1.ext x13
 have hc3 := hc.ext (x1.trans x13)
 have x03 := x1.trans x13
 have hB3 := hB2.ext x3
 have cf0 : cf (List.replicate m.code.length false) = m.code.length := by simp [cf, List.countP_replicate]
 have gd0 : ∀ k, (List.replicate m.code.length false).getD k false = false := fun k => by
  simp only [List.getD_eq_getElem?_getD, List.getElem?_replicate]; split <;> rfl
 have ini : Rm gr w3 w3 v3 [0] (List.replicate m.code.length false) ∧ Rch i m st [0] (List.replicate m.code.length false) := by
  refine ⟨⟨own_mono ho3 (by omega), ?_, by simpa using hB3, Fr.refl _ _⟩, by simp, fun t ht => ?_, fun k hk => ?_, .inr (by simp), fun k hk => ?_, by rw [cf0]; simp⟩
  ·rcases ho3.2 with ⟨_, e⟩ | ⟨g, cap, _, rfl, _⟩
   ·cases e
   ·exact ⟨_, _, rfl⟩
  ·rw [List.mem_singleton] at ht; subst ht; exact ⟨by omega, by omega, h0⟩
  iterate 2
   ·rw [gd0] at hk; cases hk
 refine ⟨fun t w' => ∃ l r, Rm gr w3 w' t l r ∧ Rch i m st l r, fun t w' => mu fun q => ∃ l r, (Rm gr w3 w' t l r ∧ Rch i m st l r) ∧ 3 * cf r + l.length = q, ⟨_, _, ini⟩, ?_⟩
 rintro t w4 ⟨l0, r0, hh0⟩ _
 obtain ⟨l, r, ⟨M, R⟩, hmu⟩ := mu_spec (p := fun q => ∃ l r, (Rm gr w3 w4 t l r ∧ Rch i m st l r) ∧ 3 * cf r + l.length = q) ⟨_, l0, r0, hh0, rfl⟩
 clear hh0 l0 r0
 obtain ⟨ga, cap, rfl⟩ := M.sh
 have ho := M.own
 have hbd := R.bd
 have hrl := R.rl
 have step : ∀ {t' : Value} {w' : World} {l' : List Int} {r' : List Bool}, Rm gr w3 w' t' l' r' → Rch i m st l' r' → 3 * cf r' + l'.length < 3 * cf r + l.length → (∃ l r, Rm gr w3 w' t' l r ∧ Rch i m st l r) ∧ mu (fun q => ∃ l r, (Rm gr w3 w' t' l r ∧ Rch i m st l r) ∧ 3 * cf r + l.length = q) < mu (fun q => ∃ l' r, (Rm gr w3 w4 (.slice (some ⟨ga, 0, none⟩) l.length cap) l' r ∧ Rch i m st l' r) ∧ 3 * cf r + l'.length = q) := fun h1 h2 h3 => ⟨⟨_, _, h1, h2⟩, by
  rw [← hmu]
  exact Nat.lt_of_le_of_lt (mu_le ⟨_, _, ⟨h1, h2⟩, rfl⟩) h3⟩
 refine lnx xa_23 (SliceIs.of_own ho) (V_gtr.2 (ifD_dec (fun hgt => ?_) fun hle => ?_))
 case refine_2 =>
  have : l = [] := List.eq_nil_of_length_eq_zero (by omega)
  subst this
  exact hk gr r w4 M.blk hgr R (M.fr.ext x03 fun k hk => by omega)
 refine lnx xa_23 (SliceIs.of_own ho) (V_sub.2 ?_)
 rw [wrap_id (by omega) (by omega), show (l.length : Int) - 1 = ((l.length - 1 : Nat) : Int) by omega]
 have hlm := getN (l := l) (j := l.length - 1) (by omega)
 refine ldO' xa_23 l1_3 ho (by omega) (by omega) (getI hlm) ?_
 obtain ⟨t0, t1, t2⟩ := R.ls _ (List.mem_of_getElem? hlm)
 have hsplit : l = l.take (l.length - 1) ++ [nth l (l.length - 1)] := by
  have := List.take_add_one (l := l) (i := l.length - 1)
  rw [hlm] at this
  simp only [Option.toList_some] at this
  rw [← this, List.take_of_length_le (by omega)]
 obtain ⟨pc, hpc⟩ : ∃ pc : Nat, nth l (l.length - 1) = pc := ⟨(nth l (l.length - 1)).toNat, by omega⟩
 rw [hpc] at t0 t1 t2 hsplit ⊢
 rw [Int.toNat_natCast] at t2
 have hlen2 : (l.take (l.length - 1)).length = l.length - 1 := by simp
 refine lnx xa_23 (SliceIs.of_own ho) (V_sub.2 ?_)
 rw [wrap_id (by omega) (by omega), show (l.length : Int) - 1 = ((l.length - 1 : Nat) : Int) by omega]
 refine slO underlying23 inf3 (by decide) ho (by omega) (by omega) fun ho2 => ?_
 rw [Nat.mul_one, ← List.map_take] at ho2
 generalize hl2 : l.take (l.length - 1) = l2 at *
 have M2 : Rm gr w3 w4 (.slice (some ⟨ga, 0, none⟩) (l.length - 1) cap) l2 r := ⟨by rw [hlen2]; exact ho2, ⟨ga, cap, by rw [hlen2]⟩, M.blk, M.fr⟩
 have hin : ∀ t, t ∈ l → t ∈ l2 ∨ t = pc := fun t ht => by
  rw [hsplit] at ht
  rcases List.mem_append.1 ht with h | h
  ·exact .inl h
  ·rw [List.mem_singleton] at h; exact .inr h
 have hin2 : ∀ t, t ∈ l2 → t ∈ l := fun t ht => by rw [hsplit]; exact List.mem_append_left _ ht
 have hsl : SliceIs w4 (.slice (some ⟨gr, 0, none⟩) m.code.length m.code.length) 1 m.code.length (r.map .bool) := M.blk.slice (by simpa using hrl) (by unfold maxLen; omega)
 refine ldx xa_78 l1_4 hsl (by omega) (by omega) (getB' (by omega)) ?_
 cases hr : r.getD pc false with
 | true =>
  refine ifD_true.2 (step M2 ⟨hrl, fun t ht => R.ls t (hin2 t ht), R.rs, ?_, fun k hk to hto => ?_, by omega⟩ (by omega))
  ·rcases R.z with h | h
   ·exact .inl h
   ·rcases hin _ h with h | h
    ·exact .inr h
    ·left
     have : pc = 0 := by omega
     rw [← this]; exact hr
  ·rcases R.cl k hk to hto with h | h
   ·exact .inl h
   ·rcases hin _ h with h | h
    ·exact .inr h
    ·left; subst h; rw [Int.toNat_natCast]; exact hr
 | false =>
 refine ifD_false.2 ?_
 refine stB xa_78 inf4 M2.blk (n := m.code.length) (by simpa using hrl) (by omega) (by omega) rfl ?_
 rw [Int.toNat_natCast]
 have M3 : Rm gr w3 (w4.setCell ⟨gr, pc, none⟩ (.bool true)) (.slice (some ⟨ga, 0, none⟩) (l.length - 1) cap) l2 (r.set pc true) := by
  refine ⟨(Fr.of_set (S := fun k => k = gr) rfl).own M2.own fun k hk he => by have := (M2.own.lt k hk).1; omega, M2.sh, ?_, M2.fr.set (Nat.le_refl _)⟩
  have := M2.blk.set pc (.bool true)
  rwa [← List.map_set] at this
 generalize w4.setCell ⟨gr, pc, none⟩ (.bool true) = w5 at M3
 have x15 : Ext w1 w5 := M3.fr.ext x13 fun k hk => by omega
 have x05 := x1.trans x15
 refine ldB (hb1.ext x15) fa_47_3 l1_45 rfl ?_
 have hxi := insC_mem (m := m) (k := pc) (by omega)
 refine ldI (hc.ext x05) hxi ?_
 refine asK sa_71 rfl rfl fun w6 hB6 x6 => ?_
 have hB6 : Blk w6 w5.heap.size [i64 (m.ins pc).op, i64 (m.ins pc).a, i64 (m.ins pc).b] 71 := hB6
 have hga5 := (M3.own.lt ga rfl).2
 have hb6 := Blk.boxed hB6
 have M6 := M3.ext x6
 have hcf := cf_set (r := r) (k := pc) (by omega) hr
 have fin : ∀ {v : Value} {w' : World} {l3 : List Int}, Rm gr w3 w' v (l2 ++ l3) (r.set pc true) → (∀ t, t ∈ l3 ↔ t ∈ nextS (m.ins pc) pc) → l3.length ≤ 2 → Rm gr w3 w' v (l2 ++ l3) (r.set pc true) ∧ Rch i m st (l2 ++ l3) (r.set pc true) ∧ 3 * cf (r.set pc true) + (l2 ++ l3).length < 3 * cf r + l.length := by
  intro v w' l3 hM hl3 hle
  obtain ⟨out, _, hout⟩ := hled pc t2
  have hlen : (l2 ++ l3).length = l2.length + l3.length := List.length_append
  have hgs : ∀ k, (r.set pc true).getD k false = true ↔ k = pc ∨ r.getD k false = true := fun k => by
   rw [getD_set]
   by_cases hkp : k = pc
   ·rw [if_pos ⟨hkp, by omega⟩]; simp [hkp]
   ·rw [if_neg fun h => hkp h.1]; simp [hkp]
  refine ⟨hM, ⟨by simpa using hrl, fun t ht => ?_, fun k hk => ?_, ?_, fun k hk to hto => ?_, by omega⟩, by omega⟩
  ·rcases List.mem_append.1 ht with h | h
   ·exact R.ls t (hin2 t h)
   ·obtain ⟨q1, q2, q3, _⟩ := hout t ((hl3 t).1 h)
    exact ⟨q1, q2, q3⟩
  ·rcases (hgs k).1 hk with h | h
   ·rw [h]; exact t2
   ·exact R.rs k h
  ·rcases R.z with h | h
   ·exact .inl ((hgs 0).2 (.inr h))
   ·rcases hin _ h with h | h
    ·exact .inr (List.mem_append_left _ h)
    ·exact .inl ((hgs 0).2 (.inl (by omega)))
  ·rcases (hgs k).1 hk with h | h
   ·subst h; exact .inr (List.mem_append_right _ ((hl3 to).2 hto))
   ·rcases R.cl k h to hto with h | h
    ·exact .inl ((hgs _).2 (.inr h))
    ·rcases hin _ h with h | h
     ·exact .inr (List.mem_append_left _ h)
     ·exact .inl ((hgs _).2 (.inl (by omega)))
 have hpm := fun t => push_mem (x := m.ins pc) (pc := pc) (t := t)
 unfold pushP at hpm
 obtain ⟨A, hA⟩ : ∃ A, A = (if (m.ins pc).op = 23 ∨ (m.ins pc).op = 24 then [(m.ins pc).a] else []) := ⟨_, rfl⟩
 obtain ⟨C, hC⟩ : ∃ C, C = (if (m.ins pc).op ≠ 23 ∧ (m.ins pc).op ≠ 39 then [(pc : Int) + 1] else []) := ⟨_, rfl⟩
 rw [← hA, ← hC] at hpm
 have hAl : A.length ≤ 1 := by rw [hA]; split <;> simp
 have hCl : C.length ≤ 1 := by rw [hC]; split <;> simp
 have fin2 : ∀ {v : Value} {w' : World}, Rm gr w3 w' v (l2 ++ A ++ C) (r.set pc true) → (∃ l r, Rm gr w3 w' v l r ∧ Rch i m st l r) ∧ mu (fun q => ∃ l r, (Rm gr w3 w' v l r ∧ Rch i m st l r) ∧ 3 * cf r + l.length = q) < mu (fun q => ∃ l' r, (Rm gr w3 w4 (.slice (some ⟨ga, 0, none⟩) l.length cap) l' r ∧ Rch i m st l' r) ∧ 3 * cf r + l'.length = q) := fun hM => by
  rw [List.append_assoc] at hM
  obtain ⟨f1, f2, f3⟩ := fin hM hpm (by rw [List.length_append]; omega)
  exact step f1 f2 f3
 clear fin hpm
 refine ⟨fun v w' => Rm gr w3 w' v (l2 ++ A) (r.set pc true) ∧ Boxed w' w5.heap.size [i64 (m.ins pc).op, i64 (m.ins pc).a, i64 (m.ins pc).b], ?_, ?_⟩
 ·have psh : (m.ins pc).op = 23 ∨ (m.ins pc).op = 24 → V prog (Instr.buildSlice 23 1 #[(0, i64 (m.ins pc).a)]) w6 fun u w1 => V prog (Builtin.append_ #[23, 23] 23 #[.slice (some ⟨ga, 0, none⟩) (l.length - 1) cap, u]) w1 fun v w' => Rm gr w3 w' v (l2 ++ A) (r.set pc true) ∧ Boxed w' w5.heap.size [i64 (m.ins pc).op, i64 (m.ins pc).a, i64 (m.ins pc).b] := fun hop => by
   refine M6.push (by omega) fun v' w' hM hF => ⟨?_, Blk.boxed (hF.blk hB6 fun hk => ?_)⟩
   ·rw [hA, if_pos hop]; exact hM
   ·have hk : some ga = some w5.heap.size := hk
    rw [Option.some.injEq] at hk
    omega
  refine ldB hb6 fa_71_0 l1_3 rfl (V_eqlI.2 ?_)
  by_cases c1 : (m.ins pc).op = 23
  ·simp only [c1, evL, reduceIte, decide_true]
   rw [← c1]
   exact ldB hb6 fa_71_1 l1_3 rfl (psh (.inl c1))
  simp only [c1, evL, reduceIte, Bool.false_eq_true, decide_false]
  refine ldB hb6 fa_71_0 l1_3 rfl (V_eqlI.2 ?_)
  by_cases c2 : (m.ins pc).op = 24
  ·simp only [c2, evL, decide_true]
   rw [← c2]
   exact ldB hb6 fa_71_1 l1_3 rfl (psh (.inr c2))
  simp only [c2, evL, decide_false]
  refine ⟨?_, hb6⟩
  have hA0 : A = [] := by rw [hA, if_neg (by simp [c1, c2])]
  rw [hA0, List.append_nil]; exact M6
 rintro v7 w7 ⟨M7, hb7⟩ _
 refine ldB hb7 fa_71_0 l1_3 rfl (V_neqI.2 ?_)
 have hl2a : (l2 ++ A).length ≤ 100000 := by rw [List.length_append]; omega
 by_cases c1 : (m.ins pc).op = 23
 ·simp only [c1, evL, not_true_eq_false, ne_eq, reduceIte, Bool.false_eq_true, decide_false]
  refine fin2 ?_
  have hC0 : C = [] := by rw [hC, if_neg (by simp [c1])]
  rw [hC0, List.append_nil]; exact M7
 simp only [c1, evL, not_false_eq_true, ne_eq, reduceIte, decide_true]
 refine ldB hb7 fa_71_0 l1_3 rfl (V_neqI.2 ?_)
 by_cases c2 : (m.ins pc).op = 39
 ·simp only [c2, evL, not_true_eq_false, ne_eq, decide_false]
  refine fin2 ?_
  have hC0 : C = [] := by rw [hC, if_neg (by simp [c2])]
  rw [hC0, List.append_nil]; exact M7
 simp only [c2, evL, not_false_eq_true, ne_eq, decide_true]
 refine V_add.2 ?_
 rw [wrap_id (by omega) (by omega)]
 refine M7.push hl2a fun v8 w8 M8 _ => fin2 ?_
 have hC1 : C = [(pc : Int) + 1] := by rw [hC, if_pos ⟨c1, c2⟩]
 rw [hC1]; exact M8
end Go.Proofs.YtcdbikfnlggbnaaGreatDoor
namespace Go.Proofs.YtcdbikfnlggbnaaGreatDoor
open Tryz
open Go.Vc Go.Tc
variable {w : World} {K : Value → World → Prop}
def liftK (i : Img) (m : Mth) (st : St) (r : List Bool) : Nat → List GNode × List Int
 | 0 => ((List.range m.locals.length).map fun (j : Nat) => GNode.const ((m.params.length : Int) + ((j : Nat) : Int)) 0, [])
 | k + 1 =>
  let p := liftK i m st r k
  if r.getD k false then (p.1 ++ .tick :: (liftN i m (m.ins k) (st.s k).length).toList, p.2 ++ [(p.1.length : Int)]) else (p.1, p.2 ++ [-1])
def liftP (i : Img) (m : Mth) (st : St) (r : List Bool) : List GNode := let p := liftK i m st r m.code.length; p.1.map (aimN p.2)
def NodeAt (g : Nat) (nv tv : Value) (w : World) (u : Value) (n : GNode) : Prop := ∃ sv, u = n.val sv ∧ w.ownsRow (g + 1) 3 1 sv n.args.length (n.args.map i64) ∧ ∀ q, sv.ownBlock = some q → nv.ownBlock ≠ some q ∧ tv.ownBlock ≠ some q
structure Lp (g : Nat) (np : Int) (nv tv : Value) (w : World) (N : List GNode) (T : List Int) : Prop where
 blk : Blk w g [i64 np, i64 18, nv] 38
 row : ∃ xs : List Value, w.ownsRow (g + 1) 52 1 nv N.length xs ∧ ∀ (k : Nat) n, N[k]? = some n → ∃ u, xs[k]? = some u ∧ NodeAt g nv tv w u n
 st : w.ownsRow (g + 1) 3 1 tv T.length (T.map i64)
 ne : ∀ q, nv.ownBlock = some q → tv.ownBlock ≠ some q
theorem Lp.ext {g : Nat} {np : Int} {nv tv : Value} {w' : World} {N : List GNode} {T : List Int} (h : Lp g np nv tv w N T) (hx : Ext w w') : Lp g np nv tv w' N T := by
 obtain ⟨h1, ⟨xs, h2, h3⟩, h8, h9⟩ := h
 refine ⟨h1.ext hx, ⟨xs, hx.own h2, fun k n hk => ?_⟩, hx.own h8, h9⟩
 obtain ⟨u, h4, sv, h5, h6, h7⟩ := h3 k n hk
 exact ⟨u, h4, sv, h5, hx.own h6, h7⟩
theorem val_one (n : GNode) (sv : Value) : oneC (n.val sv) = true := by cases n <;> rfl
theorem Lp.nodes {g : Nat} {np : Int} {nv tv : Value} {N : List GNode} {T : List Int} (h : Lp g np nv tv w N T) : NodesAre w nv N := by
 obtain ⟨_, ⟨xs, h2, h3⟩, _, _⟩ := h
 refine ⟨xs, SliceIs.of_own h2, fun k n hk => ?_⟩
 obtain ⟨u, h4, sv, h5, h6, _⟩ := h3 k n hk
 exact ⟨u, h4, sv, h5, SliceIs.of_own h6⟩
theorem Lp.start {g : Nat} {np : Int} {nv tv : Value} {N : List GNode} {T : List Int} {t : Int} (h : Lp g np nv tv w N T) (hT : T.length ≤ 100000) (hk : ∀ tv' w', Lp g np nv tv' w' N (T ++ [t]) → Fr (fun k => tv.ownBlock = some k) w w' → (∀ q, tv'.ownBlock = some q → tv.ownBlock = some q ∨ w.heap.size ≤ q) → K tv' w') :
  V prog (Instr.buildSlice 23 1 #[(0, i64 t)]) w fun u w1 => V prog (Builtin.append_ #[23, 23] 23 #[tv, u]) w1 K := by
 obtain ⟨hB, ⟨xs, ho, hxs⟩, hst, hne⟩ := h
 have hg := hB.lt
 refine bsl xe_23 [i64 t] rfl rfl (by simp) rfl fun u w1 ho1 x1 => ?_
 have s1 := x1.size
 refine apS xe_23 (x1.own hst) (SliceIs.of_own ho1) rfl (by omega) (by unfold maxLen; omega) (by omega) fun tv' w2 ho2 hg2 hl2 => ?_
 have hlo : ∀ k, tv.ownBlock = some k → g + 1 ≤ k := fun k hk => (hst.lt k hk).1
 have f2 : Fr (fun k => tv.ownBlock = some k) w1 w2 := Fr.of_grown hg2 fun k hk => hk
 refine hk tv' w2 ⟨f2.blk (hB.ext x1) fun hk => by have := hlo _ hk; omega, ⟨xs, f2.own (x1.own ho) fun k hk hS => hne k hk hS, fun k n hk => ?_⟩, by simpa using ho2, fun q hq hq' => ?_⟩ ((Fr.of_ext x1).trans f2 fun _ _ h => h) (fun q hq => by
   rcases hl2 with h2 | h2
   ·rw [h2] at hq; exact .inl hq
   ·rw [h2] at hq; cases hq; exact .inr (by omega))
 ·obtain ⟨u, h4, sv, h5, h6, h7⟩ := hxs k n hk
  refine ⟨u, h4, sv, h5, f2.own (x1.own h6) fun q hq hS => (h7 q hq).2 hS, fun q hq => ⟨(h7 q hq).1, fun hq' => ?_⟩⟩
  rcases hl2 with h2 | h2
  ·rw [h2] at hq'; exact (h7 q hq).2 hq'
  ·rw [h2] at hq'; cases hq'; have := (h6.lt _ hq).2; omega
 ·rcases hl2 with h2 | h2
  ·rw [h2] at hq'; exact hne q hq hq'
  ·rw [h2] at hq'; cases hq'; have := (ho.lt _ hq).2; omega
theorem Lp.push {g : Nat} {np : Int} {nv tv u : Value} {N : List GNode} {T : List Int} {n : GNode} {K' : World → Prop} (h : Lp g np nv tv w N T) (hu : NodeAt g nv tv w u n) (hN : N.length ≤ 100000) (hk : ∀ nv' w', Lp g np nv' tv w' (N ++ [n]) T → Fr (fun k => k = g ∨ nv.ownBlock = some k) w w' → (∀ q, nv'.ownBlock = some q → nv.ownBlock = some q ∨ w.heap.size ≤ q) → K' w') :
  V prog (Instr.buildSlice 36 1 #[(0, u)]) w fun t w1 => V prog (Builtin.append_ #[36, 36] 36 #[nv, t]) w1 fun t2 w2 => V prog (Instr.fieldAt 38 (.pointer (some ⟨g, 0, none⟩)) 2) w2 fun q w3 => U prog (Instr.storeAt 36 q t2) w3 fun _ w4 => K' w4 := by
 obtain ⟨sv, rfl, hso, hsn⟩ := hu
 obtain ⟨hB, ⟨xs, ho, hxs⟩, hst, hne⟩ := h
 have hg := hB.lt
 refine bsl xe_36 [n.val sv] rfl rfl (by simp) (by simp [val_one]) fun t w1 ho1 x1 => ?_
 have s1 := x1.size
 refine apS xe_36 (x1.own ho) (SliceIs.of_own ho1) (by simp [val_one]) (by omega) (by unfold maxLen; omega) (by omega) fun nv' w2 ho2 hg2 hl2 => ?_
 have hlo : ∀ k, nv.ownBlock = some k → g + 1 ≤ k := fun k hk => (ho.lt k hk).1
 have f2 : Fr (fun k => nv.ownBlock = some k) w1 w2 := Fr.of_grown hg2 fun k hk => hk
 have hB2 := f2.blk (hB.ext x1) fun hk => by have := hlo _ hk; omega
 refine stF fa_38_2 inf36 hB2 (n := 3) rfl (by decide) (own_one ho2) ?_
 have f3 : Fr (fun k => k = g) w2 (w2.setCell ⟨g, 2, none⟩ nv') := Fr.of_set rfl
 have hB3 := hB2.set 2 nv'
 generalize w2.setCell ⟨g, 2, none⟩ nv' = w3 at f3 hB3
 have fresh : ∀ {q : Nat}, q < w.heap.size → nv.ownBlock ≠ some q → nv'.ownBlock ≠ some q := fun hlt hb hq' => by
  rcases hl2 with h2 | h2
  ·rw [h2] at hq'; exact hb hq'
  ·rw [h2] at hq'; cases hq'; omega
 have keep0 : ∀ {sv : Value} {l : List Int}, w.ownsRow (g + 1) 3 1 sv l.length (l.map i64) → (∀ q, sv.ownBlock = some q → nv.ownBlock ≠ some q) → w3.ownsRow (g + 1) 3 1 sv l.length (l.map i64) := fun ha hb =>
  f3.own (f2.own (x1.own ha) fun k hk hS => hb k hk hS) fun k hk hS => by have := (ha.lt k hk).1; have hS : k = g := hS; omega
 have keep : ∀ {sv : Value} {l : List Int}, w.ownsRow (g + 1) 3 1 sv l.length (l.map i64) → (∀ q, sv.ownBlock = some q → nv.ownBlock ≠ some q ∧ tv.ownBlock ≠ some q) → w3.ownsRow (g + 1) 3 1 sv l.length (l.map i64) ∧ ∀ q, sv.ownBlock = some q → nv'.ownBlock ≠ some q ∧ tv.ownBlock ≠ some q := fun ha hb =>
  ⟨keep0 ha fun q hq => (hb q hq).1, fun q hq => ⟨fresh (ha.lt q hq).2 (hb q hq).1, (hb q hq).2⟩⟩
 refine hk nv' w3 ⟨hB3, ⟨xs ++ [n.val sv], ?_, fun k y hy => ?_⟩, keep0 hst fun q hq hq' => hne q hq' hq, fun q hq hq' => fresh (hst.lt q hq').2 (fun h => hne q h hq') hq⟩ (((Fr.of_ext x1).trans (f2.mono fun k hk => .inr hk) fun _ _ h => h).trans (f3.mono fun k hk => .inl hk) fun _ _ h => h) (fun q hq => by
   rcases hl2 with h2 | h2
   ·rw [h2] at hq; exact .inl hq
   ·rw [h2] at hq; cases hq; exact .inr (by omega))
 ·rw [List.length_append]
  exact f3.own ho2 fun k hk hS => by have := (ho2.lt k hk).1; have hS : k = g := hS; omega
 ·rw [List.getElem?_append] at hy ⊢
  have hxl : xs.length = N.length := by have := ho.1; omega
  split at hy
  ·rename_i hlt
   obtain ⟨u, h4, sv2, h5, h6, h7⟩ := hxs k y hy
   rw [if_pos (by omega)]
   obtain ⟨k1, k2⟩ := keep h6 h7
   exact ⟨u, h4, sv2, h5, k1, k2⟩
  ·rename_i hge
   rw [if_neg (by omega), hxl]
   have hk0 : k - N.length = 0 := by
    have := (List.getElem?_eq_some_iff.1 hy).1
    simpa using this
   rw [hk0] at hy ⊢
   cases hy
   obtain ⟨k1, k2⟩ := keep hso hsn
   exact ⟨n.val sv, rfl, sv, rfl, k1, k2⟩
end Go.Proofs.YtcdbikfnlggbnaaGreatDoor
namespace Go.Proofs.YtcdbikfnlggbnaaGreatDoor
open Tryz
open Go.Vc Go.Tc
variable {w : World} {K : Value → World → Prop}
theorem Lp.set {g : Nat} {np : Int} {gn c j : Nat} {tv u : Value} {N : List GNode} {T : List Int} {n : GNode} {K' : World → Prop} (h : Lp g np (.slice (some ⟨gn, 0, none⟩) N.length c) tv w N T) (hj : j < N.length) (hu : NodeAt g (.slice (some ⟨gn, 0, none⟩) N.length c) tv w u n)
  (hk : ∀ w', Lp g np (.slice (some ⟨gn, 0, none⟩) (N.set j n).length c) tv w' (N.set j n) T → Fr (fun k => k = gn) w w' → K' w') : U prog (Instr.storeAt 52 (.pointer (some ⟨gn, 0 + j * 1, none⟩)) u) w fun _ w2 => K' w2 := by
 obtain ⟨sv, rfl, hso, hsn⟩ := hu
 obtain ⟨hB, ⟨xs, ho, hxs⟩, hst, hne⟩ := h
 have hgn := ho.lt gn rfl
 have hxl : xs.length = N.length := by have := ho.1; omega
 refine stY inf52 ho hj (val_one _ _) fun w' ho' hg' => ?_
 have f : Fr (fun k => k = gn) w w' := Fr.of_grown hg' fun k hk => by cases hk; rfl
 have keep : ∀ {sv : Value} {l : List Int}, w.ownsRow (g + 1) 3 1 sv l.length (l.map i64) → (∀ q, sv.ownBlock = some q → gn ≠ q) → w'.ownsRow (g + 1) 3 1 sv l.length (l.map i64) := fun ha hb => f.own ha fun k hk hS => hb k hk hS.symm
 have hne' : ∀ {v : Value} {q : Nat}, (Value.slice (some ⟨gn, 0, none⟩) N.length c).ownBlock ≠ some q → gn ≠ q := fun h e => h (by rw [e]; rfl)
 refine hk w' ⟨by rw [List.length_set]; exact f.blk hB (by omega), ⟨xs.set j (n.val sv), by rw [List.length_set]; exact ho', fun k y hy => ?_⟩, keep hst fun q hq e => hne gn rfl (by rw [e]; exact hq), by rw [List.length_set]; exact hne⟩ f
 rw [List.length_set]
 rw [List.getElem?_set] at hy ⊢
 by_cases hkj : j = k
 ·subst hkj
  rw [if_pos rfl, if_pos hj] at hy
  rw [if_pos rfl, if_pos (by omega)]
  cases hy
  exact ⟨_, rfl, sv, rfl, keep hso fun q hq => hne' (v := sv) (hsn q hq).1, hsn⟩
 ·rw [if_neg hkj] at hy ⊢
  obtain ⟨u2, h4, sv2, h5, h6, h7⟩ := hxs k y hy
  exact ⟨u2, h4, sv2, h5, keep h6 fun q hq => hne' (v := sv2) (h7 q hq).1, h7⟩
theorem liftN_aim {i : Img} {m : Mth} {x : Ins} {h pc : Nat} {n : GNode} {T : List Int} (hn : liftN i m x h = some n) (hT : ∀ to ∈ nextS x pc, 0 ≤ to ∧ to < T.length) : aimOk T n := by
 by_cases c1 : x.op = 23
 ·have : n = .goto x.a := by simp [liftN, c1] at hn; exact hn.symm
  subst this
  exact hT x.a (by simp [nextS, c1])
 by_cases c2 : x.op = 24
 ·have : n = .branch (10 + ((h : Int) - 1)) x.a := by simp [liftN, c2] at hn; exact hn.symm
  subst this
  exact hT x.a (by simp [nextS, c2])
 unfold liftN at hn
 by_cases d0 : x.op = 1
 ·rw [if_pos d0] at hn; cases hn; trivial
 rw [if_neg d0] at hn
 by_cases d1 : x.op = 2
 ·rw [if_pos d1] at hn; cases hn; trivial
 rw [if_neg d1] at hn
 by_cases d2 : x.op = 3
 ·rw [if_pos d2] at hn; cases hn; trivial
 rw [if_neg d2] at hn
 by_cases d3 : x.op = 4
 ·rw [if_pos d3] at hn; cases hn
 rw [if_neg d3] at hn
 by_cases d4 : x.op = 5
 ·rw [if_pos d4] at hn; cases hn; trivial
 rw [if_neg d4] at hn
 by_cases d5 : x.op = 15 ∨ x.op = 16 ∨ x.op = 26
 ·rw [if_pos d5] at hn; cases hn; trivial
 rw [if_neg d5] at hn
 by_cases d6 : x.op = 22
 ·rw [if_pos d6] at hn; cases hn; trivial
 rw [if_neg d6] at hn
 rw [if_neg c1] at hn
 rw [if_neg c2] at hn
 by_cases d9 : x.op = 25
 ·rw [if_pos d9] at hn; cases hn; trivial
 rw [if_neg d9] at hn
 by_cases d10 : x.op = 35
 ·rw [if_pos d10] at hn; cases hn; trivial
 rw [if_neg d10] at hn
 by_cases d11 : x.op = 33
 ·rw [if_pos d11] at hn; cases hn; trivial
 rw [if_neg d11] at hn
 by_cases d12 : x.op = 34
 ·rw [if_pos d12] at hn; cases hn; trivial
 rw [if_neg d12] at hn
 by_cases d13 : x.op = 37
 ·rw [if_pos d13] at hn; cases hn; trivial
 rw [if_neg d13] at hn
 by_cases d14 : x.op = 38
 ·rw [if_pos d14] at hn; cases hn; trivial
 rw [if_neg d14] at hn
 by_cases d15 : x.op = 39
 ·rw [if_pos d15] at hn; cases hn; trivial
 rw [if_neg d15] at hn
 by_cases d16 : (srvP x.op).1 ≠ 0
 ·rw [if_pos d16] at hn; cases hn; trivial
 rw [if_neg d16] at hn
 cases hn
 trivial
theorem liftK_aim {i : Img} {m : Mth} {st : St} {r : List Bool} {T : List Int} (hT : T.length = m.code.length) (hled : ∀ k, st.h k = true → Led i m st k) (hr : ∀ k, r.getD k false = true → st.h k = true) : ∀ (k : Nat) (n : GNode), n ∈ (liftK i m st r k).1 → aimOk T n
 | 0, n, h => by
  simp only [liftK, List.mem_map] at h
  obtain ⟨j, _, rfl⟩ := h
  trivial
 | k + 1, n, h => by
  have ih := liftK_aim hT hled hr k
  cases hk : r.getD k false with
  | false =>
   have e : (liftK i m st r (k + 1)).1 = (liftK i m st r k).1 := by simp only [liftK, hk]; rfl
   rw [e] at h
   exact ih n h
  | true =>
   have e : (liftK i m st r (k + 1)).1 = (liftK i m st r k).1 ++ .tick :: (liftN i m (m.ins k) (st.s k).length).toList := by simp only [liftK, hk]; rfl
   rw [e] at h
   rcases List.mem_append.1 h with h | h
   ·exact ih n h
   ·rcases List.mem_cons.1 h with h | h
    ·subst h; trivial
    ·obtain ⟨out, _, hto⟩ := hled k (hr k hk)
     refine liftN_aim (pc := k) (by simpa using h) fun to ht => ?_
     obtain ⟨q1, q2, _⟩ := hto to ht
     exact ⟨q1, by rw [hT]; exact q2⟩
end Go.Proofs.YtcdbikfnlggbnaaGreatDoor
namespace Go.Proofs.YtcdbikfnlggbnaaGreatDoor
open Tryz
open Go.Vc Go.Tc
variable {w : World} {K : Value → World → Prop}
theorem val_neq {n : GNode} {sv : Value} {x y : Operand} {R : Value → World → Prop} (hk : R (.bool true) w) : V prog (do eqGuard .neq 52 x y (n.val sv) Value.nilIface; binOp .neq 52 (n.val sv) Value.nilIface) w R := by
 cases n <;> exact V.ok (r_neqNilIface underlying52) hk
set_option maxHeartbeats 4000000 in
theorem lift12 {p : ImgV} {i : Img} {k : Int} (h : ImgAt w p i) (hn : NamesOk w i) (hrg : i.rg)
  (yes : ∀ st r nv sv w', Taken i → 0 ≤ k → k < i.methods.length → Walk i (i.meth k) (some st) → Rch i (i.meth k) st [] r → NodesAre w' nv (liftP i (i.meth k) st r) → IntsAre w' sv (liftK i (i.meth k) st r (i.meth k).code.length).2 → Ext w w' → K (.tuple #[.agg #[i64 (i.meth k).params.length, i64 18, nv], sv, .bool true]) w')
  (no : ∀ w', ¬ (Taken i ∧ 0 ≤ k ∧ k < i.methods.length) → Ext w w' → K (.tuple #[.agg #[i64 0, i64 0, nilS], nilS, .bool false]) w') : callD prog 12 #[p.val i, i64 k] w K := by
 apply F12_wp
 unfold F12_den ImgV.val
 refine bx fun b2 w1 hb2 x1 => ?_
 have hb2 : Boxed w1 b2 [.string i.name, p.fv, p.iv, p.mv, p.xv] := hb2
 refine alK inf38 fun w2 hB4 x2 => ?_
 have hB4 : Blk w2 w1.heap.size [i64 0, i64 0, nilS] 38 := hB4
 have x02 := x1.trans x2
 have hg4 := x1.size
 have hb2 := hb2.ext x2
 generalize w1.heap.size = g4 at hB4 hg4
 refine ldA hb2 la_27 rfl ?_
 refine states29 (p := p) (i := i) (h.ext x02) (hn.ext x02) hrg (fun st sv w3 ht h0 hkl hw hst x3 => ?_) fun w3 hne x3 => ?_
 case refine_2 =>
  refine V_ext0.2 (V_ext1.2 (V_not.2 ?_))
  simp only [evL, Int.reduceNeg, Bool.not_false]
  refine bld bd_38 [] rfl rfl ?_
  refine stA inf38 (hB4.ext x3) (l := [i64 0, i64 0, nilS]) rfl rfl rfl rfl fun w4 hB hc => ?_
  exact ⟨_, r_var underlying38 rfl inf38 hB rfl, ⟨_, rfl⟩, no w4 hne (hc.ext _ (x02.trans x3) hg4)⟩
 refine V_ext0.2 (V_ext1.2 (V_not.2 ?_))
 simp only [evL, Int.reduceNeg, Bool.not_true]
 obtain ⟨kn, rfl⟩ : ∃ q : Nat, k = q := ⟨k.toNat, by omega⟩
 have hmi := meth_get (i := i) (a := (kn : Int)) (by omega) (by omega)
 rw [Int.toNat_natCast] at hmi
 have ir := ht.1
 have mr : (i.meth kn).right := ir.2.2.1.2.1 _ (List.mem_of_getElem? hmi)
 obtain ⟨hox, hwf, hh0, hs0, hled⟩ := hw.led ir mr
 have x03 := x02.trans x3
 have hb3 := hb2.ext x3
 refine ldB hb3 fa_27_3 l1_25 rfl ?_
 refine ldS xa_25 la_47 (h.ext x03).mt hmi mth_len fun row hrow => ?_
 generalize hmm : i.meth kn = m at *
 have hrow0 := hrow
 obtain ⟨pv, lv, cv, rfl, hp, hl, hc⟩ := hrow
 have hone : ([pv, i64 m.result, lv, cv] : List Value).all oneC = true := by
  obtain ⟨a1, c1, rfl⟩ := hp.shape
  obtain ⟨a2, c2, rfl⟩ := hl.shape
  obtain ⟨a3, c3, rfl⟩ := SliceIs.shape hc
  rfl
 refine asB sa_47 rfl hone fun b9 w4 hb9 x4 => ?_
 have hb9 : Boxed w4 b9 [pv, i64 m.result, lv, cv] := hb9
 have hp4 := hp.ext x4
 refine ldB hb9 fa_47_0 l1_23 rfl (lnx xa_23 hp4 ?_)
 refine bld bd_38 [(0, i64 m.params.length), (1, i64 18)] rfl rfl ?_
 refine asK sa_38 rfl rfl fun w5 hB5 x5 => ?_
 have hB5 : Blk w5 w4.heap.size [i64 m.params.length, i64 18, nilS] 38 := hB5
 have hg4' : g4 < w4.heap.size := by have := hB4.lt; have := x3.size; have := x4.size; omega
 have hb9' := hb9.ext x5
 refine ldB hb9' fa_47_2 l1_23 rfl (lnx xa_23 ((hl.ext x4).ext x5) ?_)
 have hL0 : Lp w4.heap.size m.params.length nilS nilS w5 [] [] := ⟨hB5, ⟨[], World.ownsRow_nil _ _ _ _, fun k n hk => by simp at hk⟩, World.ownsRow_nil _ _ _ _, fun q hq => by cases hq⟩
 have x04 := x03.trans x4
 have hgx := hB5.lt
 generalize hgg : w4.heap.size = g at *
 have pl := mr.1.2
 have ll := mr.2.2.1.2
 refine ⟨fun v w' => ∃ (j : Nat) (nv : Value), v = i64 j ∧ j ≤ m.locals.length ∧ Ext w4 w' ∧ Lp g m.params.length nv nilS w' ((List.range j).map fun (j : Nat) => GNode.const ((m.params.length : Int) + ((j : Nat) : Int)) 0) [], fun v _ => m.locals.length - (RowKit.intOf v).toNat, ⟨0, nilS, rfl, Nat.zero_le _, x5, hL0⟩, ?_⟩
 clear hL0 hB5
 rintro _ w6 ⟨j, nv, rfl, hj, x6, hL⟩ _
 refine V_lss.2 (ifD_dec (fun hlt => ?_) fun hge => ?_)
 ·refine ldB (Blk.boxed hL.blk) fa_38_2 l1_36 rfl ?_
  refine ldB (hb9.ext x6) fa_47_0 l1_23 rfl (lnx xa_23 (hp4.ext x6) (V_add.2 ?_))
  rw [wrap_id (by omega) (by omega)]
  refine bld bd_84 [(0, i64 ((m.params.length : Int) + (j : Int)))] rfl rfl (mki mi_84 ?_)
  refine hL.push (n := .const ((m.params.length : Int) + (j : Int)) 0) ⟨nilS, rfl, World.ownsRow_nil _ _ _ _, fun q hq => by cases hq⟩ (by simp; omega) fun nv' w7 hL7 f7 _ => V_add.2 ?_
  rw [wrap_id (by omega) (by omega), i64_succ]
  have hnv : ∀ q, nv.ownBlock = some q → g + 1 ≤ q := fun q hq => by obtain ⟨xs, ho, _⟩ := hL.row; exact (ho.lt q hq).1
  refine ⟨⟨j + 1, nv', rfl, by omega, f7.ext x6 fun q hq => ?_, ?_⟩, by simp only [intOf_i64]; omega⟩
  ·rcases hq with hq | hq
   ·omega
   ·have := hnv q hq; omega
  ·rw [List.range_succ, List.map_append]; exact hL7
 have hjl : j = m.locals.length := by omega
 subst hjl
 have hn1 := mr.2.2.2.1.1; have hn2 := mr.2.2.2.1.2
 refine ldA (hb9.ext x6) la_47 rfl ?_
 refine reached30 (i := i) (m := m) (st := st) (row := [pv, i64 m.result, lv, cv]) ((hrow0.ext x4).ext x6) hn1 (by omega) hh0 hled hwf fun gr r w7 hBr hgr R x7 => ?_
 have x47 := x6.trans x7
 refine ldB (hb9.ext x47) fa_47_3 l1_45 rfl (lnx xa_45 ((hc.ext x4).ext x47) ?_)
 have hnvb : ∀ q, nv.ownBlock = some q → q ≠ gr := fun q hq => by obtain ⟨xs, ho, _⟩ := hL.row; have := (ho.lt q hq).2; omega
 have hgg6 : g < w6.heap.size := hL.blk.lt
 have hgrg : gr ≠ g := by omega
 refine ⟨fun tv v w' => ∃ (j : Nat) (nv : Value), v = i64 j ∧ j ≤ m.code.length ∧ Ext w4 w' ∧ Lp g m.params.length nv tv w' (liftK i m st r j).1 (liftK i m st r j).2 ∧ (liftK i m st r j).1.length ≤ 10 + 2 * j ∧ (liftK i m st r j).2.length = j ∧ Blk w' gr (r.map .bool) 4 ∧ ∀ q, nv.ownBlock = some q ∨ tv.ownBlock = some q → q ≠ gr,
  fun _ v _ => m.code.length - (RowKit.intOf v).toNat, ⟨0, nv, rfl, Nat.zero_le _, x47, hL.ext x7, by simp [liftK]; omega, rfl, hBr, fun q hq => ?_⟩, ?_⟩
 ·rcases hq with hq | hq
  ·exact hnvb q hq
  ·cases hq
 clear hL hBr hnvb
 rintro tv _ w8 ⟨j, nv, rfl, hj, x8, hL, hNl, hTl, hBr, hgb⟩ _
 refine V_lss.2 (ifD_dec (fun hlt => ?_) fun hge => ?_)
 ·have hj' : j < m.code.length := by omega
  have hxi := insC_mem (m := m) (k := j) hj'
  have ox := hox _ (List.mem_of_getElem? hxi)
  refine ldI ((hc.ext x4).ext x8) hxi ?_
  refine asK sa_71 rfl rfl fun w9 hB15 x9 => ?_
  have hB15 : Blk w9 w8.heap.size [i64 (m.ins j).op, i64 (m.ins j).a, i64 (m.ins j).b] 71 := hB15
  have hnv8 : ∀ q, nv.ownBlock = some q → q < w8.heap.size := fun q hq => by obtain ⟨xs, ho, _⟩ := hL.row; exact (ho.lt q hq).2
  have htv8 : ∀ q, tv.ownBlock = some q → q < w8.heap.size := fun q hq => (hL.st.lt q hq).2
  have hg8 : g < w8.heap.size := hL.blk.lt
  have x49 := x8.trans x9
  have hL9 := hL.ext x9
  have hB9 := hBr.ext x9
  have hrl := R.rl
  have hsl : SliceIs w9 (.slice (some ⟨gr, 0, none⟩) m.code.length m.code.length) 1 m.code.length (r.map .bool) := hB9.slice (by simpa using hrl) (by unfold maxLen; omega)
  refine ldx xa_78 l1_4 hsl (by omega) (by omega) (getB' (by omega)) (V_not.2 ?_)
  have hlo : ∀ q, nv.ownBlock = some q ∨ tv.ownBlock = some q → g + 1 ≤ q := fun q hq => by
   rcases hq with hq | hq
   ·obtain ⟨xs, ho, _⟩ := hL.row; exact (ho.lt q hq).1
   ·exact (hL.st.lt q hq).1
  cases hrj : r.getD j false with
  | false =>
   simp only [evL, Int.reduceNeg, ne_eq, Bool.not_false]
   refine hL9.start (by omega) fun tv' w10 hL10 f10 q10 => V_add.2 ?_
   rw [wrap_id (by omega) (by omega), i64_succ]
   have hK : liftK i m st r (j + 1) = ((liftK i m st r j).1, (liftK i m st r j).2 ++ [-1]) := by simp only [liftK, hrj]; rfl
   refine ⟨⟨j + 1, nv, rfl, by omega, f10.ext x49 fun q hq => ?_, by rw [hK]; exact hL10, by rw [hK]; dsimp only; omega, by rw [hK]; simp [hTl], f10.blk hB9 fun hq => hgb gr (.inr hq) rfl, fun q hq => ?_⟩, by simp only [intOf_i64]; omega⟩
   ·have := hlo q (.inr hq); omega
   ·have hs9 := hB9.lt
    rcases hq with hq | hq
    ·exact hgb q (.inl hq)
    ·rcases q10 q hq with h10 | h10
     ·exact hgb q (.inr h10)
     ·omega
  | true =>
   simp only [evL, Int.reduceNeg, ne_eq, Bool.not_true]
   have hh := R.rs j hrj
   obtain ⟨out, hdo, _⟩ := hled j hh
   obtain ⟨hkd, hl8⟩ := hwf.kd j hh
   obtain ⟨_, _, hask, _⟩ := doS_ok ox hkd hdo
   refine ldB (Blk.boxed hL9.blk) fa_38_2 l1_36 rfl ?_
   have hnl : ∀ {nv tv w' N T}, Lp g m.params.length nv tv w' N T → ∃ vs, SliceIs w' nv 1 N.length vs := fun h => by obtain ⟨vs, h1, _⟩ := h.nodes; exact ⟨vs, h1⟩
   obtain ⟨nvs, hnvs⟩ := hnl hL9
   refine lnx xa_36 hnvs ?_
   refine hL9.start (by omega) fun tv' w10 hL10 f10 q10 => ?_
   have x10 : Ext w4 w10 := f10.ext x49 fun q hq => by have := hlo q (.inr hq); omega
   have hB10 := f10.blk hB9 fun hq => hgb gr (.inr hq) rfl
   refine ldB (Blk.boxed hL10.blk) fa_38_2 l1_36 rfl ?_
   refine bld bd_49 [] rfl rfl (mki mi_49 ?_)
   refine hL10.push (n := .tick) ⟨nilS, rfl, World.ownsRow_nil _ _ _ _, fun q hq => by cases hq⟩ (by omega) fun nv' w11 hL11 f11 q11 => ?_
   have hgw : w4.heap.size = g := hgg
   have x11 : Ext w4 w11 := f11.ext x10 fun q hq => by
    rcases hq with hq | hq
    ·omega
    ·have := hlo q (.inl hq); omega
   have hB11 := f11.blk hB10 fun hq => by
    rcases hq with hq | hq
    ·exact hgrg hq
    ·exact hgb gr (.inl hq) rfl
   have hB15' := f11.blk (f10.blk hB15 fun hq => by have := htv8 _ hq; omega) fun hq => by
    rcases hq with hq | hq
    ·omega
    ·have := hnv8 _ hq; omega
   have D1 : Ext w11 w11.drew := (Ext.refl _).drew
   have x1D := x11.trans D1
   obtain ⟨svs, hsv1, hsv2⟩ := (hst.ext x4).ext x1D
   have hstl : st.st.length = m.code.length := hwf.l1
   obtain ⟨su, hsu, hsi⟩ := hsv2 j (by omega)
   refine drawD.mk' (fun w' => Ext w11.drew w') (Ext.refl _) ?_
   refine yA (fun w' hx => ((hb3.ext x4).ext x1D).ext hx) la_27 rfl ?_
   refine yA (fun w' hx => (hb9.ext x1D).ext hx) la_47 rfl ?_
   refine yA (fun w' hx => (Blk.boxed (hB15'.ext D1)).ext hx) la_71 rfl ?_
   refine ySl xa_77 l1_23 hsv1 (fun _ h => h) (by omega) (by omega) (by simpa using hsu) ?_
   refine yLen xa_23 hsi ?_
   refine node31 (p := p) (i := i) (m := m) (x := m.ins j) (row := [pv, i64 m.result, lv, cv]) ((h.ext (x03.trans x4)).ext x1D) ((hrow0.ext x4).ext x1D) ox hl8 hask fun v w12 hv x12 => ⟨x12, ?_⟩
   have x1E := x1D.trans x12
   have xDE := D1.trans x12
   have hL12 := hL11.ext xDE
   have hB12 := hB11.ext xDE
   have sD := D1.size
   have s12 := x12.size
   have hK : liftK i m st r (j + 1) = ((liftK i m st r j).1 ++ .tick :: (liftN i m (m.ins j) (st.s j).length).toList, (liftK i m st r j).2 ++ [((liftK i m st r j).1.length : Int)]) := by simp only [liftK, hrj]; rfl
   have hs9 := hB9.lt
   have hs10 := f10.size
   have hs11 := f11.size
   have hgb11 : ∀ q, nv'.ownBlock = some q ∨ tv'.ownBlock = some q → q ≠ gr := fun q hq => by
    rcases hq with hq | hq
    ·rcases q11 q hq with h11 | h11
     ·exact hgb q (.inl h11)
     ·omega
    ·rcases q10 q hq with h10 | h10
     ·exact hgb q (.inr h10)
     ·omega
   have hv : LN w11.drew.heap.size w12 v (liftN i m (m.ins j) (st.s j).length) := hv
   cases ho : liftN i m (m.ins j) (st.s j).length with
   | none =>
    rw [ho] at hv hK
    have hv : v = Value.nilIface := hv
    subst hv
    refine V.ok (r_neqNilNil underlying52) (ifD_false.2 (V_add.2 ?_))
    rw [wrap_id (by omega) (by omega), i64_succ]
    exact ⟨⟨j + 1, nv', rfl, by omega, x1E, by rw [hK]; exact hL12, by rw [hK]; simp; omega, by rw [hK]; simp [hTl], hB12, hgb11⟩, by simp only [intOf_i64]; omega⟩
   | some n =>
    rw [ho] at hv hK
    obtain ⟨asv, rfl, hown⟩ := hv
    refine val_neq (ifD_true.2 ?_)
    refine ldB (Blk.boxed hL12.blk) fa_38_2 l1_36 rfl ?_
    have hnv11 : ∀ q, nv'.ownBlock = some q ∨ tv'.ownBlock = some q → q < w11.heap.size ∧ g + 1 ≤ q := fun q hq => by
     rcases hq with hq | hq
     ·obtain ⟨xs, ho, _⟩ := hL11.row; have := ho.lt q hq; omega
     ·have := hL11.st.lt q hq; omega
    have hg11 := hL11.blk.lt
    refine hL12.push (n := n) ⟨asv, rfl, own_mono hown (by omega), fun q hq => ⟨fun h => ?_, fun h => ?_⟩⟩ (by simp; omega) fun nv2 w13 hL13 f13 q13 => V_add.2 ?_
    ·have := (hown.lt q hq).1; have := (hnv11 q (.inl h)).1; omega
    ·have := (hown.lt q hq).1; have := (hnv11 q (.inr h)).1; omega
    rw [wrap_id (by omega) (by omega), i64_succ]
    refine ⟨⟨j + 1, nv2, rfl, by omega, f13.ext x1E fun q hq => ?_, by rw [hK]; simpa using hL13, by rw [hK]; simp; omega, by rw [hK]; simp [hTl], f13.blk hB12 fun hq => ?_, fun q hq => ?_⟩, by simp only [intOf_i64]; omega⟩
    ·rcases hq with hq | hq
     ·omega
     ·have := (hnv11 q (.inl hq)).2; omega
    ·rcases hq with hq | hq
     ·exact hgrg hq
     ·exact hgb11 gr (.inl hq) rfl
    ·rcases hq with hq | hq
     ·rcases q13 q hq with h13 | h13
      ·exact hgb11 q (.inl h13)
      ·have := hB12.lt; omega
     ·exact hgb11 q (.inr hq)
 ·have hjn : j = m.code.length := by omega
  subst hjn
  have haim : ∀ (q : Nat) y, (liftK i m st r m.code.length).1[q]? = some y → aimOk (liftK i m st r m.code.length).2 y := fun q y hy => liftK_aim hTl hled R.rs _ y (List.mem_of_getElem? hy)
  have eP : liftP i m st r = (liftK i m st r m.code.length).1.map (aimN (liftK i m st r m.code.length).2) := rfl
  generalize hNN : (liftK i m st r m.code.length).1 = N at *
  generalize hTT : (liftK i m st r m.code.length).2 = T at *
  refine ldB (Blk.boxed hL.blk) fa_38_2 l1_36 rfl ?_
  obtain ⟨nvs, hnvs, _⟩ := hL.nodes
  refine lnx xa_36 hnvs ?_
  refine ⟨fun v w' => ∃ (q : Nat) (M : List GNode), v = i64 q ∧ q ≤ N.length ∧ Ext w4 w' ∧ Lp g m.params.length nv tv w' M T ∧ M.length = N.length ∧ ∀ a : Nat, M[a]? = if a < q then (N[a]?).map (aimN T) else N[a]?, fun v _ => N.length - (RowKit.intOf v).toNat, ⟨0, N, rfl, Nat.zero_le _, x8, hL, rfl, fun a => by simp⟩, ?_⟩
  rintro _ w9 ⟨q, M, rfl, hq, x9, hM, hMl, hMa⟩ _
  refine V_lss.2 (ifD_dec (fun hlt => ?_) fun hge2 => ?_)
  ·obtain ⟨xs, hox2, hxs⟩ := hM.row
   obtain ⟨y, hy⟩ := ex_get (l := N) (j := q) (by omega)
   have hyM : M[q]? = some y := by rw [hMa, if_neg (by omega)]; exact hy
   obtain ⟨u, hu, asv, rfl, has, hapart⟩ := hxs q y hyM
   obtain ⟨gn, cn, rfl⟩ : ∃ gn c, nv = .slice (some ⟨gn, 0, none⟩) M.length c := by
    rcases hox2.2 with ⟨_, e⟩ | ⟨g', c', _, rfl, _⟩
    ·omega
    ·exact ⟨g', c', rfl⟩
   refine ldx xa_36 l1_52 (SliceIs.of_own hox2) (by omega) (by omega) (by simpa using hu) ?_
   have D1 : Ext w9 w9.drew := (Ext.refl _).drew
   have hMd := hM.ext D1
   refine drawD.mk' (fun w' => Ext w9.drew w') (Ext.refl _) ?_
   refine yfB (fun w' hx => Blk.boxed (hMd.blk.ext hx)) fa_38_2 l1_36 rfl ?_
   refine aimed32 (SliceIs.of_own hMd.st) (haim q y hy) fun w10 x10 => ⟨x10, ?_⟩
   refine yieldS.ok (fun w' _ => r_index underlying36 inf52 (by omega) (by omega)) ?_
   rw [Int.toNat_natCast]
   have hargs : (aimN T y).args = y.args := by cases y <;> rfl
   have hMl2 : (M.set q (aimN T y)).length = M.length := List.length_set
   have hgn := hox2.lt gn rfl
   refine (hMd.ext x10).set (n := aimN T y) (by omega) ⟨asv, rfl, by rw [hargs]; exact (D1.trans x10).own has, hapart⟩ fun w11 hM11 f11 => V_add.2 ?_
   rw [wrap_id (by omega) (by omega), i64_succ]
   rw [hMl2] at hM11
   refine ⟨⟨q + 1, M.set q (aimN T y), rfl, by omega, f11.ext (x9.trans (D1.trans x10)) fun k hk => by omega, hM11, by omega, fun a => ?_⟩, by simp only [intOf_i64]; omega⟩
   rw [List.getElem?_set]
   by_cases haq : q = a
   ·subst haq
    rw [if_pos rfl, if_pos (by omega), if_pos (by omega), hy]; rfl
   ·rw [if_neg haq, hMa]
    by_cases hlt2 : a < q
    ·rw [if_pos hlt2, if_pos (by omega)]
    ·rw [if_neg hlt2, if_neg (by omega)]
  ·have hMe : M = liftP i m st r := by
    rw [eP]
    apply List.ext_getElem?
    intro a
    rw [hMa, List.getElem?_map]
    by_cases ha : a < q
    ·rw [if_pos ha]
    ·rw [if_neg ha, List.getElem?_eq_none (by omega)]; rfl
   have hB4E := ((hB4.ext x3).ext x4).ext x9
   obtain ⟨xs, hox2, hxs⟩ := hM.row
   refine ldA (Blk.boxed hM.blk) la_38 rfl ?_
   refine stA inf38 hB4E (l := [i64 m.params.length, i64 18, nv]) rfl rfl rfl (by simp [own_one hox2, one_i]) fun wE hBE hcE => ?_
   refine ⟨_, r_var underlying38 rfl inf38 hBE rfl, ⟨_, rfl⟩, ?_⟩
   have fE := chg_fr hcE
   have kp : ∀ {e : TypeId} {v : Value} {n : Nat} {ys : List Value}, w9.ownsRow (g + 1) e 1 v n ys → wE.ownsRow (g + 1) e 1 v n ys := fun ho => fE.own ho fun k hk hS => by have := (ho.lt k hk).1; have hS : k = g4 := hS; omega
   refine yes st r nv tv wE ht h0 hkl hw R ?_ (by rw [hTT]; exact SliceIs.of_own (kp hM.st)) (hcE.ext _ (x04.trans x9) (by omega))
   rw [← hMe]
   refine ⟨xs, SliceIs.of_own (kp hox2), fun k y hy => ?_⟩
   obtain ⟨u, h4, asv, h5, h6, _⟩ := hxs k y hy
   exact ⟨u, h4, asv, h5, SliceIs.of_own (kp h6)⟩
end Go.Proofs.YtcdbikfnlggbnaaGreatDoor
namespace Go.Proofs.YtcdbikfnlggbnaaGreatDoor
open Tryz
open Go.Vc Go.Tc
variable {w : World} {K : Value → World → Prop}
def GNode.isTick : GNode → Bool
 | .tick => true
 | _ => false
theorem ite_some {α : Type} {c : Prop} [Decidable c] {a b : Option α} {n : α} (h : (if c then a else b) = some n) : (c ∧ a = some n) ∨ (¬ c ∧ b = some n) := by
 by_cases hc : c
 ·rw [if_pos hc] at h; exact .inl ⟨hc, h⟩
 ·rw [if_neg hc] at h; exact .inr ⟨hc, h⟩
theorem ite_none {α : Type} {c : Prop} [Decidable c] {a b : Option α} (h : (if c then a else b) = none) : (c ∧ a = none) ∨ (¬ c ∧ b = none) := by
 by_cases hc : c
 ·rw [if_pos hc] at h; exact .inl ⟨hc, h⟩
 ·rw [if_neg hc] at h; exact .inr ⟨hc, h⟩
theorem aim_tick (T : List Int) (n : GNode) : (aimN T n).isTick = n.isTick := by cases n <;> rfl
theorem liftN_tick {i : Img} {m : Mth} {x : Ins} {h : Nat} {n : GNode} (hn : liftN i m x h = some n) : n.isTick = false := by
 unfold liftN at hn
 repeat (rcases ite_some hn with ⟨_, hn⟩ | ⟨_, hn⟩; · (first | (cases hn; done) | (cases hn; rfl)))
 cases hn; rfl
def tickC (l : List GNode) : Nat := l.countP GNode.isTick
def onC (T : List Int) : Nat := T.countP fun t => decide (0 ≤ t)
theorem liftK_ticks (i : Img) (m : Mth) (st : St) (r : List Bool) : ∀ k, tickC (liftK i m st r k).1 = onC (liftK i m st r k).2 ∧ (liftK i m st r k).2.length = k ∧ (liftK i m st r k).1.length ≤ m.locals.length + 2 * k ∧ ∀ (pc : Nat) (t : Int), (liftK i m st r k).2[pc]? = some t → 0 ≤ t → (liftK i m st r k).1[t.toNat]? = some .tick
 | 0 => by
  refine ⟨?_, rfl, by simp [liftK], fun pc t h => by simp [liftK] at h⟩
  simp [liftK, tickC, onC, List.countP_eq_zero, GNode.isTick]
 | k + 1 => by
  obtain ⟨h1, h2, h3, h4⟩ := liftK_ticks i m st r k
  cases hk : r.getD k false with
  | false =>
   have e : liftK i m st r (k + 1) = ((liftK i m st r k).1, (liftK i m st r k).2 ++ [-1]) := by simp only [liftK, hk]; rfl
   rw [e]
   refine ⟨by simpa [onC] using h1, by simp [h2], by dsimp only; omega, fun pc t h h0 => ?_⟩
   rw [List.getElem?_append] at h
   split at h
   ·exact h4 pc t h h0
   ·have : t = -1 := by
     have := List.mem_of_getElem? h
     simpa using this
    omega
  | true =>
   have e : liftK i m st r (k + 1) = ((liftK i m st r k).1 ++ .tick :: (liftN i m (m.ins k) (st.s k).length).toList, (liftK i m st r k).2 ++ [((liftK i m st r k).1.length : Int)]) := by simp only [liftK, hk]; rfl
   rw [e]
   have hz : tickC (liftN i m (m.ins k) (st.s k).length).toList = 0 := by
    cases ho : liftN i m (m.ins k) (st.s k).length with
    | none => rfl
    | some n => simp [tickC, liftN_tick ho]
   have hl : (liftN i m (m.ins k) (st.s k).length).toList.length ≤ 1 := by cases liftN i m (m.ins k) (st.s k).length <;> simp
   refine ⟨?_, by simp [h2], by simp; omega, fun pc t h h0 => ?_⟩
   ·simp only [tickC, onC] at h1 hz ⊢
    rw [List.countP_append, List.countP_cons, List.countP_append, h1, hz]
    simp [GNode.isTick]
   ·rw [List.getElem?_append] at h
    split at h
    ·have := h4 pc t h h0
     rw [List.getElem?_append_left (List.getElem?_eq_some_iff.1 this).1]
     exact this
    ·have : t = ((liftK i m st r k).1.length : Int) := by
      have := List.mem_of_getElem? h
      simpa using this
     subst this
     rw [Int.toNat_natCast, List.getElem?_append_right (Nat.le_refl _)]
     simp
theorem liftP_ticks (i : Img) (m : Mth) (st : St) (r : List Bool) : tickC (liftP i m st r) = onC (liftK i m st r m.code.length).2 ∧ (liftK i m st r m.code.length).2.length = m.code.length ∧ (liftP i m st r).length ≤ m.locals.length + 2 * m.code.length ∧ ∀ (pc : Nat) (t : Int), (liftK i m st r m.code.length).2[pc]? = some t → 0 ≤ t → (liftP i m st r)[t.toNat]? = some .tick := by
 obtain ⟨h1, h2, h3, h4⟩ := liftK_ticks i m st r m.code.length
 refine ⟨?_, h2, by simpa [liftP] using h3, fun pc t h h0 => ?_⟩
 ·rw [← h1]
  show ((liftK i m st r m.code.length).1.map _).countP _ = _
  rw [List.countP_map]
  exact List.countP_congr fun n _ => by simp [aim_tick]
 ·show ((liftK i m st r m.code.length).1.map _)[t.toNat]? = _
  rw [List.getElem?_map, h4 pc t h h0]; rfl
end Go.Proofs.YtcdbikfnlggbnaaGreatDoor
namespace Go.Proofs.YtcdbikfnlggbnaaGreatDoor
open Tryz
open Go.Vc
theorem all_i64 (l : List Int) : (l.map i64).all oneC = true := by simp [oneC]
theorem all_vb (l : List Bool) : (l.map Value.bool).all oneC = true := by simp [oneC]
theorem clone_int {v : Value} {l : List Int} {w : World} (h : IntsAre w v l) (hl : l.length ≤ 4294967296) :
  callD prog 109 #[v] w fun r w' => w'.ownsRow w.heap.size 3 1 r l.length (l.map i64) ∧ Ext w w' := by
 apply F109_wp
 unfold F109_den
 exact cloneD (R := fun r w' => w'.ownsRow w.heap.size 3 1 r l.length (l.map i64) ∧ Ext w w') xe_23 h (all_i64 l) (by omega) fun v' w' h1 h2 => ⟨h1, h2⟩
theorem clone_bool {v : Value} {l : List Bool} {w : World} (h : BoolsAre w v l) (hl : l.length ≤ 4294967296) :
  callD prog 110 #[v] w fun r w' => w'.ownsRow w.heap.size 4 1 r l.length (l.map Value.bool) ∧ Ext w w' := by
 apply F110_wp
 unfold F110_den
 exact cloneD (R := fun r w' => w'.ownsRow w.heap.size 4 1 r l.length (l.map Value.bool) ∧ Ext w w') xe_78 h (all_vb l) (by omega) fun v' w' h1 h2 => ⟨h1, h2⟩
theorem def_ok {n : GNode} {v : Value} {w : World} (h : NodeIs w v n) : callD prog 73 #[v] w fun r w' => r = i64 n.df ∧ Ext w w' := by
 obtain ⟨sv, rfl, hs⟩ := h
 obtain ⟨sa, sc, rfl⟩ := hs.shape
 apply F73_wp
 unfold F73_den
 cases n <;> (dsimp only [GNode.val]; (repeat (first | (with_reducible refine th (by first | exact ta_105 | exact ta_113 | exact ta_140 | exact ta_142 | exact ta_144 | exact ta_146 | exact ta_148 | exact ta_150 | exact ta_152 | exact ta_155 | exact ta_157 | exact ta_162 | exact ta_84) ?_) | ((with_reducible refine tm (by first | exact ta_105 | exact ta_113 | exact ta_140 | exact ta_142 | exact ta_144 | exact ta_146 | exact ta_148 | exact ta_150 | exact ta_152 | exact ta_155 | exact ta_157 | exact ta_162 | exact ta_49 | exact ta_84) (by decide) ?_); intro _ _ _))); first | exact ⟨rfl, Ext.refl _⟩ | (refine asB (by first | exact sa_105 | exact sa_109 | exact sa_113 | exact sa_140 | exact sa_142 | exact sa_144 | exact sa_146 | exact sa_148 | exact sa_150 | exact sa_152 | exact sa_155 | exact sa_157 | exact sa_162 | exact sa_84) rfl rfl fun b w1 hb x1 => ?_; refine ldB hb (by first | exact fa_105_0 | exact fa_109_0 | exact fa_109_1 | exact fa_109_2 | exact fa_113_0 | exact fa_113_1 | exact fa_113_2 | exact fa_113_3 | exact fa_118_0 | exact fa_118_1 | exact fa_118_2 | exact fa_118_3 | exact fa_118_4 | exact fa_120_0 | exact fa_120_1 | exact fa_120_2 | exact fa_120_3 | exact fa_137_0 | exact fa_137_1 | exact fa_137_2 | exact fa_137_3 | exact fa_137_4 | exact fa_137_5 | exact fa_140_0 | exact fa_140_1 | exact fa_142_0 | exact fa_142_1 | exact fa_142_2 | exact fa_144_0 | exact fa_144_1 | exact fa_144_2 | exact fa_144_3 | exact fa_146_0 | exact fa_148_0 | exact fa_148_1 | exact fa_150_0 | exact fa_150_1 | exact fa_152_0 | exact fa_152_1 | exact fa_155_0 | exact fa_155_1 | exact fa_155_2 | exact fa_157_0 | exact fa_157_1 | exact fa_157_2 | exact fa_162_0 | exact fa_162_1 | exact fa_162_2 | exact fa_162_3 | exact fa_84_0) (by first | exact l1_126 | exact l1_179 | exact l1_21 | exact l1_210 | exact l1_212 | exact l1_22 | exact l1_23 | exact l1_24 | exact l1_25 | exact l1_3) rfl ?_; exact ⟨rfl, x1⟩))
theorem uses_ok {n : GNode} {v : Value} {w : World} (h : NodeIs w v n) (hl : n.args.length ≤ 4294967296) : callD prog 71 #[v] w fun r w' => w'.ownsRow w.heap.size 3 1 r n.us.length (n.us.map i64) ∧ Ext w w' := by
 obtain ⟨sv, rfl, hs⟩ := h
 obtain ⟨sa, sc, rfl⟩ := hs.shape
 apply F71_wp
 unfold F71_den
 cases n with
 | const _ _ | tick | goto _ | getField _ _ => dsimp only [GNode.val]; (repeat (first | (with_reducible refine th ta_105 ?_) | ((with_reducible refine tm (by first | exact ta_105 | exact ta_113 | exact ta_140 | exact ta_142 | exact ta_144 | exact ta_146 | exact ta_148 | exact ta_150 | exact ta_152 | exact ta_155 | exact ta_157 | exact ta_162) (by decide) ?_); intro _ _ _))); exact ⟨World.ownsRow_nil _ _ _ _, Ext.refl _⟩
 | move _ a | un _ _ a | branch a _ | putField _ a =>
  dsimp only [GNode.val]; (repeat (first | (with_reducible refine th (by first | exact ta_105 | exact ta_113 | exact ta_140 | exact ta_142 | exact ta_144 | exact ta_146 | exact ta_148 | exact ta_152) ?_) | ((with_reducible refine tm (by first | exact ta_105 | exact ta_113 | exact ta_140 | exact ta_142 | exact ta_144 | exact ta_148) (by decide) ?_); intro _ _ _)))
  refine asB (by first | exact sa_105 | exact sa_109 | exact sa_113 | exact sa_140 | exact sa_142 | exact sa_144 | exact sa_146 | exact sa_148 | exact sa_152) rfl rfl fun b w1 hb x1 => ?_; refine ldB hb (by first | exact fa_105_0 | exact fa_109_0 | exact fa_109_1 | exact fa_109_2 | exact fa_113_0 | exact fa_113_1 | exact fa_113_2 | exact fa_113_3 | exact fa_118_0 | exact fa_118_1 | exact fa_118_2 | exact fa_118_3 | exact fa_118_4 | exact fa_120_0 | exact fa_120_1 | exact fa_120_2 | exact fa_120_3 | exact fa_137_0 | exact fa_137_1 | exact fa_137_2 | exact fa_137_3 | exact fa_137_4 | exact fa_137_5 | exact fa_140_0 | exact fa_140_1 | exact fa_142_0 | exact fa_142_1 | exact fa_142_2 | exact fa_144_0 | exact fa_144_1 | exact fa_144_2 | exact fa_144_3 | exact fa_146_0 | exact fa_148_0 | exact fa_152_1) (by first | exact l1_126 | exact l1_179 | exact l1_21 | exact l1_210 | exact l1_212 | exact l1_22 | exact l1_23 | exact l1_24 | exact l1_25 | exact l1_3) rfl ?_
  refine bsl (by first | exact xe_202 | exact xe_23) [i64 a] rfl rfl (by simp) rfl fun v w2 ho x2 => ?_
  exact ⟨own_mono ho x1.size, x1.trans x2⟩
 | bin _ _ a c =>
  dsimp only [GNode.val]; (repeat (first | (with_reducible refine th (by first | exact ta_105 | exact ta_113) ?_) | ((with_reducible refine tm (by first | exact ta_105 | exact ta_140) (by decide) ?_); intro _ _ _)))
  refine asB sa_113 rfl rfl fun b w1 hb x1 => ?_; refine ldB hb fa_113_2 l1_3 rfl ?_; refine ldB hb fa_113_3 l1_3 rfl ?_
  refine bsl xe_23 [i64 a, i64 c] rfl rfl (by simp) rfl fun v w2 ho x2 => ?_
  exact ⟨own_mono ho x1.size, x1.trans x2⟩
 | choose _ a c d =>
  dsimp only [GNode.val]; (repeat (first | (with_reducible refine th (by first | exact ta_105 | exact ta_144) ?_) | ((with_reducible refine tm (by first | exact ta_105 | exact ta_113 | exact ta_140 | exact ta_142) (by decide) ?_); intro _ _ _)))
  refine asB sa_144 rfl rfl fun b w1 hb x1 => ?_; refine ldB hb fa_144_1 l1_3 rfl ?_; refine ldB hb fa_144_2 l1_3 rfl ?_; refine ldB hb fa_144_3 l1_3 rfl ?_
  refine bsl xe_23 [i64 a, i64 c, i64 d] rfl rfl (by simp) rfl fun v w2 ho x2 => ?_
  exact ⟨own_mono ho x1.size, x1.trans x2⟩
 | serve _ _ _ _ l | call _ _ l | callX _ _ l =>
  dsimp only [GNode.val]; (repeat (first | (with_reducible refine th (by first | exact ta_105 | exact ta_113 | exact ta_140 | exact ta_142 | exact ta_144 | exact ta_146 | exact ta_148 | exact ta_150 | exact ta_152 | exact ta_155 | exact ta_157 | exact ta_162) ?_) | ((with_reducible refine tm (by first | exact ta_105 | exact ta_113 | exact ta_140 | exact ta_142 | exact ta_144 | exact ta_146 | exact ta_148 | exact ta_150 | exact ta_152 | exact ta_155 | exact ta_157 | exact ta_162) (by decide) ?_); intro _ _ _)))
  refine asB (by first | exact sa_105 | exact sa_109 | exact sa_113 | exact sa_140 | exact sa_142 | exact sa_144 | exact sa_146 | exact sa_148 | exact sa_150 | exact sa_152 | exact sa_155 | exact sa_157 | exact sa_162) rfl rfl fun b w1 hb x1 => ?_; refine ldB hb (by first | exact fa_105_0 | exact fa_109_0 | exact fa_109_1 | exact fa_109_2 | exact fa_113_0 | exact fa_113_1 | exact fa_113_2 | exact fa_113_3 | exact fa_118_0 | exact fa_118_1 | exact fa_118_2 | exact fa_118_3 | exact fa_118_4 | exact fa_120_0 | exact fa_120_1 | exact fa_120_2 | exact fa_120_3 | exact fa_137_0 | exact fa_137_1 | exact fa_137_2 | exact fa_137_3 | exact fa_137_4 | exact fa_137_5 | exact fa_140_0 | exact fa_140_1 | exact fa_142_0 | exact fa_142_1 | exact fa_142_2 | exact fa_144_0 | exact fa_144_1 | exact fa_144_2 | exact fa_144_3 | exact fa_146_0 | exact fa_148_0 | exact fa_148_1 | exact fa_150_0 | exact fa_150_1 | exact fa_152_0 | exact fa_152_1 | exact fa_155_0 | exact fa_155_1 | exact fa_155_2 | exact fa_157_0 | exact fa_157_1 | exact fa_157_2 | exact fa_162_4) (by first | exact l1_126 | exact l1_179 | exact l1_21 | exact l1_210 | exact l1_212 | exact l1_22 | exact l1_23) rfl ?_
  exact (clone_int (hs.ext x1) hl).mono fun r w2 ⟨h1, h2⟩ => ⟨own_mono h1 x1.size, x1.trans h2⟩
 | ret s =>
  dsimp only [GNode.val]; (repeat (first | (with_reducible refine th ta_105 ?_) | ((with_reducible refine tm (by first | exact ta_105 | exact ta_113 | exact ta_140 | exact ta_142 | exact ta_144 | exact ta_146 | exact ta_148 | exact ta_150 | exact ta_152 | exact ta_155 | exact ta_157 | exact ta_162) (by decide) ?_); intro _ _ _)))
  refine asB sa_105 rfl rfl fun b w1 hb x1 => ?_; refine ldB hb fa_105_0 l1_3 rfl ?_
  refine V_neqI.2 (ifD_dec (fun hne => ?_) fun heq => ?_)
  ·refine ldB hb fa_105_0 l1_3 rfl ?_
   refine bsl xe_23 [i64 s] rfl rfl (by simp) rfl fun v w2 ho x2 => ?_
   have hu : GNode.us (.ret s) = [s] := by simp only [GNode.us]; rw [if_neg hne]
   rw [hu]
   exact ⟨own_mono ho x1.size, x1.trans x2⟩
  ·have hu : GNode.us (.ret s) = [] := by simp only [GNode.us]; rw [if_pos (by omega)]
   rw [hu]
   exact ⟨World.ownsRow_nil _ _ _ _, x1⟩
theorem next_ok {n : GNode} {v : Value} {w : World} {k : Int} (h : NodeIs w v n) (h0 : 0 ≤ k) (h1 : k ≤ 1000000) : callD prog 72 #[v, i64 k] w fun r w' => w'.ownsRow w.heap.size 3 1 r (n.nx k).length ((n.nx k).map i64) ∧ Ext w w' := by
 obtain ⟨sv, rfl, hs⟩ := h
 obtain ⟨sa, sc, rfl⟩ := hs.shape
 apply F72_wp
 unfold F72_den
 have hw : IntKind.i64.wrap (k + 1) = k + 1 := wrap_id (by omega) (by omega)
 cases n with
 | goto t =>
  dsimp only [GNode.val]
  refine V_eqni_52.2 (ifD_false.2 ?_)
  (repeat (first | (with_reducible refine th (by first | exact ta_105 | exact ta_146) ?_) | ((with_reducible refine tm ta_105 (by decide) ?_); intro _ _ _)))
  refine asB sa_146 rfl rfl fun b w1 hb x1 => ?_; refine ldB hb fa_146_0 l1_3 rfl ?_
  refine bsl xe_23 [i64 t] rfl rfl (by simp) rfl fun v w2 ho x2 => ?_
  exact ⟨own_mono ho x1.size, x1.trans x2⟩
 | ret s =>
  dsimp only [GNode.val]
  refine V_eqni_52.2 (ifD_false.2 ?_)
  (repeat (first | (with_reducible refine th ta_105 ?_) | ((with_reducible refine tm (by first | exact ta_105 | exact ta_113 | exact ta_140 | exact ta_142 | exact ta_144 | exact ta_146 | exact ta_148) (by decide) ?_); intro _ _ _)))
  refine asB sa_105 rfl rfl fun b w1 hb x1 => ?_
  exact ⟨World.ownsRow_nil _ _ _ _, x1⟩
 | branch c t =>
  dsimp only [GNode.val]
  refine V_eqni_52.2 (ifD_false.2 ?_)
  (repeat (first | (with_reducible refine th (by first | exact ta_105 | exact ta_148) ?_) | ((with_reducible refine tm (by first | exact ta_105 | exact ta_146) (by decide) ?_); intro _ _ _)))
  refine asB sa_148 rfl rfl fun b w1 hb x1 => ?_; refine ldB hb fa_148_1 l1_3 rfl ?_
  refine V_add.2 ?_
  rw [hw]
  refine V_neqI.2 (ifD_dec (fun hne => ?_) fun heq => ?_)
  ·refine V_add.2 ?_
   rw [hw]
   refine ldB hb fa_148_1 l1_3 rfl ?_
   refine bsl xe_23 [i64 (k + 1), i64 t] rfl rfl (by simp) rfl fun v w2 ho x2 => ?_
   have hu : GNode.nx (.branch c t) k = [k + 1, t] := by simp only [GNode.nx]; rw [if_neg hne]
   rw [hu]
   exact ⟨own_mono ho x1.size, x1.trans x2⟩
  ·refine V_add.2 ?_
   rw [hw]
   refine bsl xe_23 [i64 (k + 1)] rfl rfl (by simp) rfl fun v w2 ho x2 => ?_
   have hu : GNode.nx (.branch c t) k = [k + 1] := by simp only [GNode.nx]; rw [if_pos (by omega)]
   rw [hu]
   exact ⟨own_mono ho x1.size, x1.trans x2⟩
 | _ =>
  dsimp only [GNode.val]
  refine V_eqni_52.2 (ifD_false.2 ?_)
  (repeat (first | (with_reducible refine th ta_105 ?_) | ((with_reducible refine tm (by first | exact ta_105 | exact ta_113 | exact ta_140 | exact ta_142 | exact ta_144 | exact ta_146 | exact ta_148) (by decide) ?_); intro _ _ _)))
  refine V_add.2 ?_
  rw [hw]
  refine bsl (by first | exact xe_202 | exact xe_23) [i64 (k + 1)] rfl rfl (by simp) rfl fun v w2 ho x2 => ?_
  exact ⟨ho, x2⟩
theorem in_ok {n c : Int} {w : World} : callD prog 37 #[i64 n, i64 c] w fun r w' => r = .bool (decide (0 ≤ n ∧ n < c)) ∧ w' = w := by
 apply F37_wp
 unfold F37_den
 refine V_geq.2 ?_
 by_cases h : n ≥ 0
 ·simp only [h, decide_true, gd_iff, reduceIte, V_lss, pickD_iff]
  have h' : 0 ≤ n := h
  simp []
 ·simp only [h, decide_false, gd_iff, Bool.false_eq_true, reduceIte, pickD_iff]
  have h' : ¬ 0 ≤ n := h
  simp []
end Go.Proofs.YtcdbikfnlggbnaaGreatDoor
namespace Go.Proofs.YtcdbikfnlggbnaaGreatDoor
open Tryz
open Go.Vc
def serves (op : Int) : Int :=
 if op = 27 ∨ op = 28 then 1 else if op = 17 ∨ op = 18 ∨ op = 29 then 2 else if op = 30 ∨ op = 36 then 3 else if op = 31 ∨ op = 32 then 5 else -1
def okBin (op : Int) : Prop := (6 ≤ op ∧ op ≤ 14) ∨ (19 ≤ op ∧ op ≤ 21)
def okUn (op : Int) : Prop := op = 15 ∨ op = 16 ∨ op = 26
def GNode.okF : GNode → Prop
 | .bin op _ _ _ => okBin op
 | .un op _ _ => okUn op
 | .getField _ f => 0 ≤ f ∧ f < 8
 | .putField f _ => 0 ≤ f ∧ f < 8
 | .serve op _ _ _ l => serves op = l.length
 | .call m _ l => (0 ≤ m ∧ m < 8) ∧ l.length ≤ 4
 | .callX i _ l => (0 ≤ i ∧ i < 4) ∧ l.length ≤ 4
 | _ => True
def GNode.bareN : GNode → Bool
 | .const _ _ | .move _ _ | .bin _ _ _ _ | .un _ _ _ | .choose _ _ _ _ | .getField _ _ => false
 | _ => true
theorem binary_ok {op : Int} {w : World} : callD prog 106 #[i64 op] w fun r w' => (∃ b, r = .bool b ∧ (b = true ↔ okBin op)) ∧ w' = w := by
 apply F106_wp
 have key : ∀ R : Value → World → Prop, (∀ b : Bool, (b = true ↔ okBin op) → R (.bool b) w) → F106_den (i64 op) w R := by
  intro R hR
  unfold F106_den
  by_cases h1 : op ≥ 6 <;> by_cases h2 : op ≤ 14 <;> by_cases h3 : op ≥ 19 <;> by_cases h4 : op ≤ 21 <;>
   simp only [h1, h2, h3, h4, V_leq, V_geq, gd_t, gd_f, gd_tf, gd_ft, gd_undef, pickD_iff, reduceIte, Bool.false_eq_true, decide_true, decide_false] <;> exact hR _ (by simp [okBin]; omega)
 exact key _ fun b hb => ⟨⟨b, rfl, hb⟩, rfl⟩
theorem unary_ok {op : Int} {w : World} : callD prog 107 #[i64 op] w fun r w' => (∃ b, r = .bool b ∧ (b = true ↔ okUn op)) ∧ w' = w := by
 apply F107_wp
 have key : ∀ R : Value → World → Prop, (∀ b : Bool, (b = true ↔ okUn op) → R (.bool b) w) → F107_den (i64 op) w R := by
  intro R hR
  unfold F107_den
  rcases Bool.eq_false_or_eq_true (decide (op = 15)) with e1 | e1 <;> rcases Bool.eq_false_or_eq_true (decide (op = 16)) with e2 | e2 <;> rcases Bool.eq_false_or_eq_true (decide (op = 26)) with e3 | e3 <;>
   simp only [e1, e2, e3, V_eqlI, gd_f, gd_tf, pickD_iff, reduceIte, Bool.false_eq_true] <;> exact hR _ (by simp at e1 e2 e3; simp [okUn]; omega)
 exact key _ fun b hb => ⟨⟨b, rfl, hb⟩, rfl⟩
theorem serves_ok {op : Int} {w : World} : callD prog 108 #[i64 op] w fun r w' => r = i64 (serves op) ∧ w' = w := by
 apply F108_wp
 unfold F108_den
 refine ⟨fun v w' => v = .bool (decide (op = 27 ∨ op = 28)) ∧ w' = w, ?_, ?_⟩
 ·refine V_eqlI.2 (ifD_dec (fun h => ?_) fun h => V_eqlI.2 ?_) <;> exact ⟨by simp [h], rfl⟩
 rintro _ w1 ⟨rfl, rfl⟩ _
 refine ifD_dec (fun h => ⟨by simp [serves, h], rfl⟩) fun h1 => ?_
 refine ⟨fun v w' => v = .bool (decide (op = 17 ∨ op = 18 ∨ op = 29)) ∧ w' = w1, ?_, ?_⟩
 ·refine V_eqlI.2 (ifD_dec (fun h => ?_) fun h => V_eqlI.2 (ifD_dec (fun h' => ?_) fun h' => V_eqlI.2 ?_))
  ·exact ⟨by simp [h], rfl⟩
  ·exact ⟨by simp [h'], rfl⟩
  ·exact ⟨by simp [h, h'], rfl⟩
 rintro _ w2 ⟨rfl, rfl⟩ _
 refine ifD_dec (fun h => ⟨by simp [serves, h1, h], rfl⟩) fun h2 => ?_
 refine ⟨fun v w' => v = .bool (decide (op = 30 ∨ op = 36)) ∧ w' = w2, ?_, ?_⟩
 ·refine V_eqlI.2 (ifD_dec (fun h => ?_) fun h => V_eqlI.2 ?_) <;> exact ⟨by simp [h], rfl⟩
 rintro _ w3 ⟨rfl, rfl⟩ _
 refine ifD_dec (fun h => ⟨by simp [serves, h1, h2, h], rfl⟩) fun h3 => ?_
 refine V_eqlI.2 (ifD_dec (fun h => ?_) fun h => ?_)
 ·exact ifD_dec (fun _ => ⟨by subst h; rfl, rfl⟩) fun h' => absurd h h'
 refine V_eqlI.2 (ifD_dec (fun h' => ?_) fun h' => ?_)
 ·exact ⟨by subst h'; rfl, rfl⟩
 ·exact ⟨by simp [serves, h1, h2, h3, h, h'], rfl⟩
theorem fields_ok {n : GNode} {v : Value} {w : World} (h : NodeIs w v n) : callD prog 70 #[v] w fun r w' => (∃ b, r = .bool b ∧ (b = true ↔ n.okF)) ∧ Ext w w' := by
 obtain ⟨sv, rfl, hs⟩ := h
 obtain ⟨sa, sc, rfl⟩ := hs.shape
 apply F70_wp
 unfold F70_den
 cases n with
 | bin op _ _ _ =>
  dsimp only [GNode.val]; (repeat (first | (with_reducible refine th (by first | exact ta_105 | exact ta_113) ?_) | ((with_reducible refine tm ta_105 (by decide) ?_); intro _ _ _))); refine asB sa_113 rfl rfl fun b w1 hb x1 => ?_; refine ldB hb fa_113_0 l1_3 rfl ?_
  exact binary_ok.mono fun r w2 ⟨h1, h2⟩ => ⟨h1, h2 ▸ x1⟩
 | un op _ _ =>
  dsimp only [GNode.val]; (repeat (first | (with_reducible refine th (by first | exact ta_105 | exact ta_142) ?_) | ((with_reducible refine tm (by first | exact ta_105 | exact ta_113) (by decide) ?_); intro _ _ _))); refine asB sa_142 rfl rfl fun b w1 hb x1 => ?_; refine ldB hb fa_142_0 l1_3 rfl ?_
  exact unary_ok.mono fun r w2 ⟨h1, h2⟩ => ⟨h1, h2 ▸ x1⟩
 | getField _ f | putField f _ =>
  dsimp only [GNode.val]; (repeat (first | (with_reducible refine th (by first | exact ta_105 | exact ta_113 | exact ta_140 | exact ta_142 | exact ta_144 | exact ta_146 | exact ta_148 | exact ta_150 | exact ta_152) ?_) | ((with_reducible refine tm (by first | exact ta_105 | exact ta_113 | exact ta_140 | exact ta_142 | exact ta_150) (by decide) ?_); intro _ _ _))); refine asB (by first | exact sa_105 | exact sa_109 | exact sa_113 | exact sa_140 | exact sa_142 | exact sa_144 | exact sa_146 | exact sa_148 | exact sa_150 | exact sa_152) rfl rfl fun b w1 hb x1 => ?_; refine ldB hb (by first | exact fa_105_0 | exact fa_109_0 | exact fa_109_1 | exact fa_109_2 | exact fa_113_0 | exact fa_113_1 | exact fa_113_2 | exact fa_113_3 | exact fa_118_0 | exact fa_118_1 | exact fa_118_2 | exact fa_118_3 | exact fa_118_4 | exact fa_120_0 | exact fa_120_1 | exact fa_120_2 | exact fa_120_3 | exact fa_137_0 | exact fa_137_1 | exact fa_137_2 | exact fa_137_3 | exact fa_137_4 | exact fa_137_5 | exact fa_140_0 | exact fa_140_1 | exact fa_142_0 | exact fa_142_1 | exact fa_142_2 | exact fa_144_0 | exact fa_144_1 | exact fa_144_2 | exact fa_144_3 | exact fa_146_0 | exact fa_148_0 | exact fa_148_1 | exact fa_150_0 | exact fa_150_1 | exact fa_152_0) (by first | exact l1_126 | exact l1_179 | exact l1_21 | exact l1_210 | exact l1_212 | exact l1_22 | exact l1_23 | exact l1_24 | exact l1_25 | exact l1_3) rfl ?_
  exact in_ok.mono fun r w2 ⟨h1, h2⟩ => ⟨⟨_, h1, by simp [GNode.okF]⟩, h2 ▸ x1⟩
 | serve op _ _ _ l =>
  dsimp only [GNode.val]; (repeat (first | (with_reducible refine th (by first | exact ta_105 | exact ta_162) ?_) | ((with_reducible refine tm (by first | exact ta_105 | exact ta_113 | exact ta_140 | exact ta_142 | exact ta_144 | exact ta_146 | exact ta_148 | exact ta_150 | exact ta_152) (by decide) ?_); intro _ _ _))); refine asB sa_162 rfl rfl fun b w1 hb x1 => ?_
  refine drawD.mk' (fun w' => Boxed w' b _) (hb.ext (Ext.refl _).drew) ?_
  refine yieldS.ok (fun w' hw => fa_162_0.ex w' b 0) ?_
  refine yieldS.ok (fun w' hw => r_ld_3 (hw 0 _ rfl)) ?_
  refine yieldS.ok (fun w' hw => fa_162_4.ex w' b 0) ?_
  refine yieldS.ok (fun w' hw => r_ld_23 (hw 4 _ rfl)) ?_
  refine yieldS.ok (fun w' hw => r_len underlying23) ?_
  refine serves_ok.mono fun r w2 ⟨h1, h2⟩ => ?_
  subst h1 h2
  refine ⟨hb.ext (Ext.refl _).drew, ?_⟩
  refine yieldS.ok (fun w' hw => r_eqlI) ?_
  exact ⟨⟨_, rfl, decide_eq_true_iff⟩, x1.drew⟩
 | call m _ l | callX m _ l =>
  dsimp only [GNode.val]; (repeat (first | (with_reducible refine th (by first | exact ta_105 | exact ta_113 | exact ta_140 | exact ta_142 | exact ta_144 | exact ta_146 | exact ta_148 | exact ta_150 | exact ta_152 | exact ta_155 | exact ta_157) ?_) | ((with_reducible refine tm (by first | exact ta_105 | exact ta_113 | exact ta_140 | exact ta_142 | exact ta_144 | exact ta_146 | exact ta_148 | exact ta_150 | exact ta_152 | exact ta_155 | exact ta_157 | exact ta_162) (by decide) ?_); intro _ _ _))); refine asB (by first | exact sa_105 | exact sa_109 | exact sa_113 | exact sa_140 | exact sa_142 | exact sa_144 | exact sa_146 | exact sa_148 | exact sa_150 | exact sa_152 | exact sa_155 | exact sa_157) rfl rfl fun b w1 hb x1 => ?_; refine ldB hb (by first | exact fa_105_0 | exact fa_109_0 | exact fa_109_1 | exact fa_109_2 | exact fa_113_0 | exact fa_113_1 | exact fa_113_2 | exact fa_113_3 | exact fa_118_0 | exact fa_118_1 | exact fa_118_2 | exact fa_118_3 | exact fa_118_4 | exact fa_120_0 | exact fa_120_1 | exact fa_120_2 | exact fa_120_3 | exact fa_137_0 | exact fa_137_1 | exact fa_137_2 | exact fa_137_3 | exact fa_137_4 | exact fa_137_5 | exact fa_140_0 | exact fa_140_1 | exact fa_142_0 | exact fa_142_1 | exact fa_142_2 | exact fa_144_0 | exact fa_144_1 | exact fa_144_2 | exact fa_144_3 | exact fa_146_0 | exact fa_148_0 | exact fa_148_1 | exact fa_150_0 | exact fa_150_1 | exact fa_152_0 | exact fa_152_1 | exact fa_155_0 | exact fa_157_0) (by first | exact l1_126 | exact l1_179 | exact l1_21 | exact l1_210 | exact l1_212 | exact l1_22 | exact l1_23 | exact l1_24 | exact l1_25 | exact l1_3) rfl ?_
  refine in_ok.mono fun r w2 ⟨h1, h2⟩ => ?_
  subst h1 h2
  refine gd_iff.2 ?_
  split
  ·rename_i hin
   refine V.ok (FA.ex (by first | exact fa_105_0 | exact fa_109_0 | exact fa_109_1 | exact fa_109_2 | exact fa_113_0 | exact fa_113_1 | exact fa_113_2 | exact fa_113_3 | exact fa_118_0 | exact fa_118_1 | exact fa_118_2 | exact fa_118_3 | exact fa_118_4 | exact fa_120_0 | exact fa_120_1 | exact fa_120_2 | exact fa_120_3 | exact fa_137_0 | exact fa_137_1 | exact fa_137_2 | exact fa_137_3 | exact fa_137_4 | exact fa_137_5 | exact fa_140_0 | exact fa_140_1 | exact fa_142_0 | exact fa_142_1 | exact fa_142_2 | exact fa_144_0 | exact fa_144_1 | exact fa_144_2 | exact fa_144_3 | exact fa_146_0 | exact fa_148_0 | exact fa_148_1 | exact fa_150_0 | exact fa_150_1 | exact fa_152_0 | exact fa_152_1 | exact fa_155_0 | exact fa_155_1 | exact fa_155_2 | exact fa_157_2) _ _ _) (gd_iff.2 ?_)
   rw [if_pos hin]
   refine V.ok (r_ld_23 (hb 2 _ rfl)) (gd_iff.2 ?_)
   rw [if_pos hin]
   refine V.ok (r_len underlying23) (gd_iff.2 ?_)
   rw [if_pos hin]
   refine V_leq.2 (pickD_mk ?_)
   rw [if_pos hin]
   have := of_decide_eq_true hin
   exact ⟨⟨_, rfl, decide_eq_true_iff.trans ⟨fun h => ⟨this, by simp only [GNode.args] at h; omega⟩, fun h => by have := h.2; simp only [GNode.args]; omega⟩⟩, x1⟩
  ·rename_i hin
   refine gd_iff.2 ?_
   rw [if_neg hin]
   refine gd_iff.2 ?_
   rw [if_neg hin]
   refine gd_iff.2 ?_
   rw [if_neg hin]
   refine pickD_mk ?_
   rw [if_neg hin]
   exact ⟨⟨_, rfl, by simp [GNode.okF] at hin ⊢; omega⟩, x1⟩
 | _ => dsimp only [GNode.val]; (repeat (first | (with_reducible refine th ta_105 ?_) | ((with_reducible refine tm (by first | exact ta_105 | exact ta_113 | exact ta_140 | exact ta_142 | exact ta_144 | exact ta_146 | exact ta_148 | exact ta_150 | exact ta_152 | exact ta_155 | exact ta_157 | exact ta_162) (by decide) ?_); intro _ _ _))); refine V_neqni_52.2 ?_; exact ⟨⟨_, rfl, by simp [GNode.okF]⟩, Ext.refl _⟩
theorem bare_ok {n : GNode} {v : Value} {w : World} (h : NodeIs w v n) : callD prog 74 #[v] w fun r w' => r = .bool n.bareN ∧ w' = w := by
 obtain ⟨sv, rfl, hs⟩ := h
 apply F74_wp
 have key : ∀ R : Value → World → Prop, R (.bool n.bareN) w → F74_den (n.val sv) w R := by
  intro R hR
  unfold F74_den
  cases n <;> simp only [GNode.val, V_ta_84, V_ta_140, V_ta_113, V_ta_142, V_ta_144, V_ta_150, V_ext0, V_ext1, reduceIte, Nat.reduceEqDiff, pickD_iff, ifD_true, ifD_false, Bool.false_eq_true] <;> exact hR
 exact key _ ⟨rfl, rfl⟩
structure RightN (n : GNode) (k regs count : Int) : Prop where
 f : n.okF
 u : ∀ r ∈ n.us, 0 ≤ r ∧ r < regs
 t : ∀ r ∈ n.nx k, 0 ≤ r ∧ r < count
 d : (0 ≤ n.df ∧ n.df < regs) ∨ (n.df = -1 ∧ n.bareN = true)
theorem right_ok {p : GProg} {pv nv : Value} {n : GNode} {k : Int} {w : World} (hp : ProgIs w pv p) (hn : NodeIs w nv n) (hl : n.args.length ≤ 4294967296) (h0 : 0 ≤ k) (h1 : k ≤ 1000000) :
  callD prog 38 #[pv, nv, i64 k] w fun r w' => (∃ b, r = .bool b ∧ (b = true ↔ RightN n k p.regs p.nodes.length)) ∧ Ext w w' := by
 obtain ⟨ns, rfl, ⟨vs, hs, _⟩, _⟩ := hp
 apply F38_wp
 unfold F38_den
 refine bx fun b w1 hb x1 => ?_
 refine (fields_ok (hn.ext x1)).mono fun r w2 ⟨⟨bf, hr, hbf⟩, x2⟩ => ?_
 subst hr
 refine V_not.2 (ifD.mk (fun hf => ?_) fun hf => ?_)
 ·refine ⟨⟨false, rfl, ⟨(fun h => by cases h), fun h => ?_⟩⟩, x1.trans x2⟩
  have := hbf.2 h.f
  subst this; cases hf
 have hok : n.okF := hbf.1 (by cases bf <;> simp_all)
 refine (uses_ok (hn.ext (x1.trans x2)) hl).mono fun ul w3 ⟨hu', x3⟩ => ?_
 have hu : IntsAre w3 ul n.us := SliceIs.of_own hu'
 clear hu'
 have X3 := x1.trans (x2.trans x3)
 have hb3 := hb.ext (x2.trans x3)
 have hlen := us_len n
 refine lnx xa_23 hu ?_
 refine ⟨fun v w' => ∃ j : Nat, v = i64 j ∧ j ≤ n.us.length ∧ Ext w3 w' ∧ ∀ (i : Nat) u, i < j → n.us[i]? = some u → 0 ≤ u ∧ u < p.regs, fun v _ => n.us.length - (RowKit.intOf v).toNat,
  ⟨0, rfl, by omega, Ext.refl _, fun i u hi => by omega⟩, ?_⟩
 rintro _ w4 ⟨j, rfl, hj, x4, hall⟩ _
 refine V_lss.2 (ifD_dec (fun hlt => ?_) fun hge => ?_)
 ·have hlt' : j < n.us.length := by omega
  obtain ⟨u, hu'⟩ := ex_get hlt'
  refine ldx xa_23 l1_3 (hu.ext x4) (by omega) (by omega) (getI hu') ?_
  refine ldB (hb3.ext x4) fa_38_1 l1_3 rfl ?_
  refine in_ok.mono fun r w5 ⟨hr, hw⟩ => ?_
  subst hr hw
  refine V_not.2 (ifD.mk (fun hf => ?_) fun hf => ?_)
  ·refine ⟨⟨false, rfl, ⟨(fun h => by cases h), fun h => ?_⟩⟩, X3.trans x4⟩
   have := h.u u (List.mem_of_getElem? hu')
   simp [this] at hf
  ·have hin : 0 ≤ u ∧ u < p.regs := by simpa using hf
   refine V_add.2 ?_
   rw [wrap_id (by omega) (by omega), i64_succ]
   refine ⟨⟨j + 1, rfl, by omega, x4, fun i u' hi hu2 => ?_⟩, by simp only [intOf_i64]; omega⟩
   by_cases hij : i = j
   ·subst hij; rw [hu'] at hu2; cases hu2; exact hin
   ·exact hall i u' (by omega) hu2
 have hju : j = n.us.length := by omega
 have hus : ∀ r ∈ n.us, 0 ≤ r ∧ r < p.regs := fun r hr => by
  obtain ⟨i, hi⟩ := List.getElem?_of_mem hr
  exact hall i r (by have := (List.getElem?_eq_some_iff.1 hi).1; omega) hi
 have X4 := X3.trans x4
 have hb4 := hb3.ext x4
 refine (next_ok (hn.ext X4) h0 h1).mono fun tl w5 ⟨ht', x5⟩ => ?_
 have ht : IntsAre w5 tl (n.nx k) := SliceIs.of_own ht'
 clear ht'
 have X5 := X4.trans x5
 have hb5 := hb4.ext x5
 have hlen2 := nx_len n k
 refine lnx xa_23 ht ?_
 refine ⟨fun v w' => ∃ j : Nat, v = i64 j ∧ j ≤ (n.nx k).length ∧ Ext w5 w' ∧ ∀ (i : Nat) u, i < j → (n.nx k)[i]? = some u → 0 ≤ u ∧ u < p.nodes.length, fun v _ => (n.nx k).length - (RowKit.intOf v).toNat,
  ⟨0, rfl, by omega, Ext.refl _, fun i u hi => by omega⟩, ?_⟩
 rintro _ w6 ⟨j2, rfl, hj2, x6, hall2⟩ _
 refine V_lss.2 (ifD_dec (fun hlt => ?_) fun hge2 => ?_)
 ·have hlt' : j2 < (n.nx k).length := by omega
  obtain ⟨u, hu'⟩ := ex_get hlt'
  refine ldx xa_23 l1_3 (ht.ext x6) (by omega) (by omega) (getI hu') ?_
  refine ldB (hb5.ext x6) fa_38_2 l1_36 rfl ?_
  refine lnx xa_36 (hs.ext (X5.trans x6)) ?_
  refine in_ok.mono fun r w7 ⟨hr, hw⟩ => ?_
  subst hr hw
  refine V_not.2 (ifD.mk (fun hf => ?_) fun hf => ?_)
  ·refine ⟨⟨false, rfl, ⟨(fun h => by cases h), fun h => ?_⟩⟩, X5.trans x6⟩
   have := h.t u (List.mem_of_getElem? hu')
   simp [this] at hf
  ·have hin : 0 ≤ u ∧ u < p.nodes.length := by simpa using hf
   refine V_add.2 ?_
   rw [wrap_id (by omega) (by omega), i64_succ]
   refine ⟨⟨j2 + 1, rfl, by omega, x6, fun i u' hi hu2 => ?_⟩, by simp only [intOf_i64]; omega⟩
   by_cases hij : i = j2
   ·subst hij; rw [hu'] at hu2; cases hu2; exact hin
   ·exact hall2 i u' (by omega) hu2
 have hns : ∀ r ∈ n.nx k, 0 ≤ r ∧ r < p.nodes.length := fun r hr => by
  obtain ⟨i, hi⟩ := List.getElem?_of_mem hr
  exact hall2 i r (by have := (List.getElem?_eq_some_iff.1 hi).1; omega) hi
 have X6 := X5.trans x6
 have hb6 := hb5.ext x6
 refine (def_ok (hn.ext X6)).mono fun r w7 ⟨hr, x7⟩ => ?_
 subst hr
 refine ldB (hb6.ext x7) fa_38_1 l1_3 rfl ?_
 refine in_ok.mono fun r w8 ⟨hr, hw⟩ => ?_
 subst hr hw
 have X7 := X6.trans x7
 by_cases hd : 0 ≤ n.df ∧ n.df < p.regs
 ·simp only [decide_eq_true hd, gd_tf, gd_undef, pickD_iff, reduceIte]
  exact ⟨⟨true, rfl, ⟨fun _ => ⟨hok, hus, hns, .inl hd⟩, fun _ => rfl⟩⟩, X7⟩
 ·simp only [decide_eq_false hd, gd_f, pickD_iff, V_eqlI]
  by_cases hm : n.df = -1
  ·simp only [decide_eq_true hm, gd_t]
   refine (bare_ok (hn.ext X7)).mono fun r w9 ⟨hr, hw⟩ => ?_
   subst hr hw
   refine ⟨⟨n.bareN, by simp, ⟨fun hb => ⟨hok, hus, hns, .inr ⟨hm, hb⟩⟩, fun h => ?_⟩⟩, X7⟩
   rcases h.d with h | h
   ·exact absurd h hd
   ·exact h.2
  ·simp only [decide_eq_false hm, gd_ft]
   refine ⟨⟨false, by simp, ⟨(fun h => by cases h), fun h => ?_⟩⟩, X7⟩
   rcases h.d with h | h
   ·exact absurd h hd
   ·exact absurd h.1 hm
structure OkProg (p : GProg) : Prop where
 l1 : 1 ≤ p.nodes.length
 l2 : p.nodes.length ≤ 250
 r1 : 0 ≤ p.regs
 r2 : p.regs ≤ 40
 p1 : 0 ≤ p.params
 p2 : p.params ≤ 4
 p3 : p.params ≤ p.regs
 nodes : ∀ (i : Nat) n, p.nodes[i]? = some n → RightN n i p.regs p.nodes.length
theorem check_ok {p : GProg} {pv : Value} {w : World} (hp : ProgIs w pv p) (hv : OkProg p) :
  callD prog 18 #[pv] w fun r w' => r = .bool true ∧ Ext w w' := by
 obtain ⟨ns, rfl, hn, hargs⟩ := hp
 have hn' := hn
 obtain ⟨vs, hs, hvs⟩ := hn'
 obtain ⟨l1, l2, r1, r2, p1, p2, p3, hnodes⟩ := hv
 apply F18_wp
 unfold F18_den
 refine bx fun b w1 hb x1 => ?_
 refine ldB hb fa_38_2 l1_36 rfl (lnx xa_36 (hs.ext x1) (V_lss.2 ?_))
 simp only [show decide ((p.nodes.length : Int) < 1) = false from by simp; omega, gd_f]
 refine ldB hb fa_38_2 l1_36 rfl (lnx xa_36 (hs.ext x1) (V_gtr.2 ?_))
 simp only [show decide ((p.nodes.length : Int) > 250) = false from by simp; omega, pickD_iff, Bool.false_eq_true, reduceIte, gd_f]
 refine ldB hb fa_38_1 l1_3 rfl ?_
 refine in_ok.mono fun r w5 ⟨hr, hw⟩ => ?_
 subst hr hw
 simp only [show decide (0 ≤ p.regs ∧ p.regs < 41) = true from by simp; omega, V_not, Bool.not_true, pickD_iff, Bool.false_eq_true, reduceIte, gd_f]
 refine ldB hb fa_38_0 l1_3 rfl ?_
 refine in_ok.mono fun r w5 ⟨hr, hw⟩ => ?_
 subst hr hw
 simp only [show decide (0 ≤ p.params ∧ p.params < 5) = true from by simp; omega, V_not, Bool.not_true, pickD_iff, Bool.false_eq_true, reduceIte, gd_f]
 refine ldB hb fa_38_0 l1_3 rfl (ldB hb fa_38_1 l1_3 rfl (V_gtr.2 ?_))
 simp only [show decide (p.params > p.regs) = false from by simp; omega, ifD_false]
 refine ldB hb fa_38_2 l1_36 rfl (lnx xa_36 (hs.ext x1) ?_)
 refine ⟨fun v w' => ∃ j : Nat, v = i64 j ∧ j ≤ p.nodes.length ∧ Ext w5 w', fun v _ => p.nodes.length - (RowKit.intOf v).toNat, ⟨0, rfl, by omega, Ext.refl _⟩, ?_⟩
 rintro _ w6 ⟨j, rfl, hj, x6⟩ _
 refine V_lss.2 (ifD_dec (fun hlt => ?_) fun hge => ⟨trivial, x1.trans x6⟩)
 have hlt' : j < p.nodes.length := by omega
 obtain ⟨n, hn1⟩ := ex_get hlt'
 obtain ⟨u, hu, hnu⟩ := hvs j n hn1
 have hb6 := hb.ext x6
 refine ldx xa_36 l1_52 (hs.ext (x1.trans x6)) (by omega) (by omega) (by simpa using hu) ?_
 refine ldA hb6 la_38 rfl ?_
 refine (right_ok (p := p) ⟨ns, rfl, hn.ext (x1.trans x6), hargs⟩ (hnu.ext (x1.trans x6)) (hargs n (List.mem_of_getElem? hn1)) (by omega) (by omega)).mono fun r w7 ⟨⟨bb, hr, hbb⟩, x7⟩ => ?_
 subst hr
 have := hbb.2 (hnodes j n hn1)
 subst this
 refine V_not.2 (ifD_false.2 (V_add.2 ?_))
 rw [wrap_id (by omega) (by omega), i64_succ]
 exact ⟨⟨j + 1, rfl, by omega, x6.trans x7⟩, by simp only [intOf_i64]; omega⟩
end Go.Proofs.YtcdbikfnlggbnaaGreatDoor
namespace Go.Proofs.YtcdbikfnlggbnaaGreatDoor
open Tryz
open Go.Vc Go.Tc
def OkNode (n : GNode) : Prop := n.okF ∧ (∀ r ∈ n.us, 0 ≤ r ∧ r < 18) ∧ ((0 ≤ n.df ∧ n.df < 18) ∨ (n.df = -1 ∧ n.bareN = true))
theorem rowP_in {h n : Nat} (h1 : n ≤ h) (h2 : h ≤ 8) : ∀ r ∈ rowP h n, 0 ≤ r ∧ r < 18 := fun r hr => by
 simp only [rowP, List.mem_map, List.mem_range] at hr
 obtain ⟨k, hk, rfl⟩ := hr
 omega
theorem rowP_len (h n : Nat) : (rowP h n).length = n := by simp [rowP]
theorem liftN_ok {i : Img} {m : Mth} {x : Ins} {h : Nat} {n : GNode} (ox : Okx i m x) (h8 : h ≤ 8) (ha : (asked i m x).length ≤ h) (hg : h - (asked i m x).length + hgt i m x ≤ 8) (hn : liftN i m x h = some n) : OkNode n := by
 have xr := ox.xr
 have hop := xr.1
 have hl := xr.2.1
 have hu := xr.2.2.1
 have nm := ox.nm
 have pl := ox.mr.1.2
 have ll := ox.mr.2.2.1.2
 have fl := ox.ir.1.2
 have locl : m.locs.length ≤ 10 := by simp [Mth.locs]; omega
 unfold liftN at hn
 by_cases d0 : x.op = 1
 ·rw [if_pos d0] at hn; cases hn
  have e1 : hgt i m x = 1 := by simp [hgt, givesS, d0]
  have e2 : asked i m x = [] := by simp [asked, d0, isBin]
  rw [e1, e2] at hg
  exact ⟨trivial, by simp [GNode.us], .inl (by simp only [GNode.df]; simp at hg; omega)⟩
 rw [if_neg d0] at hn
 by_cases d1 : x.op = 2
 ·rw [if_pos d1] at hn; cases hn
  have e1 : hgt i m x = 1 := by simp [hgt, givesS, d1]
  have e2 : asked i m x = [] := by simp [asked, d1, isBin]
  rw [e1, e2] at hg
  simp only [namesS, d1, true_or, if_true] at nm
  simp [lim, d1] at hl hu
  exact ⟨trivial, by simp [GNode.us]; omega, .inl (by simp only [GNode.df]; simp at hg; omega)⟩
 rw [if_neg d1] at hn
 by_cases d2 : x.op = 3
 ·rw [if_pos d2] at hn; cases hn
  have e2 : (asked i m x).length = 1 := by simp [asked, d2]
  simp [lim, d2] at hl hu
  exact ⟨trivial, by simp [GNode.us]; omega, .inl (by simp only [GNode.df]; omega)⟩
 rw [if_neg d2] at hn
 by_cases d3 : x.op = 4
 ·rw [if_pos d3] at hn; cases hn
 rw [if_neg d3] at hn
 by_cases d4 : x.op = 5
 ·rw [if_pos d4] at hn; cases hn
  have e1 : hgt i m x = 2 := by simp [hgt, givesS, d4]
  have e2 : (asked i m x).length = 1 := by simp [asked, d4]
  rw [e1, e2] at hg
  exact ⟨trivial, by simp [GNode.us]; omega, .inl (by simp only [GNode.df]; omega)⟩
 rw [if_neg d4] at hn
 by_cases d5 : x.op = 15 ∨ x.op = 16 ∨ x.op = 26
 ·rw [if_pos d5] at hn; cases hn
  have e2 : (asked i m x).length = 1 := by rcases d5 with d5 | d5 | d5 <;> simp [asked, d5, isBin]
  exact ⟨d5, by simp [GNode.us]; omega, .inl (by simp only [GNode.df]; omega)⟩
 rw [if_neg d5] at hn
 by_cases d6 : x.op = 22
 ·rw [if_pos d6] at hn; cases hn
  have e2 : (asked i m x).length = 3 := by simp [asked, d6, isBin]
  exact ⟨trivial, by simp [GNode.us]; omega, .inl (by simp only [GNode.df]; omega)⟩
 rw [if_neg d6] at hn
 by_cases c1 : x.op = 23
 ·rw [if_pos c1] at hn; cases hn
  exact ⟨trivial, by simp [GNode.us], .inr ⟨rfl, rfl⟩⟩
 rw [if_neg c1] at hn
 by_cases c2 : x.op = 24
 ·rw [if_pos c2] at hn; cases hn
  have e2 : (asked i m x).length = 1 := by simp [asked, c2, isBin]
  exact ⟨trivial, by simp [GNode.us]; omega, .inr ⟨rfl, rfl⟩⟩
 rw [if_neg c2] at hn
 by_cases d9 : x.op = 25
 ·rw [if_pos d9] at hn; cases hn
  have e1 : hgt i m x = 1 := by simp [hgt, givesS, d9, isBin]
  have e2 : asked i m x = [] := by simp [asked, d9, isBin]
  rw [e1, e2] at hg
  exact ⟨trivial, by simp [GNode.us], .inl (by simp only [GNode.df]; simp at hg; omega)⟩
 rw [if_neg d9] at hn
 by_cases d10 : x.op = 35
 ·rw [if_pos d10] at hn; cases hn
  have e1 : hgt i m x = 1 := by simp [hgt, givesS, d10, isBin]
  have e2 : asked i m x = [] := by simp [asked, d10, isBin]
  rw [e1, e2] at hg
  exact ⟨trivial, by simp [GNode.us], .inl (by simp only [GNode.df]; simp at hg; omega)⟩
 rw [if_neg d10] at hn
 by_cases d11 : x.op = 33
 ·rw [if_pos d11] at hn; cases hn
  have e1 : hgt i m x = 1 := by simp [hgt, givesS, d11]
  have e2 : asked i m x = [] := by simp [asked, d11, isBin]
  rw [e1, e2] at hg
  simp [lim, d11] at hl hu
  exact ⟨⟨by omega, by omega⟩, by simp [GNode.us], .inl (by simp only [GNode.df]; simp at hg; omega)⟩
 rw [if_neg d11] at hn
 by_cases d12 : x.op = 34
 ·rw [if_pos d12] at hn; cases hn
  have e2 : (asked i m x).length = 1 := by simp [asked, d12]
  simp [lim, d12] at hl hu
  exact ⟨⟨by omega, by omega⟩, by simp [GNode.us]; omega, .inr ⟨rfl, rfl⟩⟩
 rw [if_neg d12] at hn
 have res : ∀ {r : Int} {q : Nat}, q ≤ h → h - q + (resL r).length ≤ 8 → (0 ≤ resP r ((h : Int) - (q : Nat)) ∧ resP r ((h : Int) - (q : Nat)) < 18) ∨ resP r ((h : Int) - (q : Nat)) = -1 := fun {r q} hq hr => by
  unfold resP resL at *
  by_cases h0 : r = 0
  ·rw [if_pos h0]; exact .inr rfl
  ·rw [if_neg h0] at hr ⊢; simp at hr; exact .inl (by omega)
 by_cases d13 : x.op = 37
 ·rw [if_pos d13] at hn; cases hn
  have e1 : hgt i m x = (resL (i.meth x.a).result).length := by simp [hgt, givesS, d13, isBin]
  have e2 : asked i m x = (i.meth x.a).params := by simp [asked, d13, isBin]
  rw [e2] at ha hg
  rw [e1] at hg
  simp [lim, d13] at hl hu
  simp [namesS, d13] at nm
  have hp := (ox.ir.2.2.1.2.1 _ (Img.meth_mem hl nm)).1.2
  refine ⟨⟨⟨by omega, by omega⟩, by rw [rowP_len]; omega⟩, fun r hr => rowP_in ha h8 r hr, ?_⟩
  rcases res ha hg with h1 | h1
  ·exact .inl h1
  ·exact .inr ⟨h1, rfl⟩
 rw [if_neg d13] at hn
 by_cases d14 : x.op = 38
 ·rw [if_pos d14] at hn; cases hn
  have e1 : hgt i m x = (resL (i.imp x.a).result).length := by simp [hgt, givesS, d14, isBin]
  have e2 : asked i m x = (i.imp x.a).params := by simp [asked, d14, isBin]
  rw [e2] at ha hg
  rw [e1] at hg
  simp [lim, d14] at hl hu
  simp [namesS, d14] at nm
  have hp := (ox.ir.2.1.2 _ (Img.imp_mem hl nm)).2.1.2
  refine ⟨⟨⟨by omega, by omega⟩, by rw [rowP_len]; omega⟩, fun r hr => rowP_in ha h8 r hr, ?_⟩
  rcases res ha hg with h1 | h1
  ·exact .inl h1
  ·exact .inr ⟨h1, rfl⟩
 rw [if_neg d14] at hn
 by_cases d15 : x.op = 39
 ·rw [if_pos d15] at hn; cases hn
  have e2 : asked i m x = resL m.result := by simp [asked, d15, isBin]
  rw [e2] at ha
  refine ⟨trivial, fun r hr => ?_, .inr ⟨rfl, rfl⟩⟩
  simp only [GNode.us] at hr
  split at hr
  ·simp at hr
  ·rename_i hne
   simp only [List.mem_singleton] at hr
   unfold resP at hr hne
   unfold resL at ha
   by_cases h0 : m.result = 0
   ·rw [if_pos h0] at hne; exact absurd rfl hne
   ·rw [if_neg h0] at hr ha; simp at ha; omega
 rw [if_neg d15] at hn
 by_cases d16 : (srvP x.op).1 ≠ 0
 ·rw [if_pos d16] at hn; cases hn
  have e0 : x.op = 27 ∨ x.op = 28 ∨ x.op = 17 ∨ x.op = 18 ∨ x.op = 29 ∨ x.op = 30 ∨ x.op = 36 ∨ x.op = 31 ∨ x.op = 32 := by
   apply Classical.byContradiction
   intro hne
   apply d16
   simp only [srvP]
   rw [if_neg (by omega), if_neg (by omega), if_neg (by omega), if_neg (by omega), if_neg (by omega)]
  rcases e0 with e | e | e | e | e | e | e | e | e <;>
   (have e1 : (asked i m x).length = (srvP x.op).1.toNat := by simp [asked, srvP, e, isBin]
    have e2 : hgt i m x = if (srvP x.op).2 then 1 else 0 := by first | (simp [hgt, givesS, srvP, e, isBin]; done) | (simp [hgt, givesS, srvP, e, isBin]; split <;> rfl)
    simp [srvP, e] at e1 e2
    refine ⟨by simp [GNode.okF, serves, rowP_len, srvP, e], fun r hr => rowP_in (n := (srvP x.op).1.toNat) (by simp [srvP, e]; omega) h8 r hr, ?_⟩
    simp [GNode.df, GNode.bareN, srvP, e]
    try omega)
 ·rw [if_neg d16] at hn; cases hn
  have e0 : isBin x.op := by
   have d16' : (srvP x.op).1 = 0 := by simpa using d16
   unfold isBin
   simp only [srvP] at d16'
   repeat' (split at d16' <;> first | (simp at d16'; done) | skip)
   omega
  have e2 : (asked i m x).length = 2 := by
   unfold asked
   rw [if_neg (by omega), if_neg (by omega), if_neg (by omega), if_neg (by omega), if_pos e0]; rfl
  exact ⟨e0, by simp [GNode.us]; omega, .inl (by simp only [GNode.df]; omega)⟩
def GNode.falls : GNode → Bool
 | .goto _ | .ret _ => false
 | _ => true
theorem liftN_falls {i : Img} {m : Mth} {x : Ins} {h k : Nat} {n : GNode} (hn : liftN i m x h = some n) (hf : n.falls = true) : ((k : Int) + 1) ∈ nextS x k := by
 by_cases c1 : x.op = 23
 ·have : n = .goto x.a := by simp [liftN, c1] at hn; exact hn.symm
  subst this; cases hf
 by_cases c2 : x.op = 39
 ·have : n = .ret (resP m.result ((h : Int) - 1)) := by simp [liftN, c2] at hn; exact hn.symm
  subst this; cases hf
 unfold nextS
 rw [if_neg c1]
 by_cases c3 : x.op = 24
 ·rw [if_pos c3]; exact List.mem_cons_self
 ·rw [if_neg c3, if_neg c2]; exact List.mem_singleton.2 rfl
theorem liftN_none {i : Img} {m : Mth} {x : Ins} {h : Nat} (ho : liftN i m x h = none) : x.op = 4 := by
 apply Classical.byContradiction
 intro hne
 unfold liftN at ho
 iterate 17 (rcases ite_none ho with ⟨hc, ho⟩ | ⟨_, ho⟩; · (first | (cases ho; done) | exact absurd hc hne))
 cases ho
theorem liftN_goto {i : Img} {m : Mth} {x : Ins} {h : Nat} {t : Int} (hn : liftN i m x h = some (.goto t)) : x.op = 23 ∧ t = x.a := by
 unfold liftN at hn
 iterate 17 (rcases ite_some hn with ⟨hc, hn⟩ | ⟨_, hn⟩; · (first | (cases hn; done) | (cases hn; exact ⟨hc, rfl⟩)))
 cases hn
theorem liftN_branch {i : Img} {m : Mth} {x : Ins} {h : Nat} {q t : Int} (hn : liftN i m x h = some (.branch q t)) : x.op = 24 ∧ t = x.a := by
 unfold liftN at hn
 iterate 17 (rcases ite_some hn with ⟨hc, hn⟩ | ⟨_, hn⟩; · (first | (cases hn; done) | (cases hn; exact ⟨hc, rfl⟩)))
 cases hn
theorem liftK_end {i : Img} {m : Mth} {st : St} {r : List Bool} (R : Rch i m st [] r) : ∀ k, ∀ (a : Nat) (n : GNode), (liftK i m st r k).1[a]? = some n → n.falls = true → a + 1 < (liftK i m st r k).1.length ∨ (a + 1 = (liftK i m st r k).1.length ∧ r.getD k false = true)
 | 0, a, n, h, _ => by
  have hlt := (List.getElem?_eq_some_iff.1 h).1
  have hz : r.getD 0 false = true := by rcases R.z with hz | hz; exact hz; cases hz
  by_cases h1 : a + 1 < (liftK i m st r 0).1.length
  ·exact .inl h1
  ·exact .inr ⟨by omega, hz⟩
 | k + 1, a, n, h, hf => by
  have ih := liftK_end R k
  cases hk : r.getD k false with
  | false =>
   have e : (liftK i m st r (k + 1)).1 = (liftK i m st r k).1 := by simp only [liftK, hk]; rfl
   rw [e] at h ⊢
   rcases ih a n h hf with h1 | ⟨_, h1⟩
   ·exact .inl h1
   ·rw [hk] at h1; cases h1
  | true =>
   have e : (liftK i m st r (k + 1)).1 = (liftK i m st r k).1 ++ .tick :: (liftN i m (m.ins k) (st.s k).length).toList := by simp only [liftK, hk]; rfl
   have next : ((k : Int) + 1) ∈ nextS (m.ins k) k → r.getD (k + 1) false = true := fun hm => by
    rcases R.cl k hk _ hm with h1 | h1
    ·rwa [show ((k : Int) + 1).toNat = k + 1 by omega] at h1
    ·cases h1
   rw [e] at h ⊢
   rw [List.getElem?_append] at h
   split at h
   ·left; simp; omega
   ·rename_i hge
    have hlt := (List.getElem?_eq_some_iff.1 h).1
    cases ho : liftN i m (m.ins k) (st.s k).length with
    | none =>
     rw [ho] at hlt
     simp at hlt
     right
     refine ⟨by simp; omega, next ?_⟩
     have h4 : (m.ins k).op = 4 := liftN_none ho
     simp [nextS, h4]
    | some y =>
     rw [ho] at hlt h
     simp at hlt
     by_cases ha : a = (liftK i m st r k).1.length
     ·left; simp; omega
     ·right
      have ea : a - (liftK i m st r k).1.length = 1 := by omega
      rw [ea] at h
      simp at h
      subst h
      exact ⟨by simp; omega, next (liftN_falls ho hf)⟩
theorem liftK_at {i : Img} {m : Mth} {st : St} {r : List Bool} : ∀ (k pc : Nat), pc < k → r.getD pc false = true → ∃ t : Nat, (liftK i m st r k).2[pc]? = some (t : Int) ∧ t < (liftK i m st r k).1.length
 | k + 1, pc, h, hr => by
  have hl := (liftK_ticks i m st r k).2.1
  by_cases hpk : pc = k
  ·subst hpk
   have e : liftK i m st r (pc + 1) = ((liftK i m st r pc).1 ++ .tick :: (liftN i m (m.ins pc) (st.s pc).length).toList, (liftK i m st r pc).2 ++ [((liftK i m st r pc).1.length : Int)]) := by simp only [liftK, hr]; rfl
   rw [e]
   exact ⟨(liftK i m st r pc).1.length, by rw [List.getElem?_append_right (by omega), hl]; simp, by simp⟩
  ·obtain ⟨t, h1, h2⟩ := liftK_at (i := i) (m := m) (st := st) (r := r) k pc (by omega) hr
   cases hk : r.getD k false with
   | false =>
    have e : liftK i m st r (k + 1) = ((liftK i m st r k).1, (liftK i m st r k).2 ++ [-1]) := by simp only [liftK, hk]; rfl
    rw [e]
    exact ⟨t, by rw [List.getElem?_append_left (by omega)]; exact h1, h2⟩
   | true =>
    have e : liftK i m st r (k + 1) = ((liftK i m st r k).1 ++ .tick :: (liftN i m (m.ins k) (st.s k).length).toList, (liftK i m st r k).2 ++ [((liftK i m st r k).1.length : Int)]) := by simp only [liftK, hk]; rfl
    rw [e]
    exact ⟨t, by rw [List.getElem?_append_left (by omega)]; exact h1, by simp; omega⟩
theorem liftK_okn {i : Img} {m : Mth} {st : St} {r : List Bool} (hox : ∀ x ∈ m.code, Okx i m x) (hwf : WF m st) (hled : ∀ k, st.h k = true → Led i m st k) (R : Rch i m st [] r) : ∀ k, k ≤ m.code.length → ∀ n ∈ (liftK i m st r k).1, OkNode n ∧ (match n with | .goto t | .branch _ t => r.getD t.toNat false = true | _ => True)
 | 0, _, n, h => by
  simp only [liftK, List.mem_map, List.mem_range] at h
  obtain ⟨j, hj, rfl⟩ := h
  have mr : m.right ∨ m.code.length = 0 := by
   by_cases h0 : m.code.length = 0
   ·exact .inr h0
   ·obtain ⟨x, hx⟩ := ex_get (l := m.code) (j := 0) (by omega)
    exact .inl (hox x (List.mem_of_getElem? hx)).mr
  have hz : r.getD 0 false = true := by rcases R.z with hz | hz; exact hz; cases hz
  have h0 : 0 < r.length := getD_lt hz
  have hrl := R.rl
  rcases mr with mr | mr
  ·have pl := mr.1.2
   have ll := mr.2.2.1.2
   exact ⟨⟨trivial, by simp [GNode.us], .inl (by simp only [GNode.df]; omega)⟩, trivial⟩
  ·omega
 | k + 1, hk1, n, h => by
  have ih := liftK_okn hox hwf hled R k (by omega)
  cases hk : r.getD k false with
  | false =>
   have e : (liftK i m st r (k + 1)).1 = (liftK i m st r k).1 := by simp only [liftK, hk]; rfl
   rw [e] at h
   exact ih n h
  | true =>
   have e : (liftK i m st r (k + 1)).1 = (liftK i m st r k).1 ++ .tick :: (liftN i m (m.ins k) (st.s k).length).toList := by simp only [liftK, hk]; rfl
   rw [e] at h
   rcases List.mem_append.1 h with h | h
   ·exact ih n h
   ·rcases List.mem_cons.1 h with h | h
    ·subst h
     exact ⟨⟨trivial, by simp [GNode.us], .inr ⟨rfl, rfl⟩⟩, trivial⟩
    ·have hn : liftN i m (m.ins k) (st.s k).length = some n := by simpa using h
     have hh := R.rs k hk
     obtain ⟨out, hdo, _⟩ := hled k hh
     obtain ⟨hkd, hl8⟩ := hwf.kd k hh
     have ox := hox _ (ins_mem (m := m) (k := k) (by omega))
     obtain ⟨_, ho8, hask, hlen⟩ := doS_ok ox hkd hdo
     refine ⟨liftN_ok ox hl8 hask (by omega) hn, ?_⟩
     have jmp : ∀ t, t ∈ nextS (m.ins k) k → r.getD t.toNat false = true := fun t ht => by
      rcases R.cl k hk t ht with h1 | h1
      ·exact h1
      ·cases h1
     cases n with
     | goto t =>
      obtain ⟨e1, rfl⟩ := liftN_goto hn
      exact jmp _ (by simp [nextS, e1])
     | branch q t =>
      obtain ⟨e1, rfl⟩ := liftN_branch hn
      exact jmp _ (by simp [nextS, e1])
     | _ => trivial
theorem lift_okProg {i : Img} {k : Nat} {st : St} {r : List Bool} (ht : Taken i) (hk : k < i.methods.length) (hw : Walk i (i.meth k) (some st)) (R : Rch i (i.meth k) st [] r) : OkProg ⟨(i.meth k).params.length, 18, liftP i (i.meth k) st r⟩ := by
 have hmi := meth_get (i := i) (a := (k : Int)) (by omega) (by omega)
 rw [Int.toNat_natCast] at hmi
 have ir := ht.1
 have mr : (i.meth k).right := ir.2.2.1.2.1 _ (List.mem_of_getElem? hmi)
 obtain ⟨hox, hwf, hh0, hs0, hled⟩ := hw.led ir mr
 generalize hmm : i.meth k = m at *
 have pl := mr.1.2
 have ll := mr.2.2.1.2
 have lc := mr.2.2.2.1.2
 obtain ⟨c1, c2, c3, c4⟩ := liftP_ticks i m st r
 have hz : r.getD 0 false = true := by rcases R.z with hz | hz; exact hz; cases hz
 have hl0 : 0 < m.code.length := by have := getD_lt hz; have := R.rl; omega
 obtain ⟨t0, ht0, htl⟩ := liftK_at (i := i) (m := m) (st := st) (r := r) m.code.length 0 hl0 hz
 have hlen : (liftP i m st r).length = (liftK i m st r m.code.length).1.length := by simp [liftP]
 refine ⟨by dsimp only; omega, by dsimp only; omega, by dsimp only; decide, by dsimp only; decide, by dsimp only; omega, by dsimp only; omega, by dsimp only; omega, fun a n hn => ?_⟩
 have hn : (liftP i m st r)[a]? = some n := hn
 have hn' := hn
 rw [show liftP i m st r = (liftK i m st r m.code.length).1.map (aimN (liftK i m st r m.code.length).2) from rfl, List.getElem?_map, Option.map_eq_some_iff] at hn'
 obtain ⟨y, hy, rfl⟩ := hn'
 obtain ⟨⟨o1, o2, o3⟩, o4⟩ := liftK_okn hox hwf hled R m.code.length (Nat.le_refl _) y (List.mem_of_getElem? hy)
 have hcend : r.getD m.code.length false = false := by
  cases hc : r.getD m.code.length false with
  | false => rfl
  | true => have := getD_lt hc; have := R.rl; omega
 have fall : y.falls = true → (a : Int) + 1 < ((liftP i m st r).length : Int) := fun hf => by
  rcases liftK_end R m.code.length a y hy hf with h1 | ⟨_, h1⟩
  ·omega
  ·rw [hcend] at h1; cases h1
 have aim : ∀ t : Int, r.getD t.toNat false = true → 0 ≤ nth (liftK i m st r m.code.length).2 t.toNat ∧ nth (liftK i m st r m.code.length).2 t.toNat < ((liftP i m st r).length : Int) := fun t hr => by
  have := getD_lt hr
  have := R.rl
  obtain ⟨q, h1, h2⟩ := liftK_at (i := i) (m := m) (st := st) (r := r) m.code.length t.toNat (by omega) hr
  have e : nth (liftK i m st r m.code.length).2 t.toNat = (q : Int) := by
   unfold nth
   rw [List.getD_eq_getElem?_getD, h1]; rfl
  rw [e]
  omega
 refine ⟨?_, ?_, ?_, ?_⟩
 ·cases y <;> exact o1
 ·cases y <;> exact o2
 ·intro t htn
  cases y with
  | goto to =>
   have htn : t ∈ [nth (liftK i m st r m.code.length).2 to.toNat] := htn
   rw [List.mem_singleton] at htn
   subst htn
   exact aim to o4
  | branch q to =>
   have hA := aim to o4
   have hF := fall rfl
   simp only [aimN, GNode.nx] at htn
   split at htn
   ·rw [List.mem_singleton] at htn; subst htn; exact ⟨by omega, hF⟩
   ·rcases List.mem_cons.1 htn with h1 | h1
    ·subst h1; exact ⟨by omega, hF⟩
    ·rw [List.mem_singleton] at h1; subst h1; exact hA
  | ret s => simp [aimN, GNode.nx] at htn
  | _ =>
   have hF := fall rfl
   simp only [aimN, GNode.nx, List.mem_singleton] at htn
   subst htn
   exact ⟨by omega, hF⟩
 ·cases y <;> exact o3
end Go.Proofs.YtcdbikfnlggbnaaGreatDoor
namespace Go.Proofs.YtcdbikfnlggbnaaGreatDoor
open Tryz
open Go.Vc
def killL (d : Int) (bs : List Bool) : List Bool := if 0 ≤ d then bs.set d.toNat false else bs
def aheadL (n : GNode) (bs : List Bool) : List Bool := n.us.foldl (fun a r => a.set r.toNat true) (killL n.df bs)
theorem killL_len (d : Int) (bs : List Bool) : (killL d bs).length = bs.length := by unfold killL; split <;> simp
theorem foldSet_len (l : List Int) (bs : List Bool) : (l.foldl (fun a r => a.set r.toNat true) bs).length = bs.length := by
 induction l generalizing bs with
 | nil => rfl
 | cons x l ih => simp [ih]
theorem aheadL_len (n : GNode) (bs : List Bool) : (aheadL n bs).length = bs.length := by unfold aheadL; rw [foldSet_len, killL_len]
theorem map_set_b (bs : List Bool) (i : Nat) (b : Bool) : (bs.map Value.bool).set i (.bool b) = (bs.set i b).map Value.bool := by rw [List.map_set]
theorem ahead_ok {n : GNode} {nv bv : Value} {bs : List Bool} {w : World} (hn : NodeIs w nv n) (hb : BoolsAre w bv bs) (hl : n.args.length ≤ 4294967296) (hbl : bs.length ≤ 4294967296)
  (hd : n.df < bs.length) (hu : ∀ r ∈ n.us, 0 ≤ r ∧ r < bs.length) :
  callD prog 75 #[nv, bv] w fun r w' => w'.ownsRow w.heap.size 4 1 r bs.length ((aheadL n bs).map Value.bool) ∧ Ext w w' := by
 apply F75_wp
 unfold F75_den
 refine (clone_bool hb hbl).mono fun ov w1 ⟨ho, x1⟩ => ?_
 refine ⟨fun w' => w'.ownsRow w.heap.size 4 1 ov bs.length ((killL n.df bs).map Value.bool) ∧ Ext w w', ?_, ?_⟩
 ·refine (def_ok (hn.ext x1)).mono fun r w2 ⟨hr, x2⟩ => ?_
  subst hr
  refine V_geq.2 (ifD_dec (fun hge => ?_) fun hlt => ?_)
  ·have hge' : 0 ≤ n.df := hge
   refine stO xa_78 inf4 (x2.own ho) hge' hd rfl fun w3 ho3 hg => ?_
   rw [map_set_b] at ho3
   refine ⟨?_, (x1.trans x2).grown hg fun k hk => ((x2.own ho).lt k hk).1⟩
   unfold killL
   rw [if_pos hge']
   exact ho3
  ·refine ⟨?_, x1.trans x2⟩
   unfold killL
   rw [if_neg (by simpa using hlt)]
   exact x2.own ho
 rintro w2 ⟨ho2, x2⟩ _
 refine (uses_ok (hn.ext x2) hl).mono fun ul w3 ⟨hus, x3⟩ => ?_
 have hlen := us_len n
 have hov : ∀ k, ov.ownBlock = some k → k < w2.heap.size := fun k hk => (ho2.lt k hk).2
 refine lnx xa_23 (SliceIs.of_own hus) ?_
 refine ⟨fun v w' => ∃ j : Nat, v = i64 j ∧ j ≤ n.us.length ∧ Ext w w' ∧ w'.ownsRow w2.heap.size 3 1 ul n.us.length (n.us.map i64) ∧ w'.ownsRow w.heap.size 4 1 ov bs.length (((n.us.take j).foldl (fun a r => a.set r.toNat true) (killL n.df bs)).map Value.bool),
  fun v _ => n.us.length - (RowKit.intOf v).toNat, ⟨0, rfl, by omega, x2.trans x3, hus, by simpa using x3.own ho2⟩, ?_⟩
 rintro _ w4 ⟨j, rfl, hj, x4, hus4, ho4⟩ _
 refine V_lss.2 (ifD_dec (fun hlt => ?_) fun hge => ?_)
 ·have hlt' : j < n.us.length := by omega
  obtain ⟨u, hu'⟩ := ex_get hlt'
  obtain ⟨hu0, hu1⟩ := hu u (List.mem_of_getElem? hu')
  refine ldO' xa_23 l1_3 hus4 (by omega) (by omega) (getI hu') ?_
  refine stO xa_78 inf4 ho4 hu0 (by omega) rfl fun w5 ho5 hg => ?_
  refine V_add.2 ?_
  rw [wrap_id (by omega) (by omega), i64_succ]
  rw [map_set_b] at ho5
  refine ⟨⟨j + 1, rfl, by omega, x4.grown hg fun k hk => (ho4.lt k hk).1, hus4.kept hg (own_ne hus4 hov), ?_⟩, by simp only [intOf_i64]; omega⟩
  rw [List.take_add_one, hu']
  simpa using ho5
 ·have hju : j = n.us.length := by omega
  subst hju
  rw [List.take_length] at ho4
  exact ⟨ho4, x4⟩
end Go.Proofs.YtcdbikfnlggbnaaGreatDoor
namespace Go.Proofs.YtcdbikfnlggbnaaGreatDoor
open Tryz
open Go.Vc
def GProg.at' (p : GProg) (k : Nat) : GNode := p.nodes.getD k .tick
inductive Alive (p : GProg) : Nat → Nat → Prop
 | use {k to r : Nat} : (to : Int) ∈ (p.at' k).nx k → (r : Int) ∈ (p.at' to).us → Alive p k r
 | pass {k to r : Nat} : (to : Int) ∈ (p.at' k).nx k → (r : Int) ≠ (p.at' to).df → Alive p to r → Alive p k r
def AheadP (p : GProg) (m : Nat → Nat → Prop) (to r : Nat) : Prop := (r : Int) ∈ (p.at' to).us ∨ ((r : Int) ≠ (p.at' to).df ∧ m to r)
theorem alive_iff {p : GProg} {k r : Nat} : Alive p k r ↔ ∃ to : Nat, (to : Int) ∈ (p.at' k).nx k ∧ AheadP p (Alive p) to r := by
 constructor
 ·intro h
  cases h with
  | use h1 h2 => exact ⟨_, h1, .inl h2⟩
  | pass h1 h2 h3 => exact ⟨_, h1, .inr ⟨h2, h3⟩⟩
 ·rintro ⟨to, h1, h2 | ⟨h2, h3⟩⟩
  ·exact .use h1 h2
  ·exact .pass h1 h2 h3
abbrev Mx := Nat → Nat → Bool
def updM (m : Mx) (k r : Nat) (b : Bool) : Mx := fun k' r' => if k' = k ∧ r' = r then b else m k' r'
theorem updM_same (m : Mx) (k r : Nat) : updM m k r (m k r) = m := by
 funext k' r'
 unfold updM
 split
 ·rename_i h; rw [h.1, h.2]
 ·rfl
def rowL (m : Mx) (k R : Nat) : List Bool := (List.range R).map (m k)
theorem rowL_len (m : Mx) (k R : Nat) : (rowL m k R).length = R := by simp [rowL]
theorem rowL_get {m : Mx} {k R r : Nat} (h : r < R) : (rowL m k R)[r]? = some (m k r) := by simp [rowL, h]
theorem rowL_upd (m : Mx) (k r R : Nat) (b : Bool) : rowL (updM m k r b) k R = (rowL m k R).set r b := by
 apply List.ext_getElem?
 intro j
 by_cases hj : j < R
 ·rw [rowL_get hj, List.getElem?_set]
  by_cases hr : r = j
  ·subst hr; simp [updM, rowL, hj]
  ·have : ¬ j = r := fun h => hr h.symm
   simp [updM, this, hr, rowL_get hj]
 ·simp [rowL, hj]
theorem rowL_other {m : Mx} {k k' r R : Nat} {b : Bool} (h : k' ≠ k) : rowL (updM m k r b) k' R = rowL m k' R := by
 unfold rowL
 apply List.map_congr_left
 intro j _
 simp [updM, h]
def cntR (f : Nat → Bool) : Nat → Nat
 | 0 => 0
 | n + 1 => cntR f n + if f n then 0 else 1
def cntM (m : Mx) (R : Nat) : Nat → Nat
 | 0 => 0
 | n + 1 => cntM m R n + cntR (m n) R
theorem cntR_le {f g : Nat → Bool} (h : ∀ j, f j = true → g j = true) : ∀ n, cntR g n ≤ cntR f n
 | 0 => Nat.le_refl _
 | n + 1 => by
  have := cntR_le h n
  unfold cntR
  have hj := h n
  cases hf : f n <;> cases hg : g n <;> simp [hf, hg] at hj ⊢ <;> omega
theorem cntR_lt {f g : Nat → Bool} (h : ∀ j, f j = true → g j = true) {i : Nat} (hf : f i = false) (hg : g i = true) : ∀ n, i < n → cntR g n < cntR f n
 | 0, hi => by omega
 | n + 1, hi => by
  unfold cntR
  by_cases he : i = n
  ·subst he
   have := cntR_le h i
   simp [hf, hg]; omega
  ·have := cntR_lt h hf hg n (by omega)
   have hj := h n
   cases h1 : f n <;> cases h2 : g n <;> simp [h1, h2] at hj ⊢ <;> omega
theorem cntM_le {m m' : Mx} (h : ∀ k r, m k r = true → m' k r = true) (R : Nat) : ∀ n, cntM m' R n ≤ cntM m R n
 | 0 => Nat.le_refl _
 | n + 1 => by
  have h1 := cntM_le h R n
  have h2 := cntR_le (h n) R
  unfold cntM
  omega
theorem cntM_lt {m m' : Mx} (h : ∀ k r, m k r = true → m' k r = true) {R k r : Nat} (hr : r < R) (hf : m k r = false) (hg : m' k r = true) : ∀ n, k < n → cntM m' R n < cntM m R n
 | 0, hi => by omega
 | n + 1, hi => by
  unfold cntM
  have h2 := cntR_le (h n) R
  by_cases he : k = n
  ·subst he
   have h1 := cntM_le h R k
   have := cntR_lt (h k) hf hg R hr
   omega
  ·have := cntM_lt h hr hf hg n (by omega)
   omega
theorem foldSet_get (l : List Int) : ∀ (bs : List Bool) (r : Nat), r < bs.length → (∀ x ∈ l, 0 ≤ x) → (l.foldl (fun a r => a.set r.toNat true) bs)[r]? = some (decide ((r : Int) ∈ l) || bs.getD r false) := by
 induction l with
 | nil => intro bs r h _; simp [h]
 | cons x l ih =>
  intro bs r h h0
  rw [List.foldl_cons, ih (bs.set x.toNat true) r (by simpa using h) (fun y hy => h0 y (by simp [hy]))]
  have hx := h0 x (by simp)
  by_cases hr : x.toNat = r
  ·have : (r : Int) = x := by omega
   simp [hr, this, h]
  ·have : ¬ (r : Int) = x := by omega
   simp [List.getD_eq_getElem?_getD, List.getElem?_set, hr, this]
theorem aheadL_get {n : GNode} {bs : List Bool} {r : Nat} (h : r < bs.length) (h0 : ∀ x ∈ n.us, 0 ≤ x) :
  (aheadL n bs)[r]? = some (decide ((r : Int) ∈ n.us) || (decide ((r : Int) ≠ n.df) && bs.getD r false)) := by
 unfold aheadL
 rw [foldSet_get _ _ _ (by rw [killL_len]; exact h) h0]
 congr 2
 unfold killL
 split
 ·rename_i hd
  by_cases hr : n.df.toNat = r
  ·have : (r : Int) = n.df := by omega
   simp [hr, this, h]
  ·have : ¬ (r : Int) = n.df := by omega
   simp [List.getD_eq_getElem?_getD, List.getElem?_set, hr, this]
 ·rename_i hd
  have : ¬ (r : Int) = n.df := by omega
  simp [this]
end Go.Proofs.YtcdbikfnlggbnaaGreatDoor
namespace Go.Proofs.YtcdbikfnlggbnaaGreatDoor
open Tryz
open Go.Vc
def sl (R g : Nat) : Value := .slice (some ⟨g, 0, none⟩) R R
structure St (w0 w : World) (b : Nat) (cs : List Value) (g0 : Nat) (gs : List Nat) (R : Nat) (m : Mx) : Prop where
 x : Ext w0 w
 box : Boxed w b cs
 lo : w0.heap.size ≤ g0
 bg : b < g0
 gg : ∀ g ∈ gs, g0 < g
 nd : gs.Nodup
 out : Blk w g0 (gs.map (sl R)) 78
 rows : ∀ (k g : Nat), gs[k]? = some g → Blk w g ((rowL m k R).map Value.bool) 4
theorem St.ext {w0 w w' : World} {b g0 R : Nat} {cs : List Value} {gs : List Nat} {m : Mx} (h : St w0 w b cs g0 gs R m) (hx : Ext w w') : St w0 w' b cs g0 gs R m :=
 ⟨h.x.trans hx, h.box.ext hx, h.lo, h.bg, h.gg, h.nd, h.out.ext hx, fun k g hk => (h.rows k g hk).ext hx⟩
theorem nd_inj {gs : List Nat} (h : gs.Nodup) {i j g : Nat} (hi : gs[i]? = some g) (hj : gs[j]? = some g) : i = j := by
 obtain ⟨hi', hi2⟩ := List.getElem?_eq_some_iff.1 hi
 obtain ⟨hj', hj2⟩ := List.getElem?_eq_some_iff.1 hj
 have hp := List.pairwise_iff_getElem.1 h
 rcases Nat.lt_trichotomy i j with hlt | he | hgt
 ·exact absurd (hi2.trans hj2.symm) (hp i j hi' hj' hlt)
 ·exact he
 ·exact absurd (hj2.trans hi2.symm) (hp j i hj' hi' hgt)
theorem St.set {w0 w : World} {b g0 R : Nat} {cs : List Value} {gs : List Nat} {m : Mx} (h : St w0 w b cs g0 gs R m) {k g : Nat} (hk : gs[k]? = some g) (r : Nat) (v : Bool) :
  St w0 (w.setCell ⟨g, r, none⟩ (.bool v)) b cs g0 gs R (updM m k r v) := by
 have hgm := List.mem_of_getElem? hk
 have hg := h.gg g hgm
 refine ⟨h.x.setCell (by have := h.lo; omega) _, h.box.other (by have := h.bg; omega), h.lo, h.bg, h.gg, h.nd, h.out.other (by omega), fun k' g' hk' => ?_⟩
 by_cases he : k' = k
 ·subst he
  rw [hk] at hk'
  cases hk'
  rw [rowL_upd, ← map_set_b]
  exact (h.rows _ _ hk).set r _
 ·rw [rowL_other he]
  exact (h.rows k' g' hk').other fun hgg => he (nd_inj h.nd hk' (hgg ▸ hk))
def readM (gs : List Nat) (w : World) : Mx := fun k r =>
 match gs[k]? with
 | some g => (match w.cell? ⟨g, r, none⟩ with | some (.bool b) => b | _ => false)
 | none => false
theorem St.read {w0 w : World} {b g0 R : Nat} {cs : List Value} {gs : List Nat} {m : Mx} (h : St w0 w b cs g0 gs R m) {k r : Nat} (hk : k < gs.length) (hr : r < R) : readM gs w k r = m k r := by
 obtain ⟨g, hg⟩ := ex_get hk
 unfold readM
 rw [hg]
 have := (h.rows k g hg).cell r
 rw [List.getElem?_map, rowL_get hr] at this
 simp [this]
theorem cntR_congr {f g : Nat → Bool} : ∀ n, (∀ j, j < n → f j = g j) → cntR f n = cntR g n
 | 0, _ => rfl
 | n + 1, h => by unfold cntR; rw [cntR_congr n fun j hj => h j (by omega), h n (by omega)]
theorem cntM_congr {m m' : Mx} {R : Nat} : ∀ n, (∀ k r, k < n → r < R → m k r = m' k r) → cntM m R n = cntM m' R n
 | 0, _ => rfl
 | n + 1, h => by unfold cntM; rw [cntM_congr n fun k r hk hr => h k r (by omega) hr, cntR_congr R fun r hr => h n r (by omega) hr]
theorem St.cnt {w0 w : World} {b g0 R : Nat} {cs : List Value} {gs : List Nat} {m : Mx} (h : St w0 w b cs g0 gs R m) : cntM (readM gs w) R gs.length = cntM m R gs.length :=
 cntM_congr _ fun _ _ hk hr => h.read hk hr
def Done (p : GProg) (R : Nat) (m : Mx) (k : Nat) : Prop := ∀ to : Nat, (to : Int) ∈ (p.at' k).nx k → ∀ r < R, AheadP p (fun a b => m a b = true) to r → m k r = true
def Snd (p : GProg) (m : Mx) : Prop := ∀ k r, m k r = true → Alive p k r
structure Swp (p : GProg) (N R : Nat) (m0 m : Mx) (f : Bool) : Prop where
 le : ∀ k r, m0 k r = true → m k r = true
 snd : Snd p m
 no : f = false → m = m0
 yes : f = true → ∃ k r, k < N ∧ r < R ∧ m0 k r = false ∧ m k r = true
theorem Swp.step {p : GProg} {N R : Nat} {m0 m : Mx} {f : Bool} (h : Swp p N R m0 m f) {k r : Nat} (hk : k < N) (hr : r < R) (a : Bool) (ha : a = true → Alive p k r) :
  Swp p N R m0 (updM m k r (m k r || a)) (f || (a && !m k r)) := by
 have hle : ∀ k' r', m k' r' = true → updM m k r (m k r || a) k' r' = true := by
  intro k' r' h'
  unfold updM
  split
  ·rename_i he; rw [he.1, he.2] at h'; simp [h']
  ·exact h'
 refine ⟨fun k' r' h' => hle _ _ (h.le _ _ h'), ?_, ?_, ?_⟩
 ·intro k' r' h'
  unfold updM at h'
  split at h'
  ·rename_i he
   rw [he.1, he.2]
   rcases Bool.or_eq_true_iff.1 h' with h1 | h1
   ·exact h.snd _ _ h1
   ·exact ha h1
  ·exact h.snd _ _ h'
 ·intro hf
  have hf' := Bool.or_eq_false_iff.1 hf
  have : (m k r || a) = m k r := by
   have := hf'.2
   cases hm : m k r <;> cases a <;> simp_all
  rw [this, updM_same]
  exact h.no hf'.1
 ·intro hf
  rcases Bool.or_eq_true_iff.1 hf with h1 | h1
  ·obtain ⟨k', r', h2, h3, h4, h5⟩ := h.yes h1
   exact ⟨k', r', h2, h3, h4, hle _ _ h5⟩
  ·have h2 : a = true ∧ m k r = false := by simpa using h1
   refine ⟨k, r, hk, hr, ?_, by simp [updM, h2.1]⟩
   cases h0 : m0 k r with
   | false => rfl
   | true => have := h.le _ _ h0; rw [h2.2] at this; cases this
theorem alive_of_done {p : GProg} {N R : Nat} {m : Mx} (hN : N = p.nodes.length) (hv : ∀ (i : Nat) n, p.nodes[i]? = some n → RightN n i R N) (h : ∀ k < N, Done p R m k) : ∀ {k r : Nat}, Alive p k r → k < N → r < R → m k r = true := by
 intro k r ha
 have hat : ∀ k < N, p.nodes[k]? = some (p.at' k) := fun k hk => by
  unfold GProg.at'
  rw [List.getD_eq_getElem?_getD]
  obtain ⟨n, hn⟩ := ex_get (l := p.nodes) (j := k) (by omega)
  simp [hn]
 induction ha with
 | use h1 h2 => intro hk hr; exact h _ hk _ h1 _ hr (.inl h2)
 | @pass k to r h1 h2 h3 ih =>
  intro hk hr
  have hto : to < N := by have := (hv _ _ (hat _ hk)).t _ h1; omega
  exact h _ hk _ h1 _ hr (.inr ⟨h2, ih hto hr⟩)
end Go.Proofs.YtcdbikfnlggbnaaGreatDoor
namespace Go.Proofs.YtcdbikfnlggbnaaGreatDoor
open Tryz
open Go.Vc
theorem rowL_false (k R : Nat) : (rowL (fun _ _ => false) k R).map Value.bool = List.replicate R (.bool false) := by
 apply List.ext_getElem?
 intro j
 by_cases hj : j < R
 ·simp [rowL_get hj, hj]
 ·simp [rowL, hj]
theorem OkProg.at {p : GProg} (hv : OkProg p) {k : Nat} (hk : k < p.nodes.length) : p.nodes[k]? = some (p.at' k) ∧ RightN (p.at' k) k p.regs p.nodes.length := by
 obtain ⟨n, hn⟩ := ex_get hk
 have : p.at' k = n := by unfold GProg.at'; rw [List.getD_eq_getElem?_getD, hn]; rfl
 rw [this]
 exact ⟨hn, hv.nodes k n hn⟩
set_option maxHeartbeats 1600000 in
theorem sweep5 {p : GProg} {N R : Nat} {w0 : World} {b g0 : Nat} {cs : List Value} {gs : List Nat} {m0 : Mx} (hN : gs.length = N) (hN2 : N ≤ 250) (hR1 : R ≤ 40)
  {k g : Nat} (hkN : k < N) (hg : gs[k]? = some g) {av : Value} {A : List Bool} {B : Nat} (hA : A.length = R) (hgB : ∀ g ∈ gs, g < B)
  (hal : ∀ r, A[r]? = some true → Alive p k r) {Q : Value → World → Prop} {w : World} {f : Bool} {m : Mx} (hst : St w0 w b cs g0 gs R m) (hsw : Swp p N R m0 m f)
  (ha : w.ownsRow B 4 1 av R (A.map Value.bool))
  (hQ : ∀ (f' : Bool) (m' : Mx) w', St w0 w' b cs g0 gs R m' → Swp p N R m0 m' f' → (f = true → f' = true) → (f' = false → ∀ r, A[r]? = some true → m0 k r = true) → Ext w0 w' → (∀ B' e size n v xs, w.ownsRow B' e size n v xs → (∀ g ∈ gs, g < B') → w'.ownsRow B' e size n v xs) → Q (.bool f') w') :
  ∃ (I5 : NP 2) (μ5 : NF 2), I5 (.bool f) (Value.int IntKind.i64 0) w ∧
   ∀ (t5_3 : Value) (t62 : Value), ∀ w37 : World, I5 t5_3 t62 w37 → ∀ _f : Env,
   V prog (binOp .lss 3 t62 (i64 R)) w37 fun t63 w38 =>
   ifD t63 (
   V prog (Instr.indexAt 78 av t62) w38 fun t65 w39 =>
   V prog (Instr.loadAt 4 t65) w39 fun t66 w40 =>
   gd t5_3 false (fun K => K t66 w40) w40 fun t69 w41 =>
   gd t5_3 false (fun K => K t69 w41) w41 fun t70 w42 =>
   gd t70 true (fun K => K (.slice (some ⟨g0, 0, none⟩) N N) w42) w42 fun t71 w43 =>
   gd t70 true (fun K => K (i64 k) w43) w43 fun t72 w44 =>
   gd t70 true (fun K => V prog (Instr.indexAt 98 t71 t72) w44 K) w44 fun t73 w45 =>
   gd t70 true (fun K => V prog (Instr.loadAt 78 t73) w45 K) w45 fun t74 w46 =>
   gd t70 true (fun K => K t62 w46) w46 fun t75 w47 =>
   gd t70 true (fun K => V prog (Instr.indexAt 78 t74 t75) w47 K) w47 fun t76 w48 =>
   gd t70 true (fun K => V prog (Instr.loadAt 4 t76) w48 K) w48 fun t77 w49 =>
   gd t70 true (fun K => V prog (Op.unary UnOp.not t77) w49 K) w49 fun t78 w50 =>
   gd t5_3 false (fun K => pickD t70 t78 (Value.bool false) fun v => K v w50) w50 fun t79 w51 =>
   pickD t5_3 (Value.bool true) t79 fun t80 =>
   drawD w51 fun S22 w53 =>
   yieldS prog S22 (Instr.indexAt 98 (.slice (some ⟨g0, 0, none⟩) N N) (i64 k)) fun t83 =>
   yieldS prog S22 (Instr.loadAt 78 t83) fun t84 =>
   yieldS prog S22 (Instr.indexAt 98 (.slice (some ⟨g0, 0, none⟩) N N) (i64 k)) fun t88 =>
   yieldS prog S22 (Instr.loadAt 78 t88) fun t89 =>
   yieldS prog S22 (Instr.indexAt 78 t89 t62) fun t91 =>
   yieldS prog S22 (Instr.loadAt 4 t91) fun t92 =>
   gdY t92 false (fun K => K t66) fun t94 =>
   pickD t92 (Value.bool true) t94 fun t95 =>
   yieldS prog S22 (Instr.indexAt 78 t84 t62) fun t96 =>
   U prog (Instr.storeAt 4 t96 t95) w53 fun _ w54 =>
   V prog (binOp .add 3 t62 (Value.int IntKind.i64 1)) w54 fun t97 w55 =>
   I5 t80 t97 w55 ∧ μ5 t80 t97 w55 < μ5 t5_3 t62 w37) (
   Q t5_3 w38) := by
 have hgm := List.mem_of_getElem? hg
 refine ⟨fun v1 v2 w' => ∃ (f' : Bool) (r : Nat) (m' : Mx), v1 = .bool f' ∧ v2 = i64 r ∧ r ≤ R ∧ St w0 w' b cs g0 gs R m' ∧ Swp p N R m0 m' f' ∧ (f = true → f' = true) ∧ (f' = false → ∀ j, j < r → A[j]? = some true → m0 k j = true) ∧
   w'.ownsRow B 4 1 av R (A.map Value.bool) ∧ (∀ B' e size n v xs, w.ownsRow B' e size n v xs → (∀ g ∈ gs, g < B') → w'.ownsRow B' e size n v xs), fun _ v2 _ => R - (RowKit.intOf v2).toNat,
  ⟨f, 0, m, rfl, rfl, Nat.zero_le _, hst, hsw, id, fun _ j hj => by omega, ha, fun _ _ _ _ _ _ h _ => h⟩, ?_⟩
 rintro _ _ w1 ⟨f', r, m', rfl, rfl, hr, hst', hsw', hff, hcl, ha', hkeep⟩ _
 refine V_lss.2 (ifD_dec (fun hlt => ?_) fun hge => ?_)
 ·have hr' : r < R := by omega
  obtain ⟨a, haa⟩ := ex_get (l := A) (j := r) (by omega)
  refine ldO' xa_78 l1_4 ha' (by omega) (by omega) (getB haa) ?_
  have hrow := hst'.rows k g hg
  have hslO : SliceIs w1 (.slice (some ⟨g0, 0, none⟩) N N) 1 N (gs.map (sl R)) := hst'.out.slice (by simpa using hN) (by unfold maxLen; omega)
  have hslR : SliceIs w1 (sl R g) 1 R ((rowL m' k R).map Value.bool) := hrow.slice (by simp [rowL_len]) (by unfold maxLen; omega)
  have hgk : (gs.map (sl R))[((k : Nat) : Int).toNat]? = some (sl R g) := by simp [hg]
  have hmk : ((rowL m' k R).map Value.bool)[((r : Nat) : Int).toNat]? = some (.bool (m' k r)) := by simp [rowL_get hr']
  have flag : ∀ {Z : Value → World → Prop}, Z (.bool (f' || (a && !m' k r))) w1 →
    (gd (.bool f') false (fun K => K (.bool a) w1) w1 fun t69 w41 =>
   gd (.bool f') false (fun K => K t69 w41) w41 fun t70 w42 =>
   gd t70 true (fun K => K (.slice (some ⟨g0, 0, none⟩) N N) w42) w42 fun t71 w43 =>
   gd t70 true (fun K => K (i64 k) w43) w43 fun t72 w44 =>
   gd t70 true (fun K => V prog (Instr.indexAt 98 t71 t72) w44 K) w44 fun t73 w45 =>
   gd t70 true (fun K => V prog (Instr.loadAt 78 t73) w45 K) w45 fun t74 w46 =>
   gd t70 true (fun K => K (i64 r) w46) w46 fun t75 w47 =>
   gd t70 true (fun K => V prog (Instr.indexAt 78 t74 t75) w47 K) w47 fun t76 w48 =>
   gd t70 true (fun K => V prog (Instr.loadAt 4 t76) w48 K) w48 fun t77 w49 =>
   gd t70 true (fun K => V prog (Op.unary UnOp.not t77) w49 K) w49 fun t78 w50 =>
   gd (.bool f') false (fun K => pickD t70 t78 (Value.bool false) fun v => K v w50) w50 fun t79 w51 =>
   pickD (.bool f') (Value.bool true) t79 fun t80 => Z t80 w51) := by
   intro Z hZ
   cases f' with
   | true => simp only [gd_tf, gd_undef, pickD_iff, reduceIte]; simpa using hZ
   | false =>
    cases a with
    | false => simp only [gd_f, gd_ft, pickD_iff, Bool.false_eq_true, reduceIte]; simpa using hZ
    | true =>
     simp only [gd_f, gd_t]
     refine ldx xa_98 l1_78 hslO (by omega) (by omega) hgk ?_
     refine ldx xa_78 l1_4 hslR (by omega) (by omega) hmk ?_
     simp only [V_not, pickD_iff, Bool.false_eq_true, reduceIte]
     simpa using hZ
  refine flag ?_
  refine drawD.mk' (fun w' => w' = w1.drew) rfl ?_
  have hx : ∀ w', w' = w1.drew → Ext w1 w' := fun w' h => h ▸ (Ext.refl _).drew
  refine ySl xa_98 l1_78 hslO hx (by omega) (by omega) hgk ?_
  refine ySl xa_98 l1_78 hslO hx (by omega) (by omega) hgk ?_
  refine ySl xa_78 l1_4 hslR hx (by omega) (by omega) hmk ?_
  have val : ∀ {Z : Value → Prop}, Z (.bool (m' k r || a)) → gdY (.bool (m' k r)) false (fun K => K (.bool a)) fun t94 => pickD (.bool (m' k r)) (Value.bool true) t94 Z := by
   intro Z hZ
   cases hm : m' k r with
   | true => simp only [gdY_tf, pickD_iff, reduceIte]; simpa [hm] using hZ
   | false => simp only [gdY_f, pickD_iff, Bool.false_eq_true, reduceIte]; simpa [hm] using hZ
  refine val ?_
  refine yieldS.ok (fun w' _ => r_ix_78 (by omega) (by omega)) ?_
  refine U.ok (r_store inf4 rfl (u := .bool (m' k r)) ?_ ?_) ?_
  ·have := hrow.cell r
   rw [List.getElem?_map, rowL_get hr'] at this
   simpa using this
  ·exact hrow.frozen _
  ·refine V_add.2 ?_
   rw [wrap_id (by omega) (by omega), i64_succ]
   have hset := (hst'.ext (Ext.refl _).drew).set hg r (m' k r || a)
   have hk' : ∀ {B' e size n v xs}, w1.ownsRow B' e size v n xs → (∀ g ∈ gs, g < B') → (w1.drew.setCell ⟨g, 0 + (r : Int).toNat * 1, none⟩ (.bool (m' k r || a))).ownsRow B' e size v n xs := by
    intro B' e size n v xs h hB
    have h' : w1.drew.ownsRow B' e size v n xs := h
    refine h'.kept (row := some g) ⟨rfl, rfl, rfl, by simp, fun i _ hi => heap_setCell_other _ _ _ _ (fun he => hi (by simp [he]))⟩ (own_ne h' fun x hx => ?_)
    cases hx
    exact hB g hgm
   refine ⟨⟨f' || (a && !m' k r), r + 1, updM m' k r (m' k r || a), rfl, rfl, by omega, by simpa using hset, hsw'.step hkN hr' a (fun h => hal r (by rw [haa, h])), fun h => by simp [hff h], ?_, hk' ha' hgB, fun B' e size n v xs h hB => hk' (hkeep B' e size n v xs h hB) hB⟩, by simp only [intOf_i64]; omega⟩
   intro hf j hj hAj
   have hf' := Bool.or_eq_false_iff.1 hf
   by_cases hjr : j = r
   ·subst hjr
    rw [haa] at hAj
    cases hAj
    have : m' k j = true := by simpa using hf'.2
    rw [← hsw'.no hf'.1]
    exact this
   ·exact hcl hf'.1 j (by omega) hAj
 ·refine hQ f' m' w1 hst' hsw' hff (fun hf r' hr' => hcl hf r' ?_ hr') hst'.x hkeep
  have := (List.getElem?_eq_some_iff.1 hr').1
  omega
end Go.Proofs.YtcdbikfnlggbnaaGreatDoor
namespace Go.Proofs.YtcdbikfnlggbnaaGreatDoor
open Tryz
open Go.Vc
def MatIs (w : World) (v : Value) (N R : Nat) (m : Mx) : Prop := ∃ (g0 : Nat) (gs : List Nat), v = .slice (some ⟨g0, 0, none⟩) N N ∧ gs.length = N ∧ Blk w g0 (gs.map (sl R)) 78 ∧ ∀ (k g : Nat), gs[k]? = some g → Blk w g ((rowL m k R).map Value.bool) 4
theorem MatIs.ext {w w' : World} {v : Value} {N R : Nat} {m : Mx} (h : MatIs w v N R m) (hx : Ext w w') : MatIs w' v N R m := by
 obtain ⟨g0, gs, h1, h2, h3, h4⟩ := h
 exact ⟨g0, gs, h1, h2, h3.ext hx, fun k g hk => (h4 k g hk).ext hx⟩
theorem set_rows (R g : Nat) (gs : List Nat) (n : Nat) (h : gs.length < n) :
  ((gs.map (sl R)) ++ List.replicate (n - gs.length) (Value.slice none 0 0)).set gs.length (sl R g) = (gs ++ [g]).map (sl R) ++ List.replicate (n - (gs ++ [g]).length) (Value.slice none 0 0) := by
 obtain ⟨k, hk⟩ : ∃ k, n - gs.length = k + 1 := ⟨n - gs.length - 1, by omega⟩
 have hk2 : n - (gs ++ [g]).length = k := by simp; omega
 rw [hk, hk2, List.set_append_right _ _ (by simp)]
 simp [List.replicate_succ]
def MatIn (w0 w : World) (v : Value) (N R : Nat) (m : Mx) : Prop := ∃ (g0 : Nat) (gs : List Nat), v = .slice (some ⟨g0, 0, none⟩) N N ∧ gs.length = N ∧ Blk w g0 (gs.map (sl R)) 78 ∧ (∀ (k g : Nat), gs[k]? = some g → Blk w g ((rowL m k R).map Value.bool) 4) ∧ w0.heap.size ≤ g0 ∧ ∀ g ∈ gs, w0.heap.size ≤ g
theorem MatIn.is {w0 w : World} {v : Value} {N R : Nat} {m : Mx} (h : MatIn w0 w v N R m) : MatIs w v N R m := by
 obtain ⟨g0, gs, h1, h2, h3, h4, _⟩ := h
 exact ⟨g0, gs, h1, h2, h3, h4⟩
set_option maxHeartbeats 1600000 in
theorem behindO_ok {p : GProg} {R : Nat} {pv : Value} {w : World} (hp : ProgIs w pv p) (hv : OkProg p) (hR : p.regs = R) :
  callD prog 39 #[pv] w fun r w' => (∃ m, MatIn w w' r p.nodes.length R m ∧ ∀ k r, k < p.nodes.length → r < R → (m k r = true ↔ Alive p k r)) ∧ Ext w w' := by
 have hp0 := hp
 obtain ⟨ns, rfl, hns, hargs⟩ := hp
 have hns0 := hns
 obtain ⟨vs, hs, hvs⟩ := hns
 have hl1 := hv.l1; have hl2 := hv.l2; have hr1 := hv.r1; have hr2 := hv.r2
 have hat := fun {k : Nat} (hk : k < p.nodes.length) => hv.at hk
 generalize hN : p.nodes.length = N at *
 apply F39_wp
 unfold F39_den
 refine bx fun b w1 hb x1 => ?_
 refine ldA hb la_38 rfl ?_
 refine (check_ok (p := p) (hp0.ext x1) hv).mono fun r w2 ⟨hr, x2⟩ => ?_
 subst hr
 refine V_not.2 (ifD_false.2 ?_)
 have hb2 := hb.ext x2
 have X2 := x1.trans x2
 refine ldB hb2 fa_38_2 l1_36 rfl (lnx xa_36 (hs.ext X2) ?_)
 refine mkB underlying98 inf78 rfl (n := N) (by omega) (by omega) fun w3 ho x3 hsz3 => ?_
 refine V_ln_98.2 ?_
 have hbB : b < w2.heap.size := by
  have := hb2 0 (i64 p.params) rfl
  exact World.block_lt_of_cell? _ _ this
 have hlo : w.heap.size ≤ w2.heap.size := X2.size
 generalize w2.heap.size = g0 at *
 have X3 := X2.trans x3
 refine ⟨fun v w' => ∃ gs : List Nat, v = i64 gs.length ∧ gs.length ≤ N ∧ Ext w w' ∧ Boxed w' b [i64 p.params, i64 p.regs, ns] ∧ (∀ g ∈ gs, g0 < g) ∧ gs.Nodup ∧ (∀ g ∈ gs, g < w'.heap.size) ∧
   Blk w' g0 (gs.map (sl R) ++ List.replicate (N - gs.length) (.slice none 0 0)) 78 ∧ ∀ g ∈ gs, Blk w' g (List.replicate R (.bool false)) 4,
  fun v _ => N - (RowKit.intOf v).toNat, ⟨[], rfl, Nat.zero_le _, X3, hb2.ext x3, by simp, List.nodup_nil, by simp, by simpa using ho, by simp⟩, ?_⟩
 rintro _ w4 ⟨gs, rfl, hle, x4, hb4, hgg, hnd, hlt4, ho4, hrows4⟩ _
 refine V_lss.2 (ifD_dec (fun hlt => ?_) fun hge => ?_)
 ·refine ldB hb4 fa_38_1 l1_3 rfl ?_
  refine mkBv hR underlying78 inf4 rfl (n := R) (by omega) (by omega) fun w5 hrow x5 hsz5 => ?_
  refine stB xa_98 inf78 (ho4.ext x5) (by simp; omega) (by omega) (by omega) rfl ?_
  refine V_add.2 ?_
  rw [wrap_id (by omega) (by omega), i64_succ]
  simp only [Int.toNat_natCast]
  have hset := (ho4.ext x5).set gs.length (sl R w4.heap.size)
  rw [set_rows R _ gs N (by omega)] at hset
  have hg0 := ho4.lt
  refine ⟨⟨gs ++ [w4.heap.size], by simp, by simp; omega, (x4.trans x5).setCell hlo _, Boxed.other (g := g0) (hb4.ext x5) (by omega), ?_, ?_, ?_, hset, ?_⟩, by simp only [intOf_i64]; omega⟩
  ·intro g hg
   rcases List.mem_append.1 hg with h | h
   ·exact hgg g h
   ·have : g = w4.heap.size := by simpa using h
    omega
  ·refine List.nodup_append.2 ⟨hnd, by simp, ?_⟩
   intro a ha c hc
   have : c = w4.heap.size := by simpa using hc
   have := hlt4 a ha
   omega
  ·intro g hg
   simp only [World.size_setCell]
   rcases List.mem_append.1 hg with h | h
   ·have := hlt4 g h; omega
   ·have : g = w4.heap.size := by simpa using h
    omega
  ·intro g hg
   rcases List.mem_append.1 hg with h | h
   ·exact ((hrows4 g h).ext x5).other (by have := hgg g h; omega)
   ·have he : g = w4.heap.size := by simpa using h
    subst he
    exact hrow.other (by omega)
 have hgl : gs.length = N := by omega
 rw [hgl, Nat.sub_self] at ho4
 simp only [List.replicate_zero, List.append_nil] at ho4
 have hst0 : St w w4 b [i64 p.params, i64 p.regs, ns] g0 gs R (fun _ _ => false) :=
  ⟨x4, hb4, hlo, hbB, hgg, hnd, ho4, fun k g hk => by rw [rowL_false]; exact hrows4 g (List.mem_of_getElem? hk)⟩
 clear hrows4 ho4 hlt4 hle hge hb4 x4
 have hslO : ∀ {w' m}, St w w' b [i64 p.params, i64 p.regs, ns] g0 gs R m → SliceIs w' (.slice (some ⟨g0, 0, none⟩) N N) 1 N (gs.map (sl R)) := fun h => h.out.slice (by simpa using hgl) (by unfold maxLen; omega)
 have hslR : ∀ {w' m k g}, St w w' b [i64 p.params, i64 p.regs, ns] g0 gs R m → gs[k]? = some g → SliceIs w' (sl R g) 1 R ((rowL m k R).map Value.bool) := fun h hk => (h.rows _ _ hk).slice (by simp [rowL_len]) (by unfold maxLen; omega)
 have hglt : ∀ {w' m}, St w w' b [i64 p.params, i64 p.regs, ns] g0 gs R m → ∀ g ∈ gs, g < w'.heap.size := fun h g hg => by
  obtain ⟨k, hk⟩ := List.getElem?_of_mem hg
  exact (h.rows k g hk).lt
 refine ⟨fun v w' => ∃ (f : Bool) (m : Mx), v = .bool f ∧ St w w' b [i64 p.params, i64 p.regs, ns] g0 gs R m ∧ Snd p m ∧ (f = false → ∀ k < N, Done p R m k),
  fun v w' => 2 * cntM (readM gs w') R gs.length + (match v with | .bool true => 1 | _ => 0), ⟨true, _, rfl, hst0, (fun _ _ h => by cases h), (fun h => by cases h)⟩, ?_⟩
 rintro _ w5 ⟨f0, m0, rfl, hst, hsnd, hcl⟩ _
 refine ifD.mk (fun hf => ?_) fun hf => ?_
 rotate_left
 ·refine ⟨⟨m0, ⟨g0, gs, rfl, hgl, hst.out, hst.rows, hst.lo, fun g hg => Nat.le_of_lt (Nat.lt_of_le_of_lt hst.lo (hst.gg g hg))⟩, fun k r hk hr => ⟨hsnd k r, fun h => ?_⟩⟩, hst.x⟩
  exact alive_of_done hN.symm (fun i n hn => hR ▸ hN ▸ hv.nodes i n hn) (hcl hf) h hk hr
 subst hf
 refine ldB hst.box fa_38_2 l1_36 rfl (lnx xa_36 (hs.ext hst.x) (V_sub.2 ?_))
 rw [wrap_id (by omega) (by omega)]
 refine ⟨fun v1 v2 w' => ∃ (f : Bool) (kk : Int) (m : Mx), v1 = .bool f ∧ v2 = i64 kk ∧ -1 ≤ kk ∧ kk < N ∧ St w w' b [i64 p.params, i64 p.regs, ns] g0 gs R m ∧ Swp p N R m0 m f ∧ (f = false → ∀ k : Nat, kk < k → k < N → Done p R m0 k),
  fun _ v2 _ => (RowKit.intOf v2 + 1).toNat, ⟨false, _, m0, rfl, rfl, by omega, by omega, hst, ⟨fun _ _ h => h, hsnd, fun _ => rfl, (fun h => by cases h)⟩, fun _ k h1 h2 => by omega⟩, ?_⟩
 rintro _ _ w6 ⟨f, kk, m, rfl, rfl, hk1, hk2, hst6, hsw6, hcl6⟩ _
 refine V_geq.2 (ifD_dec (fun hge => ?_) fun hlt => ?_)
 rotate_left
 ·-- the sweep is over
  have hkk : kk = -1 := by have : ¬ 0 ≤ kk := hlt; omega
  refine ⟨⟨f, m, rfl, hst6, hsw6.snd, fun hf k hk => ?_⟩, ?_⟩
  ·rw [hsw6.no hf]; exact hcl6 hf k (by omega) hk
  ·show 2 * cntM (readM gs w6) R gs.length + _ < 2 * cntM (readM gs w5) R gs.length + 1
   rw [hst6.cnt, hst.cnt]
   cases f with
   | false =>
    have := cntM_le hsw6.le R gs.length
    show 2 * _ + 0 < _
    omega
   | true =>
    obtain ⟨k, r, h1, h2, h3, h4⟩ := hsw6.yes rfl
    have := cntM_lt hsw6.le h2 h3 h4 gs.length (by omega)
    show 2 * _ + 1 < _
    omega
 have hge' : 0 ≤ kk := hge
 obtain ⟨k, rfl⟩ := Int.eq_ofNat_of_zero_le hge'
 have hk : k < N := by omega
 obtain ⟨g, hg⟩ := ex_get (l := gs) (j := k) (by omega)
 obtain ⟨hpk, hrk⟩ := hat hk
 obtain ⟨u, hu, hnu⟩ := hvs k _ hpk
 refine ldB hst6.box fa_38_2 l1_36 rfl ?_
 refine ldx xa_36 l1_52 (hs.ext hst6.x) (by omega) (by omega) (by simpa using hu) ?_
 refine (next_ok (hnu.ext hst6.x) (by omega) (by omega)).mono fun tl w7 ⟨htl, x7⟩ => ?_
 refine lnx xa_23 (SliceIs.of_own htl) ?_
 have hst7 := hst6.ext x7
 have hlen := nx_len (p.at' k) k
 refine ⟨fun v1 v2 w' => ∃ (f' : Bool) (j : Nat) (m' : Mx), v1 = .bool f' ∧ v2 = i64 j ∧ j ≤ ((p.at' k).nx k).length ∧ St w w' b [i64 p.params, i64 p.regs, ns] g0 gs R m' ∧ Swp p N R m0 m' f' ∧ (f = true → f' = true) ∧
   (f' = false → ∀ (i : Nat) (to : Nat), i < j → ((p.at' k).nx k)[i]? = some (to : Int) → ∀ r < R, AheadP p (fun a b => m0 a b = true) to r → m0 k r = true) ∧ w'.ownsRow w6.heap.size 3 1 tl ((p.at' k).nx k).length (((p.at' k).nx k).map i64),
  fun _ v2 _ => ((p.at' k).nx k).length - (RowKit.intOf v2).toNat, ⟨f, 0, m, rfl, rfl, Nat.zero_le _, hst7, hsw6, id, fun _ i to hi => by omega, htl⟩, ?_⟩
 rintro _ _ w8 ⟨f', j, m', rfl, rfl, hj, hst8, hsw8, hff, hcl8, htl8⟩ _
 refine V_lss.2 (ifD_dec (fun hjlt => ?_) fun hjge => ?_)
 rotate_left
 ·refine V_sub.2 ?_
  rw [wrap_id (by omega) (by omega)]
  refine ⟨⟨f', (k : Int) - 1, m', rfl, rfl, by omega, by omega, hst8, hsw8, fun hf k' hk' hkN => ?_⟩, by simp only [intOf_i64]; omega⟩
  by_cases he : k' = k
  ·subst he
   intro to hto r hr ha
   obtain ⟨i, hi⟩ := List.getElem?_of_mem hto
   have hi' := (List.getElem?_eq_some_iff.1 hi).1
   exact hcl8 hf i to (by omega) hi r hr ha
  ·have hf0 : f = false := by cases f with | false => rfl | true => rw [hff rfl] at hf; cases hf
   exact hcl6 hf0 k' (by omega) hkN
 obtain ⟨to, hto⟩ := ex_get (l := (p.at' k).nx k) (j := j) (by omega)
 have htor := hrk.t to (List.mem_of_getElem? hto)
 obtain ⟨to, rfl⟩ := Int.eq_ofNat_of_zero_le htor.1
 have htoN : to < N := by omega
 obtain ⟨hpt, hrt⟩ := hat htoN
 obtain ⟨ut, hut, hnut⟩ := hvs to _ hpt
 obtain ⟨gt, hgt⟩ := ex_get (l := gs) (j := to) (by omega)
 refine ldO' xa_23 l1_3 htl8 (by omega) (by omega) (getI hto) ?_
 refine drawD.mk' (fun w' => Ext w8 w') (Ext.refl _).drew ?_
 refine yfB (fun w' hw => hst8.box.ext hw) fa_38_2 l1_36 rfl ?_
 refine ySl xa_36 l1_52 (hs.ext hst8.x) (fun _ h => h) (by omega) (by omega) (by simpa using hut) ?_
 refine ySl xa_98 l1_78 (hslO hst8) (fun _ h => h) (by omega) (by omega) (by simp [hgt] : (gs.map (sl R))[((to : Nat) : Int).toNat]? = some (sl R gt)) ?_
 have hrl := rowL_len m' to R
 have hdf : (p.at' to).df < R := by rcases hrt.d with h | h <;> omega
 have hus : ∀ r ∈ (p.at' to).us, 0 ≤ r ∧ r < ((rowL m' to R).length : Int) := fun r hr => by have := hrt.u r hr; rw [hrl]; omega
 have hrow8 : BoolsAre w8.drew (sl R gt) (rowL m' to R) := by
  have := (hslR hst8 hgt).ext (Ext.refl _).drew
  unfold BoolsAre
  rw [hrl]; exact this
 refine (ahead_ok (hnut.ext (hst8.x.trans (Ext.refl _).drew)) hrow8 (hargs _ (List.mem_of_getElem? hpt)) (by omega) (by rw [hrl]; exact hdf) hus).mono fun av w9 ⟨hav, x9⟩ => ?_
 have x9' : Ext w8 w9 := Ext.trans (Ext.refl _).drew x9
 refine ⟨x9', ?_⟩
 rw [hrl] at hav
 refine yLen xa_78 (SliceIs.of_own hav) ?_
 have hst9 := hst8.ext x9'
 have hag : ∀ r, r < R → (aheadL (p.at' to) (rowL m' to R))[r]? = some (decide ((r : Int) ∈ (p.at' to).us) || (decide ((r : Int) ≠ (p.at' to).df) && m' to r)) := fun r hr => by
  rw [aheadL_get (by rw [hrl]; exact hr) (fun x hx => (hus x hx).1)]
  congr 3
  rw [List.getD_eq_getElem?_getD, rowL_get hr]; rfl
 have hagT : ∀ r, r < R → ((aheadL (p.at' to) (rowL m' to R))[r]? = some true ↔ AheadP p (fun a b => m' a b = true) to r) := fun r hr => by
  rw [hag r hr]
  simp [AheadP]
 refine sweep5 hgl hl2 (by omega) hk hg (A := aheadL (p.at' to) (rowL m' to R)) (by rw [aheadL_len, hrl]) (hglt hst8) (fun r hr => ?_) hst9 hsw8 hav ?_
 ·have hrR : r < R := by have := (List.getElem?_eq_some_iff.1 hr).1; rw [aheadL_len, hrl] at this; exact this
  rw [hagT r hrR] at hr
  rcases hr with h | ⟨h1, h2⟩
  ·exact .use (List.mem_of_getElem? hto) h
  ·exact .pass (List.mem_of_getElem? hto) h1 (hsw8.snd _ _ h2)
 ·intro f'' m'' w10 hst10 hsw10 hff10 hcl10 _ hkeep
  refine V_add.2 ?_
  rw [wrap_id (by omega) (by omega), i64_succ]
  refine ⟨⟨f'', j + 1, m'', rfl, rfl, by omega, hst10, hsw10, fun h => hff10 (hff h), fun hf i to' hi hto' r hr ha => ?_, hkeep _ _ _ _ _ _ (x9'.own htl8) (fun g hg => hglt hst6 g hg)⟩, by simp only [intOf_i64]; omega⟩
  by_cases hij : i = j
  ·subst hij
   rw [hto] at hto'
   have : (to : Int) = to' := by simpa using hto'
   have : to = to' := by omega
   subst this
   have hf' : f' = false := by cases f' with | false => rfl | true => rw [hff10 rfl] at hf; cases hf
   refine hcl10 hf r ?_
   rw [hagT r hr, hsw8.no hf']
   exact ha
  ·have hf' : f' = false := by cases f' with | false => rfl | true => rw [hff10 rfl] at hf; cases hf
   exact hcl8 hf' i to' (by omega) hto' r hr ha
theorem behind_ok {p : GProg} {R : Nat} {pv : Value} {w : World} (hp : ProgIs w pv p) (hv : OkProg p) (hR : p.regs = R) :
  callD prog 39 #[pv] w fun r w' => (∃ m, MatIs w' r p.nodes.length R m ∧ ∀ k r, k < p.nodes.length → r < R → (m k r = true ↔ Alive p k r)) ∧ Ext w w' :=
 (behindO_ok hp hv hR).mono fun _ _ ⟨⟨m, h1, h2⟩, hx⟩ => ⟨⟨m, h1.is, h2⟩, hx⟩
end Go.Proofs.YtcdbikfnlggbnaaGreatDoor
namespace Go.Proofs.YtcdbikfnlggbnaaGreatDoor
open Tryz
open Go.Vc
theorem MatIs.row {w : World} {v : Value} {N R : Nat} {m : Mx} (h : MatIs w v N R m) (hN : N ≤ 250) (hR : R ≤ 40) : ∃ cs, SliceIs w v 1 N cs ∧ ∀ k, k < N → ∃ u, cs[k]? = some u ∧ BoolsAre w u (rowL m k R) := by
 obtain ⟨g0, gs, rfl, hl, h1, h2⟩ := h
 refine ⟨_, h1.slice (by simpa using hl) (by unfold maxLen; omega), fun k hk => ?_⟩
 obtain ⟨g, hg⟩ := ex_get (l := gs) (j := k) (by omega)
 refine ⟨sl R g, by simp [hg], ?_⟩
 have := (h2 k g hg).slice (n := R) (by simp [rowL_len]) (by unfold maxLen; omega)
 unfold BoolsAre
 rw [rowL_len]; exact this
def doneB (p : GProg) (R : Nat) (m : Mx) : Bool :=
 (List.range p.nodes.length).all fun k => ((p.at' k).nx k).all fun to => (List.range R).all fun r => !((p.at' to.toNat).us.contains (r : Int) || (decide ((r : Int) ≠ (p.at' to.toNat).df) && m to.toNat r)) || m k r
end Go.Proofs.YtcdbikfnlggbnaaGreatDoor
namespace Go.Proofs.YtcdbikfnlggbnaaGreatDoor
open Tryz
open Go.Vc
def GNode.pk : GNode → Int
 | .const _ _ => 1 | .move _ _ => 2 | .bin _ _ _ _ => 3 | .un _ _ _ => 4 | .choose _ _ _ _ => 5 | .tick => 6 | .goto _ => 7 | .branch _ _ => 8
 | .getField _ _ => 9 | .putField _ _ => 10 | .serve _ _ _ _ _ => 11 | .call _ _ _ => 12 | .callX _ _ _ => 13 | .ret _ => 14
def GNode.pop : GNode → Int
 | .bin op _ _ _ | .un op _ _ | .serve op _ _ _ _ => op
 | _ => 0
def GNode.pN (m : Int) : GNode → Int
 | .const _ _ => m
 | .getField _ f | .putField f _ => f
 | .call k _ _ | .callX k _ _ => k
 | _ => 0
def GNode.pA : GNode → Int
 | .serve _ a _ _ _ => a
 | _ => 0
def GNode.pB : GNode → Int
 | .serve _ _ b _ _ => b
 | _ => 0
def GNode.pT : GNode → Int
 | .goto t | .branch _ t => t
 | _ => 0
def GNode.pcs (g : GNode) (m : Int) (sv : Value) : List Value := [i64 g.pk, i64 g.df, i64 g.pop, i64 (g.pN m), i64 g.pA, i64 g.pB, i64 g.pT, sv]
def PlainIs (w : World) (v : Value) (g : GNode) : Prop := ∃ m sv, v = .agg (g.pcs m sv).toArray ∧ IntsAre w sv g.us
theorem PlainIs.ext {w w' : World} {v : Value} {g : GNode} (h : PlainIs w v g) (hx : Ext w w') : PlainIs w' v g := by
 obtain ⟨m, sv, h1, h2⟩ := h
 exact ⟨m, sv, h1, h2.ext hx⟩
theorem ints_nil (w : World) : IntsAre w (.slice none 0 0) [] := SliceIs.nil w 1
theorem plainEnd {R : Value → World → Prop} {w0 w1 : World} {g : Nat} {old : List Value} {parts : Array (Nat × Value)} (n : GNode) (m : Int) (sv : Value) (l : List (Nat × Value)) (hp : parts = l.toArray) (h1 : (l.all fun x => decide (x.1 < 8) && oneC x.2) = true)
  (hl : l.foldl (fun cs x => cs.set x.1 x.2) [i64 0, i64 0, i64 0, i64 0, i64 0, i64 0, i64 0, .slice none 0 0] = n.pcs m sv) (hsv : oneC sv = true) (hb : Blk w1 g old 92) (ho : old.length = 8)
  (hx : Ext w0 w1) (hg : w0.heap.size ≤ g) (hk : ∀ w', Ext w0 w' → Chg w1 g w' → R (.agg (n.pcs m sv).toArray) w') :
  V prog (Instr.build 92 parts) w1 fun t w2 => U prog (Instr.storeAt 92 (.pointer (some ⟨g, 0, none⟩)) t) w2 fun _ w3 =>
   ∃ r1, (loadVar 92 (match (Value.pointer (some ⟨g, 0, none⟩)) with | .pointer (some p) => p | _ => ⟨0, 0, none⟩)).run prog w3 = .ok r1 w3 ∧ (∃ p, (Value.pointer (some ⟨g, 0, none⟩)) = Value.pointer (some p)) ∧ R r1 w3 := by
 refine bld bd_92 l hp h1 ?_
 have hl' : l.foldl (fun cs x => cs.set x.1 x.2) [.int .i64 0, .int .i64 0, .int .i64 0, .int .i64 0, .int .i64 0, .int .i64 0, .int .i64 0, .slice none 0 0] = n.pcs m sv := hl
 rw [hl']
 refine stA inf92 hb (l := n.pcs m sv) rfl rfl ho (by simp [GNode.pcs, oneC]; cases sv <;> simp_all [oneC]) fun w' h2 hc => ?_
 exact ⟨_, r_var underlying92 rfl inf92 h2 rfl, ⟨_, rfl⟩, hk w' (hc.ext _ hx hg) hc⟩
def PlainO (v0 : Value) (w w' : World) (v : Value) (g : GNode) : Prop := ∃ m sv, v = .agg (g.pcs m sv).toArray ∧ ((∀ w0, NodeIs w0 v0 g → IntsAre w0 sv g.us) ∨ w'.ownsRow w.heap.size 3 1 sv g.us.length (g.us.map i64))
theorem own1 {w : World} {B e n : Nat} {v : Value} {xs : List Value} (h : w.ownsRow B e 1 v n xs) : oneC v = true := by
 obtain ⟨a, c, rfl⟩ := (SliceIs.of_own h).shape; rfl
theorem shape_ints {w : World} {sv : Value} {l : List Int} (h : IntsAre w sv l) : oneC sv = true := by
 obtain ⟨a, c, rfl⟩ := h.shape; rfl
set_option maxHeartbeats 1000000 in
theorem plainO_ok {n : GNode} {v : Value} {w : World} (h : NodeIs w v n) : callD prog 36 #[v] w fun r w' => PlainO v w w' r n ∧ Ext w w' := by
 obtain ⟨sv, rfl, hs⟩ := h
 obtain ⟨sa, sc, rfl⟩ := hs.shape
 apply F36_wp
 unfold F36_den
 refine alK inf92 fun w0 h0 x0 => ?_
 have fin0 : ∀ {n : GNode} {v0 : Value} {m : Int} {w1 w2 : World}, Ext w w2 → Chg w1 w.heap.size w2 → n.us = [] → PlainO v0 w w2 (.agg (n.pcs m (.slice none 0 0)).toArray) n ∧ Ext w w2 := fun {n v0 m w1 w2} hx _ hu => ⟨⟨m, _, rfl, .inl fun _ _ => by rw [hu]; exact ints_nil _⟩, hx⟩
 cases n with
 | const d m =>
  dsimp only [GNode.val]; (repeat (first | (with_reducible refine th (by first | exact ta_105 | exact ta_84) ?_) | ((with_reducible refine tm ta_105 (by decide) ?_); intro _ _ _)))
  refine asB sa_84 rfl rfl fun b w1 hb x1 => ?_; refine ldB hb fa_84_0 l1_3 rfl ?_; refine ldB hb fa_84_1 l1_21 rfl ?_
  refine V_cv_21_3.2 ?_
  exact plainEnd (.const d m) _ (.slice none 0 0) [(0, i64 1), (1, i64 d), (3, _)] rfl rfl rfl rfl (h0.ext x1) rfl (x0.trans x1) (Nat.le_refl _) fun w' hx hc => fin0 hx hc rfl
 | tick =>
  dsimp only [GNode.val]; (repeat (first | (with_reducible refine th (by first | exact ta_105 | exact ta_49) ?_) | ((with_reducible refine tm (by first | exact ta_105 | exact ta_113 | exact ta_140 | exact ta_142 | exact ta_144 | exact ta_84) (by decide) ?_); intro _ _ _)))
  refine asB sa_49 rfl rfl fun b w1 hb x1 => ?_
  exact plainEnd .tick 0 (.slice none 0 0) [(0, i64 6), (1, i64 (-1))] rfl rfl rfl rfl (h0.ext x1) rfl (x0.trans x1) (Nat.le_refl _) fun w' hx hc => fin0 hx hc rfl
 | goto t =>
  dsimp only [GNode.val]; (repeat (first | (with_reducible refine th (by first | exact ta_105 | exact ta_146) ?_) | ((with_reducible refine tm (by first | exact ta_105 | exact ta_113 | exact ta_140 | exact ta_142 | exact ta_144 | exact ta_146 | exact ta_148 | exact ta_150 | exact ta_152 | exact ta_155 | exact ta_157 | exact ta_162 | exact ta_49 | exact ta_84) (by decide) ?_); intro _ _ _)))
  refine asB sa_146 rfl rfl fun b w1 hb x1 => ?_; refine ldB hb fa_146_0 l1_3 rfl ?_
  exact plainEnd (.goto t) 0 (.slice none 0 0) [(0, i64 7), (1, i64 (-1)), (6, i64 t)] rfl rfl rfl rfl (h0.ext x1) rfl (x0.trans x1) (Nat.le_refl _) fun w' hx hc => fin0 hx hc rfl
 | getField d f =>
  dsimp only [GNode.val]; (repeat (first | (with_reducible refine th (by first | exact ta_105 | exact ta_150) ?_) | ((with_reducible refine tm (by first | exact ta_105 | exact ta_113 | exact ta_140 | exact ta_142 | exact ta_144 | exact ta_146 | exact ta_148 | exact ta_150 | exact ta_152 | exact ta_155 | exact ta_157 | exact ta_162 | exact ta_49 | exact ta_84) (by decide) ?_); intro _ _ _)))
  refine asB sa_150 rfl rfl fun b w1 hb x1 => ?_; refine ldB hb fa_150_0 l1_3 rfl ?_; refine ldB hb fa_150_1 l1_3 rfl ?_
  exact plainEnd (.getField d f) 0 (.slice none 0 0) [(0, i64 9), (1, i64 d), (3, i64 f)] rfl rfl rfl rfl (h0.ext x1) rfl (x0.trans x1) (Nat.le_refl _) fun w' hx hc => fin0 hx hc rfl
 | move d s =>
  dsimp only [GNode.val]; (repeat (first | (with_reducible refine th (by first | exact ta_105 | exact ta_140) ?_) | ((with_reducible refine tm (by first | exact ta_105 | exact ta_84) (by decide) ?_); intro _ _ _)))
  refine asB sa_140 rfl rfl fun b w1 hb x1 => ?_; refine ldB hb fa_140_0 l1_3 rfl ?_; refine ldB hb fa_140_1 l1_3 rfl ?_
  refine bsl xe_23 [i64 s] rfl rfl (by simp) rfl fun v w2 ho x2 => ?_
  exact plainEnd (.move d s) 0 v [(0, i64 2), (1, i64 d), (7, v)] rfl (by obtain ⟨_, _, rfl⟩ := (SliceIs.of_own ho).shape; rfl) rfl (own1 ho) ((h0.ext x1).ext x2) rfl ((x0.trans x1).trans x2) (Nat.le_refl _) fun w' hx hc => ⟨⟨0, v, rfl, .inr (own_mono (hc.ownRow ho (Nat.lt_of_lt_of_le h0.lt x1.size)) (x0.trans x1).size)⟩, hx⟩
 | bin op d a c =>
  dsimp only [GNode.val]; (repeat (first | (with_reducible refine th (by first | exact ta_105 | exact ta_113) ?_) | ((with_reducible refine tm (by first | exact ta_105 | exact ta_113 | exact ta_140 | exact ta_84) (by decide) ?_); intro _ _ _)))
  refine asB sa_113 rfl rfl fun b w1 hb x1 => ?_; refine ldB hb fa_113_0 l1_3 rfl ?_; refine ldB hb fa_113_1 l1_3 rfl ?_; refine ldB hb fa_113_2 l1_3 rfl ?_; refine ldB hb fa_113_3 l1_3 rfl ?_
  refine bsl xe_23 [i64 a, i64 c] rfl rfl (by simp) rfl fun v w2 ho x2 => ?_
  exact plainEnd (.bin op d a c) 0 v [(0, i64 3), (2, i64 op), (1, i64 d), (7, v)] rfl (by obtain ⟨_, _, rfl⟩ := (SliceIs.of_own ho).shape; rfl) rfl (own1 ho) ((h0.ext x1).ext x2) rfl ((x0.trans x1).trans x2) (Nat.le_refl _) fun w' hx hc => ⟨⟨0, v, rfl, .inr (own_mono (hc.ownRow ho (Nat.lt_of_lt_of_le h0.lt x1.size)) (x0.trans x1).size)⟩, hx⟩
 | un op d a =>
  dsimp only [GNode.val]; (repeat (first | (with_reducible refine th (by first | exact ta_105 | exact ta_142) ?_) | ((with_reducible refine tm (by first | exact ta_105 | exact ta_113 | exact ta_140 | exact ta_84) (by decide) ?_); intro _ _ _)))
  refine asB sa_142 rfl rfl fun b w1 hb x1 => ?_; refine ldB hb fa_142_0 l1_3 rfl ?_; refine ldB hb fa_142_1 l1_3 rfl ?_; refine ldB hb fa_142_2 l1_3 rfl ?_
  refine bsl xe_23 [i64 a] rfl rfl (by simp) rfl fun v w2 ho x2 => ?_
  exact plainEnd (.un op d a) 0 v [(0, i64 4), (2, i64 op), (1, i64 d), (7, v)] rfl (by obtain ⟨_, _, rfl⟩ := (SliceIs.of_own ho).shape; rfl) rfl (own1 ho) ((h0.ext x1).ext x2) rfl ((x0.trans x1).trans x2) (Nat.le_refl _) fun w' hx hc => ⟨⟨0, v, rfl, .inr (own_mono (hc.ownRow ho (Nat.lt_of_lt_of_le h0.lt x1.size)) (x0.trans x1).size)⟩, hx⟩
 | choose d c a e =>
  dsimp only [GNode.val]; (repeat (first | (with_reducible refine th (by first | exact ta_105 | exact ta_144) ?_) | ((with_reducible refine tm (by first | exact ta_105 | exact ta_113 | exact ta_140 | exact ta_142 | exact ta_84) (by decide) ?_); intro _ _ _)))
  refine asB sa_144 rfl rfl fun b w1 hb x1 => ?_; refine ldB hb fa_144_0 l1_3 rfl ?_; refine ldB hb fa_144_1 l1_3 rfl ?_; refine ldB hb fa_144_2 l1_3 rfl ?_; refine ldB hb fa_144_3 l1_3 rfl ?_
  refine bsl xe_23 [i64 c, i64 a, i64 e] rfl rfl (by simp) rfl fun v w2 ho x2 => ?_
  exact plainEnd (.choose d c a e) 0 v [(0, i64 5), (1, i64 d), (7, v)] rfl (by obtain ⟨_, _, rfl⟩ := (SliceIs.of_own ho).shape; rfl) rfl (own1 ho) ((h0.ext x1).ext x2) rfl ((x0.trans x1).trans x2) (Nat.le_refl _) fun w' hx hc => ⟨⟨0, v, rfl, .inr (own_mono (hc.ownRow ho (Nat.lt_of_lt_of_le h0.lt x1.size)) (x0.trans x1).size)⟩, hx⟩
 | branch c t =>
  dsimp only [GNode.val]; (repeat (first | (with_reducible refine th (by first | exact ta_105 | exact ta_148) ?_) | ((with_reducible refine tm (by first | exact ta_105 | exact ta_113 | exact ta_140 | exact ta_142 | exact ta_144 | exact ta_146 | exact ta_148 | exact ta_150 | exact ta_152 | exact ta_155 | exact ta_157 | exact ta_162 | exact ta_49 | exact ta_84) (by decide) ?_); intro _ _ _)))
  refine asB sa_148 rfl rfl fun b w1 hb x1 => ?_; refine ldB hb fa_148_1 l1_3 rfl ?_; refine ldB hb fa_148_0 l1_3 rfl ?_
  refine bsl xe_23 [i64 c] rfl rfl (by simp) rfl fun v w2 ho x2 => ?_
  exact plainEnd (.branch c t) 0 v [(0, i64 8), (1, i64 (-1)), (6, i64 t), (7, v)] rfl (by obtain ⟨_, _, rfl⟩ := (SliceIs.of_own ho).shape; rfl) rfl (own1 ho) ((h0.ext x1).ext x2) rfl ((x0.trans x1).trans x2) (Nat.le_refl _) fun w' hx hc => ⟨⟨0, v, rfl, .inr (own_mono (hc.ownRow ho (Nat.lt_of_lt_of_le h0.lt x1.size)) (x0.trans x1).size)⟩, hx⟩
 | putField f s =>
  dsimp only [GNode.val]; (repeat (first | (with_reducible refine th (by first | exact ta_105 | exact ta_152) ?_) | ((with_reducible refine tm (by first | exact ta_105 | exact ta_113 | exact ta_140 | exact ta_142 | exact ta_144 | exact ta_146 | exact ta_148 | exact ta_150 | exact ta_152 | exact ta_155 | exact ta_157 | exact ta_162 | exact ta_49 | exact ta_84) (by decide) ?_); intro _ _ _)))
  refine asB sa_152 rfl rfl fun b w1 hb x1 => ?_; refine ldB hb fa_152_0 l1_3 rfl ?_; refine ldB hb fa_152_1 l1_3 rfl ?_
  refine bsl xe_23 [i64 s] rfl rfl (by simp) rfl fun v w2 ho x2 => ?_
  exact plainEnd (.putField f s) 0 v [(0, i64 10), (1, i64 (-1)), (3, i64 f), (7, v)] rfl (by obtain ⟨_, _, rfl⟩ := (SliceIs.of_own ho).shape; rfl) rfl (own1 ho) ((h0.ext x1).ext x2) rfl ((x0.trans x1).trans x2) (Nat.le_refl _) fun w' hx hc => ⟨⟨0, v, rfl, .inr (own_mono (hc.ownRow ho (Nat.lt_of_lt_of_le h0.lt x1.size)) (x0.trans x1).size)⟩, hx⟩
 | serve op a c d l =>
  dsimp only [GNode.val]; (repeat (first | (with_reducible refine th (by first | exact ta_105 | exact ta_162) ?_) | ((with_reducible refine tm (by first | exact ta_105 | exact ta_113 | exact ta_140 | exact ta_142 | exact ta_144 | exact ta_146 | exact ta_148 | exact ta_150 | exact ta_152 | exact ta_155 | exact ta_157 | exact ta_162 | exact ta_49 | exact ta_84) (by decide) ?_); intro _ _ _)))
  refine asB sa_162 rfl rfl fun b w1 hb x1 => ?_; refine ldB hb fa_162_0 l1_3 rfl ?_; refine ldB hb fa_162_1 l1_3 rfl ?_; refine ldB hb fa_162_2 l1_3 rfl ?_; refine ldB hb fa_162_3 l1_3 rfl ?_; refine ldB hb fa_162_4 l1_23 rfl ?_
  exact plainEnd (.serve op a c d l) 0 _ [(0, i64 11), (2, i64 op), (4, i64 a), (5, i64 c), (1, i64 d), (7, _)] rfl rfl rfl rfl (h0.ext x1) rfl (x0.trans x1) (Nat.le_refl _) fun w' hx hc => ⟨⟨0, _, rfl, .inl fun w0 h0 => by obtain ⟨sv', e, h⟩ := h0; simp only [GNode.val] at e; cases e; exact h⟩, hx⟩
 | call k d l =>
  dsimp only [GNode.val]; (repeat (first | (with_reducible refine th (by first | exact ta_105 | exact ta_155) ?_) | ((with_reducible refine tm (by first | exact ta_105 | exact ta_113 | exact ta_140 | exact ta_142 | exact ta_144 | exact ta_146 | exact ta_148 | exact ta_150 | exact ta_152 | exact ta_155 | exact ta_157 | exact ta_162 | exact ta_49 | exact ta_84) (by decide) ?_); intro _ _ _)))
  refine asB sa_155 rfl rfl fun b w1 hb x1 => ?_; refine ldB hb fa_155_0 l1_3 rfl ?_; refine ldB hb fa_155_1 l1_3 rfl ?_; refine ldB hb fa_155_2 l1_23 rfl ?_
  exact plainEnd (.call k d l) 0 _ [(0, i64 12), (3, i64 k), (1, i64 d), (7, _)] rfl rfl rfl rfl (h0.ext x1) rfl (x0.trans x1) (Nat.le_refl _) fun w' hx hc => ⟨⟨0, _, rfl, .inl fun w0 h0 => by obtain ⟨sv', e, h⟩ := h0; simp only [GNode.val] at e; cases e; exact h⟩, hx⟩
 | callX k d l =>
  dsimp only [GNode.val]; (repeat (first | (with_reducible refine th (by first | exact ta_105 | exact ta_157) ?_) | ((with_reducible refine tm (by first | exact ta_105 | exact ta_113 | exact ta_140 | exact ta_142 | exact ta_144 | exact ta_146 | exact ta_148 | exact ta_150 | exact ta_152 | exact ta_155 | exact ta_157 | exact ta_162 | exact ta_49 | exact ta_84) (by decide) ?_); intro _ _ _)))
  refine asB sa_157 rfl rfl fun b w1 hb x1 => ?_; refine ldB hb fa_157_0 l1_3 rfl ?_; refine ldB hb fa_157_1 l1_3 rfl ?_; refine ldB hb fa_157_2 l1_23 rfl ?_
  exact plainEnd (.callX k d l) 0 _ [(0, i64 13), (3, i64 k), (1, i64 d), (7, _)] rfl rfl rfl rfl (h0.ext x1) rfl (x0.trans x1) (Nat.le_refl _) fun w' hx hc => ⟨⟨0, _, rfl, .inl fun w0 h0 => by obtain ⟨sv', e, h⟩ := h0; simp only [GNode.val] at e; cases e; exact h⟩, hx⟩
 | ret s =>
  dsimp only [GNode.val]; (repeat (first | (with_reducible refine th ta_105 ?_) | ((with_reducible refine tm (by first | exact ta_105 | exact ta_113 | exact ta_140 | exact ta_142 | exact ta_144 | exact ta_146 | exact ta_148 | exact ta_150 | exact ta_152 | exact ta_155 | exact ta_157 | exact ta_162 | exact ta_49 | exact ta_84) (by decide) ?_); intro _ _ _)))
  refine asB sa_105 rfl rfl fun b w1 hb x1 => ?_; refine ldB hb fa_105_0 l1_3 rfl ?_
  refine V_eqlI.2 (ifD_dec (fun heq => ?_) fun hne => ?_)
  ·exact plainEnd (.ret s) 0 (.slice none 0 0) [(0, i64 14), (1, i64 (-1))] rfl rfl rfl rfl (h0.ext x1) rfl (x0.trans x1) (Nat.le_refl _) fun w' hx hc => fin0 hx hc (by simp [GNode.us, heq])
  ·refine ldB hb fa_105_0 l1_3 rfl ?_
   refine bsl xe_23 [i64 s] rfl rfl (by simp) rfl fun v w2 ho x2 => ?_
   exact plainEnd (.ret s) 0 v [(0, i64 14), (1, i64 (-1)), (7, v)] rfl (by obtain ⟨_, _, rfl⟩ := (SliceIs.of_own ho).shape; rfl) rfl (own1 ho) ((h0.ext x1).ext x2) rfl ((x0.trans x1).trans x2) (Nat.le_refl _) fun w' hx hc => ⟨⟨0, v, rfl, by
    have hu : GNode.us (.ret s) = [s] := by simp only [GNode.us]; rw [if_neg hne]
    rw [hu]
    exact .inr (own_mono (hc.ownRow ho (Nat.lt_of_lt_of_le h0.lt x1.size)) (x0.trans x1).size)⟩, hx⟩
theorem bs83 {w : World} {K : Value → World → Prop} {g : GNode} {m : Int} {sv : Value} (_ : oneC sv = true) (hk : ∀ w', w'.ownsRow w.heap.size 92 8 (.slice (some ⟨w.heap.size, 0, none⟩) 1 1) 1 (g.pcs m sv) → Ext w w' → K (.slice (some ⟨w.heap.size, 0, none⟩) 1 1) w') :
  V prog (Instr.buildSlice 54 1 #[(0, .agg (g.pcs m sv).toArray)]) w K := by
 have hr : (Instr.buildSlice 54 1 #[(0, .agg (g.pcs m sv).toArray)]).run prog w = .ok (.slice (some ⟨w.heap.size, 0, none⟩) 1 1) (w.alloc (.cells (g.pcs m sv).toArray 92)) := by
  simp only [Instr.buildSlice, Sem.run_bind, run_underlying underlying54, Result.andThen_ok, run_size inf92]
  rw [if_neg (by decide), if_neg (by decide)]
  simp only [Sem.run_bind, run_zero inf92, Result.andThen_ok, Sem.run_pure]
  have hf : ∀ z : Array Value, z = #[.int .i64 0, .int .i64 0, .int .i64 0, .int .i64 0, .int .i64 0, .int .i64 0, .int .i64 0, .slice none 0 0] → Instr.fill (fun i => some (i * 8, 8)) (Array.map (fun x => z[x % z.size]!) (Array.range (1 * 8))) [(0, Value.agg (g.pcs m sv).toArray)] = some (g.pcs m sv).toArray := by
   rintro _ rfl
   kernel_rfl
  have hf' := hf _ rfl
  simp only [Value.cells] at hf' ⊢
  erw [hf']
  simp [newRow, newObj, Sem.run]
 refine V.ok hr (hk _ ?_ ((Ext.refl w).alloc _))
 exact ⟨rfl, .inr ⟨_, 1, _, rfl, Nat.le_refl _, by rw [heap_alloc_new], by decide, by decide, by rfl, rfl⟩⟩
end Go.Proofs.YtcdbikfnlggbnaaGreatDoor
namespace Go.Proofs.YtcdbikfnlggbnaaGreatDoor
open Tryz
open Go.Vc
def GNode.wr : GNode → Int
 | .const _ _ | .move _ _ | .bin _ _ _ _ | .un _ _ _ | .choose _ _ _ _ | .getField _ _ => 1
 | .serve _ _ _ _ _ | .call _ _ _ | .callX _ _ _ => 0
 | _ => -1
theorem writes_ok {g : GNode} {v : Value} {w : World} (h : PlainIs w v g) : callD prog 78 #[v] w fun r w' => r = i64 g.wr ∧ Ext w w' := by
 obtain ⟨m, sv, rfl, hs⟩ := h
 apply F78_wp
 unfold F78_den
 refine bx fun b w1 hb x1 => ?_
 refine ldB hb fa_92_0 l1_3 rfl ?_
 refine ⟨fun v w' => v = .bool (decide (g.wr = 1)) ∧ w' = w1, ?_, ?_⟩
 ·cases g <;> (simp only [GNode.pk, V_eqlI, Int.reduceEq, decide_true, decide_false, ifD_true, ifD_false]; first | exact ⟨rfl, rfl⟩ | simp [GNode.wr])
 ·rintro _ w2 ⟨rfl, rfl⟩ _
  cases g <;> (simp only [GNode.wr, GNode.pk, V_eqlI, Int.reduceEq, Int.reduceNeg, decide_true, decide_false, ifD_true, ifD_false]; first | exact ⟨rfl, x1⟩ | exact ⟨trivial, x1⟩)
theorem nextP_ok {g : GNode} {v : Value} {w : World} {k : Int} (h : PlainIs w v g) (h0 : 0 ≤ k) (h1 : k ≤ 1000000) : callD prog 76 #[v, i64 k] w fun r w' => w'.ownsRow w.heap.size 3 1 r (g.nx k).length ((g.nx k).map i64) ∧ Ext w w' := by
 obtain ⟨m, sv, rfl, hs⟩ := h
 apply F76_wp
 unfold F76_den
 have hw : IntKind.i64.wrap (k + 1) = k + 1 := wrap_id (by omega) (by omega)
 refine bx fun b w1 hb x1 => ?_
 refine ldB hb fa_92_0 l1_3 rfl ?_
 refine ⟨fun v w' => v = .bool (decide (g.pk = 0 ∨ g.pk = 14)) ∧ w' = w1, ?_, ?_⟩
 ·cases g <;> (simp only [GNode.pk, V_eqlI, Int.reduceEq, decide_true, decide_false, ifD_false]; first | exact ⟨rfl, rfl⟩ | simp [])
 ·rintro _ w2 ⟨rfl, rfl⟩ _
  cases g with
  | ret s =>
   simp only [GNode.pk, Int.reduceEq, or_true, decide_true, ifD_true]
   exact ⟨World.ownsRow_nil _ _ _ _, x1⟩
  | goto t =>
   simp only [GNode.pk, Int.reduceEq, or_false, decide_false, ifD_false, V_eqlI, decide_true, ifD_true]
   refine ldB hb fa_92_6 l1_3 rfl ?_
   refine bsl xe_23 [i64 t] rfl rfl (by simp) rfl fun v w2 ho x2 => ?_
   exact ⟨own_mono ho x1.size, x1.trans x2⟩
  | branch c t =>
   simp only [GNode.pk, Int.reduceEq, or_false, decide_false, ifD_false, V_eqlI, decide_true, ifD_true]
   refine ldB hb fa_92_6 l1_3 rfl ?_
   refine V_add.2 ?_
   rw [hw]
   refine V_eqlI.2 (ifD_dec (fun heq => ?_) fun hne => ?_)
   ·refine V_add.2 ?_
    rw [hw]
    refine bsl xe_23 [i64 (k + 1)] rfl rfl (by simp) rfl fun v w2 ho x2 => ?_
    have hu : GNode.nx (.branch c t) k = [k + 1] := by simp only [GNode.nx]; rw [if_pos (show t = k + 1 from heq)]
    rw [hu]
    exact ⟨own_mono ho x1.size, x1.trans x2⟩
   ·refine V_add.2 ?_
    rw [hw]
    refine ldB hb fa_92_6 l1_3 rfl ?_
    refine bsl xe_23 [i64 (k + 1), i64 t] rfl rfl (by simp) rfl fun v w2 ho x2 => ?_
    have hu : GNode.nx (.branch c t) k = [k + 1, t] := by simp only [GNode.nx]; rw [if_neg (show ¬ t = k + 1 from hne)]
    rw [hu]
    exact ⟨own_mono ho x1.size, x1.trans x2⟩
  | _ =>
   simp only [GNode.pk, Int.reduceEq, or_false, decide_false, ifD_false, V_eqlI]
   refine V_add.2 ?_
   rw [hw]
   refine bsl (by first | exact xe_202 | exact xe_23) [i64 (k + 1)] rfl rfl (by simp) rfl fun v w2 ho x2 => ?_
   exact ⟨own_mono ho x1.size, x1.trans x2⟩
end Go.Proofs.YtcdbikfnlggbnaaGreatDoor
namespace Go.Proofs.YtcdbikfnlggbnaaGreatDoor
open Tryz
open Go.Vc
def PProgIs (w : World) (v : Value) (params regs : Int) (gs : List GNode) : Prop := ∃ ns cs, v = .agg #[i64 params, i64 regs, ns] ∧ SliceIs w ns 8 gs.length cs ∧ ∀ (i : Nat) g, gs[i]? = some g → ∃ m sv, (cs.drop (i * 8)).take 8 = g.pcs m sv ∧ IntsAre w sv g.us
end Go.Proofs.YtcdbikfnlggbnaaGreatDoor
namespace Go.Vc
open Go.Proofs
section
variable {P : Program} {w : World}
theorem Blk.grown {w w' : World} {g : Nat} {cs : List Value} {e : TypeId} {row : Option Nat} (h : Blk w g cs e) (hg : w.grownBy w' row) (hne : row ≠ some g) : Blk w' g cs e := by
 have := hg.block g h.lt (fun he => hne he.symm)
 unfold Blk at h ⊢
 rw [this]; exact h
theorem own_ty {w : World} {B B' e e' s s' n n' : Nat} {v v' : Value} {xs xs' : List Value} (h : w.ownsRow B e s v n xs) (h' : w.ownsRow B' e' s' v' n' xs') (hne : e ≠ e') : v.ownBlock = none ∨ v.ownBlock ≠ v'.ownBlock := by
 rcases h.2 with ⟨rfl, _⟩ | ⟨g, cap, cur, rfl, _, h1, _⟩
 ·exact .inl rfl
 ·refine .inr ?_
  rcases h'.2 with ⟨rfl, _⟩ | ⟨g', cap', cur', rfl, _, h2, _⟩
  ·simp [Value.ownBlock]
  ·simp only [Value.ownBlock, ne_eq, Option.some.injEq]
   rintro rfl
   rw [h1] at h2
   cases h2
   exact hne rfl
theorem own_blk {w : World} {B e s n g : Nat} {v : Value} {xs : List Value} (h : w.ownsRow B e s v n xs) (hg : g < B) : v.ownBlock ≠ some g := fun he => by have := (h.lt g he).1; omega
theorem set_grown {w : World} {g o : Nat} {u : Value} : w.grownBy (w.setCell ⟨g, o, none⟩ u) (some g) := ⟨rfl, rfl, rfl, by simp, fun _ _ hne => heap_setCell_other _ _ _ _ (fun he => hne (by simp [he]))⟩
theorem own_set {w : World} {B e s n g o : Nat} {v u : Value} {xs : List Value} (h : w.ownsRow B e s v n xs) (hg : g < B) : (w.setCell ⟨g, o, none⟩ u).ownsRow B e s v n xs :=
 h.kept set_grown (.inr (own_blk h hg))
theorem el_old {cs l : List Value} {i j sz : Nat} (hl : cs.length = i * sz) (hj : j < i) : ((cs ++ l).drop (j * sz)).take sz = (cs.drop (j * sz)).take sz := by
 have h1 : (j + 1) * sz ≤ i * sz := Nat.mul_le_mul_right sz hj
 rw [Nat.add_mul, Nat.one_mul] at h1
 rw [List.drop_append_of_le_length (by omega), List.take_append_of_le_length (by rw [List.length_drop]; omega)]
theorem el_new {cs l : List Value} {i sz : Nat} (hl : cs.length = i * sz) (h2 : l.length = sz) : ((cs ++ l).drop (i * sz)).take sz = l := by
 rw [← hl, List.drop_left, ← h2, List.take_length]
end
end Go.Vc
namespace Go.Proofs.YtcdbikfnlggbnaaGreatDoor
open Tryz
open Go.Vc
theorem own1' {w : World} {B e s n : Nat} {v : Value} {xs : List Value} (h : w.ownsRow B e s v n xs) : oneC v = true := by
 obtain ⟨a, c, rfl⟩ := (SliceIs.of_own h).shape; rfl
def El (p : GProg) (w0 w : World) (B i : Nat) (cs : List Value) : Prop := ∀ j, j < i → ∃ g m sv, p.nodes[j]? = some g ∧ (cs.drop (j * 8)).take 8 = g.pcs m sv ∧ (IntsAre w0 sv g.us ∨ w.ownsRow B 3 1 sv g.us.length (g.us.map i64))
set_option maxHeartbeats 2000000 in
theorem plainProg_ok {p : GProg} {pv : Value} {w : World} (hp : ProgIs w pv p) (hl : p.nodes.length ≤ 1000) : callD prog 17 #[pv] w fun r w' => PProgIs w' r p.params p.regs p.nodes ∧ Ext w w' := by
 obtain ⟨ns, rfl, ⟨vs, hs, hvs⟩, _⟩ := hp
 apply F17_wp
 unfold F17_den
 refine bxK fun w1 h1 x1 => ?_
 refine alK inf56 fun w2 h2 x2 => ?_
 have h12 : Blk w2 w.heap.size [i64 p.params, i64 p.regs, ns] 38 := h1.ext x2
 refine ldB h12.boxed fa_38_0 l1_3 rfl ?_
 refine ldB h12.boxed fa_38_1 l1_3 rfl ?_
 refine bld bd_56 [(0, i64 p.params), (1, i64 p.regs)] rfl rfl ?_
 refine asK sa_56 rfl rfl fun w3 h3 x3 => ?_
 obtain ⟨na, nc, rfl⟩ := hs.shape
 have l1 := h1.lt
 have l2 := h2.lt
 have X3 := (x1.trans x2).trans x3
 refine ⟨fun v w' => ∃ (i : Nat) (nv : Value) (cs : List Value), v = i64 i ∧ i ≤ p.nodes.length ∧ Ext w w' ∧ w2.heap.size < w'.heap.size ∧ Blk w' w.heap.size [i64 p.params, i64 p.regs, .slice na p.nodes.length nc] 38 ∧ Blk w' w1.heap.size [i64 0, i64 0, .slice none 0 0] 56 ∧
   Blk w' w2.heap.size [i64 p.params, i64 p.regs, nv] 56 ∧ w'.ownsRow (w2.heap.size + 1) 92 8 nv i cs ∧ El p w w' (w2.heap.size + 1) i cs, fun v _ => p.nodes.length - (RowKit.intOf v).toNat,
  ⟨0, .slice none 0 0, [], rfl, Nat.zero_le _, X3, h3.lt, h12.ext x3, h2.ext x3, h3, World.ownsRow_nil _ _ _ _, fun j hj => by omega⟩, ?_⟩
 rintro _ w4 ⟨i, nv, cs, rfl, hi, X4, hsz, k1, k2, k3, ho, hel⟩ _
 refine ldB k1.boxed fa_38_2 l1_36 rfl ?_
 refine V_ln_36.2 (V_lss.2 (ifD_dec (fun hlt => ?_) fun hge => ?_))
 ·have hi' : i < p.nodes.length := by omega
  obtain ⟨g, hg⟩ := ex_get hi'
  obtain ⟨u, hu, hnu⟩ := hvs i g hg
  have D4 : Ext w4 w4.drew := (Ext.refl _).drew
  refine drawD.mk' (fun w' => Ext w w' ∧ Blk w' w.heap.size [i64 p.params, i64 p.regs, .slice na p.nodes.length nc] 38 ∧ Blk w' w2.heap.size [i64 p.params, i64 p.regs, nv] 56) ⟨X4.trans D4, k1.ext D4, k3.ext D4⟩ ?_
  refine yfB (fun w' hw => hw.2.2.boxed) fa_56_2 l1_54 rfl ?_
  refine yfB (fun w' hw => hw.2.1.boxed) fa_38_2 l1_36 rfl ?_
  refine ySl xa_36 l1_52 hs (fun _ h => h.1) (by omega) (by omega) (by simpa using hu) ?_
  refine (plainO_ok (hnu.ext (X4.trans D4))).mono fun r w5 ⟨⟨m, sv, hr, hsv⟩, x5⟩ => ?_
  subst hr
  have D5 := D4.trans x5
  refine ⟨⟨X4.trans D5, k1.ext D5, k3.ext D5⟩, ?_⟩
  have hsvc : oneC sv = true := by
   rcases hsv with h | h
   ·exact shape_ints (h _ hnu)
   ·exact own1 h
  refine bs83 hsvc fun w6 ho6 x6 => ?_
  have D6 := D5.trans x6
  refine ⟨⟨X4.trans D6, k1.ext D6, k3.ext D6⟩, ?_⟩
  have hoo := D6.own ho
  have hs6 := D6.size
  refine apA underlying54 inf92 rfl (by decide) hoo (SliceIs.of_own ho6) (by simp only [GNode.pcs, List.all_cons, List.all_nil, hsvc, Bool.and_true]; rfl) (by omega) (by unfold maxLen; omega) (by omega) fun nv' w7 ho7 hg7 => ?_
  have hrow : ∀ k, nv.ownBlock = some k → w2.heap.size + 1 ≤ k := fun k hk => (hoo.lt k hk).1
  have X7 : Ext w w7 := (X4.trans D6).grown hg7 fun k hk => by have := hrow k hk; omega
  have k1' := (k1.ext D6).grown hg7 (own_blk hoo (by omega))
  have k2' := (k2.ext D6).grown hg7 (own_blk hoo (by omega))
  have k3' := (k3.ext D6).grown hg7 (own_blk hoo (by omega))
  refine ⟨⟨X7, k1', k3'⟩, ?_⟩
  refine yieldS.ok (fun w' _ => r_fd_56_2) ?_
  refine U.ok (r_store inf54 (own1' ho7) (by rw [Nat.zero_add, k3'.cell]; rfl) (by rw [Nat.zero_add]; exact k3'.frozen 2)) ?_
  refine V_add.2 ?_
  rw [wrap_id (by omega) (by omega), i64_succ, Nat.zero_add]
  refine ⟨⟨i + 1, nv', cs ++ g.pcs m sv, rfl, by omega, X7.setCell (by omega) _, by have := hg7.size; rw [show (w7.setCell ⟨w2.heap.size, 2, none⟩ nv').heap.size = w7.heap.size by simp]; omega, k1'.other (by omega), k2'.other (by omega), k3'.set 2 nv', own_set ho7 (by omega), fun j hj => ?_⟩, by simp only [intOf_i64]; omega⟩
  have hcl : cs.length = i * 8 := ho.1
  by_cases hji : j = i
  ·subst hji
   refine ⟨g, m, sv, hg, el_new hcl rfl, ?_⟩
   rcases hsv with h | h
   ·exact .inl (h _ hnu)
   ·have h6 := own_mono (x6.own h) (show w2.heap.size + 1 ≤ w4.drew.heap.size by have := D4.size; omega)
    exact .inr (own_set (h6.kept hg7 (own_ty h6 hoo (by decide))) (by omega))
  ·obtain ⟨g', m', sv', e1, e2, e3⟩ := hel j (by omega)
   refine ⟨g', m', sv', e1, (el_old hcl (by omega)).trans e2, e3.imp id fun h => ?_⟩
   exact own_set ((D6.own h).kept hg7 (own_ty (D6.own h) hoo (by decide))) (by omega)
 ·refine ldA k3.boxed la_56 rfl ?_
  refine stA inf56 k2 (l := [i64 p.params, i64 p.regs, nv]) rfl rfl rfl (by have := own1' ho; simp only [List.all_cons, List.all_nil, this, Bool.and_true]; rfl) fun w' h2' hc => ?_
  have hin : i = p.nodes.length := by omega
  subst hin
  have X' := hc.ext _ X4 (by omega)
  refine ⟨_, r_var underlying56 rfl inf56 h2' rfl, ⟨_, rfl⟩, ⟨nv, cs, rfl, SliceIs.of_own (hc.ownRow ho (by omega)), fun j g hg => ?_⟩, X'⟩
  obtain ⟨g', m', sv', e1, e2, e3⟩ := hel j (List.getElem?_eq_some_iff.1 hg).1
  rw [hg] at e1
  cases e1
  refine ⟨m', sv', e2, ?_⟩
  rcases e3 with h | h
  ·exact h.ext X'
  ·exact SliceIs.of_own (hc.ownRow h (by omega))
end Go.Proofs.YtcdbikfnlggbnaaGreatDoor
namespace Go.Vc
section
variable {P : Program} {w : World} {S : World → Prop} {L : Value → Prop}
theorem yldxA {t x : TypeId} {v : Value} {n sz : Nat} {cs l : List Value} {k : IntKind} {i : Int} (h : XA P t sz) (ht : ∃ d z by_, P.underlying x = some d ∧ aggB d = true ∧ Inf P x z sz by_) (hs : SliceIs w v sz n cs) (hx : ∀ w', S w' → Ext w w') (h0 : 0 ≤ i) (h1 : i < n)
  (hc : (cs.drop (i.toNat * sz)).take sz = l) (hl : l.length = sz) (hk : L (.agg l.toArray)) :
  yieldS P S (Instr.indexAt t v (.int k i)) fun p => yieldS P S (Instr.loadAt x p) L := by
 obtain ⟨e, z, b', hte, hi⟩ := h
 obtain ⟨d, z', by_, h2, h3, h4⟩ := ht
 obtain ⟨b, off, cap, rfl, hcell⟩ := hs.there (by omega)
 refine yieldS.ok (fun w' _ => r_index hte hi h0 h1) (yieldS.ok (fun w' hw => r_loadAgg h2 h3 h4 hl fun j hj => ?_) hk)
 obtain ⟨u, hu⟩ : ∃ u, l[j]? = some u := ⟨_, List.getElem?_eq_getElem hj⟩
 rw [hu, Nat.add_assoc]
 refine (hx w' hw).cell (hcell _ u ?_)
 rw [← hc, List.getElem?_take, List.getElem?_drop] at hu
 split at hu
 ·exact hu
 ·cases hu
end
end Go.Vc
namespace Go.Proofs.YtcdbikfnlggbnaaGreatDoor
open Tryz
open Go.Vc
theorem wr_df {g : GNode} (h : g.wr < 0) : g.df = -1 := by cases g <;> simp_all [GNode.wr, GNode.df]
theorem def36_ok {g : GNode} {v : Value} {w : World} (h : PlainIs w v g) : callD prog 44 #[v] w fun r w' => r = i64 g.df ∧ Ext w w' := by
 have h0 := h
 obtain ⟨m, sv, rfl, hs⟩ := h
 apply F44_wp
 unfold F44_den
 refine bx fun b w1 hb x1 => ?_
 refine ldA hb la_92 rfl ?_
 refine (writes_ok (h0.ext x1)).mono fun r w2 ⟨hr, x2⟩ => ?_
 subst hr
 refine V_lss.2 (ifD_dec (fun hlt => ?_) fun hge => ?_)
 ·exact ⟨by rw [wr_df hlt], x1.trans x2⟩
 ·refine ldB (hb.ext x2) fa_92_1 l1_3 rfl ?_
  exact ⟨rfl, x1.trans x2⟩
set_option maxHeartbeats 1000000 in
theorem in31_ok {n : GNode} {nv bv : Value} {bs : List Bool} {w : World} (hn : PlainIs w nv n) (hb : BoolsAre w bv bs) (hl : n.us.length ≤ 4294967299) (hbl : bs.length ≤ 4294967296)
  (hd : n.df < bs.length) (hu : ∀ r ∈ n.us, 0 ≤ r ∧ r < bs.length) :
  callD prog 77 #[nv, bv] w fun r w' => w'.ownsRow w.heap.size 4 1 r bs.length ((aheadL n bs).map Value.bool) ∧ Ext w w' := by
 have hn0 := hn
 obtain ⟨m, sv, rfl, hs⟩ := hn
 apply F77_wp
 unfold F77_den
 refine bxK fun w1 h1 x1 => ?_
 refine bsl xe_78 [] rfl rfl (by simp) rfl fun v0 w2 ho2 x2 => ?_
 have x12 := x1.trans x2
 refine apO xe_78 ho2 (hb.ext x12) (by simp [oneC]) (by omega) (by unfold maxLen; omega) x2.size fun ov w3 ho3 hg3 => ?_
 have x3 : Ext w w3 := x12.grown hg3 fun k hk => Nat.le_trans x1.size (ho2.lt k hk).1
 have h3 := (h1.ext x2).grown hg3 (own_blk ho2 h1.lt)
 simp only [Nat.zero_add, List.nil_append] at ho3
 refine ⟨fun w' => w'.ownsRow w1.heap.size 4 1 ov bs.length ((killL n.df bs).map Value.bool) ∧ Ext w w' ∧ Blk w' w.heap.size (n.pcs m sv) 92, ?_, ?_⟩
 ·refine ldA h3.boxed la_92 rfl ?_
  refine (def36_ok (hn0.ext x3)).mono fun r w4 ⟨hr, x4⟩ => ?_
  subst hr
  refine V_geq.2 (ifD_dec (fun hge => ?_) fun hlt => ?_)
  ·have hge' : 0 ≤ n.df := hge
   refine stO xa_78 inf4 (x4.own ho3) hge' hd rfl fun w5 ho5 hg => ?_
   rw [map_set_b] at ho5
   refine ⟨?_, (x3.trans x4).grown hg fun k hk => Nat.le_trans x1.size (ho3.lt k hk).1, (h3.ext x4).grown hg (own_blk ho3 h1.lt)⟩
   unfold killL
   rw [if_pos hge']
   exact ho5
  ·refine ⟨?_, x3.trans x4, h3.ext x4⟩
   unfold killL
   rw [if_neg (by simpa using hlt)]
   exact x4.own ho3
 rintro w4 ⟨ho4, x4, h4⟩ _
 obtain ⟨sa, sc, rfl⟩ := hs.shape
 refine ⟨fun v w' => ∃ j : Nat, v = i64 j ∧ j ≤ n.us.length ∧ Ext w w' ∧ Blk w' w.heap.size (n.pcs m (.slice sa n.us.length sc)) 92 ∧ w'.ownsRow w1.heap.size 4 1 ov bs.length (((n.us.take j).foldl (fun a r => a.set r.toNat true) (killL n.df bs)).map Value.bool),
  fun v _ => n.us.length - (RowKit.intOf v).toNat, ⟨0, rfl, by omega, x4, h4, by simpa using ho4⟩, ?_⟩
 rintro _ w5 ⟨j, rfl, hj, x5, h5, ho5⟩ _
 have hs5 := hs.ext x5
 refine ldB h5.boxed fa_92_7 l1_23 rfl (lnx xa_23 hs5 ?_)
 refine V_lss.2 (ifD_dec (fun hlt => ?_) fun hge => ?_)
 ·have hlt' : j < n.us.length := by omega
  obtain ⟨u, hu'⟩ := ex_get hlt'
  obtain ⟨hu0, hu1⟩ := hu u (List.mem_of_getElem? hu')
  refine ldB h5.boxed fa_92_7 l1_23 rfl ?_
  refine ldx xa_23 l1_3 hs5 (by omega) (by omega) (getI hu') ?_
  refine stO xa_78 inf4 ho5 hu0 (by omega) rfl fun w6 ho6 hg => ?_
  refine V_add.2 ?_
  rw [wrap_id (by omega) (by omega), i64_succ]
  rw [map_set_b] at ho6
  refine ⟨⟨j + 1, rfl, by omega, x5.grown hg fun k hk => Nat.le_trans x1.size (ho5.lt k hk).1, h5.grown hg (own_blk ho5 h1.lt), ?_⟩, by simp only [intOf_i64]; omega⟩
  rw [List.take_add_one, hu']
  simpa using ho6
 ·have hju : j = n.us.length := by omega
  subst hju
  rw [List.take_length] at ho5
  exact ⟨own_mono ho5 x1.size, x5⟩
end Go.Proofs.YtcdbikfnlggbnaaGreatDoor
namespace Go.Proofs.YtcdbikfnlggbnaaGreatDoor
open Tryz
open Go.Vc
set_option maxHeartbeats 1600000 in
theorem sweepP {p : GProg} {N R : Nat} {w0 : World} {b g0 : Nat} {cs : List Value} {gs : List Nat} {m0 : Mx} (hN : gs.length = N) (hN2 : N ≤ 250) (hR1 : R ≤ 40) (hc1 : cs[1]? = some (i64 R))
  {k g : Nat} (hkN : k < N) (hg : gs[k]? = some g) {av : Value} {A : List Bool} {B : Nat} (hA : A.length = R) (hgB : ∀ g ∈ gs, g < B)
  (hal : ∀ r, A[r]? = some true → Alive p k r) {Q : Value → World → Prop} {w : World} {f : Bool} {m : Mx} (hst : St w0 w b cs g0 gs R m) (hsw : Swp p N R m0 m f)
  (ha : w.ownsRow B 4 1 av R (A.map Value.bool))
  (hQ : ∀ (f' : Bool) (m' : Mx) w', St w0 w' b cs g0 gs R m' → Swp p N R m0 m' f' → (f = true → f' = true) → (f' = false → ∀ r, A[r]? = some true → m0 k r = true) → Ext w0 w' → (∀ B' e size n v xs, w.ownsRow B' e size n v xs → (∀ g ∈ gs, g < B') → w'.ownsRow B' e size n v xs) → Q (.bool f') w') :
  ∃ (I5 : NP 2) (μ5 : NF 2), I5 (.bool f) (Value.int IntKind.i64 0) w ∧
   ∀ (t5_3 : Value) (t10 : Value), ∀ w32 : World, I5 t5_3 t10 w32 → ∀ _f : Env,
   V prog (Instr.fieldAt 56 (.pointer (some ⟨b, 0, none⟩)) 1) w32 fun t66 w33 =>
   V prog (Instr.loadAt 3 t66) w33 fun t67 w34 =>
   V prog (binOp .lss 3 t10 t67) w34 fun t68 w35 =>
   ifD t68 (
   V prog (Instr.indexAt 78 av t10) w35 fun t73 w36 =>
   V prog (Instr.loadAt 4 t73) w36 fun t74 w37 =>
   gd t74 true (fun K => K (.slice (some ⟨g0, 0, none⟩) N N) w37) w37 fun t76 w38 =>
   gd t74 true (fun K => K (i64 k) w38) w38 fun t77 w39 =>
   gd t74 true (fun K => V prog (Instr.indexAt 98 t76 t77) w39 K) w39 fun t78 w40 =>
   gd t74 true (fun K => V prog (Instr.loadAt 78 t78) w40 K) w40 fun t79 w41 =>
   gd t74 true (fun K => K t10 w41) w41 fun t80 w42 =>
   gd t74 true (fun K => V prog (Instr.indexAt 78 t79 t80) w42 K) w42 fun t81 w43 =>
   gd t74 true (fun K => V prog (Instr.loadAt 4 t81) w43 K) w43 fun t82 w44 =>
   gd t74 true (fun K => V prog (Op.unary UnOp.not t82) w44 K) w44 fun t83 w45 =>
   pickD t74 t83 (Value.bool false) fun t84 =>
   ifD t84 (
   V prog (Instr.indexAt 98 (.slice (some ⟨g0, 0, none⟩) N N) (i64 k)) w45 fun t87 w47 =>
   V prog (Instr.loadAt 78 t87) w47 fun t88 w48 =>
   V prog (Instr.indexAt 78 t88 t10) w48 fun t90 w49 =>
   U prog (Instr.storeAt 4 t90 (Value.bool true)) w49 fun _ w50 =>
   V prog (binOp .add 3 t10 (Value.int IntKind.i64 1)) w50 fun t70 w51 =>
   I5 (Value.bool true) t70 w51 ∧ μ5 (Value.bool true) t70 w51 < μ5 t5_3 t10 w32) (
   V prog (binOp .add 3 t10 (Value.int IntKind.i64 1)) w45 fun t70_1 w52 =>
   I5 t5_3 t70_1 w52 ∧ μ5 t5_3 t70_1 w52 < μ5 t5_3 t10 w32)) (
   Q t5_3 w35) := by
 have hgm := List.mem_of_getElem? hg
 refine ⟨fun v1 v2 w' => ∃ (f' : Bool) (r : Nat) (m' : Mx), v1 = .bool f' ∧ v2 = i64 r ∧ r ≤ R ∧ St w0 w' b cs g0 gs R m' ∧ Swp p N R m0 m' f' ∧ (f = true → f' = true) ∧ (f' = false → ∀ j, j < r → A[j]? = some true → m0 k j = true) ∧
   w'.ownsRow B 4 1 av R (A.map Value.bool) ∧ (∀ B' e size n v xs, w.ownsRow B' e size n v xs → (∀ g ∈ gs, g < B') → w'.ownsRow B' e size n v xs), fun _ v2 _ => R - (RowKit.intOf v2).toNat,
  ⟨f, 0, m, rfl, rfl, Nat.zero_le _, hst, hsw, id, fun _ j hj => by omega, ha, fun _ _ _ _ _ _ h _ => h⟩, ?_⟩
 rintro _ _ w1 ⟨f', r, m', rfl, rfl, hr, hst', hsw', hff, hcl, ha', hkeep⟩ _
 refine ldB hst'.box fa_56_1 l1_3 hc1 ?_
 refine V_lss.2 (ifD_dec (fun hlt => ?_) fun hge => ?_)
 ·have hr' : r < R := by omega
  obtain ⟨a, haa⟩ := ex_get (l := A) (j := r) (by omega)
  refine ldO' xa_78 l1_4 ha' (by omega) (by omega) (getB haa) ?_
  have hrow := hst'.rows k g hg
  have hslO : SliceIs w1 (.slice (some ⟨g0, 0, none⟩) N N) 1 N (gs.map (sl R)) := hst'.out.slice (by simpa using hN) (by unfold maxLen; omega)
  have hslR : SliceIs w1 (sl R g) 1 R ((rowL m' k R).map Value.bool) := hrow.slice (by simp [rowL_len]) (by unfold maxLen; omega)
  have hgk : (gs.map (sl R))[((k : Nat) : Int).toNat]? = some (sl R g) := by simp [hg]
  have hmk : ((rowL m' k R).map Value.bool)[((r : Nat) : Int).toNat]? = some (.bool (m' k r)) := by simp [rowL_get hr']
  have flag : ∀ {Z : Value → World → Prop}, Z (.bool (a && !m' k r)) w1 →
    (gd (.bool a) true (fun K => K (.slice (some ⟨g0, 0, none⟩) N N) w1) w1 fun t76 w38 =>
   gd (.bool a) true (fun K => K (i64 k) w38) w38 fun t77 w39 =>
   gd (.bool a) true (fun K => V prog (Instr.indexAt 98 t76 t77) w39 K) w39 fun t78 w40 =>
   gd (.bool a) true (fun K => V prog (Instr.loadAt 78 t78) w40 K) w40 fun t79 w41 =>
   gd (.bool a) true (fun K => K (i64 r) w41) w41 fun t80 w42 =>
   gd (.bool a) true (fun K => V prog (Instr.indexAt 78 t79 t80) w42 K) w42 fun t81 w43 =>
   gd (.bool a) true (fun K => V prog (Instr.loadAt 4 t81) w43 K) w43 fun t82 w44 =>
   gd (.bool a) true (fun K => V prog (Op.unary UnOp.not t82) w44 K) w44 fun t83 w45 =>
   pickD (.bool a) t83 (Value.bool false) fun t84 => Z t84 w45) := by
   intro Z hZ
   cases a with
   | false => simp only [gd_ft, pickD_iff, Bool.false_eq_true, reduceIte]; simpa using hZ
   | true =>
    simp only [gd_t]
    refine ldx xa_98 l1_78 hslO (by omega) (by omega) hgk ?_
    refine ldx xa_78 l1_4 hslR (by omega) (by omega) hmk ?_
    simp only [V_not, pickD_iff, reduceIte]
    simpa using hZ
  refine flag ?_
  refine ifD.mk (fun ht => ?_) fun hf => ?_
  ·have ha1 : a = true := by cases a with | true => rfl | false => cases ht
   have hm0 : m' k r = false := by cases hm : m' k r with | false => rfl | true => rw [hm, Bool.not_true, Bool.and_false] at ht; cases ht
   refine ldx xa_98 l1_78 hslO (by omega) (by omega) hgk ?_
   refine V.ok (r_ix_78 (by omega) (by omega)) ?_
   refine U.ok (r_store inf4 rfl (u := .bool (m' k r)) ?_ ?_) ?_
   ·have := hrow.cell r
    rw [List.getElem?_map, rowL_get hr'] at this
    simpa using this
   ·exact hrow.frozen _
   ·refine V_add.2 ?_
    rw [wrap_id (by omega) (by omega), i64_succ]
    have hset := hst'.set hg r true
    have hk' : ∀ {B' e size n v xs}, w1.ownsRow B' e size v n xs → (∀ g ∈ gs, g < B') → (w1.setCell ⟨g, 0 + (r : Int).toNat * 1, none⟩ (.bool true)).ownsRow B' e size v n xs := by
     intro B' e size n v xs h hB
     refine h.kept (row := some g) ⟨rfl, rfl, rfl, by simp, fun i _ hi => heap_setCell_other _ _ _ _ (fun he => hi (by simp [he]))⟩ (own_ne h fun x hx => ?_)
     cases hx
     exact hB g hgm
    have hst2 := hsw'.step hkN hr' a (fun h => hal r (by rw [haa, h]))
    rw [ha1, hm0] at hst2
    simp only [Bool.not_false, Bool.and_self, Bool.or_true] at hst2
    refine ⟨⟨true, r + 1, updM m' k r true, rfl, rfl, by omega, by simpa using hset, hst2, fun _ => rfl, (fun h => by cases h), hk' ha' hgB, fun B' e size n v xs h hB => hk' (hkeep B' e size n v xs h hB) hB⟩, by simp only [intOf_i64]; omega⟩
  ·refine V_add.2 ?_
   rw [wrap_id (by omega) (by omega), i64_succ]
   refine ⟨⟨f', r + 1, m', rfl, rfl, by omega, hst', hsw', hff, fun hf0 j hj hAj => ?_, ha', hkeep⟩, by simp only [intOf_i64]; omega⟩
   by_cases hjr : j = r
   ·subst hjr
    rw [haa] at hAj
    cases hAj
    have : m' k j = true := by simpa using hf
    rw [← hsw'.no hf0]
    exact this
   ·exact hcl hf0 j (by omega) hAj
 ·refine hQ f' m' w1 hst' hsw' hff (fun hf r' hr' => hcl hf r' ?_ hr') hst'.x hkeep
  have := (List.getElem?_eq_some_iff.1 hr').1
  omega
set_option maxHeartbeats 1600000 in
theorem behindP_ok {p : GProg} {R : Nat} {pv : Value} {w : World} (hp : PProgIs w pv p.params p.regs p.nodes) (hargs : ∀ n ∈ p.nodes, n.args.length ≤ 4294967296) (hv : OkProg p) (hR : p.regs = R) :
  callD prog 40 #[pv] w fun r w' => (∃ m, MatIs w' r p.nodes.length R m ∧ ∀ k r, k < p.nodes.length → r < R → (m k r = true ↔ Alive p k r)) ∧ Ext w w' := by
 obtain ⟨ns, cs, rfl, hs, hel⟩ := hp
 have hl1 := hv.l1; have hl2 := hv.l2; have hr1 := hv.r1; have hr2 := hv.r2
 have hat := fun {k : Nat} (hk : k < p.nodes.length) => hv.at hk
 generalize hN : p.nodes.length = N at *
 apply F40_wp
 unfold F40_den
 refine bx fun b w1 hb x1 => ?_
 have hb2 := hb
 have X2 := x1
 obtain ⟨na, nc, rfl⟩ := hs.shape
 refine ldB hb2 fa_56_2 l1_54 rfl (lnx xa_54 (hs.ext X2) ?_)
 refine mkB underlying98 inf78 rfl (n := N) (by omega) (by omega) fun w3 ho x3 hsz3 => ?_
 have hbB : b < w1.heap.size := by
  have := hb2 0 (i64 p.params) rfl
  exact World.block_lt_of_cell? _ _ this
 have hlo : w.heap.size ≤ w1.heap.size := X2.size
 generalize w1.heap.size = g0 at *
 have X3 := X2.trans x3
 refine ⟨fun v w' => ∃ gs : List Nat, v = i64 gs.length ∧ gs.length ≤ N ∧ Ext w w' ∧ Boxed w' b [i64 p.params, i64 p.regs, .slice na N nc] ∧ (∀ g ∈ gs, g0 < g) ∧ gs.Nodup ∧ (∀ g ∈ gs, g < w'.heap.size) ∧
   Blk w' g0 (gs.map (sl R) ++ List.replicate (N - gs.length) (.slice none 0 0)) 78 ∧ ∀ g ∈ gs, Blk w' g (List.replicate R (.bool false)) 4,
  fun v _ => N - (RowKit.intOf v).toNat, ⟨[], rfl, Nat.zero_le _, X3, hb2.ext x3, by simp, List.nodup_nil, by simp, by simpa using ho, by simp⟩, ?_⟩
 rintro _ w4 ⟨gs, rfl, hle, x4, hb4, hgg, hnd, hlt4, ho4, hrows4⟩ _
 refine V_ln_98.2 ?_
 refine V_lss.2 (ifD_dec (fun hlt => ?_) fun hge => ?_)
 ·refine ldB hb4 fa_56_1 l1_3 rfl ?_
  refine mkBv hR underlying78 inf4 rfl (n := R) (by omega) (by omega) fun w5 hrow x5 hsz5 => ?_
  refine stB xa_98 inf78 (ho4.ext x5) (by simp; omega) (by omega) (by omega) rfl ?_
  refine V_add.2 ?_
  rw [wrap_id (by omega) (by omega), i64_succ]
  simp only [Int.toNat_natCast]
  have hset := (ho4.ext x5).set gs.length (sl R w4.heap.size)
  rw [set_rows R _ gs N (by omega)] at hset
  have hg0 := ho4.lt
  refine ⟨⟨gs ++ [w4.heap.size], by simp, by simp; omega, (x4.trans x5).setCell hlo _, Boxed.other (g := g0) (hb4.ext x5) (by omega), ?_, ?_, ?_, hset, ?_⟩, by simp only [intOf_i64]; omega⟩
  ·intro g hg
   rcases List.mem_append.1 hg with h | h
   ·exact hgg g h
   ·have : g = w4.heap.size := by simpa using h
    omega
  ·refine List.nodup_append.2 ⟨hnd, by simp, ?_⟩
   intro a ha c hc
   have : c = w4.heap.size := by simpa using hc
   have := hlt4 a ha
   omega
  ·intro g hg
   simp only [World.size_setCell]
   rcases List.mem_append.1 hg with h | h
   ·have := hlt4 g h; omega
   ·have : g = w4.heap.size := by simpa using h
    omega
  ·intro g hg
   rcases List.mem_append.1 hg with h | h
   ·exact ((hrows4 g h).ext x5).other (by have := hgg g h; omega)
   ·have he : g = w4.heap.size := by simpa using h
    subst he
    exact hrow.other (by omega)
 have hgl : gs.length = N := by omega
 rw [hgl, Nat.sub_self] at ho4
 simp only [List.replicate_zero, List.append_nil] at ho4
 have hst0 : St w w4 b [i64 p.params, i64 p.regs, .slice na N nc] g0 gs R (fun _ _ => false) :=
  ⟨x4, hb4, hlo, hbB, hgg, hnd, ho4, fun k g hk => by rw [rowL_false]; exact hrows4 g (List.mem_of_getElem? hk)⟩
 clear hrows4 ho4 hlt4 hle hge hb4 x4
 have hslO : ∀ {w' m}, St w w' b [i64 p.params, i64 p.regs, .slice na N nc] g0 gs R m → SliceIs w' (.slice (some ⟨g0, 0, none⟩) N N) 1 N (gs.map (sl R)) := fun h => h.out.slice (by simpa using hgl) (by unfold maxLen; omega)
 have hslR : ∀ {w' m k g}, St w w' b [i64 p.params, i64 p.regs, .slice na N nc] g0 gs R m → gs[k]? = some g → SliceIs w' (sl R g) 1 R ((rowL m k R).map Value.bool) := fun h hk => (h.rows _ _ hk).slice (by simp [rowL_len]) (by unfold maxLen; omega)
 have hglt : ∀ {w' m}, St w w' b [i64 p.params, i64 p.regs, .slice na N nc] g0 gs R m → ∀ g ∈ gs, g < w'.heap.size := fun h g hg => by
  obtain ⟨k, hk⟩ := List.getElem?_of_mem hg
  exact (h.rows k g hk).lt
 refine ⟨fun v w' => ∃ (f : Bool) (m : Mx), v = .bool f ∧ St w w' b [i64 p.params, i64 p.regs, .slice na N nc] g0 gs R m ∧ Snd p m ∧ (f = false → ∀ k < N, Done p R m k),
  fun v w' => 2 * cntM (readM gs w') R gs.length + (match v with | .bool true => 1 | _ => 0), ⟨true, _, rfl, hst0, (fun _ _ h => by cases h), (fun h => by cases h)⟩, ?_⟩
 rintro _ w5 ⟨f0, m0, rfl, hst, hsnd, hcl⟩ _
 refine ifD.mk (fun hf => ?_) fun hf => ?_
 rotate_left
 ·refine ⟨⟨m0, ⟨g0, gs, rfl, hgl, hst.out, hst.rows⟩, fun k r hk hr => ⟨hsnd k r, fun h => ?_⟩⟩, hst.x⟩
  exact alive_of_done hN.symm (fun i n hn => hR ▸ hN ▸ hv.nodes i n hn) (hcl hf) h hk hr
 subst hf
 refine ldB hst.box fa_56_2 l1_54 rfl (lnx xa_54 (hs.ext hst.x) (V_sub.2 ?_))
 rw [wrap_id (by omega) (by omega)]
 refine ⟨fun v1 v2 w' => ∃ (f : Bool) (kk : Int) (m : Mx), v1 = .bool f ∧ v2 = i64 kk ∧ -1 ≤ kk ∧ kk < N ∧ St w w' b [i64 p.params, i64 p.regs, .slice na N nc] g0 gs R m ∧ Swp p N R m0 m f ∧ (f = false → ∀ k : Nat, kk < k → k < N → Done p R m0 k),
  fun _ v2 _ => (RowKit.intOf v2 + 1).toNat, ⟨false, _, m0, rfl, rfl, by omega, by omega, hst, ⟨fun _ _ h => h, hsnd, fun _ => rfl, (fun h => by cases h)⟩, fun _ k h1 h2 => by omega⟩, ?_⟩
 rintro _ _ w6 ⟨f, kk, m, rfl, rfl, hk1, hk2, hst6, hsw6, hcl6⟩ _
 refine V_geq.2 (ifD_dec (fun hge => ?_) fun hlt => ?_)
 rotate_left
 ·-- the sweep is over
  have hkk : kk = -1 := by have : ¬ 0 ≤ kk := hlt; omega
  refine ⟨⟨f, m, rfl, hst6, hsw6.snd, fun hf k hk => ?_⟩, ?_⟩
  ·rw [hsw6.no hf]; exact hcl6 hf k (by omega) hk
  ·show 2 * cntM (readM gs w6) R gs.length + _ < 2 * cntM (readM gs w5) R gs.length + 1
   rw [hst6.cnt, hst.cnt]
   cases f with
   | false =>
    have := cntM_le hsw6.le R gs.length
    show 2 * _ + 0 < _
    omega
   | true =>
    obtain ⟨k, r, h1, h2, h3, h4⟩ := hsw6.yes rfl
    have := cntM_lt hsw6.le h2 h3 h4 gs.length (by omega)
    show 2 * _ + 1 < _
    omega
 have hge' : 0 ≤ kk := hge
 obtain ⟨k, rfl⟩ := Int.eq_ofNat_of_zero_le hge'
 have hk : k < N := by omega
 obtain ⟨g, hg⟩ := ex_get (l := gs) (j := k) (by omega)
 obtain ⟨hpk, hrk⟩ := hat hk
 obtain ⟨um, usv, hue, hui⟩ := hel k _ hpk
 refine ldB hst6.box fa_56_2 l1_54 rfl ?_
 refine ldxA xa_54 la_92 (hs.ext hst6.x) (by omega) (by omega) hue rfl ?_
 refine (nextP_ok (g := p.at' k) ⟨um, usv, rfl, hui.ext hst6.x⟩ (by omega) (by omega)).mono fun tl w7 ⟨htl, x7⟩ => ?_
 have hst7 := hst6.ext x7
 have hlen := nx_len (p.at' k) k
 refine ⟨fun v1 v2 w' => ∃ (f' : Bool) (j : Nat) (m' : Mx), v1 = .bool f' ∧ v2 = i64 j ∧ j ≤ ((p.at' k).nx k).length ∧ St w w' b [i64 p.params, i64 p.regs, .slice na N nc] g0 gs R m' ∧ Swp p N R m0 m' f' ∧ (f = true → f' = true) ∧
   (f' = false → ∀ (i : Nat) (to : Nat), i < j → ((p.at' k).nx k)[i]? = some (to : Int) → ∀ r < R, AheadP p (fun a b => m0 a b = true) to r → m0 k r = true) ∧ w'.ownsRow w6.heap.size 3 1 tl ((p.at' k).nx k).length (((p.at' k).nx k).map i64),
  fun _ v2 _ => ((p.at' k).nx k).length - (RowKit.intOf v2).toNat, ⟨f, 0, m, rfl, rfl, Nat.zero_le _, hst7, hsw6, id, fun _ i to hi => by omega, htl⟩, ?_⟩
 rintro _ _ w8 ⟨f', j, m', rfl, rfl, hj, hst8, hsw8, hff, hcl8, htl8⟩ _
 refine lnx xa_23 (SliceIs.of_own htl8) ?_
 refine V_lss.2 (ifD_dec (fun hjlt => ?_) fun hjge => ?_)
 rotate_left
 ·refine V_sub.2 ?_
  rw [wrap_id (by omega) (by omega)]
  refine ⟨⟨f', (k : Int) - 1, m', rfl, rfl, by omega, by omega, hst8, hsw8, fun hf k' hk' hkN => ?_⟩, by simp only [intOf_i64]; omega⟩
  by_cases he : k' = k
  ·subst he
   intro to hto r hr ha
   obtain ⟨i, hi⟩ := List.getElem?_of_mem hto
   have hi' := (List.getElem?_eq_some_iff.1 hi).1
   exact hcl8 hf i to (by omega) hi r hr ha
  ·have hf0 : f = false := by cases f with | false => rfl | true => rw [hff rfl] at hf; cases hf
   exact hcl6 hf0 k' (by omega) hkN
 obtain ⟨to, hto⟩ := ex_get (l := (p.at' k).nx k) (j := j) (by omega)
 have htor := hrk.t to (List.mem_of_getElem? hto)
 obtain ⟨to, rfl⟩ := Int.eq_ofNat_of_zero_le htor.1
 have htoN : to < N := by omega
 obtain ⟨hpt, hrt⟩ := hat htoN
 obtain ⟨tm, tsv, hte, hti⟩ := hel to _ hpt
 obtain ⟨gt, hgt⟩ := ex_get (l := gs) (j := to) (by omega)
 have htlS : SliceIs w8 tl 1 ((p.at' k).nx k).length (((p.at' k).nx k).map i64) := SliceIs.of_own htl8
 refine drawD.mk' (fun w' => Ext w8 w') (Ext.refl _).drew ?_
 refine yfB (fun w' hw => hst8.box.ext hw) fa_56_2 l1_54 rfl ?_
 refine ySl xa_23 l1_3 htlS (fun _ h => h) (by omega) (by omega) (getI hto) ?_
 refine yldxA xa_54 la_92 (hs.ext hst8.x) (fun _ h => h) (by omega) (by omega) hte rfl ?_
 refine ySl xa_23 l1_3 htlS (fun _ h => h) (by omega) (by omega) (getI hto) ?_
 refine ySl xa_98 l1_78 (hslO hst8) (fun _ h => h) (by omega) (by omega) (by simp [hgt] : (gs.map (sl R))[((to : Nat) : Int).toNat]? = some (sl R gt)) ?_
 have hrl := rowL_len m' to R
 have hdf : (p.at' to).df < R := by rcases hrt.d with h | h <;> omega
 have hus : ∀ r ∈ (p.at' to).us, 0 ≤ r ∧ r < ((rowL m' to R).length : Int) := fun r hr => by have := hrt.u r hr; rw [hrl]; omega
 have hrow8 : BoolsAre w8.drew (sl R gt) (rowL m' to R) := by
  have := (hslR hst8 hgt).ext (Ext.refl _).drew
  unfold BoolsAre
  rw [hrl]; exact this
 refine (in31_ok (n := p.at' to) ⟨tm, tsv, rfl, hti.ext (hst8.x.trans (Ext.refl _).drew)⟩ hrow8 (by have := hargs _ (List.mem_of_getElem? hpt); have := us_len (p.at' to); omega) (by omega) (by rw [hrl]; exact hdf) hus).mono fun av w9 ⟨hav, x9⟩ => ?_
 have x9' : Ext w8 w9 := Ext.trans (Ext.refl _).drew x9
 refine ⟨x9', ?_⟩
 rw [hrl] at hav
 have hst9 := hst8.ext x9'
 have hag : ∀ r, r < R → (aheadL (p.at' to) (rowL m' to R))[r]? = some (decide ((r : Int) ∈ (p.at' to).us) || (decide ((r : Int) ≠ (p.at' to).df) && m' to r)) := fun r hr => by
  rw [aheadL_get (by rw [hrl]; exact hr) (fun x hx => (hus x hx).1)]
  congr 3
  rw [List.getD_eq_getElem?_getD, rowL_get hr]; rfl
 have hagT : ∀ r, r < R → ((aheadL (p.at' to) (rowL m' to R))[r]? = some true ↔ AheadP p (fun a b => m' a b = true) to r) := fun r hr => by
  rw [hag r hr]
  simp [AheadP]
 refine sweepP hgl hl2 (by omega) (by rw [hR]; rfl) hk hg (A := aheadL (p.at' to) (rowL m' to R)) (by rw [aheadL_len, hrl]) (hglt hst8) (fun r hr => ?_) hst9 hsw8 hav ?_
 ·have hrR : r < R := by have := (List.getElem?_eq_some_iff.1 hr).1; rw [aheadL_len, hrl] at this; exact this
  rw [hagT r hrR] at hr
  rcases hr with h | ⟨h1, h2⟩
  ·exact .use (List.mem_of_getElem? hto) h
  ·exact .pass (List.mem_of_getElem? hto) h1 (hsw8.snd _ _ h2)
 ·intro f'' m'' w10 hst10 hsw10 hff10 hcl10 _ hkeep
  refine V_add.2 ?_
  rw [wrap_id (by omega) (by omega), i64_succ]
  refine ⟨⟨f'', j + 1, m'', rfl, rfl, by omega, hst10, hsw10, fun h => hff10 (hff h), fun hf i to' hi hto' r hr ha => ?_, hkeep _ _ _ _ _ _ (x9'.own htl8) (fun g hg => hglt hst6 g hg)⟩, by simp only [intOf_i64]; omega⟩
  by_cases hij : i = j
  ·subst hij
   rw [hto] at hto'
   have : (to : Int) = to' := by simpa using hto'
   have : to = to' := by omega
   subst this
   have hf' : f' = false := by cases f' with | false => rfl | true => rw [hff10 rfl] at hf; cases hf
   refine hcl10 hf r ?_
   rw [hagT r hr, hsw8.no hf']
   exact ha
  ·have hf' : f' = false := by cases f' with | false => rfl | true => rw [hff10 rfl] at hf; cases hf
   exact hcl8 hf' i to' (by omega) hto' r hr ha
end Go.Proofs.YtcdbikfnlggbnaaGreatDoor
namespace Go.Proofs.YtcdbikfnlggbnaaGreatDoor
open Tryz
open Go.Vc
theorem PProgIs.ext {w w' : World} {v : Value} {params regs : Int} {gs : List GNode} (h : PProgIs w v params regs gs) (hx : Ext w w') : PProgIs w' v params regs gs := by
 obtain ⟨ns, cs, h1, h2, h3⟩ := h
 refine ⟨ns, cs, h1, h2.ext hx, fun i g hg => ?_⟩
 obtain ⟨m, sv, h4, h5⟩ := h3 i g hg
 exact ⟨m, sv, h4, h5.ext hx⟩
set_option maxHeartbeats 1600000 in
theorem aheadP_ok {p : GProg} {R : Nat} {pv : Value} {w : World} (hp : PProgIs w pv p.params p.regs p.nodes) (hargs : ∀ n ∈ p.nodes, n.args.length ≤ 4294967296) (hv : OkProg p) (hR : p.regs = R) :
  callD prog 43 #[pv] w fun r w' => (∃ l : List Bool, l.length = R ∧ w'.ownsRow w.heap.size 4 1 r R (l.map Value.bool) ∧ ∀ r < R, (l[r]? = some true ↔ AheadP p (Alive p) 0 r)) ∧ Ext w w' := by
 have hp0 := hp
 obtain ⟨ns, cs0, rfl, hs, hel⟩ := hp
 have hl1 := hv.l1; have hl2 := hv.l2; have hr1 := hv.r1; have hr2 := hv.r2
 obtain ⟨hpt, hrt⟩ := hv.at (k := 0) (by omega)
 obtain ⟨um, usv, hue, hui⟩ := hel 0 _ hpt
 apply F43_wp
 unfold F43_den
 refine bx fun b w1 hb x1 => ?_
 refine drawD.mk' (fun w' => Ext w1 w') (Ext.refl _).drew ?_
 refine yfB (fun w' hw => hb.ext hw) fa_56_2 l1_54 rfl ?_
 refine yldxA xa_54 la_92 (hs.ext x1) (fun _ h => h) (by omega) (by omega) hue rfl ?_
 refine yA (fun w' hw => hb.ext hw) la_56 rfl ?_
 refine (behindP_ok (hp0.ext (x1.trans (Ext.refl _).drew)) hargs hv hR).mono fun mv w3 ⟨⟨m, hm, ham⟩, x3⟩ => ?_
 have x3' : Ext w1 w3 := Ext.trans (Ext.refl _).drew x3
 refine ⟨x3', fun w' => Ext w3 w', fun w' h => x3'.trans h, Ext.refl _, ?_⟩
 obtain ⟨cs, hcs, hrow⟩ := hm.row hl2 (by omega)
 obtain ⟨rv, hrv, hrb⟩ := hrow 0 (by omega)
 refine ySl xa_98 l1_78 hcs (fun _ h => h) (by omega) (by omega) (by simpa using hrv) ?_
 have hdf : (p.at' 0).df < R := by rcases hrt.d with h | h <;> omega
 have hus : ∀ r ∈ (p.at' 0).us, 0 ≤ r ∧ r < ((rowL m 0 R).length : Int) := fun r hr => by have := hrt.u r hr; rw [rowL_len]; omega
 refine (in31_ok (n := p.at' 0) ⟨um, usv, rfl, hui.ext (x1.trans x3')⟩ hrb (by have := hargs _ (List.mem_of_getElem? hpt); have := us_len (p.at' 0); omega) (by rw [rowL_len]; omega) (by rw [rowL_len]; exact hdf) hus).mono fun av w4 ⟨hav, x4⟩ => ?_
 refine ⟨x4, fun w' => Ext w3 w', fun _ h => h, x4, ⟨⟨_, ?_, (by rw [rowL_len] at hav; exact own_mono hav (x1.trans x3').size), fun r hr => ?_⟩, (x1.trans x3').trans x4⟩⟩
 ·rw [aheadL_len, rowL_len]
 ·rw [aheadL_get (by rw [rowL_len]; exact hr) (fun x hx => (hus x hx).1)]
  rw [List.getD_eq_getElem?_getD, rowL_get hr]
  simp only [Option.getD_some, Option.some.injEq, Bool.or_eq_true, Bool.and_eq_true, decide_eq_true_eq]
  unfold AheadP
  rw [ham 0 r (by omega) hr]
end Go.Proofs.YtcdbikfnlggbnaaGreatDoor
namespace Go.Proofs.YtcdbikfnlggbnaaGreatDoor
open Tryz
open Go.Vc
end Go.Proofs.YtcdbikfnlggbnaaGreatDoor
namespace Go.Proofs.YtcdbikfnlggbnaaGreatDoor
open Tryz
open Go.Vc
theorem yNot {P : Program} {S : World → Prop} {L : Value → Prop} {b : Bool} (hk : L (.bool (!b))) : yieldS P S (Op.unary UnOp.not (.bool b)) L := yieldS.ok (fun _ _ => rfl) hk
end Go.Proofs.YtcdbikfnlggbnaaGreatDoor
namespace Go.Proofs.YtcdbikfnlggbnaaGreatDoor
open Tryz
open Go.Vc Go.Tc
variable {w : World} {K : Value → World → Prop}
theorem RightN.al {n : GNode} {k r c : Int} (h : RightN n k r c) : n.args.length ≤ 5 := by
 have hf := h.f
 cases n with
 | serve op a b d l =>
  have hf : serves op = l.length := hf
  unfold serves at hf
  show l.length ≤ 5
  split at hf
  ·omega
  ·split at hf
   ·omega
   ·split at hf
    ·omega
    ·split at hf <;> omega
 | call m d l => have := hf.2; show l.length ≤ 5; omega
 | callX m d l => have := hf.2; show l.length ≤ 5; omega
 | _ => exact Nat.zero_le _
theorem lift_progIs {i : Img} {k : Nat} {st : Tc.St} {r : List Bool} {nv : Value} (ok : OkProg ⟨(i.meth k).params.length, 18, liftP i (i.meth k) st r⟩) (hN : NodesAre w nv (liftP i (i.meth k) st r)) : ProgIs w (.agg #[i64 (i.meth k).params.length, i64 18, nv]) ⟨(i.meth k).params.length, 18, liftP i (i.meth k) st r⟩ :=
 ⟨nv, rfl, hN, fun n hn => by
  obtain ⟨a, ha⟩ := List.getElem?_of_mem hn
  have := (ok.nodes a n ha).al
  omega⟩
end Go.Proofs.YtcdbikfnlggbnaaGreatDoor
namespace Go.Proofs.YtcdbikfnlggbnaaGreatDoor
open Tryz
open Go.Vc
def Apart (l : List Bool) (of : List Int) : Prop := ∀ (r s : Nat), s < r → l[r]? = some true → l[s]? = some true → of[r]? ≠ of[s]?
set_option maxHeartbeats 1000000 in
theorem apart_ok {l : List Bool} {of : List Int} {lv ofv : Value} {slots : Int} {w : World} (hl : BoolsAre w lv l) (ho : IntsAre w ofv of) (hlen : l.length ≤ of.length) (hb : l.length ≤ 1000) :
  callD prog 45 #[lv, .agg #[ofv, i64 slots]] w fun r w' => (∃ ok : Bool, r = .bool ok ∧ (ok = true ↔ Apart l of)) ∧ Ext w w' := by
 apply F45_wp
 unfold F45_den
 obtain ⟨la, lc, rfl⟩ := hl.shape
 refine bx fun b w1 hb1 x1 => ?_
 refine ⟨fun v w' => ∃ i : Nat, v = i64 i ∧ i ≤ l.length ∧ Ext w1 w' ∧ ∀ r s, r < i → s < r → l[r]? = some true → l[s]? = some true → of[r]? ≠ of[s]?, fun v _ => l.length - (RowKit.intOf v).toNat, ⟨0, rfl, Nat.zero_le _, Ext.refl _, fun r s h => by omega⟩, ?_⟩
 rintro _ w2 ⟨i, rfl, hi, x2, hdone⟩ _
 refine V_ln_78.2 (V_lss.2 (ifD_dec (fun hlt => ?_) fun hge => ?_))
 ·have hi' : i < l.length := by omega
  obtain ⟨a, ha⟩ := ex_get hi'
  obtain ⟨x, hx⟩ := ex_get (l := of) (j := i) (by omega)
  refine ⟨fun v w' => ∃ j : Nat, v = i64 j ∧ j ≤ i ∧ Ext w2 w' ∧ ∀ s, s < j → l[i]? = some true → l[s]? = some true → of[i]? ≠ of[s]?, fun v _ => i - (RowKit.intOf v).toNat, ⟨0, rfl, Nat.zero_le _, Ext.refl _, fun s h => by omega⟩, ?_⟩
  rintro _ w3 ⟨j, rfl, hj, x3, hin⟩ _
  refine V_lss.2 (ifD_dec (fun hjl => ?_) fun hjg => ?_)
  ·have hj' : j < i := by omega
   obtain ⟨c, hc⟩ := ex_get (l := l) (j := j) (by omega)
   obtain ⟨y, hy⟩ := ex_get (l := of) (j := j) (by omega)
   have x13 := x2.trans x3
   have hl3 := hl.ext (x1.trans x13)
   have ho3 := ho.ext (x1.trans x13)
   have D3 : Ext w3 w3.drew := (Ext.refl _).drew
   have go : (l[i]? = some true → l[j]? = some true → of[i]? ≠ of[j]?) → V prog (binOp .add 3 (i64 j) (Value.int IntKind.i64 1)) w3.drew fun t17 w8 => (∃ j : Nat, t17 = i64 j ∧ j ≤ i ∧ Ext w2 w8 ∧ ∀ s, s < j → l[i]? = some true → l[s]? = some true → of[i]? ≠ of[s]?) ∧ i - (RowKit.intOf t17).toNat < i - (RowKit.intOf (i64 (j : Int))).toNat := by
    intro h
    refine V_add.2 ?_
    rw [wrap_id (by omega) (by omega), i64_succ]
    refine ⟨⟨j + 1, rfl, by omega, x3.trans D3, fun s hs => ?_⟩, by simp only [intOf_i64]; omega⟩
    by_cases hsj : s = j
    ·subst hsj; exact h
    ·exact hin s (by omega)
   refine drawD.mk' (fun w' => Ext w3 w') D3 ?_
   refine ySl xa_78 l1_4 hl3 (fun _ h => h) (by omega) (by omega) (getB ha) ?_
   cases a with
   | false =>
    simp only [gdY_ft, pickD_iff, Bool.false_eq_true, reduceIte, ifD_false]
    exact go fun h => by rw [ha] at h; cases h
   | true =>
    simp only [gdY_t]
    refine ySl xa_78 l1_4 hl3 (fun _ h => h) (by omega) (by omega) (getB hc) ?_
    cases c with
    | false =>
     simp only [gdY_ft, pickD_iff, Bool.false_eq_true, reduceIte, ifD_false]
     exact go fun _ h => by rw [hc] at h; cases h
    | true =>
     simp only [gdY_t, pickD_iff, reduceIte]
     refine yfB (fun w' hw => (hb1.ext x13).ext hw) fa_68_0 l1_23 rfl ?_
     refine ySl xa_23 l1_3 ho3 (fun _ h => h) (by omega) (by omega) (getI hx) ?_
     refine yfB (fun w' hw => (hb1.ext x13).ext hw) fa_68_0 l1_23 rfl ?_
     refine ySl xa_23 l1_3 ho3 (fun _ h => h) (by omega) (by omega) (getI hy) ?_
     refine yieldS.ok (fun w' _ => r_eqlI) ?_
     refine ifD_dec (fun heq => ?_) fun hne => ?_
     ·refine ⟨⟨false, rfl, fun h => (by cases h), fun h => absurd (by rw [hx, hy, heq]) (h i j hj' ha hc)⟩, (x1.trans x13).trans D3⟩
     ·exact go fun _ _ h => hne (by rw [hx, hy] at h; exact Option.some.inj h)
  ·have hji : j = i := by omega
   subst hji
   refine V_add.2 ?_
   rw [wrap_id (by omega) (by omega), i64_succ]
   refine ⟨⟨j + 1, rfl, by omega, x2.trans x3, fun r s hr hs => ?_⟩, by simp only [intOf_i64]; omega⟩
   by_cases hrj : r = j
   ·subst hrj; exact hin s hs
   ·exact hdone r s (by omega) hs
 ·have hil : i = l.length := by omega
  refine ⟨⟨true, rfl, fun _ r s hs h1 h2 => ?_, fun _ => rfl⟩, x1.trans x2⟩
  exact hdone r s (by have := (List.getElem?_eq_some_iff.1 h1).1; omega) hs h1 h2
def withL (l : List Bool) (d : Int) : List Bool := if 0 ≤ d then l.set d.toNat true else l
theorem withL_len (l : List Bool) (d : Int) : (withL l d).length = l.length := by unfold withL; split <;> simp
theorem with_ok {l : List Bool} {lv : Value} {d : Int} {w : World} (hl : BoolsAre w lv l) (hb : l.length ≤ 1000) (hd : d < l.length) :
  callD prog 81 #[lv, i64 d] w fun r w' => w'.ownsRow w.heap.size 4 1 r l.length ((withL l d).map Value.bool) ∧ Ext w w' := by
 apply F81_wp
 unfold F81_den
 refine bsl xe_78 [] rfl rfl (by simp) rfl fun v0 w2 ho2 x2 => ?_
 refine apO xe_78 ho2 (hl.ext x2) (by simp [oneC]) (by omega) (by unfold maxLen; omega) x2.size fun ov w3 ho3 hg3 => ?_
 have x3 : Ext w w3 := x2.grown hg3 fun k hk => (ho2.lt k hk).1
 simp only [Nat.zero_add, List.nil_append] at ho3
 refine V_geq.2 (ifD_dec (fun hge => ?_) fun hlt => ?_)
 ·have hge' : 0 ≤ d := hge
  refine stO xa_78 inf4 ho3 hge' hd rfl fun w5 ho5 hg => ?_
  rw [map_set_b] at ho5
  refine ⟨?_, x3.grown hg fun k hk => (ho3.lt k hk).1⟩
  unfold withL
  rw [if_pos hge']
  exact ho5
 ·refine ⟨?_, x3⟩
  unfold withL
  rw [if_neg (by simpa using hlt)]
  exact ho3
end Go.Proofs.YtcdbikfnlggbnaaGreatDoor
