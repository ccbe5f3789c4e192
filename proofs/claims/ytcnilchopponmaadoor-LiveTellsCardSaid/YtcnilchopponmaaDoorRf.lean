/- The reference of package live, walked: Def, in, Behind, Ahead; told; LiveTells. -/
import Derived.Test.YtcnilchopponmaaDoorLf1
import Derived.Test.YtcnilchopponmaaDoorProg
import Derived.KernelRfl
namespace Go.Proofs.YtcnilchopponmaaDoor
open Go.Vc
/-- taciturn/taciturnref17.Ahead -/
def F21r_ann : Ann := (Ann.seq Ann.leaf (Ann.seq (Ann.draw [0, 1, 2, 4, 0, 16, 32, 64, 168, 511] [0, 1, 2, 4, 0, 16, 32, 64, 136, 256] 10 (.take 0 (.take 1 (.take 2 (.take 3 (.take 4 (.only 5 (.re (.take 6 (.take 7 (.only 8 (.re (.take 9 .done))))))))))))) Ann.leaf))
def F21r_den (t0 : Value) (w : World) (R : Value → World → Prop) : Prop :=
  V Tryd.prog (Instr.box 47 t0) w fun t1 w1 =>
  drawD w1 fun S1 w2 =>
  yieldS Tryd.prog S1 (Instr.fieldAt 47 t1 2) fun t3 =>
  yieldS Tryd.prog S1 (Instr.loadAt 45 t3) fun t4 =>
  yieldS Tryd.prog S1 (Instr.indexAt 45 t4 (Value.int IntKind.i64 0)) fun t5 =>
  yieldS Tryd.prog S1 (Instr.loadAt 83 t5) fun t6 =>
  yieldS Tryd.prog S1 (Instr.loadAt 47 t1) fun t7 =>
  callD Tryd.prog 19 #[t7] w2 fun t8 w3 =>
  S1 w3 ∧
  reS S1 w3 fun S1_4 =>
  yieldS Tryd.prog S1_4 (Instr.indexAt 27 t8 (Value.int IntKind.i64 0)) fun t9 =>
  yieldS Tryd.prog S1_4 (Instr.loadAt 30 t9) fun t10 =>
  callD Tryd.prog 31 #[t6, t10] w3 fun t11 w5 =>
  S1_4 w5 ∧
  reS S1_4 w5 fun S1_4_6 =>
  R t11 w5
theorem F21r_eq (t0 : Value) (w : World) (R : Value → World → Prop) : F21r_den t0 w R = vc Tryd.prog F21r_ann (Tryd.f21.body.getD .skip) (retE Tryd.prog Tryd.f21.results.toList R) (argEnv [t0]) w := by kernel_rfl
theorem F21r_wp {t0 : Value} {w : World} {R : Value → World → Prop} (h : F21r_den t0 w R) : callD Tryd.prog 21 #[t0] w R :=
  callD.of_calls (fn := Tryd.f21) (c := Tryd.f21.body.getD .skip) Tryd.func21 (by kernel_rfl) (by kernel_rfl) (calls_of_vc (args := [t0]) F21r_ann mixed Tryd.func21 (by kernel_rfl) (by kernel_rfl) (F21r_eq t0 w R ▸ h))

end Go.Proofs.YtcnilchopponmaaDoor

namespace Go.Proofs.YtcnilchopponmaaDoor
open Go.Vc
theorem wr_df {g : GNode} (h : g.wr < 0) : g.df = -1 := by cases g <;> simp_all [GNode.wr, GNode.df]
theorem def36_ok {g : GNode} {v : Value} {w : World} (h : PlainIs w v g) : callD Tryd.prog 36 #[v] w fun r w' => r = i64 g.df ∧ Ext w w' := by
  have h0 := h
  obtain ⟨m, sv, rfl, hs⟩ := h
  apply F36_wp
  unfold F36_den
  refine bx fun b w1 hb x1 => ?_
  refine ldA hb la_83 rfl ?_
  refine (writes_ok (h0.ext x1)).mono fun r w2 ⟨hr, x2⟩ => ?_
  subst hr
  refine V_lss.2 (ifD_dec (fun hlt => ?_) fun hge => ?_)
  · exact ⟨by rw [wr_df hlt], x1.trans x2⟩
  · refine ldB (hb.ext x2) (by first | exact fa_25_0 | exact fa_25_1 | exact fa_25_2 | exact fa_43_0 | exact fa_47_0 | exact fa_47_1 | exact fa_47_2 | exact fa_51_0 | exact fa_51_1 | exact fa_53_0 | exact fa_55_0 | exact fa_55_1 | exact fa_57_0 | exact fa_57_1 | exact fa_59_0 | exact fa_59_1 | exact fa_59_2 | exact fa_59_3 | exact fa_61_0 | exact fa_61_1 | exact fa_61_2 | exact fa_63_0 | exact fa_63_1 | exact fa_63_2 | exact fa_63_3 | exact fa_65_0 | exact fa_65_1 | exact fa_67_0 | exact fa_67_1 | exact fa_67_2 | exact fa_67_3 | exact fa_67_4 | exact fa_69_0 | exact fa_69_1 | exact fa_69_2 | exact fa_71_0 | exact fa_71_1 | exact fa_71_2 | exact fa_73_0 | exact fa_73_1 | exact fa_81_0 | exact fa_81_1 | exact fa_81_2 | exact fa_81_3 | exact fa_81_4 | exact fa_81_5 | exact fa_81_6 | exact fa_81_7 | exact fa_81_8 | exact fa_83_0 | exact fa_83_1 | exact fa_83_2 | exact fa_83_3 | exact fa_83_6 | exact fa_83_7) (by first | exact l1_21 | exact l1_23 | exact l1_3 | exact l1_30 | exact l1_31 | exact l1_34 | exact l1_4 | exact l1_45) rfl ?_
    exact ⟨rfl, x1.trans x2⟩
set_option maxHeartbeats 1000000 in
theorem in31_ok {n : GNode} {nv bv : Value} {bs : List Bool} {w : World} (hn : PlainIs w nv n) (hb : BoolsAre w bv bs) (hl : n.us.length ≤ 4294967299) (hbl : bs.length ≤ 4294967296)
    (hd : n.df < bs.length) (hu : ∀ r ∈ n.us, 0 ≤ r ∧ r < bs.length) :
    callD Tryd.prog 31 #[nv, bv] w fun r w' => w'.ownsRow w.heap.size 4 1 r bs.length ((aheadL n bs).map Value.bool) ∧ Ext w w' := by
  have hn0 := hn
  obtain ⟨m, sv, rfl, hs⟩ := hn
  apply F31_wp
  unfold F31_den
  refine bxK fun w1 h1 x1 => ?_
  refine bsl (by first | exact xe_23 | exact xe_27 | exact xe_30 | exact xe_31) [] rfl rfl (by simp) rfl fun v0 w2 ho2 x2 => ?_
  have x12 := x1.trans x2
  refine apO (by first | exact xe_23 | exact xe_27 | exact xe_30 | exact xe_31) ho2 (hb.ext x12) (by simp [oneC]) (by omega) (by unfold maxLen; omega) x2.size fun ov w3 ho3 hg3 => ?_
  have x3 : Ext w w3 := x12.grown hg3 fun k hk => Nat.le_trans x1.size (ho2.lt k hk).1
  have h3 := (h1.ext x2).grown hg3 (own_blk ho2 h1.lt)
  simp only [Nat.zero_add, List.nil_append] at ho3
  refine ⟨fun w' => w'.ownsRow w1.heap.size 4 1 ov bs.length ((killL n.df bs).map Value.bool) ∧ Ext w w' ∧ Blk w' w.heap.size (n.pcs m sv) 83, ?_, ?_⟩
  · refine ldA h3.boxed la_83 rfl ?_
    refine (def36_ok (hn0.ext x3)).mono fun r w4 ⟨hr, x4⟩ => ?_
    subst hr
    refine V_geq.2 (ifD_dec (fun hge => ?_) fun hlt => ?_)
    · have hge' : 0 ≤ n.df := hge
      refine stO (by first | exact xa_22 | exact xa_23 | exact xa_27 | exact xa_30 | exact xa_31 | exact xa_45) inf4 (x4.own ho3) hge' hd rfl fun w5 ho5 hg => ?_
      rw [map_set_b] at ho5
      refine ⟨?_, (x3.trans x4).grown hg fun k hk => Nat.le_trans x1.size (ho3.lt k hk).1, (h3.ext x4).grown hg (own_blk ho3 h1.lt)⟩
      unfold killL
      rw [if_pos hge']
      exact ho5
    · refine ⟨?_, x3.trans x4, h3.ext x4⟩
      unfold killL
      rw [if_neg (by simpa using hlt)]
      exact x4.own ho3
  rintro w4 ⟨ho4, x4, h4⟩ _
  obtain ⟨sa, sc, rfl⟩ := hs.shape
  refine ⟨fun v w' => ∃ j : Nat, v = i64 j ∧ j ≤ n.us.length ∧ Ext w w' ∧ Blk w' w.heap.size (n.pcs m (.slice sa n.us.length sc)) 83 ∧ w'.ownsRow w1.heap.size 4 1 ov bs.length (((n.us.take j).foldl (fun a r => a.set r.toNat true) (killL n.df bs)).map Value.bool),
    fun v _ => n.us.length - (RowKit.intOf v).toNat, ⟨0, rfl, by omega, x4, h4, by simpa using ho4⟩, ?_⟩
  rintro _ w5 ⟨j, rfl, hj, x5, h5, ho5⟩ _
  have hs5 := hs.ext x5
  refine ldB h5.boxed (by first | exact fa_25_0 | exact fa_25_1 | exact fa_25_2 | exact fa_43_0 | exact fa_47_0 | exact fa_47_1 | exact fa_47_2 | exact fa_51_0 | exact fa_51_1 | exact fa_53_0 | exact fa_55_0 | exact fa_55_1 | exact fa_57_0 | exact fa_57_1 | exact fa_59_0 | exact fa_59_1 | exact fa_59_2 | exact fa_59_3 | exact fa_61_0 | exact fa_61_1 | exact fa_61_2 | exact fa_63_0 | exact fa_63_1 | exact fa_63_2 | exact fa_63_3 | exact fa_65_0 | exact fa_65_1 | exact fa_67_0 | exact fa_67_1 | exact fa_67_2 | exact fa_67_3 | exact fa_67_4 | exact fa_69_0 | exact fa_69_1 | exact fa_69_2 | exact fa_71_0 | exact fa_71_1 | exact fa_71_2 | exact fa_73_0 | exact fa_73_1 | exact fa_81_0 | exact fa_81_1 | exact fa_81_2 | exact fa_81_3 | exact fa_81_4 | exact fa_81_5 | exact fa_81_6 | exact fa_81_7 | exact fa_81_8 | exact fa_83_0 | exact fa_83_1 | exact fa_83_2 | exact fa_83_3 | exact fa_83_6 | exact fa_83_7) (by first | exact l1_21 | exact l1_23 | exact l1_3 | exact l1_30 | exact l1_31 | exact l1_34 | exact l1_4 | exact l1_45) rfl (lnx (by first | exact xa_22 | exact xa_23 | exact xa_27 | exact xa_30 | exact xa_31 | exact xa_45) hs5 ?_)
  refine V_lss.2 (ifD_dec (fun hlt => ?_) fun hge => ?_)
  · have hlt' : j < n.us.length := by omega
    obtain ⟨u, hu'⟩ := ex_get hlt'
    obtain ⟨hu0, hu1⟩ := hu u (List.mem_of_getElem? hu')
    refine ldB h5.boxed (by first | exact fa_25_0 | exact fa_25_1 | exact fa_25_2 | exact fa_43_0 | exact fa_47_0 | exact fa_47_1 | exact fa_47_2 | exact fa_51_0 | exact fa_51_1 | exact fa_53_0 | exact fa_55_0 | exact fa_55_1 | exact fa_57_0 | exact fa_57_1 | exact fa_59_0 | exact fa_59_1 | exact fa_59_2 | exact fa_59_3 | exact fa_61_0 | exact fa_61_1 | exact fa_61_2 | exact fa_63_0 | exact fa_63_1 | exact fa_63_2 | exact fa_63_3 | exact fa_65_0 | exact fa_65_1 | exact fa_67_0 | exact fa_67_1 | exact fa_67_2 | exact fa_67_3 | exact fa_67_4 | exact fa_69_0 | exact fa_69_1 | exact fa_69_2 | exact fa_71_0 | exact fa_71_1 | exact fa_71_2 | exact fa_73_0 | exact fa_73_1 | exact fa_81_0 | exact fa_81_1 | exact fa_81_2 | exact fa_81_3 | exact fa_81_4 | exact fa_81_5 | exact fa_81_6 | exact fa_81_7 | exact fa_81_8 | exact fa_83_0 | exact fa_83_1 | exact fa_83_2 | exact fa_83_3 | exact fa_83_6 | exact fa_83_7) (by first | exact l1_21 | exact l1_23 | exact l1_3 | exact l1_30 | exact l1_31 | exact l1_34 | exact l1_4 | exact l1_45) rfl ?_
    refine ldx (by first | exact xa_22 | exact xa_23 | exact xa_27 | exact xa_30 | exact xa_31 | exact xa_45) (by first | exact l1_21 | exact l1_23 | exact l1_3 | exact l1_30 | exact l1_31 | exact l1_34 | exact l1_4 | exact l1_45) hs5 (by omega) (by omega) (getI hu') ?_
    refine stO (by first | exact xa_22 | exact xa_23 | exact xa_27 | exact xa_30 | exact xa_31 | exact xa_45) inf4 ho5 hu0 (by omega) rfl fun w6 ho6 hg => ?_
    refine V_add.2 ?_
    rw [wrap_id (by omega) (by omega), i64_succ]
    rw [map_set_b] at ho6
    refine ⟨⟨j + 1, rfl, by omega, x5.grown hg fun k hk => Nat.le_trans x1.size (ho5.lt k hk).1, h5.grown hg (own_blk ho5 h1.lt), ?_⟩, by simp only [intOf_i64]; omega⟩
    rw [List.take_add_one, hu']
    simpa using ho6
  · have hju : j = n.us.length := by omega
    subst hju
    rw [List.take_length] at ho5
    exact ⟨own_mono ho5 x1.size, x5⟩
end Go.Proofs.YtcnilchopponmaaDoor

namespace Go.Proofs.YtcnilchopponmaaDoor
open Go.Vc
set_option maxHeartbeats 1600000 in
theorem sweepP {p : GProg} {N R : Nat} {w0 : World} {b g0 : Nat} {cs : List Value} {gs : List Nat} {m0 : Mx} (hN : gs.length = N) (hN2 : N ≤ 250) (hR1 : R ≤ 40) (hc1 : cs[1]? = some (i64 R))
    {k g : Nat} (hkN : k < N) (hg : gs[k]? = some g) {av : Value} {A : List Bool} {B : Nat} (hA : A.length = R) (hgB : ∀ g ∈ gs, g < B)
    (hal : ∀ r, A[r]? = some true → Alive p k r) {Q : Value → World → Prop} {w : World} {f : Bool} {m : Mx} (hst : St w0 w b cs g0 gs R m) (hsw : Swp p N R m0 m f)
    (ha : w.ownsRow B 4 1 av R (A.map Value.bool))
    (hQ : ∀ (f' : Bool) (m' : Mx) w', St w0 w' b cs g0 gs R m' → Swp p N R m0 m' f' → (f = true → f' = true) → (f' = false → ∀ r, A[r]? = some true → m0 k r = true) → Ext w0 w' → (∀ B' e size n v xs, w.ownsRow B' e size n v xs → (∀ g ∈ gs, g < B') → w'.ownsRow B' e size n v xs) → Q (.bool f') w') :
    ∃ (I5 : NP 2) (μ5 : NF 2), I5 (.bool f) (Value.int IntKind.i64 0) w ∧
      ∀ (t5_3 : Value) (t10 : Value), ∀ w32 : World, I5 t5_3 t10 w32 → ∀ _f : Env,
      V Tryd.prog (Instr.fieldAt 47 (.pointer (some ⟨b, 0, none⟩)) 1) w32 fun t66 w33 =>
      V Tryd.prog (Instr.loadAt 3 t66) w33 fun t67 w34 =>
      V Tryd.prog (binOp .lss 3 t10 t67) w34 fun t68 w35 =>
      ifD t68 (
      V Tryd.prog (Instr.indexAt 30 av t10) w35 fun t73 w36 =>
      V Tryd.prog (Instr.loadAt 4 t73) w36 fun t74 w37 =>
      gd t74 true (fun K => K (.slice (some ⟨g0, 0, none⟩) N N) w37) w37 fun t76 w38 =>
      gd t74 true (fun K => K (i64 k) w38) w38 fun t77 w39 =>
      gd t74 true (fun K => V Tryd.prog (Instr.indexAt 27 t76 t77) w39 K) w39 fun t78 w40 =>
      gd t74 true (fun K => V Tryd.prog (Instr.loadAt 30 t78) w40 K) w40 fun t79 w41 =>
      gd t74 true (fun K => K t10 w41) w41 fun t80 w42 =>
      gd t74 true (fun K => V Tryd.prog (Instr.indexAt 30 t79 t80) w42 K) w42 fun t81 w43 =>
      gd t74 true (fun K => V Tryd.prog (Instr.loadAt 4 t81) w43 K) w43 fun t82 w44 =>
      gd t74 true (fun K => V Tryd.prog (Op.unary UnOp.not t82) w44 K) w44 fun t83 w45 =>
      pickD t74 t83 (Value.bool false) fun t84 =>
      ifD t84 (
      V Tryd.prog (Instr.indexAt 27 (.slice (some ⟨g0, 0, none⟩) N N) (i64 k)) w45 fun t87 w47 =>
      V Tryd.prog (Instr.loadAt 30 t87) w47 fun t88 w48 =>
      V Tryd.prog (Instr.indexAt 30 t88 t10) w48 fun t90 w49 =>
      U Tryd.prog (Instr.storeAt 4 t90 (Value.bool true)) w49 fun _ w50 =>
      V Tryd.prog (binOp .add 3 t10 (Value.int IntKind.i64 1)) w50 fun t70 w51 =>
      I5 (Value.bool true) t70 w51 ∧ μ5 (Value.bool true) t70 w51 < μ5 t5_3 t10 w32) (
      V Tryd.prog (binOp .add 3 t10 (Value.int IntKind.i64 1)) w45 fun t70_1 w52 =>
      I5 t5_3 t70_1 w52 ∧ μ5 t5_3 t70_1 w52 < μ5 t5_3 t10 w32)) (
      Q t5_3 w35) := by
  have hgm := List.mem_of_getElem? hg
  refine ⟨fun v1 v2 w' => ∃ (f' : Bool) (r : Nat) (m' : Mx), v1 = .bool f' ∧ v2 = i64 r ∧ r ≤ R ∧ St w0 w' b cs g0 gs R m' ∧ Swp p N R m0 m' f' ∧ (f = true → f' = true) ∧ (f' = false → ∀ j, j < r → A[j]? = some true → m0 k j = true) ∧
      w'.ownsRow B 4 1 av R (A.map Value.bool) ∧ (∀ B' e size n v xs, w.ownsRow B' e size n v xs → (∀ g ∈ gs, g < B') → w'.ownsRow B' e size n v xs), fun _ v2 _ => R - (RowKit.intOf v2).toNat,
    ⟨f, 0, m, rfl, rfl, Nat.zero_le _, hst, hsw, id, fun _ j hj => by omega, ha, fun _ _ _ _ _ _ h _ => h⟩, ?_⟩
  rintro _ _ w1 ⟨f', r, m', rfl, rfl, hr, hst', hsw', hff, hcl, ha', hkeep⟩ _
  refine ldB hst'.box (by first | exact fa_25_0 | exact fa_25_1 | exact fa_25_2 | exact fa_43_0 | exact fa_47_0 | exact fa_47_1 | exact fa_47_2 | exact fa_51_0 | exact fa_51_1 | exact fa_53_0 | exact fa_55_0 | exact fa_55_1 | exact fa_57_0 | exact fa_57_1 | exact fa_59_0 | exact fa_59_1 | exact fa_59_2 | exact fa_59_3 | exact fa_61_0 | exact fa_61_1 | exact fa_61_2 | exact fa_63_0 | exact fa_63_1 | exact fa_63_2 | exact fa_63_3 | exact fa_65_0 | exact fa_65_1 | exact fa_67_0 | exact fa_67_1 | exact fa_67_2 | exact fa_67_3 | exact fa_67_4 | exact fa_69_0 | exact fa_69_1 | exact fa_69_2 | exact fa_71_0 | exact fa_71_1 | exact fa_71_2 | exact fa_73_0 | exact fa_73_1 | exact fa_81_0 | exact fa_81_1 | exact fa_81_2 | exact fa_81_3 | exact fa_81_4 | exact fa_81_5 | exact fa_81_6 | exact fa_81_7 | exact fa_81_8 | exact fa_83_0 | exact fa_83_1 | exact fa_83_2 | exact fa_83_3 | exact fa_83_6 | exact fa_83_7) (by first | exact l1_21 | exact l1_23 | exact l1_3 | exact l1_30 | exact l1_31 | exact l1_34 | exact l1_4 | exact l1_45) hc1 ?_
  refine V_lss.2 (ifD_dec (fun hlt => ?_) fun hge => ?_)
  · have hr' : r < R := by omega
    obtain ⟨a, haa⟩ := ex_get (l := A) (j := r) (by omega)
    refine ldO' xa_30 l1_4 ha' (by omega) (by omega) (getB haa) ?_
    have hrow := hst'.rows k g hg
    have hslO : SliceIs w1 (.slice (some ⟨g0, 0, none⟩) N N) 1 N (gs.map (sl R)) := hst'.out.slice (by simpa using hN) (by unfold maxLen; omega)
    have hslR : SliceIs w1 (sl R g) 1 R ((rowL m' k R).map Value.bool) := hrow.slice (by simp [rowL_len]) (by unfold maxLen; omega)
    have hgk : (gs.map (sl R))[((k : Nat) : Int).toNat]? = some (sl R g) := by simp [hg]
    have hmk : ((rowL m' k R).map Value.bool)[((r : Nat) : Int).toNat]? = some (.bool (m' k r)) := by simp [rowL_get hr']
    have flag : ∀ {Z : Value → World → Prop}, Z (.bool (a && !m' k r)) w1 →
        (gd (.bool a) true (fun K => K (.slice (some ⟨g0, 0, none⟩) N N) w1) w1 fun t76 w38 =>
      gd (.bool a) true (fun K => K (i64 k) w38) w38 fun t77 w39 =>
      gd (.bool a) true (fun K => V Tryd.prog (Instr.indexAt 27 t76 t77) w39 K) w39 fun t78 w40 =>
      gd (.bool a) true (fun K => V Tryd.prog (Instr.loadAt 30 t78) w40 K) w40 fun t79 w41 =>
      gd (.bool a) true (fun K => K (i64 r) w41) w41 fun t80 w42 =>
      gd (.bool a) true (fun K => V Tryd.prog (Instr.indexAt 30 t79 t80) w42 K) w42 fun t81 w43 =>
      gd (.bool a) true (fun K => V Tryd.prog (Instr.loadAt 4 t81) w43 K) w43 fun t82 w44 =>
      gd (.bool a) true (fun K => V Tryd.prog (Op.unary UnOp.not t82) w44 K) w44 fun t83 w45 =>
      pickD (.bool a) t83 (Value.bool false) fun t84 => Z t84 w45) := by
      intro Z hZ
      cases a with
      | false => simp only [gd_ft, pickD_iff, Bool.false_eq_true, reduceIte]; simpa using hZ
      | true =>
        simp only [gd_t]
        refine ldx xa_27 l1_30 hslO (by omega) (by omega) hgk ?_
        refine ldx xa_30 l1_4 hslR (by omega) (by omega) hmk ?_
        simp only [V_not, pickD_iff, reduceIte]
        simpa using hZ
    refine flag ?_
    refine ifD.mk (fun ht => ?_) fun hf => ?_
    · have ha1 : a = true := by cases a with | true => rfl | false => cases ht
      have hm0 : m' k r = false := by cases hm : m' k r with | false => rfl | true => rw [hm, Bool.not_true, Bool.and_false] at ht; cases ht
      refine ldx xa_27 l1_30 hslO (by omega) (by omega) hgk ?_
      refine V.ok (r_ix_30 (by omega) (by omega)) ?_
      refine U.ok (r_store inf4 rfl (u := .bool (m' k r)) ?_ ?_) ?_
      · have := hrow.cell r
        rw [List.getElem?_map, rowL_get hr'] at this
        simpa using this
      · exact hrow.frozen _
      · refine V_add.2 ?_
        rw [wrap_id (by omega) (by omega), i64_succ]
        have hset := hst'.set hg r true
        have hk' : ∀ {B' e size n v xs}, w1.ownsRow B' e size v n xs → (∀ g ∈ gs, g < B') → (w1.setCell ⟨g, 0 + (r : Int).toNat * 1, none⟩ (.bool true)).ownsRow B' e size v n xs := by
          intro B' e size n v xs h hB
          refine h.kept (row := some g) ⟨rfl, rfl, rfl, by simp, fun i _ hi => heap_setCell_other _ _ _ _ (fun he => hi (by simp [he]))⟩ (own_ne h fun x hx => ?_)
          cases hx
          exact hB g hgm
        have hst2 := hsw'.step hkN hr' a (fun h => hal r (by rw [haa, h]))
        rw [ha1, hm0] at hst2
        simp only [Bool.not_false, Bool.and_self, Bool.or_true] at hst2
        refine ⟨⟨true, r + 1, updM m' k r true, rfl, rfl, by omega, by simpa using hset, hst2, fun _ => rfl, (fun h => by cases h), hk' ha' hgB, fun B' e size n v xs h hB => hk' (hkeep B' e size n v xs h hB) hB⟩, by simp only [intOf_i64]; omega⟩
    · refine V_add.2 ?_
      rw [wrap_id (by omega) (by omega), i64_succ]
      refine ⟨⟨f', r + 1, m', rfl, rfl, by omega, hst', hsw', hff, fun hf0 j hj hAj => ?_, ha', hkeep⟩, by simp only [intOf_i64]; omega⟩
      by_cases hjr : j = r
      · subst hjr
        rw [haa] at hAj
        cases hAj
        have : m' k j = true := by simpa using hf
        rw [← hsw'.no hf0]
        exact this
      · exact hcl hf0 j (by omega) hAj
  · refine hQ f' m' w1 hst' hsw' hff (fun hf r' hr' => hcl hf r' ?_ hr') hst'.x hkeep
    have := (List.getElem?_eq_some_iff.1 hr').1
    omega

set_option maxHeartbeats 1600000 in
theorem behindP_ok {p : GProg} {R : Nat} {pv : Value} {w : World} (hp : PProgIs w pv p.params p.regs p.nodes) (hargs : ∀ n ∈ p.nodes, n.args.length ≤ 4294967296) (hv : OkProg p) (hR : p.regs = R) :
    callD Tryd.prog 19 #[pv] w fun r w' => (∃ m, MatIs w' r p.nodes.length R m ∧ ∀ k r, k < p.nodes.length → r < R → (m k r = true ↔ Alive p k r)) ∧ Ext w w' := by
  obtain ⟨ns, cs, rfl, hs, hel⟩ := hp
  have hl1 := hv.l1; have hl2 := hv.l2; have hr1 := hv.r1; have hr2 := hv.r2
  have hat := fun {k : Nat} (hk : k < p.nodes.length) => hv.at hk
  generalize hN : p.nodes.length = N at *
  apply F19_wp
  unfold F19_den
  refine bx fun b w1 hb x1 => ?_
  have hb2 := hb
  have X2 := x1
  obtain ⟨na, nc, rfl⟩ := hs.shape
  refine ldB hb2 (by first | exact fa_25_0 | exact fa_25_1 | exact fa_25_2 | exact fa_43_0 | exact fa_47_0 | exact fa_47_1 | exact fa_47_2 | exact fa_51_0 | exact fa_51_1 | exact fa_53_0 | exact fa_55_0 | exact fa_55_1 | exact fa_57_0 | exact fa_57_1 | exact fa_59_0 | exact fa_59_1 | exact fa_59_2 | exact fa_59_3 | exact fa_61_0 | exact fa_61_1 | exact fa_61_2 | exact fa_63_0 | exact fa_63_1 | exact fa_63_2 | exact fa_63_3 | exact fa_65_0 | exact fa_65_1 | exact fa_67_0 | exact fa_67_1 | exact fa_67_2 | exact fa_67_3 | exact fa_67_4 | exact fa_69_0 | exact fa_69_1 | exact fa_69_2 | exact fa_71_0 | exact fa_71_1 | exact fa_71_2 | exact fa_73_0 | exact fa_73_1 | exact fa_81_0 | exact fa_81_1 | exact fa_81_2 | exact fa_81_3 | exact fa_81_4 | exact fa_81_5 | exact fa_81_6 | exact fa_81_7 | exact fa_81_8 | exact fa_83_0 | exact fa_83_1 | exact fa_83_2 | exact fa_83_3 | exact fa_83_6 | exact fa_83_7) (by first | exact l1_21 | exact l1_23 | exact l1_3 | exact l1_30 | exact l1_31 | exact l1_34 | exact l1_4 | exact l1_45) rfl (lnx (by first | exact xa_22 | exact xa_23 | exact xa_27 | exact xa_30 | exact xa_31 | exact xa_45) (hs.ext X2) ?_)
  refine mkB Tryd.underlying27 inf30 rfl (n := N) (by omega) (by omega) fun w3 ho x3 hsz3 => ?_
  have hbB : b < w1.heap.size := by
    have := hb2 0 (i64 p.params) rfl
    exact World.block_lt_of_cell? _ _ this
  have hlo : w.heap.size ≤ w1.heap.size := X2.size
  generalize w1.heap.size = g0 at *
  have X3 := X2.trans x3
  -- the rows are made
  refine ⟨fun v w' => ∃ gs : List Nat, v = i64 gs.length ∧ gs.length ≤ N ∧ Ext w w' ∧ Boxed w' b [i64 p.params, i64 p.regs, .slice na N nc] ∧ (∀ g ∈ gs, g0 < g) ∧ gs.Nodup ∧ (∀ g ∈ gs, g < w'.heap.size) ∧
      Blk w' g0 (gs.map (sl R) ++ List.replicate (N - gs.length) (.slice none 0 0)) 30 ∧ ∀ g ∈ gs, Blk w' g (List.replicate R (.bool false)) 4,
    fun v _ => N - (RowKit.intOf v).toNat, ⟨[], rfl, Nat.zero_le _, X3, hb2.ext x3, by simp, List.nodup_nil, by simp, by simpa using ho, by simp⟩, ?_⟩
  rintro _ w4 ⟨gs, rfl, hle, x4, hb4, hgg, hnd, hlt4, ho4, hrows4⟩ _
  refine V_ln_27.2 ?_
  refine V_lss.2 (ifD_dec (fun hlt => ?_) fun hge => ?_)
  · refine ldB hb4 (by first | exact fa_25_0 | exact fa_25_1 | exact fa_25_2 | exact fa_43_0 | exact fa_47_0 | exact fa_47_1 | exact fa_47_2 | exact fa_51_0 | exact fa_51_1 | exact fa_53_0 | exact fa_55_0 | exact fa_55_1 | exact fa_57_0 | exact fa_57_1 | exact fa_59_0 | exact fa_59_1 | exact fa_59_2 | exact fa_59_3 | exact fa_61_0 | exact fa_61_1 | exact fa_61_2 | exact fa_63_0 | exact fa_63_1 | exact fa_63_2 | exact fa_63_3 | exact fa_65_0 | exact fa_65_1 | exact fa_67_0 | exact fa_67_1 | exact fa_67_2 | exact fa_67_3 | exact fa_67_4 | exact fa_69_0 | exact fa_69_1 | exact fa_69_2 | exact fa_71_0 | exact fa_71_1 | exact fa_71_2 | exact fa_73_0 | exact fa_73_1 | exact fa_81_0 | exact fa_81_1 | exact fa_81_2 | exact fa_81_3 | exact fa_81_4 | exact fa_81_5 | exact fa_81_6 | exact fa_81_7 | exact fa_81_8 | exact fa_83_0 | exact fa_83_1 | exact fa_83_2 | exact fa_83_3 | exact fa_83_6 | exact fa_83_7) (by first | exact l1_21 | exact l1_23 | exact l1_3 | exact l1_30 | exact l1_31 | exact l1_34 | exact l1_4 | exact l1_45) rfl ?_
    refine mkBv hR Tryd.underlying30 inf4 rfl (n := R) (by omega) (by omega) fun w5 hrow x5 hsz5 => ?_
    refine stB xa_27 inf30 (ho4.ext x5) (by simp; omega) (by omega) (by omega) rfl ?_
    refine V_add.2 ?_
    rw [wrap_id (by omega) (by omega), i64_succ]
    simp only [Int.toNat_natCast]
    have hset := (ho4.ext x5).set gs.length (sl R w4.heap.size)
    rw [set_rows R _ gs N (by omega)] at hset
    have hg0 := ho4.lt
    refine ⟨⟨gs ++ [w4.heap.size], by simp, by simp; omega, (x4.trans x5).setCell hlo _, Boxed.other (g := g0) (hb4.ext x5) (by omega), ?_, ?_, ?_, hset, ?_⟩, by simp only [intOf_i64]; omega⟩
    · intro g hg
      rcases List.mem_append.1 hg with h | h
      · exact hgg g h
      · have : g = w4.heap.size := by simpa using h
        omega
    · refine List.nodup_append.2 ⟨hnd, by simp, ?_⟩
      intro a ha c hc
      have : c = w4.heap.size := by simpa using hc
      have := hlt4 a ha
      omega
    · intro g hg
      simp only [World.size_setCell]
      rcases List.mem_append.1 hg with h | h
      · have := hlt4 g h; omega
      · have : g = w4.heap.size := by simpa using h
        omega
    · intro g hg
      rcases List.mem_append.1 hg with h | h
      · exact ((hrows4 g h).ext x5).other (by have := hgg g h; omega)
      · have he : g = w4.heap.size := by simpa using h
        subst he
        exact hrow.other (by omega)
  have hgl : gs.length = N := by omega
  rw [hgl, Nat.sub_self] at ho4
  simp only [List.replicate_zero, List.append_nil] at ho4
  have hst0 : St w w4 b [i64 p.params, i64 p.regs, .slice na N nc] g0 gs R (fun _ _ => false) :=
    ⟨x4, hb4, hlo, hbB, hgg, hnd, ho4, fun k g hk => by rw [rowL_false]; exact hrows4 g (List.mem_of_getElem? hk)⟩
  clear hrows4 ho4 hlt4 hle hge hb4 x4
  have hslO : ∀ {w' m}, St w w' b [i64 p.params, i64 p.regs, .slice na N nc] g0 gs R m → SliceIs w' (.slice (some ⟨g0, 0, none⟩) N N) 1 N (gs.map (sl R)) := fun h => h.out.slice (by simpa using hgl) (by unfold maxLen; omega)
  have hslR : ∀ {w' m k g}, St w w' b [i64 p.params, i64 p.regs, .slice na N nc] g0 gs R m → gs[k]? = some g → SliceIs w' (sl R g) 1 R ((rowL m k R).map Value.bool) := fun h hk => (h.rows _ _ hk).slice (by simp [rowL_len]) (by unfold maxLen; omega)
  have hglt : ∀ {w' m}, St w w' b [i64 p.params, i64 p.regs, .slice na N nc] g0 gs R m → ∀ g ∈ gs, g < w'.heap.size := fun h g hg => by
    obtain ⟨k, hk⟩ := List.getElem?_of_mem hg
    exact (h.rows k g hk).lt
  -- round after round
  refine ⟨fun v w' => ∃ (f : Bool) (m : Mx), v = .bool f ∧ St w w' b [i64 p.params, i64 p.regs, .slice na N nc] g0 gs R m ∧ Snd p m ∧ (f = false → ∀ k < N, Done p R m k),
    fun v w' => 2 * cntM (readM gs w') R gs.length + (match v with | .bool true => 1 | _ => 0), ⟨true, _, rfl, hst0, (fun _ _ h => by cases h), (fun h => by cases h)⟩, ?_⟩
  rintro _ w5 ⟨f0, m0, rfl, hst, hsnd, hcl⟩ _
  refine ifD.mk (fun hf => ?_) fun hf => ?_
  rotate_left
  · refine ⟨⟨m0, ⟨g0, gs, rfl, hgl, hst.out, hst.rows⟩, fun k r hk hr => ⟨hsnd k r, fun h => ?_⟩⟩, hst.x⟩
    exact alive_of_done hN.symm (fun i n hn => hR ▸ hN ▸ hv.nodes i n hn) (hcl hf) h hk hr
  subst hf
  refine ldB hst.box (by first | exact fa_25_0 | exact fa_25_1 | exact fa_25_2 | exact fa_43_0 | exact fa_47_0 | exact fa_47_1 | exact fa_47_2 | exact fa_51_0 | exact fa_51_1 | exact fa_53_0 | exact fa_55_0 | exact fa_55_1 | exact fa_57_0 | exact fa_57_1 | exact fa_59_0 | exact fa_59_1 | exact fa_59_2 | exact fa_59_3 | exact fa_61_0 | exact fa_61_1 | exact fa_61_2 | exact fa_63_0 | exact fa_63_1 | exact fa_63_2 | exact fa_63_3 | exact fa_65_0 | exact fa_65_1 | exact fa_67_0 | exact fa_67_1 | exact fa_67_2 | exact fa_67_3 | exact fa_67_4 | exact fa_69_0 | exact fa_69_1 | exact fa_69_2 | exact fa_71_0 | exact fa_71_1 | exact fa_71_2 | exact fa_73_0 | exact fa_73_1 | exact fa_81_0 | exact fa_81_1 | exact fa_81_2 | exact fa_81_3 | exact fa_81_4 | exact fa_81_5 | exact fa_81_6 | exact fa_81_7 | exact fa_81_8 | exact fa_83_0 | exact fa_83_1 | exact fa_83_2 | exact fa_83_3 | exact fa_83_6 | exact fa_83_7) (by first | exact l1_21 | exact l1_23 | exact l1_3 | exact l1_30 | exact l1_31 | exact l1_34 | exact l1_4 | exact l1_45) rfl (lnx (by first | exact xa_22 | exact xa_23 | exact xa_27 | exact xa_30 | exact xa_31 | exact xa_45) (hs.ext hst.x) (V_sub.2 ?_))
  rw [wrap_id (by omega) (by omega)]
  refine ⟨fun v1 v2 w' => ∃ (f : Bool) (kk : Int) (m : Mx), v1 = .bool f ∧ v2 = i64 kk ∧ -1 ≤ kk ∧ kk < N ∧ St w w' b [i64 p.params, i64 p.regs, .slice na N nc] g0 gs R m ∧ Swp p N R m0 m f ∧ (f = false → ∀ k : Nat, kk < k → k < N → Done p R m0 k),
    fun _ v2 _ => (RowKit.intOf v2 + 1).toNat, ⟨false, _, m0, rfl, rfl, by omega, by omega, hst, ⟨fun _ _ h => h, hsnd, fun _ => rfl, (fun h => by cases h)⟩, fun _ k h1 h2 => by omega⟩, ?_⟩
  rintro _ _ w6 ⟨f, kk, m, rfl, rfl, hk1, hk2, hst6, hsw6, hcl6⟩ _
  refine V_geq.2 (ifD_dec (fun hge => ?_) fun hlt => ?_)
  rotate_left
  · -- the sweep is over
    have hkk : kk = -1 := by have : ¬ 0 ≤ kk := hlt; omega
    refine ⟨⟨f, m, rfl, hst6, hsw6.snd, fun hf k hk => ?_⟩, ?_⟩
    · rw [hsw6.no hf]; exact hcl6 hf k (by omega) hk
    · show 2 * cntM (readM gs w6) R gs.length + _ < 2 * cntM (readM gs w5) R gs.length + 1
      rw [hst6.cnt, hst.cnt]
      cases f with
      | false =>
        have := cntM_le hsw6.le R gs.length
        show 2 * _ + 0 < _
        omega
      | true =>
        obtain ⟨k, r, h1, h2, h3, h4⟩ := hsw6.yes rfl
        have := cntM_lt hsw6.le h2 h3 h4 gs.length (by omega)
        show 2 * _ + 1 < _
        omega
  have hge' : 0 ≤ kk := hge
  obtain ⟨k, rfl⟩ := Int.eq_ofNat_of_zero_le hge'
  have hk : k < N := by omega
  obtain ⟨g, hg⟩ := ex_get (l := gs) (j := k) (by omega)
  obtain ⟨hpk, hrk⟩ := hat hk
  obtain ⟨um, usv, hue, hui⟩ := hel k _ hpk
  refine ldB hst6.box (by first | exact fa_25_0 | exact fa_25_1 | exact fa_25_2 | exact fa_43_0 | exact fa_47_0 | exact fa_47_1 | exact fa_47_2 | exact fa_51_0 | exact fa_51_1 | exact fa_53_0 | exact fa_55_0 | exact fa_55_1 | exact fa_57_0 | exact fa_57_1 | exact fa_59_0 | exact fa_59_1 | exact fa_59_2 | exact fa_59_3 | exact fa_61_0 | exact fa_61_1 | exact fa_61_2 | exact fa_63_0 | exact fa_63_1 | exact fa_63_2 | exact fa_63_3 | exact fa_65_0 | exact fa_65_1 | exact fa_67_0 | exact fa_67_1 | exact fa_67_2 | exact fa_67_3 | exact fa_67_4 | exact fa_69_0 | exact fa_69_1 | exact fa_69_2 | exact fa_71_0 | exact fa_71_1 | exact fa_71_2 | exact fa_73_0 | exact fa_73_1 | exact fa_81_0 | exact fa_81_1 | exact fa_81_2 | exact fa_81_3 | exact fa_81_4 | exact fa_81_5 | exact fa_81_6 | exact fa_81_7 | exact fa_81_8 | exact fa_83_0 | exact fa_83_1 | exact fa_83_2 | exact fa_83_3 | exact fa_83_6 | exact fa_83_7) (by first | exact l1_21 | exact l1_23 | exact l1_3 | exact l1_30 | exact l1_31 | exact l1_34 | exact l1_4 | exact l1_45) rfl ?_
  refine ldxA xa_45 la_83 (hs.ext hst6.x) (by omega) (by omega) hue rfl ?_
  refine (nextP_ok (g := p.at' k) ⟨um, usv, rfl, hui.ext hst6.x⟩ (by omega) (by omega)).mono fun tl w7 ⟨htl, x7⟩ => ?_
  have hst7 := hst6.ext x7
  have hlen := nx_len (p.at' k) k
  refine ⟨fun v1 v2 w' => ∃ (f' : Bool) (j : Nat) (m' : Mx), v1 = .bool f' ∧ v2 = i64 j ∧ j ≤ ((p.at' k).nx k).length ∧ St w w' b [i64 p.params, i64 p.regs, .slice na N nc] g0 gs R m' ∧ Swp p N R m0 m' f' ∧ (f = true → f' = true) ∧
      (f' = false → ∀ (i : Nat) (to : Nat), i < j → ((p.at' k).nx k)[i]? = some (to : Int) → ∀ r < R, AheadP p (fun a b => m0 a b = true) to r → m0 k r = true) ∧ w'.ownsRow w6.heap.size 3 1 tl ((p.at' k).nx k).length (((p.at' k).nx k).map i64),
    fun _ v2 _ => ((p.at' k).nx k).length - (RowKit.intOf v2).toNat, ⟨f, 0, m, rfl, rfl, Nat.zero_le _, hst7, hsw6, id, fun _ i to hi => by omega, htl⟩, ?_⟩
  rintro _ _ w8 ⟨f', j, m', rfl, rfl, hj, hst8, hsw8, hff, hcl8, htl8⟩ _
  refine lnx (by first | exact xa_22 | exact xa_23 | exact xa_27 | exact xa_30 | exact xa_31 | exact xa_45) (SliceIs.of_own htl8) ?_
  refine V_lss.2 (ifD_dec (fun hjlt => ?_) fun hjge => ?_)
  rotate_left
  · refine V_sub.2 ?_
    rw [wrap_id (by omega) (by omega)]
    refine ⟨⟨f', (k : Int) - 1, m', rfl, rfl, by omega, by omega, hst8, hsw8, fun hf k' hk' hkN => ?_⟩, by simp only [intOf_i64]; omega⟩
    by_cases he : k' = k
    · subst he
      intro to hto r hr ha
      obtain ⟨i, hi⟩ := List.getElem?_of_mem hto
      have hi' := (List.getElem?_eq_some_iff.1 hi).1
      exact hcl8 hf i to (by omega) hi r hr ha
    · have hf0 : f = false := by cases f with | false => rfl | true => rw [hff rfl] at hf; cases hf
      exact hcl6 hf0 k' (by omega) hkN
  obtain ⟨to, hto⟩ := ex_get (l := (p.at' k).nx k) (j := j) (by omega)
  have htor := hrk.t to (List.mem_of_getElem? hto)
  obtain ⟨to, rfl⟩ := Int.eq_ofNat_of_zero_le htor.1
  have htoN : to < N := by omega
  obtain ⟨hpt, hrt⟩ := hat htoN
  obtain ⟨tm, tsv, hte, hti⟩ := hel to _ hpt
  obtain ⟨gt, hgt⟩ := ex_get (l := gs) (j := to) (by omega)
  have htlS : SliceIs w8 tl 1 ((p.at' k).nx k).length (((p.at' k).nx k).map i64) := SliceIs.of_own htl8
  refine drawD.mk' (fun w' => Ext w8 w') (Ext.refl _).drew ?_
  refine yfB (fun w' hw => hst8.box.ext hw) (by first | exact fa_25_0 | exact fa_25_1 | exact fa_25_2 | exact fa_43_0 | exact fa_47_0 | exact fa_47_1 | exact fa_47_2 | exact fa_51_0 | exact fa_51_1 | exact fa_53_0 | exact fa_55_0 | exact fa_55_1 | exact fa_57_0 | exact fa_57_1 | exact fa_59_0 | exact fa_59_1 | exact fa_59_2 | exact fa_59_3 | exact fa_61_0 | exact fa_61_1 | exact fa_61_2 | exact fa_63_0 | exact fa_63_1 | exact fa_63_2 | exact fa_63_3 | exact fa_65_0 | exact fa_65_1 | exact fa_67_0 | exact fa_67_1 | exact fa_67_2 | exact fa_67_3 | exact fa_67_4 | exact fa_69_0 | exact fa_69_1 | exact fa_69_2 | exact fa_71_0 | exact fa_71_1 | exact fa_71_2 | exact fa_73_0 | exact fa_73_1 | exact fa_81_0 | exact fa_81_1 | exact fa_81_2 | exact fa_81_3 | exact fa_81_4 | exact fa_81_5 | exact fa_81_6 | exact fa_81_7 | exact fa_81_8 | exact fa_83_0 | exact fa_83_1 | exact fa_83_2 | exact fa_83_3 | exact fa_83_6 | exact fa_83_7) (by first | exact l1_21 | exact l1_23 | exact l1_3 | exact l1_30 | exact l1_31 | exact l1_34 | exact l1_4 | exact l1_45) rfl ?_
  refine ySl xa_31 l1_3 htlS (fun _ h => h) (by omega) (by omega) (getI hto) ?_
  refine yldxA xa_45 la_83 (hs.ext hst8.x) (fun _ h => h) (by omega) (by omega) hte rfl ?_
  refine ySl xa_31 l1_3 htlS (fun _ h => h) (by omega) (by omega) (getI hto) ?_
  refine ySl xa_27 l1_30 (hslO hst8) (fun _ h => h) (by omega) (by omega) (by simp [hgt] : (gs.map (sl R))[((to : Nat) : Int).toNat]? = some (sl R gt)) ?_
  have hrl := rowL_len m' to R
  have hdf : (p.at' to).df < R := by rcases hrt.d with h | h <;> omega
  have hus : ∀ r ∈ (p.at' to).us, 0 ≤ r ∧ r < ((rowL m' to R).length : Int) := fun r hr => by have := hrt.u r hr; rw [hrl]; omega
  have hrow8 : BoolsAre w8.drew (sl R gt) (rowL m' to R) := by
    have := (hslR hst8 hgt).ext (Ext.refl _).drew
    unfold BoolsAre
    rw [hrl]; exact this
  refine (in31_ok (n := p.at' to) ⟨tm, tsv, rfl, hti.ext (hst8.x.trans (Ext.refl _).drew)⟩ hrow8 (by have := hargs _ (List.mem_of_getElem? hpt); have := us_len (p.at' to); omega) (by omega) (by rw [hrl]; exact hdf) hus).mono fun av w9 ⟨hav, x9⟩ => ?_
  have x9' : Ext w8 w9 := Ext.trans (Ext.refl _).drew x9
  refine ⟨x9', ?_⟩
  rw [hrl] at hav
  have hst9 := hst8.ext x9'
  have hag : ∀ r, r < R → (aheadL (p.at' to) (rowL m' to R))[r]? = some (decide ((r : Int) ∈ (p.at' to).us) || (decide ((r : Int) ≠ (p.at' to).df) && m' to r)) := fun r hr => by
    rw [aheadL_get (by rw [hrl]; exact hr) (fun x hx => (hus x hx).1)]
    congr 3
    rw [List.getD_eq_getElem?_getD, rowL_get hr]; rfl
  have hagT : ∀ r, r < R → ((aheadL (p.at' to) (rowL m' to R))[r]? = some true ↔ AheadP p (fun a b => m' a b = true) to r) := fun r hr => by
    rw [hag r hr]
    simp [AheadP]
  refine sweepP hgl hl2 (by omega) (by rw [hR]; rfl) hk hg (A := aheadL (p.at' to) (rowL m' to R)) (by rw [aheadL_len, hrl]) (hglt hst8) (fun r hr => ?_) hst9 hsw8 hav ?_
  · have hrR : r < R := by have := (List.getElem?_eq_some_iff.1 hr).1; rw [aheadL_len, hrl] at this; exact this
    rw [hagT r hrR] at hr
    rcases hr with h | ⟨h1, h2⟩
    · exact .use (List.mem_of_getElem? hto) h
    · exact .pass (List.mem_of_getElem? hto) h1 (hsw8.snd _ _ h2)
  · intro f'' m'' w10 hst10 hsw10 hff10 hcl10 _ hkeep
    refine V_add.2 ?_
    rw [wrap_id (by omega) (by omega), i64_succ]
    refine ⟨⟨f'', j + 1, m'', rfl, rfl, by omega, hst10, hsw10, fun h => hff10 (hff h), fun hf i to' hi hto' r hr ha => ?_, hkeep _ _ _ _ _ _ (x9'.own htl8) (fun g hg => hglt hst6 g hg)⟩, by simp only [intOf_i64]; omega⟩
    by_cases hij : i = j
    · subst hij
      rw [hto] at hto'
      have : (to : Int) = to' := by simpa using hto'
      have : to = to' := by omega
      subst this
      have hf' : f' = false := by cases f' with | false => rfl | true => rw [hff10 rfl] at hf; cases hf
      refine hcl10 hf r ?_
      rw [hagT r hr, hsw8.no hf']
      exact ha
    · have hf' : f' = false := by cases f' with | false => rfl | true => rw [hff10 rfl] at hf; cases hf
      exact hcl8 hf' i to' (by omega) hto' r hr ha
end Go.Proofs.YtcnilchopponmaaDoor

namespace Go.Proofs.YtcnilchopponmaaDoor
open Go.Vc
theorem PProgIs.ext {w w' : World} {v : Value} {params regs : Int} {gs : List GNode} (h : PProgIs w v params regs gs) (hx : Ext w w') : PProgIs w' v params regs gs := by
  obtain ⟨ns, cs, h1, h2, h3⟩ := h
  refine ⟨ns, cs, h1, h2.ext hx, fun i g hg => ?_⟩
  obtain ⟨m, sv, h4, h5⟩ := h3 i g hg
  exact ⟨m, sv, h4, h5.ext hx⟩
/-- A row is what it tells. -/
theorem bools_eq {l l' : List Bool} {R : Nat} (h1 : l.length = R) (h2 : l'.length = R) (h : ∀ r, r < R → (l[r]? = some true ↔ l'[r]? = some true)) : l = l' := by
  apply List.ext_getElem?
  intro r
  by_cases hr : r < R
  · obtain ⟨a, ha⟩ := ex_get (l := l) (j := r) (by omega)
    obtain ⟨b, hb⟩ := ex_get (l := l') (j := r) (by omega)
    have := h r hr
    rw [ha, hb] at this
    rw [ha, hb]
    cases a <;> cases b <;> simp_all
  · rw [List.getElem?_eq_none (by omega), List.getElem?_eq_none (by omega)]
set_option maxHeartbeats 1600000 in
theorem aheadP_ok {p : GProg} {R : Nat} {pv : Value} {w : World} (hp : PProgIs w pv p.params p.regs p.nodes) (hargs : ∀ n ∈ p.nodes, n.args.length ≤ 4294967296) (hv : OkProg p) (hR : p.regs = R) :
    callD Tryd.prog 21 #[pv] w fun r w' => (∃ l : List Bool, l.length = R ∧ BoolsAre w' r l ∧ ∀ r < R, (l[r]? = some true ↔ AheadP p (Alive p) 0 r)) ∧ Ext w w' := by
  have hp0 := hp
  obtain ⟨ns, cs0, rfl, hs, hel⟩ := hp
  have hl1 := hv.l1; have hl2 := hv.l2; have hr1 := hv.r1; have hr2 := hv.r2
  obtain ⟨hpt, hrt⟩ := hv.at (k := 0) (by omega)
  obtain ⟨um, usv, hue, hui⟩ := hel 0 _ hpt
  apply F21r_wp
  unfold F21r_den
  refine bx fun b w1 hb x1 => ?_
  refine drawD.mk' (fun w' => Ext w1 w') (Ext.refl _).drew ?_
  refine yfB (fun w' hw => hb.ext hw) (by first | exact fa_25_0 | exact fa_25_1 | exact fa_25_2 | exact fa_43_0 | exact fa_47_0 | exact fa_47_1 | exact fa_47_2 | exact fa_51_0 | exact fa_51_1 | exact fa_53_0 | exact fa_55_0 | exact fa_55_1 | exact fa_57_0 | exact fa_57_1 | exact fa_59_0 | exact fa_59_1 | exact fa_59_2 | exact fa_59_3 | exact fa_61_0 | exact fa_61_1 | exact fa_61_2 | exact fa_63_0 | exact fa_63_1 | exact fa_63_2 | exact fa_63_3 | exact fa_65_0 | exact fa_65_1 | exact fa_67_0 | exact fa_67_1 | exact fa_67_2 | exact fa_67_3 | exact fa_67_4 | exact fa_69_0 | exact fa_69_1 | exact fa_69_2 | exact fa_71_0 | exact fa_71_1 | exact fa_71_2 | exact fa_73_0 | exact fa_73_1 | exact fa_81_0 | exact fa_81_1 | exact fa_81_2 | exact fa_81_3 | exact fa_81_4 | exact fa_81_5 | exact fa_81_6 | exact fa_81_7 | exact fa_81_8 | exact fa_83_0 | exact fa_83_1 | exact fa_83_2 | exact fa_83_3 | exact fa_83_6 | exact fa_83_7) (by first | exact l1_21 | exact l1_23 | exact l1_3 | exact l1_30 | exact l1_31 | exact l1_34 | exact l1_4 | exact l1_45) rfl ?_
  refine yldxA xa_45 la_83 (hs.ext x1) (fun _ h => h) (by omega) (by omega) hue rfl ?_
  refine yA (fun w' hw => hb.ext hw) la_47 rfl ?_
  refine (behindP_ok (hp0.ext (x1.trans (Ext.refl _).drew)) hargs hv hR).mono fun mv w3 ⟨⟨m, hm, ham⟩, x3⟩ => ?_
  have x3' : Ext w1 w3 := Ext.trans (Ext.refl _).drew x3
  refine ⟨x3', fun w' => Ext w3 w', fun w' h => x3'.trans h, Ext.refl _, ?_⟩
  obtain ⟨cs, hcs, hrow⟩ := hm.row hl2 (by omega)
  obtain ⟨rv, hrv, hrb⟩ := hrow 0 (by omega)
  refine ySl xa_27 l1_30 hcs (fun _ h => h) (by omega) (by omega) (by simpa using hrv) ?_
  have hdf : (p.at' 0).df < R := by rcases hrt.d with h | h <;> omega
  have hus : ∀ r ∈ (p.at' 0).us, 0 ≤ r ∧ r < ((rowL m 0 R).length : Int) := fun r hr => by have := hrt.u r hr; rw [rowL_len]; omega
  refine (in31_ok (n := p.at' 0) ⟨um, usv, rfl, hui.ext (x1.trans x3')⟩ hrb (by have := hargs _ (List.mem_of_getElem? hpt); have := us_len (p.at' 0); omega) (by rw [rowL_len]; omega) (by rw [rowL_len]; exact hdf) hus).mono fun av w4 ⟨hav, x4⟩ => ?_
  refine ⟨x4, fun w' => Ext w3 w', fun _ h => h, x4, ⟨⟨_, ?_, (by have := SliceIs.of_own hav; unfold BoolsAre; rw [aheadL_len]; exact this), fun r hr => ?_⟩, (x1.trans x3').trans x4⟩⟩
  · rw [aheadL_len, rowL_len]
  · rw [aheadL_get (by rw [rowL_len]; exact hr) (fun x hx => (hus x hx).1)]
    rw [List.getD_eq_getElem?_getD, rowL_get hr]
    simp only [Option.getD_some, Option.some.injEq, Bool.or_eq_true, Bool.and_eq_true, decide_eq_true_eq]
    unfold AheadP
    rw [ham 0 r (by omega) hr]
theorem yNot {P : Program} {S : World → Prop} {L : Value → Prop} {b : Bool} (hk : L (.bool (!b))) : yieldS P S (Op.unary UnOp.not (.bool b)) L := yieldS.ok (fun _ _ => rfl) hk
set_option maxHeartbeats 1600000 in
theorem told_ok {p : GProg} {R : Nat} {pv : Value} {w : World} (hp : ProgIs w pv p) (hv : OkProg p) (hR : p.regs = R) :
    callD Tryd.prog 12 #[pv] w fun r w' => r = .bool true ∧ Ext w w' := by
  have hp0 := hp
  obtain ⟨ns0, rfl, hns0, hargs⟩ := hp
  have hl1 := hv.l1; have hl2 := hv.l2; have hr1 := hv.r1; have hr2 := hv.r2
  apply F12_wp
  unfold F12_den
  refine bx fun b1 w1 hb1 x1 => ?_
  refine ldA hb1 la_25 rfl ?_
  refine (plainProg_ok (hp0.ext x1) (by omega)).mono fun q w2 ⟨hq, x2⟩ => ?_
  have hq0 := hq
  obtain ⟨qs, qcs, rfl, hqs, hqel⟩ := hq
  obtain ⟨qa, qc, rfl⟩ := hqs.shape
  refine asB (by first | exact sa_25 | exact sa_41 | exact sa_43 | exact sa_47 | exact sa_51 | exact sa_53 | exact sa_55 | exact sa_57 | exact sa_59 | exact sa_61 | exact sa_63 | exact sa_65 | exact sa_67 | exact sa_69 | exact sa_71 | exact sa_73 | exact sa_83 | exact sa_95) rfl rfl fun b2 w3 hb2 x3 => ?_
  have x13 := x2.trans x3
  refine ldA (hb1.ext x13) la_25 rfl ?_
  refine (behind_ok (hp0.ext (x1.trans x13)) hv hR).mono fun av w4 ⟨⟨ma, hma, haa⟩, x4⟩ => ?_
  refine ldA (hb2.ext x4) la_47 rfl ?_
  refine (behindP_ok (hq0.ext (x3.trans x4)) hargs hv hR).mono fun bv w5 ⟨⟨mb, hmb, hbb⟩, x5⟩ => ?_
  obtain ⟨csa, hcsa, hrowa⟩ := (hma.ext x5).row hl2 (by omega)
  obtain ⟨csb, hcsb, hrowb⟩ := hmb.row hl2 (by omega)
  have X5 : Ext w w5 := ((x1.trans x13).trans x4).trans x5
  refine lnx (by first | exact xa_22 | exact xa_23 | exact xa_27 | exact xa_30 | exact xa_31 | exact xa_45) hcsa (lnx (by first | exact xa_22 | exact xa_23 | exact xa_27 | exact xa_30 | exact xa_31 | exact xa_45) hcsb (V_neqI.2 (ifD_dec (fun h => absurd rfl h) fun _ => ?_)))
  refine ⟨fun v w' => ∃ i : Nat, v = i64 i ∧ i ≤ p.nodes.length ∧ Ext w5 w', fun v _ => p.nodes.length - (RowKit.intOf v).toNat, ⟨0, rfl, Nat.zero_le _, Ext.refl _⟩, ?_⟩
  rintro _ w6 ⟨i, rfl, hi, x6⟩ _
  have D6 : Ext w6 w6.drew := (Ext.refl _).drew
  refine lnx (by first | exact xa_22 | exact xa_23 | exact xa_27 | exact xa_30 | exact xa_31 | exact xa_45) (hcsa.ext x6) (V_lss.2 (ifD_dec (fun hlt => ?_) fun hge => ?_))
  · have hi' : i < p.nodes.length := by omega
    obtain ⟨ua, hua, hra⟩ := hrowa i hi'
    obtain ⟨ub, hub, hrb⟩ := hrowb i hi'
    refine drawD.mk' (fun w' => Ext w6 w') D6 ?_
    refine ySl xa_27 l1_30 (hcsa.ext x6) (fun _ h => h) (by omega) (by omega) (by simpa using hua) ?_
    refine ySl xa_27 l1_30 (hcsb.ext x6) (fun _ h => h) (by omega) (by omega) (by simpa using hub) ?_
    have he : rowL mb i R = rowL ma i R := bools_eq (rowL_len _ _ _) (rowL_len _ _ _) fun r hr => by
      rw [rowL_get hr, rowL_get hr]
      simp only [Option.some.injEq]
      rw [haa i r hi' hr, hbb i r hi' hr]
    rw [he] at hrb
    refine (same_ok (hra.ext (x6.trans D6)) (hrb.ext (x6.trans D6)) (by rw [rowL_len]; omega)).mono fun r w7 ⟨hr, x7⟩ => ?_
    subst hr
    refine ⟨D6.trans x7, yNot (ifD_false.2 ?_)⟩
    refine V_add.2 ?_
    rw [wrap_id (by omega) (by omega), i64_succ]
    exact ⟨⟨i + 1, rfl, by omega, (x6.trans D6).trans x7⟩, by simp only [intOf_i64]; omega⟩
  · refine drawD.mk' (fun w' => Ext w6 w') D6 ?_
    have hb1' := hb1.ext (((x13.trans x4).trans x5).trans x6)
    have hb2' := hb2.ext ((x4.trans x5).trans x6)
    refine yA (fun w' hw => hb1'.ext hw) la_25 rfl ?_
    refine yA (fun w' hw => hb2'.ext hw) la_47 rfl ?_
    refine (Ahead_ok (hp0.ext ((X5.trans x6).trans D6)) hv hR).mono fun r1 w7 ⟨⟨la, hla, hba, hia⟩, x7⟩ => ?_
    refine ⟨D6.trans x7, ?_⟩
    refine (aheadP_ok (hq0.ext ((((x3.trans x4).trans x5).trans x6).trans (D6.trans x7))) hargs hv hR).mono fun r2 w8 ⟨⟨lb, hlb, hbb', hib⟩, x8⟩ => ?_
    refine ⟨(D6.trans x7).trans x8, ?_⟩
    have he : lb = la := bools_eq hlb hla fun r hr => (hib r hr).trans (hia r hr).symm
    subst he
    refine (same_ok (hba.ext x8) hbb' (by omega)).mono fun r w9 ⟨hr, x9⟩ => ?_
    exact ⟨((D6.trans x7).trans x8).trans x9, hr, (X5.trans x6).trans (((D6.trans x7).trans x8).trans x9)⟩
end Go.Proofs.YtcnilchopponmaaDoor

namespace Go.Proofs.YtcnilchopponmaaDoor
open Go.Vc
set_option maxHeartbeats 1600000 in
theorem tells_ok {lv : Value} {n : Nat} {regs params : Int} {w : World} (hl : RawsAre w lv n) (hb : BinsOk w) (known : ∀ w, callD Tryd.prog 7 #[] w fun v w' => v = .bool true ∧ Ext w w') :
    callD Tryd.prog 4 #[lv, i64 regs, i64 params] w fun r w' => r = .bool true ∧ Ext w w' := by
  apply F4_wp
  unfold F4_den
  refine (known w).mono fun r w1 ⟨hr, x1⟩ => ?_
  subst hr
  simp only [gd_t]
  refine (tame_ok (hl.ext x1) (hb.ext x1)).mono fun r w2 ⟨⟨p, ns, vs, hr, hop, hok, hr1, hr2, hn41, hargs⟩, x2⟩ => ?_
  subst hr
  obtain ⟨R, hR⟩ : ∃ R : Nat, p.regs = R := ⟨p.regs.toNat, by omega⟩
  have hprog : ProgIs w2 (.agg #[i64 p.params, i64 p.regs, ns]) p := ⟨_, rfl, ⟨vs, SliceIs.of_own hop.1, fun i m hi => by
    obtain ⟨u, h1, h2⟩ := hop.2 i m hi
    exact ⟨u, h1, h2.is⟩⟩, fun m hm => by have := hargs m hm; omega⟩
  refine (told_ok hprog hok hR).mono fun r w3 ⟨hr, x3⟩ => ?_
  subst hr
  exact pickT ⟨by first | rfl | trivial, (x1.trans x2).trans x3⟩
end Go.Proofs.YtcnilchopponmaaDoor

