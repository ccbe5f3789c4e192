/- Slices of structs; the reference's check of a program. -/
import Derived.Test.YtendijaeihljeaaDoorPl3
namespace Go.Vc
section
variable {P : Program} {w : World} {K : Value → World → Prop} {S : World → Prop} {L : Value → Prop}
theorem SliceIs.cellAt {v : Value} {sz n : Nat} {cs : List Value} (h : SliceIs w v sz n cs) (hn : 0 < n) : ∃ b off cap, v = .slice (some ⟨b, off, none⟩) n cap ∧ ∀ j u, cs[j]? = some u → w.cell? ⟨b, off + j, none⟩ = some u := h.there hn
/-- l[i], of structs. -/
theorem ldxA {t x : TypeId} {v : Value} {n sz : Nat} {cs l : List Value} {k : IntKind} {i : Int} (h : XA P t sz) (ht : ∃ d z by_, P.underlying x = some d ∧ aggB d = true ∧ Inf P x z sz by_) (hs : SliceIs w v sz n cs) (h0 : 0 ≤ i) (h1 : i < n)
    (hc : (cs.drop (i.toNat * sz)).take sz = l) (hl : l.length = sz) (hk : K (.agg l.toArray) w) :
    V P (Instr.indexAt t v (.int k i)) w fun p w1 => V P (Instr.loadAt x p) w1 K := by
  obtain ⟨e, z, b', hte, hi⟩ := h
  obtain ⟨d, z', by_, h2, h3, h4⟩ := ht
  obtain ⟨b, off, cap, rfl, hcell⟩ := hs.there (by omega)
  refine V.ok (r_index hte hi h0 h1) (V.ok (r_loadAgg h2 h3 h4 hl fun j hj => ?_) hk)
  obtain ⟨u, hu⟩ : ∃ u, l[j]? = some u := ⟨_, List.getElem?_eq_getElem hj⟩
  rw [hu, Nat.add_assoc]
  refine hcell _ u ?_
  rw [← hc, List.getElem?_take, List.getElem?_drop] at hu
  split at hu
  · exact hu
  · cases hu
theorem yLss {t : TypeId} {a b : Int} (hk : L (.bool (decide (a < b)))) : yieldS P S (binOp .lss t (.int .i64 a) (.int .i64 b)) L := yieldS.ok (fun w _ => r_lss) hk
theorem yGeq {t : TypeId} {a b : Int} (hk : L (.bool (decide (a ≥ b)))) : yieldS P S (binOp .geq t (.int .i64 a) (.int .i64 b)) L := yieldS.ok (fun w _ => r_geq) hk
end
end Go.Vc
namespace Go.Proofs.YtendijaeihljeaaDoor
open Go.Vc
/-- A program of plain nodes, as a value. -/
def PProgIs (w : World) (v : Value) (params regs : Int) (gs : List GNode) : Prop := ∃ ns cs, v = .agg #[i64 params, i64 regs, ns] ∧ SliceIs w ns 8 gs.length cs ∧ ∀ (i : Nat) g, gs[i]? = some g → ∃ m sv, (cs.drop (i * 8)).take 8 = g.pcs m sv ∧ IntsAre w sv g.us
theorem rightN_of {g : GNode} {k R N : Int} (hf : g.okF) (hu : ∀ r ∈ g.us, 0 ≤ r ∧ r < R) (ht : ∀ r ∈ g.nx k, 0 ≤ r ∧ r < N) (hd : g.wr ≥ 0 → ¬ g.df ≥ R ∧ ¬ g.df < g.wr - 1) : RightN g k R N := by
  refine ⟨hf, hu, ht, ?_⟩
  cases g <;> simp only [GNode.wr, GNode.df, GNode.bareN] at hd ⊢ <;> (try have := hd (by omega)) <;> first | omega | (simp; done) | (simp; omega)
/-- What comes next is looked at. -/
theorem checkTail {g : GNode} {i : Nat} {m R params : Int} {N b b4 : Nat} {sv ns : Value} {cs : List Value} {w : World} {Rr : Value → World → Prop} {I : Value → World → Prop} (hi : i ≤ 1000) (hN : N ≤ 1000) (hg : IntsAre w sv g.us)
    (hb4 : Boxed w b4 (g.pcs m sv)) (hb : Boxed w b [i64 params, i64 R, ns]) (hs : SliceIs w ns 8 N cs) (hfalse : ∀ w', Ext w w' → Rr (.bool false) w')
    (hgo : (∀ r ∈ g.nx i, 0 ≤ r ∧ r < N) → ∀ w', Ext w w' → I (i64 ((i + 1 : Nat) : Int)) w') :
    V Tryd.prog (Instr.loadAt 76 (Value.pointer (some ⟨b4, 0, none⟩))) w fun t102 w70 =>
      callD Tryd.prog 36 #[t102, (i64 i)] w70 fun t104 w71 =>
      ∃ (I3 : NP 1) (μ3 : NF 1), I3 (Value.int IntKind.i64 0) w71 ∧
      ∀ (t8 : Value), ∀ w72 : World, I3 t8 w72 → ∀ _f : Env,
      V Tryd.prog (Builtin.len_ #[35] 3 #[t104]) w72 fun t107 w73 =>
      V Tryd.prog (binOp .lss 3 t8 t107) w73 fun t108 w74 =>
      ifD t108 (
      drawD w74 fun S21 w75 =>
      yieldS Tryd.prog S21 (Instr.indexAt 35 t104 t8) fun t113 =>
      yieldS Tryd.prog S21 (Instr.loadAt 3 t113) fun t114 =>
      yieldS Tryd.prog S21 (binOp .lss 3 t114 (Value.int IntKind.i64 0)) fun t115 =>
      gdY t115 false (fun K => K t104) fun t117 =>
      gdY t115 false (fun K => K t8) fun t118 =>
      gdY t115 false (fun K => yieldS Tryd.prog S21 (Instr.indexAt 35 t117 t118) K) fun t119 =>
      gdY t115 false (fun K => yieldS Tryd.prog S21 (Instr.loadAt 3 t119) K) fun t120 =>
      gdY t115 false (fun K => yieldS Tryd.prog S21 (Instr.fieldAt 44 (Value.pointer (some ⟨b, 0, none⟩)) 2) K) fun t121 =>
      gdY t115 false (fun K => yieldS Tryd.prog S21 (Instr.loadAt 42 t121) K) fun t122 =>
      gdY t115 false (fun K => yieldS Tryd.prog S21 (Builtin.len_ #[42] 3 #[t122]) K) fun t123 =>
      gdY t115 false (fun K => yieldS Tryd.prog S21 (binOp .geq 3 t120 t123) K) fun t124 =>
      pickD t115 (Value.bool true) t124 fun t125 =>
      ifD t125 (
      Rr (Value.bool false) w75) (
      V Tryd.prog (binOp .add 3 t8 (Value.int IntKind.i64 1)) w75 fun t110 w76 =>
      I3 t110 w76 ∧ μ3 t110 w76 < μ3 t8 w72)) (
      V Tryd.prog (binOp .add 3 (i64 i) (Value.int IntKind.i64 1)) w74 fun t52 w77 =>
      I t52 w77) := by
  obtain ⟨na, nc, rfl⟩ := hs.shape
  refine ldA hb4 la_76 rfl ?_
  refine (nextP_ok (g := g) (k := i) ⟨m, sv, rfl, hg⟩ (by omega) (by omega)).mono fun t w1 ⟨ht, x1⟩ => ?_
  have hts := SliceIs.of_own ht
  obtain ⟨ta, tc, rfl⟩ := hts.shape
  refine ⟨fun v w' => ∃ j : Nat, v = i64 j ∧ j ≤ (g.nx i).length ∧ Ext w1 w' ∧ ∀ (q : Nat) r, q < j → (g.nx i)[q]? = some r → 0 ≤ r ∧ r < N, fun v _ => (g.nx i).length - (RowKit.intOf v).toNat, ⟨0, rfl, Nat.zero_le _, Ext.refl _, fun q r hq => by omega⟩, ?_⟩
  rintro _ w2 ⟨j, rfl, hj, x2, hread⟩ _
  have hlen := nx_len g i
  refine V_ln_35.2 (V_lss.2 (ifD_dec (fun hjl => ?_) fun hjg => ?_))
  · have hj' : j < (g.nx i).length := by omega
    obtain ⟨r, hr⟩ := ex_get hj'
    have X := x1.trans x2
    refine drawD.mk' (fun w' => Ext w2 w') (Ext.refl _).drew ?_
    refine ySl xa_35 l1_3 (hts.ext x2) (fun _ h => h) (by omega) (by omega) (getI hr) ?_
    refine yLss ?_
    by_cases hr0 : r < 0
    · simp only [hr0, gdY_tf, pickD_iff, ifD_true, reduceIte, decide_true]; exact hfalse _ (X.trans (Ext.refl _).drew)
    simp only [hr0, gdY_f, pickD_iff, reduceIte, Bool.false_eq_true, decide_false]
    refine ySl xa_35 l1_3 (hts.ext x2) (fun _ h => h) (by omega) (by omega) (getI hr) ?_
    refine yfB (fun w' hw => (hb.ext X).ext hw) (by first | exact fa_108_0 | exact fa_108_1 | exact fa_110_0 | exact fa_110_1 | exact fa_112_0 | exact fa_112_1 | exact fa_112_2 | exact fa_112_3 | exact fa_112_4 | exact fa_114_0 | exact fa_114_1 | exact fa_114_2 | exact fa_116_0 | exact fa_116_1 | exact fa_116_2 | exact fa_26_0 | exact fa_26_1 | exact fa_26_2 | exact fa_37_0 | exact fa_37_1 | exact fa_44_0 | exact fa_44_1 | exact fa_44_2 | exact fa_54_0 | exact fa_61_0 | exact fa_61_1 | exact fa_68_0 | exact fa_68_1 | exact fa_68_2 | exact fa_68_3 | exact fa_70_0 | exact fa_70_1 | exact fa_70_2 | exact fa_76_0 | exact fa_76_1 | exact fa_76_2 | exact fa_76_3 | exact fa_76_6 | exact fa_76_7 | exact fa_82_0 | exact fa_82_1 | exact fa_82_2 | exact fa_82_3 | exact fa_82_4 | exact fa_82_5 | exact fa_82_6 | exact fa_82_7 | exact fa_82_8 | exact fa_91_0 | exact fa_91_1 | exact fa_93_0 | exact fa_93_1 | exact fa_93_2 | exact fa_95_0 | exact fa_95_1 | exact fa_95_2 | exact fa_95_3 | exact fa_97_0 | exact fa_99_0 | exact fa_99_1) (by first | exact l1_21 | exact l1_24 | exact l1_28 | exact l1_3 | exact l1_35 | exact l1_4 | exact l1_42 | exact l1_52 | exact l1_58) rfl ?_
    refine yieldS.ok (fun w' _ => r_len Tryd.underlying42) ?_
    refine yGeq ?_
    by_cases hrN : r ≥ (N : Int)
    · simp only [hrN, ifD_true, decide_true]; exact hfalse _ (X.trans (Ext.refl _).drew)
    simp only [hrN, ifD_false, decide_false]
    refine V_add.2 ?_
    rw [wrap_id (by omega) (by omega), i64_succ]
    refine ⟨⟨j + 1, rfl, by omega, x2.trans (Ext.refl _).drew, fun q r' hq hqr => ?_⟩, by simp only [intOf_i64]; omega⟩
    by_cases hqj : q = j
    · subst hqj
      rw [hr] at hqr
      cases hqr
      omega
    · exact hread q r' (by omega) hqr
  · refine V_add.2 ?_
    rw [wrap_id (by omega) (by omega), i64_succ]
    refine hgo (fun r hr => ?_) _ (x1.trans x2)
    obtain ⟨q, hq⟩ := List.getElem?_of_mem hr
    have := (List.getElem?_eq_some_iff.1 hq).1
    exact hread q r (by omega) hq
end Go.Proofs.YtendijaeihljeaaDoor
