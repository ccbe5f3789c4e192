/- Package live: the contract of Behind: the matrix of what is alive. -/
import Derived.Test.YtendijaeihljeaaDoorLive3
namespace Go.Vc
section
variable {P : Program} {w : World} {K : Value → World → Prop} {S : World → Prop} {L : Value → Prop}
/-- The steps under S. -/
theorem yfB {s f o ft b : Nat} {cs : List Value} {u : Value} (hb : ∀ w', S w' → Boxed w' b cs) (h : FA P s f o) (hl : L1 P ft) (hc : cs[o]? = some u) (hk : L u) :
    yieldS P S (Instr.fieldAt s (.pointer (some ⟨b, 0, none⟩)) f) fun q => yieldS P S (Instr.loadAt ft q) L := by
  obtain ⟨d, hd, ha⟩ := hl
  exact yieldS.ok (fun w' _ => h.ex w' b 0) (yieldS.ok (fun w' hw => r_load hd ha (hb w' hw o u hc)) hk)
theorem ySl {t x : TypeId} {v : Value} {n : Nat} {cs : List Value} {k : IntKind} {i : Int} {u : Value} (h : XA P t 1) (hl : L1 P x) (hs0 : SliceIs w v 1 n cs) (hx : ∀ w', S w' → Ext w w') (h0 : 0 ≤ i) (h1 : i < n) (hu : cs[i.toNat]? = some u) (hk : L u) :
    yieldS P S (Instr.indexAt t v (.int k i)) fun p => yieldS P S (Instr.loadAt x p) L := by
  obtain ⟨e, z, b', ht, hi⟩ := h
  obtain ⟨d, hd, ha⟩ := hl
  obtain ⟨b, off, cap, rfl, hc⟩ := hs0.there (by omega)
  refine yieldS.ok (fun w' _ => r_index ht hi h0 h1) (yieldS.ok (fun w' hw => r_load hd ha ((hx w' hw).cell ?_)) hk)
  simpa using hc _ _ hu
theorem yLen {t ty n : Nat} {m : Nat} {v : Value} {size : Nat} {cs : List Value} (h : XA P t n) (hs : SliceIs w v size m cs) (hk : L (i64 m)) : yieldS P S (Builtin.len_ #[t] ty #[v]) L := by
  obtain ⟨e, z, b, ht, hi⟩ := h
  obtain ⟨a, c, rfl⟩ := hs.shape
  exact yieldS.ok (fun w' _ => r_len ht) hk
end
end Go.Vc
namespace Go.Proofs.YtendijaeihljeaaDoor
open Go.Vc

theorem rowL_false (k R : Nat) : (rowL (fun _ _ => false) k R).map Value.bool = List.replicate R (.bool false) := by
  apply List.ext_getElem?
  intro j
  by_cases hj : j < R
  · simp [rowL_get hj, hj]
  · simp [rowL, hj]
theorem OkProg.at {p : GProg} (hv : OkProg p) {k : Nat} (hk : k < p.nodes.length) : p.nodes[k]? = some (p.at' k) ∧ RightN (p.at' k) k p.regs p.nodes.length := by
  obtain ⟨n, hn⟩ := ex_get hk
  have : p.at' k = n := by unfold GProg.at'; rw [List.getD_eq_getElem?_getD, hn]; rfl
  rw [this]
  exact ⟨hn, hv.nodes k n hn⟩

set_option maxHeartbeats 1600000 in
/-- One sweep's innermost loop. -/
theorem sweep5 {p : GProg} {N R : Nat} {w0 : World} {b g0 : Nat} {cs : List Value} {gs : List Nat} {m0 : Mx} (hN : gs.length = N) (hN2 : N ≤ 250) (hR1 : R ≤ 40)
    {k g : Nat} (hkN : k < N) (hg : gs[k]? = some g) {av : Value} {A : List Bool} {B : Nat} (hA : A.length = R) (hgB : ∀ g ∈ gs, g < B)
    (hal : ∀ r, A[r]? = some true → Alive p k r) {Q : Value → World → Prop} {w : World} {f : Bool} {m : Mx} (hst : St w0 w b cs g0 gs R m) (hsw : Swp p N R m0 m f)
    (ha : w.ownsRow B 4 1 av R (A.map Value.bool))
    (hQ : ∀ (f' : Bool) (m' : Mx) w', St w0 w' b cs g0 gs R m' → Swp p N R m0 m' f' → (f = true → f' = true) → (f' = false → ∀ r, A[r]? = some true → m0 k r = true) → Ext w0 w' → (∀ B' e size n v xs, w.ownsRow B' e size n v xs → (∀ g ∈ gs, g < B') → w'.ownsRow B' e size n v xs) → Q (.bool f') w') :
    ∃ (I5 : NP 2) (μ5 : NF 2), I5 (.bool f) (Value.int IntKind.i64 0) w ∧
      ∀ (t5_3 : Value) (t62 : Value), ∀ w37 : World, I5 t5_3 t62 w37 → ∀ _f : Env,
      V Tryd.prog (binOp .lss 3 t62 (i64 R)) w37 fun t63 w38 =>
      ifD t63 (
      V Tryd.prog (Instr.indexAt 28 av t62) w38 fun t65 w39 =>
      V Tryd.prog (Instr.loadAt 4 t65) w39 fun t66 w40 =>
      gd t5_3 false (fun K => K t66 w40) w40 fun t69 w41 =>
      gd t5_3 false (fun K => K t69 w41) w41 fun t70 w42 =>
      gd t70 true (fun K => K (.slice (some ⟨g0, 0, none⟩) N N) w42) w42 fun t71 w43 =>
      gd t70 true (fun K => K (i64 k) w43) w43 fun t72 w44 =>
      gd t70 true (fun K => V Tryd.prog (Instr.indexAt 58 t71 t72) w44 K) w44 fun t73 w45 =>
      gd t70 true (fun K => V Tryd.prog (Instr.loadAt 28 t73) w45 K) w45 fun t74 w46 =>
      gd t70 true (fun K => K t62 w46) w46 fun t75 w47 =>
      gd t70 true (fun K => V Tryd.prog (Instr.indexAt 28 t74 t75) w47 K) w47 fun t76 w48 =>
      gd t70 true (fun K => V Tryd.prog (Instr.loadAt 4 t76) w48 K) w48 fun t77 w49 =>
      gd t70 true (fun K => V Tryd.prog (Op.unary UnOp.not t77) w49 K) w49 fun t78 w50 =>
      gd t5_3 false (fun K => pickD t70 t78 (Value.bool false) fun v => K v w50) w50 fun t79 w51 =>
      pickD t5_3 (Value.bool true) t79 fun t80 =>
      drawD w51 fun S22 w53 =>
      yieldS Tryd.prog S22 (Instr.indexAt 58 (.slice (some ⟨g0, 0, none⟩) N N) (i64 k)) fun t83 =>
      yieldS Tryd.prog S22 (Instr.loadAt 28 t83) fun t84 =>
      yieldS Tryd.prog S22 (Instr.indexAt 58 (.slice (some ⟨g0, 0, none⟩) N N) (i64 k)) fun t88 =>
      yieldS Tryd.prog S22 (Instr.loadAt 28 t88) fun t89 =>
      yieldS Tryd.prog S22 (Instr.indexAt 28 t89 t62) fun t91 =>
      yieldS Tryd.prog S22 (Instr.loadAt 4 t91) fun t92 =>
      gdY t92 false (fun K => K t66) fun t94 =>
      pickD t92 (Value.bool true) t94 fun t95 =>
      yieldS Tryd.prog S22 (Instr.indexAt 28 t84 t62) fun t96 =>
      U Tryd.prog (Instr.storeAt 4 t96 t95) w53 fun _ w54 =>
      V Tryd.prog (binOp .add 3 t62 (Value.int IntKind.i64 1)) w54 fun t97 w55 =>
      I5 t80 t97 w55 ∧ μ5 t80 t97 w55 < μ5 t5_3 t62 w37) (
      Q t5_3 w38) := by
  have hgm := List.mem_of_getElem? hg
  refine ⟨fun v1 v2 w' => ∃ (f' : Bool) (r : Nat) (m' : Mx), v1 = .bool f' ∧ v2 = i64 r ∧ r ≤ R ∧ St w0 w' b cs g0 gs R m' ∧ Swp p N R m0 m' f' ∧ (f = true → f' = true) ∧ (f' = false → ∀ j, j < r → A[j]? = some true → m0 k j = true) ∧
      w'.ownsRow B 4 1 av R (A.map Value.bool) ∧ (∀ B' e size n v xs, w.ownsRow B' e size n v xs → (∀ g ∈ gs, g < B') → w'.ownsRow B' e size n v xs), fun _ v2 _ => R - (RowKit.intOf v2).toNat,
    ⟨f, 0, m, rfl, rfl, Nat.zero_le _, hst, hsw, id, fun _ j hj => by omega, ha, fun _ _ _ _ _ _ h _ => h⟩, ?_⟩
  rintro _ _ w1 ⟨f', r, m', rfl, rfl, hr, hst', hsw', hff, hcl, ha', hkeep⟩ _
  refine V_lss.2 (ifD_dec (fun hlt => ?_) fun hge => ?_)
  · have hr' : r < R := by omega
    obtain ⟨a, haa⟩ := ex_get (l := A) (j := r) (by omega)
    refine ldO' xa_28 l1_4 ha' (by omega) (by omega) (getB haa) ?_
    have hrow := hst'.rows k g hg
    have hslO : SliceIs w1 (.slice (some ⟨g0, 0, none⟩) N N) 1 N (gs.map (sl R)) := hst'.out.slice (by simpa using hN) (by unfold maxLen; omega)
    have hslR : SliceIs w1 (sl R g) 1 R ((rowL m' k R).map Value.bool) := hrow.slice (by simp [rowL_len]) (by unfold maxLen; omega)
    have hgk : (gs.map (sl R))[((k : Nat) : Int).toNat]? = some (sl R g) := by simp [hg]
    have hmk : ((rowL m' k R).map Value.bool)[((r : Nat) : Int).toNat]? = some (.bool (m' k r)) := by simp [rowL_get hr']
    -- what the flag becomes
    have flag : ∀ {Z : Value → World → Prop}, Z (.bool (f' || (a && !m' k r))) w1 →
        (gd (.bool f') false (fun K => K (.bool a) w1) w1 fun t69 w41 =>
      gd (.bool f') false (fun K => K t69 w41) w41 fun t70 w42 =>
      gd t70 true (fun K => K (.slice (some ⟨g0, 0, none⟩) N N) w42) w42 fun t71 w43 =>
      gd t70 true (fun K => K (i64 k) w43) w43 fun t72 w44 =>
      gd t70 true (fun K => V Tryd.prog (Instr.indexAt 58 t71 t72) w44 K) w44 fun t73 w45 =>
      gd t70 true (fun K => V Tryd.prog (Instr.loadAt 28 t73) w45 K) w45 fun t74 w46 =>
      gd t70 true (fun K => K (i64 r) w46) w46 fun t75 w47 =>
      gd t70 true (fun K => V Tryd.prog (Instr.indexAt 28 t74 t75) w47 K) w47 fun t76 w48 =>
      gd t70 true (fun K => V Tryd.prog (Instr.loadAt 4 t76) w48 K) w48 fun t77 w49 =>
      gd t70 true (fun K => V Tryd.prog (Op.unary UnOp.not t77) w49 K) w49 fun t78 w50 =>
      gd (.bool f') false (fun K => pickD t70 t78 (Value.bool false) fun v => K v w50) w50 fun t79 w51 =>
      pickD (.bool f') (Value.bool true) t79 fun t80 => Z t80 w51) := by
      intro Z hZ
      cases f' with
      | true => simp only [gd_tf, gd_undef, pickD_iff, reduceIte]; simpa using hZ
      | false =>
        cases a with
        | false => simp only [gd_f, gd_ft, pickD_iff, Bool.false_eq_true, reduceIte]; simpa using hZ
        | true =>
          simp only [gd_f, gd_t]
          refine ldx xa_58 l1_28 hslO (by omega) (by omega) hgk ?_
          refine ldx xa_28 l1_4 hslR (by omega) (by omega) hmk ?_
          simp only [V_not, pickD_iff, Bool.false_eq_true, reduceIte]
          simpa using hZ
    refine flag ?_
    refine drawD.mk' (fun w' => w' = w1.drew) rfl ?_
    have hx : ∀ w', w' = w1.drew → Ext w1 w' := fun w' h => h ▸ (Ext.refl _).drew
    refine ySl xa_58 l1_28 hslO hx (by omega) (by omega) hgk ?_
    refine ySl xa_58 l1_28 hslO hx (by omega) (by omega) hgk ?_
    refine ySl xa_28 l1_4 hslR hx (by omega) (by omega) hmk ?_
    have val : ∀ {Z : Value → Prop}, Z (.bool (m' k r || a)) → gdY (.bool (m' k r)) false (fun K => K (.bool a)) fun t94 => pickD (.bool (m' k r)) (Value.bool true) t94 Z := by
      intro Z hZ
      cases hm : m' k r with
      | true => simp only [gdY_tf, pickD_iff, reduceIte]; simpa [hm] using hZ
      | false => simp only [gdY_f, pickD_iff, Bool.false_eq_true, reduceIte]; simpa [hm] using hZ
    refine val ?_
    refine yieldS.ok (fun w' _ => r_ix_28 (by omega) (by omega)) ?_
    refine U.ok (r_store inf4 rfl (u := .bool (m' k r)) ?_ ?_) ?_
    · have := hrow.cell r
      rw [List.getElem?_map, rowL_get hr'] at this
      simpa using this
    · exact hrow.frozen _
    · refine V_add.2 ?_
      rw [wrap_id (by omega) (by omega), i64_succ]
      have hset := (hst'.ext (Ext.refl _).drew).set hg r (m' k r || a)
      have hk' : ∀ {B' e size n v xs}, w1.ownsRow B' e size v n xs → (∀ g ∈ gs, g < B') → (w1.drew.setCell ⟨g, 0 + (r : Int).toNat * 1, none⟩ (.bool (m' k r || a))).ownsRow B' e size v n xs := by
        intro B' e size n v xs h hB
        have h' : w1.drew.ownsRow B' e size v n xs := h
        refine h'.kept (row := some g) ⟨rfl, rfl, rfl, by simp, fun i _ hi => heap_setCell_other _ _ _ _ (fun he => hi (by simp [he]))⟩ (own_ne h' fun x hx => ?_)
        cases hx
        exact hB g hgm
      refine ⟨⟨f' || (a && !m' k r), r + 1, updM m' k r (m' k r || a), rfl, rfl, by omega, by simpa using hset, hsw'.step hkN hr' a (fun h => hal r (by rw [haa, h])), fun h => by simp [hff h], ?_, hk' ha' hgB, fun B' e size n v xs h hB => hk' (hkeep B' e size n v xs h hB) hB⟩, by simp only [intOf_i64]; omega⟩
      intro hf j hj hAj
      have hf' := Bool.or_eq_false_iff.1 hf
      by_cases hjr : j = r
      · subst hjr
        rw [haa] at hAj
        cases hAj
        have : m' k j = true := by simpa using hf'.2
        rw [← hsw'.no hf'.1]
        exact this
      · exact hcl hf'.1 j (by omega) hAj
  · refine hQ f' m' w1 hst' hsw' hff (fun hf r' hr' => hcl hf r' ?_ hr') hst'.x hkeep
    have := (List.getElem?_eq_some_iff.1 hr').1
    omega
end Go.Proofs.YtendijaeihljeaaDoor
