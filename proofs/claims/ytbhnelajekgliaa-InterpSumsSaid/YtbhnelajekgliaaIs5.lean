/- InterpSums: a step; the run. -/
import Derived.Test.YtbhnelajekgliaaIs4
namespace Go.Vc
theorem ySA {P : Program} {S : World → Prop} {L : Value → Prop} {t x b o n cap sz : Nat} {cs l : List Value} {k : IntKind} {i : Int} (h : XA P t sz) (ht : ∃ d z by_, P.underlying x = some d ∧ aggB d = true ∧ Go.Vc.Inf P x z sz by_) (hs : ∀ w', S w' → Seg w' b o cs) (h0 : 0 ≤ i) (h1 : i < n)
    (hl : l.length = sz) (hc : ∀ j, j < sz → cs[i.toNat * sz + j]? = l[j]?) (hk : L (.agg l.toArray)) :
    yieldS P S (Instr.indexAt t (.slice (some ⟨b, o, none⟩) n cap) (.int k i)) fun p => yieldS P S (Instr.loadAt x p) L := by
  obtain ⟨e, z, b', hte, hi⟩ := h
  obtain ⟨d, z', by_, h2, h3, h4⟩ := ht
  refine yieldS.ok (fun w' _ => r_index hte hi h0 h1) (yieldS.ok (fun w' hw => r_loadAgg h2 h3 h4 hl fun j hj => ?_) hk)
  obtain ⟨u, hu⟩ : ∃ u, l[j]? = some u := ⟨_, List.getElem?_eq_getElem hj⟩
  rw [hu, Nat.add_assoc]
  exact (hs w' hw).cell ((hc j (by omega)).trans hu)
end Go.Vc
namespace Go.Proofs.Ytbhnelajekgliaa
open Go.Vc Go.Ab
variable {p : Mch} {o a : Nat → Int} {w w' : World} {fl : Nat} {pc fuel status z : Int} {H : Nat → Prop} {st : List Int} {tn : Nat}
theorem flat3 : ∀ {l : List Nat} {i j x : Nat}, l[i]? = some x → j < 3 → (l.flatMap fun i => [Value.int .i64 (o i), Value.int .i64 (a i), Value.int .i64 0])[i * 3 + j]? = [i64 (o x), i64 (a x), i64 0][j]?
  | [], i, j, x, h, _ => by simp at h
  | y :: l, 0, j, x, h, hj => by
    simp at h
    subst h
    show ([i64 (o y), i64 (a y), i64 0] ++ l.flatMap fun i => [Value.int .i64 (o i), Value.int .i64 (a i), Value.int .i64 0])[0 * 3 + j]? = _
    rw [List.getElem?_append_left (by simp; omega)]
    simp
  | y :: l, i + 1, j, x, h, hj => by
    show ([i64 (o y), i64 (a y), i64 0] ++ l.flatMap fun i => [Value.int .i64 (o i), Value.int .i64 (a i), Value.int .i64 0])[(i + 1) * 3 + j]? = _
    rw [List.getElem?_append_right (by simp; omega)]
    have := flat3 (l := l) (i := i) (j := j) (x := x) (by simpa using h) hj
    rw [← this]
    congr 1
    simp
    omega
theorem codeV_get {m i j : Nat} (hi : i < m) (hj : j < 3) : (codeV m o a)[i * 3 + j]? = [i64 (o i), i64 (a i), i64 0][j]? := flat3 (List.getElem?_range hi) hj
/-- A cell of the machine's own block is set. -/
theorem MS.stM (h : MS p o a H w fl pc fuel status z st tn) {j : Nat} {u : Value} {fl' : Nat} {fuel' status' : Int} (hj : j < 5) (hu : oneC u = true) {x : Nat} {z0 : Value} {by_ : Nat} (hx : Go.Vc.Inf Try.prog x z0 1 by_) (he : [p.pr, p.pt, .slice (some ⟨p.fg, p.fo, none⟩) fl p.fcap, i64 fuel, i64 status].set j u = [p.pr, p.pt, .slice (some ⟨p.fg, p.fo, none⟩) fl' p.fcap, i64 fuel', i64 status']) {K : World → Prop}
    (hk : ∀ w', MS p o a H w' fl' pc fuel' status' z st tn → Kp H w w' → K w') : U Try.prog (Instr.storeAt x (.pointer (some ⟨p.mb, p.mo + j, none⟩)) u) w fun _ w' => K w' := by
  obtain ⟨sv, tv, tc, h0, hs, ht, h1, sf, tf, stf, hh⟩ := h.ex
  refine stSet hx h0.m hj hu ?_
  obtain ⟨h2, f2⟩ := h0.setM hj he
  exact hk _ ⟨sv, tv, tc, h2, f2.own hs fun i hi hs => (sf i hi).1 hs, f2.own ht fun i hi hs => (tf i hi).1 hs, h1, sf, tf, stf, fun i hi => ⟨Nat.lt_of_lt_of_le (hh i hi).1 f2.size, (hh i hi).2⟩⟩ (f2.mono fun i hi hH => (hh i hH).2.1.1 hi)
theorem MS.stPc (h : MS p o a H w fl pc fuel status z st tn) {pc' : Int} {K : World → Prop}
    (hk : ∀ w', MS p o a H w' fl pc' fuel status z st tn → Kp H w w' → K w') : U Try.prog (Instr.storeAt 3 (.pointer (some ⟨p.fb, p.bo + 2, none⟩)) (i64 pc')) w fun _ w' => K w' := by
  obtain ⟨sv, tv, tc, h0, hs, ht, h1, sf, tf, stf, hh⟩ := h.ex
  refine stSet inf3 h0.f (show 2 < 9 by decide) rfl ?_
  obtain ⟨h2, f2⟩ := h0.setF (j := 2) (u := i64 pc') (pc' := pc') (sv' := sv) (by decide) rfl
  exact hk _ ⟨sv, tv, tc, h2, f2.own hs fun i hi hs => (sf i hi).2.2.1 hs, f2.own ht fun i hi hs => (tf i hi).2.2.1 hs, h1, sf, tf, stf, fun i hi => ⟨Nat.lt_of_lt_of_le (hh i hi).1 f2.size, (hh i hi).2⟩⟩ (f2.mono fun i hi hH => (hh i hH).2.1.2.2.1 hi)
theorem MS.cells (h : MS p o a H w fl pc fuel status z st tn) : Seg w p.mb p.mo [p.pr, p.pt, .slice (some ⟨p.fg, p.fo, none⟩) fl p.fcap, i64 fuel, i64 status] := by
  obtain ⟨sv, tv, tc, h0, _⟩ := h.ex
  exact h0.m
theorem serves_no {op : Int} (hn : op ≠ 27 ∧ op ≠ 28 ∧ op ≠ 17 ∧ op ≠ 18 ∧ op ≠ 29 ∧ op ≠ 30 ∧ op ≠ 36 ∧ op ≠ 31 ∧ op ≠ 32) : callD Try.prog 36 #[i64 op] w fun r w' => r = i64 (-1) ∧ w' = w := by
  apply F36_wp
  suffices key : ∀ R : Value → World → Prop, R (i64 (-1)) w → F36_den (i64 op) w R from key _ ⟨rfl, rfl⟩
  intro R hR
  obtain ⟨n1, n2, n3, n4, n5, n6, n7, n8, n9⟩ := hn
  unfold F36_den
  refine ⟨fun v w' => v = .bool false ∧ w' = w, ?_, ?_⟩
  · simp only [V_eqlI, n1, n2, decide_false, ifD_false]
    exact ⟨by first | rfl | trivial, by first | rfl | trivial⟩
  rintro _ w' ⟨rfl, hw⟩ _
  have hw := hw.symm; subst hw
  refine ifD_false.2 ⟨fun v w' => v = .bool false ∧ w' = w, ?_, ?_⟩
  · simp only [V_eqlI, n3, n4, n5, decide_false, ifD_false]
    exact ⟨by first | rfl | trivial, by first | rfl | trivial⟩
  rintro _ w' ⟨rfl, hw⟩ _
  have hw := hw.symm; subst hw
  refine ifD_false.2 ⟨fun v w' => v = .bool false ∧ w' = w, ?_, ?_⟩
  · simp only [V_eqlI, n6, n7, decide_false, ifD_false]
    exact ⟨by first | rfl | trivial, by first | rfl | trivial⟩
  rintro _ w' ⟨rfl, hw⟩ _
  have hw := hw.symm; subst hw
  simp only [V_eqlI, n8, n9, decide_false, ifD_false]
  exact hR
theorem do_ok {op A z' : Int} {st' : List Int} (hp : PlainOk p o a op A pc z st z' st') (hn : op ≠ 37 ∧ op ≠ 38 ∧ op ≠ 39) (hs : op ≠ 27 ∧ op ≠ 28 ∧ op ≠ 17 ∧ op ≠ 18 ∧ op ≠ 29 ∧ op ≠ 30 ∧ op ≠ 36 ∧ op ≠ 31 ∧ op ≠ 32) (h : MS p o a H w 1 pc fuel 0 z st tn) :
    callD Try.prog 30 #[p.pm, p.pf, .agg #[i64 op, i64 A, i64 0]] w fun r w' => r = i64 36864 ∧ MS p o a H w' 1 (pc + 1) fuel 0 z' st' tn ∧ Kp H w w' := by
  apply F30_wp
  suffices key : ∀ R : Value → World → Prop, (∀ w', MS p o a H w' 1 (pc + 1) fuel 0 z' st' tn → Kp H w w' → R (i64 36864) w') → F30_den p.pm p.pf (.agg #[i64 op, i64 A, i64 0]) w R from key _ fun w' h1 h2 => ⟨rfl, h1, h2⟩
  intro R hR
  obtain ⟨n1, n2, n3⟩ := hn
  unfold F30_den
  refine bx fun b w1 hb x1 => ?_
  refine ldB hb (by first | exact fa_115_0 | exact fa_115_1 | exact fa_115_2 | exact fa_115_3 | exact fa_115_4 | exact fa_115_5 | exact fa_27_0 | exact fa_27_1 | exact fa_27_2 | exact fa_48_0 | exact fa_48_1 | exact fa_48_2 | exact fa_48_3 | exact fa_52_0 | exact fa_52_1 | exact fa_52_2 | exact fa_52_3 | exact fa_52_4 | exact fa_60_0 | exact fa_60_1 | exact fa_60_2 | exact fa_60_3 | exact fa_60_4 | exact fa_64_0 | exact fa_64_1 | exact fa_64_2 | exact fa_64_3 | exact fa_64_4 | exact fa_71_0 | exact fa_71_3 | exact fa_71_4 | exact fa_74_0 | exact fa_74_1 | exact fa_78_0 | exact fa_78_1 | exact fa_78_2 | exact fa_78_3 | exact fa_84_0 | exact fa_89_0 | exact fa_89_1 | exact fa_89_2 | exact fa_89_3 | exact fa_89_4 | exact fa_89_5) (by first | exact l1_21 | exact l1_22 | exact l1_23 | exact l1_24 | exact l1_3 | exact l1_31 | exact l1_4 | exact l1_49 | exact l1_5 | exact l1_50 | exact l1_55 | exact l1_56 | exact l1_57 | exact l1_58 | exact l1_61 | exact l1_62 | exact l1_72 | exact l1_82 | exact l1_87 | exact l1_9) rfl ?_
  simp only [V_eqlI, n1, n2, n3, decide_false, ifD_false]
  refine ldB hb (by first | exact fa_115_0 | exact fa_115_1 | exact fa_115_2 | exact fa_115_3 | exact fa_115_4 | exact fa_115_5 | exact fa_27_0 | exact fa_27_1 | exact fa_27_2 | exact fa_48_0 | exact fa_48_1 | exact fa_48_2 | exact fa_48_3 | exact fa_52_0 | exact fa_52_1 | exact fa_52_2 | exact fa_52_3 | exact fa_52_4 | exact fa_60_0 | exact fa_60_1 | exact fa_60_2 | exact fa_60_3 | exact fa_60_4 | exact fa_64_0 | exact fa_64_1 | exact fa_64_2 | exact fa_64_3 | exact fa_64_4 | exact fa_71_0 | exact fa_71_3 | exact fa_71_4 | exact fa_74_0 | exact fa_74_1 | exact fa_78_0 | exact fa_78_1 | exact fa_78_2 | exact fa_78_3 | exact fa_84_0 | exact fa_89_0 | exact fa_89_1 | exact fa_89_2 | exact fa_89_3 | exact fa_89_4 | exact fa_89_5) (by first | exact l1_21 | exact l1_22 | exact l1_23 | exact l1_24 | exact l1_3 | exact l1_31 | exact l1_4 | exact l1_49 | exact l1_5 | exact l1_50 | exact l1_55 | exact l1_56 | exact l1_57 | exact l1_58 | exact l1_61 | exact l1_62 | exact l1_72 | exact l1_82 | exact l1_87 | exact l1_9) rfl ?_
  refine (serves_no hs).mono fun r w' ⟨hr, hw⟩ => ?_
  subst hr; have hw := hw.symm; subst hw
  refine V_geq.2 ?_
  simp only [show ¬ ((-1 : Int) ≥ 0) by omega, decide_false, ifD_false]
  refine ldA hb la_27 rfl ?_
  refine (hp (h.ext x1)).mono fun r w2 ⟨hr, h2, k2⟩ => ?_
  subst hr
  refine ⟨.inl ⟨_, rfl⟩, ?_⟩
  refine fdA (by first | exact fa_115_0 | exact fa_115_1 | exact fa_115_2 | exact fa_115_3 | exact fa_115_4 | exact fa_115_5 | exact fa_27_0 | exact fa_27_1 | exact fa_27_2 | exact fa_48_0 | exact fa_48_1 | exact fa_48_2 | exact fa_48_3 | exact fa_52_0 | exact fa_52_1 | exact fa_52_2 | exact fa_52_3 | exact fa_52_4 | exact fa_60_0 | exact fa_60_1 | exact fa_60_2 | exact fa_60_3 | exact fa_60_4 | exact fa_64_0 | exact fa_64_1 | exact fa_64_2 | exact fa_64_3 | exact fa_64_4 | exact fa_71_0 | exact fa_71_3 | exact fa_71_4 | exact fa_74_0 | exact fa_74_1 | exact fa_78_0 | exact fa_78_1 | exact fa_78_2 | exact fa_78_3 | exact fa_84_0 | exact fa_89_0 | exact fa_89_1 | exact fa_89_2 | exact fa_89_3 | exact fa_89_4 | exact fa_89_5) ?_
  exact h2.stPc fun w3 h3 k3 => hR _ h3 (((Kp.of_ext x1).trans k2).trans k3)
/-- A status. -/
theorem end_ok' (h : MS p o a H w fl pc fuel status z st tn) (hl : tn ≤ 100000) {s : Int} : callD Try.prog 27 #[p.pm, i64 s] w fun _ w' => MS p o a H w' fl pc fuel s z st (tn + 1) ∧ Kp H w w' := by
  apply F27_wp
  unfold F27_den
  refine ⟨.inl ⟨_, rfl⟩, ?_⟩
  refine fdA (by first | exact fa_115_0 | exact fa_115_1 | exact fa_115_2 | exact fa_115_3 | exact fa_115_4 | exact fa_115_5 | exact fa_27_0 | exact fa_27_1 | exact fa_27_2 | exact fa_48_0 | exact fa_48_1 | exact fa_48_2 | exact fa_48_3 | exact fa_52_0 | exact fa_52_1 | exact fa_52_2 | exact fa_52_3 | exact fa_52_4 | exact fa_60_0 | exact fa_60_1 | exact fa_60_2 | exact fa_60_3 | exact fa_60_4 | exact fa_64_0 | exact fa_64_1 | exact fa_64_2 | exact fa_64_3 | exact fa_64_4 | exact fa_71_0 | exact fa_71_3 | exact fa_71_4 | exact fa_74_0 | exact fa_74_1 | exact fa_78_0 | exact fa_78_1 | exact fa_78_2 | exact fa_78_3 | exact fa_84_0 | exact fa_89_0 | exact fa_89_1 | exact fa_89_2 | exact fa_89_3 | exact fa_89_4 | exact fa_89_5) ?_
  refine h.stM (j := 4) (fl' := fl) (fuel' := fuel) (status' := s) (by decide) rfl inf3 rfl fun w2 h2 k2 => ⟨.inl ⟨_, rfl⟩, ?_⟩
  refine ldFS (by first | exact fa_115_0 | exact fa_115_1 | exact fa_115_2 | exact fa_115_3 | exact fa_115_4 | exact fa_115_5 | exact fa_27_0 | exact fa_27_1 | exact fa_27_2 | exact fa_48_0 | exact fa_48_1 | exact fa_48_2 | exact fa_48_3 | exact fa_52_0 | exact fa_52_1 | exact fa_52_2 | exact fa_52_3 | exact fa_52_4 | exact fa_60_0 | exact fa_60_1 | exact fa_60_2 | exact fa_60_3 | exact fa_60_4 | exact fa_64_0 | exact fa_64_1 | exact fa_64_2 | exact fa_64_3 | exact fa_64_4 | exact fa_71_0 | exact fa_71_3 | exact fa_71_4 | exact fa_74_0 | exact fa_74_1 | exact fa_78_0 | exact fa_78_1 | exact fa_78_2 | exact fa_78_3 | exact fa_84_0 | exact fa_89_0 | exact fa_89_1 | exact fa_89_2 | exact fa_89_3 | exact fa_89_4 | exact fa_89_5) (by first | exact l1_21 | exact l1_22 | exact l1_23 | exact l1_24 | exact l1_3 | exact l1_31 | exact l1_4 | exact l1_49 | exact l1_5 | exact l1_50 | exact l1_55 | exact l1_56 | exact l1_57 | exact l1_58 | exact l1_61 | exact l1_62 | exact l1_72 | exact l1_82 | exact l1_87 | exact l1_9) h2.cells rfl ?_
  exact (addE_ok h2 hl).mono fun r w3 ⟨h3, k3⟩ => ⟨h3, k2.trans k3⟩
theorem ret_ok (h : MS p o a H w 1 pc fuel 0 z st tn) (hl : tn ≤ 100000) : callD Try.prog 35 #[p.pm, p.pf] w fun _ w' => MS p o a H w' 0 pc fuel 36864 z st (tn + 1) ∧ Kp H w w' := by
  have hcap : 1 ≤ p.fcap := by
    obtain ⟨sv, tv, tc, h0, _⟩ := h.ex
    exact h0.cap.1
  apply F35_wp
  unfold F35_den
  have D1 : Ext w w.drew := (Ext.refl _).drew
  refine drawD.mk' (fun w' => Ext w w') D1 ⟨.inl ⟨_, rfl⟩, ?_⟩
  refine yFS (by first | exact fa_115_0 | exact fa_115_1 | exact fa_115_2 | exact fa_115_3 | exact fa_115_4 | exact fa_115_5 | exact fa_27_0 | exact fa_27_1 | exact fa_27_2 | exact fa_48_0 | exact fa_48_1 | exact fa_48_2 | exact fa_48_3 | exact fa_52_0 | exact fa_52_1 | exact fa_52_2 | exact fa_52_3 | exact fa_52_4 | exact fa_60_0 | exact fa_60_1 | exact fa_60_2 | exact fa_60_3 | exact fa_60_4 | exact fa_64_0 | exact fa_64_1 | exact fa_64_2 | exact fa_64_3 | exact fa_64_4 | exact fa_71_0 | exact fa_71_3 | exact fa_71_4 | exact fa_74_0 | exact fa_74_1 | exact fa_78_0 | exact fa_78_1 | exact fa_78_2 | exact fa_78_3 | exact fa_84_0 | exact fa_89_0 | exact fa_89_1 | exact fa_89_2 | exact fa_89_3 | exact fa_89_4 | exact fa_89_5) (by first | exact l1_21 | exact l1_22 | exact l1_23 | exact l1_24 | exact l1_3 | exact l1_31 | exact l1_4 | exact l1_49 | exact l1_5 | exact l1_50 | exact l1_55 | exact l1_56 | exact l1_57 | exact l1_58 | exact l1_61 | exact l1_62 | exact l1_72 | exact l1_82 | exact l1_87 | exact l1_9) (fun w' hw => h.cells.ext hw) rfl ⟨.inl ⟨_, rfl⟩, ?_⟩
  refine yFS (by first | exact fa_115_0 | exact fa_115_1 | exact fa_115_2 | exact fa_115_3 | exact fa_115_4 | exact fa_115_5 | exact fa_27_0 | exact fa_27_1 | exact fa_27_2 | exact fa_48_0 | exact fa_48_1 | exact fa_48_2 | exact fa_48_3 | exact fa_52_0 | exact fa_52_1 | exact fa_52_2 | exact fa_52_3 | exact fa_52_4 | exact fa_60_0 | exact fa_60_1 | exact fa_60_2 | exact fa_60_3 | exact fa_60_4 | exact fa_64_0 | exact fa_64_1 | exact fa_64_2 | exact fa_64_3 | exact fa_64_4 | exact fa_71_0 | exact fa_71_3 | exact fa_71_4 | exact fa_74_0 | exact fa_74_1 | exact fa_78_0 | exact fa_78_1 | exact fa_78_2 | exact fa_78_3 | exact fa_84_0 | exact fa_89_0 | exact fa_89_1 | exact fa_89_2 | exact fa_89_3 | exact fa_89_4 | exact fa_89_5) (by first | exact l1_21 | exact l1_22 | exact l1_23 | exact l1_24 | exact l1_3 | exact l1_31 | exact l1_4 | exact l1_49 | exact l1_5 | exact l1_50 | exact l1_55 | exact l1_56 | exact l1_57 | exact l1_58 | exact l1_61 | exact l1_62 | exact l1_72 | exact l1_82 | exact l1_87 | exact l1_9) (fun w' hw => h.cells.ext hw) rfl ?_
  refine yieldS.ok (fun w' _ => r_len Try.underlying62) ?_
  refine yieldS.ok (fun w' _ => r_sub) ?_
  refine yieldS.ok (fun w' _ => r_hi (k := 0) Try.underlying62 inf87 (Nat.zero_le _)) ⟨.inl ⟨_, rfl⟩, ?_⟩
  rw [show (if p.fcap = 0 then some (⟨p.fg, p.fo, none⟩ : Addr) else (some (⟨p.fg, p.fo, none⟩ : Addr)).map (·.add 0)) = some ⟨p.fg, p.fo, none⟩ by rw [if_neg (by omega)]; simp [add_mk]]
  refine yFA (by first | exact fa_115_0 | exact fa_115_1 | exact fa_115_2 | exact fa_115_3 | exact fa_115_4 | exact fa_115_5 | exact fa_27_0 | exact fa_27_1 | exact fa_27_2 | exact fa_48_0 | exact fa_48_1 | exact fa_48_2 | exact fa_48_3 | exact fa_52_0 | exact fa_52_1 | exact fa_52_2 | exact fa_52_3 | exact fa_52_4 | exact fa_60_0 | exact fa_60_1 | exact fa_60_2 | exact fa_60_3 | exact fa_60_4 | exact fa_64_0 | exact fa_64_1 | exact fa_64_2 | exact fa_64_3 | exact fa_64_4 | exact fa_71_0 | exact fa_71_3 | exact fa_71_4 | exact fa_74_0 | exact fa_74_1 | exact fa_78_0 | exact fa_78_1 | exact fa_78_2 | exact fa_78_3 | exact fa_84_0 | exact fa_89_0 | exact fa_89_1 | exact fa_89_2 | exact fa_89_3 | exact fa_89_4 | exact fa_89_5) ?_
  refine (h.ext D1).stM (j := 2) (fl' := 0) (fuel' := fuel) (status' := 0) (by decide) rfl inf62 rfl fun w2 h2 k2 => ⟨.inl ⟨_, rfl⟩, ?_⟩
  refine ldFS (by first | exact fa_115_0 | exact fa_115_1 | exact fa_115_2 | exact fa_115_3 | exact fa_115_4 | exact fa_115_5 | exact fa_27_0 | exact fa_27_1 | exact fa_27_2 | exact fa_48_0 | exact fa_48_1 | exact fa_48_2 | exact fa_48_3 | exact fa_52_0 | exact fa_52_1 | exact fa_52_2 | exact fa_52_3 | exact fa_52_4 | exact fa_60_0 | exact fa_60_1 | exact fa_60_2 | exact fa_60_3 | exact fa_60_4 | exact fa_64_0 | exact fa_64_1 | exact fa_64_2 | exact fa_64_3 | exact fa_64_4 | exact fa_71_0 | exact fa_71_3 | exact fa_71_4 | exact fa_74_0 | exact fa_74_1 | exact fa_78_0 | exact fa_78_1 | exact fa_78_2 | exact fa_78_3 | exact fa_84_0 | exact fa_89_0 | exact fa_89_1 | exact fa_89_2 | exact fa_89_3 | exact fa_89_4 | exact fa_89_5) (by first | exact l1_21 | exact l1_22 | exact l1_23 | exact l1_24 | exact l1_3 | exact l1_31 | exact l1_4 | exact l1_49 | exact l1_5 | exact l1_50 | exact l1_55 | exact l1_56 | exact l1_57 | exact l1_58 | exact l1_61 | exact l1_62 | exact l1_72 | exact l1_82 | exact l1_87 | exact l1_9) h2.cells rfl ?_
  refine V_ln_62.2 (V_eqlI.2 ?_)
  simp only [show (((0 : Nat) : Int) = 0) by rfl, decide_true, ifD_true]
  exact (end_ok' h2 hl).mono fun r w3 ⟨h3, k3⟩ => ⟨h3, ((Kp.of_ext D1).trans k2).trans k3⟩
theorem doRet_ok {A : Int} (h : MS p o a H w 1 pc fuel 0 z st tn) (hl : tn ≤ 100000) : callD Try.prog 30 #[p.pm, p.pf, .agg #[i64 39, i64 A, i64 0]] w fun r w' => r = i64 36864 ∧ MS p o a H w' 0 pc fuel 36864 z st (tn + 1) ∧ Kp H w w' := by
  apply F30_wp
  suffices key : ∀ R : Value → World → Prop, (∀ w', MS p o a H w' 0 pc fuel 36864 z st (tn + 1) → Kp H w w' → R (i64 36864) w') → F30_den p.pm p.pf (.agg #[i64 39, i64 A, i64 0]) w R from key _ fun w' h1 h2 => ⟨rfl, h1, h2⟩
  intro R hR
  unfold F30_den
  refine bx fun b w1 hb x1 => ?_
  refine ldB hb (by first | exact fa_115_0 | exact fa_115_1 | exact fa_115_2 | exact fa_115_3 | exact fa_115_4 | exact fa_115_5 | exact fa_27_0 | exact fa_27_1 | exact fa_27_2 | exact fa_48_0 | exact fa_48_1 | exact fa_48_2 | exact fa_48_3 | exact fa_52_0 | exact fa_52_1 | exact fa_52_2 | exact fa_52_3 | exact fa_52_4 | exact fa_60_0 | exact fa_60_1 | exact fa_60_2 | exact fa_60_3 | exact fa_60_4 | exact fa_64_0 | exact fa_64_1 | exact fa_64_2 | exact fa_64_3 | exact fa_64_4 | exact fa_71_0 | exact fa_71_3 | exact fa_71_4 | exact fa_74_0 | exact fa_74_1 | exact fa_78_0 | exact fa_78_1 | exact fa_78_2 | exact fa_78_3 | exact fa_84_0 | exact fa_89_0 | exact fa_89_1 | exact fa_89_2 | exact fa_89_3 | exact fa_89_4 | exact fa_89_5) (by first | exact l1_21 | exact l1_22 | exact l1_23 | exact l1_24 | exact l1_3 | exact l1_31 | exact l1_4 | exact l1_49 | exact l1_5 | exact l1_50 | exact l1_55 | exact l1_56 | exact l1_57 | exact l1_58 | exact l1_61 | exact l1_62 | exact l1_72 | exact l1_82 | exact l1_87 | exact l1_9) rfl ?_
  simp only [V_eqlI, Int.reduceEq, decide_true, decide_false, ifD_true, ifD_false]
  exact (ret_ok (h.ext x1) hl).mono fun r w2 ⟨h2, k2⟩ => hR _ h2 ((Kp.of_ext x1).trans k2)
set_option maxHeartbeats 1600000 in
theorem step_ok {i fl' : Nat} {pc' fuel' status' z' : Int} {st' : List Int} {tn' : Nat} (hi : i < p.n) (hf : 1 ≤ fuel ∧ fuel ≤ 1000) (hl : tn ≤ 100000) (h : MS p o a H w 1 (i : Int) fuel 0 z st tn)
    (hdo : ∀ w, MS p o a H w 1 (i : Int) (fuel - 1) 0 z st (tn + 1) → callD Try.prog 30 #[p.pm, p.pf, .agg #[i64 (o i), i64 (a i), i64 0]] w fun r w' => r = i64 36864 ∧ MS p o a H w' fl' pc' fuel' status' z' st' tn' ∧ Kp H w w') :
    callD Try.prog 21 #[p.pm] w fun _ w' => MS p o a H w' fl' pc' fuel' status' z' st' tn' ∧ Kp H w w' := by
  apply F21_wp
  suffices key : ∀ R : Value → World → Prop, (∀ r w', MS p o a H w' fl' pc' fuel' status' z' st' tn' → Kp H w w' → R r w') → F21_den p.pm w R from key _ fun r w' h1 h2 => ⟨h1, h2⟩
  intro R hR
  unfold F21_den
  refine ⟨.inl ⟨_, rfl⟩, ?_⟩
  refine ldFS (by first | exact fa_115_0 | exact fa_115_1 | exact fa_115_2 | exact fa_115_3 | exact fa_115_4 | exact fa_115_5 | exact fa_27_0 | exact fa_27_1 | exact fa_27_2 | exact fa_48_0 | exact fa_48_1 | exact fa_48_2 | exact fa_48_3 | exact fa_52_0 | exact fa_52_1 | exact fa_52_2 | exact fa_52_3 | exact fa_52_4 | exact fa_60_0 | exact fa_60_1 | exact fa_60_2 | exact fa_60_3 | exact fa_60_4 | exact fa_64_0 | exact fa_64_1 | exact fa_64_2 | exact fa_64_3 | exact fa_64_4 | exact fa_71_0 | exact fa_71_3 | exact fa_71_4 | exact fa_74_0 | exact fa_74_1 | exact fa_78_0 | exact fa_78_1 | exact fa_78_2 | exact fa_78_3 | exact fa_84_0 | exact fa_89_0 | exact fa_89_1 | exact fa_89_2 | exact fa_89_3 | exact fa_89_4 | exact fa_89_5) (by first | exact l1_21 | exact l1_22 | exact l1_23 | exact l1_24 | exact l1_3 | exact l1_31 | exact l1_4 | exact l1_49 | exact l1_5 | exact l1_50 | exact l1_55 | exact l1_56 | exact l1_57 | exact l1_58 | exact l1_61 | exact l1_62 | exact l1_72 | exact l1_82 | exact l1_87 | exact l1_9) h.cells rfl (V_neqI.2 ?_)
  simp only [ne_eq, not_true_eq_false, decide_false, ifD_false]
  refine ⟨.inl ⟨_, rfl⟩, ?_⟩
  refine ldFS (by first | exact fa_115_0 | exact fa_115_1 | exact fa_115_2 | exact fa_115_3 | exact fa_115_4 | exact fa_115_5 | exact fa_27_0 | exact fa_27_1 | exact fa_27_2 | exact fa_48_0 | exact fa_48_1 | exact fa_48_2 | exact fa_48_3 | exact fa_52_0 | exact fa_52_1 | exact fa_52_2 | exact fa_52_3 | exact fa_52_4 | exact fa_60_0 | exact fa_60_1 | exact fa_60_2 | exact fa_60_3 | exact fa_60_4 | exact fa_64_0 | exact fa_64_1 | exact fa_64_2 | exact fa_64_3 | exact fa_64_4 | exact fa_71_0 | exact fa_71_3 | exact fa_71_4 | exact fa_74_0 | exact fa_74_1 | exact fa_78_0 | exact fa_78_1 | exact fa_78_2 | exact fa_78_3 | exact fa_84_0 | exact fa_89_0 | exact fa_89_1 | exact fa_89_2 | exact fa_89_3 | exact fa_89_4 | exact fa_89_5) (by first | exact l1_21 | exact l1_22 | exact l1_23 | exact l1_24 | exact l1_3 | exact l1_31 | exact l1_4 | exact l1_49 | exact l1_5 | exact l1_50 | exact l1_55 | exact l1_56 | exact l1_57 | exact l1_58 | exact l1_61 | exact l1_62 | exact l1_72 | exact l1_82 | exact l1_87 | exact l1_9) h.cells rfl (V_eqlI.2 ?_)
  simp only [show ¬ fuel = 0 by omega, decide_false, ifD_false]
  refine ⟨.inl ⟨_, rfl⟩, ?_⟩
  refine ldFS (by first | exact fa_115_0 | exact fa_115_1 | exact fa_115_2 | exact fa_115_3 | exact fa_115_4 | exact fa_115_5 | exact fa_27_0 | exact fa_27_1 | exact fa_27_2 | exact fa_48_0 | exact fa_48_1 | exact fa_48_2 | exact fa_48_3 | exact fa_52_0 | exact fa_52_1 | exact fa_52_2 | exact fa_52_3 | exact fa_52_4 | exact fa_60_0 | exact fa_60_1 | exact fa_60_2 | exact fa_60_3 | exact fa_60_4 | exact fa_64_0 | exact fa_64_1 | exact fa_64_2 | exact fa_64_3 | exact fa_64_4 | exact fa_71_0 | exact fa_71_3 | exact fa_71_4 | exact fa_74_0 | exact fa_74_1 | exact fa_78_0 | exact fa_78_1 | exact fa_78_2 | exact fa_78_3 | exact fa_84_0 | exact fa_89_0 | exact fa_89_1 | exact fa_89_2 | exact fa_89_3 | exact fa_89_4 | exact fa_89_5) (by first | exact l1_21 | exact l1_22 | exact l1_23 | exact l1_24 | exact l1_3 | exact l1_31 | exact l1_4 | exact l1_49 | exact l1_5 | exact l1_50 | exact l1_55 | exact l1_56 | exact l1_57 | exact l1_58 | exact l1_61 | exact l1_62 | exact l1_72 | exact l1_82 | exact l1_87 | exact l1_9) h.cells rfl (V_sub.2 ?_)
  rw [wrap_id (by omega) (by omega)]
  refine ⟨.inl ⟨_, rfl⟩, ?_⟩
  refine fdA (by first | exact fa_115_0 | exact fa_115_1 | exact fa_115_2 | exact fa_115_3 | exact fa_115_4 | exact fa_115_5 | exact fa_27_0 | exact fa_27_1 | exact fa_27_2 | exact fa_48_0 | exact fa_48_1 | exact fa_48_2 | exact fa_48_3 | exact fa_52_0 | exact fa_52_1 | exact fa_52_2 | exact fa_52_3 | exact fa_52_4 | exact fa_60_0 | exact fa_60_1 | exact fa_60_2 | exact fa_60_3 | exact fa_60_4 | exact fa_64_0 | exact fa_64_1 | exact fa_64_2 | exact fa_64_3 | exact fa_64_4 | exact fa_71_0 | exact fa_71_3 | exact fa_71_4 | exact fa_74_0 | exact fa_74_1 | exact fa_78_0 | exact fa_78_1 | exact fa_78_2 | exact fa_78_3 | exact fa_84_0 | exact fa_89_0 | exact fa_89_1 | exact fa_89_2 | exact fa_89_3 | exact fa_89_4 | exact fa_89_5) ?_
  refine h.stM (j := 3) (fl' := 1) (fuel' := fuel - 1) (status' := 0) (by decide) rfl inf3 rfl fun w2 h2 k2 => ?_
  refine (top_ok h2).mono fun r w3 ⟨hr, x3⟩ => ?_
  subst hr
  have D3 : Ext w3 w3.drew := (Ext.refl _).drew
  have hc : ∀ {w'}, Ext w2 w' → Seg w' p.cg p.co (codeV p.n o a) := fun hx => by
    obtain ⟨sv, tv, tc, h0, _⟩ := (h2.ext hx).ex
    exact h0.c
  have hfr : ∃ sv, ∀ w', Ext w2 w' → Seg w' p.fb p.bo [i64 0, i64 0, i64 (i : Int), p.p3, i64 0, p.p5, p.code, p.l7, sv] := by
    obtain ⟨sv, tv, tc, h0, _⟩ := h2.ex
    exact ⟨sv, fun w' hx => h0.f.ext hx⟩
  obtain ⟨sv, hfr⟩ := hfr
  refine drawD.mk' (fun w' => Ext w3 w') D3 ⟨.inl ⟨_, rfl⟩, ?_⟩
  refine yFF (by first | exact fa_115_0 | exact fa_115_1 | exact fa_115_2 | exact fa_115_3 | exact fa_115_4 | exact fa_115_5 | exact fa_27_0 | exact fa_27_1 | exact fa_27_2 | exact fa_48_0 | exact fa_48_1 | exact fa_48_2 | exact fa_48_3 | exact fa_52_0 | exact fa_52_1 | exact fa_52_2 | exact fa_52_3 | exact fa_52_4 | exact fa_60_0 | exact fa_60_1 | exact fa_60_2 | exact fa_60_3 | exact fa_60_4 | exact fa_64_0 | exact fa_64_1 | exact fa_64_2 | exact fa_64_3 | exact fa_64_4 | exact fa_71_0 | exact fa_71_3 | exact fa_71_4 | exact fa_74_0 | exact fa_74_1 | exact fa_78_0 | exact fa_78_1 | exact fa_78_2 | exact fa_78_3 | exact fa_84_0 | exact fa_89_0 | exact fa_89_1 | exact fa_89_2 | exact fa_89_3 | exact fa_89_4 | exact fa_89_5) (by first | exact fa_115_0 | exact fa_115_1 | exact fa_115_2 | exact fa_115_3 | exact fa_115_4 | exact fa_115_5 | exact fa_27_0 | exact fa_27_1 | exact fa_27_2 | exact fa_48_0 | exact fa_48_1 | exact fa_48_2 | exact fa_48_3 | exact fa_52_0 | exact fa_52_1 | exact fa_52_2 | exact fa_52_3 | exact fa_52_4 | exact fa_60_0 | exact fa_60_1 | exact fa_60_2 | exact fa_60_3 | exact fa_60_4 | exact fa_64_0 | exact fa_64_1 | exact fa_64_2 | exact fa_64_3 | exact fa_64_4 | exact fa_71_0 | exact fa_71_3 | exact fa_71_4 | exact fa_74_0 | exact fa_74_1 | exact fa_78_0 | exact fa_78_1 | exact fa_78_2 | exact fa_78_3 | exact fa_84_0 | exact fa_89_0 | exact fa_89_1 | exact fa_89_2 | exact fa_89_3 | exact fa_89_4 | exact fa_89_5) (by first | exact l1_21 | exact l1_22 | exact l1_23 | exact l1_24 | exact l1_3 | exact l1_31 | exact l1_4 | exact l1_49 | exact l1_5 | exact l1_50 | exact l1_55 | exact l1_56 | exact l1_57 | exact l1_58 | exact l1_61 | exact l1_62 | exact l1_72 | exact l1_82 | exact l1_87 | exact l1_9) (fun w' hw => hfr w' (x3.trans hw)) (u := p.code) rfl ⟨.inl ⟨_, rfl⟩, ?_⟩
  refine yFS (by first | exact fa_115_0 | exact fa_115_1 | exact fa_115_2 | exact fa_115_3 | exact fa_115_4 | exact fa_115_5 | exact fa_27_0 | exact fa_27_1 | exact fa_27_2 | exact fa_48_0 | exact fa_48_1 | exact fa_48_2 | exact fa_48_3 | exact fa_52_0 | exact fa_52_1 | exact fa_52_2 | exact fa_52_3 | exact fa_52_4 | exact fa_60_0 | exact fa_60_1 | exact fa_60_2 | exact fa_60_3 | exact fa_60_4 | exact fa_64_0 | exact fa_64_1 | exact fa_64_2 | exact fa_64_3 | exact fa_64_4 | exact fa_71_0 | exact fa_71_3 | exact fa_71_4 | exact fa_74_0 | exact fa_74_1 | exact fa_78_0 | exact fa_78_1 | exact fa_78_2 | exact fa_78_3 | exact fa_84_0 | exact fa_89_0 | exact fa_89_1 | exact fa_89_2 | exact fa_89_3 | exact fa_89_4 | exact fa_89_5) (by first | exact l1_21 | exact l1_22 | exact l1_23 | exact l1_24 | exact l1_3 | exact l1_31 | exact l1_4 | exact l1_49 | exact l1_5 | exact l1_50 | exact l1_55 | exact l1_56 | exact l1_57 | exact l1_58 | exact l1_61 | exact l1_62 | exact l1_72 | exact l1_82 | exact l1_87 | exact l1_9) (fun w' hw => hfr w' (x3.trans hw)) rfl ?_
  refine ySA xa_24 la_27 (fun w' hw => hc (x3.trans hw)) (by omega) (by omega) (l := [i64 (o i), i64 (a i), i64 0]) rfl (fun j hj => by rw [Int.toNat_natCast]; exact codeV_get hi hj) ?_
  refine alK inf27 fun w4 hz x4 => ?_
  refine ⟨D3.trans x4, ?_⟩
  refine stA inf27 hz (l := [i64 (o i), i64 (a i), i64 0]) rfl rfl rfl rfl fun w5 h5 hch => ?_
  have x5 : Ext w3.drew w5 := hch.ext _ x4 (Nat.le_refl _)
  have X5 : Ext w2 w5 := (x3.trans D3).trans x5
  have D5 : Ext w5 w5.drew := (Ext.refl _).drew
  have hk := (h2.keep X5 (b := w3.drew.heap.size) ((x3.trans D3).size) h5.lt).ext D5
  have ms0 : ∀ {w' : World} {tn : Nat}, MS p o a (fun i => H i ∨ i = w3.drew.heap.size) w' 1 (i : Int) (fuel - 1) 0 z st tn → ∃ sv tv, MS0 p o a w' 1 (i : Int) (fuel - 1) 0 z sv tv := fun h => by
    obtain ⟨sv, tv, tc, h0, _⟩ := h.ex
    exact ⟨sv, tv, h0⟩
  refine drawD.mk' (fun w' => (∃ sv tv, MS0 p o a w' 1 (i : Int) (fuel - 1) 0 z sv tv) ∧ Blk w' w3.drew.heap.size [i64 (o i), i64 (a i), i64 0] 27) ⟨ms0 hk, h5.ext D5⟩ ⟨.inl ⟨_, rfl⟩, ?_⟩
  refine yFE (by first | exact fa_115_0 | exact fa_115_1 | exact fa_115_2 | exact fa_115_3 | exact fa_115_4 | exact fa_115_5 | exact fa_27_0 | exact fa_27_1 | exact fa_27_2 | exact fa_48_0 | exact fa_48_1 | exact fa_48_2 | exact fa_48_3 | exact fa_52_0 | exact fa_52_1 | exact fa_52_2 | exact fa_52_3 | exact fa_52_4 | exact fa_60_0 | exact fa_60_1 | exact fa_60_2 | exact fa_60_3 | exact fa_60_4 | exact fa_64_0 | exact fa_64_1 | exact fa_64_2 | exact fa_64_3 | exact fa_64_4 | exact fa_71_0 | exact fa_71_3 | exact fa_71_4 | exact fa_74_0 | exact fa_74_1 | exact fa_78_0 | exact fa_78_1 | exact fa_78_2 | exact fa_78_3 | exact fa_84_0 | exact fa_89_0 | exact fa_89_1 | exact fa_89_2 | exact fa_89_3 | exact fa_89_4 | exact fa_89_5) (by first | exact l1_21 | exact l1_22 | exact l1_23 | exact l1_24 | exact l1_3 | exact l1_31 | exact l1_4 | exact l1_49 | exact l1_5 | exact l1_50 | exact l1_55 | exact l1_56 | exact l1_57 | exact l1_58 | exact l1_61 | exact l1_62 | exact l1_72 | exact l1_82 | exact l1_87 | exact l1_9) (fun w' ⟨⟨_, _, h0⟩, _⟩ => ⟨_, h0.m, rfl⟩) ⟨.inl ⟨_, rfl⟩, ?_⟩
  refine yFE (by first | exact fa_115_0 | exact fa_115_1 | exact fa_115_2 | exact fa_115_3 | exact fa_115_4 | exact fa_115_5 | exact fa_27_0 | exact fa_27_1 | exact fa_27_2 | exact fa_48_0 | exact fa_48_1 | exact fa_48_2 | exact fa_48_3 | exact fa_52_0 | exact fa_52_1 | exact fa_52_2 | exact fa_52_3 | exact fa_52_4 | exact fa_60_0 | exact fa_60_1 | exact fa_60_2 | exact fa_60_3 | exact fa_60_4 | exact fa_64_0 | exact fa_64_1 | exact fa_64_2 | exact fa_64_3 | exact fa_64_4 | exact fa_71_0 | exact fa_71_3 | exact fa_71_4 | exact fa_74_0 | exact fa_74_1 | exact fa_78_0 | exact fa_78_1 | exact fa_78_2 | exact fa_78_3 | exact fa_84_0 | exact fa_89_0 | exact fa_89_1 | exact fa_89_2 | exact fa_89_3 | exact fa_89_4 | exact fa_89_5) (by first | exact l1_21 | exact l1_22 | exact l1_23 | exact l1_24 | exact l1_3 | exact l1_31 | exact l1_4 | exact l1_49 | exact l1_5 | exact l1_50 | exact l1_55 | exact l1_56 | exact l1_57 | exact l1_58 | exact l1_61 | exact l1_62 | exact l1_72 | exact l1_82 | exact l1_87 | exact l1_9) (fun w' ⟨⟨_, _, h0⟩, _⟩ => ⟨_, h0.f, rfl⟩) ⟨.inl ⟨_, rfl⟩, ?_⟩
  refine yFE (by first | exact fa_115_0 | exact fa_115_1 | exact fa_115_2 | exact fa_115_3 | exact fa_115_4 | exact fa_115_5 | exact fa_27_0 | exact fa_27_1 | exact fa_27_2 | exact fa_48_0 | exact fa_48_1 | exact fa_48_2 | exact fa_48_3 | exact fa_52_0 | exact fa_52_1 | exact fa_52_2 | exact fa_52_3 | exact fa_52_4 | exact fa_60_0 | exact fa_60_1 | exact fa_60_2 | exact fa_60_3 | exact fa_60_4 | exact fa_64_0 | exact fa_64_1 | exact fa_64_2 | exact fa_64_3 | exact fa_64_4 | exact fa_71_0 | exact fa_71_3 | exact fa_71_4 | exact fa_74_0 | exact fa_74_1 | exact fa_78_0 | exact fa_78_1 | exact fa_78_2 | exact fa_78_3 | exact fa_84_0 | exact fa_89_0 | exact fa_89_1 | exact fa_89_2 | exact fa_89_3 | exact fa_89_4 | exact fa_89_5) (by first | exact l1_21 | exact l1_22 | exact l1_23 | exact l1_24 | exact l1_3 | exact l1_31 | exact l1_4 | exact l1_49 | exact l1_5 | exact l1_50 | exact l1_55 | exact l1_56 | exact l1_57 | exact l1_58 | exact l1_61 | exact l1_62 | exact l1_72 | exact l1_82 | exact l1_87 | exact l1_9) (fun w' ⟨⟨_, _, h0⟩, _⟩ => ⟨_, h0.f, rfl⟩) ?_
  refine yieldS.ok (fun w' _ => r_mul) ⟨.inl ⟨_, rfl⟩, ?_⟩
  refine yFE (by first | exact fa_115_0 | exact fa_115_1 | exact fa_115_2 | exact fa_115_3 | exact fa_115_4 | exact fa_115_5 | exact fa_27_0 | exact fa_27_1 | exact fa_27_2 | exact fa_48_0 | exact fa_48_1 | exact fa_48_2 | exact fa_48_3 | exact fa_52_0 | exact fa_52_1 | exact fa_52_2 | exact fa_52_3 | exact fa_52_4 | exact fa_60_0 | exact fa_60_1 | exact fa_60_2 | exact fa_60_3 | exact fa_60_4 | exact fa_64_0 | exact fa_64_1 | exact fa_64_2 | exact fa_64_3 | exact fa_64_4 | exact fa_71_0 | exact fa_71_3 | exact fa_71_4 | exact fa_74_0 | exact fa_74_1 | exact fa_78_0 | exact fa_78_1 | exact fa_78_2 | exact fa_78_3 | exact fa_84_0 | exact fa_89_0 | exact fa_89_1 | exact fa_89_2 | exact fa_89_3 | exact fa_89_4 | exact fa_89_5) (by first | exact l1_21 | exact l1_22 | exact l1_23 | exact l1_24 | exact l1_3 | exact l1_31 | exact l1_4 | exact l1_49 | exact l1_5 | exact l1_50 | exact l1_55 | exact l1_56 | exact l1_57 | exact l1_58 | exact l1_61 | exact l1_62 | exact l1_72 | exact l1_82 | exact l1_87 | exact l1_9) (fun w' ⟨⟨_, _, h0⟩, _⟩ => ⟨_, h0.f, rfl⟩) ?_
  refine yieldS.ok (fun w' _ => r_add) ?_
  refine yfB (fun w' hw => hw.2.boxed) (by first | exact fa_115_0 | exact fa_115_1 | exact fa_115_2 | exact fa_115_3 | exact fa_115_4 | exact fa_115_5 | exact fa_27_0 | exact fa_27_1 | exact fa_27_2 | exact fa_48_0 | exact fa_48_1 | exact fa_48_2 | exact fa_48_3 | exact fa_52_0 | exact fa_52_1 | exact fa_52_2 | exact fa_52_3 | exact fa_52_4 | exact fa_60_0 | exact fa_60_1 | exact fa_60_2 | exact fa_60_3 | exact fa_60_4 | exact fa_64_0 | exact fa_64_1 | exact fa_64_2 | exact fa_64_3 | exact fa_64_4 | exact fa_71_0 | exact fa_71_3 | exact fa_71_4 | exact fa_74_0 | exact fa_74_1 | exact fa_78_0 | exact fa_78_1 | exact fa_78_2 | exact fa_78_3 | exact fa_84_0 | exact fa_89_0 | exact fa_89_1 | exact fa_89_2 | exact fa_89_3 | exact fa_89_4 | exact fa_89_5) (by first | exact l1_21 | exact l1_22 | exact l1_23 | exact l1_24 | exact l1_3 | exact l1_31 | exact l1_4 | exact l1_49 | exact l1_5 | exact l1_50 | exact l1_55 | exact l1_56 | exact l1_57 | exact l1_58 | exact l1_61 | exact l1_62 | exact l1_72 | exact l1_82 | exact l1_87 | exact l1_9) rfl ?_
  refine (addE_ok hk hl).mono fun r w6 ⟨h6, k6⟩ => ?_
  have hb6 : Blk w6 w3.drew.heap.size [i64 (o i), i64 (a i), i64 0] 27 := k6.blk (h5.ext D5) fun hn => hn (.inr rfl)
  refine ⟨⟨ms0 h6, hb6⟩, ?_⟩
  refine ldA hb6.boxed la_27 rfl ?_
  refine (hdo w6 (h6.less fun i hi => .inl hi)).mono fun r w7 ⟨hr, h7, k7⟩ => ?_
  subst hr
  refine V_neqI.2 ?_
  simp only [ne_eq, not_true_eq_false, decide_false, ifD_false]
  refine ⟨.inl ⟨_, rfl⟩, ?_⟩
  refine ldFS (by first | exact fa_115_0 | exact fa_115_1 | exact fa_115_2 | exact fa_115_3 | exact fa_115_4 | exact fa_115_5 | exact fa_27_0 | exact fa_27_1 | exact fa_27_2 | exact fa_48_0 | exact fa_48_1 | exact fa_48_2 | exact fa_48_3 | exact fa_52_0 | exact fa_52_1 | exact fa_52_2 | exact fa_52_3 | exact fa_52_4 | exact fa_60_0 | exact fa_60_1 | exact fa_60_2 | exact fa_60_3 | exact fa_60_4 | exact fa_64_0 | exact fa_64_1 | exact fa_64_2 | exact fa_64_3 | exact fa_64_4 | exact fa_71_0 | exact fa_71_3 | exact fa_71_4 | exact fa_74_0 | exact fa_74_1 | exact fa_78_0 | exact fa_78_1 | exact fa_78_2 | exact fa_78_3 | exact fa_84_0 | exact fa_89_0 | exact fa_89_1 | exact fa_89_2 | exact fa_89_3 | exact fa_89_4 | exact fa_89_5) (by first | exact l1_21 | exact l1_22 | exact l1_23 | exact l1_24 | exact l1_3 | exact l1_31 | exact l1_4 | exact l1_49 | exact l1_5 | exact l1_50 | exact l1_55 | exact l1_56 | exact l1_57 | exact l1_58 | exact l1_61 | exact l1_62 | exact l1_72 | exact l1_82 | exact l1_87 | exact l1_9) h7.cells rfl ?_
  have low : Kp H w5.drew w6 := k6.mono fun i hi hH => hi (.inl hH)
  exact hR _ _ h7 (((k2.trans (Kp.of_ext (X5.trans D5))).trans low).trans k7)
end Go.Proofs.Ytbhnelajekgliaa
