/- A node, of a raw one. -/
import Derived.Test.YtendijaeihljeaaDoorNd1
namespace Go.Proofs.YtendijaeihljeaaDoor
open Go.Vc
/-- The table of the twelve operations lies in its variable. -/
def BinsOk (w : World) : Prop := ∀ j, j < 12 → ∃ n, w.cell? ⟨0, j, none⟩ = some (i64 n)
theorem BinsOk.ext {w w' : World} (h : BinsOk w) (hx : Ext w w') : BinsOk w' := fun j hj => by
  obtain ⟨n, hn⟩ := h j hj
  exact ⟨n, hx.cell hn⟩
/-- A slice that lies in a row of whole numbers. -/
def Ty3 (w : World) (sv : Value) : Prop := ∀ b off n c, sv = .slice (some ⟨b, off, none⟩) n c → ∃ cs fr, w.heap[b]? = some (.cells cs 3 fr)
theorem Ty3.ext {w w' : World} {sv : Value} (h : Ty3 w sv) (hx : Ext w w') : Ty3 w' sv := fun b off n c he => by
  obtain ⟨cs, fr, h1⟩ := h b off n c he
  exact ⟨cs, fr, hx.obj h1⟩
theorem Ty3.nil (w : World) : Ty3 w (.slice none 0 0) := fun _ _ _ _ h => by cases h
theorem Ty3.own {w : World} {B n : Nat} {v : Value} {xs : List Value} (h : w.ownsRow B 3 1 v n xs) : Ty3 w v := fun b off n' c he => by
  rcases h.2 with ⟨h1, _⟩ | ⟨g, cap, cur, h1, _, h2, _⟩
  · rw [h1] at he; cases he
  · rw [h1] at he
    cases he
    exact ⟨_, _, h2⟩
/-- A node whose arguments lie in a row of whole numbers. -/
def NodeT (w : World) (v : Value) (g : GNode) : Prop := ∃ sv, v = g.val sv ∧ IntsAre w sv g.args ∧ Ty3 w sv
theorem NodeT.is {w : World} {v : Value} {g : GNode} (h : NodeT w v g) : NodeIs w v g := by
  obtain ⟨sv, h1, h2, _⟩ := h
  exact ⟨sv, h1, h2⟩
theorem NodeT.ext {w w' : World} {v : Value} {g : GNode} (h : NodeT w v g) (hx : Ext w w') : NodeT w' v g := by
  obtain ⟨sv, h1, h2, h3⟩ := h
  exact ⟨sv, h1, h2.ext hx, h3.ext hx⟩
/-- Where a row of another kind alone has changed. -/
theorem NodeT.grown {w w' : World} {v : Value} {g : GNode} {k : Nat} {cs : Array Value} {e : TypeId} {fr : Nat × Nat} (h : NodeT w v g) (hg : w.grownBy w' (some k)) (hk : w.heap[k]? = some (.cells cs e fr)) (he : e ≠ 3) : NodeT w' v g := by
  obtain ⟨sv, h1, h2, h3⟩ := h
  have same : ∀ b off n c, sv = .slice (some ⟨b, off, none⟩) n c → w'.heap[b]? = w.heap[b]? := fun b off n c hs => by
    obtain ⟨cs', fr', h4⟩ := h3 b off n c hs
    refine hg.block b (Array.getElem?_eq_some_iff.1 h4).1 fun hbk => ?_
    cases hbk
    rw [h4] at hk
    cases hk
    exact he rfl
  refine ⟨sv, h1, ⟨h2.1, ?_⟩, fun b off n c hs => ?_⟩
  · rcases h2.2 with h4 | ⟨b, off, cap, h4, h5, h6, h7⟩
    · exact .inl h4
    · refine .inr ⟨b, off, cap, h4, h5, h6, fun j u hj => ?_⟩
      have := h7 j u hj
      unfold World.cell? at this ⊢
      rw [same b off _ _ h4]; exact this
  · obtain ⟨cs', fr', h4⟩ := h3 b off n c hs
    exact ⟨cs', fr', by rw [same b off n c hs]; exact h4⟩
theorem NodeT.grown' {w w' : World} {v x : Value} {g : GNode} {B n sz : Nat} {e : TypeId} {xs : List Value} (h : NodeT w v g) (ho : w.ownsRow B e sz x n xs) (hg : w.grownBy w' x.ownBlock) (he : e ≠ 3) : NodeT w' v g := by
  rcases ho.2 with ⟨rfl, _⟩ | ⟨k, cap, cur, rfl, _, h2, _⟩
  · exact h.ext hg
  · exact h.grown hg h2 he
/-- Some node, of few arguments. -/
def SomeNode (w : World) (r : Value) : Prop := ∃ g, NodeT w r g ∧ g.args.length ≤ 6
def rawCells (k d o n a b c t : Int) (sv : Value) : List Value := [i64 k, i64 d, i64 o, i64 n, i64 a, i64 b, i64 c, i64 t, sv]
def nodeRest (xb rb : Nat) (to : Int) (av : Value) (w : World) (R : Value → World → Prop) : Prop :=
  V Tryd.prog (Instr.fieldAt 82 (Value.pointer (some ⟨xb, 0, none⟩)) 1) w fun t54 w29 =>
  V Tryd.prog (Instr.loadAt 3 t54) w29 fun t55 w30 =>
  dynD Tryd.prog (Value.func (.func 50) #[] #[.pointer (some ⟨rb, 0, none⟩)]) #[t55] w30 fun t56 w31 =>
  V Tryd.prog (Instr.fieldAt 82 (Value.pointer (some ⟨xb, 0, none⟩)) 0) w31 fun t57 w32 =>
  V Tryd.prog (Instr.loadAt 3 t57) w32 fun t58 w33 =>
  callD Tryd.prog 9 #[t58, (Value.int IntKind.i64 18)] w33 fun t59 w34 =>
  ∃ J3 : NP 1,
  (V Tryd.prog (do eqGuard .eql 3 (Operand.tmp 59) (Operand.const (Value.int IntKind.i64 0)) t59 (Value.int IntKind.i64 0); binOp .eql 3 t59 (Value.int IntKind.i64 0)) w34 fun t61 w35 =>
  ifD t61 (
  J3 t61 w35) (
  V Tryd.prog (do eqGuard .eql 3 (Operand.tmp 59) (Operand.const (Value.int IntKind.i64 1)) t59 (Value.int IntKind.i64 1); binOp .eql 3 t59 (Value.int IntKind.i64 1)) w35 fun t62 w36 =>
  J3 t62 w36)) ∧
  ∀ (t60 : Value), ∀ w37 : World, J3 t60 w37 → ∀ _f : Env,
  ifD t60 (
  V Tryd.prog (Instr.fieldAt 82 (Value.pointer (some ⟨xb, 0, none⟩)) 3) w37 fun t64 w38 =>
  V Tryd.prog (Instr.loadAt 3 t64) w38 fun t65 w39 =>
  V Tryd.prog (convert 3 21 t65) w39 fun t66 w40 =>
  V Tryd.prog (Instr.build 61 #[(0, t56), (1, t66)]) w40 fun t67 w41 =>
  V Tryd.prog (Instr.makeInterface 61 t67) w41 fun t68 w42 =>
  R t68 w42) (
  V Tryd.prog (do eqGuard .eql 3 (Operand.tmp 59) (Operand.const (Value.int IntKind.i64 2)) t59 (Value.int IntKind.i64 2); binOp .eql 3 t59 (Value.int IntKind.i64 2)) w37 fun t70 w43 =>
  ifD t70 (
  V Tryd.prog (Instr.fieldAt 82 (Value.pointer (some ⟨xb, 0, none⟩)) 4) w43 fun t73 w44 =>
  V Tryd.prog (Instr.loadAt 3 t73) w44 fun t74 w45 =>
  dynD Tryd.prog (Value.func (.func 50) #[] #[.pointer (some ⟨rb, 0, none⟩)]) #[t74] w45 fun t75 w46 =>
  V Tryd.prog (Instr.build 91 #[(0, t56), (1, t75)]) w46 fun t76 w47 =>
  V Tryd.prog (Instr.makeInterface 91 t76) w47 fun t77 w48 =>
  R t77 w48) (
  ∃ J4 : NP 1,
  (V Tryd.prog (do eqGuard .eql 3 (Operand.tmp 59) (Operand.const (Value.int IntKind.i64 3)) t59 (Value.int IntKind.i64 3); binOp .eql 3 t59 (Value.int IntKind.i64 3)) w43 fun t79 w49 =>
  ifD t79 (
  J4 t79 w49) (
  V Tryd.prog (do eqGuard .eql 3 (Operand.tmp 59) (Operand.const (Value.int IntKind.i64 4)) t59 (Value.int IntKind.i64 4); binOp .eql 3 t59 (Value.int IntKind.i64 4)) w49 fun t80 w50 =>
  ifD t80 (
  J4 t80 w50) (
  V Tryd.prog (do eqGuard .eql 3 (Operand.tmp 59) (Operand.const (Value.int IntKind.i64 5)) t59 (Value.int IntKind.i64 5); binOp .eql 3 t59 (Value.int IntKind.i64 5)) w50 fun t81 w51 =>
  J4 t81 w51))) ∧
  ∀ (t78 : Value), ∀ w52 : World, J4 t78 w52 → ∀ _f : Env,
  ifD t78 (
  V Tryd.prog (Instr.fieldAt 82 (Value.pointer (some ⟨xb, 0, none⟩)) 2) w52 fun t82 w53 =>
  V Tryd.prog (Instr.loadAt 3 t82) w53 fun t83 w54 =>
  callD Tryd.prog 9 #[t83, (Value.int IntKind.i64 12)] w54 fun t84 w55 =>
  V Tryd.prog (Instr.indexAt 118 (Value.pointer (some ⟨0, 0, none⟩)) t84) w55 fun t85 w56 =>
  V Tryd.prog (Instr.loadAt 3 t85) w56 fun t86 w57 =>
  ∃ J5 : NP 1,
  (V Tryd.prog (Instr.fieldAt 82 (Value.pointer (some ⟨xb, 0, none⟩)) 2) w57 fun t87 w58 =>
  V Tryd.prog (Instr.loadAt 3 t87) w58 fun t88 w59 =>
  V Tryd.prog (binOp .rem 3 t88 (Value.int IntKind.i64 83)) w59 fun t89 w60 =>
  V Tryd.prog (do eqGuard .eql 3 (Operand.tmp 89) (Operand.const (Value.int IntKind.i64 82)) t89 (Value.int IntKind.i64 82); binOp .eql 3 t89 (Value.int IntKind.i64 82)) w60 fun t90 w61 =>
  ifD t90 (
  V Tryd.prog (Instr.fieldAt 82 (Value.pointer (some ⟨xb, 0, none⟩)) 2) w61 fun t91 w62 =>
  V Tryd.prog (Instr.loadAt 3 t91) w62 fun t92 w63 =>
  callD Tryd.prog 9 #[t92, (Value.int IntKind.i64 45)] w63 fun t93 w64 =>
  J5 t93 w64) (
  J5 t86 w61)) ∧
  ∀ (t12 : Value), ∀ w65 : World, J5 t12 w65 → ∀ _f : Env,
  drawD w65 fun S23 w66 =>
  yieldS Tryd.prog S23 (Instr.fieldAt 82 (Value.pointer (some ⟨xb, 0, none⟩)) 4) fun t97 =>
  yieldS Tryd.prog S23 (Instr.loadAt 3 t97) fun t98 =>
  yieldS Tryd.prog S23 (Instr.fieldAt 82 (Value.pointer (some ⟨xb, 0, none⟩)) 5) fun t101 =>
  yieldS Tryd.prog S23 (Instr.loadAt 3 t101) fun t102 =>
  dynD Tryd.prog (Value.func (.func 50) #[] #[.pointer (some ⟨rb, 0, none⟩)]) #[t98] w66 fun t99 w67 =>
  S23 w67 ∧
  dynD Tryd.prog (Value.func (.func 50) #[] #[.pointer (some ⟨rb, 0, none⟩)]) #[t102] w67 fun t103 w68 =>
  S23 w68 ∧
  yieldS Tryd.prog S23 (Instr.build 68 #[(0, t12), (1, t56), (2, t99), (3, t103)]) fun t104 =>
  yieldS Tryd.prog S23 (Instr.makeInterface 68 t104) fun t105 =>
  R t105 w68) (
  V Tryd.prog (do eqGuard .eql 3 (Operand.tmp 59) (Operand.const (Value.int IntKind.i64 6)) t59 (Value.int IntKind.i64 6); binOp .eql 3 t59 (Value.int IntKind.i64 6)) w52 fun t107 w69 =>
  ifD t107 (
  drawD w69 fun S25 w70 =>
  yieldS Tryd.prog S25 (Instr.build 119 #[(0, (Value.int IntKind.i64 15)), (1, (Value.int IntKind.i64 16)), (2, (Value.int IntKind.i64 26))]) fun t108 =>
  yieldS Tryd.prog S25 (Instr.fieldAt 82 (Value.pointer (some ⟨xb, 0, none⟩)) 2) fun t109 =>
  yieldS Tryd.prog S25 (Instr.loadAt 3 t109) fun t110 =>
  yieldS Tryd.prog S25 (Instr.fieldAt 82 (Value.pointer (some ⟨xb, 0, none⟩)) 4) fun t115 =>
  yieldS Tryd.prog S25 (Instr.loadAt 3 t115) fun t116 =>
  callD Tryd.prog 9 #[t110, (Value.int IntKind.i64 3)] w70 fun t111 w71 =>
  S25 w71 ∧
  yieldS Tryd.prog S25 (Instr.index 119 t108 t111) fun t112 =>
  dynD Tryd.prog (Value.func (.func 50) #[] #[.pointer (some ⟨rb, 0, none⟩)]) #[t116] w71 fun t117 w72 =>
  S25 w72 ∧
  yieldS Tryd.prog S25 (Instr.build 93 #[(0, t112), (1, t56), (2, t117)]) fun t118 =>
  yieldS Tryd.prog S25 (Instr.makeInterface 93 t118) fun t119 =>
  R t119 w72) (
  V Tryd.prog (do eqGuard .eql 3 (Operand.tmp 59) (Operand.const (Value.int IntKind.i64 7)) t59 (Value.int IntKind.i64 7); binOp .eql 3 t59 (Value.int IntKind.i64 7)) w69 fun t121 w73 =>
  ifD t121 (
  drawD w73 fun S27 w74 =>
  yieldS Tryd.prog S27 (Instr.fieldAt 82 (Value.pointer (some ⟨xb, 0, none⟩)) 6) fun t124 =>
  yieldS Tryd.prog S27 (Instr.loadAt 3 t124) fun t125 =>
  yieldS Tryd.prog S27 (Instr.fieldAt 82 (Value.pointer (some ⟨xb, 0, none⟩)) 4) fun t128 =>
  yieldS Tryd.prog S27 (Instr.loadAt 3 t128) fun t129 =>
  yieldS Tryd.prog S27 (Instr.fieldAt 82 (Value.pointer (some ⟨xb, 0, none⟩)) 5) fun t132 =>
  yieldS Tryd.prog S27 (Instr.loadAt 3 t132) fun t133 =>
  dynD Tryd.prog (Value.func (.func 50) #[] #[.pointer (some ⟨rb, 0, none⟩)]) #[t125] w74 fun t126 w75 =>
  S27 w75 ∧
  dynD Tryd.prog (Value.func (.func 50) #[] #[.pointer (some ⟨rb, 0, none⟩)]) #[t129] w75 fun t130 w76 =>
  S27 w76 ∧
  dynD Tryd.prog (Value.func (.func 50) #[] #[.pointer (some ⟨rb, 0, none⟩)]) #[t133] w76 fun t134 w77 =>
  S27 w77 ∧
  yieldS Tryd.prog S27 (Instr.build 95 #[(0, t56), (1, t126), (2, t130), (3, t134)]) fun t135 =>
  yieldS Tryd.prog S27 (Instr.makeInterface 95 t135) fun t136 =>
  R t136 w77) (
  ∃ J6 : NP 1,
  (V Tryd.prog (do eqGuard .eql 3 (Operand.tmp 59) (Operand.const (Value.int IntKind.i64 8)) t59 (Value.int IntKind.i64 8); binOp .eql 3 t59 (Value.int IntKind.i64 8)) w73 fun t138 w78 =>
  ifD t138 (
  J6 t138 w78) (
  V Tryd.prog (do eqGuard .eql 3 (Operand.tmp 59) (Operand.const (Value.int IntKind.i64 9)) t59 (Value.int IntKind.i64 9); binOp .eql 3 t59 (Value.int IntKind.i64 9)) w78 fun t139 w79 =>
  J6 t139 w79)) ∧
  ∀ (t137 : Value), ∀ w80 : World, J6 t137 w80 → ∀ _f : Env,
  ifD t137 (
  V Tryd.prog (Instr.build 50 #[]) w80 fun t140 w81 =>
  V Tryd.prog (Instr.makeInterface 50 t140) w81 fun t141 w82 =>
  R t141 w82) (
  V Tryd.prog (do eqGuard .eql 3 (Operand.tmp 59) (Operand.const (Value.int IntKind.i64 10)) t59 (Value.int IntKind.i64 10); binOp .eql 3 t59 (Value.int IntKind.i64 10)) w80 fun t143 w83 =>
  ifD t143 (
  V Tryd.prog (Instr.build 97 #[(0, (i64 to))]) w83 fun t145 w84 =>
  V Tryd.prog (Instr.makeInterface 97 t145) w84 fun t146 w85 =>
  R t146 w85) (
  ∃ J7 : NP 1,
  (V Tryd.prog (do eqGuard .eql 3 (Operand.tmp 59) (Operand.const (Value.int IntKind.i64 11)) t59 (Value.int IntKind.i64 11); binOp .eql 3 t59 (Value.int IntKind.i64 11)) w83 fun t148 w86 =>
  ifD t148 (
  J7 t148 w86) (
  V Tryd.prog (do eqGuard .eql 3 (Operand.tmp 59) (Operand.const (Value.int IntKind.i64 12)) t59 (Value.int IntKind.i64 12); binOp .eql 3 t59 (Value.int IntKind.i64 12)) w86 fun t149 w87 =>
  J7 t149 w87)) ∧
  ∀ (t147 : Value), ∀ w88 : World, J7 t147 w88 → ∀ _f : Env,
  ifD t147 (
  V Tryd.prog (Instr.fieldAt 82 (Value.pointer (some ⟨xb, 0, none⟩)) 6) w88 fun t151 w89 =>
  V Tryd.prog (Instr.loadAt 3 t151) w89 fun t152 w90 =>
  dynD Tryd.prog (Value.func (.func 50) #[] #[.pointer (some ⟨rb, 0, none⟩)]) #[t152] w90 fun t153 w91 =>
  V Tryd.prog (Instr.build 99 #[(0, t153), (1, (i64 to))]) w91 fun t155 w92 =>
  V Tryd.prog (Instr.makeInterface 99 t155) w92 fun t156 w93 =>
  R t156 w93) (
  V Tryd.prog (do eqGuard .eql 3 (Operand.tmp 59) (Operand.const (Value.int IntKind.i64 13)) t59 (Value.int IntKind.i64 13); binOp .eql 3 t59 (Value.int IntKind.i64 13)) w88 fun t158 w94 =>
  ifD t158 (
  V Tryd.prog (Instr.fieldAt 82 (Value.pointer (some ⟨xb, 0, none⟩)) 3) w94 fun t160 w95 =>
  V Tryd.prog (Instr.loadAt 3 t160) w95 fun t161 w96 =>
  callD Tryd.prog 9 #[t161, (Value.int IntKind.i64 9)] w96 fun t162 w97 =>
  V Tryd.prog (Instr.build 108 #[(0, t56), (1, t162)]) w97 fun t163 w98 =>
  V Tryd.prog (Instr.makeInterface 108 t163) w98 fun t164 w99 =>
  R t164 w99) (
  V Tryd.prog (do eqGuard .eql 3 (Operand.tmp 59) (Operand.const (Value.int IntKind.i64 14)) t59 (Value.int IntKind.i64 14); binOp .eql 3 t59 (Value.int IntKind.i64 14)) w94 fun t166 w100 =>
  ifD t166 (
  drawD w100 fun S39 w101 =>
  yieldS Tryd.prog S39 (Instr.fieldAt 82 (Value.pointer (some ⟨xb, 0, none⟩)) 3) fun t167 =>
  yieldS Tryd.prog S39 (Instr.loadAt 3 t167) fun t168 =>
  yieldS Tryd.prog S39 (Instr.fieldAt 82 (Value.pointer (some ⟨xb, 0, none⟩)) 4) fun t171 =>
  yieldS Tryd.prog S39 (Instr.loadAt 3 t171) fun t172 =>
  callD Tryd.prog 9 #[t168, (Value.int IntKind.i64 8)] w101 fun t169 w102 =>
  S39 w102 ∧
  dynD Tryd.prog (Value.func (.func 50) #[] #[.pointer (some ⟨rb, 0, none⟩)]) #[t172] w102 fun t173 w103 =>
  S39 w103 ∧
  yieldS Tryd.prog S39 (Instr.build 110 #[(0, t169), (1, t173)]) fun t174 =>
  yieldS Tryd.prog S39 (Instr.makeInterface 110 t174) fun t175 =>
  R t175 w103) (
  V Tryd.prog (do eqGuard .eql 3 (Operand.tmp 59) (Operand.const (Value.int IntKind.i64 15)) t59 (Value.int IntKind.i64 15); binOp .eql 3 t59 (Value.int IntKind.i64 15)) w100 fun t177 w104 =>
  ifD t177 (
  V Tryd.prog (Instr.build 120 #[(0, (Value.int IntKind.i64 17)), (1, (Value.int IntKind.i64 18)), (2, (Value.int IntKind.i64 27)), (3, (Value.int IntKind.i64 28)), (4, (Value.int IntKind.i64 29)), (5, (Value.int IntKind.i64 30)), (6, (Value.int IntKind.i64 31)), (7, (Value.int IntKind.i64 32)), (8, (Value.int IntKind.i64 36)), (9, (Value.int IntKind.i64 6))]) w104 fun t178 w105 =>
  V Tryd.prog (Instr.alloc 120 true (.tuple #[])) w105 fun t13 w106 =>
  U Tryd.prog (Instr.storeAt 120 t13 t178) w106 fun _ w107 =>
  V Tryd.prog (Instr.fieldAt 82 (Value.pointer (some ⟨xb, 0, none⟩)) 2) w107 fun t179 w108 =>
  V Tryd.prog (Instr.loadAt 3 t179) w108 fun t180 w109 =>
  callD Tryd.prog 9 #[t180, (Value.int IntKind.i64 10)] w109 fun t181 w110 =>
  V Tryd.prog (Instr.build 120 #[(0, (Value.int IntKind.i64 2)), (1, (Value.int IntKind.i64 2)), (2, (Value.int IntKind.i64 1)), (3, (Value.int IntKind.i64 1)), (4, (Value.int IntKind.i64 2)), (5, (Value.int IntKind.i64 3)), (6, (Value.int IntKind.i64 5)), (7, (Value.int IntKind.i64 5)), (8, (Value.int IntKind.i64 3)), (9, (Value.int IntKind.i64 2))]) w110 fun t182 w111 =>
  V Tryd.prog (Instr.index 120 t182 t181) w111 fun t184 w112 =>
  ∃ (I8 : NP 2) (μ8 : NF 2), I8 (Value.slice none 0 0) (Value.int IntKind.i64 0) w112 ∧
  ∀ (t16 : Value) (t17 : Value), ∀ w113 : World, I8 t16 t17 w113 → ∀ _f : Env,
  V Tryd.prog (binOp .lss 3 t17 t184) w113 fun t187 w114 =>
  ifD t187 (
  V Tryd.prog (Instr.fieldAt 82 (Value.pointer (some ⟨xb, 0, none⟩)) 4) w114 fun t192 w115 =>
  V Tryd.prog (Instr.loadAt 3 t192) w115 fun t193 w116 =>
  V Tryd.prog (binOp .mul 3 (Value.int IntKind.i64 7) t17) w116 fun t195 w117 =>
  V Tryd.prog (binOp .add 3 t193 t195) w117 fun t196 w118 =>
  dynD Tryd.prog (Value.func (.func 50) #[] #[.pointer (some ⟨rb, 0, none⟩)]) #[t196] w118 fun t197 w119 =>
  V Tryd.prog (Instr.buildSlice 35 1 #[(0, t197)]) w119 fun t198 w120 =>
  V Tryd.prog (Builtin.append_ #[35, 35] 35 #[t16, t198]) w120 fun t199 w121 =>
  V Tryd.prog (binOp .add 3 t17 (Value.int IntKind.i64 1)) w121 fun t189 w122 =>
  I8 t199 t189 w122 ∧ μ8 t199 t189 w122 < μ8 t16 t17 w113) (
  ∃ J9 : NP 1,
  (V Tryd.prog (Instr.fieldAt 82 (Value.pointer (some ⟨xb, 0, none⟩)) 5) w114 fun t200 w123 =>
  V Tryd.prog (Instr.loadAt 3 t200) w123 fun t201 w124 =>
  V Tryd.prog (binOp .rem 3 t201 (Value.int IntKind.i64 13)) w124 fun t202 w125 =>
  V Tryd.prog (do eqGuard .eql 3 (Operand.tmp 202) (Operand.const (Value.int IntKind.i64 12)) t202 (Value.int IntKind.i64 12); binOp .eql 3 t202 (Value.int IntKind.i64 12)) w125 fun t203 w126 =>
  ifD t203 (
  J9 av w126) (
  J9 t16 w126)) ∧
  ∀ (t16_1 : Value), ∀ w127 : World, J9 t16_1 w127 → ∀ _f : Env,
  ∃ J10 : NP 1,
  (V Tryd.prog (Instr.fieldAt 82 (Value.pointer (some ⟨xb, 0, none⟩)) 6) w127 fun t206 w128 =>
  V Tryd.prog (Instr.loadAt 3 t206) w128 fun t207 w129 =>
  V Tryd.prog (binOp .rem 3 t207 (Value.int IntKind.i64 3)) w129 fun t208 w130 =>
  V Tryd.prog (do eqGuard .eql 3 (Operand.tmp 208) (Operand.const (Value.int IntKind.i64 0)) t208 (Value.int IntKind.i64 0); binOp .eql 3 t208 (Value.int IntKind.i64 0)) w130 fun t209 w131 =>
  ifD t209 (
  J10 (Value.int IntKind.i64 (-1)) w131) (
  J10 t56 w131)) ∧
  ∀ (t18 : Value), ∀ w132 : World, J10 t18 w132 → ∀ _f : Env,
  drawD w132 fun S54 w133 =>
  yieldS Tryd.prog S54 (Instr.indexAt 120 t13 t181) fun t211 =>
  yieldS Tryd.prog S54 (Instr.loadAt 3 t211) fun t212 =>
  yieldS Tryd.prog S54 (Instr.fieldAt 82 (Value.pointer (some ⟨xb, 0, none⟩)) 5) fun t213 =>
  yieldS Tryd.prog S54 (Instr.loadAt 3 t213) fun t214 =>
  callD Tryd.prog 9 #[t214, (Value.int IntKind.i64 7)] w133 fun t215 w134 =>
  S54 w134 ∧
  yieldS Tryd.prog S54 (Instr.build 112 #[(0, t212), (1, (Value.int IntKind.i64 3)), (2, t215), (3, t18), (4, t16_1)]) fun t218 =>
  yieldS Tryd.prog S54 (Instr.makeInterface 112 t218) fun t219 =>
  R t219 w134)) (
  V Tryd.prog (do eqGuard .eql 3 (Operand.tmp 59) (Operand.const (Value.int IntKind.i64 16)) t59 (Value.int IntKind.i64 16); binOp .eql 3 t59 (Value.int IntKind.i64 16)) w104 fun t221 w135 =>
  ifD t221 (
  ∃ J11 : NP 1,
  (V Tryd.prog (Instr.fieldAt 82 (Value.pointer (some ⟨xb, 0, none⟩)) 6) w135 fun t223 w136 =>
  V Tryd.prog (Instr.loadAt 3 t223) w136 fun t224 w137 =>
  V Tryd.prog (binOp .rem 3 t224 (Value.int IntKind.i64 3)) w137 fun t225 w138 =>
  V Tryd.prog (do eqGuard .eql 3 (Operand.tmp 225) (Operand.const (Value.int IntKind.i64 0)) t225 (Value.int IntKind.i64 0); binOp .eql 3 t225 (Value.int IntKind.i64 0)) w138 fun t226 w139 =>
  ifD t226 (
  J11 (Value.int IntKind.i64 (-1)) w139) (
  J11 t56 w139)) ∧
  ∀ (t19 : Value), ∀ w140 : World, J11 t19 w140 → ∀ _f : Env,
  V Tryd.prog (Builtin.len_ #[35] 3 #[av]) w140 fun t229 w141 =>
  V Tryd.prog (Builtin.min_ #[3, 3] 3 #[t229, (Value.int IntKind.i64 4)]) w141 fun t230 w142 =>
  V Tryd.prog (Instr.sliceAt 35 av none (some t230) none) w142 fun t231 w143 =>
  V Tryd.prog (Instr.fieldAt 82 (Value.pointer (some ⟨xb, 0, none⟩)) 4) w143 fun t232 w144 =>
  V Tryd.prog (Instr.loadAt 3 t232) w144 fun t233 w145 =>
  V Tryd.prog (binOp .rem 3 t233 (Value.int IntKind.i64 2)) w145 fun t234 w146 =>
  V Tryd.prog (do eqGuard .eql 3 (Operand.tmp 234) (Operand.const (Value.int IntKind.i64 0)) t234 (Value.int IntKind.i64 0); binOp .eql 3 t234 (Value.int IntKind.i64 0)) w146 fun t235 w147 =>
  ifD t235 (
  V Tryd.prog (Instr.fieldAt 82 (Value.pointer (some ⟨xb, 0, none⟩)) 3) w147 fun t236 w148 =>
  V Tryd.prog (Instr.loadAt 3 t236) w148 fun t237 w149 =>
  callD Tryd.prog 9 #[t237, (Value.int IntKind.i64 9)] w149 fun t238 w150 =>
  V Tryd.prog (Instr.build 114 #[(0, t238), (1, t19), (2, t231)]) w150 fun t241 w151 =>
  V Tryd.prog (Instr.makeInterface 114 t241) w151 fun t242 w152 =>
  R t242 w152) (
  V Tryd.prog (Instr.fieldAt 82 (Value.pointer (some ⟨xb, 0, none⟩)) 3) w147 fun t243 w153 =>
  V Tryd.prog (Instr.loadAt 3 t243) w153 fun t244 w154 =>
  callD Tryd.prog 9 #[t244, (Value.int IntKind.i64 5)] w154 fun t245 w155 =>
  V Tryd.prog (Instr.build 116 #[(0, t245), (1, t19), (2, t231)]) w155 fun t248 w156 =>
  V Tryd.prog (Instr.makeInterface 116 t248) w156 fun t249 w157 =>
  R t249 w157)) (
  V Tryd.prog (Instr.fieldAt 82 (Value.pointer (some ⟨xb, 0, none⟩)) 4) w135 fun t250 w158 =>
  V Tryd.prog (Instr.loadAt 3 t250) w158 fun t251 w159 =>
  V Tryd.prog (binOp .rem 3 t251 (Value.int IntKind.i64 3)) w159 fun t252 w160 =>
  V Tryd.prog (do eqGuard .eql 3 (Operand.tmp 252) (Operand.const (Value.int IntKind.i64 0)) t252 (Value.int IntKind.i64 0); binOp .eql 3 t252 (Value.int IntKind.i64 0)) w160 fun t253 w161 =>
  ifD t253 (
  V Tryd.prog (Instr.build 54 #[(0, (Value.int IntKind.i64 (-1)))]) w161 fun t254 w162 =>
  V Tryd.prog (Instr.makeInterface 54 t254) w162 fun t255 w163 =>
  R t255 w163) (
  V Tryd.prog (Instr.fieldAt 82 (Value.pointer (some ⟨xb, 0, none⟩)) 4) w161 fun t257 w164 =>
  V Tryd.prog (Instr.loadAt 3 t257) w164 fun t258 w165 =>
  dynD Tryd.prog (Value.func (.func 50) #[] #[.pointer (some ⟨rb, 0, none⟩)]) #[t258] w165 fun t259 w166 =>
  V Tryd.prog (Instr.build 54 #[(0, t259)]) w166 fun t260 w167 =>
  V Tryd.prog (Instr.makeInterface 54 t260) w167 fun t261 w168 =>
  R t261 w168)))))))))))))
theorem somePlain {w : World} {g : GNode} (h : g.args = []) : SomeNode w (g.val (.slice none 0 0)) := ⟨g, ⟨_, rfl, by rw [h]; exact ints_nil w, Ty3.nil w⟩, by rw [h]; exact Nat.zero_le _⟩
set_option maxHeartbeats 4000000 in
theorem nodeRest_ok {xb rb : Nat} {to regs k d o n a b c t : Int} {sv av : Value} {w : World} {xs : List Int} (h1 : Boxed w xb (rawCells k d o n a b c t sv)) (hreg : w.cell? ⟨rb, 0, none⟩ = some (i64 regs)) (hr : regs ≤ 1000000) (hbins : BinsOk w)
    (hav : IntsAre w av xs) (htv : Ty3 w av) (hxs : xs.length ≤ 6) {w0 : World} (X0 : Ext w0 w) : nodeRest xb rb to av w fun r w' => SomeNode w' r ∧ Ext w0 w' := by
  unfold nodeRest
  have hB : Boxed w.drew xb (rawCells k d o n a b c t sv) := h1.ext (Ext.refl _).drew
  have hregB : w.drew.cell? ⟨rb, 0, none⟩ = some (i64 regs) := (Ext.refl _).drew.cell hreg
  have XD : Ext w w.drew := (Ext.refl _).drew
  refine ldB h1 (by first | exact fa_108_0 | exact fa_108_1 | exact fa_110_0 | exact fa_110_1 | exact fa_112_0 | exact fa_112_1 | exact fa_112_2 | exact fa_112_3 | exact fa_112_4 | exact fa_114_0 | exact fa_114_1 | exact fa_114_2 | exact fa_116_0 | exact fa_116_1 | exact fa_116_2 | exact fa_26_0 | exact fa_26_1 | exact fa_26_2 | exact fa_37_0 | exact fa_37_1 | exact fa_44_0 | exact fa_44_1 | exact fa_44_2 | exact fa_54_0 | exact fa_61_0 | exact fa_61_1 | exact fa_68_0 | exact fa_68_1 | exact fa_68_2 | exact fa_68_3 | exact fa_70_0 | exact fa_70_1 | exact fa_70_2 | exact fa_76_0 | exact fa_76_1 | exact fa_76_2 | exact fa_76_3 | exact fa_76_6 | exact fa_76_7 | exact fa_82_0 | exact fa_82_1 | exact fa_82_2 | exact fa_82_3 | exact fa_82_4 | exact fa_82_5 | exact fa_82_6 | exact fa_82_7 | exact fa_82_8 | exact fa_91_0 | exact fa_91_1 | exact fa_93_0 | exact fa_93_1 | exact fa_93_2 | exact fa_95_0 | exact fa_95_1 | exact fa_95_2 | exact fa_95_3 | exact fa_97_0 | exact fa_99_0 | exact fa_99_1) (by first | exact l1_21 | exact l1_24 | exact l1_28 | exact l1_3 | exact l1_35 | exact l1_4 | exact l1_42 | exact l1_52 | exact l1_58) rfl ?_
  refine dyn_reg hreg hr fun dst => ?_
  refine ldB h1 (by first | exact fa_108_0 | exact fa_108_1 | exact fa_110_0 | exact fa_110_1 | exact fa_112_0 | exact fa_112_1 | exact fa_112_2 | exact fa_112_3 | exact fa_112_4 | exact fa_114_0 | exact fa_114_1 | exact fa_114_2 | exact fa_116_0 | exact fa_116_1 | exact fa_116_2 | exact fa_26_0 | exact fa_26_1 | exact fa_26_2 | exact fa_37_0 | exact fa_37_1 | exact fa_44_0 | exact fa_44_1 | exact fa_44_2 | exact fa_54_0 | exact fa_61_0 | exact fa_61_1 | exact fa_68_0 | exact fa_68_1 | exact fa_68_2 | exact fa_68_3 | exact fa_70_0 | exact fa_70_1 | exact fa_70_2 | exact fa_76_0 | exact fa_76_1 | exact fa_76_2 | exact fa_76_3 | exact fa_76_6 | exact fa_76_7 | exact fa_82_0 | exact fa_82_1 | exact fa_82_2 | exact fa_82_3 | exact fa_82_4 | exact fa_82_5 | exact fa_82_6 | exact fa_82_7 | exact fa_82_8 | exact fa_91_0 | exact fa_91_1 | exact fa_93_0 | exact fa_93_1 | exact fa_93_2 | exact fa_95_0 | exact fa_95_1 | exact fa_95_2 | exact fa_95_3 | exact fa_97_0 | exact fa_99_0 | exact fa_99_1) (by first | exact l1_21 | exact l1_24 | exact l1_28 | exact l1_3 | exact l1_35 | exact l1_4 | exact l1_42 | exact l1_52 | exact l1_58) rfl ?_
  refine (pick_ok (by decide) (by decide)).mono fun r w' ⟨⟨kk, hkk, _⟩, hw⟩ => ?_
  subst hkk; have hw := hw.symm; subst hw
  refine ⟨fun v w' => (∃ b : Bool, v = .bool b) ∧ w' = w, V_eqlI.2 (ifD.mk (fun _ => ⟨⟨_, rfl⟩, rfl⟩) fun _ => V_eqlI.2 ⟨⟨_, rfl⟩, rfl⟩), ?_⟩
  rintro _ w ⟨⟨bb, rfl⟩, rfl⟩ _
  refine ifD.mk (fun _ => ?_) fun _ => ?_
  · refine ldB h1 (by first | exact fa_108_0 | exact fa_108_1 | exact fa_110_0 | exact fa_110_1 | exact fa_112_0 | exact fa_112_1 | exact fa_112_2 | exact fa_112_3 | exact fa_112_4 | exact fa_114_0 | exact fa_114_1 | exact fa_114_2 | exact fa_116_0 | exact fa_116_1 | exact fa_116_2 | exact fa_26_0 | exact fa_26_1 | exact fa_26_2 | exact fa_37_0 | exact fa_37_1 | exact fa_44_0 | exact fa_44_1 | exact fa_44_2 | exact fa_54_0 | exact fa_61_0 | exact fa_61_1 | exact fa_68_0 | exact fa_68_1 | exact fa_68_2 | exact fa_68_3 | exact fa_70_0 | exact fa_70_1 | exact fa_70_2 | exact fa_76_0 | exact fa_76_1 | exact fa_76_2 | exact fa_76_3 | exact fa_76_6 | exact fa_76_7 | exact fa_82_0 | exact fa_82_1 | exact fa_82_2 | exact fa_82_3 | exact fa_82_4 | exact fa_82_5 | exact fa_82_6 | exact fa_82_7 | exact fa_82_8 | exact fa_91_0 | exact fa_91_1 | exact fa_93_0 | exact fa_93_1 | exact fa_93_2 | exact fa_95_0 | exact fa_95_1 | exact fa_95_2 | exact fa_95_3 | exact fa_97_0 | exact fa_99_0 | exact fa_99_1) (by first | exact l1_21 | exact l1_24 | exact l1_28 | exact l1_3 | exact l1_35 | exact l1_4 | exact l1_42 | exact l1_52 | exact l1_58) rfl ?_
    refine V_cv_3_21.2 ?_
    refine bld bd_61 [(0, i64 dst), (1, _)] rfl rfl ?_
    exact mki mi_61 ⟨somePlain (g := .const dst _) rfl, X0⟩
  refine V_eqlI.2 (ifD.mk (fun _ => ?_) fun _ => ?_)
  · refine ldB h1 (by first | exact fa_108_0 | exact fa_108_1 | exact fa_110_0 | exact fa_110_1 | exact fa_112_0 | exact fa_112_1 | exact fa_112_2 | exact fa_112_3 | exact fa_112_4 | exact fa_114_0 | exact fa_114_1 | exact fa_114_2 | exact fa_116_0 | exact fa_116_1 | exact fa_116_2 | exact fa_26_0 | exact fa_26_1 | exact fa_26_2 | exact fa_37_0 | exact fa_37_1 | exact fa_44_0 | exact fa_44_1 | exact fa_44_2 | exact fa_54_0 | exact fa_61_0 | exact fa_61_1 | exact fa_68_0 | exact fa_68_1 | exact fa_68_2 | exact fa_68_3 | exact fa_70_0 | exact fa_70_1 | exact fa_70_2 | exact fa_76_0 | exact fa_76_1 | exact fa_76_2 | exact fa_76_3 | exact fa_76_6 | exact fa_76_7 | exact fa_82_0 | exact fa_82_1 | exact fa_82_2 | exact fa_82_3 | exact fa_82_4 | exact fa_82_5 | exact fa_82_6 | exact fa_82_7 | exact fa_82_8 | exact fa_91_0 | exact fa_91_1 | exact fa_93_0 | exact fa_93_1 | exact fa_93_2 | exact fa_95_0 | exact fa_95_1 | exact fa_95_2 | exact fa_95_3 | exact fa_97_0 | exact fa_99_0 | exact fa_99_1) (by first | exact l1_21 | exact l1_24 | exact l1_28 | exact l1_3 | exact l1_35 | exact l1_4 | exact l1_42 | exact l1_52 | exact l1_58) rfl ?_
    refine dyn_reg hreg hr fun p => ?_
    refine bld bd_91 [(0, i64 dst), (1, i64 p)] rfl rfl ?_
    exact mki mi_91 ⟨somePlain (g := .move dst p) rfl, X0⟩
  refine ⟨fun v w' => (∃ b : Bool, v = .bool b) ∧ w' = w, V_eqlI.2 (ifD.mk (fun _ => ⟨⟨_, rfl⟩, rfl⟩) fun _ => V_eqlI.2 (ifD.mk (fun _ => ⟨⟨_, rfl⟩, rfl⟩) fun _ => V_eqlI.2 ⟨⟨_, rfl⟩, rfl⟩)), ?_⟩
  rintro _ w ⟨⟨bb, rfl⟩, rfl⟩ _
  refine ifD.mk (fun _ => ?_) fun _ => ?_
  · refine ldB h1 (by first | exact fa_108_0 | exact fa_108_1 | exact fa_110_0 | exact fa_110_1 | exact fa_112_0 | exact fa_112_1 | exact fa_112_2 | exact fa_112_3 | exact fa_112_4 | exact fa_114_0 | exact fa_114_1 | exact fa_114_2 | exact fa_116_0 | exact fa_116_1 | exact fa_116_2 | exact fa_26_0 | exact fa_26_1 | exact fa_26_2 | exact fa_37_0 | exact fa_37_1 | exact fa_44_0 | exact fa_44_1 | exact fa_44_2 | exact fa_54_0 | exact fa_61_0 | exact fa_61_1 | exact fa_68_0 | exact fa_68_1 | exact fa_68_2 | exact fa_68_3 | exact fa_70_0 | exact fa_70_1 | exact fa_70_2 | exact fa_76_0 | exact fa_76_1 | exact fa_76_2 | exact fa_76_3 | exact fa_76_6 | exact fa_76_7 | exact fa_82_0 | exact fa_82_1 | exact fa_82_2 | exact fa_82_3 | exact fa_82_4 | exact fa_82_5 | exact fa_82_6 | exact fa_82_7 | exact fa_82_8 | exact fa_91_0 | exact fa_91_1 | exact fa_93_0 | exact fa_93_1 | exact fa_93_2 | exact fa_95_0 | exact fa_95_1 | exact fa_95_2 | exact fa_95_3 | exact fa_97_0 | exact fa_99_0 | exact fa_99_1) (by first | exact l1_21 | exact l1_24 | exact l1_28 | exact l1_3 | exact l1_35 | exact l1_4 | exact l1_42 | exact l1_52 | exact l1_58) rfl ?_
    refine (pick_ok (by decide) (by decide)).mono fun r w' ⟨⟨ko, hko, hk0, hk12⟩, hw⟩ => ?_
    subst hko; have hw := hw.symm; subst hw
    refine V.ok (r_arr Tryd.underlying118 inf3 hk0 (by simpa using hk12)) ?_
    obtain ⟨op, hop⟩ := hbins ko.toNat (by omega)
    refine V.ok (r_ld_3 (by rw [Nat.zero_add]; exact hop)) ?_
    refine ⟨fun v w' => (∃ q, v = i64 q) ∧ w' = w, ?_, ?_⟩
    · refine ldB h1 (by first | exact fa_108_0 | exact fa_108_1 | exact fa_110_0 | exact fa_110_1 | exact fa_112_0 | exact fa_112_1 | exact fa_112_2 | exact fa_112_3 | exact fa_112_4 | exact fa_114_0 | exact fa_114_1 | exact fa_114_2 | exact fa_116_0 | exact fa_116_1 | exact fa_116_2 | exact fa_26_0 | exact fa_26_1 | exact fa_26_2 | exact fa_37_0 | exact fa_37_1 | exact fa_44_0 | exact fa_44_1 | exact fa_44_2 | exact fa_54_0 | exact fa_61_0 | exact fa_61_1 | exact fa_68_0 | exact fa_68_1 | exact fa_68_2 | exact fa_68_3 | exact fa_70_0 | exact fa_70_1 | exact fa_70_2 | exact fa_76_0 | exact fa_76_1 | exact fa_76_2 | exact fa_76_3 | exact fa_76_6 | exact fa_76_7 | exact fa_82_0 | exact fa_82_1 | exact fa_82_2 | exact fa_82_3 | exact fa_82_4 | exact fa_82_5 | exact fa_82_6 | exact fa_82_7 | exact fa_82_8 | exact fa_91_0 | exact fa_91_1 | exact fa_93_0 | exact fa_93_1 | exact fa_93_2 | exact fa_95_0 | exact fa_95_1 | exact fa_95_2 | exact fa_95_3 | exact fa_97_0 | exact fa_99_0 | exact fa_99_1) (by first | exact l1_21 | exact l1_24 | exact l1_28 | exact l1_3 | exact l1_35 | exact l1_4 | exact l1_42 | exact l1_52 | exact l1_58) rfl ?_
      refine rm (by decide) fun _ _ _ _ => ?_
      refine V_eqlI.2 (ifD.mk (fun _ => ?_) fun _ => ⟨⟨_, rfl⟩, rfl⟩)
      refine ldB h1 (by first | exact fa_108_0 | exact fa_108_1 | exact fa_110_0 | exact fa_110_1 | exact fa_112_0 | exact fa_112_1 | exact fa_112_2 | exact fa_112_3 | exact fa_112_4 | exact fa_114_0 | exact fa_114_1 | exact fa_114_2 | exact fa_116_0 | exact fa_116_1 | exact fa_116_2 | exact fa_26_0 | exact fa_26_1 | exact fa_26_2 | exact fa_37_0 | exact fa_37_1 | exact fa_44_0 | exact fa_44_1 | exact fa_44_2 | exact fa_54_0 | exact fa_61_0 | exact fa_61_1 | exact fa_68_0 | exact fa_68_1 | exact fa_68_2 | exact fa_68_3 | exact fa_70_0 | exact fa_70_1 | exact fa_70_2 | exact fa_76_0 | exact fa_76_1 | exact fa_76_2 | exact fa_76_3 | exact fa_76_6 | exact fa_76_7 | exact fa_82_0 | exact fa_82_1 | exact fa_82_2 | exact fa_82_3 | exact fa_82_4 | exact fa_82_5 | exact fa_82_6 | exact fa_82_7 | exact fa_82_8 | exact fa_91_0 | exact fa_91_1 | exact fa_93_0 | exact fa_93_1 | exact fa_93_2 | exact fa_95_0 | exact fa_95_1 | exact fa_95_2 | exact fa_95_3 | exact fa_97_0 | exact fa_99_0 | exact fa_99_1) (by first | exact l1_21 | exact l1_24 | exact l1_28 | exact l1_3 | exact l1_35 | exact l1_4 | exact l1_42 | exact l1_52 | exact l1_58) rfl ?_
      exact (pick_ok (by decide) (by decide)).mono fun r w' ⟨⟨q, hq, _⟩, hw⟩ => ⟨⟨q, hq⟩, hw⟩
    rintro _ w ⟨⟨q, rfl⟩, rfl⟩ _
    refine drawD.mk' (fun w' => Boxed w' xb (rawCells k d o n a b c t sv)) hB ?_
    refine yfB (fun _ hw => hw) (by first | exact fa_108_0 | exact fa_108_1 | exact fa_110_0 | exact fa_110_1 | exact fa_112_0 | exact fa_112_1 | exact fa_112_2 | exact fa_112_3 | exact fa_112_4 | exact fa_114_0 | exact fa_114_1 | exact fa_114_2 | exact fa_116_0 | exact fa_116_1 | exact fa_116_2 | exact fa_26_0 | exact fa_26_1 | exact fa_26_2 | exact fa_37_0 | exact fa_37_1 | exact fa_44_0 | exact fa_44_1 | exact fa_44_2 | exact fa_54_0 | exact fa_61_0 | exact fa_61_1 | exact fa_68_0 | exact fa_68_1 | exact fa_68_2 | exact fa_68_3 | exact fa_70_0 | exact fa_70_1 | exact fa_70_2 | exact fa_76_0 | exact fa_76_1 | exact fa_76_2 | exact fa_76_3 | exact fa_76_6 | exact fa_76_7 | exact fa_82_0 | exact fa_82_1 | exact fa_82_2 | exact fa_82_3 | exact fa_82_4 | exact fa_82_5 | exact fa_82_6 | exact fa_82_7 | exact fa_82_8 | exact fa_91_0 | exact fa_91_1 | exact fa_93_0 | exact fa_93_1 | exact fa_93_2 | exact fa_95_0 | exact fa_95_1 | exact fa_95_2 | exact fa_95_3 | exact fa_97_0 | exact fa_99_0 | exact fa_99_1) (by first | exact l1_21 | exact l1_24 | exact l1_28 | exact l1_3 | exact l1_35 | exact l1_4 | exact l1_42 | exact l1_52 | exact l1_58) rfl ?_
    refine yfB (fun _ hw => hw) (by first | exact fa_108_0 | exact fa_108_1 | exact fa_110_0 | exact fa_110_1 | exact fa_112_0 | exact fa_112_1 | exact fa_112_2 | exact fa_112_3 | exact fa_112_4 | exact fa_114_0 | exact fa_114_1 | exact fa_114_2 | exact fa_116_0 | exact fa_116_1 | exact fa_116_2 | exact fa_26_0 | exact fa_26_1 | exact fa_26_2 | exact fa_37_0 | exact fa_37_1 | exact fa_44_0 | exact fa_44_1 | exact fa_44_2 | exact fa_54_0 | exact fa_61_0 | exact fa_61_1 | exact fa_68_0 | exact fa_68_1 | exact fa_68_2 | exact fa_68_3 | exact fa_70_0 | exact fa_70_1 | exact fa_70_2 | exact fa_76_0 | exact fa_76_1 | exact fa_76_2 | exact fa_76_3 | exact fa_76_6 | exact fa_76_7 | exact fa_82_0 | exact fa_82_1 | exact fa_82_2 | exact fa_82_3 | exact fa_82_4 | exact fa_82_5 | exact fa_82_6 | exact fa_82_7 | exact fa_82_8 | exact fa_91_0 | exact fa_91_1 | exact fa_93_0 | exact fa_93_1 | exact fa_93_2 | exact fa_95_0 | exact fa_95_1 | exact fa_95_2 | exact fa_95_3 | exact fa_97_0 | exact fa_99_0 | exact fa_99_1) (by first | exact l1_21 | exact l1_24 | exact l1_28 | exact l1_3 | exact l1_35 | exact l1_4 | exact l1_42 | exact l1_52 | exact l1_58) rfl ?_
    refine dyn_reg hregB hr fun p1 => ⟨hB, dyn_reg hregB hr fun p2 => ⟨hB, ?_⟩⟩
    refine yBld bd_68 [(0, i64 q), (1, i64 dst), (2, i64 p1), (3, i64 p2)] rfl rfl ?_
    exact yMki mi_68 ⟨somePlain (g := .bin q dst p1 p2) rfl, X0.trans XD⟩
  refine V_eqlI.2 (ifD.mk (fun _ => ?_) fun _ => ?_)
  · refine drawD.mk' (fun w' => Boxed w' xb (rawCells k d o n a b c t sv)) hB ?_
    refine yieldS.ok (v := .agg #[i64 15, i64 16, i64 26]) (fun w' _ => by kernel_rfl) ?_
    refine yfB (fun _ hw => hw) (by first | exact fa_108_0 | exact fa_108_1 | exact fa_110_0 | exact fa_110_1 | exact fa_112_0 | exact fa_112_1 | exact fa_112_2 | exact fa_112_3 | exact fa_112_4 | exact fa_114_0 | exact fa_114_1 | exact fa_114_2 | exact fa_116_0 | exact fa_116_1 | exact fa_116_2 | exact fa_26_0 | exact fa_26_1 | exact fa_26_2 | exact fa_37_0 | exact fa_37_1 | exact fa_44_0 | exact fa_44_1 | exact fa_44_2 | exact fa_54_0 | exact fa_61_0 | exact fa_61_1 | exact fa_68_0 | exact fa_68_1 | exact fa_68_2 | exact fa_68_3 | exact fa_70_0 | exact fa_70_1 | exact fa_70_2 | exact fa_76_0 | exact fa_76_1 | exact fa_76_2 | exact fa_76_3 | exact fa_76_6 | exact fa_76_7 | exact fa_82_0 | exact fa_82_1 | exact fa_82_2 | exact fa_82_3 | exact fa_82_4 | exact fa_82_5 | exact fa_82_6 | exact fa_82_7 | exact fa_82_8 | exact fa_91_0 | exact fa_91_1 | exact fa_93_0 | exact fa_93_1 | exact fa_93_2 | exact fa_95_0 | exact fa_95_1 | exact fa_95_2 | exact fa_95_3 | exact fa_97_0 | exact fa_99_0 | exact fa_99_1) (by first | exact l1_21 | exact l1_24 | exact l1_28 | exact l1_3 | exact l1_35 | exact l1_4 | exact l1_42 | exact l1_52 | exact l1_58) rfl ?_
    refine yfB (fun _ hw => hw) (by first | exact fa_108_0 | exact fa_108_1 | exact fa_110_0 | exact fa_110_1 | exact fa_112_0 | exact fa_112_1 | exact fa_112_2 | exact fa_112_3 | exact fa_112_4 | exact fa_114_0 | exact fa_114_1 | exact fa_114_2 | exact fa_116_0 | exact fa_116_1 | exact fa_116_2 | exact fa_26_0 | exact fa_26_1 | exact fa_26_2 | exact fa_37_0 | exact fa_37_1 | exact fa_44_0 | exact fa_44_1 | exact fa_44_2 | exact fa_54_0 | exact fa_61_0 | exact fa_61_1 | exact fa_68_0 | exact fa_68_1 | exact fa_68_2 | exact fa_68_3 | exact fa_70_0 | exact fa_70_1 | exact fa_70_2 | exact fa_76_0 | exact fa_76_1 | exact fa_76_2 | exact fa_76_3 | exact fa_76_6 | exact fa_76_7 | exact fa_82_0 | exact fa_82_1 | exact fa_82_2 | exact fa_82_3 | exact fa_82_4 | exact fa_82_5 | exact fa_82_6 | exact fa_82_7 | exact fa_82_8 | exact fa_91_0 | exact fa_91_1 | exact fa_93_0 | exact fa_93_1 | exact fa_93_2 | exact fa_95_0 | exact fa_95_1 | exact fa_95_2 | exact fa_95_3 | exact fa_97_0 | exact fa_99_0 | exact fa_99_1) (by first | exact l1_21 | exact l1_24 | exact l1_28 | exact l1_3 | exact l1_35 | exact l1_4 | exact l1_42 | exact l1_52 | exact l1_58) rfl ?_
    refine (pick_ok (by decide) (by decide)).mono fun r w' ⟨⟨ko, hko, hk0, hk3⟩, hw⟩ => ?_
    subst hko; have hw := hw.symm; subst hw
    refine ⟨hB, ?_⟩
    obtain ⟨uo, huo⟩ : ∃ uo : Int, (#[i64 15, i64 16, i64 26] : Array Value)[ko.toNat]? = some (i64 uo) := by
      have : ko = 0 ∨ ko = 1 ∨ ko = 2 := by omega
      rcases this with rfl | rfl | rfl
      · exact ⟨15, rfl⟩
      · exact ⟨16, rfl⟩
      · exact ⟨26, rfl⟩
    refine yieldS.ok (fun w' _ => r_idx Tryd.underlying119 inf3 ⟨_, Tryd.underlying3⟩ hk0 (by simpa using hk3) huo rfl) ?_
    refine dyn_reg hregB hr fun p1 => ⟨hB, ?_⟩
    refine yBld bd_93 [(0, i64 uo), (1, i64 dst), (2, i64 p1)] rfl rfl ?_
    exact yMki mi_93 ⟨somePlain (g := .un uo dst p1) rfl, X0.trans XD⟩
  refine V_eqlI.2 (ifD.mk (fun _ => ?_) fun _ => ?_)
  · refine drawD.mk' (fun w' => Boxed w' xb (rawCells k d o n a b c t sv)) hB ?_
    refine yfB (fun _ hw => hw) (by first | exact fa_108_0 | exact fa_108_1 | exact fa_110_0 | exact fa_110_1 | exact fa_112_0 | exact fa_112_1 | exact fa_112_2 | exact fa_112_3 | exact fa_112_4 | exact fa_114_0 | exact fa_114_1 | exact fa_114_2 | exact fa_116_0 | exact fa_116_1 | exact fa_116_2 | exact fa_26_0 | exact fa_26_1 | exact fa_26_2 | exact fa_37_0 | exact fa_37_1 | exact fa_44_0 | exact fa_44_1 | exact fa_44_2 | exact fa_54_0 | exact fa_61_0 | exact fa_61_1 | exact fa_68_0 | exact fa_68_1 | exact fa_68_2 | exact fa_68_3 | exact fa_70_0 | exact fa_70_1 | exact fa_70_2 | exact fa_76_0 | exact fa_76_1 | exact fa_76_2 | exact fa_76_3 | exact fa_76_6 | exact fa_76_7 | exact fa_82_0 | exact fa_82_1 | exact fa_82_2 | exact fa_82_3 | exact fa_82_4 | exact fa_82_5 | exact fa_82_6 | exact fa_82_7 | exact fa_82_8 | exact fa_91_0 | exact fa_91_1 | exact fa_93_0 | exact fa_93_1 | exact fa_93_2 | exact fa_95_0 | exact fa_95_1 | exact fa_95_2 | exact fa_95_3 | exact fa_97_0 | exact fa_99_0 | exact fa_99_1) (by first | exact l1_21 | exact l1_24 | exact l1_28 | exact l1_3 | exact l1_35 | exact l1_4 | exact l1_42 | exact l1_52 | exact l1_58) rfl ?_
    refine yfB (fun _ hw => hw) (by first | exact fa_108_0 | exact fa_108_1 | exact fa_110_0 | exact fa_110_1 | exact fa_112_0 | exact fa_112_1 | exact fa_112_2 | exact fa_112_3 | exact fa_112_4 | exact fa_114_0 | exact fa_114_1 | exact fa_114_2 | exact fa_116_0 | exact fa_116_1 | exact fa_116_2 | exact fa_26_0 | exact fa_26_1 | exact fa_26_2 | exact fa_37_0 | exact fa_37_1 | exact fa_44_0 | exact fa_44_1 | exact fa_44_2 | exact fa_54_0 | exact fa_61_0 | exact fa_61_1 | exact fa_68_0 | exact fa_68_1 | exact fa_68_2 | exact fa_68_3 | exact fa_70_0 | exact fa_70_1 | exact fa_70_2 | exact fa_76_0 | exact fa_76_1 | exact fa_76_2 | exact fa_76_3 | exact fa_76_6 | exact fa_76_7 | exact fa_82_0 | exact fa_82_1 | exact fa_82_2 | exact fa_82_3 | exact fa_82_4 | exact fa_82_5 | exact fa_82_6 | exact fa_82_7 | exact fa_82_8 | exact fa_91_0 | exact fa_91_1 | exact fa_93_0 | exact fa_93_1 | exact fa_93_2 | exact fa_95_0 | exact fa_95_1 | exact fa_95_2 | exact fa_95_3 | exact fa_97_0 | exact fa_99_0 | exact fa_99_1) (by first | exact l1_21 | exact l1_24 | exact l1_28 | exact l1_3 | exact l1_35 | exact l1_4 | exact l1_42 | exact l1_52 | exact l1_58) rfl ?_
    refine yfB (fun _ hw => hw) (by first | exact fa_108_0 | exact fa_108_1 | exact fa_110_0 | exact fa_110_1 | exact fa_112_0 | exact fa_112_1 | exact fa_112_2 | exact fa_112_3 | exact fa_112_4 | exact fa_114_0 | exact fa_114_1 | exact fa_114_2 | exact fa_116_0 | exact fa_116_1 | exact fa_116_2 | exact fa_26_0 | exact fa_26_1 | exact fa_26_2 | exact fa_37_0 | exact fa_37_1 | exact fa_44_0 | exact fa_44_1 | exact fa_44_2 | exact fa_54_0 | exact fa_61_0 | exact fa_61_1 | exact fa_68_0 | exact fa_68_1 | exact fa_68_2 | exact fa_68_3 | exact fa_70_0 | exact fa_70_1 | exact fa_70_2 | exact fa_76_0 | exact fa_76_1 | exact fa_76_2 | exact fa_76_3 | exact fa_76_6 | exact fa_76_7 | exact fa_82_0 | exact fa_82_1 | exact fa_82_2 | exact fa_82_3 | exact fa_82_4 | exact fa_82_5 | exact fa_82_6 | exact fa_82_7 | exact fa_82_8 | exact fa_91_0 | exact fa_91_1 | exact fa_93_0 | exact fa_93_1 | exact fa_93_2 | exact fa_95_0 | exact fa_95_1 | exact fa_95_2 | exact fa_95_3 | exact fa_97_0 | exact fa_99_0 | exact fa_99_1) (by first | exact l1_21 | exact l1_24 | exact l1_28 | exact l1_3 | exact l1_35 | exact l1_4 | exact l1_42 | exact l1_52 | exact l1_58) rfl ?_
    refine dyn_reg hregB hr fun p1 => ⟨hB, dyn_reg hregB hr fun p2 => ⟨hB, dyn_reg hregB hr fun p3 => ⟨hB, ?_⟩⟩⟩
    refine yBld bd_95 [(0, i64 dst), (1, i64 p1), (2, i64 p2), (3, i64 p3)] rfl rfl ?_
    exact yMki mi_95 ⟨somePlain (g := .choose dst p1 p2 p3) rfl, X0.trans XD⟩
  refine ⟨fun v w' => (∃ b : Bool, v = .bool b) ∧ w' = w, V_eqlI.2 (ifD.mk (fun _ => ⟨⟨_, rfl⟩, rfl⟩) fun _ => V_eqlI.2 ⟨⟨_, rfl⟩, rfl⟩), ?_⟩
  rintro _ w ⟨⟨bb, rfl⟩, rfl⟩ _
  refine ifD.mk (fun _ => ?_) fun _ => ?_
  · refine bld bd_50 [] rfl rfl ?_
    exact mki mi_50 ⟨somePlain (g := .tick) rfl, X0⟩
  refine V_eqlI.2 (ifD.mk (fun _ => ?_) fun _ => ?_)
  · refine bld bd_97 [(0, i64 to)] rfl rfl ?_
    exact mki mi_97 ⟨somePlain (g := .goto to) rfl, X0⟩
  refine ⟨fun v w' => (∃ b : Bool, v = .bool b) ∧ w' = w, V_eqlI.2 (ifD.mk (fun _ => ⟨⟨_, rfl⟩, rfl⟩) fun _ => V_eqlI.2 ⟨⟨_, rfl⟩, rfl⟩), ?_⟩
  rintro _ w ⟨⟨bb, rfl⟩, rfl⟩ _
  refine ifD.mk (fun _ => ?_) fun _ => ?_
  · refine ldB h1 (by first | exact fa_108_0 | exact fa_108_1 | exact fa_110_0 | exact fa_110_1 | exact fa_112_0 | exact fa_112_1 | exact fa_112_2 | exact fa_112_3 | exact fa_112_4 | exact fa_114_0 | exact fa_114_1 | exact fa_114_2 | exact fa_116_0 | exact fa_116_1 | exact fa_116_2 | exact fa_26_0 | exact fa_26_1 | exact fa_26_2 | exact fa_37_0 | exact fa_37_1 | exact fa_44_0 | exact fa_44_1 | exact fa_44_2 | exact fa_54_0 | exact fa_61_0 | exact fa_61_1 | exact fa_68_0 | exact fa_68_1 | exact fa_68_2 | exact fa_68_3 | exact fa_70_0 | exact fa_70_1 | exact fa_70_2 | exact fa_76_0 | exact fa_76_1 | exact fa_76_2 | exact fa_76_3 | exact fa_76_6 | exact fa_76_7 | exact fa_82_0 | exact fa_82_1 | exact fa_82_2 | exact fa_82_3 | exact fa_82_4 | exact fa_82_5 | exact fa_82_6 | exact fa_82_7 | exact fa_82_8 | exact fa_91_0 | exact fa_91_1 | exact fa_93_0 | exact fa_93_1 | exact fa_93_2 | exact fa_95_0 | exact fa_95_1 | exact fa_95_2 | exact fa_95_3 | exact fa_97_0 | exact fa_99_0 | exact fa_99_1) (by first | exact l1_21 | exact l1_24 | exact l1_28 | exact l1_3 | exact l1_35 | exact l1_4 | exact l1_42 | exact l1_52 | exact l1_58) rfl ?_
    refine dyn_reg hreg hr fun p => ?_
    refine bld bd_99 [(0, i64 p), (1, i64 to)] rfl rfl ?_
    exact mki mi_99 ⟨somePlain (g := .branch p to) rfl, X0⟩
  refine V_eqlI.2 (ifD.mk (fun _ => ?_) fun _ => ?_)
  · refine ldB h1 (by first | exact fa_108_0 | exact fa_108_1 | exact fa_110_0 | exact fa_110_1 | exact fa_112_0 | exact fa_112_1 | exact fa_112_2 | exact fa_112_3 | exact fa_112_4 | exact fa_114_0 | exact fa_114_1 | exact fa_114_2 | exact fa_116_0 | exact fa_116_1 | exact fa_116_2 | exact fa_26_0 | exact fa_26_1 | exact fa_26_2 | exact fa_37_0 | exact fa_37_1 | exact fa_44_0 | exact fa_44_1 | exact fa_44_2 | exact fa_54_0 | exact fa_61_0 | exact fa_61_1 | exact fa_68_0 | exact fa_68_1 | exact fa_68_2 | exact fa_68_3 | exact fa_70_0 | exact fa_70_1 | exact fa_70_2 | exact fa_76_0 | exact fa_76_1 | exact fa_76_2 | exact fa_76_3 | exact fa_76_6 | exact fa_76_7 | exact fa_82_0 | exact fa_82_1 | exact fa_82_2 | exact fa_82_3 | exact fa_82_4 | exact fa_82_5 | exact fa_82_6 | exact fa_82_7 | exact fa_82_8 | exact fa_91_0 | exact fa_91_1 | exact fa_93_0 | exact fa_93_1 | exact fa_93_2 | exact fa_95_0 | exact fa_95_1 | exact fa_95_2 | exact fa_95_3 | exact fa_97_0 | exact fa_99_0 | exact fa_99_1) (by first | exact l1_21 | exact l1_24 | exact l1_28 | exact l1_3 | exact l1_35 | exact l1_4 | exact l1_42 | exact l1_52 | exact l1_58) rfl ?_
    refine (pick_ok (by decide) (by decide)).mono fun r w' ⟨⟨q, hq, _⟩, hw⟩ => ?_
    subst hq; have hw := hw.symm; subst hw
    refine bld bd_108 [(0, i64 dst), (1, i64 q)] rfl rfl ?_
    exact mki mi_108 ⟨somePlain (g := .getField dst q) rfl, X0⟩
  refine V_eqlI.2 (ifD.mk (fun _ => ?_) fun _ => ?_)
  · refine drawD.mk' (fun w' => Boxed w' xb (rawCells k d o n a b c t sv)) hB ?_
    refine yfB (fun _ hw => hw) (by first | exact fa_108_0 | exact fa_108_1 | exact fa_110_0 | exact fa_110_1 | exact fa_112_0 | exact fa_112_1 | exact fa_112_2 | exact fa_112_3 | exact fa_112_4 | exact fa_114_0 | exact fa_114_1 | exact fa_114_2 | exact fa_116_0 | exact fa_116_1 | exact fa_116_2 | exact fa_26_0 | exact fa_26_1 | exact fa_26_2 | exact fa_37_0 | exact fa_37_1 | exact fa_44_0 | exact fa_44_1 | exact fa_44_2 | exact fa_54_0 | exact fa_61_0 | exact fa_61_1 | exact fa_68_0 | exact fa_68_1 | exact fa_68_2 | exact fa_68_3 | exact fa_70_0 | exact fa_70_1 | exact fa_70_2 | exact fa_76_0 | exact fa_76_1 | exact fa_76_2 | exact fa_76_3 | exact fa_76_6 | exact fa_76_7 | exact fa_82_0 | exact fa_82_1 | exact fa_82_2 | exact fa_82_3 | exact fa_82_4 | exact fa_82_5 | exact fa_82_6 | exact fa_82_7 | exact fa_82_8 | exact fa_91_0 | exact fa_91_1 | exact fa_93_0 | exact fa_93_1 | exact fa_93_2 | exact fa_95_0 | exact fa_95_1 | exact fa_95_2 | exact fa_95_3 | exact fa_97_0 | exact fa_99_0 | exact fa_99_1) (by first | exact l1_21 | exact l1_24 | exact l1_28 | exact l1_3 | exact l1_35 | exact l1_4 | exact l1_42 | exact l1_52 | exact l1_58) rfl ?_
    refine yfB (fun _ hw => hw) (by first | exact fa_108_0 | exact fa_108_1 | exact fa_110_0 | exact fa_110_1 | exact fa_112_0 | exact fa_112_1 | exact fa_112_2 | exact fa_112_3 | exact fa_112_4 | exact fa_114_0 | exact fa_114_1 | exact fa_114_2 | exact fa_116_0 | exact fa_116_1 | exact fa_116_2 | exact fa_26_0 | exact fa_26_1 | exact fa_26_2 | exact fa_37_0 | exact fa_37_1 | exact fa_44_0 | exact fa_44_1 | exact fa_44_2 | exact fa_54_0 | exact fa_61_0 | exact fa_61_1 | exact fa_68_0 | exact fa_68_1 | exact fa_68_2 | exact fa_68_3 | exact fa_70_0 | exact fa_70_1 | exact fa_70_2 | exact fa_76_0 | exact fa_76_1 | exact fa_76_2 | exact fa_76_3 | exact fa_76_6 | exact fa_76_7 | exact fa_82_0 | exact fa_82_1 | exact fa_82_2 | exact fa_82_3 | exact fa_82_4 | exact fa_82_5 | exact fa_82_6 | exact fa_82_7 | exact fa_82_8 | exact fa_91_0 | exact fa_91_1 | exact fa_93_0 | exact fa_93_1 | exact fa_93_2 | exact fa_95_0 | exact fa_95_1 | exact fa_95_2 | exact fa_95_3 | exact fa_97_0 | exact fa_99_0 | exact fa_99_1) (by first | exact l1_21 | exact l1_24 | exact l1_28 | exact l1_3 | exact l1_35 | exact l1_4 | exact l1_42 | exact l1_52 | exact l1_58) rfl ?_
    refine (pick_ok (by decide) (by decide)).mono fun r w' ⟨⟨q, hq, _⟩, hw⟩ => ?_
    subst hq; have hw := hw.symm; subst hw
    refine ⟨hB, dyn_reg hregB hr fun p1 => ⟨hB, ?_⟩⟩
    refine yBld bd_110 [(0, i64 q), (1, i64 p1)] rfl rfl ?_
    exact yMki mi_110 ⟨somePlain (g := .putField q p1) rfl, X0.trans XD⟩
  refine V_eqlI.2 (ifD.mk (fun _ => ?_) fun _ => ?_)
  · refine V.ok (w' := w) (v := .agg #[i64 17, i64 18, i64 27, i64 28, i64 29, i64 30, i64 31, i64 32, i64 36, i64 6]) (by kernel_rfl) ?_
    refine asB (by first | exact sa_108 | exact sa_110 | exact sa_112 | exact sa_114 | exact sa_116 | exact sa_120 | exact sa_26 | exact sa_28 | exact sa_37 | exact sa_44 | exact sa_50 | exact sa_54 | exact sa_61 | exact sa_68 | exact sa_70 | exact sa_76 | exact sa_91 | exact sa_93 | exact sa_95 | exact sa_97 | exact sa_99) rfl rfl fun g w3 hg x3 => ?_
    refine ldB (h1.ext x3) (by first | exact fa_108_0 | exact fa_108_1 | exact fa_110_0 | exact fa_110_1 | exact fa_112_0 | exact fa_112_1 | exact fa_112_2 | exact fa_112_3 | exact fa_112_4 | exact fa_114_0 | exact fa_114_1 | exact fa_114_2 | exact fa_116_0 | exact fa_116_1 | exact fa_116_2 | exact fa_26_0 | exact fa_26_1 | exact fa_26_2 | exact fa_37_0 | exact fa_37_1 | exact fa_44_0 | exact fa_44_1 | exact fa_44_2 | exact fa_54_0 | exact fa_61_0 | exact fa_61_1 | exact fa_68_0 | exact fa_68_1 | exact fa_68_2 | exact fa_68_3 | exact fa_70_0 | exact fa_70_1 | exact fa_70_2 | exact fa_76_0 | exact fa_76_1 | exact fa_76_2 | exact fa_76_3 | exact fa_76_6 | exact fa_76_7 | exact fa_82_0 | exact fa_82_1 | exact fa_82_2 | exact fa_82_3 | exact fa_82_4 | exact fa_82_5 | exact fa_82_6 | exact fa_82_7 | exact fa_82_8 | exact fa_91_0 | exact fa_91_1 | exact fa_93_0 | exact fa_93_1 | exact fa_93_2 | exact fa_95_0 | exact fa_95_1 | exact fa_95_2 | exact fa_95_3 | exact fa_97_0 | exact fa_99_0 | exact fa_99_1) (by first | exact l1_21 | exact l1_24 | exact l1_28 | exact l1_3 | exact l1_35 | exact l1_4 | exact l1_42 | exact l1_52 | exact l1_58) rfl ?_
    refine (pick_ok (by decide) (by decide)).mono fun r w' ⟨⟨ko, hko, hk0, hk10⟩, hw⟩ => ?_
    subst hko; have hw := hw.symm; subst hw
    refine V.ok (w' := w3) (v := .agg #[i64 2, i64 2, i64 1, i64 1, i64 2, i64 3, i64 5, i64 5, i64 3, i64 2]) (by kernel_rfl) ?_
    have hcase : ko = 0 ∨ ko = 1 ∨ ko = 2 ∨ ko = 3 ∨ ko = 4 ∨ ko = 5 ∨ ko = 6 ∨ ko = 7 ∨ ko = 8 ∨ ko = 9 := by omega
    obtain ⟨nn, hnn, hn5⟩ : ∃ nn : Int, (#[i64 2, i64 2, i64 1, i64 1, i64 2, i64 3, i64 5, i64 5, i64 3, i64 2] : Array Value)[ko.toNat]? = some (i64 nn) ∧ nn ≤ 5 := by
      rcases hcase with rfl | rfl | rfl | rfl | rfl | rfl | rfl | rfl | rfl | rfl <;> exact ⟨_, rfl, by decide⟩
    obtain ⟨op, hop⟩ : ∃ op : Int, (Value.cells (.agg #[i64 17, i64 18, i64 27, i64 28, i64 29, i64 30, i64 31, i64 32, i64 36, i64 6])).toList[ko.toNat]? = some (i64 op) := by
      rcases hcase with rfl | rfl | rfl | rfl | rfl | rfl | rfl | rfl | rfl | rfl <;> exact ⟨_, rfl⟩
    refine V.ok (r_idx Tryd.underlying120 inf3 ⟨_, Tryd.underlying3⟩ hk0 (by simpa using hk10) hnn rfl) ?_
    refine ⟨fun v u w' => ∃ (i : Nat) (ys : List Int), u = i64 i ∧ i ≤ 5 ∧ ys.length = i ∧ w'.ownsRow w3.heap.size 3 1 v i (ys.map i64) ∧ Ext w3 w', fun _ u _ => 6 - (RowKit.intOf u).toNat, ⟨0, [], rfl, by omega, rfl, World.ownsRow_nil _ _ _ _, Ext.refl _⟩, ?_⟩
    rintro lv _ w4 ⟨i, ys, rfl, hi5, hyl, ho, x4⟩ _
    have X4 := x3.trans x4
    refine V_lss.2 (ifD_dec (fun hlt => ?_) fun _ => ?_)
    · refine ldB (h1.ext X4) (by first | exact fa_108_0 | exact fa_108_1 | exact fa_110_0 | exact fa_110_1 | exact fa_112_0 | exact fa_112_1 | exact fa_112_2 | exact fa_112_3 | exact fa_112_4 | exact fa_114_0 | exact fa_114_1 | exact fa_114_2 | exact fa_116_0 | exact fa_116_1 | exact fa_116_2 | exact fa_26_0 | exact fa_26_1 | exact fa_26_2 | exact fa_37_0 | exact fa_37_1 | exact fa_44_0 | exact fa_44_1 | exact fa_44_2 | exact fa_54_0 | exact fa_61_0 | exact fa_61_1 | exact fa_68_0 | exact fa_68_1 | exact fa_68_2 | exact fa_68_3 | exact fa_70_0 | exact fa_70_1 | exact fa_70_2 | exact fa_76_0 | exact fa_76_1 | exact fa_76_2 | exact fa_76_3 | exact fa_76_6 | exact fa_76_7 | exact fa_82_0 | exact fa_82_1 | exact fa_82_2 | exact fa_82_3 | exact fa_82_4 | exact fa_82_5 | exact fa_82_6 | exact fa_82_7 | exact fa_82_8 | exact fa_91_0 | exact fa_91_1 | exact fa_93_0 | exact fa_93_1 | exact fa_93_2 | exact fa_95_0 | exact fa_95_1 | exact fa_95_2 | exact fa_95_3 | exact fa_97_0 | exact fa_99_0 | exact fa_99_1) (by first | exact l1_21 | exact l1_24 | exact l1_28 | exact l1_3 | exact l1_35 | exact l1_4 | exact l1_42 | exact l1_52 | exact l1_58) rfl ?_
      refine V_mul.2 (V_add.2 ?_)
      refine dyn_reg (X4.cell hreg) hr fun q => ?_
      refine bsl (by first | exact xe_23 | exact xe_24 | exact xe_28 | exact xe_35 | exact xe_58) [i64 q] rfl rfl (by simp) rfl fun v5 w5 ho5 x5 => ?_
      have hoo := x5.own ho
      refine apO (by first | exact xe_23 | exact xe_24 | exact xe_28 | exact xe_35 | exact xe_58) hoo (SliceIs.of_own ho5) rfl (by omega) (by unfold maxLen; omega) (by have := (x4.trans x5).size; omega) fun v6 w6 ho6 hg6 => ?_
      refine V_add.2 ?_
      rw [wrap_id (by omega) (by omega), i64_succ]
      exact ⟨⟨i + 1, ys ++ [q], rfl, by omega, by simp [hyl], by simpa [List.map_append] using ho6, (x4.trans x5).grown hg6 fun k hk => (hoo.lt k hk).1⟩, by simp only [intOf_i64]; omega⟩
    · refine ⟨fun v w' => (∃ zs, IntsAre w' v zs ∧ Ty3 w' v ∧ zs.length ≤ 6) ∧ w' = w4, ?_, ?_⟩
      · refine ldB (h1.ext X4) (by first | exact fa_108_0 | exact fa_108_1 | exact fa_110_0 | exact fa_110_1 | exact fa_112_0 | exact fa_112_1 | exact fa_112_2 | exact fa_112_3 | exact fa_112_4 | exact fa_114_0 | exact fa_114_1 | exact fa_114_2 | exact fa_116_0 | exact fa_116_1 | exact fa_116_2 | exact fa_26_0 | exact fa_26_1 | exact fa_26_2 | exact fa_37_0 | exact fa_37_1 | exact fa_44_0 | exact fa_44_1 | exact fa_44_2 | exact fa_54_0 | exact fa_61_0 | exact fa_61_1 | exact fa_68_0 | exact fa_68_1 | exact fa_68_2 | exact fa_68_3 | exact fa_70_0 | exact fa_70_1 | exact fa_70_2 | exact fa_76_0 | exact fa_76_1 | exact fa_76_2 | exact fa_76_3 | exact fa_76_6 | exact fa_76_7 | exact fa_82_0 | exact fa_82_1 | exact fa_82_2 | exact fa_82_3 | exact fa_82_4 | exact fa_82_5 | exact fa_82_6 | exact fa_82_7 | exact fa_82_8 | exact fa_91_0 | exact fa_91_1 | exact fa_93_0 | exact fa_93_1 | exact fa_93_2 | exact fa_95_0 | exact fa_95_1 | exact fa_95_2 | exact fa_95_3 | exact fa_97_0 | exact fa_99_0 | exact fa_99_1) (by first | exact l1_21 | exact l1_24 | exact l1_28 | exact l1_3 | exact l1_35 | exact l1_4 | exact l1_42 | exact l1_52 | exact l1_58) rfl ?_
        refine rm (by decide) fun _ _ _ _ => ?_
        refine V_eqlI.2 (ifD.mk (fun _ => ⟨⟨xs, hav.ext X4, htv.ext X4, hxs⟩, rfl⟩) fun _ => ⟨⟨ys, ?_, Ty3.own ho, by omega⟩, rfl⟩)
        have := SliceIs.of_own ho
        unfold IntsAre
        rw [hyl]
        exact this
      rintro av' w4 ⟨⟨zs, hz, hzt, hzl⟩, rfl⟩ _
      refine ⟨fun v w' => (∃ q, v = i64 q) ∧ w' = w4, ?_, ?_⟩
      · refine ldB (h1.ext X4) (by first | exact fa_108_0 | exact fa_108_1 | exact fa_110_0 | exact fa_110_1 | exact fa_112_0 | exact fa_112_1 | exact fa_112_2 | exact fa_112_3 | exact fa_112_4 | exact fa_114_0 | exact fa_114_1 | exact fa_114_2 | exact fa_116_0 | exact fa_116_1 | exact fa_116_2 | exact fa_26_0 | exact fa_26_1 | exact fa_26_2 | exact fa_37_0 | exact fa_37_1 | exact fa_44_0 | exact fa_44_1 | exact fa_44_2 | exact fa_54_0 | exact fa_61_0 | exact fa_61_1 | exact fa_68_0 | exact fa_68_1 | exact fa_68_2 | exact fa_68_3 | exact fa_70_0 | exact fa_70_1 | exact fa_70_2 | exact fa_76_0 | exact fa_76_1 | exact fa_76_2 | exact fa_76_3 | exact fa_76_6 | exact fa_76_7 | exact fa_82_0 | exact fa_82_1 | exact fa_82_2 | exact fa_82_3 | exact fa_82_4 | exact fa_82_5 | exact fa_82_6 | exact fa_82_7 | exact fa_82_8 | exact fa_91_0 | exact fa_91_1 | exact fa_93_0 | exact fa_93_1 | exact fa_93_2 | exact fa_95_0 | exact fa_95_1 | exact fa_95_2 | exact fa_95_3 | exact fa_97_0 | exact fa_99_0 | exact fa_99_1) (by first | exact l1_21 | exact l1_24 | exact l1_28 | exact l1_3 | exact l1_35 | exact l1_4 | exact l1_42 | exact l1_52 | exact l1_58) rfl ?_
        refine rm (by decide) fun _ _ _ _ => ?_
        exact V_eqlI.2 (ifD.mk (fun _ => ⟨⟨_, rfl⟩, rfl⟩) fun _ => ⟨⟨_, rfl⟩, rfl⟩)
      rintro _ w4 ⟨⟨q, rfl⟩, rfl⟩ _
      have XD4 : Ext w4 w4.drew := (Ext.refl _).drew
      have hS : Boxed w4.drew xb (rawCells k d o n a b c t sv) ∧ Boxed w4.drew g _ := ⟨(h1.ext X4).ext XD4, (hg.ext x4).ext XD4⟩
      refine drawD.mk' (fun w' => Boxed w' xb (rawCells k d o n a b c t sv) ∧ Boxed w' g (Value.cells (.agg #[i64 17, i64 18, i64 27, i64 28, i64 29, i64 30, i64 31, i64 32, i64 36, i64 6])).toList) hS ?_
      refine yieldS.ok (fun w' _ => r_arr Tryd.underlying120 inf3 hk0 (by simpa using hk10)) ?_
      refine yieldS.ok (fun w' hw => r_ld_3 (hw.2 ko.toNat _ hop)) ?_
      refine yfB (fun _ hw => hw.1) (by first | exact fa_108_0 | exact fa_108_1 | exact fa_110_0 | exact fa_110_1 | exact fa_112_0 | exact fa_112_1 | exact fa_112_2 | exact fa_112_3 | exact fa_112_4 | exact fa_114_0 | exact fa_114_1 | exact fa_114_2 | exact fa_116_0 | exact fa_116_1 | exact fa_116_2 | exact fa_26_0 | exact fa_26_1 | exact fa_26_2 | exact fa_37_0 | exact fa_37_1 | exact fa_44_0 | exact fa_44_1 | exact fa_44_2 | exact fa_54_0 | exact fa_61_0 | exact fa_61_1 | exact fa_68_0 | exact fa_68_1 | exact fa_68_2 | exact fa_68_3 | exact fa_70_0 | exact fa_70_1 | exact fa_70_2 | exact fa_76_0 | exact fa_76_1 | exact fa_76_2 | exact fa_76_3 | exact fa_76_6 | exact fa_76_7 | exact fa_82_0 | exact fa_82_1 | exact fa_82_2 | exact fa_82_3 | exact fa_82_4 | exact fa_82_5 | exact fa_82_6 | exact fa_82_7 | exact fa_82_8 | exact fa_91_0 | exact fa_91_1 | exact fa_93_0 | exact fa_93_1 | exact fa_93_2 | exact fa_95_0 | exact fa_95_1 | exact fa_95_2 | exact fa_95_3 | exact fa_97_0 | exact fa_99_0 | exact fa_99_1) (by first | exact l1_21 | exact l1_24 | exact l1_28 | exact l1_3 | exact l1_35 | exact l1_4 | exact l1_42 | exact l1_52 | exact l1_58) rfl ?_
      refine (pick_ok (by decide) (by decide)).mono fun r w' ⟨⟨p, hp, _⟩, hw⟩ => ?_
      subst hp; have hw := hw.symm; subst hw
      refine ⟨hS, ?_⟩
      refine yBld bd_112 [(0, i64 op), (1, i64 3), (2, i64 p), (3, i64 q), (4, av')] rfl (by have := shape_ints hz; simp only [List.all_cons, List.all_nil, this, Bool.and_true]; rfl) ?_
      exact yMki mi_112 ⟨⟨.serve op 3 p q zs, ⟨av', rfl, hz.ext XD4, hzt.ext XD4⟩, hzl⟩, X0.trans (X4.trans XD4)⟩
  refine V_eqlI.2 (ifD.mk (fun _ => ?_) fun _ => ?_)
  · refine ⟨fun v w' => (∃ q, v = i64 q) ∧ w' = w, ?_, ?_⟩
    · refine ldB h1 (by first | exact fa_108_0 | exact fa_108_1 | exact fa_110_0 | exact fa_110_1 | exact fa_112_0 | exact fa_112_1 | exact fa_112_2 | exact fa_112_3 | exact fa_112_4 | exact fa_114_0 | exact fa_114_1 | exact fa_114_2 | exact fa_116_0 | exact fa_116_1 | exact fa_116_2 | exact fa_26_0 | exact fa_26_1 | exact fa_26_2 | exact fa_37_0 | exact fa_37_1 | exact fa_44_0 | exact fa_44_1 | exact fa_44_2 | exact fa_54_0 | exact fa_61_0 | exact fa_61_1 | exact fa_68_0 | exact fa_68_1 | exact fa_68_2 | exact fa_68_3 | exact fa_70_0 | exact fa_70_1 | exact fa_70_2 | exact fa_76_0 | exact fa_76_1 | exact fa_76_2 | exact fa_76_3 | exact fa_76_6 | exact fa_76_7 | exact fa_82_0 | exact fa_82_1 | exact fa_82_2 | exact fa_82_3 | exact fa_82_4 | exact fa_82_5 | exact fa_82_6 | exact fa_82_7 | exact fa_82_8 | exact fa_91_0 | exact fa_91_1 | exact fa_93_0 | exact fa_93_1 | exact fa_93_2 | exact fa_95_0 | exact fa_95_1 | exact fa_95_2 | exact fa_95_3 | exact fa_97_0 | exact fa_99_0 | exact fa_99_1) (by first | exact l1_21 | exact l1_24 | exact l1_28 | exact l1_3 | exact l1_35 | exact l1_4 | exact l1_42 | exact l1_52 | exact l1_58) rfl ?_
      refine rm (by decide) fun _ _ _ _ => ?_
      exact V_eqlI.2 (ifD.mk (fun _ => ⟨⟨_, rfl⟩, rfl⟩) fun _ => ⟨⟨_, rfl⟩, rfl⟩)
    rintro _ w ⟨⟨q, rfl⟩, rfl⟩ _
    refine lnx xa_35 hav ?_
    refine mn2 fun m hm hm1 hm2 => ?_
    have hm0 : 0 ≤ m := by rcases hm with rfl | rfl <;> omega
    obtain ⟨km, rfl⟩ : ∃ km : Nat, m = (km : Int) := ⟨m.toNat, by omega⟩
    obtain ⟨sv', hsr, hsl, hsb⟩ := take_ints (k := km) Tryd.underlying35 inf3 hav (by omega)
    refine V.ok hsr ?_
    have hsc : oneC sv' = true := by obtain ⟨_, _, rfl⟩ := hsl.shape; rfl
    have hst : Ty3 w sv' := fun b' off' n' c' he => by
      obtain ⟨o2, n2, c2, h2⟩ := hsb b' off' n' c' he
      exact htv b' o2 n2 c2 h2
    have hl6 : (xs.take km).length ≤ 6 := by simp; omega
    refine ldB h1 (by first | exact fa_108_0 | exact fa_108_1 | exact fa_110_0 | exact fa_110_1 | exact fa_112_0 | exact fa_112_1 | exact fa_112_2 | exact fa_112_3 | exact fa_112_4 | exact fa_114_0 | exact fa_114_1 | exact fa_114_2 | exact fa_116_0 | exact fa_116_1 | exact fa_116_2 | exact fa_26_0 | exact fa_26_1 | exact fa_26_2 | exact fa_37_0 | exact fa_37_1 | exact fa_44_0 | exact fa_44_1 | exact fa_44_2 | exact fa_54_0 | exact fa_61_0 | exact fa_61_1 | exact fa_68_0 | exact fa_68_1 | exact fa_68_2 | exact fa_68_3 | exact fa_70_0 | exact fa_70_1 | exact fa_70_2 | exact fa_76_0 | exact fa_76_1 | exact fa_76_2 | exact fa_76_3 | exact fa_76_6 | exact fa_76_7 | exact fa_82_0 | exact fa_82_1 | exact fa_82_2 | exact fa_82_3 | exact fa_82_4 | exact fa_82_5 | exact fa_82_6 | exact fa_82_7 | exact fa_82_8 | exact fa_91_0 | exact fa_91_1 | exact fa_93_0 | exact fa_93_1 | exact fa_93_2 | exact fa_95_0 | exact fa_95_1 | exact fa_95_2 | exact fa_95_3 | exact fa_97_0 | exact fa_99_0 | exact fa_99_1) (by first | exact l1_21 | exact l1_24 | exact l1_28 | exact l1_3 | exact l1_35 | exact l1_4 | exact l1_42 | exact l1_52 | exact l1_58) rfl ?_
    refine rm (by decide) fun _ _ _ _ => ?_
    refine V_eqlI.2 (ifD.mk (fun _ => ?_) fun _ => ?_)
    · refine ldB h1 (by first | exact fa_108_0 | exact fa_108_1 | exact fa_110_0 | exact fa_110_1 | exact fa_112_0 | exact fa_112_1 | exact fa_112_2 | exact fa_112_3 | exact fa_112_4 | exact fa_114_0 | exact fa_114_1 | exact fa_114_2 | exact fa_116_0 | exact fa_116_1 | exact fa_116_2 | exact fa_26_0 | exact fa_26_1 | exact fa_26_2 | exact fa_37_0 | exact fa_37_1 | exact fa_44_0 | exact fa_44_1 | exact fa_44_2 | exact fa_54_0 | exact fa_61_0 | exact fa_61_1 | exact fa_68_0 | exact fa_68_1 | exact fa_68_2 | exact fa_68_3 | exact fa_70_0 | exact fa_70_1 | exact fa_70_2 | exact fa_76_0 | exact fa_76_1 | exact fa_76_2 | exact fa_76_3 | exact fa_76_6 | exact fa_76_7 | exact fa_82_0 | exact fa_82_1 | exact fa_82_2 | exact fa_82_3 | exact fa_82_4 | exact fa_82_5 | exact fa_82_6 | exact fa_82_7 | exact fa_82_8 | exact fa_91_0 | exact fa_91_1 | exact fa_93_0 | exact fa_93_1 | exact fa_93_2 | exact fa_95_0 | exact fa_95_1 | exact fa_95_2 | exact fa_95_3 | exact fa_97_0 | exact fa_99_0 | exact fa_99_1) (by first | exact l1_21 | exact l1_24 | exact l1_28 | exact l1_3 | exact l1_35 | exact l1_4 | exact l1_42 | exact l1_52 | exact l1_58) rfl ?_
      refine (pick_ok (by decide) (by decide)).mono fun r w' ⟨⟨p, hp, _⟩, hw⟩ => ?_
      subst hp; have hw := hw.symm; subst hw
      refine bld bd_114 [(0, i64 p), (1, i64 q), (2, sv')] rfl (by simp only [List.all_cons, List.all_nil, hsc, Bool.and_true]; rfl) ?_
      exact mki mi_114 ⟨⟨.call p q (xs.take km), ⟨sv', rfl, hsl, hst⟩, hl6⟩, X0⟩
    · refine ldB h1 (by first | exact fa_108_0 | exact fa_108_1 | exact fa_110_0 | exact fa_110_1 | exact fa_112_0 | exact fa_112_1 | exact fa_112_2 | exact fa_112_3 | exact fa_112_4 | exact fa_114_0 | exact fa_114_1 | exact fa_114_2 | exact fa_116_0 | exact fa_116_1 | exact fa_116_2 | exact fa_26_0 | exact fa_26_1 | exact fa_26_2 | exact fa_37_0 | exact fa_37_1 | exact fa_44_0 | exact fa_44_1 | exact fa_44_2 | exact fa_54_0 | exact fa_61_0 | exact fa_61_1 | exact fa_68_0 | exact fa_68_1 | exact fa_68_2 | exact fa_68_3 | exact fa_70_0 | exact fa_70_1 | exact fa_70_2 | exact fa_76_0 | exact fa_76_1 | exact fa_76_2 | exact fa_76_3 | exact fa_76_6 | exact fa_76_7 | exact fa_82_0 | exact fa_82_1 | exact fa_82_2 | exact fa_82_3 | exact fa_82_4 | exact fa_82_5 | exact fa_82_6 | exact fa_82_7 | exact fa_82_8 | exact fa_91_0 | exact fa_91_1 | exact fa_93_0 | exact fa_93_1 | exact fa_93_2 | exact fa_95_0 | exact fa_95_1 | exact fa_95_2 | exact fa_95_3 | exact fa_97_0 | exact fa_99_0 | exact fa_99_1) (by first | exact l1_21 | exact l1_24 | exact l1_28 | exact l1_3 | exact l1_35 | exact l1_4 | exact l1_42 | exact l1_52 | exact l1_58) rfl ?_
      refine (pick_ok (by decide) (by decide)).mono fun r w' ⟨⟨p, hp, _⟩, hw⟩ => ?_
      subst hp; have hw := hw.symm; subst hw
      refine bld bd_116 [(0, i64 p), (1, i64 q), (2, sv')] rfl (by simp only [List.all_cons, List.all_nil, hsc, Bool.and_true]; rfl) ?_
      exact mki mi_116 ⟨⟨.callX p q (xs.take km), ⟨sv', rfl, hsl, hst⟩, hl6⟩, X0⟩
  refine ldB h1 (by first | exact fa_108_0 | exact fa_108_1 | exact fa_110_0 | exact fa_110_1 | exact fa_112_0 | exact fa_112_1 | exact fa_112_2 | exact fa_112_3 | exact fa_112_4 | exact fa_114_0 | exact fa_114_1 | exact fa_114_2 | exact fa_116_0 | exact fa_116_1 | exact fa_116_2 | exact fa_26_0 | exact fa_26_1 | exact fa_26_2 | exact fa_37_0 | exact fa_37_1 | exact fa_44_0 | exact fa_44_1 | exact fa_44_2 | exact fa_54_0 | exact fa_61_0 | exact fa_61_1 | exact fa_68_0 | exact fa_68_1 | exact fa_68_2 | exact fa_68_3 | exact fa_70_0 | exact fa_70_1 | exact fa_70_2 | exact fa_76_0 | exact fa_76_1 | exact fa_76_2 | exact fa_76_3 | exact fa_76_6 | exact fa_76_7 | exact fa_82_0 | exact fa_82_1 | exact fa_82_2 | exact fa_82_3 | exact fa_82_4 | exact fa_82_5 | exact fa_82_6 | exact fa_82_7 | exact fa_82_8 | exact fa_91_0 | exact fa_91_1 | exact fa_93_0 | exact fa_93_1 | exact fa_93_2 | exact fa_95_0 | exact fa_95_1 | exact fa_95_2 | exact fa_95_3 | exact fa_97_0 | exact fa_99_0 | exact fa_99_1) (by first | exact l1_21 | exact l1_24 | exact l1_28 | exact l1_3 | exact l1_35 | exact l1_4 | exact l1_42 | exact l1_52 | exact l1_58) rfl ?_
  refine rm (by decide) fun _ _ _ _ => ?_
  refine V_eqlI.2 (ifD.mk (fun _ => ?_) fun _ => ?_)
  · refine bld bd_54 [(0, i64 (-1))] rfl rfl ?_
    exact mki mi_54 ⟨somePlain (g := .ret (-1)) rfl, X0⟩
  · refine ldB h1 (by first | exact fa_108_0 | exact fa_108_1 | exact fa_110_0 | exact fa_110_1 | exact fa_112_0 | exact fa_112_1 | exact fa_112_2 | exact fa_112_3 | exact fa_112_4 | exact fa_114_0 | exact fa_114_1 | exact fa_114_2 | exact fa_116_0 | exact fa_116_1 | exact fa_116_2 | exact fa_26_0 | exact fa_26_1 | exact fa_26_2 | exact fa_37_0 | exact fa_37_1 | exact fa_44_0 | exact fa_44_1 | exact fa_44_2 | exact fa_54_0 | exact fa_61_0 | exact fa_61_1 | exact fa_68_0 | exact fa_68_1 | exact fa_68_2 | exact fa_68_3 | exact fa_70_0 | exact fa_70_1 | exact fa_70_2 | exact fa_76_0 | exact fa_76_1 | exact fa_76_2 | exact fa_76_3 | exact fa_76_6 | exact fa_76_7 | exact fa_82_0 | exact fa_82_1 | exact fa_82_2 | exact fa_82_3 | exact fa_82_4 | exact fa_82_5 | exact fa_82_6 | exact fa_82_7 | exact fa_82_8 | exact fa_91_0 | exact fa_91_1 | exact fa_93_0 | exact fa_93_1 | exact fa_93_2 | exact fa_95_0 | exact fa_95_1 | exact fa_95_2 | exact fa_95_3 | exact fa_97_0 | exact fa_99_0 | exact fa_99_1) (by first | exact l1_21 | exact l1_24 | exact l1_28 | exact l1_3 | exact l1_35 | exact l1_4 | exact l1_42 | exact l1_52 | exact l1_58) rfl ?_
    refine dyn_reg hreg hr fun p => ?_
    refine bld bd_54 [(0, i64 p)] rfl rfl ?_
    exact mki mi_54 ⟨somePlain (g := .ret p) rfl, X0⟩
/-- A slice of whole numbers; where it is empty, wherever it lies. -/
def ArgsLike (w : World) (sv : Value) (l : List Int) : Prop := (∃ a c, sv = .slice a l.length c) ∧ (0 < l.length → IntsAre w sv l)
theorem ArgsLike.ext {w w' : World} {sv : Value} {l : List Int} (h : ArgsLike w sv l) (hx : Ext w w') : ArgsLike w' sv l := ⟨h.1, fun h0 => (h.2 h0).ext hx⟩
/-- A raw node, as a value. -/
def RawIs (w : World) (v : Value) : Prop := ∃ k d o n a b c t sv l, v = .agg (rawCells k d o n a b c t sv).toArray ∧ ArgsLike w sv l
theorem RawIs.ext {w w' : World} {v : Value} (h : RawIs w v) (hx : Ext w w') : RawIs w' v := by
  obtain ⟨k, d, o, n, a, b, c, t, sv, l, h1, h2⟩ := h
  exact ⟨k, d, o, n, a, b, c, t, sv, l, h1, h2.ext hx⟩
set_option maxHeartbeats 1000000 in
theorem node_ok {x : Value} {regs nodes : Int} {w : World} (hx : RawIs w x) (hr : regs ≤ 1000000) (hn : nodes ≤ 1000000) (hb : BinsOk w) :
    callD Tryd.prog 33 #[x, i64 regs, i64 nodes] w fun r w' => SomeNode w' r ∧ Ext w w' := by
  obtain ⟨k, d, o, n, a, b, c, t, sv, l, rfl, hs⟩ := hx
  apply F33_wp
  unfold F33_den
  refine bx fun xb w1 h1 x1 => ?_
  refine bx fun rb w2 h2 x2 => ?_
  have hreg : w2.cell? ⟨rb, 0, none⟩ = some (i64 regs) := h2 0 _ rfl
  refine V.ok (w' := w2) (v := .func (.func 50) #[] #[.pointer (some ⟨rb, 0, none⟩)]) (by simp [Instr.makeFunc]) ?_
  have h1' : Boxed w2 xb (rawCells k d o n a b c t sv) := h1.ext x2
  have X2 := x1.trans x2
  refine ldB h1' (by first | exact fa_108_0 | exact fa_108_1 | exact fa_110_0 | exact fa_110_1 | exact fa_112_0 | exact fa_112_1 | exact fa_112_2 | exact fa_112_3 | exact fa_112_4 | exact fa_114_0 | exact fa_114_1 | exact fa_114_2 | exact fa_116_0 | exact fa_116_1 | exact fa_116_2 | exact fa_26_0 | exact fa_26_1 | exact fa_26_2 | exact fa_37_0 | exact fa_37_1 | exact fa_44_0 | exact fa_44_1 | exact fa_44_2 | exact fa_54_0 | exact fa_61_0 | exact fa_61_1 | exact fa_68_0 | exact fa_68_1 | exact fa_68_2 | exact fa_68_3 | exact fa_70_0 | exact fa_70_1 | exact fa_70_2 | exact fa_76_0 | exact fa_76_1 | exact fa_76_2 | exact fa_76_3 | exact fa_76_6 | exact fa_76_7 | exact fa_82_0 | exact fa_82_1 | exact fa_82_2 | exact fa_82_3 | exact fa_82_4 | exact fa_82_5 | exact fa_82_6 | exact fa_82_7 | exact fa_82_8 | exact fa_91_0 | exact fa_91_1 | exact fa_93_0 | exact fa_93_1 | exact fa_93_2 | exact fa_95_0 | exact fa_95_1 | exact fa_95_2 | exact fa_95_3 | exact fa_97_0 | exact fa_99_0 | exact fa_99_1) (by first | exact l1_21 | exact l1_24 | exact l1_28 | exact l1_3 | exact l1_35 | exact l1_4 | exact l1_42 | exact l1_52 | exact l1_58) rfl ?_
  refine mx2 fun m hm hm1 _ => ?_
  refine (pick_ok (by omega) (by rcases hm with rfl | rfl <;> omega)).mono fun r w' ⟨⟨tt, htt, _⟩, hw⟩ => ?_
  subst htt; have hw := hw.symm; subst hw
  refine ⟨fun v w' => (∃ to, v = i64 to) ∧ w' = w2, ?_, ?_⟩
  · refine ldB h1' (by first | exact fa_108_0 | exact fa_108_1 | exact fa_110_0 | exact fa_110_1 | exact fa_112_0 | exact fa_112_1 | exact fa_112_2 | exact fa_112_3 | exact fa_112_4 | exact fa_114_0 | exact fa_114_1 | exact fa_114_2 | exact fa_116_0 | exact fa_116_1 | exact fa_116_2 | exact fa_26_0 | exact fa_26_1 | exact fa_26_2 | exact fa_37_0 | exact fa_37_1 | exact fa_44_0 | exact fa_44_1 | exact fa_44_2 | exact fa_54_0 | exact fa_61_0 | exact fa_61_1 | exact fa_68_0 | exact fa_68_1 | exact fa_68_2 | exact fa_68_3 | exact fa_70_0 | exact fa_70_1 | exact fa_70_2 | exact fa_76_0 | exact fa_76_1 | exact fa_76_2 | exact fa_76_3 | exact fa_76_6 | exact fa_76_7 | exact fa_82_0 | exact fa_82_1 | exact fa_82_2 | exact fa_82_3 | exact fa_82_4 | exact fa_82_5 | exact fa_82_6 | exact fa_82_7 | exact fa_82_8 | exact fa_91_0 | exact fa_91_1 | exact fa_93_0 | exact fa_93_1 | exact fa_93_2 | exact fa_95_0 | exact fa_95_1 | exact fa_95_2 | exact fa_95_3 | exact fa_97_0 | exact fa_99_0 | exact fa_99_1) (by first | exact l1_21 | exact l1_24 | exact l1_28 | exact l1_3 | exact l1_35 | exact l1_4 | exact l1_42 | exact l1_52 | exact l1_58) rfl ?_
    refine rm (by decide) fun _ _ _ _ => ?_
    exact V_eqlI.2 (ifD.mk (fun _ => ⟨⟨_, rfl⟩, rfl⟩) fun _ => ⟨⟨_, rfl⟩, rfl⟩)
  rintro _ w2 ⟨⟨to, rfl⟩, rfl⟩ _
  obtain ⟨⟨sa, sc, rfl⟩, hs⟩ := hs
  refine ⟨fun v u w' => ∃ (i : Nat) (xs : List Int), u = i64 i ∧ i ≤ 6 ∧ xs.length = i ∧ w'.ownsRow w2.heap.size 3 1 v i (xs.map i64) ∧ Ext w2 w', fun _ u _ => 6 - (RowKit.intOf u).toNat, ⟨0, [], rfl, by omega, rfl, World.ownsRow_nil _ _ _ _, Ext.refl _⟩, ?_⟩
  rintro av _ w3 ⟨i, xs, rfl, hi6, hxl, ho, x3⟩ _
  have X3 := X2.trans x3
  have hai : IntsAre w3 av xs := by
    have := SliceIs.of_own ho
    unfold IntsAre
    rw [hxl]; exact this
  have fin : nodeRest xb rb to av w3 fun r w' => SomeNode w' r ∧ Ext w w' := nodeRest_ok (h1'.ext x3) (x3.cell hreg) hr ((hb.ext X2).ext x3) hai (Ty3.own ho) (by omega) X3
  refine ldB (h1'.ext x3) (by first | exact fa_108_0 | exact fa_108_1 | exact fa_110_0 | exact fa_110_1 | exact fa_112_0 | exact fa_112_1 | exact fa_112_2 | exact fa_112_3 | exact fa_112_4 | exact fa_114_0 | exact fa_114_1 | exact fa_114_2 | exact fa_116_0 | exact fa_116_1 | exact fa_116_2 | exact fa_26_0 | exact fa_26_1 | exact fa_26_2 | exact fa_37_0 | exact fa_37_1 | exact fa_44_0 | exact fa_44_1 | exact fa_44_2 | exact fa_54_0 | exact fa_61_0 | exact fa_61_1 | exact fa_68_0 | exact fa_68_1 | exact fa_68_2 | exact fa_68_3 | exact fa_70_0 | exact fa_70_1 | exact fa_70_2 | exact fa_76_0 | exact fa_76_1 | exact fa_76_2 | exact fa_76_3 | exact fa_76_6 | exact fa_76_7 | exact fa_82_0 | exact fa_82_1 | exact fa_82_2 | exact fa_82_3 | exact fa_82_4 | exact fa_82_5 | exact fa_82_6 | exact fa_82_7 | exact fa_82_8 | exact fa_91_0 | exact fa_91_1 | exact fa_93_0 | exact fa_93_1 | exact fa_93_2 | exact fa_95_0 | exact fa_95_1 | exact fa_95_2 | exact fa_95_3 | exact fa_97_0 | exact fa_99_0 | exact fa_99_1) (by first | exact l1_21 | exact l1_24 | exact l1_28 | exact l1_3 | exact l1_35 | exact l1_4 | exact l1_42 | exact l1_52 | exact l1_58) rfl ?_
  refine V_ln_35.2 (V_lss.2 ?_)
  by_cases hl1 : (i : Int) < (l.length : Nat)
  · simp only [hl1, V_lss, gd_t, pickD_iff, reduceIte, decide_true]
    by_cases hl2 : (i : Int) < 6
    · simp only [hl2, ifD_true, decide_true]
      obtain ⟨q, hq⟩ := ex_get (l := l) (j := i) (by omega)
      refine ldB (h1'.ext x3) (by first | exact fa_108_0 | exact fa_108_1 | exact fa_110_0 | exact fa_110_1 | exact fa_112_0 | exact fa_112_1 | exact fa_112_2 | exact fa_112_3 | exact fa_112_4 | exact fa_114_0 | exact fa_114_1 | exact fa_114_2 | exact fa_116_0 | exact fa_116_1 | exact fa_116_2 | exact fa_26_0 | exact fa_26_1 | exact fa_26_2 | exact fa_37_0 | exact fa_37_1 | exact fa_44_0 | exact fa_44_1 | exact fa_44_2 | exact fa_54_0 | exact fa_61_0 | exact fa_61_1 | exact fa_68_0 | exact fa_68_1 | exact fa_68_2 | exact fa_68_3 | exact fa_70_0 | exact fa_70_1 | exact fa_70_2 | exact fa_76_0 | exact fa_76_1 | exact fa_76_2 | exact fa_76_3 | exact fa_76_6 | exact fa_76_7 | exact fa_82_0 | exact fa_82_1 | exact fa_82_2 | exact fa_82_3 | exact fa_82_4 | exact fa_82_5 | exact fa_82_6 | exact fa_82_7 | exact fa_82_8 | exact fa_91_0 | exact fa_91_1 | exact fa_93_0 | exact fa_93_1 | exact fa_93_2 | exact fa_95_0 | exact fa_95_1 | exact fa_95_2 | exact fa_95_3 | exact fa_97_0 | exact fa_99_0 | exact fa_99_1) (by first | exact l1_21 | exact l1_24 | exact l1_28 | exact l1_3 | exact l1_35 | exact l1_4 | exact l1_42 | exact l1_52 | exact l1_58) rfl ?_
      refine ldx xa_35 l1_3 ((hs (by omega)).ext X3) (by omega) (by omega) (getI hq) ?_
      refine dyn_reg (x3.cell hreg) hr fun q' => ?_
      refine bsl (by first | exact xe_23 | exact xe_24 | exact xe_28 | exact xe_35 | exact xe_58) [i64 q'] rfl rfl (by simp) rfl fun v5 w5 ho5 x5 => ?_
      have hoo := x5.own ho
      refine apO (by first | exact xe_23 | exact xe_24 | exact xe_28 | exact xe_35 | exact xe_58) hoo (SliceIs.of_own ho5) rfl (by omega) (by unfold maxLen; omega) (by have := (x3.trans x5).size; omega) fun v6 w6 ho6 hg6 => ?_
      refine V_add.2 ?_
      rw [wrap_id (by omega) (by omega), i64_succ]
      exact ⟨⟨i + 1, xs ++ [q'], rfl, by omega, by simp [hxl], by simpa [List.map_append] using ho6, (x3.trans x5).grown hg6 fun k hk => (hoo.lt k hk).1⟩, by simp only [intOf_i64]; omega⟩
    · simp only [hl2, ifD_false, decide_false]
      exact fin
  · simp only [hl1, gd_ft, pickD_iff, ifD_false, reduceIte, Bool.false_eq_true, decide_false]
    exact fin
end Go.Proofs.YtendijaeihljeaaDoor
