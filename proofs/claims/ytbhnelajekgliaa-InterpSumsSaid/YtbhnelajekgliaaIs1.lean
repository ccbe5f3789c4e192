/- InterpSums: general laws; the machine. -/
import Derived.Test.YtbhnelajekgliaaIp4
import Derived.Test.YtbhnelajekgliaaDens
namespace Go.Vc
section
variable {P : Program} {w : World} {K : Value → World → Prop} {S : World → Prop} {L : Value → Prop}
theorem q_ptr {s e : TypeId} (hs : P.underlying s = some (.pointer e)) (d : Nat) {a : Addr} : (Op.equalIn (d + 1) s (.pointer (some a)) (.pointer none)).run P w = .ok false w := by
  simp [Op.equalIn, run_underlying hs]
theorem r_eqPtr {s e : TypeId} (hs : P.underlying s = some (.pointer e)) {x y : Operand} {a : Addr} :
    (do eqGuard .eql s x y (.pointer (some a)) (.pointer none); binOp .eql s (.pointer (some a)) (.pointer none)).run P w = .ok (.bool false) w := by
  simp [eqGuard, binOp, equal_succ, q_ptr hs]
/-- l[lo:hi] -/
theorem r_sl {t e : TypeId} {z : Value} {by_ : Nat} (ht : P.underlying t = some (.slice e)) (hi : Inf P e z 1 by_) {v : Value} {n : Nat} {cs : List Value} (h : SliceIs w v 1 n cs) {lo hi' : Option Value} {a b : Nat} (ha : (lo = none ∧ a = 0) ∨ lo = some (.int .i64 a)) (hb : (hi' = none ∧ b = n) ∨ hi' = some (.int .i64 b)) (hab : a ≤ b) (hbn : b ≤ n) :
    ∃ v', (∀ w', (Instr.sliceAt t v lo hi' none).run P w' = .ok v' w') ∧ ∀ w2, SliceIs w2 v 1 n cs → SliceIs w2 v' 1 (b - a) ((cs.drop a).take (b - a)) := by
  have hcl : cs.length = n := by have := h.1; omega
  rcases h.2 with ⟨rfl, h0⟩ | ⟨g, off, cap, rfl, h1, h2, _⟩
  · have ea : a = 0 := by omega
    have eb : b = 0 := by omega
    subst ea eb
    refine ⟨.slice none 0 0, fun w' => ?_, fun w2 _ => ?_⟩
    · rcases ha with ⟨rfl, _⟩ | rfl <;> rcases hb with ⟨rfl, _⟩ | rfl <;> simp [Instr.sliceAt, Instr.slice, run_underlying ht, run_size hi, Instr.sliceBounds, Instr.sliceBound, asIntOf]
    · simp
      exact SliceIs.nil w2 1
  · have hb1 : (0 : Int) ≤ b ∧ (b : Int) ≤ cap := ⟨by omega, by omega⟩
    have ha1 : (0 : Int) ≤ a ∧ (a : Int) ≤ b := ⟨by omega, by omega⟩
    have hbc : b ≤ cap := by omega
    refine ⟨.slice (if cap = a then some ⟨g, off, none⟩ else (some (⟨g, off, none⟩ : Addr)).map (·.add (a * 1))) (b - a) (cap - a), fun w' => ?_, fun w2 hw2 => ?_⟩
    · rcases ha with ⟨rfl, rfl⟩ | rfl <;> rcases hb with ⟨rfl, rfl⟩ | rfl <;> simp [Instr.sliceAt, Instr.slice, run_underlying ht, run_size hi, Instr.sliceBounds, Instr.sliceBound, asIntOf, hab, hbc]
    · refine ⟨by simp; omega, .inr ?_⟩
      by_cases hca : cap = a
      · rw [if_pos hca]
        exact ⟨g, off, cap - a, rfl, by omega, by omega, fun j u hj => by
          have := (List.getElem?_eq_some_iff.1 hj).1
          simp at this
          omega⟩
      · rw [if_neg hca]
        rcases hw2.2 with ⟨he, _⟩ | ⟨g', off', cap', he, _, _, h3⟩
        · cases he
        · cases he
          refine ⟨g, off + a, cap - a, by simp [add_mk], by omega, by omega, fun j u hj => ?_⟩
          rw [List.getElem?_take] at hj
          split at hj
          · rw [List.getElem?_drop] at hj
            have := h3 _ _ hj
            rw [Nat.add_assoc]; exact this
          · cases hj
theorem own_blk {w : World} {g e B n size : Nat} {cs : List Value} (hb : Blk w g cs e) (hn : cs.length = n * size) (hB : B ≤ g) (hm : n ≤ maxLen) : w.ownsRow B e size (.slice (some ⟨g, 0, none⟩) n n) n cs :=
  ⟨hn, .inr ⟨g, n, cs.toArray, rfl, hB, hb, Nat.le_refl _, hm, by simpa using hn, by rw [← hn]; simp⟩⟩
/-- An append onto what the call owns, of elements of any size, and where it lies. -/
theorem apZ {P : Program} {w : World} {K : Value → World → Prop} {t e by_ ty sz : Nat} {z : Value} (ht : P.underlying t = some (.slice e)) (hi : Inf P e z sz by_) (hz : (z.cells.size == sz) = true) (hsz : 0 < sz) {B B' : Nat} {v : Value} {n : Nat} {xs : List Value} (ho : w.ownsRow B e sz v n xs) {x : Value} {m : Nat} {news : List Value} (hs : w.ownsRow B' e sz x m news) (hm : 0 < m) (h1 : news.all oneC = true)
    (hb : (n + m) * by_ ≤ 140737488355328) (h63 : n + m ≤ maxLen) (hB : B ≤ w.heap.size)
    (hk : ∀ g cap w', w'.ownsRow B e sz (.slice (some ⟨g, 0, none⟩) (n + m) cap) (n + m) (xs ++ news) → w.grownBy w' v.ownBlock → (v.ownBlock = some g ∨ g = w.heap.size) → K (.slice (some ⟨g, 0, none⟩) (n + m) cap) w') :
    V P (Builtin.append_ #[t, t] ty #[v, x]) w K := by
  obtain ⟨i, hi', hz', hn, hby⟩ := info_parts hi
  have hs0 := hs
  rcases hs.2 with ⟨_, h0⟩ | ⟨b, cap, cur, rfl, _⟩
  · omega
  · obtain ⟨g, cap, w', hr, h2, h3, h4, h5⟩ := run_append_lies (P := P) (w := w) t ty B e i z sz by_ ht hi' hz' hn hby (by simpa using hz) hsz v n xs ho ⟨b, 0, none⟩ m cap news hs.1 (hs0.cells rfl) (fun u hu => by rw [oneC_eq]; exact List.all_eq_true.1 h1 u hu) hm h63 hb hB _ rfl
    exact V.ok hr (hk g cap w' h2 h3 h4)
/-- What is behind the first a elements. -/
theorem r_slFrom {P : Program} {w : World} {t e : TypeId} {z : Value} {sz by_ : Nat} (ht : P.underlying t = some (.slice e)) (hi : Inf P e z sz by_) {g n cap a : Nat} (ha : a ≤ n) (hn : n ≤ cap) :
    (Instr.sliceAt t (.slice (some ⟨g, 0, none⟩) n cap) (some (.int .i64 (a : Int))) none none).run P w = .ok (.slice (if cap = a then some ⟨g, 0, none⟩ else some ⟨g, a * sz, none⟩) (n - a) (cap - a)) w := by
  simp [Instr.sliceAt, Instr.slice, run_underlying ht, run_size hi, Instr.sliceBounds, Instr.sliceBound, asIntOf, ha, add_mk]
theorem Seg.boxed {w : World} {b : Nat} {cs : List Value} (h : Seg w b 0 cs) : Boxed w b cs := fun j u hj => h.cell hj
theorem Fr.seg {S : Nat → Prop} {w w' : World} {b o : Nat} {cs : List Value} (f : Fr S w w') (h : Seg w b o cs) (hn : ¬ S b) : Seg w' b o cs := h.of (f.block b h.lt hn)
/-- A store into a field of what lies at b. -/
theorem stFS {P : Program} {w : World} {K : World → Prop} {ft b o n by_ : Nat} {z u : Value} {cs : List Value} (hi : Inf P ft z 1 by_) (hb : Seg w b 0 cs) (hn : cs.length = n) (ho : o < n) (hu : oneC u = true) (hk : K (w.setCell ⟨b, 0 + o, none⟩ u)) :
    U P (Instr.storeAt ft (.pointer (some ⟨b, 0 + o, none⟩)) u) w fun _ w2 => K w2 :=
  U.ok (r_store hi hu (hb.cell (List.getElem?_eq_getElem (by omega))) (hb.frozen (by omega))) hk
theorem yS {t x : Nat} (h : XA P t 1) (hl : L1 P x) {b o n cap : Nat} {cs : List Value} (hs : ∀ w', S w' → Seg w' b o cs) {k : IntKind} {i : Int} {u : Value} (h0 : 0 ≤ i) (h1 : i < n) (hu : cs[i.toNat]? = some u) (hk : L u) :
    yieldS P S (Instr.indexAt t (.slice (some ⟨b, o, none⟩) n cap) (.int k i)) fun p => yieldS P S (Instr.loadAt x p) L := by
  obtain ⟨e', z', b', ht, hi⟩ := h
  obtain ⟨d, hd, ha⟩ := hl
  refine yieldS.ok (fun w' _ => r_index ht hi h0 h1) ?_
  simp only [Nat.mul_one]
  exact yieldS.ok (fun w' hw => r_load hd ha ((hs w' hw).cell hu)) hk
theorem yIx {t : Nat} (h : XA P t 1) {b o n cap : Nat} {k : IntKind} {i : Int} (h0 : 0 ≤ i) (h1 : i < n) (hk : L (.pointer (some ⟨b, o + i.toNat, none⟩))) :
    yieldS P S (Instr.indexAt t (.slice (some ⟨b, o, none⟩) n cap) (.int k i)) L := by
  obtain ⟨e', z', b', ht, hi⟩ := h
  refine yieldS.ok (fun w' _ => r_index ht hi h0 h1) ?_
  simpa only [Nat.mul_one] using hk
theorem stSg {x : Nat} {z : Value} {by_ : Nat} (hx : Inf P x z 1 by_) {b o j : Nat} {cs : List Value} (hs : Seg w b o cs) (hj : j < cs.length) {u : Value} (hu : oneC u = true) {K' : World → Prop} (hk : K' (w.setCell ⟨b, o + j, none⟩ u)) :
    U P (Instr.storeAt x (.pointer (some ⟨b, o + j, none⟩)) u) w fun _ w2 => K' w2 :=
  U.ok (r_store hx hu (hs.cell (List.getElem?_eq_getElem hj)) (hs.frozen hj)) hk
theorem rm32 {t : TypeId} {a b : Int} (hb : 0 < b) (hk : ∀ c, c = a.tmod b → K (.int .i32 c) w) : V P (binOp .rem t (.int .i32 a) (.int .i32 b)) w K := by
  have hne : b ≠ 0 := by omega
  have hr : (binOp .rem t (.int .i32 a) (.int .i32 b)).run P w = .ok (.int .i32 (a.tmod b)) w := by simp [binOp, Op.intDiv, hne]
  exact V.ok hr (hk _ rfl)
theorem Blk.seg {w : World} {b : Nat} {cs : List Value} {e : TypeId} (h : Blk w b cs e) : Seg w b 0 cs :=
  ⟨cs.toArray, e, (0, 0), h, by simp, .inl rfl, fun j v hj => by simpa using hj⟩
end
section
variable {P : Program} {w : World} {K : Value → World → Prop} {k : IntKind} {t : TypeId} {a b : Int}
theorem r_and : (binOp .and t (.int k a) (.int k b)).run P w = .ok (.int k (k.wrap (BitVec.ofInt k.bits a &&& BitVec.ofInt k.bits b).toNat)) w := by simp [binOp, Op.intBits]
theorem r_or : (binOp .or t (.int k a) (.int k b)).run P w = .ok (.int k (k.wrap (BitVec.ofInt k.bits a ||| BitVec.ofInt k.bits b).toNat)) w := by simp [binOp, Op.intBits]
theorem r_xor : (binOp .xor t (.int k a) (.int k b)).run P w = .ok (.int k (k.wrap (BitVec.ofInt k.bits a ^^^ BitVec.ofInt k.bits b).toNat)) w := by simp [binOp, Op.intBits]
theorem r_andNot : (binOp .andNot t (.int k a) (.int k b)).run P w = .ok (.int k (k.wrap (BitVec.ofInt k.bits a &&& ~~~ BitVec.ofInt k.bits b).toNat)) w := by simp [binOp, Op.intBits]
theorem r_com : (Op.unary .xor (.int k a)).run P w = .ok (.int k (k.wrap (BitVec.ofInt k.bits (if k.signed then -1 else k.max) ^^^ BitVec.ofInt k.bits a).toNat)) w := by simp [Op.unary, Op.intBits]
theorem r_shl {k' : IntKind} (h : 0 ≤ b) : (binOp .shl t (.int k a) (.int k' b)).run P w = .ok (.int k (k.wrap (a * 2 ^ (min b.toNat k.bits)))) w := by
  have : ¬ b < 0 := by omega
  simp [binOp, Op.shift, this]
theorem r_shr {k' : IntKind} (h : 0 ≤ b) : (binOp .shr t (.int k a) (.int k' b)).run P w = .ok (.int k (a.fdiv (2 ^ (min b.toNat k.bits)))) w := by
  have : ¬ b < 0 := by omega
  simp [binOp, Op.shift, this]
theorem and31 (b : Int) : 0 ≤ IntKind.i32.wrap (BitVec.ofInt IntKind.i32.bits b &&& BitVec.ofInt IntKind.i32.bits 31).toNat := by
  have h : (BitVec.ofInt IntKind.i32.bits b &&& BitVec.ofInt IntKind.i32.bits 31).toNat ≤ 31 := by
    rw [BitVec.toNat_and]
    exact Nat.le_trans Nat.and_le_right (by decide)
  generalize (BitVec.ofInt IntKind.i32.bits b &&& BitVec.ofInt IntKind.i32.bits 31).toNat = n at h
  simp only [IntKind.wrap_i32]
  omega
end

section
variable {P : Program} {w : World} {K : Value → World → Prop} {S : World → Prop} {L : Value → Prop}
theorem yFS {s f j ft : Nat} (hf : FA P s f j) (hl : L1 P ft) {b o : Nat} {cs : List Value} (hs : ∀ w', S w' → Seg w' b o cs) {u : Value} (hu : cs[j]? = some u) (hk : L u) :
    yieldS P S (Instr.fieldAt s (.pointer (some ⟨b, o, none⟩)) f) fun q => yieldS P S (Instr.loadAt ft q) L := by
  obtain ⟨d, hd, ha⟩ := hl
  exact yieldS.ok (fun w' _ => hf.ex w' b o) (yieldS.ok (fun w' hw => r_load hd ha ((hs w' hw).cell hu)) hk)
theorem yFF {s f j s2 f2 j2 ft : Nat} (hf : FA P s f j) (hf2 : FA P s2 f2 j2) (hl : L1 P ft) {b o : Nat} {cs : List Value} (hs : ∀ w', S w' → Seg w' b o cs) {u : Value} (hu : cs[j + j2]? = some u) (hk : L u) :
    yieldS P S (Instr.fieldAt s (.pointer (some ⟨b, o, none⟩)) f) fun q => yieldS P S (Instr.fieldAt s2 q f2) fun q => yieldS P S (Instr.loadAt ft q) L := by
  obtain ⟨d, hd, ha⟩ := hl
  refine yieldS.ok (fun w' _ => hf.ex w' b o) (yieldS.ok (fun w' _ => hf2.ex w' b (o + j)) (yieldS.ok (fun w' hw => r_load hd ha ?_) hk))
  have := (hs w' hw).cell hu
  rwa [← Nat.add_assoc] at this
/-- A store into a field, behind an address that is there already. -/
theorem stSet {x : Nat} {z : Value} {by_ : Nat} (hx : Inf P x z 1 by_) {b o j : Nat} {cs : List Value} (hs : Seg w b o cs) (hj : j < cs.length) {u : Value} (hu : oneC u = true) {K' : World → Prop} (hk : K' (w.setCell ⟨b, o + j, none⟩ u)) :
    U P (Instr.storeAt x (.pointer (some ⟨b, o + j, none⟩)) u) w fun _ w2 => K' w2 :=
  U.ok (r_store hx hu (hs.cell (List.getElem?_eq_getElem hj)) (hs.frozen hj)) hk
theorem fdA {s f j : Nat} (hf : FA P s f j) {b o : Nat} (hk : K (.pointer (some ⟨b, o + j, none⟩)) w) : V P (Instr.fieldAt s (.pointer (some ⟨b, o, none⟩)) f) w K := V.ok (hf.ex w b o) hk
theorem yFA {s f j : Nat} (hf : FA P s f j) {b o : Nat} (hk : L (.pointer (some ⟨b, o + j, none⟩))) : yieldS P S (Instr.fieldAt s (.pointer (some ⟨b, o, none⟩)) f) L := yieldS.ok (fun w' _ => hf.ex w' b o) hk
/-- The first a elements, of what is owned. -/
theorem r_slTo {t e : TypeId} {z : Value} {sz by_ : Nat} (ht : P.underlying t = some (.slice e)) (hi : Inf P e z sz by_) {g n cap a : Nat} (ha : a ≤ n) (hn : n ≤ cap) (hc : 0 < cap) :
    (Instr.sliceAt t (.slice (some ⟨g, 0, none⟩) n cap) none (some (.int .i64 (a : Int))) none).run P w = .ok (.slice (some ⟨g, 0, none⟩) a cap) w := by
  have : cap ≠ 0 := by omega
  have h2 : a ≤ cap := by omega
  simp [Instr.sliceAt, Instr.slice, run_underlying ht, run_size hi, Instr.sliceBounds, Instr.sliceBound, asIntOf, h2, this, add_mk]
theorem own_take {B e sz n a : Nat} {g cap : Nat} {xs : List Value} (h : w.ownsRow B e sz (.slice (some ⟨g, 0, none⟩) n cap) n xs) (ha : a ≤ n) : w.ownsRow B e sz (.slice (some ⟨g, 0, none⟩) a cap) a (xs.take (a * sz)) := by
  obtain ⟨hl, h⟩ := h
  rcases h with ⟨he, _⟩ | ⟨g', cap', cur, he, h1, h2, h3, h4, h5, h6⟩
  · cases he
  · cases he
    have hle : a * sz ≤ n * sz := Nat.mul_le_mul_right _ ha
    refine ⟨by simp; omega, .inr ⟨g, cap, cur, rfl, h1, h2, by omega, h4, h5, ?_⟩⟩
    rw [← h6, List.take_take, Nat.min_eq_left hle]
end
end Go.Vc
namespace Go.Proofs.Ytbhnelajekgliaa
open Go.Vc Go.Ab
theorem i64_succ' (j : Nat) : Value.int .i64 ((j : Int) + 1) = i64 ((j + 1 : Nat) : Int) := by simp
theorem intOf_i64' (n : Int) : RowKit.intOf (i64 n) = n := rfl
/-- Where a machine lies. -/
structure Mch where
  (mb mo fg fo fcap fb bo cg co n cc tb to rb ro ff fof ffc fc fco fcc B : Nat) (hv iv pv sv l7 p3 p5 : Value)
def Mch.pm (p : Mch) : Value := .pointer (some ⟨p.mb, p.mo, none⟩)
def Mch.pf (p : Mch) : Value := .pointer (some ⟨p.fb, p.bo, none⟩)
def Mch.pt (p : Mch) : Value := .pointer (some ⟨p.tb, p.to, none⟩)
def Mch.pr (p : Mch) : Value := .pointer (some ⟨p.rb, p.ro, none⟩)
def Mch.code (p : Mch) : Value := .slice (some ⟨p.cg, p.co, none⟩) p.n p.cc
/-- Not a block of it. -/
def Dj (p : Mch) (i : Nat) : Prop := i ≠ p.mb ∧ i ≠ p.fg ∧ i ≠ p.fb ∧ i ≠ p.cg ∧ i ≠ p.tb ∧ i ≠ p.rb ∧ i ≠ p.ff ∧ i ≠ p.fc
structure Ne8 (p : Mch) : Prop where
  mg : p.mb ≠ p.fg
  mf : p.mb ≠ p.fb
  mc : p.mb ≠ p.cg
  mt : p.mb ≠ p.tb
  mr : p.mb ≠ p.rb
  mq : p.mb ≠ p.ff
  mz : p.mb ≠ p.fc
  gf : p.fg ≠ p.fb
  gc : p.fg ≠ p.cg
  gt : p.fg ≠ p.tb
  gr : p.fg ≠ p.rb
  gq : p.fg ≠ p.ff
  gz : p.fg ≠ p.fc
  fc : p.fb ≠ p.cg
  ft : p.fb ≠ p.tb
  fr : p.fb ≠ p.rb
  fq : p.fb ≠ p.ff
  fz : p.fb ≠ p.fc
  ct : p.cg ≠ p.tb
  cr : p.cg ≠ p.rb
  cq : p.cg ≠ p.ff
  cz : p.cg ≠ p.fc
  tr : p.tb ≠ p.rb
  tq : p.tb ≠ p.ff
  tz : p.tb ≠ p.fc
  rq : p.rb ≠ p.ff
  rz : p.rb ≠ p.fc
  qz : p.ff ≠ p.fc
/-- A machine: its blocks. fl: how many frames. -/
structure MS0 (p : Mch) (o a : Nat → Int) (w : World) (fl : Nat) (pc fuel status z : Int) (sv tv : Value) : Prop where
  m : Seg w p.mb p.mo [p.pr, p.pt, .slice (some ⟨p.fg, p.fo, none⟩) fl p.fcap, i64 fuel, i64 status]
  g : Seg w p.fg p.fo [p.pf]
  f : Seg w p.fb p.bo [i64 0, i64 0, i64 pc, p.p3, i64 0, p.p5, p.code, p.l7, sv]
  c : Seg w p.cg p.co (codeV p.n o a)
  t : Seg w p.tb p.to [tv]
  r : Seg w p.rb p.ro [p.hv, p.iv, .slice (some ⟨p.ff, p.fof, none⟩) 1 p.ffc, p.pv, p.sv]
  rf : Seg w p.ff p.fof [.slice (some ⟨p.fc, p.fco, none⟩) 1 p.fcc]
  z : Seg w p.fc p.fco [i32 z]
  ne : Ne8 p
  B : p.B ≤ w.heap.size
  cap : 1 ≤ p.fcap ∧ p.n ≤ p.cc
variable {p : Mch} {o a : Nat → Int} {w w' : World} {fl : Nat} {pc fuel status z : Int} {sv tv : Value}
theorem MS0.fr {S : Nat → Prop} (h : MS0 p o a w fl pc fuel status z sv tv) (f : Fr S w w') (hS : ∀ i, S i → Dj p i) : MS0 p o a w' fl pc fuel status z sv tv :=
  ⟨f.seg h.m fun hs => (hS _ hs).1 rfl, f.seg h.g fun hs => (hS _ hs).2.1 rfl, f.seg h.f fun hs => (hS _ hs).2.2.1 rfl, f.seg h.c fun hs => (hS _ hs).2.2.2.1 rfl, f.seg h.t fun hs => (hS _ hs).2.2.2.2.1 rfl, f.seg h.r fun hs => (hS _ hs).2.2.2.2.2.1 rfl, f.seg h.rf fun hs => (hS _ hs).2.2.2.2.2.2.1 rfl, f.seg h.z fun hs => (hS _ hs).2.2.2.2.2.2.2 rfl, h.ne, Nat.le_trans h.B f.size, h.cap⟩
theorem MS0.ext (h : MS0 p o a w fl pc fuel status z sv tv) (hx : Ext w w') : MS0 p o a w' fl pc fuel status z sv tv := h.fr (Fr.of_ext (S := fun _ => False) hx) fun _ hf => hf.elim
theorem MS0.lt (h : MS0 p o a w fl pc fuel status z sv tv) {i : Nat} (hi : w.heap.size ≤ i) : Dj p i := by
  have h1 := h.m.lt; have h2 := h.g.lt; have h3 := h.f.lt; have h4 := h.c.lt; have h5 := h.t.lt; have h6 := h.r.lt; have h7 := h.rf.lt; have h8 := h.z.lt
  unfold Dj
  omega
/-- A cell of the machine's own block is set. -/
theorem MS0.setM (h : MS0 p o a w fl pc fuel status z sv tv) {j : Nat} {u : Value} {fl' : Nat} {fuel' status' : Int} (hj : j < 5) (he : [p.pr, p.pt, .slice (some ⟨p.fg, p.fo, none⟩) fl p.fcap, i64 fuel, i64 status].set j u = [p.pr, p.pt, .slice (some ⟨p.fg, p.fo, none⟩) fl' p.fcap, i64 fuel', i64 status']) :
    MS0 p o a (w.setCell ⟨p.mb, p.mo + j, none⟩ u) fl' pc fuel' status' z sv tv ∧ Fr (fun i => i = p.mb) w (w.setCell ⟨p.mb, p.mo + j, none⟩ u) := by
  have f : Fr (fun i => i = p.mb) w (w.setCell ⟨p.mb, p.mo + j, none⟩ u) := Fr.of_set rfl
  have hm := h.m.set (j := j) hj u
  rw [he] at hm
  exact ⟨⟨hm, f.seg h.g h.ne.mg.symm, f.seg h.f h.ne.mf.symm, f.seg h.c h.ne.mc.symm, f.seg h.t h.ne.mt.symm, f.seg h.r h.ne.mr.symm, f.seg h.rf h.ne.mq.symm, f.seg h.z h.ne.mz.symm, h.ne, Nat.le_trans h.B f.size, h.cap⟩, f⟩
/-- A cell of the frame's block is set. -/
theorem MS0.setF (h : MS0 p o a w fl pc fuel status z sv tv) {j : Nat} {u : Value} {pc' : Int} {sv' : Value} (hj : j < 9) (he : [i64 0, i64 0, i64 pc, p.p3, i64 0, p.p5, p.code, p.l7, sv].set j u = [i64 0, i64 0, i64 pc', p.p3, i64 0, p.p5, p.code, p.l7, sv']) :
    MS0 p o a (w.setCell ⟨p.fb, p.bo + j, none⟩ u) fl pc' fuel status z sv' tv ∧ Fr (fun i => i = p.fb) w (w.setCell ⟨p.fb, p.bo + j, none⟩ u) := by
  have f : Fr (fun i => i = p.fb) w (w.setCell ⟨p.fb, p.bo + j, none⟩ u) := Fr.of_set rfl
  have hm := h.f.set (j := j) hj u
  rw [he] at hm
  exact ⟨⟨f.seg h.m h.ne.mf, f.seg h.g h.ne.gf, hm, f.seg h.c h.ne.fc.symm, f.seg h.t h.ne.ft.symm, f.seg h.r h.ne.fr.symm, f.seg h.rf h.ne.fq.symm, f.seg h.z h.ne.fz.symm, h.ne, Nat.le_trans h.B f.size, h.cap⟩, f⟩
theorem MS0.setT (h : MS0 p o a w fl pc fuel status z sv tv) {tv' : Value} :
    MS0 p o a (w.setCell ⟨p.tb, p.to + 0, none⟩ tv') fl pc fuel status z sv tv' ∧ Fr (fun i => i = p.tb) w (w.setCell ⟨p.tb, p.to + 0, none⟩ tv') := by
  have f : Fr (fun i => i = p.tb) w (w.setCell ⟨p.tb, p.to + 0, none⟩ tv') := Fr.of_set rfl
  have hm := h.t.set (j := 0) Nat.one_pos tv'
  exact ⟨⟨f.seg h.m h.ne.mt, f.seg h.g h.ne.gt, f.seg h.f h.ne.ft, f.seg h.c h.ne.ct, hm, f.seg h.r h.ne.tr.symm, f.seg h.rf h.ne.tq.symm, f.seg h.z h.ne.tz.symm, h.ne, Nat.le_trans h.B f.size, h.cap⟩, f⟩
theorem MS0.setZ (h : MS0 p o a w fl pc fuel status z sv tv) {z' : Int} :
    MS0 p o a (w.setCell ⟨p.fc, p.fco + 0, none⟩ (i32 z')) fl pc fuel status z' sv tv ∧ Fr (fun i => i = p.fc) w (w.setCell ⟨p.fc, p.fco + 0, none⟩ (i32 z')) := by
  have f : Fr (fun i => i = p.fc) w (w.setCell ⟨p.fc, p.fco + 0, none⟩ (i32 z')) := Fr.of_set rfl
  have hm := h.z.set (j := 0) Nat.one_pos (i32 z')
  exact ⟨⟨f.seg h.m h.ne.mz, f.seg h.g h.ne.gz, f.seg h.f h.ne.fz, f.seg h.c h.ne.cz, f.seg h.t h.ne.tz, f.seg h.r h.ne.rz, f.seg h.rf h.ne.qz, hm, h.ne, Nat.le_trans h.B f.size, h.cap⟩, f⟩
/-- A machine, and its rows; what H holds it never turns. -/
structure MS (p : Mch) (o a : Nat → Int) (H : Nat → Prop) (w : World) (fl : Nat) (pc fuel status z : Int) (st : List Int) (tn : Nat) : Prop where
  ex : ∃ sv tv tc, MS0 p o a w fl pc fuel status z sv tv ∧ w.ownsRow p.B 21 1 sv st.length (st.map i32) ∧ w.ownsRow p.B 95 4 tv tn tc ∧ tc.all oneC = true ∧ (∀ i, sv.ownBlock = some i → Dj p i) ∧ (∀ i, tv.ownBlock = some i → Dj p i) ∧ (∀ i, sv.ownBlock = some i → tv.ownBlock ≠ some i) ∧ ∀ i, H i → i < w.heap.size ∧ Dj p i ∧ sv.ownBlock ≠ some i ∧ tv.ownBlock ≠ some i
variable {H : Nat → Prop} {st : List Int} {tn : Nat}
theorem MS.ext (h : MS p o a H w fl pc fuel status z st tn) (hx : Ext w w') : MS p o a H w' fl pc fuel status z st tn := by
  obtain ⟨sv, tv, tc, h0, h1, h2, h3, h4, h5, h6, h7⟩ := h.ex
  exact ⟨sv, tv, tc, h0.ext hx, hx.own h1, hx.own h2, h3, h4, h5, h6, fun i hi => ⟨Nat.lt_of_lt_of_le (h7 i hi).1 hx.size, (h7 i hi).2⟩⟩
/-- A new block is kept, too. -/
theorem MS.keep (h : MS p o a H w fl pc fuel status z st tn) (hx : Ext w w') {b : Nat} (hb : w.heap.size ≤ b) (hb' : b < w'.heap.size) : MS p o a (fun i => H i ∨ i = b) w' fl pc fuel status z st tn := by
  obtain ⟨sv, tv, tc, h0, h1, h2, h3, h4, h5, h6, h7⟩ := h.ex
  refine ⟨sv, tv, tc, h0.ext hx, hx.own h1, hx.own h2, h3, h4, h5, h6, fun i hi => ?_⟩
  rcases hi with hi | rfl
  · exact ⟨Nat.lt_of_lt_of_le (h7 i hi).1 hx.size, (h7 i hi).2⟩
  · exact ⟨hb', h0.lt hb, fun he => by have := (h1.lt _ he).2; omega, fun he => by have := (h2.lt _ he).2; omega⟩
theorem MS.less {H' : Nat → Prop} (h : MS p o a H w fl pc fuel status z st tn) (hl : ∀ i, H' i → H i) : MS p o a H' w fl pc fuel status z st tn := by
  obtain ⟨sv, tv, tc, h0, h1, h2, h3, h4, h5, h6, h7⟩ := h.ex
  exact ⟨sv, tv, tc, h0, h1, h2, h3, h4, h5, h6, fun i hi => h7 i (hl i hi)⟩
end Go.Proofs.Ytbhnelajekgliaa

