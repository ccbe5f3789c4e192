/- An event of words; a line parsed (the program's side). -/
import Derived.Test.YthblbcjgdbaonaaGreatDoorSe
import Derived.Laws.BytesArg
import Derived.Test.YthblbcjgdbaonaaGreatDoorSb
import Derived.WalkKit
import Derived.ProofKit
import Derived.OpenShut
import Derived.WideKeyArgs
import Derived.ChangeArms
import Derived.FnData
namespace Go.Tc
def sEq (a b : ByteArray) : Bool := a.toList == b.toList
end Go.Tc
namespace Go.Proofs.YthblbcjgdbaonaaGreatDoor
open Go.Vc Go.Tc
variable {w : World} {K : Value → World → Prop}
def StrsIs (w : World) (v : Value) (ws : List ByteArray) : Prop := SliceIs w v 1 ws.length (ws.map .string)
def wd (ws : List ByteArray) (k : Nat) : ByteArray := ws.getD k ⟨#[]⟩
theorem ldW {v : Value} {ws : List ByteArray} {k : Nat} {i : Int} (h : StrsIs w v ws) (hi : i = k) (hk : k < ws.length) (hK : K (.string (wd ws k)) w) : V Tryz.prog (Instr.indexAt 53 v (.int .i64 i)) w fun p w1 => V Tryz.prog (Instr.loadAt 9 p) w1 K := by
  subst hi
  refine ldx xa_53 l1_9 h (by omega) (by omega) (u := .string (wd ws k)) ?_ hK
  rw [Int.toNat_natCast, List.getElem?_map, List.getElem?_eq_getElem hk]
  simp only [wd, List.getD_eq_getElem?_getD, List.getElem?_eq_getElem hk, Option.map_some, Option.getD_some]
theorem tstW {v : Value} {ws : List ByteArray} {c : ByteArray} {n : Nat} {x y x2 y2 : Operand} (h : StrsIs w v ws) (hpos : 0 < ws.length) (hK : K (.bool (sEq (wd ws 0) c && decide (ws.length = n))) w) :
    V Tryz.prog (Instr.indexAt 53 v (i64 0)) w fun t10 w3 => V Tryz.prog (Instr.loadAt 9 t10) w3 fun t11 w4 => V Tryz.prog (do eqGuard .eql 9 x y t11 (.string c); binOp .eql 9 t11 (.string c)) w4 fun t12 w5 =>
    gd t12 true (fun K => K v w5) w5 fun t14 w6 => gd t12 true (fun K => V Tryz.prog (Builtin.len_ #[53] 3 #[t14]) w6 K) w6 fun t15 w7 => gd t12 true (fun K => V Tryz.prog (do eqGuard .eql 3 x2 y2 t15 (i64 n); binOp .eql 3 t15 (i64 n)) w7 K) w7 fun t16 w8 => pickD t12 t16 (.bool false) fun t17 => K t17 w8 := by
  refine ldW (k := 0) h rfl hpos (V.ok r_eqStr ?_)
  unfold sEq at hK
  cases he : (wd ws 0).toList == c.toList with
  | true =>
    simp only [evL, reduceIte]
    refine lnx xa_53 h (V_eqlI.2 ?_)
    rw [he, Bool.true_and, show decide (ws.length = n) = decide ((ws.length : Int) = (n : Int)) from decide_eq_decide.2 (by omega)] at hK
    exact hK
  | false =>
    simp only [evL, reduceIte, Bool.false_eq_true]
    rw [he, Bool.false_and] at hK
    exact hK
def wIns : ByteArray := ⟨#[105, 110, 115, 116, 97, 108, 108]⟩
def wSel : ByteArray := ⟨#[115, 101, 108, 101, 99, 116]⟩
def wCom : ByteArray := ⟨#[99, 111, 109, 109, 97, 110, 100]⟩
def ev0 : Evt := ⟨0, [], ⟨#[]⟩, [], [], 0⟩
def evF (ws : List ByteArray) : Evt × Bool :=
  if sEq (wd ws 0) wIns && decide (ws.length = 2) then ({ ev0 with kind := 1, bytes := (byF (wd ws 1)).1 }, (byF (wd ws 1)).2)
  else if sEq (wd ws 0) wSel && decide (ws.length = 2) then ({ ev0 with kind := 2, name := wd ws 1 }, true)
  else if sEq (wd ws 0) sDes && decide (ws.length = 1) then ({ ev0 with kind := 3 }, true)
  else if sEq (wd ws 0) sRes && decide (ws.length = 1) then ({ ev0 with kind := 4 }, true)
  else if sEq (wd ws 0) wCom && decide (ws.length = 4) then ({ ev0 with kind := 5, pub := (byF (wd ws 1)).1, sec := (byF (wd ws 2)).1, fuel := (numF (wd ws 3)).1 }, ((byF (wd ws 1)).2 && (byF (wd ws 2)).2) && (numF (wd ws 3)).2)
  else (ev0, false)
set_option maxHeartbeats 3200000 in
theorem event25 {v : Value} {ws : List ByteArray} (h : StrsIs w v ws) (hpos : 0 < ws.length) (hsz : ∀ b ∈ ws, b.size ≤ 8000000) (hk : ∀ cs w', EvtStay 0 w.heap.size w' cs (evF ws).1 → Ext w w' → K (.tuple #[.agg cs.toArray, .bool (evF ws).2]) w') : callD Tryz.prog 25 #[v] w K := by
  apply F25_wp
  suffices key : ∀ R : Value → World → Prop, (∀ cs w', EvtStay 0 w.heap.size w' cs (evF ws).1 → Ext w w' → R (.tuple #[.agg cs.toArray, .bool (evF ws).2]) w') → F25_den v w R from key _ hk
  clear hk
  intro R hR
  unfold F25_den
  have wsz : ∀ k, (wd ws k).size ≤ 8000000 := fun k => by
    unfold wd
    rw [List.getD_eq_getElem?_getD]
    cases hx : ws[k]? with
    | none => exact Nat.zero_le _
    | some b => exact hsz b (List.mem_of_getElem? hx)
  refine alK inf29 fun w1 hB2 x1 => alK inf29 fun w2 hB4 x2 => ?_
  have hB2 : Blk w1 w.heap.size [i64 0, nilS, .string ByteArray.empty, nilS, nilS, i64 0] 29 := hB2
  have hB4 : Blk w2 w1.heap.size [i64 0, nilS, .string ByteArray.empty, nilS, nilS, i64 0] 29 := hB4
  have x02 := x1.trans x2
  have l2 := hB2.lt
  have l4 := hB4.lt
  have hB2 := hB2.ext x2
  generalize hg2 : w.heap.size = g2 at *
  generalize hg4 : w1.heap.size = g4 at *
  have h2 : StrsIs w2 v ws := SliceIs.ext h x02
  have fin : ∀ {w' : World} {cs : List Value} {b : Bool}, Ext w w' → Blk w' g4 cs 29 → Blk w' g2 [i64 0, nilS, .string ByteArray.empty, nilS, nilS, i64 0] 29 → (∀ w'', Fr (fun k => k ≤ g2) w' w'' → EvtIs w'' cs (evF ws).1) → b = (evF ws).2 → V Tryz.prog (Instr.loadAt 29 (.pointer (some ⟨g4, 0, none⟩))) w' fun t106 w19 => U Tryz.prog (Instr.storeAt 29 (.pointer (some ⟨g2, 0, none⟩)) t106) w19 fun _ w20 =>
      ∃ r1, (loadVar 29 (match (Value.pointer (some ⟨g2, 0, none⟩)) with | .pointer (some p) => p | _ => ⟨0, 0, none⟩)).run Tryz.prog w20 = .ok r1 w20 ∧ (∃ p, (Value.pointer (some ⟨g2, 0, none⟩)) = Value.pointer (some p)) ∧ R (.tuple #[r1, .bool b]) w20 := by
    intro w' cs b hx hb4 hb2 hS hb
    subst hb
    have hone := (hS w' (Fr.refl _ _)).one
    refine ldA hb4.boxed la_29 hone.2 ?_
    refine stA inf29 hb2 (l := cs) rfl hone.2 rfl hone.1 fun w7 hB7 hc => ?_
    exact ⟨_, r_var Tryz.underlying29 rfl inf29 hB7 hone.2, ⟨_, rfl⟩, hR cs w7 (fun w'' f => hS w'' (((chg_fr hc).mono fun k hk => by omega).trans (f.mono fun k hk => Nat.le_of_lt hk.2) fun _ _ h => h)) (hc.ext _ hx (by omega))⟩
  have fr4 : ∀ {w' : World} {o : Nat} {u : Value}, Fr (fun k => k = g4) w' (w'.setCell ⟨g4, o, none⟩ u) := Fr.of_set rfl
  have ne24 : g2 ≠ g4 := by omega
  have owns : ∀ {v' : Value} {l : List Int} {w' w'' : World} {B : Nat} {cs : List Value}, w'.ownsRow B 5 1 v' l.length (l.map u8) → Blk w' g4 cs 29 → Fr (fun k => k = g4) w' w'' → w''.ownsRow B 5 1 v' l.length (l.map u8) := fun ho hb f => f.own ho fun k hk h => own_neB hb ho (by decide) k hk h
  have owns2 : ∀ {v' : Value} {l : List Int} {w' w'' : World} {B : Nat}, w'.ownsRow B 5 1 v' l.length (l.map u8) → g2 < B → Fr (fun k => k ≤ g2) w' w'' → w''.ownsRow B 5 1 v' l.length (l.map u8) := fun ho hB f => f.own ho fun k hk h => by have := (ho.lt k hk).1; omega
  have x4 : ∀ {w' : World} {o : Nat} {u : Value}, Ext w w' → Ext w (w'.setCell ⟨g4, o, none⟩ u) := fun hx => fr4.ext hx fun k hk => by have hk : k = g4 := hk; omega
  refine tstW (c := wIns) (n := 2) h2 hpos ?_
  unfold evF at fin
  cases c1 : sEq (wd ws 0) wIns && decide (ws.length = 2) with
  | true =>
    rw [c1, if_pos rfl] at fin
    simp only [Bool.and_eq_true, decide_eq_true_eq] at c1
    refine ifD_true.2 ?_
    refine stF fa_29_0 inf3 hB4 rfl (by simp) rfl ?_
    have hB4a := hB4.set 0 (i64 1)
    have hB2a := hB2.other (j := 0) (u := i64 1) ne24
    have xa := x4 (o := 0) (u := i64 1) x02
    refine ldW (k := 1) (SliceIs.ext h xa) rfl (by omega) ?_
    refine bytesOf45 (wsz 1) fun bv w5 ho5 hb5 x5 => V_ext0.2 (V_ext1.2 ?_)
    have hB4b := hB4a.ext x5
    have hB2b := hB2a.ext x5
    refine stF fa_29_1 inf23 hB4b rfl (by simp) (own_oneM ho5) ?_
    have ho6 := owns ho5 hB4b (fr4 (o := 1) (u := bv))
    have hB2c := hB2b.other (j := 1) (u := bv) ne24
    exact fin (x4 (xa.trans x5)) (hB4b.set 1 bv) hB2c (fun w'' f => ⟨⟨bv, nilS, nilS, rfl, ArgsU8.own (owns2 ho6 (by simpa using hB2.lt) f), ArgsU8.nil _, ArgsU8.nil _⟩, hb5, u8nil, u8nil⟩) rfl
  | false =>
  rw [c1, if_neg (by simp)] at fin
  refine ifD_false.2 ?_
  refine tstW (c := wSel) (n := 2) h2 hpos ?_
  cases c2 : sEq (wd ws 0) wSel && decide (ws.length = 2) with
  | true =>
    rw [c2, if_pos rfl] at fin
    simp only [Bool.and_eq_true, decide_eq_true_eq] at c2
    refine ifD_true.2 ?_
    have D1 : Ext w2 w2.drew := (Ext.refl _).drew
    have xd := x02.trans D1
    refine drawD.mk' (fun w' => Ext w w') xd ?_
    have hu : (ws.map Value.string)[((1 : Int)).toNat]? = some (.string (wd ws 1)) := by
      show (ws.map Value.string)[1]? = _
      rw [List.getElem?_map, List.getElem?_eq_getElem (show 1 < ws.length by omega)]
      simp only [wd, List.getD_eq_getElem?_getD, List.getElem?_eq_getElem (show 1 < ws.length by omega), Option.map_some, Option.getD_some]
    refine ySl xa_53 l1_9 h (fun _ h => h) (by decide) (by omega) hu ?_
    refine yieldS.ok (fun w' _ => (fa_29_0).ex w' g4 0) ?_
    refine stFU inf3 (hB4.ext D1) rfl (by simp) rfl ⟨x4 xd, ?_⟩
    have hB4a := (hB4.ext D1).set 0 (i64 2)
    have hB2a := (hB2.ext D1).other (j := 0) (u := i64 2) ne24
    refine yieldS.ok (fun w' _ => (fa_29_2).ex w' g4 0) ?_
    refine stFU inf9 hB4a rfl (by simp) rfl ⟨x4 (x4 xd), ?_⟩
    exact fin (x4 (x4 xd)) (hB4a.set 2 (.string (wd ws 1))) (hB2a.other ne24) (fun w'' f => ⟨⟨nilS, nilS, nilS, rfl, ArgsU8.nil _, ArgsU8.nil _, ArgsU8.nil _⟩, u8nil, u8nil, u8nil⟩) rfl
  | false =>
  rw [c2, if_neg (by simp)] at fin
  refine ifD_false.2 ?_
  refine tstW (c := sDes) (n := 1) h2 hpos ?_
  cases c3 : sEq (wd ws 0) sDes && decide (ws.length = 1) with
  | true =>
    rw [c3, if_pos rfl] at fin
    refine ifD_true.2 ?_
    refine stF fa_29_0 inf3 hB4 rfl (by simp) rfl ?_
    exact fin (x4 x02) (hB4.set 0 (i64 3)) (hB2.other ne24) (fun w'' f => ⟨⟨nilS, nilS, nilS, rfl, ArgsU8.nil _, ArgsU8.nil _, ArgsU8.nil _⟩, u8nil, u8nil, u8nil⟩) rfl
  | false =>
  rw [c3, if_neg (by simp)] at fin
  refine ifD_false.2 ?_
  refine tstW (c := sRes) (n := 1) h2 hpos ?_
  cases c4 : sEq (wd ws 0) sRes && decide (ws.length = 1) with
  | true =>
    rw [c4, if_pos rfl] at fin
    refine ifD_true.2 ?_
    refine stF fa_29_0 inf3 hB4 rfl (by simp) rfl ?_
    exact fin (x4 x02) (hB4.set 0 (i64 4)) (hB2.other ne24) (fun w'' f => ⟨⟨nilS, nilS, nilS, rfl, ArgsU8.nil _, ArgsU8.nil _, ArgsU8.nil _⟩, u8nil, u8nil, u8nil⟩) rfl
  | false =>
  rw [c4, if_neg (by simp)] at fin
  refine ifD_false.2 ?_
  refine tstW (c := wCom) (n := 4) h2 hpos ?_
  cases c5 : sEq (wd ws 0) wCom && decide (ws.length = 4) with
  | true =>
    rw [c5, if_pos rfl] at fin
    simp only [Bool.and_eq_true, decide_eq_true_eq] at c5
    refine ifD_true.2 ?_
    refine stF fa_29_0 inf3 hB4 rfl (by simp) rfl ?_
    have hB4a := hB4.set 0 (i64 5)
    have hB2a := hB2.other (j := 0) (u := i64 5) ne24
    have xa := x4 (o := 0) (u := i64 5) x02
    refine ldW (k := 1) (SliceIs.ext h xa) rfl (by omega) ?_
    refine bytesOf45 (wsz 1) fun bv w5 ho5 hb5 x5 => V_ext0.2 (V_ext1.2 ?_)
    have hB4b := hB4a.ext x5
    have hB2b := hB2a.ext x5
    refine stF fa_29_3 inf23 hB4b rfl (by simp) (own_oneM ho5) ?_
    have ho6 := owns ho5 hB4b (fr4 (o := 3) (u := bv))
    have hB2c := hB2b.other (j := 3) (u := bv) ne24
    have hB4c := hB4b.set 3 bv
    have xc := x4 (o := 3) (u := bv) (xa.trans x5)
    refine ldW (k := 2) (SliceIs.ext h xc) rfl (by omega) ?_
    refine bytesOf45 (wsz 2) fun cv w7 ho7 hb7 x7 => V_ext0.2 (V_ext1.2 ?_)
    have hB4d := hB4c.ext x7
    have hB2d := hB2c.ext x7
    have ho6d := (Fr.of_ext (S := fun _ => False) x7).own ho6 fun _ _ h => h
    refine stF fa_29_4 inf23 hB4d rfl (by simp) (own_oneM ho7) ?_
    have ho8 := owns ho7 hB4d (fr4 (o := 4) (u := cv))
    have ho6e := owns ho6d hB4d (fr4 (o := 4) (u := cv))
    have hB2e := hB2d.other (j := 4) (u := cv) ne24
    have hB4e := hB4d.set 4 cv
    have xe := x4 (o := 4) (u := cv) (xc.trans x7)
    refine ldW (k := 3) (SliceIs.ext h xe) rfl (by omega) ?_
    refine number46 fun w9 x9 => V_ext0.2 (V_ext1.2 ?_)
    have hB4f := hB4e.ext x9
    have hB2f := hB2e.ext x9
    have ho6f := (Fr.of_ext (S := fun _ => False) x9).own ho6e fun _ _ h => h
    have ho8f := (Fr.of_ext (S := fun _ => False) x9).own ho8 fun _ _ h => h
    refine stF fa_29_5 inf3 hB4f rfl (by simp) rfl ?_
    have ho6g := owns ho6f hB4f (fr4 (o := 5) (u := i64 (numF (wd ws 3)).1))
    have ho8g := owns ho8f hB4f (fr4 (o := 5) (u := i64 (numF (wd ws 3)).1))
    have hB2g := hB2f.other (j := 5) (u := i64 (numF (wd ws 3)).1) ne24
    have done := fin (b := ((byF (wd ws 1)).2 && (byF (wd ws 2)).2) && (numF (wd ws 3)).2) (x4 (o := 5) (u := i64 (numF (wd ws 3)).1) (xe.trans x9)) (hB4f.set 5 (i64 (numF (wd ws 3)).1)) hB2g (fun w'' f => ⟨⟨nilS, bv, cv, rfl, ArgsU8.nil _, ArgsU8.own (owns2 ho6g (by simpa using hB2.lt) f), ArgsU8.own (owns2 ho8g (by simpa using hB2b.lt) f)⟩, u8nil, hb5, hb7⟩) rfl
    cases b1 : (byF (wd ws 1)).2 <;> cases b2 : (byF (wd ws 2)).2 <;> cases b3 : (numF (wd ws 3)).2 <;> (simp only [b1, b2, b3, Bool.and_true, Bool.and_false] at done ⊢; simp only [evL, reduceIte, Bool.false_eq_true]; exact done)
  | false =>
  rw [c5, if_neg (by simp)] at fin
  refine ifD_false.2 ?_
  exact fin x02 hB4 hB2 (fun w'' f => ⟨⟨nilS, nilS, nilS, rfl, ArgsU8.nil _, ArgsU8.nil _, ArgsU8.nil _⟩, u8nil, u8nil, u8nil⟩) rfl
end Go.Proofs.YthblbcjgdbaonaaGreatDoor
namespace Go.Tc
theorem wstep_len {acc : List ByteArray} {c : Nat} (h : 0 < acc.length) : 0 < (wstep acc c).length := by
  unfold wstep
  split
  · rw [List.length_append]; omega
  · rw [List.length_set]; exact h
theorem wstep_size {acc : List ByteArray} {c M : Nat} (h : ∀ b ∈ acc, b.size ≤ M) : ∀ b ∈ wstep acc c, b.size ≤ M + 4 := by
  unfold wstep
  split
  · intro b hb
    rcases List.mem_append.1 hb with hb | hb
    · have := h b hb; omega
    · rw [List.mem_singleton] at hb; subst hb; exact Nat.zero_le _
  · intro b hb
    rcases List.mem_or_eq_of_mem_set hb with hb | rfl
    · have := h b hb; omega
    · have e2 := encode_size (c : Int)
      rw [ByteArray.size_append]
      have : (acc.getD (acc.length - 1) ⟨#[]⟩).size ≤ M := by
        rw [List.getD_eq_getElem?_getD]
        cases hx : acc[acc.length - 1]? with
        | none => exact Nat.zero_le _
        | some b => exact h b (List.mem_of_getElem? hx)
      omega
theorem wordsN_facts {s : ByteArray} : ∀ {n p M : Nat} {acc : List ByteArray}, 0 < acc.length → (∀ b ∈ acc, b.size ≤ M) → 0 < (wordsN s n p acc).length ∧ ∀ b ∈ wordsN s n p acc, b.size ≤ M + 4 * n
  | 0, p, M, acc, h1, h2 => ⟨h1, fun b hb => by have := h2 b hb; omega⟩
  | n + 1, p, M, acc, h1, h2 => by
    rw [wordsN]
    split
    · obtain ⟨a, b⟩ := wordsN_facts (n := n) (p := p + (Utf8.decode s p).2) (wstep_len (c := (Utf8.decode s p).1) h1) (wstep_size (c := (Utf8.decode s p).1) h2)
      exact ⟨a, fun x hx => by have := b x hx; omega⟩
    · exact ⟨h1, fun b hb => by have := h2 b hb; omega⟩
theorem wordsF_facts (s : ByteArray) : 0 < (wordsF s).length ∧ ∀ b ∈ wordsF s, b.size ≤ 4 * s.size := by
  have := wordsN_facts (s := s) (n := s.size) (p := 0) (M := 0) (acc := [⟨#[]⟩]) (by simp) (fun b hb => by rw [List.mem_singleton] at hb; subst hb; exact Nat.zero_le _)
  exact ⟨this.1, fun b hb => by have := this.2 b hb; omega⟩
end Go.Tc
namespace Go.Proofs.YthblbcjgdbaonaaGreatDoor
open Go.Vc Go.Tc
variable {w : World} {K : Value → World → Prop}
def parseP (s : ByteArray) : Evt × Bool :=
  if (evF (wordsF s)).2 && (prE (evF (wordsF s)).1).2 && sEq (prE (evF (wordsF s)).1).1 s then ((evF (wordsF s)).1, true) else (ev0, false)
theorem evt0 : EvtIs w [i64 0, nilS, .string ⟨#[]⟩, nilS, nilS, i64 0] ev0 := ⟨⟨nilS, nilS, nilS, rfl, ArgsU8.nil _, ArgsU8.nil _, ArgsU8.nil _⟩, u8nil, u8nil, u8nil⟩
set_option maxHeartbeats 1600000 in
theorem parse13 {s : ByteArray} (hs : s.size ≤ 2000000) (hT : STabs w) (hk : ∀ cs w', EvtIs w' cs (parseP s).1 → Ext w w' → K (.tuple #[.agg cs.toArray, .bool (parseP s).2]) w') : callD Tryz.prog 13 #[.string s] w K := by
  apply F13_wp
  suffices key : ∀ R : Value → World → Prop, (∀ cs w', EvtIs w' cs (parseP s).1 → Ext w w' → R (.tuple #[.agg cs.toArray, .bool (parseP s).2]) w') → F13_den (.string s) w R from key _ hk
  clear hk
  intro R hR
  unfold F13_den
  refine alK inf29 fun w1 hB2 x1 => ?_
  have hB2 : Blk w1 w.heap.size [i64 0, nilS, .string ByteArray.empty, nilS, nilS, i64 0] 29 := hB2
  have l2 := hB2.lt
  generalize hg2 : w.heap.size = g2 at *
  obtain ⟨f1, f2⟩ := wordsF_facts s
  refine words26 hs fun v w2 ho2 x2 => ?_
  have ho2 : w2.ownsRow w1.heap.size 9 1 v (wordsF s).length ((wordsF s).map .string) := ho2
  refine event25 (SliceIs.of_own ho2) f1 (fun b hb => by have := f2 b hb; omega) fun cs w3 he x3 => V_ext0.2 (V_ext1.2 ?_)
  have s2 := x2.size
  have hone := he.now.one
  have he0 := he
  obtain ⟨⟨bv, pv, sv, rfl, _⟩, _⟩ := he.now
  refine asK sa_29 rfl hone.1 fun w4 hB4 x4 => ?_
  have hB4 : Blk w4 w3.heap.size [i64 (evF (wordsF s)).1.kind, bv, .string (evF (wordsF s)).1.name, pv, sv, i64 (evF (wordsF s)).1.fuel] 29 := hB4
  have x14 := (x2.trans x3).trans x4
  refine ldA hB4.boxed la_29 rfl ?_
  refine print7 (he.ext x4).now (hT.ext (x1.trans x14)) fun w5 x5 => V_ext0.2 (V_ext1.2 (V_not.2 ?_))
  have x15 := x14.trans x5
  have x05 := x1.trans x15
  have hB5 := hB4.ext x5
  have he5 := (he.ext x4).ext x5
  have hB25 := hB2.ext x15
  unfold parseP at hR
  have no : ((evF (wordsF s)).2 && (prE (evF (wordsF s)).1).2 && sEq (prE (evF (wordsF s)).1).1 s) = false → V Tryz.prog (Instr.build 29 #[]) w5 fun t30 w20 => U Tryz.prog (Instr.storeAt 29 (.pointer (some ⟨g2, 0, none⟩)) t30) w20 fun _ w21 =>
      ∃ r1, (loadVar 29 (match (Value.pointer (some ⟨g2, 0, none⟩)) with | .pointer (some p) => p | _ => ⟨0, 0, none⟩)).run Tryz.prog w21 = .ok r1 w21 ∧ (∃ p, (Value.pointer (some ⟨g2, 0, none⟩)) = Value.pointer (some p)) ∧ R (.tuple #[r1, .bool false]) w21 := by
    intro hb
    rw [hb, if_neg (by simp)] at hR
    refine bldA (v := .agg #[i64 0, nilS, .string ⟨#[]⟩, nilS, nilS, i64 0]) (fun w => by kernel_rfl) ?_
    refine stA inf29 hB25 (l := [i64 0, nilS, .string ⟨#[]⟩, nilS, nilS, i64 0]) rfl rfl rfl rfl fun w7 hB7 hc => ?_
    exact ⟨_, r_var Tryz.underlying29 rfl inf29 hB7 rfl, ⟨_, rfl⟩, hR _ w7 evt0 (hc.ext _ x05 (by omega))⟩
  cases b1 : (evF (wordsF s)).2 with
  | false =>
    simp only [evL, reduceIte, Bool.not_false]
    exact no (by rw [b1]; rfl)
  | true =>
  simp only [evL, reduceIte, Bool.false_eq_true, Bool.not_true]
  cases b2 : (prE (evF (wordsF s)).1).2 with
  | false =>
    simp only [evL, reduceIte, Bool.not_false]
    exact no (by rw [b1, b2]; rfl)
  | true =>
  simp only [evL, reduceIte, Bool.false_eq_true, Bool.not_true]
  refine V.ok r_neqStr ?_
  cases b3 : (prE (evF (wordsF s)).1).1.toList == s.toList with
  | false =>
    simp only [evL, Bool.not_false]
    exact no (by rw [b1, b2]; exact b3)
  | true =>
    simp only [evL, Bool.not_true]
    rw [b1, b2, show sEq (prE (evF (wordsF s)).1).1 s = true from b3, if_pos (show (true && true && true) = true from rfl)] at hR
    refine ldA hB5.boxed la_29 rfl ?_
    refine stA inf29 hB25 (l := [i64 (evF (wordsF s)).1.kind, bv, .string (evF (wordsF s)).1.name, pv, sv, i64 (evF (wordsF s)).1.fuel]) rfl rfl rfl hone.1 fun w7 hB7 hc => ?_
    exact ⟨_, r_var Tryz.underlying29 rfl inf29 hB7 rfl, ⟨_, rfl⟩, hR _ w7 (he5 w7 ((chg_fr hc).mono fun k hk => ⟨Nat.zero_le _, by omega⟩)) (hc.ext _ x05 (by omega))⟩
end Go.Proofs.YthblbcjgdbaonaaGreatDoor
namespace Go.Proofs.YthblbcjgdbaonaaGreatDoor
open Go.Vc Go.Tc
variable {w : World} {K : Value → World → Prop}
theorem heap91 (hk : ∀ g w', Ext w w' → K (.tuple #[.pointer (some ⟨g, 0, none⟩), i64 0]) w') : callD Tryz.prog 91 #[i64 200] w K := by
  apply F91_wp
  unfold F91_den
  refine V_lss.2 ?_
  simp only [show ¬ ((200 : Int) < 64) by decide, show ¬ ((200 : Int) > 4096) by decide, evL, Int.reduceNeg, reduceIte, Bool.false_eq_true, decide_false]
  refine bldA (v := .agg #[i64 (-1), i64 3, i64 0, .bool false, nilS]) (fun w => by kernel_rfl) (bldA (v := .agg #[i64 (-1), i64 4, i64 0, .bool false, nilS]) (fun w => by kernel_rfl) ?_)
  refine V.ok (v := .slice (some ⟨w.heap.size, 0, none⟩) 2 2) (w' := w.alloc (.cells #[i64 (-1), i64 3, i64 0, .bool false, nilS, i64 (-1), i64 4, i64 0, .bool false, nilS] 187)) (by kernel_rfl) ?_
  have x1 : Ext w (w.alloc (.cells #[i64 (-1), i64 3, i64 0, .bool false, nilS, i64 (-1), i64 4, i64 0, .bool false, nilS] 187)) := (Ext.refl _).alloc _
  generalize (w.alloc (.cells #[i64 (-1), i64 3, i64 0, .bool false, nilS, i64 (-1), i64 4, i64 0, .bool false, nilS] 187)) = w1 at x1 ⊢
  refine bldA (v := .agg #[i64 200, .slice (some ⟨w.heap.size, 0, none⟩) 2 2]) (fun w => by kernel_rfl) (bxK fun w2 _ x2 => hk _ _ (x1.trans x2))
theorem room60 (hk : ∀ g w', Ext w w' → K (.tuple #[.pointer (some ⟨g, 0, none⟩), i64 0]) w') : callD Tryz.prog 60 #[i64 200] w K := by
  apply F60_wp
  unfold F60_den
  refine heap91 fun g w1 x1 => V_ext0.2 (V_ext1.2 (V_neqI.2 ?_))
  simp only [evL, not_true_eq_false, ne_eq, decide_false]
  exact bldA (v := .agg #[.pointer (some ⟨g, 0, none⟩), nilS, nilS, nilS, nilS]) (fun w => by kernel_rfl) (bxK fun w2 _ x2 => hk _ _ (x1.trans x2))
theorem leak61 (hk : ∀ g w', Ext w w' → K (.pointer (some ⟨g, 0, none⟩)) w') : callD Tryz.prog 61 #[] w K := by
  apply F61_wp
  unfold F61_den
  exact bldA (v := .agg #[nilS]) (fun w => by kernel_rfl) (bxK fun w2 _ x2 => hk _ _ x2)
structure CardK (w : World) (B g : Nat) : Prop where
  lt : B ≤ g
  blk : ∃ a b c, Blk w g [a, b, i64 (-1), c] 127
theorem card42 (hk : ∀ g w', CardK w' w.heap.size g → Ext w w' → K (.tuple #[.pointer (some ⟨g, 0, none⟩), i64 0]) w') : callD Tryz.prog 42 #[i64 200, i64 0] w K := by
  apply F42_wp
  unfold F42_den
  refine room60 fun g w1 x1 => V_ext0.2 (V_ext1.2 (V_neqI.2 ?_))
  simp only [evL, Int.reduceEq, Int.reduceNeg, not_true_eq_false, ne_eq, decide_true, decide_false]
  refine leak61 fun q w2 x2 => ?_
  refine bldA (v := .agg #[.pointer (some ⟨g, 0, none⟩), .nilIface, i64 (-1), .pointer (some ⟨q, 0, none⟩)]) (fun w => by kernel_rfl) (bxK fun w3 hB x3 => ?_)
  have hB : Blk w3 w2.heap.size [.pointer (some ⟨g, 0, none⟩), .nilIface, i64 (-1), .pointer (some ⟨q, 0, none⟩)] 127 := hB
  refine bldA (v := .agg #[]) (fun w => by kernel_rfl) (mki mi_129 ⟨.inl ⟨_, rfl⟩, ?_⟩)
  have x02 := x1.trans x2
  have s2 := x02.size
  refine stF fa_127_1 inf125 hB rfl (by simp) rfl (hk _ _ ⟨s2, _, _, _, hB.set 1 _⟩ ?_)
  exact (Fr.of_set (S := fun k => k = w2.heap.size) rfl).ext (x02.trans x3) fun k hk => by have hk : k = w2.heap.size := hk; omega
theorem des64 {B g : Nat} (h : CardK w B g) (hk : ∀ w', CardK w' B g → Fr (fun k => k = g) w w' → K (.tuple #[]) w') : callD Tryz.prog 64 #[.pointer (some ⟨g, 0, none⟩)] w K := by
  apply F64_wp
  unfold F64_den
  obtain ⟨hlt, a, b, c, hB⟩ := h
  refine ⟨.inl ⟨_, rfl⟩, ldB hB.boxed fa_127_2 l1_3 rfl (V_neqI.2 ?_)⟩
  simp only [evL, Int.reduceNeg, not_true_eq_false, ne_eq, decide_false]
  exact ⟨.inl ⟨_, rfl⟩, stF fa_127_2 inf3 hB rfl (by simp) rfl (hk _ ⟨hlt, a, b, c, hB.set 2 (i64 (-1))⟩ (Fr.of_set rfl))⟩
theorem play44 {B g : Nat} {cs : List Value} {e : Evt} (h : CardK w B g) (he : EvtIs w cs e) (h3 : e.kind = 3) (_ : B ≤ w.heap.size) (hk : ∀ w', CardK w' B g → Fr (fun k => k = g ∨ w.heap.size ≤ k) w w' → K (.agg #[i64 27013, nilS, nilS]) w') :
    callD Tryz.prog 44 #[.pointer (some ⟨g, 0, none⟩), .agg cs.toArray] w K := by
  apply F44_wp
  unfold F44_den
  obtain ⟨⟨bv, pv, sv, rfl, _⟩, _⟩ := he
  refine bxK fun w1 hB1 x1 => alK inf27 fun w2 hB2 x2 => ?_
  have hB1 : Blk w1 w.heap.size [i64 e.kind, bv, .string e.name, pv, sv, i64 e.fuel] 29 := hB1
  have hB2 : Blk w2 w1.heap.size [i64 0, nilS, nilS] 27 := hB2
  have hB1 := hB1.ext x2
  rw [h3] at hB1
  obtain ⟨hlt, a, b, c, hB⟩ := h
  have hgl := hB.lt
  have x02 := x1.trans x2
  have s1 := x1.size
  have hc2 : CardK w2 B g := ⟨hlt, a, b, c, hB.ext x02⟩
  refine ldB hB1.boxed fa_29_0 l1_3 rfl (V_eqlI.2 ?_)
  simp only [evL, Int.reduceEq, Int.reduceNeg, decide_true, decide_false]
  refine ⟨.inl ⟨_, rfl⟩, ldB (hB.ext x02).boxed fa_127_2 l1_3 rfl (V_eqlI.2 ?_)⟩
  simp only [evL, Int.reduceNeg, decide_true]
  refine des64 hc2 fun w3 hc3 f3 => ?_
  refine bldA (v := .agg #[i64 27013, nilS, nilS]) (fun w => by kernel_rfl) ?_
  have hB23 : Blk w3 w1.heap.size [i64 0, nilS, nilS] 27 := f3.blk hB2 (by show ¬ w1.heap.size = g; omega)
  refine stA inf27 hB23 (l := [i64 27013, nilS, nilS]) rfl rfl rfl rfl fun w4 hB4 hc => ?_
  refine ⟨_, r_var Tryz.underlying27 rfl inf27 hB4 rfl, ⟨_, rfl⟩, hk w4 ?_ ?_⟩
  · obtain ⟨h1, a, b, c, h2⟩ := hc3
    exact ⟨h1, a, b, c, (chg_fr hc).blk h2 (by show ¬ g = w1.heap.size; omega)⟩
  · refine (((Fr.of_ext (S := fun k => k = g ∨ w.heap.size ≤ k) x02).trans f3 fun k hk h => .inl h)).trans (chg_fr hc) fun k hk h => ?_
    have h : k = w1.heap.size := h
    exact .inr (by omega)
end Go.Proofs.YthblbcjgdbaonaaGreatDoor
namespace Go.Proofs.YthblbcjgdbaonaaGreatDoor
open Go.Vc Go.Tc
variable {w : World} {K : Value → World → Prop}
theorem ArgsU8.any {w' : World} {v : Value} (h : ArgsU8 w v []) : ArgsU8 w' v [] := by
  rcases h with h | ⟨a, c, h1, _⟩
  · exact .inl h
  · exact .inr ⟨a, c, h1, fun h => absurd h (by decide)⟩
def sDesNl : ByteArray := ⟨#[100, 101, 115, 101, 108, 101, 99, 116, 10]⟩
def sAns : ByteArray := ⟨#[54, 57, 56, 53, 32, 45, 32, 45, 10]⟩
theorem q_count : Lib.countB sDesNl ⟨#[10]⟩ = 1 := by kernel_rfl
theorem q_split : (Lib.splitB ⟨#[10]⟩ 0 1 sDesNl).map Value.string = [.string sDes, .string ⟨#[]⟩] := by kernel_rfl
theorem q_parse : parseP sDes = ({ ev0 with kind := 3 }, true) := by kernel_rfl
theorem q_tell : tellS 27013 [] [] ++ ⟨#[10]⟩ = sAns := by kernel_rfl
theorem e_sp : ∀ args w, (callFunc 41 args).run Tryz.prog w = .ok (.enter 41 args) w := enters_of lays146.f146 (by kernel_rfl) rfl
theorem e_ws : ∀ args w, (callFunc 43 args).run Tryz.prog w = .ok (.enter 43 args) w := enters_of lays166.f166 (by kernel_rfl) rfl
set_option maxHeartbeats 3200000 in
theorem run24 (hT : STabs w) (hk : ∀ w', Ext w w' → K (.tuple #[.string sAns, i64 0, i64 0]) w') : callD Tryz.prog 24 #[i64 200, i64 0, .string sDesNl] w K := by
  apply F24_wp
  suffices key : ∀ R : Value → World → Prop, (∀ w', Ext w w' → R (.tuple #[.string sAns, i64 0, i64 0]) w') → F24_den (i64 200) (i64 0) (.string sDesNl) w R from key _ hk
  clear hk
  intro R hR
  unfold F24_den
  obtain ⟨m, hm⟩ := hT.ml
  refine callD.mono (R := fun v w' => v = .slice (some ⟨w.heap.size, 0, none⟩) 2 2 ∧ Blk w' w.heap.size [.string sDes, .string ⟨#[]⟩] 9 ∧ Ext w w') ⟨e_sp, (sSplit sDesNl ⟨#[10]⟩ m w (by decide) hm (by decide)).mono fun e w' ⟨he, hw⟩ => by
    rw [q_count] at he hw
    rw [q_split] at hw
    subst hw
    exact ⟨_, he, rfl, by unfold Blk; rw [heap_alloc_new], (Ext.refl _).alloc _⟩⟩ fun v w1 ⟨hv, hb1, x1⟩ => ?_
  subst hv
  have hs1 : SliceIs w1 (.slice (some ⟨w.heap.size, 0, none⟩) 2 2) 1 2 [.string sDes, .string ⟨#[]⟩] := hb1.slice rfl (by decide)
  refine ⟨fun v w' => v = .slice (some ⟨w.heap.size, 0, none⟩) 1 2 ∧ w' = w1, ?_, ?_⟩
  · refine V_ln_53.2 (V_sub.2 ?_)
    refine ldx xa_53 l1_9 hs1 (by decide) (by decide) (u := .string ⟨#[]⟩) rfl ?_
    refine V.ok (v := .bool true) (w' := w1) (by kernel_rfl) (ifD_true.2 (V_ln_53.2 (V_sub.2 ?_)))
    exact V.ok (v := .slice (some ⟨w.heap.size, 0, none⟩) 1 2) (w' := w1) (by kernel_rfl) ⟨rfl, rfl⟩
  rintro _ w' ⟨rfl, hw⟩ _
  rw [hw]
  clear hw w'
  refine V_ln_53.2 (V_gtr.2 ?_)
  simp only [show ¬ (((1 : Nat) : Int) > 400) by decide, evL, decide_false]
  refine V_ln_53.2 ?_
  refine ⟨fun t10 t39 w' => (t39 = i64 0 ∧ t10 = nilS ∧ w' = w1) ∨ (t39 = i64 1 ∧ ∃ a0 c0 a1 c1 a2 c2, w'.ownsRow w.heap.size 29 6 t10 1 [i64 3, .slice a0 0 c0, .string ⟨#[]⟩, .slice a1 0 c1, .slice a2 0 c2, i64 0] ∧ Ext w w' ∧ ∀ w' : World, ArgsU8 w' (.slice a0 0 c0) [] ∧ ArgsU8 w' (.slice a1 0 c1) [] ∧ ArgsU8 w' (.slice a2 0 c2) []), fun _ t39 _ => 2 - (RowKit.intOf t39).toNat, .inl ⟨rfl, rfl, rfl⟩, ?_⟩
  rintro t10 t39 w2 hI _
  rcases hI with ⟨rfl, rfl, hw⟩ | ⟨rfl, a0, c0, a1, c1, a2, c2, ho2, x2, hem⟩
  · rw [hw]
    clear hw w2
    refine V_lss.2 ?_
    simp only [show ((0 : Int) < ((1 : Nat) : Int)) by decide, evL, decide_true]
    have hs2 : SliceIs w1 (.slice (some ⟨w.heap.size, 0, none⟩) 1 2) 1 1 [.string sDes] := ⟨rfl, .inr ⟨_, 0, 2, rfl, by decide, by decide, fun j u hj => by
      match j, hj with
      | 0, hj => cases hj; rw [hb1.cell]; rfl
      | j + 1, hj => cases hj⟩⟩
    refine ldx xa_53 l1_9 hs2 (by decide) (by decide) (u := .string sDes) rfl ?_
    refine parse13 (by decide) (hT.ext x1) fun cs w3 he x3 => V_ext0.2 (V_ext1.2 ?_)
    rw [q_parse] at he ⊢
    obtain ⟨⟨bv, pv, sv, rfl, h1, h2, h3⟩, _⟩ := he
    have hem : ∀ w' : World, ArgsU8 w' bv [] ∧ ArgsU8 w' pv [] ∧ ArgsU8 w' sv [] := fun w' => ⟨h1.any, h2.any, h3.any⟩
    obtain ⟨a0, c0, rfl, _⟩ := h1.sl
    obtain ⟨a1, c1, rfl, _⟩ := h2.sl
    obtain ⟨a2, c2, rfl, _⟩ := h3.sl
    refine asK sa_29 rfl rfl fun w4 hb4 x4 => ?_
    refine V.ok (v := .bool true) (w' := w4) (by kernel_rfl) ?_
    simp only [evL, reduceIte, Bool.not_true]
    refine ldA hb4.boxed la_29 rfl ?_
    refine V.ok (v := .slice (some ⟨w4.heap.size, 0, none⟩) 1 1) (w' := w4.alloc (.cells #[i64 3, .slice a0 0 c0, .string ⟨#[]⟩, .slice a1 0 c1, .slice a2 0 c2, i64 0] 29)) (by kernel_rfl) ?_
    have hb5 : Blk (w4.alloc (.cells #[i64 3, .slice a0 0 c0, .string ⟨#[]⟩, .slice a1 0 c1, .slice a2 0 c2, i64 0] 29)) w4.heap.size [i64 3, .slice a0 0 c0, .string ⟨#[]⟩, .slice a1 0 c1, .slice a2 0 c2, i64 0] 29 := by unfold Blk; rw [heap_alloc_new]
    have x5 : Ext w4 (w4.alloc (.cells #[i64 3, .slice a0 0 c0, .string ⟨#[]⟩, .slice a1 0 c1, .slice a2 0 c2, i64 0] 29)) := (Ext.refl _).alloc _
    generalize w4.alloc (.cells #[i64 3, .slice a0 0 c0, .string ⟨#[]⟩, .slice a1 0 c1, .slice a2 0 c2, i64 0] 29) = w5 at hb5 x5 ⊢
    have X5 := ((x1.trans x3).trans x4).trans x5
    have hs5 : SliceIs w5 (.slice (some ⟨w4.heap.size, 0, none⟩) 1 1) 6 1 [i64 3, .slice a0 0 c0, .string ⟨#[]⟩, .slice a1 0 c1, .slice a2 0 c2, i64 0] := ⟨rfl, .inr ⟨_, 0, 1, rfl, by decide, by decide, fun j u hj => by rw [Nat.zero_add, hb5.cell]; exact hj⟩⟩
    refine apA Tryz.underlying80 inf29 rfl (by omega) (World.ownsRow_nil w5 w.heap.size _ _) hs5 rfl (by omega) (by unfold maxLen; omega) X5.size fun v6 w6 ho6 hg => ?_
    refine V_add.2 ?_
    exact ⟨.inr ⟨rfl, a0, c0, a1, c1, a2, c2, ho6, X5.grown hg fun k hk => (by cases hk), hem⟩, by decide⟩
  refine V_lss.2 ?_
  simp only [show ¬ ((1 : Int) < ((1 : Nat) : Int)) by decide, evL, decide_false]
  refine card42 fun g w3 hc3 x3 => V_ext0.2 (V_ext1.2 (V_neqI.2 ?_))
  simp only [evL, not_true_eq_false, ne_eq, decide_false]
  refine alK inf73 fun w4 hb4 x4 => ?_
  have X3 := x2.trans x3
  have X4 := X3.trans x4
  have s2 := x2.size
  have s3 := x3.size
  have lb4 := hb4.lt
  have lg : g < w3.heap.size := by obtain ⟨_, _, _, _, h⟩ := hc3; exact h.lt
  have hc4 : CardK w4 w2.heap.size g := by obtain ⟨h1, a, b, c, h2⟩ := hc3; exact ⟨h1, a, b, c, h2.ext x4⟩
  have hb4 : Blk w4 w3.heap.size [.pointer none, nilS] 73 := hb4
  have ho4 := (Fr.of_ext (S := fun _ => False) (x3.trans x4)).own ho2 fun _ _ h => h
  obtain ⟨ea, ec, rfl⟩ : ∃ a c, t10 = .slice a 1 c := (SliceIs.of_own ho2).shape
  refine V_ln_80.2 ?_
  have bel : ∀ {a b : World}, RowKit.Below w3.heap.size a b → Ext w a → Ext w b := fun hb hx => ⟨hb.os.trans hx.os, hb.tape.trans hx.tape, hb.output.trans hx.output, Nat.le_trans hx.size hb.size, fun i hi hn => (hb.block i (by omega)).trans (hx.block i hi hn)⟩
  refine ⟨fun x w' => (x = i64 0 ∧ w' = w4) ∨ (x = i64 1 ∧ Lib.IsBuilder 73 5 w3.heap.size w3.heap.size (Lib.byteCells sAns.data.toList) w' ∧ Ext w w' ∧ w3.heap.size ≤ w'.heap.size), fun x _ => 2 - (RowKit.intOf x).toNat, .inl ⟨rfl, rfl⟩, ?_⟩
  rintro x w5 hI _
  rcases hI with ⟨rfl, hw⟩ | ⟨rfl, hB5, X5, hs5⟩
  · rw [hw]
    clear hw w5
    refine V_lss.2 ?_
    simp only [show ((0 : Int) < ((1 : Nat) : Int)) by decide, evL, decide_true]
    refine ldxA xa_80 la_29 (SliceIs.of_own ho4) (by decide) (by decide) (l := [i64 3, .slice a0 0 c0, .string ⟨#[]⟩, .slice a1 0 c1, .slice a2 0 c2, i64 0]) rfl rfl ?_
    refine asK sa_29 rfl rfl fun w6 hb6 x6 => ?_
    refine ldA hb6.boxed la_29 rfl ?_
    have hc6 : CardK w6 w2.heap.size g := by obtain ⟨h1, a, b, c, h2⟩ := hc4; exact ⟨h1, a, b, c, h2.ext x6⟩
    have s6 := x6.size
    refine play44 (cs := [i64 3, .slice a0 0 c0, .string ⟨#[]⟩, .slice a1 0 c1, .slice a2 0 c2, i64 0]) (e := { ev0 with kind := 3 }) hc6 ⟨⟨_, _, _, rfl, (hem w6).1, (hem w6).2.1, (hem w6).2.2⟩, u8nil, u8nil, u8nil⟩ rfl (by omega) fun w7 hc7 f7 => ?_
    have X6 := X4.trans x6
    have X7 : Ext w w7 := f7.ext X6 fun k hk => by
      rcases hk with hk | hk
      · have := hc3.lt; omega
      · have := X6.size; omega
    have hb7 := f7.blk (hb4.ext x6) (by show ¬ (w3.heap.size = g ∨ w6.heap.size ≤ w3.heap.size); omega)
    refine tell11 (st := 27013) (by decide) (ArgsU8.nil _) (ArgsU8.nil _) u8nil u8nil (by decide) (by decide) fun w8 x8 => V.ok (r_cat (by decide +kernel)) ?_
    rw [q_tell]
    have X8 := X7.trans x8
    have hb8 := hb7.ext x8
    have l8 := hb8.lt
    refine callD.mono (R := fun v w' => Lib.IsBuilder 73 5 w3.heap.size w3.heap.size (Lib.byteCells sAns.data.toList) w' ∧ Ext w w' ∧ w3.heap.size ≤ w'.heap.size) ⟨e_ws, (sWriteString w3.heap.size w3.heap.size [] sAns w8 (.inl ⟨Nat.le_refl _, _, hb8, World.ownsRow_nil _ _ _ _, fun h => by cases h⟩) (by decide) (by omega)).mono fun e w' ⟨he, hb, hbel⟩ => ⟨_, he, .inr hb, bel hbel X8, by have := hbel.size; omega⟩⟩ fun v9 w9 ⟨hB9, X9, s9⟩ => ?_
    refine V_add.2 ?_
    exact ⟨.inr ⟨by rfl, hB9, X9, s9⟩, by decide⟩
  refine V_lss.2 ?_
  simp only [show ¬ ((1 : Int) < ((1 : Nat) : Int)) by decide, evL, decide_false]
  refine callD.mono (R := fun v w' => v = .string sAns ∧ Ext w w') ⟨e_st, (sString _ _ _ _ hB5 hs5).mono fun e w' ⟨he, hbel⟩ => ⟨_, he, rfl, bel hbel X5⟩⟩ fun v6 w6 ⟨hv6, X6⟩ => ?_
  subst hv6
  exact hR _ X6
theorem known10 (hT : STabs w) (hk : ∀ w', Ext w w' → K (.bool true) w') : callD Tryz.prog 10 #[] w K := by
  apply F10_wp
  unfold F10_den
  refine run24 hT fun w1 x1 => V_tup (v := .string sAns) rfl (V_tup (v := i64 0) rfl (V_tup (v := i64 0) rfl (V_eqlI.2 ?_)))
  simp only [evL, reduceIte, decide_true]
  exact V.ok (v := .bool true) (w' := w1) (by kernel_rfl) (hk _ x1)
end Go.Proofs.YthblbcjgdbaonaaGreatDoor
namespace Go.Proofs.YthblbcjgdbaonaaGreatDoor
open Go.Vc Go.Tc
variable {w : World} {K : Value → World → Prop}
end Go.Proofs.YthblbcjgdbaonaaGreatDoor
namespace Go.Tc
open Go.Vc
inductive NmL : List UInt8 → Prop
  | z : NmL []
  | a {b : UInt8} {l : List UInt8} (h : b.toNat < 128) (h2 : b.toNat ≠ 32) (hl : NmL l) : NmL (b :: l)
  | p {b : UInt8} {l : List UInt8} (h : 160 ≤ b.toNat) (h2 : b.toNat ≤ 191) (hl : NmL l) : NmL (195 :: b :: l)
theorem at_drop {s : ByteArray} {p : Nat} {b : UInt8} {l : List UInt8} (h : s.data.toList.drop p = b :: l) : ∃ hp : p < s.size, s[p]'hp = b := by
  have hl : p < s.data.toList.length := by
    rcases Nat.lt_or_ge p s.data.toList.length with h' | h'
    · exact h'
    · rw [List.drop_eq_nil_of_le h'] at h; cases h
  have hp : p < s.size := by rw [Array.length_toList] at hl; exact hl
  refine ⟨hp, ?_⟩
  have : s.data.toList[p]? = some b := by
    have := congrArg (fun l => l[0]?) h
    simpa using this
  rw [List.getElem?_eq_getElem hl] at this
  have := Option.some.inj this
  rw [← this]
  show s.data[p] = _
  rw [Array.getElem_toList]
theorem drop_succ {s : ByteArray} {p : Nat} {b : UInt8} {l : List UInt8} (h : s.data.toList.drop p = b :: l) : s.data.toList.drop (p + 1) = l := by
  rw [← List.drop_drop, h]; rfl
theorem get_at2 {s : ByteArray} {p : Nat} {b : UInt8} {l : List UInt8} (h : s.data.toList.drop p = b :: l) : s.get! p = b := by
  obtain ⟨hp, hb⟩ := at_drop h
  have := Go.get_at s p hp
  rw [Nat.add_zero] at this
  rw [this, hb]
theorem dec_a {s : ByteArray} {p : Nat} {b : UInt8} {l : List UInt8} (h : s.data.toList.drop p = b :: l) (hb : b.toNat < 128) : Utf8.decode s p = (b.toNat, 1) := by
  obtain ⟨hp, hb'⟩ := at_drop h
  rw [Go.decode_ascii s p hp (by rw [hb']; exact hb), hb']
theorem dec_p {s : ByteArray} {p : Nat} {b : UInt8} {l : List UInt8} (h : s.data.toList.drop p = 195 :: b :: l) (h1 : 160 ≤ b.toNat) (h2 : b.toNat ≤ 191) : Utf8.decode s p = (64 + b.toNat, 2) := by
  have g0 := get_at2 h
  have hd := drop_succ h
  have g1 := get_at2 hd
  obtain ⟨hp, _⟩ := at_drop hd
  simp only [Utf8.decode, Nat.add_zero, g0, g1]
  have e0 : (195 : UInt8).toNat = 195 := rfl
  rw [e0]
  have c1 : ((195 / 32 == 6) && (decide (p + 1 < s.size) && b.toNat / 64 == 2)) = true := by
    simp only [Bool.and_eq_true, decide_eq_true_eq, beq_iff_eq]
    exact ⟨by decide, hp, by omega⟩
  rw [if_neg (by decide), if_pos c1, if_pos (by omega)]
  congr 1
  omega
theorem enc_a {b : UInt8} (h : b.toNat < 128) : Utf8.encode (b.toNat : Int) = ⟨#[b]⟩ := by
  have hv : Utf8.valid (b.toNat : Int) = true := by
    simp only [Utf8.valid, Bool.or_eq_true, Bool.and_eq_true, decide_eq_true_eq]; omega
  simp only [Utf8.encode, hv, if_true, Int.toNat_natCast]
  rw [if_pos h]
  simp
theorem enc_p {b : UInt8} (h1 : 160 ≤ b.toNat) (h2 : b.toNat ≤ 191) : Utf8.encode ((64 + b.toNat : Nat) : Int) = ⟨#[195, b]⟩ := by
  have hv : Utf8.valid ((64 + b.toNat : Nat) : Int) = true := by
    simp only [Utf8.valid, Bool.or_eq_true, Bool.and_eq_true, decide_eq_true_eq]; omega
  simp only [Utf8.encode, hv, if_true, Int.toNat_natCast]
  rw [if_neg (by omega), if_pos (by omega), show 0xC0 + (64 + b.toNat) / 64 = 195 by omega, show 0x80 + (64 + b.toNat) % 64 = b.toNat by omega]
  simp
theorem wstep_word {acc : List ByteArray} {x : ByteArray} {c : Nat} (h : c ≠ 32) : wstep (acc ++ [x]) c = acc ++ [x ++ Utf8.encode c] := by
  rw [wstep, if_neg h]
  simp
theorem words_word {s : ByteArray} : ∀ {l : List UInt8}, NmL l → ∀ {rest : List UInt8} {p : Nat} {acc : List ByteArray} {x : ByteArray}, s.data.toList.drop p = l ++ rest → wordsN s s.size p (acc ++ [x]) = wordsN s s.size (p + l.length) (acc ++ [x ++ ⟨l.toArray⟩]) := by
  intro l hl
  induction hl with
  | z =>
    intro rest p acc x _
    rw [show x ++ (⟨([] : List UInt8).toArray⟩ : ByteArray) = x from ByteArray.ext (by simp)]
    rfl
  | @a b l h h2 hl ih =>
    intro rest p acc x hd
    rw [wordsN_step (at_drop hd).1, dec_a hd h, wstep_word h2, ih (drop_succ hd), enc_a h, ByteArray.append_assoc, show (⟨#[b]⟩ : ByteArray) ++ ⟨l.toArray⟩ = ⟨(b :: l).toArray⟩ from ba_app [b] l, List.length_cons, show p + 1 + l.length = p + (l.length + 1) by omega]
  | @p b l h h2 hl ih =>
    intro rest p acc x hd
    rw [wordsN_step (at_drop hd).1, dec_p hd h h2, wstep_word (by omega), ih (by rw [show p + 2 = p + 1 + 1 from rfl]; exact drop_succ (drop_succ hd)), enc_p h h2, ByteArray.append_assoc, show (⟨#[195, b]⟩ : ByteArray) ++ ⟨l.toArray⟩ = ⟨(195 :: b :: l).toArray⟩ from ba_app [195, b] l, List.length_cons, List.length_cons, show p + 2 + l.length = p + (l.length + 1 + 1) by omega]
theorem words_blank {s : ByteArray} {rest : List UInt8} {p : Nat} {acc : List ByteArray} (hd : s.data.toList.drop p = 32 :: rest) : wordsN s s.size p acc = wordsN s s.size (p + 1) (acc ++ [⟨#[]⟩]) := by
  rw [wordsN_step (at_drop hd).1, dec_a hd (by decide)]
  rfl
theorem words_end {s : ByteArray} {p : Nat} {acc : List ByteArray} (h : s.data.toList.drop p = []) : wordsN s s.size p acc = acc := by
  refine wordsN_end (fun hp => ?_)
  have : s.data.toList.length ≤ p := List.drop_eq_nil_iff.1 h
  rw [Array.length_toList] at this
  exact absurd hp (Nat.not_lt.2 this)
end Go.Tc
namespace Go.Proofs.YthblbcjgdbaonaaGreatDoor
open Go.Vc Go.Tc
theorem decode_big {s : ByteArray} {p : Nat} (h1 : ¬ (s.get! p).toNat < 128) (h2 : ¬ ((s.get! p).toNat / 32 == 6 && (decide (p + 1 < s.size) && (s.get! (p + 1)).toNat / 64 == 2)) = true) : 255 < (Utf8.decode s p).1 := by
  simp only [Utf8.decode, Nat.add_zero]
  rw [if_neg h1, if_neg h2]
  repeat' split
  all_goals simp_all [Utf8.runeError]
  all_goals omega
theorem nm_of_scan {s : ByteArray} : ∀ {n p : Nat}, s.size ≤ p + n → scanN s n p = true → NmL (s.data.toList.drop p)
  | 0, p, h, _ => by
    rw [List.drop_eq_nil_of_le (by rw [Array.length_toList]; exact h)]
    exact .z
  | n + 1, p, h, hs => by
    by_cases hp : p < s.size
    case neg =>
      rw [List.drop_eq_nil_of_le (by rw [Array.length_toList]; exact Nat.le_of_not_lt hp)]
      exact .z
    rw [scanN, if_pos hp, Bool.and_eq_true] at hs
    obtain ⟨hr, hs⟩ := hs
    have hd : ∀ {q} (hq : q < s.size), s.data.toList.drop q = s[q]'hq :: s.data.toList.drop (q + 1) := fun {q} hq => by
      have hl : q < s.data.toList.length := by rw [Array.length_toList]; exact hq
      rw [List.drop_eq_getElem_cons hl]
      rw [Array.getElem_toList]
      rfl
    have g0 := get_at2 (hd hp)
    have rn := rnB_cases hr
    have hpos := decode_pos hp
    by_cases h0 : (s.get! p).toNat < 128
    · have e := dec_a (hd hp) (by rw [← g0]; exact h0)
      rw [e] at hs rn
      rw [hd hp]
      simp only at rn
      refine .a (by rw [← g0]; exact h0) (by omega) (nm_of_scan (n := n) (by omega) hs)
    · by_cases h1 : ((s.get! p).toNat / 32 == 6 && (decide (p + 1 < s.size) && (s.get! (p + 1)).toNat / 64 == 2)) = true
      · have h1' := h1
        simp only [Bool.and_eq_true, decide_eq_true_eq, beq_iff_eq] at h1'
        obtain ⟨a1, hp1, a2⟩ := h1'
        have e : Utf8.decode s p = if (s.get! p).toNat % 32 * 64 + (s.get! (p + 1)).toNat % 64 ≥ 128 then ((s.get! p).toNat % 32 * 64 + (s.get! (p + 1)).toNat % 64, 2) else (Utf8.runeError, 1) := by
          simp only [Utf8.decode, Nat.add_zero]
          rw [if_neg h0, if_pos h1]
        by_cases h2 : (s.get! p).toNat % 32 * 64 + (s.get! (p + 1)).toNat % 64 ≥ 128
        · rw [if_pos h2] at e
          rw [e] at hs rn
          simp only at rn
          have g1 := get_at2 (hd hp1)
          have e0 : s[p]'hp = 195 := UInt8.toNat_inj.1 (by show _ = 195; rw [← g0]; omega)
          rw [hd hp, e0, hd hp1]
          exact .p (by rw [← g1]; omega) (by rw [← g1]; omega) (nm_of_scan (n := n) (by omega) hs)
        · rw [if_neg h2] at e
          rw [e] at rn
          simp [Utf8.runeError] at rn
      · have := decode_big h0 h1
        omega
theorem nm_word {s : ByteArray} (h : nmB' s = true) : NmL s.data.toList := by
  simp only [nmB', Bool.and_eq_true] at h
  exact nm_of_scan (n := s.size) (p := 0) (by omega) h.2.2
theorem dig_b : ∀ k : Fin 16, (dig k.val).toNat < 128 ∧ (dig k.val).toNat ≠ 32 ∧ hx (dig k.val).toNat = (k.val : Int) ∧ dig k.val ≠ 45 := by decide +kernel
theorem dig_n {k : Nat} (h : k < 16) : (dig k).toNat < 128 ∧ (dig k).toNat ≠ 32 ∧ hx (dig k).toNat = (k : Int) := by
  have := dig_b ⟨k, h⟩
  exact ⟨this.1, this.2.1, this.2.2.1⟩
theorem hexI_cons (b : Int) (l : List Int) : hexI (b :: l) = dig (b.toNat / 16) :: dig (b.toNat % 16) :: hexI l := rfl
theorem hexI_nm : ∀ {l : List Int}, U8s l → NmL (hexI l)
  | [], _ => .z
  | b :: l, h => by
    have hb := h b (by simp)
    have d1 := dig_b ⟨b.toNat / 16, by omega⟩
    have d2 := dig_b ⟨b.toNat % 16, by omega⟩
    exact .a d1.1 d1.2.1 (.a d2.1 d2.2.1 (hexI_nm fun x hx => h x (by simp [hx])))
theorem byN_hex {s : ByteArray} : ∀ {l : List Int} {p : Nat} {out : List Int}, U8s l → s.data.toList.drop p = hexI l → byN s s.size p out (-1) = (out ++ l, !decide (s.size = 0))
  | [], p, out, _, hd => by
    have : s.data.toList.length ≤ p := List.drop_eq_nil_iff.1 hd
    rw [Array.length_toList] at this
    rw [byN_end (Nat.not_lt.2 this)]
    simp
  | b :: l, p, out, h, hd => by
    have hb := h b (by simp)
    obtain ⟨n, rfl⟩ : ∃ n : Nat, b = n := ⟨b.toNat, by omega⟩
    have d1 := dig_n (k := n / 16) (by omega)
    have d2 := dig_n (k := n % 16) (by omega)
    rw [hexI_cons, Int.toNat_natCast] at hd
    rw [byN_step (at_drop hd).1, dec_a hd d1.1, if_neg (by rw [d1.2.2]; omega), if_pos (by decide), d1.2.2]
    have hd2 := drop_succ hd
    rw [byN_step (at_drop hd2).1, dec_a hd2 d2.1, if_neg (by rw [d2.2.2]; omega), if_neg (by omega), d2.2.2, byN_hex (fun x hx => h x (by simp [hx])) (drop_succ hd2), List.append_assoc, show 16 * ((n / 16 : Nat) : Int) + ((n % 16 : Nat) : Int) = (n : Int) by omega]
    rfl
theorem byF_hex {l : List Int} (h : U8s l) : byF (hexS l) = (l, true) := by
  unfold hexS
  by_cases h0 : l = []
  · subst h0
    rw [if_pos rfl]
    unfold byF
    rw [if_pos (by simp)]
  · rw [if_neg h0]
    obtain ⟨b, l', rfl⟩ := List.exists_cons_of_ne_nil h0
    have hb := h b (by simp)
    have d1 := dig_b ⟨b.toNat / 16, by omega⟩
    unfold byF
    have hne : ((⟨(hexI (b :: l')).toArray⟩ : ByteArray).toList == ({ data := #[45] } : ByteArray).toList) = false := by
      rw [ByteArray.toList_eq, ByteArray.toList_eq, hexI_cons]
      simp
    rw [hne, if_neg (by simp), byN_hex h rfl]
    rw [List.nil_append]
    have : (⟨(hexI (b :: l')).toArray⟩ : ByteArray).size = 2 * (l'.length + 1) := by
      show (hexI (b :: l')).toArray.size = _
      rw [List.size_toArray, hexI_len]; rfl
    rw [this]
    simp
end Go.Proofs.YthblbcjgdbaonaaGreatDoor
namespace Go.Proofs.YthblbcjgdbaonaaGreatDoor
open Go.Vc Go.Tc
def valD (l : List UInt8) (k : Int) : Int := l.foldl (fun k b => 10 * k + ((b.toNat : Nat) - 48 : Int)) k
theorem num_run {s : ByteArray} (h7 : s.size ≤ 7) : ∀ {l : List UInt8} {p : Nat} {k : Int}, (∀ b ∈ l, 48 ≤ b.toNat ∧ b.toNat ≤ 57) → s.data.toList.drop p = l → numN s s.size p k = some (valD l k)
  | [], p, k, _, hd => by
    have : s.data.toList.length ≤ p := List.drop_eq_nil_iff.1 hd
    rw [Array.length_toList] at this
    exact numN_end (Nat.not_lt.2 this)
  | b :: l, p, k, h, hd => by
    have hb := h b (by simp)
    rw [numN_step (at_drop hd).1, dec_a hd (by omega), if_neg (by omega), num_run h7 (fun x hx => h x (by simp [hx])) (drop_succ hd)]
    rfl
theorem dd_lt {u : Nat} (h : u < 10) : Lib.decDigits u = [UInt8.ofNat (48 + u)] := by rw [Lib.decDigits, dif_pos h]
theorem dd_b {u : Nat} (h : u < 10) : (UInt8.ofNat (48 + u)).toNat = 48 + u := by
  rw [UInt8.toNat_ofNat']; omega
theorem dd_facts : ∀ (u : Nat), (∀ b ∈ Lib.decDigits u, 48 ≤ b.toNat ∧ b.toNat ≤ 57) ∧ valD (Lib.decDigits u) 0 = u ∧ (1 ≤ u → ∃ b l, Lib.decDigits u = b :: l ∧ b.toNat ≠ 48) := by
  intro u
  induction u using Nat.strongRecOn with
  | ind u ih =>
  by_cases h : u < 10
  · rw [dd_lt h]
    have e := dd_b h
    refine ⟨fun b hb => ?_, ?_, fun h1 => ⟨_, _, rfl, by omega⟩⟩
    · rw [List.mem_singleton] at hb; subst hb; omega
    · simp only [valD, List.foldl_cons, List.foldl_nil, e]; omega
  · have e := dd_b (u := u % 10) (by omega)
    obtain ⟨h1, h2, h3⟩ := ih (u / 10) (by omega)
    rw [decDigits_step h]
    refine ⟨fun b hb => ?_, ?_, fun _ => ?_⟩
    · rcases List.mem_append.1 hb with hb | hb
      · exact h1 b hb
      · rw [List.mem_singleton] at hb; subst hb; omega
    · unfold valD at h2 ⊢
      rw [List.foldl_append, h2]
      simp only [List.foldl_cons, List.foldl_nil, e]; omega
    · obtain ⟨b, l, hb, hn⟩ := h3 (by omega)
      exact ⟨b, l ++ [UInt8.ofNat (48 + u % 10)], by rw [hb]; rfl, hn⟩
theorem itoa_nat {n : Int} (h0 : 0 ≤ n) : Lib.itoa n = Lib.decDigits n.toNat := by rw [Lib.itoa, if_neg (by omega)]
theorem num_itoa {n : Int} (h0 : 0 ≤ n) (h1 : n ≤ 9999999) : numF ⟨(Lib.itoa n).toArray⟩ = (n, true) := by
  have hl := itoa_len h0 h1
  rw [itoa_nat h0] at hl ⊢
  obtain ⟨f1, f2, f3⟩ := dd_facts n.toNat
  have hsz : (⟨(Lib.decDigits n.toNat).toArray⟩ : ByteArray).size = (Lib.decDigits n.toNat).length := by show (Lib.decDigits n.toNat).toArray.size = _; rw [List.size_toArray]
  unfold numF
  rw [num_run (by rw [hsz]; exact hl) f1 (p := 0) rfl, f2, Int.toNat_of_nonneg h0]
  show (n, _) = (n, true)
  congr 1
  by_cases hz : n.toNat = 0
  · rw [hz]; decide +kernel
  · obtain ⟨b, l, hb, hn⟩ := f3 (by omega)
    rw [hsz, hb]
    have : ¬ ((⟨(b :: l).toArray⟩ : ByteArray)[0]? = some 48) := fun h => by
      have h2 : (⟨(b :: l).toArray⟩ : ByteArray)[0]? = some b := by rfl
      rw [h2] at h
      cases h
      exact hn rfl
    rw [decide_eq_false this]
    simp
theorem itoa_nm {n : Int} (h0 : 0 ≤ n) : NmL (Lib.itoa n) := by
  rw [itoa_nat h0]
  have := (dd_facts n.toNat).1
  generalize Lib.decDigits n.toNat = l at this
  induction l with
  | nil => exact .z
  | cons b l ih =>
    have hb := this b (by simp)
    exact .a (by omega) (by omega) (ih fun x hx => this x (by simp [hx]))
def canon (e : Evt) : Evt :=
  if e.kind = 1 then { ev0 with kind := 1, bytes := e.bytes }
  else if e.kind = 2 then { ev0 with kind := 2, name := e.name }
  else if e.kind = 5 then { ev0 with kind := 5, pub := e.pub, sec := e.sec, fuel := e.fuel }
  else { ev0 with kind := e.kind }
theorem prE_canon (e : Evt) : prE (canon e) = prE e := by
  unfold canon
  by_cases h1 : e.kind = 1
  · rw [if_pos h1]; simp [prE, h1]
  rw [if_neg h1]
  by_cases h2 : e.kind = 2
  · rw [if_pos h2]; simp [prE, h2]
  rw [if_neg h2]
  by_cases h5 : e.kind = 5
  · rw [if_pos h5]; simp [prE, h5, comOk]
  rw [if_neg h5]
  simp [prE, h1, h2, h5]
theorem nm_const {l : List UInt8} (h : (l.all fun b => decide (b.toNat < 128) && decide (b.toNat ≠ 32)) = true) : NmL l := by
  induction l with
  | nil => exact .z
  | cons b l ih =>
    simp only [List.all_cons, Bool.and_eq_true, decide_eq_true_eq] at h
    exact .a h.1.1 h.1.2 (ih h.2)
theorem ba_cat (a b : ByteArray) : (a ++ b).data.toList = a.data.toList ++ b.data.toList := by simp
theorem hexS_list {l : List Int} (h : U8s l) : NmL (hexS l).data.toList := by
  unfold hexS
  split
  · exact nm_const (by decide)
  · exact hexI_nm h
theorem empty_cat (a : ByteArray) : (⟨#[]⟩ : ByteArray) ++ a = a := ByteArray.ext (by simp)
theorem drop_len {s : ByteArray} {a b : List UInt8} {p : Nat} (h : s.data.toList.drop p = a ++ b) : s.data.toList.drop (p + a.length) = b := by
  rw [← List.drop_drop, h, List.drop_left]
theorem words_last {s : ByteArray} {a : List UInt8} {p : Nat} {acc : List ByteArray} (ha : NmL a) (h : s.data.toList.drop p = a) : wordsN s s.size p (acc ++ [⟨#[]⟩]) = acc ++ [⟨a.toArray⟩] := by
  have h' : s.data.toList.drop p = a ++ [] := by rw [List.append_nil]; exact h
  rw [words_word ha h', words_end (drop_len h'), empty_cat]
theorem words_more {s : ByteArray} {a b : List UInt8} {p : Nat} {acc : List ByteArray} (ha : NmL a) (h : s.data.toList.drop p = a ++ 32 :: b) : wordsN s s.size p (acc ++ [⟨#[]⟩]) = wordsN s s.size (p + a.length + 1) ((acc ++ [⟨a.toArray⟩]) ++ [⟨#[]⟩]) := by
  rw [words_word ha h, words_blank (drop_len h), empty_cat]
theorem words2 {s : ByteArray} {a b : List UInt8} (ha : NmL a) (hb : NmL b) (h : s.data.toList = a ++ 32 :: b) : wordsF s = [⟨a.toArray⟩, ⟨b.toArray⟩] := by
  have h0 : s.data.toList.drop 0 = a ++ 32 :: b := h
  have h1 : s.data.toList.drop (0 + a.length + 1) = b := drop_succ (drop_len h0)
  exact (words_more (acc := []) ha h0).trans (words_last hb h1)
theorem words4 {s : ByteArray} {a b c d : List UInt8} (ha : NmL a) (hb : NmL b) (hc : NmL c) (hd : NmL d) (h : s.data.toList = a ++ 32 :: (b ++ 32 :: (c ++ 32 :: d))) : wordsF s = [⟨a.toArray⟩, ⟨b.toArray⟩, ⟨c.toArray⟩, ⟨d.toArray⟩] := by
  have h0 : s.data.toList.drop 0 = a ++ 32 :: (b ++ 32 :: (c ++ 32 :: d)) := h
  have h1 := drop_succ (drop_len h0)
  have h2 := drop_succ (drop_len h1)
  have h3 := drop_succ (drop_len h2)
  exact (((words_more (acc := []) ha h0).trans (words_more hb h1)).trans (words_more hc h2)).trans (words_last hd h3)
theorem to_mk (s : ByteArray) : (⟨s.data.toList.toArray⟩ : ByteArray) = s := ByteArray.ext (by simp)
theorem sEq_refl (s : ByteArray) : sEq s s = true := beq_self_eq_true _
theorem ev_des : evF (wordsF sDes) = (⟨3, [], ⟨#[]⟩, [], [], 0⟩, true) := by kernel_rfl
theorem ev_res : evF (wordsF sRes) = (⟨4, [], ⟨#[]⟩, [], [], 0⟩, true) := by kernel_rfl
theorem ev_ins (x : ByteArray) : evF [wIns, x] = ({ ev0 with kind := 1, bytes := (byF x).1 }, (byF x).2) := by
  unfold evF
  rw [if_pos (by rw [show sEq (wd [wIns, x] 0) wIns = true from sEq_refl _]; rfl)]
  rfl
theorem ev_sel (x : ByteArray) : evF [wSel, x] = ({ ev0 with kind := 2, name := x }, true) := by
  unfold evF
  rw [if_neg (by rw [show sEq (wd [wSel, x] 0) wIns = false from (by decide +kernel : sEq wSel wIns = false)]; simp), if_pos (by rw [show sEq (wd [wSel, x] 0) wSel = true from sEq_refl _]; rfl)]
  rfl
theorem ev_com (x y z : ByteArray) : evF [wCom, x, y, z] = ({ ev0 with kind := 5, pub := (byF x).1, sec := (byF y).1, fuel := (numF z).1 }, ((byF x).2 && (byF y).2) && (numF z).2) := by
  unfold evF
  rw [if_neg (by rw [show sEq (wd [wCom, x, y, z] 0) wIns = false from (by decide +kernel : sEq wCom wIns = false)]; simp), if_neg (by rw [show sEq (wd [wCom, x, y, z] 0) wSel = false from (by decide +kernel : sEq wCom wSel = false)]; simp),
    if_neg (by rw [show sEq (wd [wCom, x, y, z] 0) sDes = false from (by decide +kernel : sEq wCom sDes = false)]; simp), if_neg (by rw [show sEq (wd [wCom, x, y, z] 0) sRes = false from (by decide +kernel : sEq wCom sRes = false)]; simp), if_pos (by rw [show sEq (wd [wCom, x, y, z] 0) wCom = true from sEq_refl _]; rfl)]
  rfl
theorem parse_print {e : Evt} (hb : U8s e.bytes) (hp : U8s e.pub) (hs : U8s e.sec) (h : (prE e).2 = true) : parseP (prE e).1 = (canon e, true) := by
  have key : evF (wordsF (prE e).1) = (canon e, true) → parseP (prE e).1 = (canon e, true) := fun h2 => by
    unfold parseP
    rw [h2]
    simp only [prE_canon, h, sEq_refl, Bool.and_self, if_true]
  refine key ?_
  unfold canon
  by_cases h1 : e.kind = 1
  · have hpr : prE e = if e.bytes.length ≤ 8192 then (sIns ++ hexS e.bytes, true) else (sNo, false) := by simp [prE, h1]
    rw [hpr] at h ⊢
    by_cases hl : e.bytes.length ≤ 8192
    case neg => rw [if_neg hl] at h; cases h
    rw [if_pos hl, if_pos h1, words2 (s := sIns ++ hexS e.bytes) (a := wIns.data.toList) (b := (hexS e.bytes).data.toList) (nm_const (by decide)) (hexS_list hb) (by rw [ba_cat]; rfl), to_mk, to_mk, ev_ins, byF_hex hb]
  rw [if_neg h1]
  by_cases h2 : e.kind = 2
  · have hpr : prE e = if nmB' e.name then (sSel ++ e.name, true) else (sNo, false) := by simp [prE, h2]
    rw [hpr] at h ⊢
    by_cases hl : nmB' e.name = true
    case neg => rw [if_neg hl] at h; cases h
    rw [if_pos hl, if_pos h2, words2 (s := sSel ++ e.name) (a := wSel.data.toList) (b := e.name.data.toList) (nm_const (by decide)) (nm_word hl) (by rw [ba_cat]; rfl), to_mk, to_mk, ev_sel]
  rw [if_neg h2]
  by_cases h5 : e.kind = 5
  · have hpr : prE e = if comOk e then (sCom ++ hexS e.pub ++ sBl ++ hexS e.sec ++ sBl ++ ⟨(Lib.itoa e.fuel).toArray⟩, true) else (sNo, false) := by simp [prE, h5]
    rw [hpr] at h ⊢
    by_cases hl : comOk e = true
    case neg => rw [if_neg hl] at h; cases h
    rw [if_pos hl, if_pos h5]
    simp only [comOk, Bool.and_eq_true, decide_eq_true_eq] at hl
    rw [words4 (s := sCom ++ hexS e.pub ++ sBl ++ hexS e.sec ++ sBl ++ ⟨(Lib.itoa e.fuel).toArray⟩) (a := wCom.data.toList) (b := (hexS e.pub).data.toList) (c := (hexS e.sec).data.toList) (d := Lib.itoa e.fuel) (nm_const (by decide)) (hexS_list hp) (hexS_list hs) (itoa_nm hl.2.1)
      (by rw [ba_cat, ba_cat, ba_cat, ba_cat, ba_cat]; simp only [List.append_assoc]; rfl), to_mk, to_mk, to_mk, ev_com, byF_hex hp, byF_hex hs, num_itoa hl.2.1 hl.2.2]
    rfl
  rw [if_neg h5]
  by_cases h3 : e.kind = 3
  · have hpr : prE e = (sDes, true) := by simp [prE, h3]
    rw [hpr, h3]
    exact ev_des
  by_cases h4 : e.kind = 4
  · have hpr : prE e = (sRes, true) := by simp [prE, h4]
    rw [hpr, h4]
    exact ev_res
  have hpr : prE e = (sNo, false) := by simp [prE, h1, h2, h3, h4, h5]
  rw [hpr] at h
  cases h
end Go.Proofs.YthblbcjgdbaonaaGreatDoor
namespace Go.Proofs.YthblbcjgdbaonaaGreatDoor
open Go.Vc Go.Tc
variable {w : World} {K : Value → World → Prop}
theorem r_strU {v : Value} {l : List Int} (h : ArgsU8 w v l) : (convert 23 9 v).run Tryz.prog w = .ok (.string (strOfNums l)) w := by
  rcases h with ⟨rfl, rfl⟩ | ⟨ad, c, rfl, h⟩
  · exact r_str Tryz.underlying23 Tryz.underlying5 Tryz.underlying9 (SliceIs.nil _ _)
  · by_cases h0 : 0 < l.length
    · exact r_str Tryz.underlying23 Tryz.underlying5 Tryz.underlying9 (h h0)
    · have : l = [] := List.eq_nil_of_length_eq_zero (by omega)
      subst this
      show (convert 23 9 (.slice (some ad) 0 c)).run Tryz.prog w = _
      rw [run_convert_bytes_string w 23 9 5 _ 0 c Tryz.underlying23 Tryz.underlying5 Tryz.underlying9]
      simp [Conv.bytesToString, loadCells]
      rfl
theorem prE_size {e : Evt} : (prE e).1.size ≤ 2000000 := by
  unfold prE
  by_cases h1 : e.kind = 1
  · rw [if_pos h1]
    by_cases hl : e.bytes.length ≤ 8192
    · rw [if_pos hl]
      have := hexS_size e.bytes
      rw [ByteArray.size_append]
      show 8 + _ ≤ _
      omega
    · rw [if_neg hl]; decide
  rw [if_neg h1]
  by_cases h2 : e.kind = 2
  · rw [if_pos h2]
    by_cases hl : nmB' e.name = true
    · rw [if_pos hl]
      have := nm_le hl
      rw [ByteArray.size_append]
      show 7 + _ ≤ _
      omega
    · rw [if_neg hl]; decide
  rw [if_neg h2]
  by_cases h3 : e.kind = 3
  · rw [if_pos h3]; decide
  rw [if_neg h3]
  by_cases h4 : e.kind = 4
  · rw [if_pos h4]; decide
  rw [if_neg h4]
  by_cases h5 : e.kind = 5
  · rw [if_pos h5]
    by_cases hl : comOk e = true
    · rw [if_pos hl]
      simp only [comOk, Bool.and_eq_true, decide_eq_true_eq] at hl
      have z1 := hexS_size e.pub
      have z2 := hexS_size e.sec
      have z3 := itoa_len hl.2.1 hl.2.2
      rw [ByteArray.size_append, ByteArray.size_append, ByteArray.size_append, ByteArray.size_append, ByteArray.size_append]
      show 8 + _ + 1 + _ + 1 + (Lib.itoa e.fuel).toArray.size ≤ _
      rw [List.size_toArray]
      omega
    · rw [if_neg hl]; decide
  rw [if_neg h5]
  decide
set_option maxHeartbeats 3200000 in
theorem backs5 {cs : List Value} {how : Int} (x : RawIs w cs) (hh : -9223372036854775808 ≤ how ∧ how ≤ 9223372036854775807) (hT : STabs w) :
    callD Tryz.prog 5 #[.agg cs.toArray, i64 how] w fun r w' => r = .bool true ∧ Ext w w' := by
  apply F5_wp
  suffices key : ∀ R : Value → World → Prop, (∀ w', Ext w w' → R (.bool true) w') → F5_den (.agg cs.toArray) (i64 how) w R from key _ fun _ hx => ⟨rfl, hx⟩
  intro R hR
  unfold F5_den
  have hcl : cs.length = 9 := by rw [x.c]; rfl
  refine bxK fun w1 hB1 x1 => ?_
  have hB1 : Blk w1 w.heap.size cs 25 := by
    rw [x.c] at hB1 ⊢
    exact hB1
  refine ldA hB1.boxed la_25 hcl ?_
  refine event6 x x1 (hT.ext x1).bo (hT.ext x1).t3 hh fun cs2 e w3 he x3 => ?_
  have x03 := x1.trans x3
  have hone := he.one
  obtain ⟨⟨bv, pv, sv, rfl, hb, hp, hs⟩, ub, up, us⟩ := he
  refine asK sa_29 rfl hone.1 fun w4 hB4 x4 => ?_
  have hB4 : Blk w4 w3.heap.size [i64 e.kind, bv, .string e.name, pv, sv, i64 e.fuel] 29 := hB4
  have x04 := x03.trans x4
  have he4 : EvtIs w4 [i64 e.kind, bv, .string e.name, pv, sv, i64 e.fuel] e := ⟨⟨bv, pv, sv, rfl, hb.ext x4, hp.ext x4, hs.ext x4⟩, ub, up, us⟩
  refine ldA hB4.boxed la_29 rfl ?_
  refine print7 he4 (hT.ext x04) fun w5 x5 => V_ext0.2 (V_ext1.2 ?_)
  have x05 := x04.trans x5
  refine known10 (hT.ext x05) fun w6 x6 => V_not.2 ?_
  have x06 := x05.trans x6
  simp only [evL, reduceIte, Bool.false_eq_true, Bool.not_true]
  cases hok : (prE e).2 with
  | false =>
    simp only [evL, Bool.not_false]
    exact known10 (hT.ext x06) fun w7 x7 => hR _ (x06.trans x7)
  | true =>
  simp only [evL, Bool.not_true]
  have hpp := parse_print ub up us hok
  refine parse13 prE_size (hT.ext x06) fun cs8 w7 he8 x7 => V_ext0.2 (V_ext1.2 ?_)
  rw [hpp] at he8 ⊢
  have x07 := x06.trans x7
  have hone8 := he8.one
  have hk8 : (canon e).kind = e.kind := by
    unfold canon
    by_cases h1 : e.kind = 1
    · rw [if_pos h1, h1]
    rw [if_neg h1]
    by_cases h2 : e.kind = 2
    · rw [if_pos h2, h2]
    rw [if_neg h2]
    by_cases h5 : e.kind = 5
    · rw [if_pos h5, h5]
    rw [if_neg h5]
  obtain ⟨⟨bv8, pv8, sv8, rfl, hb8, hp8, hs8⟩, ub8, up8, us8⟩ := he8
  refine asK sa_29 rfl hone8.1 fun w8 hB8 x8 => ?_
  have hB8 : Blk w8 w7.heap.size [i64 (canon e).kind, bv8, .string (canon e).name, pv8, sv8, i64 (canon e).fuel] 29 := hB8
  have x08 := x07.trans x8
  have x48 := ((x5.trans x6).trans x7).trans x8
  have hB48 := hB4.ext x48
  have hR := hR w8 x08
  simp only [evL, reduceIte, Bool.false_eq_true, Bool.not_true]
  refine ldB hB8.boxed fa_29_0 l1_3 rfl (ldB hB48.boxed fa_29_0 l1_3 rfl (V_neqI.2 ?_))
  rw [hk8]
  simp only [evL, not_true_eq_false, ne_eq, decide_false]
  refine ldB hB48.boxed fa_29_0 l1_3 rfl (V_eqlI.2 (ifD_dec (fun c => ?_) fun c1 => ?_))
  · refine ldB hB8.boxed fa_29_1 l1_23 rfl (V.ok (r_strU (hb8.ext x8)) (ldB hB48.boxed fa_29_1 l1_23 rfl (V.ok (r_strU (hb.ext (x4.trans x48))) (V.ok r_eqStr ?_))))
    rw [show (canon e).bytes = e.bytes by unfold canon; rw [if_pos c], beq_self_eq_true]
    exact hR
  refine V_eqlI.2 (ifD_dec (fun c => ?_) fun c2 => ?_)
  · refine ldB hB8.boxed fa_29_2 l1_9 rfl (ldB hB48.boxed fa_29_2 l1_9 rfl (V.ok r_eqStr ?_))
    rw [show (canon e).name = e.name by unfold canon; rw [if_neg c1, if_pos c], beq_self_eq_true]
    exact hR
  refine V_eqlI.2 (ifD_dec (fun c => ?_) fun c5 => hR)
  have hc : canon e = { ev0 with kind := 5, pub := e.pub, sec := e.sec, fuel := e.fuel } := by unfold canon; rw [if_neg c1, if_neg c2, if_pos c]
  refine ldB hB8.boxed fa_29_3 l1_23 rfl (V.ok (r_strU (hp8.ext x8)) (ldB hB48.boxed fa_29_3 l1_23 rfl (V.ok (r_strU (hp.ext (x4.trans x48))) (V.ok r_eqStr ?_))))
  rw [show (canon e).pub = e.pub by rw [hc], beq_self_eq_true]
  simp only [evL, reduceIte]
  refine ldB hB8.boxed fa_29_4 l1_23 rfl (V.ok (r_strU (hs8.ext x8)) (ldB hB48.boxed fa_29_4 l1_23 rfl (V.ok (r_strU (hs.ext (x4.trans x48))) (V.ok r_eqStr ?_))))
  rw [show (canon e).sec = e.sec by rw [hc], beq_self_eq_true]
  simp only [evL, reduceIte]
  refine ldB hB8.boxed fa_29_5 l1_3 rfl (ldB hB48.boxed fa_29_5 l1_3 rfl (V_eqlI.2 ?_))
  rw [show (canon e).fuel = e.fuel by rw [hc]]
  simp only [decide_true]
  exact hR
end Go.Proofs.YthblbcjgdbaonaaGreatDoor
namespace Go.Vc
open Go.ChangeShapes Go.WideShapes Go.ChangeAt Go.RowKit
variable {H : Type} {enc : TypeId × Value → H} {P : Program}
theorem post_of_ext {f : Func} {s : ChangeSpec} {apart fresh handsOn again : Bool} {W W' : World} {args : Array Value} {v : Value} {ds gs : List (DataW H)} {pa pv : List MemPlace}
    (hW : DataW.Whole enc P f.params.toList s.vars apart W args.toList ds gs (pa ++ pv)) (hx : Ext W W')
    (hr : ∀ b sp hd, DataW.TrodAll enc P W' b sp hd f.resultTypes.toList (v.resultList f.resultTypes.size) (s.fn H (ds ++ gs)).results [])
    (ha : ∀ sp : Nat → Bool, (∀ p ∈ pa ++ pv, sp p.block = true) → DataW.TrodAll enc P W' 0 sp true f.params.toList args.toList (s.fn H (ds ++ gs)).args pa)
    (hv : ∀ sp : Nat → Bool, (∀ p ∈ pa ++ pv, sp p.block = true) → DataW.TrodVars enc P W' sp s.vars (s.fn H (ds ++ gs)).vars pv)
    (hok : ∀ (j : Nat) (t : TypeId) (r : Value), f.resultTypes[j]? = some t → (v.resultList f.resultTypes.size)[j]? = some r → Value.okWide P W' .any 0 t r) :
    s.post enc P f apart fresh handsOn again W args v W' := by
  have hlt := hW.lt
  have hall : ∀ p ∈ pa ++ pv, (fun b => decide (b < W.heap.size)) p.block = true := fun p hp => decide_eq_true (hlt p hp)
  have hk := hx.below.frame (· ∈ pa ++ pv)
  refine ⟨ds, gs, pa ++ pv, [], pa, pv, hW, hr _ _ _, ha _ hall, hv _ hall, World.keptBut_mono (fun p hp => ⟨hp, .inr (by simpa using hp)⟩) hk, fun _ => ?_⟩
  obtain ⟨_, _, _, _, _, hz, hn⟩ := hW
  have h2 := trodAll_append (ha (fun _ => true) fun _ _ => rfl) (hr 0 (fun _ => true) true)
  refine ⟨hok, _, _, pa ++ pv, ⟨pa, pv, (by simpa using h2), hv _ fun _ _ => rfl, rfl, fun b off hp => ?_, hn⟩, fun p hp _ => hp⟩
  rw [hx.below.frozen (hlt _ hp)]
  exact hz b off hp
end Go.Vc
namespace Go.Vc
open Go.ChangeShapes Go.WideShapes Go.ChangeAt Go.RowKit
variable {H : Type} {enc : TypeId × Value → H} {P : Program}
theorem args_stay (hl : laidOutB P = true) {W W' : World} (hx : Ext W W') {sp : Nat → Bool} : ∀ {ts : List TypeId} {vs : List Value} {ds : List (DataW H)} {p : List MemPlace}, (ts.all fun t => P.readableRec t && decide (t < P.types.size)) = true →
    DataW.TrodAll enc P W 0 (fun _ => true) true ts vs ds p → (∀ x ∈ p, x.block < W.heap.size) → (∀ x ∈ p, sp x.block = true) → DataW.TrodAll enc P W' 0 sp true ts vs ds p
  | [], vs, ds, p, _, h, _, _ => by
    obtain ⟨rfl, rfl, rfl⟩ := trodAll_nil h
    exact trodAll_mk0
  | t :: ts, vs, ds, p, hr, h, hlt, hs => by
    simp only [List.all_cons, Bool.and_eq_true, decide_eq_true_eq] at hr
    obtain ⟨v, vs', d, ds', p1, p2, rfl, rfl, rfl, h1, h2⟩ := trodAll_cons h
    exact trodAll_cons_mk (WideElems.Trod_stays hl hr.1.1 hr.1.2 h1 (fun x hx' => hx.below.same (hlt x (by simp [hx']))) fun x hx' => hs x (by simp [hx']))
      (args_stay hl hx (by simpa using hr.2) h2 (fun x hx' => hlt x (by simp [hx'])) fun x hx' => hs x (by simp [hx']))
end Go.Vc
namespace Go.Vc
open Go.ChangeShapes
theorem laid_elem {P : Program} {W : World} {x : String} {ds : List (DataW Unit)} {g t e m : Nat} (hg : P.globalNamed x = some g) (ht : (P.globals[g]?).map (·.type) = some t) (hu : P.underlying t = some (.array m e)) {i : Nat} (hi : i < m) :
    ∀ {laid : List (String × DataW Unit)} {ps : List MemPlace}, DataW.LaidVars P W laid ps → (x, .agg ds) ∈ laid → ∃ (fuel : Nat) (q : List MemPlace) (cs : List Value) (d : DataW Unit), ds[i]? = some d ∧ DataW.trod (fun _ => ()) P W 0 (fun _ => true) false fuel e ((cs.drop (i * P.cellsOf e)).take (P.cellsOf e)) = some (d, q) ∧ ∀ j : Nat, W.cell? ⟨g, j, none⟩ = cs[j]?
  | [], _, _, hm => by cases hm
  | (n', d') :: r, ps, h, hm => by
    obtain ⟨g', t', cs, fuel, p, q, h1, h2, h3, h4, h5, _⟩ := h
    rcases List.mem_cons.1 hm with e1 | e1
    · cases e1
      obtain rfl := Option.some.inj (hg.symm.trans h1)
      obtain rfl := Option.some.inj (ht.symm.trans h2)
      obtain ⟨xs, m', _, ex, _, hxl, hel⟩ := DataW.trod_array hu h4
      have hE := hel i hi
      rw [List.getElem?_eq_getElem (by omega)] at hE
      refine ⟨m', (xs[i]'(by omega)).2, cs.toList, (xs[i]'(by omega)).1, ?_, hE, fun j => by rw [World.var?_cell hg h3 j, ← Array.getElem?_toList]⟩
      have : ds = xs.map (·.1) := by have := congrArg Prod.fst ex; simpa using this
      rw [this, List.getElem?_map, List.getElem?_eq_getElem (by omega)]; rfl
    · exact laid_elem hg ht hu hi h5 e1
theorem laid_int {P : Program} {W : World} {x : String} {ds : List (DataW Unit)} {g t e m : Nat} {k : IntKind} {laid : List (String × DataW Unit)} {ps : List MemPlace} (hg : P.globalNamed x = some g) (ht : (P.globals[g]?).map (·.type) = some t) (hu : P.underlying t = some (.array m e)) (he : P.underlying e = some (.int k)) (c1 : P.cellsOf e = 1)
    (h : DataW.LaidVars P W laid ps) (hm : (x, .agg ds) ∈ laid) {i : Nat} (hi : i < m) : ∃ z, ds[i]? = some (.lit (.int k z)) ∧ W.cell? ⟨g, i, none⟩ = some (.int k z) := by
  obtain ⟨fuel, q, cs, d, h1, h2, h3⟩ := laid_elem hg ht hu hi h hm
  rw [c1, Nat.mul_one] at h2
  obtain ⟨z, e1, e2, _⟩ := DataW.trod_int he h2
  cases e2
  refine ⟨z, h1, ?_⟩
  rw [h3 i]
  have h0 : ((cs.drop i).take 1)[0]? = some (.int k z) := by rw [e1]; rfl
  simpa using h0
theorem laid_fld {P : Program} {W : World} {x : String} {ds : List (DataW Unit)} {g t e m c f o u : Nat} {fs : Array Field} {k : IntKind} {laid : List (String × DataW Unit)} {ps : List MemPlace} (hg : P.globalNamed x = some g) (ht : (P.globals[g]?).map (·.type) = some t) (hu : P.underlying t = some (.array m e)) (he : P.underlying e = some (.struct fs)) (hc : P.cellsOf e = c)
    (hf : (fs[f]?).map (fun y => (y.type, y.offset)) = some (u, o)) (hk : P.underlying u = some (.int k)) (c1 : P.cellsOf u = 1) (ho : o < c)
    (h : DataW.LaidVars P W laid ps) (hm : (x, .agg ds) ∈ laid) {i : Nat} (hi : i < m) : ∃ l z, ds[i]? = some (.agg l) ∧ l[f]? = some (.lit (.int k z)) ∧ W.cell? ⟨g, i * c + o, none⟩ = some (.int k z) := by
  obtain ⟨fuel, q, cs, d, h1, h2, h3⟩ := laid_elem hg ht hu hi h hm
  rw [hc] at h2
  obtain ⟨xs, n, _, ex, _, hxl, hel⟩ := DataW.trod_struct he h2
  obtain ⟨fd, hfd, hfe⟩ := Option.map_eq_some_iff.1 hf
  have h4 := hel f fd hfd
  have hlt : f < fs.size := (Array.getElem?_eq_some_iff.1 hfd).1
  simp only [Prod.mk.injEq] at hfe
  obtain ⟨rfl, rfl⟩ := hfe
  rw [c1, List.getElem?_eq_getElem (by omega)] at h4
  obtain ⟨z, e1, e2, _⟩ := DataW.trod_int hk h4
  have e3 : d = .agg (xs.map (·.1)) := congrArg Prod.fst ex
  refine ⟨_, z, by rw [h1, e3], by rw [List.getElem?_map, List.getElem?_eq_getElem (by omega)]; simp [e2], ?_⟩
  rw [h3]
  have h0 : ((((cs.drop (i * c)).take c).drop fd.offset).take 1)[0]? = some (.int k z) := by rw [e1]; rfl
  simpa [List.getElem?_take, List.getElem?_drop, ho] using h0
end Go.Vc
