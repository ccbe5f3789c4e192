/- Script: the run of chapter 27's example. -/
import Derived.Test.YtmbeoehgpffneaaGreatDoorSc3
namespace Go.Ab
noncomputable section
def flat : Value → Bool
  | .int _ _ => true
  | .string _ => true
  | .bool _ => true
  | .slice none 0 0 => true
  | _ => false
theorem RV.flat {β : Beta} {v v' : Value} (h : RV β v v') (hf : flat v = true) : v' = v := by
  cases h <;> first | rfl | (exact absurd hf (by simp [Go.Ab.flat]))
theorem RL.flat {β : Beta} : ∀ {l l' : List Value}, RL β l l' → l.all Go.Ab.flat = true → l' = l
  | [], l', h, _ => h.inv_nil
  | v :: l, l', h, hf => by
    obtain ⟨v', l1, rfl, hv, h1⟩ := h.inv
    simp only [List.all_cons, Bool.and_eq_true] at hf
    rw [hv.flat hf.1, RL.flat h1 hf.2]
theorem RV.aggF {β : Beta} {l : List Value} {v' : Value} (h : RV β (.agg l.toArray) v') (hf : l.all Go.Ab.flat = true) : v' = .agg l.toArray := by
  generalize hx : Value.agg l.toArray = x at h
  cases h with
  | agg hl hi =>
    rename_i a a'
    have he : a = l.toArray := by simpa using hx.symm
    subst he
    have hr : RL β l a'.toList := ⟨by simpa using hl, fun i u u' h1 h2 => hi i u u' (by simpa using h1) (by simpa using h2)⟩
    have := hr.flat hf
    rw [show a' = l.toArray by rw [← this]]
  | _ => cases hx
end
end Go.Ab
namespace Go.Proofs.YtmbeoehgpffneaaGreatDoor
open Go.Vc Go.Ab Go.RowKit
noncomputable section
theorem rv_aggS {β : Beta} {l : List Value} (h : allB gnd1 l = true) : RV β (.agg l.toArray) (.agg l.toArray) := by
  have hl := gndL_rl (β := β) h
  exact .agg rfl fun i v v' h1 h2 => hl.2 i v v' (by simpa using h1) (by simpa using h2)
theorem mixedS : Tryz.prog.follows .mixedOrders = true := by kernel_rfl
def sDes : ByteArray := ⟨[100,101,115,101,108,101,99,116].toArray⟩
def sDesNl : ByteArray := ⟨[100,101,115,101,108,101,99,116,10].toArray⟩
def sAns : ByteArray := ⟨[54,57,56,53,32,45,32,45].toArray⟩
def sAnsNl : ByteArray := ⟨[54,57,56,53,32,45,32,45,10].toArray⟩
def evL : List Value := [.int .i64 3, .slice none 0 0, .string ⟨#[]⟩, .slice none 0 0, .slice none 0 0, .int .i64 0]
def anL : List Value := [.int .i64 27013, .slice none 0 0, .slice none 0 0]
def runQ (f : FuncId) (args : List Value) (s : Go.Ab.St) : Option (Value × Go.Ab.St) := callQ tabS Tryz.prog GM 100000 100 f args s
theorem runQ_ok {β : Beta} {s s' : Go.Ab.St} {w : World} {f : FuncId} {args args' : List Value} {v : Value} (hr : runQ f args s = some (v, s')) (h : Rel GM β s w) (ha : RL β args args') :
    callD Tryz.prog f args'.toArray w fun v' w' => ∃ β', Ev GM β s w β' s' w' ∧ RV β' v v' := callQ_ok mixedS tabS_ok 100000 100 _ _ _ _ _ _ _ _ hr h (by simpa using ha)
abbrev stM (m : Int) : Go.Ab.St := st1 2 [.int .i64 m]
set_option maxRecDepth 1000000 in
theorem q_parse (m : Int) : (runQ 5 [.string sDes] (stM m)).map (·.1) = some (.tuple #[.agg evL.toArray, .bool true]) := by kernel_rfl
set_option maxRecDepth 1000000 in
theorem q_new (m : Int) : (runQ 10 [.int .i64 200, .int .i64 0] (stM m)).map (·.1) = some (.tuple #[.pointer (some ⟨7, 0, none⟩), .int .i64 0]) := by kernel_rfl
set_option maxRecDepth 1000000 in
theorem q_play (m : Int) : ((runQ 10 [.int .i64 200, .int .i64 0] (stM m)).bind fun y => runQ 12 [.pointer (some ⟨7, 0, none⟩), .agg evL.toArray] y.2).map (·.1) = some (.agg anL.toArray) := by kernel_rfl
set_option maxRecDepth 1000000 in
theorem q_tell (m : Int) : (runQ 8 [.agg anL.toArray] (stM m)).map (·.1) = some (.string sAns) := by kernel_rfl
theorem q_count : Lib.countB sDesNl ⟨#[10]⟩ = 1 := by kernel_rfl
theorem q_split : (Lib.splitB ⟨#[10]⟩ 0 1 sDesNl).map Value.string = [.string sDes, .string ⟨#[]⟩] := by kernel_rfl
/-- Holds the length that bytealg keeps. -/
def HM (m : Int) (w : World) : Prop := HoldsAt w 2 [.int .i64 m]
theorem HM.ext {m : Int} {w w' : World} (h : HM m w) (hx : Ext w w') : HM m w' := by
  obtain ⟨c, e, fz, h1, h2⟩ := h
  exact ⟨c, e, fz, (hx.block 2 (Array.getElem?_eq_some_iff.1 h1).1 (by simp)).trans h1, h2⟩
theorem HM.cell {m : Int} {w : World} (h : HM m w) : w.cell? ⟨2, 0, none⟩ = some (.int .i64 m) := by
  obtain ⟨c, e, fz, h1, h2⟩ := h
  simp [World.cell?, h1, h2 0 _ rfl]
theorem HM.rel {m : Int} {w : World} (h : HM m w) : Rel GM (upB (fun _ => .fresh) 2 (.live 2 0 1)) (stM m) w := rel_one h rfl
theorem ev_ext0 {m : Int} {β' : Beta} {s s' : Go.Ab.St} {w w' : World} (h : Ev GM (upB (fun _ => .fresh) 2 (.live 2 0 1)) s w β' s' w') (hs : Tr.get (Go.Ab.bits 2) s.m = some (roOf [.int .i64 m])) (hn : 2 < s.n) : Ext w w' :=
  ⟨h.oth.1, h.oth.2.1, h.oth.2.2, h.sz, fun k hk _ => by
    by_cases h2 : k = 2
    · subst h2
      exact (h.ro 2 _ _ _ hn hs).2.2 2 0 1 (upB_same _ _ _)
    · exact h.out k hk fun b base lim hb => by
        by_cases hb2 : b = 2
        · subst hb2
          rw [upB_same] at hb
          cases hb
          exact h2 rfl
        · rw [upB_ne _ _ hb2] at hb
          cases hb⟩
/-- Parse of the line. -/
theorem parse_ok {m : Int} {w : World} (h : HM m w) : callD Tryz.prog 5 #[.string sDes] w fun r w' => r = .tuple #[.agg evL.toArray, .bool true] ∧ Ext w w' := by
  obtain ⟨⟨v, s'⟩, hr, hv⟩ := Option.map_eq_some_iff.1 (q_parse m)
  obtain rfl : v = _ := hv
  refine callD.mono' (runQ_ok (args' := [.string sDes]) hr h.rel (RL.cons (.string _) .nil)) fun r w' ⟨β', ev, rv⟩ => ?_
  obtain ⟨l', rfl, hl⟩ := RL.of_tuple rv
  obtain ⟨x, l1, e1, hx, hl1⟩ := hl.inv
  obtain ⟨y, l2, rfl, hy, hl2⟩ := hl1.inv
  have := hl2.inv_nil
  subst this
  rw [hx.aggF rfl] at e1
  cases hy
  exact ⟨by rw [show l' = #[.agg evL.toArray, .bool true] from Array.toList_inj.1 e1], ev_ext0 ev rfl (Nat.lt_succ_self 2)⟩
/-- Tell of the answer. -/
theorem tell_ok {m : Int} {w : World} (h : HM m w) : callD Tryz.prog 8 #[.agg anL.toArray] w fun r w' => r = .string sAns ∧ Ext w w' := by
  obtain ⟨⟨v, s'⟩, hr, hv⟩ := Option.map_eq_some_iff.1 (q_tell m)
  obtain rfl : v = _ := hv
  refine callD.mono' (runQ_ok (args' := [.agg anL.toArray]) hr h.rel (RL.cons (rv_aggS rfl) .nil)) fun r w' ⟨β', ev, rv⟩ => ?_
  exact ⟨rv.flat rfl, ev_ext0 ev rfl (Nat.lt_succ_self 2)⟩
end
end Go.Proofs.YtmbeoehgpffneaaGreatDoor
