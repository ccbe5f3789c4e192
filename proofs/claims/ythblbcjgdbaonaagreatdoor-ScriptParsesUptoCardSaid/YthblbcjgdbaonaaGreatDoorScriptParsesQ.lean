/- ScriptParses: a closed fact of the row. Began as the skeleton that the seat's proof-skeleton prints. -/
import Derived.Test.YthblbcjgdbaonaaGreatDoorScriptParsesO
namespace Go.Proofs.YthblbcjgdbaonaaGreatDoor.scriptParses
open Go.ChangeShapes Go.WideShapes Go.ChangeAt Go.RowKit Go.Vc
set_option linter.unusedVariables false
theorem noGo : Tryz.prog.funcs.any Func.goes = false := by kernel_rfl
theorem goes_false (f : FuncId) : Tryz.prog.goes f = false := by
  unfold Program.goes
  rw [noGo, Bool.and_false, Bool.or_false, Bool.eq_false_iff]
  intro h
  simp only [List.any_eq_true] at h
  obtain ⟨g, _, h⟩ := h
  cases e : Tryz.prog.funcs[g]? with
  | none => rw [e] at h; simp at h
  | some fn =>
    rw [e] at h
    have h2 := noGo
    rw [Bool.eq_false_iff] at h2
    refine h2 (Array.any_eq_true.2 ?_)
    obtain ⟨hg, hfn⟩ := Array.getElem?_eq_some_iff.1 e
    exact ⟨g, hg, by rw [hfn]; simpa using h⟩
theorem opt_false {p : FuncId → Bool} (h : ∀ f, p f = false) : ∀ x : Option FuncId, x.any p = false
  | none => rfl
  | some f => h f
theorem list_false {p : FuncId → Bool} (h : ∀ f, p f = false) : ∀ l : List FuncId, l.any p = false
  | [] => rfl
  | f :: l => by rw [List.any_cons, h f, list_false h l]; rfl
theorem goes_at {P : Program} (h : ∀ f, P.goes f = false) (s : Start) (x : String) : false = P.goesAt s x := by
  unfold Program.goesAt Program.goesFrom
  rw [opt_false h, Bool.false_or]
  split
  · rfl
  · exact (list_false h _).symm
theorem goesNone : false = Rows.scriptParsesUptoRow.goesBy Tryz.pinned.checked.prog := goes_at (P := Tryz.prog) goes_false _ _
end Go.Proofs.YthblbcjgdbaonaaGreatDoor.scriptParses
