/- A closed call that evaluates to true returns true, in any world, and leaves all as it was. -/
import Derived.Test.YtmbeoehgpffneaaGreatDoorA20
import Derived.Test.YtmbeoehgpffneaaGreatDoorLaws
import Derived.KernelRfl
import Derived.OpenShut
import Derived.FnData
set_option linter.unusedVariables false
namespace Go.Ab
noncomputable section
open Go.Vc (callD Ext)
def okTrue (r : Option (Value × St)) : Bool :=
  match r with
  | some (.bool true, _) => true
  | _ => false
def noG : Nat → Bool := fun _ => false
theorem rel_empty (w : World) : Rel noG (fun _ => .fresh) ⟨0, .e⟩ w :=
  ⟨fun _ _ => rfl, (fun b r base lim h => by cases h), (fun b b' r base lim base' lim' h => by cases h), (fun g h => by cases h), (fun g h => by cases h), (fun b h => by cases h)⟩
theorem Ev.ext {G : Nat → Bool} {β' : Beta} {s s' : St} {w w' : World} (h : Ev G (fun _ => .fresh) s w β' s' w') : Ext w w' :=
  ⟨h.oth.1, h.oth.2.1, h.oth.2.2, h.sz, fun k hk _ => h.out k hk fun b base lim hb => by cases hb⟩
theorem closed_true {P : Program} (hm : P.follows .mixedOrders = true) {fuel n f : Nat} (h : okTrue (callE P noG fuel n f [] ⟨0, .e⟩) = true) (w : World) :
    callD P f #[] w fun v w' => v = .bool true ∧ Ext w w' := by
  generalize hr : callE P noG fuel n f [] ⟨0, .e⟩ = r at h
  unfold okTrue at h
  split at h <;> try (cases h; done)
  exact callD.mono' (callE_sound hm fuel n _ _ w f [] #[] _ _ hr (rel_empty w) .nil) fun v' w' ⟨β', h1, h2⟩ => ⟨RV.bool_inv h2, h1.ext⟩

/-! ### One variable of the package is read -/
def G1 (g : Nat) : Nat → Bool := fun x => Nat.beq x g
def roOf (l : List Value) : Ob := .ro l.length .nilIface (trOf 0 l .e)
def st1 (g : Nat) (l : List Value) : St := ⟨g + 1, Tr.put (bits g) (some (roOf l)) .e⟩
/-- The world holds the cells at the variable. -/
def HoldsAt (w : World) (g : Nat) (l : List Value) : Prop := ∃ c e fz, w.heap[g]? = some (.cells c e fz) ∧ ∀ (i : Nat) v, l[i]? = some v → c[i]? = some v
theorem HoldsAt.size {w : World} {g : Nat} {l : List Value} {c : Array Value} (h : ∀ (i : Nat) v, l[i]? = some v → c[i]? = some v) : l.length ≤ c.size := by
  rcases Nat.lt_or_ge c.size l.length with hlt | hge
  · have := h c.size _ (List.getElem?_eq_getElem hlt)
    simp at this
  · exact hge
theorem rel_one {w : World} {g : Nat} {l : List Value} (hw : HoldsAt w g l) (hl : allB gnd1 l = true) : Rel (G1 g) (upB (fun _ => .fresh) g (.live g 0 l.length)) (st1 g l) w := by
  obtain ⟨c, e, fz, h1, h2⟩ := hw
  have key : ∀ b r base lim, upB (fun _ => .fresh) g (.live g 0 l.length) b = .live r base lim → b = g ∧ r = g ∧ base = 0 ∧ lim = l.length := fun b r base lim hb => by
    by_cases hbg : b = g
    · subst hbg; rw [upB_same] at hb; cases hb; exact ⟨rfl, rfl, rfl, rfl⟩
    · rw [upB_ne _ _ hbg] at hb; cases hb
  refine ⟨fun b hb => ?_, fun b r base lim hb => ?_, fun b b' r base lim base' lim' hb hb' => ?_, fun x hx => ?_, fun x hx => ?_, fun b hb => ?_⟩
  · have hb' : g + 1 ≤ b := hb
    rw [upB_ne _ _ (by omega)]
  · obtain ⟨rfl, rfl, rfl, rfl⟩ := key _ _ _ _ hb
    refine ⟨roOf l, Tr.get_put (bits r) (some (roOf l)) .e, c, e, fz, h1, by rw [Nat.zero_add]; exact HoldsAt.size (w := w) (g := r) h2, fun i hi => ?_⟩
    rw [trOf_get, if_pos (by omega), Nat.zero_add]
    obtain ⟨v', h3, h4⟩ := (gndL_rl (β := upB (fun _ => .fresh) r (.live r 0 l.length)) hl).get (List.getElem?_eq_getElem hi)
    refine ⟨v', h2 i v' h3, ?_⟩
    simpa [hi] using h4
  · rw [(key _ _ _ _ hb).1, (key _ _ _ _ hb').1]
  · have := Nat.eq_of_beq_eq_true hx
    subst this
    exact ⟨_, upB_same _ _ _⟩
  · have := Nat.eq_of_beq_eq_true hx
    subst this
    exact Nat.lt_succ_self _
  · by_cases hbg : b = g
    · subst hbg; rw [upB_same] at hb; cases hb
    · rw [upB_ne _ _ hbg] at hb; cases hb
theorem closed_true1 {P : Program} (hm : P.follows .mixedOrders = true) {fuel n f g : Nat} {l : List Value} (hl : allB gnd1 l = true) (h : okTrue (callE P (G1 g) fuel n f [] (st1 g l)) = true) (w : World) (hw : HoldsAt w g l) :
    callD P f #[] w fun v w' => v = .bool true ∧ Ext w w' := by
  generalize hr : callE P (G1 g) fuel n f [] (st1 g l) = r at h
  unfold okTrue at h
  split at h <;> try (cases h; done)
  refine callD.mono' (callE_sound hm fuel n _ _ w f [] #[] _ _ hr (rel_one hw hl) .nil) fun v' w' ⟨β', h1, h2⟩ => ⟨RV.bool_inv h2, h1.oth.1, h1.oth.2.1, h1.oth.2.2, h1.sz, fun k hk _ => ?_⟩
  by_cases hkg : k = g
  · subst hkg
    exact (h1.ro k _ _ _ (Nat.lt_succ_self _) (Tr.get_put (bits k) (some (roOf l)) .e)).2.2 k 0 l.length (upB_same _ _ _)
  · refine h1.out k hk fun b base lim hb => ?_
    by_cases hbg : b = g
    · subst hbg; rw [upB_same] at hb; cases hb; exact hkg rfl
    · rw [upB_ne _ _ hbg] at hb; cases hb
/-- What a row lays, at an array of whole numbers. -/
theorem holds_of_laid {P : Program} {W : World} {x : String} {g t e m : Nat} {k : IntKind} {zs : List Int} {rest : List (String × DataW Unit)} (hg : P.globalNamed x = some g) (ht : (P.globals[g]?).map (·.type) = some t)
    (hu : P.underlying t = some (.array m e)) (he : P.underlying e = some (.int k)) (c1 : P.cellsOf e = 1) (hm : zs.length = m) (h : laidMet P ((x, .agg (zs.map fun z => .lit (.int k z))) :: rest) W) : HoldsAt W g (zs.map fun z => .int k z) := by
  obtain ⟨ps, ⟨g', t', cs, fuel, p, q, hg', ht', hv, hd, _, _⟩, _, _⟩ := h
  obtain rfl := Option.some.inj (hg.symm.trans hg')
  obtain rfl := Option.some.inj (ht.symm.trans ht')
  obtain ⟨xs, m', _, ex, _, hxl, hel⟩ := DataW.trod_array hu hd
  simp only [World.var?, hg, Option.bind_some] at hv
  split at hv
  · rename_i cs' e' fz hh
    cases hv
    refine ⟨_, e', fz, hh, fun i v hi => ?_⟩
    have hil : i < zs.length := by simpa using (List.getElem?_eq_some_iff.1 hi).1
    have hE := hel i (by omega)
    rw [c1, Nat.mul_one, List.getElem?_eq_getElem (by omega)] at hE
    obtain ⟨z, e1, e2, _⟩ := DataW.trod_int he hE
    have e3 : (xs.map (·.1)) = zs.map fun z => .lit (.int k z) := (DataW.agg.inj (Prod.mk.inj ex).1).symm
    have e4 : (xs.map (·.1))[i]? = (zs.map fun z => (DataW.lit (.int k z) : DataW Unit))[i]? := by rw [e3]
    rw [List.getElem?_map, List.getElem?_map, List.getElem?_eq_getElem (by omega : i < xs.length), List.getElem?_eq_getElem hil, e2] at e4
    simp only [Option.map_some, Option.some.injEq, DataW.lit.injEq, Lit.int.injEq, true_and] at e4
    rw [List.getElem?_map, List.getElem?_eq_getElem hil] at hi
    simp only [Option.map_some, Option.some.injEq] at hi
    subst hi
    rw [← e4]
    have h0 : ((cs.toList.drop i).take 1)[0]? = some (.int k z) := by rw [e1]; rfl
    simpa using h0
  · cases hv
end
end Go.Ab
