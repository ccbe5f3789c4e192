/- LiveKnown: its walk. -/
import Derived.Test.YthefabgfjnkklaaLiveK
namespace Go.Proofs.Ythefabgfjnkklaa
open Go.Vc

def pLoop : GProg := ⟨1, 3, [.move 1 0, .branch 1 0, .const 1 0, .ret 2]⟩
theorem okLoop : OkProg pLoop := by
  refine ⟨by decide, by decide, by decide, by decide, by decide, by decide, by decide, fun i n hn => ?_⟩
  match i, hn with
  | 0, hn => cases hn; exact ⟨trivial, by decide, by decide, by decide⟩
  | 1, hn => cases hn; exact ⟨trivial, by decide, by decide, by decide⟩
  | 2, hn => cases hn; exact ⟨trivial, by decide, by decide, by decide⟩
  | 3, hn => cases hn; exact ⟨trivial, by decide, by decide, by decide⟩
def mLoop : Mx := fun k r => match k with | 0 => true | 1 => r != 1 | 2 => r == 2 | _ => false
theorem loop10 : Alive pLoop 1 0 := .use (to := 0) (by decide) (by decide)
theorem loop11 : ¬ Alive pLoop 1 1 := not_alive (R := 3) mLoop okLoop rfl (by decide) (by decide) (by decide) rfl
theorem loop01 : Alive pLoop 0 1 := .use (to := 1) (by decide) (by decide)
theorem loop00 : Alive pLoop 0 0 := .pass (to := 1) (by decide) (by decide) loop10
theorem loop12 : Alive pLoop 1 2 := .pass (to := 2) (by decide) (by decide) (.use (to := 3) (by decide) (by decide))
theorem loop02 : Alive pLoop 0 2 := .pass (to := 1) (by decide) (by decide) loop12
theorem loopA0 : AheadP pLoop (Alive pLoop) 0 0 := .inl (by decide)
theorem loopA1 : ¬ AheadP pLoop (Alive pLoop) 0 1 := by
  rintro (h | ⟨h, _⟩)
  · exact absurd h (by decide)
  · exact absurd rfl h
theorem loopA2 : AheadP pLoop (Alive pLoop) 0 2 := .inr ⟨by decide, loop02⟩
theorem row_b {l : List Bool} {A : Nat → Prop} {R : Nat} (hl : l.length = R) (h : ∀ r < R, (l[r]? = some true ↔ A r)) {r : Nat} (hr : r < R) {b : Bool} (hb : if b then A r else ¬ A r) : (l.map Value.bool)[((r : Nat) : Int).toNat]? = some (.bool b) := by
  obtain ⟨c, hc⟩ := ex_get (l := l) (j := r) (by omega)
  have := h r hr
  rw [hc] at this
  have : c = b := by
    cases b with
    | true => have := this.2 (by simpa using hb); simpa using this
    | false => cases c with
      | false => rfl
      | true => exact absurd (this.1 rfl) (by simpa using hb)
  simp [hc, this]

set_option maxHeartbeats 3200000 in
theorem LiveKnown_ok {w : World} : callD Try.prog 3 #[] w fun r w' => r = .bool true ∧ Ext w w' := by
  apply F3_wp
  unfold F3_den
  refine bld bd_23 [(0, i64 1), (1, i64 0)] rfl rfl (mki mi_23 ?_)
  refine bld bd_25 [(0, i64 1), (1, i64 0)] rfl rfl (mki mi_25 ?_)
  refine bld bd_27 [(0, i64 1)] rfl rfl (mki mi_27 ?_)
  refine bld bd_29 [(0, i64 2)] rfl rfl (mki mi_29 ?_)
  refine bsl xe_30 (pLoop.nodes.map (GNode.val (.slice none 0 0))) rfl rfl (by decide) rfl fun ns w1 ho x1 => ?_
  have hs := SliceIs.of_own ho
  obtain ⟨a, c, rfl⟩ := hs.shape
  refine bld bd_32 [(1, i64 3), (0, i64 1), (2, _)] rfl rfl ?_
  refine asB (by first | exact sa_23 | exact sa_25 | exact sa_27 | exact sa_29 | exact sa_32 | exact sa_35 | exact sa_40 | exact sa_43 | exact sa_46 | exact sa_50 | exact sa_59 | exact sa_65 | exact sa_74 | exact sa_76 | exact sa_78 | exact sa_80 | exact sa_82) rfl rfl fun b w2 hb x2 => ?_
  refine ldA hb la_32 rfl ?_
  have hp : ProgIs w2 (.agg #[i64 1, i64 3, .slice a (List.length pLoop.nodes) c]) pLoop := ⟨_, rfl, nodesAre_lit (l := pLoop.nodes) (hs.ext x2) rfl (by decide), by decide⟩
  refine (behind_ok (R := 3) hp okLoop rfl).mono fun r w3 ⟨⟨m, hm, ham⟩, x3⟩ => ?_
  refine ldA (hb.ext x3) la_32 rfl ?_
  refine (Ahead_ok (R := 3) (hp.ext x3) okLoop rfl).mono fun av w4 ⟨⟨l, hl, hav, hal⟩, x4⟩ => ?_
  refine known_ok.mono fun _ w5 ⟨hk, x5⟩ => ?_
  subst hk
  obtain ⟨cs, hcs, hrow⟩ := (hm.ext (x4.trans x5)).row (by decide) (by decide)
  obtain ⟨u0, hu0, hr0⟩ := hrow 0 (by decide)
  obtain ⟨u1, hu1, hr1⟩ := hrow 1 (by decide)
  have hat := fun {k r : Nat} (hk : k < 4) (hr : r < 3) {b : Bool} h => mat_b (p := pLoop) (N := 4) rfl ham hk hr (b := b) h
  have hra := fun {r : Nat} (hr : r < 3) {b : Bool} h => row_b hl hal hr (b := b) h
  have hav' := hav.ext x5
  unfold BoolsAre at hav' hr0 hr1
  rw [rowL_len] at hr0 hr1
  rw [hl] at hav'
  refine gLen (by first | exact xa_30 | exact xa_33 | exact xa_35 | exact xa_38) hcs (gd_t.2 (V_eqlI.2 (pickT ?_)))
  refine gLen (by first | exact xa_30 | exact xa_33 | exact xa_35 | exact xa_38) hav' (gd_t.2 (V_eqlI.2 (pickT ?_)))
  refine gRead (by first | exact xa_30 | exact xa_33 | exact xa_35 | exact xa_38) (by first | exact l1_3 | exact l1_30 | exact l1_33 | exact l1_35 | exact l1_38 | exact l1_4 | exact l1_56) (by first | exact xa_30 | exact xa_33 | exact xa_35 | exact xa_38) (by first | exact l1_3 | exact l1_30 | exact l1_33 | exact l1_35 | exact l1_38 | exact l1_4 | exact l1_56) hcs (by decide) (by decide) hu1 hr1 (by decide) (by decide) (hat (k := 1) (r := 0) (by decide) (by decide) (b := true) loop10) (pickT ?_)
  refine gRead (by first | exact xa_30 | exact xa_33 | exact xa_35 | exact xa_38) (by first | exact l1_3 | exact l1_30 | exact l1_33 | exact l1_35 | exact l1_38 | exact l1_4 | exact l1_56) (by first | exact xa_30 | exact xa_33 | exact xa_35 | exact xa_38) (by first | exact l1_3 | exact l1_30 | exact l1_33 | exact l1_35 | exact l1_38 | exact l1_4 | exact l1_56) hcs (by decide) (by decide) hu1 hr1 (by decide) (by decide) (hat (k := 1) (r := 1) (by decide) (by decide) (b := false) loop11) (gd_t.2 (V_not.2 (pickT ?_)))
  refine gRead (by first | exact xa_30 | exact xa_33 | exact xa_35 | exact xa_38) (by first | exact l1_3 | exact l1_30 | exact l1_33 | exact l1_35 | exact l1_38 | exact l1_4 | exact l1_56) (by first | exact xa_30 | exact xa_33 | exact xa_35 | exact xa_38) (by first | exact l1_3 | exact l1_30 | exact l1_33 | exact l1_35 | exact l1_38 | exact l1_4 | exact l1_56) hcs (by decide) (by decide) hu0 hr0 (by decide) (by decide) (hat (k := 0) (r := 1) (by decide) (by decide) (b := true) loop01) (pickT ?_)
  refine gRead (by first | exact xa_30 | exact xa_33 | exact xa_35 | exact xa_38) (by first | exact l1_3 | exact l1_30 | exact l1_33 | exact l1_35 | exact l1_38 | exact l1_4 | exact l1_56) (by first | exact xa_30 | exact xa_33 | exact xa_35 | exact xa_38) (by first | exact l1_3 | exact l1_30 | exact l1_33 | exact l1_35 | exact l1_38 | exact l1_4 | exact l1_56) hcs (by decide) (by decide) hu0 hr0 (by decide) (by decide) (hat (k := 0) (r := 0) (by decide) (by decide) (b := true) loop00) (pickT ?_)
  refine gRead (by first | exact xa_30 | exact xa_33 | exact xa_35 | exact xa_38) (by first | exact l1_3 | exact l1_30 | exact l1_33 | exact l1_35 | exact l1_38 | exact l1_4 | exact l1_56) (by first | exact xa_30 | exact xa_33 | exact xa_35 | exact xa_38) (by first | exact l1_3 | exact l1_30 | exact l1_33 | exact l1_35 | exact l1_38 | exact l1_4 | exact l1_56) hcs (by decide) (by decide) hu1 hr1 (by decide) (by decide) (hat (k := 1) (r := 2) (by decide) (by decide) (b := true) loop12) (pickT ?_)
  refine gRead1 (by first | exact xa_30 | exact xa_33 | exact xa_35 | exact xa_38) (by first | exact l1_3 | exact l1_30 | exact l1_33 | exact l1_35 | exact l1_38 | exact l1_4 | exact l1_56) hav' (by decide) (by decide) (hra (r := 0) (by decide) (b := true) loopA0) (pickT ?_)
  refine gRead1 (by first | exact xa_30 | exact xa_33 | exact xa_35 | exact xa_38) (by first | exact l1_3 | exact l1_30 | exact l1_33 | exact l1_35 | exact l1_38 | exact l1_4 | exact l1_56) hav' (by decide) (by decide) (hra (r := 1) (by decide) (b := false) loopA1) (gd_t.2 (V_not.2 (pickT ?_)))
  refine gRead1 (by first | exact xa_30 | exact xa_33 | exact xa_35 | exact xa_38) (by first | exact l1_3 | exact l1_30 | exact l1_33 | exact l1_35 | exact l1_38 | exact l1_4 | exact l1_56) hav' (by decide) (by decide) (hra (r := 2) (by decide) (b := true) loopA2) (pickT ?_)
  exact ⟨rfl, x1.trans (x2.trans (x3.trans (x4.trans x5)))⟩
end Go.Proofs.Ythefabgfjnkklaa
