/- The closed sentences of chapter 19. -/
import Derived.Test.YthefabgfjnkklaaLive6
namespace Go.Proofs.Ythefabgfjnkklaa
open Go.Vc

theorem not_alive {p : GProg} {R : Nat} (m : Mx) (hv : OkProg p) (hR : p.regs = R) (h : doneB p R m = true) {k r : Nat} (hk : k < p.nodes.length) (hr : r < R) (hm : m k r = false) : ¬ Alive p k r := fun ha => by
  have := alive_of_done rfl (fun i n hn => hR ▸ hv.nodes i n hn) (doneB_done h) ha hk hr
  rw [hm] at this; cases this
theorem nodesAre_lit {w : World} {v : Value} {l : List GNode} {vs : List Value} (h : SliceIs w v 1 vs.length vs) (hv : vs = l.map (GNode.val (.slice none 0 0))) (ha : ∀ n ∈ l, n.args = []) : NodesAre w v l := by
  subst hv
  refine ⟨_, by simpa using h, fun i n hn => ⟨n.val (.slice none 0 0), by simp [hn], _, rfl, ?_⟩⟩
  rw [ha n (List.mem_of_getElem? hn)]
  exact ⟨rfl, .inl ⟨rfl, rfl⟩⟩

def pKnown : GProg := ⟨0, 2, [.const 0 0, .ret 0]⟩
theorem okKnown : OkProg pKnown := by
  refine ⟨by decide, by decide, by decide, by decide, by decide, by decide, by decide, fun i n hn => ?_⟩
  match i, hn with
  | 0, hn => cases hn; exact ⟨trivial, by decide, by decide, by decide⟩
  | 1, hn => cases hn; exact ⟨trivial, by decide, by decide, by decide⟩

theorem mat_b {p : GProg} {m : Mx} {N R : Nat} (hN : p.nodes.length = N) (ham : ∀ k r, k < p.nodes.length → r < R → (m k r = true ↔ Alive p k r)) {k r : Nat} (hk : k < N) (hr : r < R) {b : Bool} (h : if b then Alive p k r else ¬ Alive p k r) :
    ((rowL m k R).map Value.bool)[((r : Nat) : Int).toNat]? = some (.bool b) := by
  have := ham k r (hN ▸ hk) hr
  have hb : m k r = b := by
    cases b with
    | true => exact this.2 (by simpa using h)
    | false => cases hm : m k r with
      | false => rfl
      | true => exact absurd (this.1 hm) (by simpa using h)
  simp [rowL_get hr, hb]

theorem a_known : Alive pKnown 0 0 ∧ ¬ Alive pKnown 0 1 ∧ ¬ Alive pKnown 1 0 :=
  ⟨.use (to := 1) (by decide) (by decide), not_alive (R := 2) (fun k r => k == 0 && r == 0) okKnown rfl (by decide) (by decide) (by decide) rfl, not_alive (R := 2) (fun k r => k == 0 && r == 0) okKnown rfl (by decide) (by decide) (by decide) rfl⟩

set_option maxHeartbeats 1600000 in
theorem known_ok {w : World} : callD Try.prog 8 #[] w fun r w' => r = .bool true ∧ Ext w w' := by
  apply F8_wp
  unfold F8_den
  refine bld bd_27 [(0, i64 0)] rfl rfl ?_
  refine mki mi_27 ?_
  refine bld bd_29 [(0, i64 0)] rfl rfl ?_
  refine mki mi_29 ?_
  refine bsl xe_30 [(GNode.const 0 0).val (.slice none 0 0), (GNode.ret 0).val (.slice none 0 0)] rfl rfl (by decide) rfl fun ns w1 ho x1 => ?_
  have hs := SliceIs.of_own ho
  obtain ⟨a, c, rfl⟩ := hs.shape
  refine bld bd_32 [(1, i64 2), (2, _)] rfl rfl ?_
  refine (behind_ok (p := pKnown) (R := 2) ⟨_, rfl, nodesAre_lit (l := pKnown.nodes) hs rfl (by decide), by decide⟩ okKnown rfl).mono fun r w2 ⟨⟨m, hm, ham⟩, x2⟩ => ?_
  obtain ⟨cs, hcs, hrow⟩ := hm.row (by decide) (by decide)
  obtain ⟨u0, hu0, hr0⟩ := hrow 0 (by decide)
  obtain ⟨u1, hu1, hr1⟩ := hrow 1 (by decide)
  have hat := fun {k r : Nat} (hk : k < 2) (hr : r < 2) {b : Bool} h => mat_b (p := pKnown) (N := 2) rfl ham hk hr (b := b) h
  refine lnx (by first | exact xa_30 | exact xa_33 | exact xa_35 | exact xa_38) hcs (V_eqlI.2 ?_)
  refine gRowLen (by first | exact xa_30 | exact xa_33 | exact xa_35 | exact xa_38) (by first | exact l1_3 | exact l1_30 | exact l1_33 | exact l1_35 | exact l1_38 | exact l1_4 | exact l1_56) (by first | exact xa_30 | exact xa_33 | exact xa_35 | exact xa_38) hcs (by decide) (by decide) hu0 hr0 (gd_t.2 (V_eqlI.2 ?_))
  rw [rowL_len]
  refine pickT ?_
  refine gRead (by first | exact xa_30 | exact xa_33 | exact xa_35 | exact xa_38) (by first | exact l1_3 | exact l1_30 | exact l1_33 | exact l1_35 | exact l1_38 | exact l1_4 | exact l1_56) (by first | exact xa_30 | exact xa_33 | exact xa_35 | exact xa_38) (by first | exact l1_3 | exact l1_30 | exact l1_33 | exact l1_35 | exact l1_38 | exact l1_4 | exact l1_56) hcs (by decide) (by decide) hu0 hr0 (by decide) (by rw [rowL_len]; decide) (hat (k := 0) (r := 0) (by decide) (by decide) (b := true) a_known.1) (pickT ?_)
  refine gRead (by first | exact xa_30 | exact xa_33 | exact xa_35 | exact xa_38) (by first | exact l1_3 | exact l1_30 | exact l1_33 | exact l1_35 | exact l1_38 | exact l1_4 | exact l1_56) (by first | exact xa_30 | exact xa_33 | exact xa_35 | exact xa_38) (by first | exact l1_3 | exact l1_30 | exact l1_33 | exact l1_35 | exact l1_38 | exact l1_4 | exact l1_56) hcs (by decide) (by decide) hu0 hr0 (by decide) (by rw [rowL_len]; decide) (hat (k := 0) (r := 1) (by decide) (by decide) (b := false) a_known.2.1) (gd_t.2 (V_not.2 (pickT ?_)))
  refine gRowLen (by first | exact xa_30 | exact xa_33 | exact xa_35 | exact xa_38) (by first | exact l1_3 | exact l1_30 | exact l1_33 | exact l1_35 | exact l1_38 | exact l1_4 | exact l1_56) (by first | exact xa_30 | exact xa_33 | exact xa_35 | exact xa_38) hcs (by decide) (by decide) hu1 hr1 (gd_t.2 (V_eqlI.2 ?_))
  rw [rowL_len]
  refine pickT ?_
  refine gRead (by first | exact xa_30 | exact xa_33 | exact xa_35 | exact xa_38) (by first | exact l1_3 | exact l1_30 | exact l1_33 | exact l1_35 | exact l1_38 | exact l1_4 | exact l1_56) (by first | exact xa_30 | exact xa_33 | exact xa_35 | exact xa_38) (by first | exact l1_3 | exact l1_30 | exact l1_33 | exact l1_35 | exact l1_38 | exact l1_4 | exact l1_56) hcs (by decide) (by decide) hu1 hr1 (by decide) (by rw [rowL_len]; decide) (hat (k := 1) (r := 0) (by decide) (by decide) (b := false) a_known.2.2) (gd_t.2 (V_not.2 (pickT ?_)))
  exact ⟨rfl, x1.trans x2⟩
end Go.Proofs.Ythefabgfjnkklaa
