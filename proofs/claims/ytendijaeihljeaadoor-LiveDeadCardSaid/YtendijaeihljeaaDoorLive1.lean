/- Package live: what is alive ahead of a node. -/
import Derived.Test.YtendijaeihljeaaDoorIr2
namespace Go.Proofs.YtendijaeihljeaaDoor
open Go.Vc

/-- Ahead of a node, of what is alive behind it. -/
def killL (d : Int) (bs : List Bool) : List Bool := if 0 ≤ d then bs.set d.toNat false else bs
def aheadL (n : GNode) (bs : List Bool) : List Bool := n.us.foldl (fun a r => a.set r.toNat true) (killL n.df bs)
theorem killL_len (d : Int) (bs : List Bool) : (killL d bs).length = bs.length := by unfold killL; split <;> simp
theorem foldSet_len (l : List Int) (bs : List Bool) : (l.foldl (fun a r => a.set r.toNat true) bs).length = bs.length := by
  induction l generalizing bs with
  | nil => rfl
  | cons x l ih => simp [ih]
theorem aheadL_len (n : GNode) (bs : List Bool) : (aheadL n bs).length = bs.length := by unfold aheadL; rw [foldSet_len, killL_len]
theorem map_set_b (bs : List Bool) (i : Nat) (b : Bool) : (bs.map Value.bool).set i (.bool b) = (bs.set i b).map Value.bool := by rw [List.map_set]

theorem ahead_ok {n : GNode} {nv bv : Value} {bs : List Bool} {w : World} (hn : NodeIs w nv n) (hb : BoolsAre w bv bs) (hl : n.args.length ≤ 4294967296) (hbl : bs.length ≤ 4294967296)
    (hd : n.df < bs.length) (hu : ∀ r ∈ n.us, 0 ≤ r ∧ r < bs.length) :
    callD Tryd.prog 20 #[nv, bv] w fun r w' => w'.ownsRow w.heap.size 4 1 r bs.length ((aheadL n bs).map Value.bool) ∧ Ext w w' := by
  apply F20_wp
  unfold F20_den
  refine (clone_bool hb hbl).mono fun ov w1 ⟨ho, x1⟩ => ?_
  refine ⟨fun w' => w'.ownsRow w.heap.size 4 1 ov bs.length ((killL n.df bs).map Value.bool) ∧ Ext w w', ?_, ?_⟩
  · refine (def_ok (hn.ext x1)).mono fun r w2 ⟨hr, x2⟩ => ?_
    subst hr
    refine V_geq.2 (ifD_dec (fun hge => ?_) fun hlt => ?_)
    · have hge' : 0 ≤ n.df := hge
      refine stO (by first | exact xa_22 | exact xa_23 | exact xa_24 | exact xa_28 | exact xa_35 | exact xa_42 | exact xa_58) inf4 (x2.own ho) hge' hd rfl fun w3 ho3 hg => ?_
      rw [map_set_b] at ho3
      refine ⟨?_, (x1.trans x2).grown hg fun k hk => ((x2.own ho).lt k hk).1⟩
      unfold killL
      rw [if_pos hge']
      exact ho3
    · refine ⟨?_, x1.trans x2⟩
      unfold killL
      rw [if_neg (by simpa using hlt)]
      exact x2.own ho
  rintro w2 ⟨ho2, x2⟩ _
  refine (uses_ok (hn.ext x2) hl).mono fun ul w3 ⟨hus, x3⟩ => ?_
  have hlen := us_len n
  have hov : ∀ k, ov.ownBlock = some k → k < w2.heap.size := fun k hk => (ho2.lt k hk).2
  refine lnx (by first | exact xa_22 | exact xa_23 | exact xa_24 | exact xa_28 | exact xa_35 | exact xa_42 | exact xa_58) (SliceIs.of_own hus) ?_
  refine ⟨fun v w' => ∃ j : Nat, v = i64 j ∧ j ≤ n.us.length ∧ Ext w w' ∧ w'.ownsRow w2.heap.size 3 1 ul n.us.length (n.us.map i64) ∧ w'.ownsRow w.heap.size 4 1 ov bs.length (((n.us.take j).foldl (fun a r => a.set r.toNat true) (killL n.df bs)).map Value.bool),
    fun v _ => n.us.length - (RowKit.intOf v).toNat, ⟨0, rfl, by omega, x2.trans x3, hus, by simpa using x3.own ho2⟩, ?_⟩
  rintro _ w4 ⟨j, rfl, hj, x4, hus4, ho4⟩ _
  refine V_lss.2 (ifD_dec (fun hlt => ?_) fun hge => ?_)
  · have hlt' : j < n.us.length := by omega
    obtain ⟨u, hu'⟩ := ex_get hlt'
    obtain ⟨hu0, hu1⟩ := hu u (List.mem_of_getElem? hu')
    refine ldO' (by first | exact xa_22 | exact xa_23 | exact xa_24 | exact xa_28 | exact xa_35 | exact xa_42 | exact xa_58) (by first | exact l1_21 | exact l1_24 | exact l1_28 | exact l1_3 | exact l1_35 | exact l1_4 | exact l1_42 | exact l1_52 | exact l1_58) hus4 (by omega) (by omega) (getI hu') ?_
    refine stO (by first | exact xa_22 | exact xa_23 | exact xa_24 | exact xa_28 | exact xa_35 | exact xa_42 | exact xa_58) inf4 ho4 hu0 (by omega) rfl fun w5 ho5 hg => ?_
    refine V_add.2 ?_
    rw [wrap_id (by omega) (by omega), i64_succ]
    rw [map_set_b] at ho5
    refine ⟨⟨j + 1, rfl, by omega, x4.grown hg fun k hk => (ho4.lt k hk).1, hus4.kept hg (own_ne hus4 hov), ?_⟩, by simp only [intOf_i64]; omega⟩
    rw [List.take_add_one, hu']
    simpa using ho5
  · have hju : j = n.us.length := by omega
    subst hju
    rw [List.take_length] at ho4
    exact ⟨ho4, x4⟩
end Go.Proofs.YtendijaeihljeaaDoor
