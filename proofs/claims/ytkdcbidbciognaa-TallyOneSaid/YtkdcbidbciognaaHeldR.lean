/-
  A region that draws its order, walked in an order of ours, where blocks of a set s may turn on the way: the condition on the world is 'all that is here stays, but blocks of s'.
-/
import Derived.Test.YtkdcbidbciognaaHeld
import Derived.Test.YtkdcbidbciognaaFrm
namespace Go.Proofs.Ytkdcbidbciognaa
set_option linter.unusedVariables false
set_option linter.unusedSimpArgs false
open Go.RowKit
section
variable {P : Program} {ops : Array Oper} {Q : Exit → Act → World → Prop} {md : Region.Mode} {s : Nat → Prop}
theorem Frm.tr {w w1 w2 : World} (h : Frm s w w1) (h' : Frm s w1 w2) : Frm s w w2 := h.trans h' (fun _ _ h => h)
theorem rx_begin {id : Nat} {a : Act} {w : World} (s : Nat → Prop) (hm : P.follows .mixedOrders = true) (h : wpAnyH P .any ops Q (Frm s w.drew) ops.size (Array.replicate ops.size false) a w.drew) : (Code.region id ops true).wp P Q a w :=
  wp_region_held_drew hm (Frm.refl _ _) (fun _ => h)
theorem rx_take {i : Nat} {oi : Oper} {rs : List Oper} {v : Value} {fuel : Nat} {listed : Array Bool} {a : Act} {w : World} (hd : ops.toList.drop i = oi :: rs)
    (hs : Region.noSelect ops = true) (hf : Region.free md ops listed i = true) (hr : (Region.ready md ops listed).contains i = true)
    (hQ : ∀ c a w, Q (.panic c) (a.put oi.dst v) w → Q (.panic c) a w) (hw : Region.wanted oi (yielded ops a.tmps) = true) (hy : ∀ W, Frm s w W → (execOp a.eval oi).run P W = .ok (.value v) W)
    (h : wpAnyH P md ops Q (Frm s w) fuel (listed.setIfInBounds i true) (a.put oi.dst v) w) : wpAnyH P md ops Q (Frm s w) (fuel + 1) listed a w :=
  wpAnyH_take (op_at hd) hs hf hr hQ (.inl ⟨hw, hy⟩) (Frm.refl _ _) h
theorem rx_skip {i : Nat} {oi : Oper} {rs : List Oper} {fuel : Nat} {listed : Array Bool} {a : Act} {w : World} (hd : ops.toList.drop i = oi :: rs)
    (hs : Region.noSelect ops = true) (hf : Region.free md ops listed i = true) (hr : (Region.ready md ops listed).contains i = true)
    (hQ : ∀ c a w, Q (.panic c) (a.put oi.dst undef) w → Q (.panic c) a w) (hw : Region.wanted oi (yielded ops a.tmps) = false)
    (h : wpAnyH P md ops Q (Frm s w) fuel (listed.setIfInBounds i true) (a.put oi.dst undef) w) : wpAnyH P md ops Q (Frm s w) (fuel + 1) listed a w :=
  wpAnyH_take (op_at hd) hs hf hr hQ (.inr ⟨hw, rfl⟩) (Frm.refl _ _) h
theorem rx_call {i : Nat} {oi : Oper} {rs : List Oper} {fuel : Nat} {listed : Array Bool} {a : Act} {w : World} (hd : ops.toList.drop i = oi :: rs) (hr : Region.ready md ops listed = [i]) (hw : Region.wanted oi (yielded ops a.tmps) = true)
    (h : ∀ K : Act → World → Prop, (∀ a' w', Frm s w w' → wpAnyH P md ops Q (Frm s w') fuel (listed.setIfInBounds i true) a' w' → K a' w') → Oper.wp P oi a w K Q) : wpAnyH P md ops Q (Frm s w) (fuel + 1) listed a w := by
  refine wpAnyH_ready hr (by simp) (AllReadyH.cons (op_at hd) (fun K hK => ?_) AllReadyH.nil)
  rw [if_pos hw]
  exact h K fun a' w' he hn => hK.out a' w' he (fun _ => wpAnyH_weak (fun W h => Frm.tr he h) _ _ _ _ hn)
/-- two that may come up, either of them first -/
theorem rx_two {i j : Nat} {oi oj : Oper} {rs rs' : List Oper} {fuel : Nat} {listed : Array Bool} {a : Act} {w : World} (hd : ops.toList.drop i = oi :: rs) (hd' : ops.toList.drop j = oj :: rs') (hr : Region.ready md ops listed = [i, j])
    (hw : Region.wanted oi (yielded ops a.tmps) = true) (hw' : Region.wanted oj (yielded ops a.tmps) = true)
    (h : ∀ K : Act → World → Prop, (∀ a' w', Frm s w w' → wpAnyH P md ops Q (Frm s w') fuel (listed.setIfInBounds i true) a' w' → K a' w') → Oper.wp P oi a w K Q)
    (h' : ∀ K : Act → World → Prop, (∀ a' w', Frm s w w' → wpAnyH P md ops Q (Frm s w') fuel (listed.setIfInBounds j true) a' w' → K a' w') → Oper.wp P oj a w K Q) : wpAnyH P md ops Q (Frm s w) (fuel + 1) listed a w := by
  refine wpAnyH_ready hr (by simp) (AllReadyH.cons (op_at hd) (fun K hK => ?_) (AllReadyH.cons (op_at hd') (fun K hK => ?_) AllReadyH.nil))
  · rw [if_pos hw]
    exact h K fun a' w' he hn => hK.out a' w' he (fun _ => wpAnyH_weak (fun W h => Frm.tr he h) _ _ _ _ hn)
  · rw [if_pos hw']
    exact h' K fun a' w' he hn => hK.out a' w' he (fun _ => wpAnyH_weak (fun W h => Frm.tr he h) _ _ _ _ hn)
end
end Go.Proofs.Ytkdcbidbciognaa
