/-
  A region that draws its order, walked in the text's order where what is made later is read later still: the condition on the world is 'all that is here stays', and it moves on with the world.
-/
import Derived.Deep.RegionHeld3
import Derived.Test.YtkdcbidbciognaaBase
namespace Go.Proofs.Ytkdcbidbciognaa
set_option linter.unusedVariables false
set_option linter.unusedSimpArgs false
open Go.RowKit
section
variable {P : Program} {ops : Array Oper} {Q : Exit → Act → World → Prop} {md : Region.Mode} {S S' : World → Prop}
theorem wpAnyH_weak (h : ∀ w, S' w → S w) : ∀ (fuel : Nat) (listed : Array Bool) (a : Act) (w : World), wpAnyH P md ops Q S' fuel listed a w → wpAnyH P md ops Q S fuel listed a w
  | 0, _, _, _, H => H
  | fuel + 1, listed, a, w, H => ⟨H.1, fun i hi => wpOp_mono (fun a' w' h' => ⟨h _ h'.1, wpAnyH_weak h fuel _ a' w' h'.2⟩) (H.2 i hi)⟩

/-- all that is in w stays -/
def Ext (w W : World) : Prop := Below w.heap.size w W
theorem Ext.refl (w : World) : Ext w w := Below.refl _ _
theorem Ext.trans {w w1 w2 : World} (h : Ext w w1) (h' : Ext w1 w2) : Ext w w2 := Below.step h h'
theorem Ext.drewR {w w1 : World} (h : Ext w w1) : Ext w w1.drew := Below.drew h
theorem Ext.alloc (w : World) (o : Obj) : Ext w (w.alloc o) := (Below.refl _ _).alloc (Nat.le_refl _) _
theorem Ext.drewN {w w1 : World} {n : Nat} (h : Ext w w1) : Ext w (w1.drewN n) := by
  refine Below.trans h ?_
  induction n with
  | zero => exact Below.refl _ _
  | succ n ih => exact ih.drew

theorem op_at {i : Nat} {oi : Oper} {rs : List Oper} (h : ops.toList.drop i = oi :: rs) : ops[i]? = some oi := by
  rw [← Array.getElem?_toList]
  have := congrArg (fun l => l[0]?) h
  simpa using this
theorem ext_begin {id : Nat} {a : Act} {w : World} (hm : P.follows .mixedOrders = true) (h : wpAnyH P .any ops Q (Ext w.drew) ops.size (Array.replicate ops.size false) a w.drew) : (Code.region id ops true).wp P Q a w :=
  wp_region_held_drew hm (Ext.refl _) (fun _ => h)

theorem ext_take {i : Nat} {oi : Oper} {rs : List Oper} {v : Value} {fuel : Nat} {listed : Array Bool} {a : Act} {w : World} (hd : ops.toList.drop i = oi :: rs)
    (hs : Region.noSelect ops = true) (hf : Region.free md ops listed i = true) (hr : (Region.ready md ops listed).contains i = true)
    (hQ : ∀ c a w, Q (.panic c) (a.put oi.dst v) w → Q (.panic c) a w) (hw : Region.wanted oi (yielded ops a.tmps) = true) (hy : ∀ W, Ext w W → (execOp a.eval oi).run P W = .ok (.value v) W)
    (h : wpAnyH P md ops Q (Ext w) fuel (listed.setIfInBounds i true) (a.put oi.dst v) w) : wpAnyH P md ops Q (Ext w) (fuel + 1) listed a w :=
  wpAnyH_take (op_at hd) hs hf hr hQ (.inl ⟨hw, hy⟩) (Ext.refl _) h
theorem ext_skip {i : Nat} {oi : Oper} {rs : List Oper} {fuel : Nat} {listed : Array Bool} {a : Act} {w : World} (hd : ops.toList.drop i = oi :: rs)
    (hs : Region.noSelect ops = true) (hf : Region.free md ops listed i = true) (hr : (Region.ready md ops listed).contains i = true)
    (hQ : ∀ c a w, Q (.panic c) (a.put oi.dst undef) w → Q (.panic c) a w) (hw : Region.wanted oi (yielded ops a.tmps) = false)
    (h : wpAnyH P md ops Q (Ext w) fuel (listed.setIfInBounds i true) (a.put oi.dst undef) w) : wpAnyH P md ops Q (Ext w) (fuel + 1) listed a w :=
  wpAnyH_take (op_at hd) hs hf hr hQ (.inr ⟨hw, rfl⟩) (Ext.refl _) h
/-- a call of a Go function, when no other operation can come up -/
theorem ext_call {i : Nat} {oi : Oper} {rs : List Oper} {fuel : Nat} {listed : Array Bool} {a : Act} {w : World} (hd : ops.toList.drop i = oi :: rs) (hr : Region.ready md ops listed = [i]) (hw : Region.wanted oi (yielded ops a.tmps) = true)
    (h : ∀ K : Act → World → Prop, (∀ a' w', Ext w w' → wpAnyH P md ops Q (Ext w') fuel (listed.setIfInBounds i true) a' w' → K a' w') → Oper.wp P oi a w K Q) : wpAnyH P md ops Q (Ext w) (fuel + 1) listed a w := by
  refine wpAnyH_ready hr (by simp) (AllReadyH.cons (op_at hd) (fun K hK => ?_) AllReadyH.nil)
  rw [if_pos hw]
  exact h K fun a' w' he hn => hK.out a' w' he (fun _ => wpAnyH_weak (fun W h => Ext.trans he h) _ _ _ _ hn)
end
end Go.Proofs.Ytkdcbidbciognaa
