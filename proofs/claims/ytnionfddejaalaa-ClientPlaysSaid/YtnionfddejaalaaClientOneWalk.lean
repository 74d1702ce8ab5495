/-
  The walk of the law ClientOne.
-/
import Derived.Test.YtnionfddejaalaaTold21
import Derived.Test.YtnionfddejaalaaOpenOps21
namespace Go.Proofs.Ytnionfddejaalaa
set_option linter.unusedVariables false
set_option linter.unusedSimpArgs false
open Go.RowKit Go.ChangeShapes Go.WideShapes

theorem may_len {ep : Int} {l : List Int} (h : mayChainB ep l = true) : l.length ≤ 5 := by
  unfold mayChainB at h
  rw [Bool.and_eq_true, Bool.and_eq_true] at h
  have := of_decide_eq_true h.1.2
  omega
/-- the client as it stands at the loop's head -/
def One (w wr : World) (P : Nat) (sq : Int) (bv : Bool) (j : Nat) : Prop :=
  ∃ (ep : Int) (ns : List Int) (p : Option Pd), ClAt w.heap.size wr P ⟨0, 3, sq, ep, ns, p⟩ ∧ Kt w.heap.size w wr ∧ ns.length ≤ 5 ∧ 0 ≤ sq ∧ sq ≤ j ∧
    ((p = none ∧ bv = false) ∨ (∃ (k i m : Int) (d : ByteArray) (ak tr : Int), p = some ⟨0, sq, k, i, m, d, ak, tr⟩ ∧ bv = true ∧ (1 ≤ tr ∧ tr ≤ j) ∧ ak ≤ 9223372036854775807))
theorem One.drewN {w wr : World} {P : Nat} {sq : Int} {bv : Bool} {j n : Nat} (h : One w wr P sq bv j) : One w (wr.drewN n) P sq bv j := by
  obtain ⟨ep, ns, p, h1, h2, h3⟩ := h
  have hx : Ext wr (wr.drewN n) := (Ext.refl _).drewN
  exact ⟨ep, ns, p, h1.stay hx, h2.trans (Kt.ext hx h1.lt), h3⟩

end Go.Proofs.Ytnionfddejaalaa
