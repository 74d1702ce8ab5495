/-
  The walk of the law ChainKeeps.
-/
import Derived.Test.YtkdcbidbciognaaChPlain
import Derived.Test.YtkdcbidbciognaaOpen
namespace Go.Proofs.Ytkdcbidbciognaa
set_option linter.unusedVariables false
set_option linter.unusedSimpArgs false
open Go.RowKit Go.ChangeShapes Go.WideShapes

/-- between two rounds: x stands in both, and it is the one from which to look on -/
def KpO (la lb : List Int) (node x last : Int) : Prop := x ∈ la ∧ x ∈ lb ∧ 0 ≤ x ∧ (last = -2 ∧ x = node ∨ 0 ≤ last ∧ last = x)
/-- in the inner loop: y stands m places above x, still behind z; or z was found -/
def KpI (la : List Int) (z x y : Int) (f : Bool) (m : Nat) : Prop := f = false → y ∈ la ∧ 0 ≤ y ∧ idx y la 0 = idx x la 0 - m ∧ idx z la 0 < idx y la 0
/-- all that is known of two chains that follow one another -/
structure Foll (la lb : List Int) : Prop where
  na : la.Nodup
  nb : lb.Nodup
  la5 : la.length ≤ 5
  pa : ∀ x ∈ la, 0 ≤ x ∧ x ≤ 4
  pb : ∀ x ∈ lb, 0 ≤ x ∧ x ≤ 4
  nx : nextL la lb 0 0 = true
theorem KpO.step {la lb : List Int} (F : Foll la lb) {node x last : Int} (h : KpO la lb node x last) :
    (besideI lb x (-1) = -1) ∨ (besideI lb x (-1) ∈ la ∧ besideI lb x (-1) ∈ lb ∧ 0 ≤ besideI lb x (-1) ∧ idx (besideI lb x (-1)) la 0 < idx x la 0) := by
  obtain ⟨h1, h2, h3, _⟩ := h
  obtain ⟨j, hj, e, rfl⟩ := idx_some F.nb h2
  obtain ⟨g1, g2, g3⟩ := nextL_steps la lb 0 0 (by omega) F.nx
  rw [above_at F.nb j hj]
  split
  · rename_i hp
    right
    have k1 := g1 (j - 1) (by omega) (by omega)
    have k2 := g3 (j - 1) (by omega)
    have ej : j - 1 + 1 = j := by omega
    have k3 := k2 (by simp only [ej]; exact (idx_ge _ la 0 (by omega)).2 h1)
    simp only [ej] at k3
    exact ⟨(idx_ge _ la 0 (by omega)).1 k1, List.getElem_mem _, (F.pb _ (List.getElem_mem _)).1, k3⟩
  · exact .inl rfl
theorem KpI.start {la : List Int} {z x : Int} (hx : x ∈ la) (h0 : 0 ≤ x) (h : idx z la 0 < idx x la 0) : KpI la z x x false 0 := fun _ => ⟨hx, h0, by omega, h⟩
theorem KpI.step {la lb : List Int} (F : Foll la lb) {z x y : Int} {m : Nat} (hz : z ∈ la) (h : KpI la z x y false m) (hne : ¬ besideI la y (-1) = z) : KpI la z x (besideI la y (-1)) false (m + 1) := by
  obtain ⟨h1, h2, h3, h4⟩ := h rfl
  obtain ⟨j, hj, e, rfl⟩ := idx_some F.na h1
  obtain ⟨i, hi, e2, rfl⟩ := idx_some F.na hz
  rw [above_at F.na j hj] at hne ⊢
  have hp : 0 < j := by omega
  rw [dif_pos hp] at hne ⊢
  have e3 := idx_get la 0 (j - 1) (by omega) F.na
  have hij : i ≠ j - 1 := fun e => by subst e; exact hne rfl
  exact fun _ => ⟨List.getElem_mem _, (F.pa _ (List.getElem_mem _)).1, by omega, by omega⟩
theorem KpI.fin {la lb : List Int} (F : Foll la lb) {z x y : Int} {f : Bool} {m : Nat} (hz : z ∈ la) (hx : x ∈ la) (h : KpI la z x y f m) (hm : 6 ≤ m ∨ y < 0) : f = true := by
  cases f
  · obtain ⟨h1, h2, h3, h4⟩ := h rfl
    obtain ⟨j, hj, e, rfl⟩ := idx_some F.na hx
    obtain ⟨i, hi, e2, rfl⟩ := idx_some F.na hz
    have := F.la5
    omega
  · rfl

end Go.Proofs.Ytkdcbidbciognaa
