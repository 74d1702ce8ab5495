/-
  What a law was given, opened: a slice of 68.
-/
import Derived.Test.YtkdcbidbciognaaOpen
import Derived.Test.YtkdcbidbciognaaChoose
import Derived.Deep.Fields
import Derived.ChangeSame
namespace Go.Proofs.Ytkdcbidbciognaa
set_option linter.unusedVariables false
set_option linter.unusedSimpArgs false
set_option maxRecDepth 20000
open Go.RowKit Go.ChangeShapes Go.WideShapes Go.Joins Go.Deep

structure OpTry where
  node : Int
  reach : Int
  yes : Int
  want : Int
def OpTry.vals (x : OpTry) : Array Value := #[.int .i64 x.node, .int .i64 x.reach, .int .i64 x.yes, .int .i64 x.want]
def OpTry.ok (x : OpTry) : Prop := (-9223372036854775808 ≤ x.node ∧ x.node ≤ 9223372036854775807) ∧ (-9223372036854775808 ≤ x.reach ∧ x.reach ≤ 9223372036854775807) ∧ (-9223372036854775808 ≤ x.yes ∧ x.yes ≤ 9223372036854775807) ∧ (-9223372036854775808 ≤ x.want ∧ x.want ≤ 9223372036854775807)
def SoTry (w : World) (A : Option Addr) (xs : List OpTry) : Prop :=
  ∀ (j : Nat) (x : OpTry), xs[j]? = some x → ∃ b o, A = some ⟨b, o, none⟩ ∧ (∀ t, t < 4 → w.cell? ⟨b, o + j * 4 + t, none⟩ = x.vals[t]?) ∧ x.ok
theorem SoTry.stay {w w' : World} {A : Option Addr} {xs : List OpTry} (h : SoTry w A xs) (hb : Below w.heap.size w w') : SoTry w' A xs := fun j x hj =>
  let ⟨b, o, e, c, r⟩ := h j x hj
  ⟨b, o, e, fun t ht => by
    have h1 := c t ht
    have h2 : ∃ v, x.vals[t]? = some v := ⟨x.vals[t]'(by show t < 4; exact ht), Array.getElem?_eq_getElem (by show t < 4; exact ht)⟩
    obtain ⟨v, hv⟩ := h2
    rw [hv] at h1 ⊢
    exact cell_stay hb h1, r⟩

theorem cells_Try_0 : Try.prog.cellsOf 68 = 4 := by kernel_rfl
theorem cells_Try_1 : Try.prog.cellsOf 3 = 1 := by kernel_rfl
theorem open_opTry {H : Type} {enc : TypeId × Value → H} {W : World} {fuel : Nat} {cs : List Value} {x : DataW H × List MemPlace} (h : DataW.trod enc Try.prog W 0 (fun _ => true) true fuel 68 cs = some x) :
    ∃ x : OpTry, cs = x.vals.toList ∧ x.ok := by
  obtain ⟨ys0, n0, _, _, hlen, hyl0, hf0⟩ := DataW.trod_struct Try.underlying68 h
  rw [cells_Try_0] at hlen
  obtain ⟨x0, x1, x2, x3, rfl⟩ : ∃ x0 x1 x2 x3, cs = [x0, x1, x2, x3] := by
    match cs, hlen with
    | [x0, x1, x2, x3], _ => exact ⟨_, _, _, _, rfl⟩
  obtain ⟨y0_0, y0_1, y0_2, y0_3, rfl⟩ : ∃ y0_0 y0_1 y0_2 y0_3, ys0 = [y0_0, y0_1, y0_2, y0_3] := by
    match ys0, hyl0 with
    | [y0_0, y0_1, y0_2, y0_3], _ => exact ⟨_, _, _, _, rfl⟩
  have g0_0 : DataW.trod enc Try.prog W 0 (fun _ => true) true n0 3 [x0] = some y0_0 := by
    have q : DataW.trod enc Try.prog W 0 (fun _ => true) true n0 3 (([x0, x1, x2, x3].drop 0).take (Try.prog.cellsOf 3)) = [y0_0, y0_1, y0_2, y0_3][0]? := hf0 0 _ rfl
    rw [cells_Try_1] at q
    exact q
  obtain ⟨node, e1, _, w1⟩ := DataW.trod_int Try.underlying3 g0_0
  have g0_1 : DataW.trod enc Try.prog W 0 (fun _ => true) true n0 3 [x1] = some y0_1 := by
    have q : DataW.trod enc Try.prog W 0 (fun _ => true) true n0 3 (([x0, x1, x2, x3].drop 1).take (Try.prog.cellsOf 3)) = [y0_0, y0_1, y0_2, y0_3][1]? := hf0 1 _ rfl
    rw [cells_Try_1] at q
    exact q
  obtain ⟨reach, e2, _, w2⟩ := DataW.trod_int Try.underlying3 g0_1
  have g0_2 : DataW.trod enc Try.prog W 0 (fun _ => true) true n0 3 [x2] = some y0_2 := by
    have q : DataW.trod enc Try.prog W 0 (fun _ => true) true n0 3 (([x0, x1, x2, x3].drop 2).take (Try.prog.cellsOf 3)) = [y0_0, y0_1, y0_2, y0_3][2]? := hf0 2 _ rfl
    rw [cells_Try_1] at q
    exact q
  obtain ⟨yes, e3, _, w3⟩ := DataW.trod_int Try.underlying3 g0_2
  have g0_3 : DataW.trod enc Try.prog W 0 (fun _ => true) true n0 3 [x3] = some y0_3 := by
    have q : DataW.trod enc Try.prog W 0 (fun _ => true) true n0 3 (([x0, x1, x2, x3].drop 3).take (Try.prog.cellsOf 3)) = [y0_0, y0_1, y0_2, y0_3][3]? := hf0 3 _ rfl
    rw [cells_Try_1] at q
    exact q
  obtain ⟨want, e4, _, w4⟩ := DataW.trod_int Try.underlying3 g0_3
  simp only [List.cons.injEq, and_true] at e1 e2 e3 e4
  subst e1 e2 e3 e4
  exact ⟨⟨node, reach, yes, want⟩, rfl, bounds_i64 w1, bounds_i64 w2, bounds_i64 w3, bounds_i64 w4⟩

theorem open_opsTry {H : Type} {enc : TypeId × Value → H} {W : World} {fuel : Nat} {cs : List Value} {x : DataW H × List MemPlace} (h : DataW.trod enc Try.prog W 0 (fun _ => true) true fuel 65 cs = some x) :
    ∃ (A : Option Addr) (l : List OpTry) (cap : Nat), cs = [.slice A l.length cap] ∧ l.length ≤ cap ∧ cap ≤ 9223372036854775807 ∧ SoTry W A l := by
  rcases open_slice Try.underlying65 h with ⟨rfl, _⟩ | ⟨a, len, cap, m, n, D, Pl, rfl, hb, hl, hm, hmm, hx, hi⟩
  · exact ⟨none, [], 0, rfl, by simp, by simp, fun j x hj => by simp at hj⟩
  · rw [cells_Try_0] at hi
    have hlm : len ≤ m := by rw [hmm]; split <;> omega
    have hall : ∀ j, j < len → ∃ x : OpTry, ∃ b o, some a = some ⟨b, o, none⟩ ∧ (∀ t, t < 4 → W.cell? ⟨b, o + j * 4 + t, none⟩ = x.vals[t]?) ∧ x.ok := fun j hj => by
      obtain ⟨cs', hc, ht⟩ := hi j (by omega)
      obtain ⟨x, hx1, hx2⟩ := open_opTry ht
      obtain ⟨_, hl1, hat⟩ := World.cells?_some hc
      obtain ⟨cs0, hc0, _⟩ := hi 0 (by omega)
      obtain ⟨_, hl0, hat0⟩ := World.cells?_some hc0
      have h0 := hat0 (i := 0) (by omega)
      obtain ⟨b, o, f⟩ := a
      have hspot : f = none := by
        have hv : cs0[0]? = some (cs0[0]'(by omega)) := List.getElem?_eq_getElem (by omega)
        rw [hv] at h0
        simpa [Addr.add] using World.cell?_spot h0
      subst hspot
      refine ⟨x, b, o, rfl, fun t ht => ?_, hx2⟩
      have h1 := hat (i := t) (by omega)
      rw [Go.WideShapes.add_plain, Go.WideShapes.add_plain, hx1] at h1
      rw [h1, Array.getElem?_toList]
    obtain ⟨l, hl2, hq⟩ := list_choose len hall
    subst hl2
    exact ⟨some a, l, cap, rfl, hl, by unfold maxLen at hm; omega, hq⟩
end Go.Proofs.Ytkdcbidbciognaa
