/-
  What a law was given, opened: a slice of 59.
-/
import Derived.Test.YtkdcbidbciognaaM1
import Derived.Test.YtkdcbidbciognaaChoose
import Derived.Deep.Fields
import Derived.ChangeSame
namespace Go.Proofs.Ytkdcbidbciognaa
set_option linter.unusedVariables false
set_option linter.unusedSimpArgs false
set_option maxRecDepth 20000
open Go.RowKit Go.ChangeShapes Go.WideShapes Go.Joins Go.Deep

structure Op13 where
  kind : Int
  ep0 : Int
  br : Int
  bn : Int
  ep : Int
  A : Option Addr
  cap : Nat
  l : List Int
  veto : Bool
def Op13.vals (x : Op13) : Array Value := #[.int .i64 x.kind, .int .i64 x.ep0, .int .i64 x.br, .int .i64 x.bn, .int .i64 x.ep, .slice x.A x.l.length x.cap, .bool x.veto]
def Op13.ok (x : Op13) : Prop := (-9223372036854775808 ≤ x.ep0 ∧ x.ep0 ≤ 9223372036854775807) ∧ (-9223372036854775808 ≤ x.br ∧ x.br ≤ 9223372036854775807) ∧ (-9223372036854775808 ≤ x.bn ∧ x.bn ≤ 9223372036854775807) ∧ (-9223372036854775808 ≤ x.ep ∧ x.ep ≤ 9223372036854775807) ∧ x.l.length ≤ x.cap ∧ x.cap ≤ 9223372036854775807
def So13 (w : World) (A : Option Addr) (xs : List Op13) : Prop :=
  ∀ (j : Nat) (x : Op13), xs[j]? = some x → ∃ b o, A = some ⟨b, o, none⟩ ∧ (∀ t, t < 7 → w.cell? ⟨b, o + j * 7 + t, none⟩ = x.vals[t]?) ∧ Sl i64 w x.A x.l ∧ x.ok
theorem So13.stay {w w' : World} {A : Option Addr} {xs : List Op13} (h : So13 w A xs) (hb : Below w.heap.size w w') : So13 w' A xs := fun j x hj =>
  let ⟨b, o, e, c, s0, r⟩ := h j x hj
  ⟨b, o, e, fun t ht => by
    have h1 := c t ht
    have h2 : ∃ v, x.vals[t]? = some v := ⟨x.vals[t]'(by show t < 7; exact ht), Array.getElem?_eq_getElem (by show t < 7; exact ht)⟩
    obtain ⟨v, hv⟩ := h2
    rw [hv] at h1 ⊢
    exact cell_stay hb h1, s0.stay hb, r⟩

theorem cells_13_0 : Try.prog.cellsOf 59 = 7 := by kernel_rfl
theorem cells_13_1 : Try.prog.cellsOf 3 = 1 := by kernel_rfl
theorem cells_13_2 : Try.prog.cellsOf 23 = 2 := by kernel_rfl
theorem cells_13_3 : Try.prog.cellsOf 26 = 2 := by kernel_rfl
theorem cells_13_4 : Try.prog.cellsOf 24 = 1 := by kernel_rfl
theorem cells_13_5 : Try.prog.cellsOf 4 = 1 := by kernel_rfl
theorem open_op13 {H : Type} {enc : TypeId × Value → H} {W : World} {fuel : Nat} {cs : List Value} {x : DataW H × List MemPlace} (h : DataW.trod enc Try.prog W 0 (fun _ => true) true fuel 59 cs = some x) :
    ∃ x : Op13, cs = x.vals.toList ∧ Sl i64 W x.A x.l ∧ x.ok := by
  obtain ⟨ys0, n0, _, _, hlen, hyl0, hf0⟩ := DataW.trod_struct Try.underlying59 h
  rw [cells_13_0] at hlen
  obtain ⟨x0, x1, x2, x3, x4, x5, x6, rfl⟩ : ∃ x0 x1 x2 x3 x4 x5 x6, cs = [x0, x1, x2, x3, x4, x5, x6] := by
    match cs, hlen with
    | [x0, x1, x2, x3, x4, x5, x6], _ => exact ⟨_, _, _, _, _, _, _, rfl⟩
  obtain ⟨y0_0, y0_1, y0_2, y0_3, y0_4, rfl⟩ : ∃ y0_0 y0_1 y0_2 y0_3 y0_4, ys0 = [y0_0, y0_1, y0_2, y0_3, y0_4] := by
    match ys0, hyl0 with
    | [y0_0, y0_1, y0_2, y0_3, y0_4], _ => exact ⟨_, _, _, _, _, rfl⟩
  have g0_0 : DataW.trod enc Try.prog W 0 (fun _ => true) true n0 3 [x0] = some y0_0 := by
    have q : DataW.trod enc Try.prog W 0 (fun _ => true) true n0 3 (([x0, x1, x2, x3, x4, x5, x6].drop 0).take (Try.prog.cellsOf 3)) = [y0_0, y0_1, y0_2, y0_3, y0_4][0]? := hf0 0 _ rfl
    rw [cells_13_1] at q
    exact q
  obtain ⟨kind, e1, _, w1⟩ := DataW.trod_int Try.underlying3 g0_0
  have g0_1 : DataW.trod enc Try.prog W 0 (fun _ => true) true n0 3 [x1] = some y0_1 := by
    have q : DataW.trod enc Try.prog W 0 (fun _ => true) true n0 3 (([x0, x1, x2, x3, x4, x5, x6].drop 1).take (Try.prog.cellsOf 3)) = [y0_0, y0_1, y0_2, y0_3, y0_4][1]? := hf0 1 _ rfl
    rw [cells_13_1] at q
    exact q
  obtain ⟨ep0, e2, _, w2⟩ := DataW.trod_int Try.underlying3 g0_1
  have g0_2 : DataW.trod enc Try.prog W 0 (fun _ => true) true n0 23 [x2, x3] = some y0_2 := by
    have q : DataW.trod enc Try.prog W 0 (fun _ => true) true n0 23 (([x0, x1, x2, x3, x4, x5, x6].drop 2).take (Try.prog.cellsOf 23)) = [y0_0, y0_1, y0_2, y0_3, y0_4][2]? := hf0 2 _ rfl
    rw [cells_13_2] at q
    exact q
  obtain ⟨ys3, n3, _, _, _, hyl3, hf3⟩ := DataW.trod_struct Try.underlying23 g0_2
  obtain ⟨y3_0, y3_1, rfl⟩ : ∃ y3_0 y3_1, ys3 = [y3_0, y3_1] := by
    match ys3, hyl3 with
    | [y3_0, y3_1], _ => exact ⟨_, _, rfl⟩
  have g3_0 : DataW.trod enc Try.prog W 0 (fun _ => true) true n3 3 [x2] = some y3_0 := by
    have q : DataW.trod enc Try.prog W 0 (fun _ => true) true n3 3 (([x2, x3].drop 0).take (Try.prog.cellsOf 3)) = [y3_0, y3_1][0]? := hf3 0 _ rfl
    rw [cells_13_1] at q
    exact q
  obtain ⟨br, e4, _, w4⟩ := DataW.trod_int Try.underlying3 g3_0
  have g3_1 : DataW.trod enc Try.prog W 0 (fun _ => true) true n3 3 [x3] = some y3_1 := by
    have q : DataW.trod enc Try.prog W 0 (fun _ => true) true n3 3 (([x2, x3].drop 1).take (Try.prog.cellsOf 3)) = [y3_0, y3_1][1]? := hf3 1 _ rfl
    rw [cells_13_1] at q
    exact q
  obtain ⟨bn, e5, _, w5⟩ := DataW.trod_int Try.underlying3 g3_1
  have g0_3 : DataW.trod enc Try.prog W 0 (fun _ => true) true n0 26 [x4, x5] = some y0_3 := by
    have q : DataW.trod enc Try.prog W 0 (fun _ => true) true n0 26 (([x0, x1, x2, x3, x4, x5, x6].drop 4).take (Try.prog.cellsOf 26)) = [y0_0, y0_1, y0_2, y0_3, y0_4][3]? := hf0 3 _ rfl
    rw [cells_13_3] at q
    exact q
  obtain ⟨ys6, n6, _, _, _, hyl6, hf6⟩ := DataW.trod_struct Try.underlying26 g0_3
  obtain ⟨y6_0, y6_1, rfl⟩ : ∃ y6_0 y6_1, ys6 = [y6_0, y6_1] := by
    match ys6, hyl6 with
    | [y6_0, y6_1], _ => exact ⟨_, _, rfl⟩
  have g6_0 : DataW.trod enc Try.prog W 0 (fun _ => true) true n6 3 [x4] = some y6_0 := by
    have q : DataW.trod enc Try.prog W 0 (fun _ => true) true n6 3 (([x4, x5].drop 0).take (Try.prog.cellsOf 3)) = [y6_0, y6_1][0]? := hf6 0 _ rfl
    rw [cells_13_1] at q
    exact q
  obtain ⟨ep, e7, _, w7⟩ := DataW.trod_int Try.underlying3 g6_0
  have g6_1 : DataW.trod enc Try.prog W 0 (fun _ => true) true n6 24 [x5] = some y6_1 := by
    have q : DataW.trod enc Try.prog W 0 (fun _ => true) true n6 24 (([x4, x5].drop 1).take (Try.prog.cellsOf 24)) = [y6_0, y6_1][1]? := hf6 1 _ rfl
    rw [cells_13_4] at q
    exact q
  obtain ⟨A, cap, l, e8, p8, q8, s8, _⟩ := trod_ints_sl Try.underlying24 Try.underlying3 cells_13_1 g6_1
  have g0_4 : DataW.trod enc Try.prog W 0 (fun _ => true) true n0 4 [x6] = some y0_4 := by
    have q : DataW.trod enc Try.prog W 0 (fun _ => true) true n0 4 (([x0, x1, x2, x3, x4, x5, x6].drop 6).take (Try.prog.cellsOf 4)) = [y0_0, y0_1, y0_2, y0_3, y0_4][4]? := hf0 4 _ rfl
    rw [cells_13_5] at q
    exact q
  obtain ⟨veto, e9, _⟩ := DataW.trod_bool Try.underlying4 g0_4
  simp only [List.cons.injEq, and_true] at e1 e2 e4 e5 e7 e8 e9
  subst e1 e2 e4 e5 e7 e8 e9
  exact ⟨⟨kind, ep0, br, bn, ep, A, cap, l, veto⟩, rfl, s8, bounds_i64 w2, bounds_i64 w4, bounds_i64 w5, bounds_i64 w7, p8, q8⟩

theorem open_ops13 {H : Type} {enc : TypeId × Value → H} {W : World} {fuel : Nat} {cs : List Value} {x : DataW H × List MemPlace} (h : DataW.trod enc Try.prog W 0 (fun _ => true) true fuel 57 cs = some x) :
    ∃ (A : Option Addr) (l : List Op13) (cap : Nat), cs = [.slice A l.length cap] ∧ l.length ≤ cap ∧ cap ≤ 9223372036854775807 ∧ So13 W A l := by
  rcases open_slice Try.underlying57 h with ⟨rfl, _⟩ | ⟨a, len, cap, m, n, D, Pl, rfl, hb, hl, hm, hmm, hx, hi⟩
  · exact ⟨none, [], 0, rfl, by simp, by simp, fun j x hj => by simp at hj⟩
  · rw [cells_13_0] at hi
    have hlm : len ≤ m := by rw [hmm]; split <;> omega
    have hall : ∀ j, j < len → ∃ x : Op13, ∃ b o, some a = some ⟨b, o, none⟩ ∧ (∀ t, t < 7 → W.cell? ⟨b, o + j * 7 + t, none⟩ = x.vals[t]?) ∧ Sl i64 W x.A x.l ∧ x.ok := fun j hj => by
      obtain ⟨cs', hc, ht⟩ := hi j (by omega)
      obtain ⟨x, hx1, hx2⟩ := open_op13 ht
      obtain ⟨_, hl1, hat⟩ := World.cells?_some hc
      obtain ⟨cs0, hc0, _⟩ := hi 0 (by omega)
      obtain ⟨_, hl0, hat0⟩ := World.cells?_some hc0
      have h0 := hat0 (i := 0) (by omega)
      obtain ⟨b, o, f⟩ := a
      have hspot : f = none := by
        have hv : cs0[0]? = some (cs0[0]'(by omega)) := List.getElem?_eq_getElem (by omega)
        rw [hv] at h0
        simpa [Addr.add] using World.cell?_spot h0
      subst hspot
      refine ⟨x, b, o, rfl, fun t ht => ?_, hx2⟩
      have h1 := hat (i := t) (by omega)
      rw [Go.WideShapes.add_plain, Go.WideShapes.add_plain, hx1] at h1
      rw [h1, Array.getElem?_toList]
    obtain ⟨l, hl2, hq⟩ := list_choose len hall
    subst hl2
    exact ⟨some a, l, cap, rfl, hl, by unfold maxLen at hm; omega, hq⟩
end Go.Proofs.Ytkdcbidbciognaa
