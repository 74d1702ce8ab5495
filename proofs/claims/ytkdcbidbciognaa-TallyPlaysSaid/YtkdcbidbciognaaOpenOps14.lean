/-
  What a law was given, opened: a slice of 42.
-/
import Derived.Test.YtkdcbidbciognaaOpen
import Derived.Test.YtkdcbidbciognaaChoose
import Derived.Deep.Fields
import Derived.ChangeSame
namespace Go.Proofs.Ytkdcbidbciognaa
set_option linter.unusedVariables false
set_option linter.unusedSimpArgs false
set_option maxRecDepth 20000
open Go.RowKit Go.ChangeShapes Go.WideShapes Go.Joins Go.Deep

structure Op14 where
  kind : Int
  node : Int
  pr : Int
  pn : Int
  ar : Int
  an : Int
  has : Bool
  ep : Int
  A : Option Addr
  cap : Nat
  l : List Int
def Op14.vals (x : Op14) : Array Value := #[.int .i64 x.kind, .int .i64 x.node, .int .i64 x.pr, .int .i64 x.pn, .int .i64 x.ar, .int .i64 x.an, .bool x.has, .int .i64 x.ep, .slice x.A x.l.length x.cap]
def Op14.ok (x : Op14) : Prop := (-9223372036854775808 ≤ x.node ∧ x.node ≤ 9223372036854775807) ∧ (-9223372036854775808 ≤ x.pr ∧ x.pr ≤ 9223372036854775807) ∧ (-9223372036854775808 ≤ x.pn ∧ x.pn ≤ 9223372036854775807) ∧ (-9223372036854775808 ≤ x.ar ∧ x.ar ≤ 9223372036854775807) ∧ (-9223372036854775808 ≤ x.an ∧ x.an ≤ 9223372036854775807) ∧ (-9223372036854775808 ≤ x.ep ∧ x.ep ≤ 9223372036854775807) ∧ x.l.length ≤ x.cap ∧ x.cap ≤ 9223372036854775807
def So14 (w : World) (A : Option Addr) (xs : List Op14) : Prop :=
  ∀ (j : Nat) (x : Op14), xs[j]? = some x → ∃ b o, A = some ⟨b, o, none⟩ ∧ (∀ t, t < 9 → w.cell? ⟨b, o + j * 9 + t, none⟩ = x.vals[t]?) ∧ Sl i64 w x.A x.l ∧ x.ok
theorem So14.stay {w w' : World} {A : Option Addr} {xs : List Op14} (h : So14 w A xs) (hb : Below w.heap.size w w') : So14 w' A xs := fun j x hj =>
  let ⟨b, o, e, c, s0, r⟩ := h j x hj
  ⟨b, o, e, fun t ht => by
    have h1 := c t ht
    have h2 : ∃ v, x.vals[t]? = some v := ⟨x.vals[t]'(by show t < 9; exact ht), Array.getElem?_eq_getElem (by show t < 9; exact ht)⟩
    obtain ⟨v, hv⟩ := h2
    rw [hv] at h1 ⊢
    exact cell_stay hb h1, s0.stay hb, r⟩

theorem cells_14_0 : Try.prog.cellsOf 42 = 9 := by kernel_rfl
theorem cells_14_1 : Try.prog.cellsOf 3 = 1 := by kernel_rfl
theorem cells_14_2 : Try.prog.cellsOf 40 = 7 := by kernel_rfl
theorem cells_14_3 : Try.prog.cellsOf 23 = 2 := by kernel_rfl
theorem cells_14_4 : Try.prog.cellsOf 4 = 1 := by kernel_rfl
theorem cells_14_5 : Try.prog.cellsOf 26 = 2 := by kernel_rfl
theorem cells_14_6 : Try.prog.cellsOf 24 = 1 := by kernel_rfl
theorem open_op14 {H : Type} {enc : TypeId × Value → H} {W : World} {fuel : Nat} {cs : List Value} {x : DataW H × List MemPlace} (h : DataW.trod enc Try.prog W 0 (fun _ => true) true fuel 42 cs = some x) :
    ∃ x : Op14, cs = x.vals.toList ∧ Sl i64 W x.A x.l ∧ x.ok := by
  obtain ⟨ys0, n0, _, _, hlen, hyl0, hf0⟩ := DataW.trod_struct Try.underlying42 h
  rw [cells_14_0] at hlen
  obtain ⟨x0, x1, x2, x3, x4, x5, x6, x7, x8, rfl⟩ : ∃ x0 x1 x2 x3 x4 x5 x6 x7 x8, cs = [x0, x1, x2, x3, x4, x5, x6, x7, x8] := by
    match cs, hlen with
    | [x0, x1, x2, x3, x4, x5, x6, x7, x8], _ => exact ⟨_, _, _, _, _, _, _, _, _, rfl⟩
  obtain ⟨y0_0, y0_1, y0_2, rfl⟩ : ∃ y0_0 y0_1 y0_2, ys0 = [y0_0, y0_1, y0_2] := by
    match ys0, hyl0 with
    | [y0_0, y0_1, y0_2], _ => exact ⟨_, _, _, rfl⟩
  have g0_0 : DataW.trod enc Try.prog W 0 (fun _ => true) true n0 3 [x0] = some y0_0 := by
    have q : DataW.trod enc Try.prog W 0 (fun _ => true) true n0 3 (([x0, x1, x2, x3, x4, x5, x6, x7, x8].drop 0).take (Try.prog.cellsOf 3)) = [y0_0, y0_1, y0_2][0]? := hf0 0 _ rfl
    rw [cells_14_1] at q
    exact q
  obtain ⟨kind, e1, _, w1⟩ := DataW.trod_int Try.underlying3 g0_0
  have g0_1 : DataW.trod enc Try.prog W 0 (fun _ => true) true n0 3 [x1] = some y0_1 := by
    have q : DataW.trod enc Try.prog W 0 (fun _ => true) true n0 3 (([x0, x1, x2, x3, x4, x5, x6, x7, x8].drop 1).take (Try.prog.cellsOf 3)) = [y0_0, y0_1, y0_2][1]? := hf0 1 _ rfl
    rw [cells_14_1] at q
    exact q
  obtain ⟨node, e2, _, w2⟩ := DataW.trod_int Try.underlying3 g0_1
  have g0_2 : DataW.trod enc Try.prog W 0 (fun _ => true) true n0 40 [x2, x3, x4, x5, x6, x7, x8] = some y0_2 := by
    have q : DataW.trod enc Try.prog W 0 (fun _ => true) true n0 40 (([x0, x1, x2, x3, x4, x5, x6, x7, x8].drop 2).take (Try.prog.cellsOf 40)) = [y0_0, y0_1, y0_2][2]? := hf0 2 _ rfl
    rw [cells_14_2] at q
    exact q
  obtain ⟨ys3, n3, _, _, _, hyl3, hf3⟩ := DataW.trod_struct Try.underlying40 g0_2
  obtain ⟨y3_0, y3_1, y3_2, y3_3, rfl⟩ : ∃ y3_0 y3_1 y3_2 y3_3, ys3 = [y3_0, y3_1, y3_2, y3_3] := by
    match ys3, hyl3 with
    | [y3_0, y3_1, y3_2, y3_3], _ => exact ⟨_, _, _, _, rfl⟩
  have g3_0 : DataW.trod enc Try.prog W 0 (fun _ => true) true n3 23 [x2, x3] = some y3_0 := by
    have q : DataW.trod enc Try.prog W 0 (fun _ => true) true n3 23 (([x2, x3, x4, x5, x6, x7, x8].drop 0).take (Try.prog.cellsOf 23)) = [y3_0, y3_1, y3_2, y3_3][0]? := hf3 0 _ rfl
    rw [cells_14_3] at q
    exact q
  obtain ⟨ys4, n4, _, _, _, hyl4, hf4⟩ := DataW.trod_struct Try.underlying23 g3_0
  obtain ⟨y4_0, y4_1, rfl⟩ : ∃ y4_0 y4_1, ys4 = [y4_0, y4_1] := by
    match ys4, hyl4 with
    | [y4_0, y4_1], _ => exact ⟨_, _, rfl⟩
  have g4_0 : DataW.trod enc Try.prog W 0 (fun _ => true) true n4 3 [x2] = some y4_0 := by
    have q : DataW.trod enc Try.prog W 0 (fun _ => true) true n4 3 (([x2, x3].drop 0).take (Try.prog.cellsOf 3)) = [y4_0, y4_1][0]? := hf4 0 _ rfl
    rw [cells_14_1] at q
    exact q
  obtain ⟨pr, e5, _, w5⟩ := DataW.trod_int Try.underlying3 g4_0
  have g4_1 : DataW.trod enc Try.prog W 0 (fun _ => true) true n4 3 [x3] = some y4_1 := by
    have q : DataW.trod enc Try.prog W 0 (fun _ => true) true n4 3 (([x2, x3].drop 1).take (Try.prog.cellsOf 3)) = [y4_0, y4_1][1]? := hf4 1 _ rfl
    rw [cells_14_1] at q
    exact q
  obtain ⟨pn, e6, _, w6⟩ := DataW.trod_int Try.underlying3 g4_1
  have g3_1 : DataW.trod enc Try.prog W 0 (fun _ => true) true n3 23 [x4, x5] = some y3_1 := by
    have q : DataW.trod enc Try.prog W 0 (fun _ => true) true n3 23 (([x2, x3, x4, x5, x6, x7, x8].drop 2).take (Try.prog.cellsOf 23)) = [y3_0, y3_1, y3_2, y3_3][1]? := hf3 1 _ rfl
    rw [cells_14_3] at q
    exact q
  obtain ⟨ys7, n7, _, _, _, hyl7, hf7⟩ := DataW.trod_struct Try.underlying23 g3_1
  obtain ⟨y7_0, y7_1, rfl⟩ : ∃ y7_0 y7_1, ys7 = [y7_0, y7_1] := by
    match ys7, hyl7 with
    | [y7_0, y7_1], _ => exact ⟨_, _, rfl⟩
  have g7_0 : DataW.trod enc Try.prog W 0 (fun _ => true) true n7 3 [x4] = some y7_0 := by
    have q : DataW.trod enc Try.prog W 0 (fun _ => true) true n7 3 (([x4, x5].drop 0).take (Try.prog.cellsOf 3)) = [y7_0, y7_1][0]? := hf7 0 _ rfl
    rw [cells_14_1] at q
    exact q
  obtain ⟨ar, e8, _, w8⟩ := DataW.trod_int Try.underlying3 g7_0
  have g7_1 : DataW.trod enc Try.prog W 0 (fun _ => true) true n7 3 [x5] = some y7_1 := by
    have q : DataW.trod enc Try.prog W 0 (fun _ => true) true n7 3 (([x4, x5].drop 1).take (Try.prog.cellsOf 3)) = [y7_0, y7_1][1]? := hf7 1 _ rfl
    rw [cells_14_1] at q
    exact q
  obtain ⟨an, e9, _, w9⟩ := DataW.trod_int Try.underlying3 g7_1
  have g3_2 : DataW.trod enc Try.prog W 0 (fun _ => true) true n3 4 [x6] = some y3_2 := by
    have q : DataW.trod enc Try.prog W 0 (fun _ => true) true n3 4 (([x2, x3, x4, x5, x6, x7, x8].drop 4).take (Try.prog.cellsOf 4)) = [y3_0, y3_1, y3_2, y3_3][2]? := hf3 2 _ rfl
    rw [cells_14_4] at q
    exact q
  obtain ⟨has, e10, _⟩ := DataW.trod_bool Try.underlying4 g3_2
  have g3_3 : DataW.trod enc Try.prog W 0 (fun _ => true) true n3 26 [x7, x8] = some y3_3 := by
    have q : DataW.trod enc Try.prog W 0 (fun _ => true) true n3 26 (([x2, x3, x4, x5, x6, x7, x8].drop 5).take (Try.prog.cellsOf 26)) = [y3_0, y3_1, y3_2, y3_3][3]? := hf3 3 _ rfl
    rw [cells_14_5] at q
    exact q
  obtain ⟨ys11, n11, _, _, _, hyl11, hf11⟩ := DataW.trod_struct Try.underlying26 g3_3
  obtain ⟨y11_0, y11_1, rfl⟩ : ∃ y11_0 y11_1, ys11 = [y11_0, y11_1] := by
    match ys11, hyl11 with
    | [y11_0, y11_1], _ => exact ⟨_, _, rfl⟩
  have g11_0 : DataW.trod enc Try.prog W 0 (fun _ => true) true n11 3 [x7] = some y11_0 := by
    have q : DataW.trod enc Try.prog W 0 (fun _ => true) true n11 3 (([x7, x8].drop 0).take (Try.prog.cellsOf 3)) = [y11_0, y11_1][0]? := hf11 0 _ rfl
    rw [cells_14_1] at q
    exact q
  obtain ⟨ep, e12, _, w12⟩ := DataW.trod_int Try.underlying3 g11_0
  have g11_1 : DataW.trod enc Try.prog W 0 (fun _ => true) true n11 24 [x8] = some y11_1 := by
    have q : DataW.trod enc Try.prog W 0 (fun _ => true) true n11 24 (([x7, x8].drop 1).take (Try.prog.cellsOf 24)) = [y11_0, y11_1][1]? := hf11 1 _ rfl
    rw [cells_14_6] at q
    exact q
  obtain ⟨A, cap, l, e13, p13, q13, s13, _⟩ := trod_ints_sl Try.underlying24 Try.underlying3 cells_14_1 g11_1
  simp only [List.cons.injEq, and_true] at e1 e2 e5 e6 e8 e9 e10 e12 e13
  subst e1 e2 e5 e6 e8 e9 e10 e12 e13
  exact ⟨⟨kind, node, pr, pn, ar, an, has, ep, A, cap, l⟩, rfl, s13, bounds_i64 w2, bounds_i64 w5, bounds_i64 w6, bounds_i64 w8, bounds_i64 w9, bounds_i64 w12, p13, q13⟩

theorem open_ops14 {H : Type} {enc : TypeId × Value → H} {W : World} {fuel : Nat} {cs : List Value} {x : DataW H × List MemPlace} (h : DataW.trod enc Try.prog W 0 (fun _ => true) true fuel 27 cs = some x) :
    ∃ (A : Option Addr) (l : List Op14) (cap : Nat), cs = [.slice A l.length cap] ∧ l.length ≤ cap ∧ cap ≤ 9223372036854775807 ∧ So14 W A l := by
  rcases open_slice Try.underlying27 h with ⟨rfl, _⟩ | ⟨a, len, cap, m, n, D, Pl, rfl, hb, hl, hm, hmm, hx, hi⟩
  · exact ⟨none, [], 0, rfl, by simp, by simp, fun j x hj => by simp at hj⟩
  · rw [cells_14_0] at hi
    have hlm : len ≤ m := by rw [hmm]; split <;> omega
    have hall : ∀ j, j < len → ∃ x : Op14, ∃ b o, some a = some ⟨b, o, none⟩ ∧ (∀ t, t < 9 → W.cell? ⟨b, o + j * 9 + t, none⟩ = x.vals[t]?) ∧ Sl i64 W x.A x.l ∧ x.ok := fun j hj => by
      obtain ⟨cs', hc, ht⟩ := hi j (by omega)
      obtain ⟨x, hx1, hx2⟩ := open_op14 ht
      obtain ⟨_, hl1, hat⟩ := World.cells?_some hc
      obtain ⟨cs0, hc0, _⟩ := hi 0 (by omega)
      obtain ⟨_, hl0, hat0⟩ := World.cells?_some hc0
      have h0 := hat0 (i := 0) (by omega)
      obtain ⟨b, o, f⟩ := a
      have hspot : f = none := by
        have hv : cs0[0]? = some (cs0[0]'(by omega)) := List.getElem?_eq_getElem (by omega)
        rw [hv] at h0
        simpa [Addr.add] using World.cell?_spot h0
      subst hspot
      refine ⟨x, b, o, rfl, fun t ht => ?_, hx2⟩
      have h1 := hat (i := t) (by omega)
      rw [Go.WideShapes.add_plain, Go.WideShapes.add_plain, hx1] at h1
      rw [h1, Array.getElem?_toList]
    obtain ⟨l, hl2, hq⟩ := list_choose len hall
    subst hl2
    exact ⟨some a, l, cap, rfl, hl, by unfold maxLen at hm; omega, hq⟩
end Go.Proofs.Ytkdcbidbciognaa
