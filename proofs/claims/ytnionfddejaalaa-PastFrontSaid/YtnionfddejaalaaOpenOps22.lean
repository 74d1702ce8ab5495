/-
  What a law was given, opened: a slice of 37.
-/
import Derived.Test.YtnionfddejaalaaOpen
import Derived.Test.YtnionfddejaalaaChoose
import Derived.Deep.Fields
import Derived.ChangeSame
namespace Go.Proofs.Ytnionfddejaalaa
set_option linter.unusedVariables false
set_option linter.unusedSimpArgs false
set_option maxRecDepth 20000
open Go.RowKit Go.ChangeShapes Go.WideShapes Go.Joins Go.Deep

structure Op22 where
  kind : Int
  cl : Int
  sq : Int
  at_ : Int
  qc : Int
  qs : Int
  qk : Int
  qi : Int
  qm : Int
  qd : ByteArray
  rc : Int
  rv : Int
  rd : ByteArray
  rA : Option Addr
  rcap : Nat
  rl : List Int
def Op22.vals (x : Op22) : Array Value := #[.int .i64 x.kind, .int .i64 x.cl, .int .i64 x.sq, .int .i64 x.at_, .int .i64 x.qc, .int .i64 x.qs, .int .i64 x.qk, .int .i64 x.qi, .int .i64 x.qm, .string x.qd, .int .i64 x.rc, .int .i64 x.rv, .string x.rd, .slice x.rA x.rl.length x.rcap]
def Op22.ok (x : Op22) : Prop := (-9223372036854775808 ≤ x.cl ∧ x.cl ≤ 9223372036854775807) ∧ (-9223372036854775808 ≤ x.sq ∧ x.sq ≤ 9223372036854775807) ∧ (-9223372036854775808 ≤ x.at_ ∧ x.at_ ≤ 9223372036854775807) ∧ (-9223372036854775808 ≤ x.qc ∧ x.qc ≤ 9223372036854775807) ∧ (-9223372036854775808 ≤ x.qs ∧ x.qs ≤ 9223372036854775807) ∧ (-9223372036854775808 ≤ x.qk ∧ x.qk ≤ 9223372036854775807) ∧ (-9223372036854775808 ≤ x.qi ∧ x.qi ≤ 9223372036854775807) ∧ (-9223372036854775808 ≤ x.qm ∧ x.qm ≤ 9223372036854775807) ∧ x.qd.size ≤ maxLen ∧ (-9223372036854775808 ≤ x.rc ∧ x.rc ≤ 9223372036854775807) ∧ (-9223372036854775808 ≤ x.rv ∧ x.rv ≤ 9223372036854775807) ∧ x.rd.size ≤ maxLen ∧ x.rl.length ≤ x.rcap ∧ x.rcap ≤ 9223372036854775807
def So22 (w : World) (A : Option Addr) (xs : List Op22) : Prop :=
  ∀ (j : Nat) (x : Op22), xs[j]? = some x → ∃ b o, A = some ⟨b, o, none⟩ ∧ (∀ t, t < 14 → w.cell? ⟨b, o + j * 14 + t, none⟩ = x.vals[t]?) ∧ Sl i64 w x.rA x.rl ∧ x.ok
theorem So22.stay {w w' : World} {A : Option Addr} {xs : List Op22} (h : So22 w A xs) (hb : Below w.heap.size w w') : So22 w' A xs := fun j x hj =>
  let ⟨b, o, e, c, s0, r⟩ := h j x hj
  ⟨b, o, e, fun t ht => by
    have h1 := c t ht
    have h2 : ∃ v, x.vals[t]? = some v := ⟨x.vals[t]'(by show t < 14; exact ht), Array.getElem?_eq_getElem (by show t < 14; exact ht)⟩
    obtain ⟨v, hv⟩ := h2
    rw [hv] at h1 ⊢
    exact cell_stay hb h1, s0.stay hb, r⟩

theorem cells_22_0 : Try.prog.cellsOf 37 = 14 := by kernel_rfl
theorem cells_22_1 : Try.prog.cellsOf 3 = 1 := by kernel_rfl
theorem cells_22_2 : Try.prog.cellsOf 29 = 6 := by kernel_rfl
theorem cells_22_3 : Try.prog.cellsOf 9 = 1 := by kernel_rfl
theorem cells_22_4 : Try.prog.cellsOf 35 = 4 := by kernel_rfl
theorem cells_22_5 : Try.prog.cellsOf 33 = 1 := by kernel_rfl
theorem open_op22 {H : Type} {enc : TypeId × Value → H} {W : World} {fuel : Nat} {cs : List Value} {x : DataW H × List MemPlace} (h : DataW.trod enc Try.prog W 0 (fun _ => true) true fuel 37 cs = some x) :
    ∃ x : Op22, cs = x.vals.toList ∧ Sl i64 W x.rA x.rl ∧ x.ok := by
  obtain ⟨ys0, n0, _, _, hlen, hyl0, hf0⟩ := DataW.trod_struct Try.underlying37 h
  rw [cells_22_0] at hlen
  obtain ⟨x0, x1, x2, x3, x4, x5, x6, x7, x8, x9, x10, x11, x12, x13, rfl⟩ : ∃ x0 x1 x2 x3 x4 x5 x6 x7 x8 x9 x10 x11 x12 x13, cs = [x0, x1, x2, x3, x4, x5, x6, x7, x8, x9, x10, x11, x12, x13] := by
    match cs, hlen with
    | [x0, x1, x2, x3, x4, x5, x6, x7, x8, x9, x10, x11, x12, x13], _ => exact ⟨_, _, _, _, _, _, _, _, _, _, _, _, _, _, rfl⟩
  obtain ⟨y0_0, y0_1, y0_2, y0_3, y0_4, y0_5, rfl⟩ : ∃ y0_0 y0_1 y0_2 y0_3 y0_4 y0_5, ys0 = [y0_0, y0_1, y0_2, y0_3, y0_4, y0_5] := by
    match ys0, hyl0 with
    | [y0_0, y0_1, y0_2, y0_3, y0_4, y0_5], _ => exact ⟨_, _, _, _, _, _, rfl⟩
  have g0_0 : DataW.trod enc Try.prog W 0 (fun _ => true) true n0 3 [x0] = some y0_0 := by
    have q : DataW.trod enc Try.prog W 0 (fun _ => true) true n0 3 (([x0, x1, x2, x3, x4, x5, x6, x7, x8, x9, x10, x11, x12, x13].drop 0).take (Try.prog.cellsOf 3)) = [y0_0, y0_1, y0_2, y0_3, y0_4, y0_5][0]? := hf0 0 _ rfl
    rw [cells_22_1] at q
    exact q
  obtain ⟨kind, e1, _, w1⟩ := DataW.trod_int Try.underlying3 g0_0
  have g0_1 : DataW.trod enc Try.prog W 0 (fun _ => true) true n0 3 [x1] = some y0_1 := by
    have q : DataW.trod enc Try.prog W 0 (fun _ => true) true n0 3 (([x0, x1, x2, x3, x4, x5, x6, x7, x8, x9, x10, x11, x12, x13].drop 1).take (Try.prog.cellsOf 3)) = [y0_0, y0_1, y0_2, y0_3, y0_4, y0_5][1]? := hf0 1 _ rfl
    rw [cells_22_1] at q
    exact q
  obtain ⟨cl, e2, _, w2⟩ := DataW.trod_int Try.underlying3 g0_1
  have g0_2 : DataW.trod enc Try.prog W 0 (fun _ => true) true n0 3 [x2] = some y0_2 := by
    have q : DataW.trod enc Try.prog W 0 (fun _ => true) true n0 3 (([x0, x1, x2, x3, x4, x5, x6, x7, x8, x9, x10, x11, x12, x13].drop 2).take (Try.prog.cellsOf 3)) = [y0_0, y0_1, y0_2, y0_3, y0_4, y0_5][2]? := hf0 2 _ rfl
    rw [cells_22_1] at q
    exact q
  obtain ⟨sq, e3, _, w3⟩ := DataW.trod_int Try.underlying3 g0_2
  have g0_3 : DataW.trod enc Try.prog W 0 (fun _ => true) true n0 3 [x3] = some y0_3 := by
    have q : DataW.trod enc Try.prog W 0 (fun _ => true) true n0 3 (([x0, x1, x2, x3, x4, x5, x6, x7, x8, x9, x10, x11, x12, x13].drop 3).take (Try.prog.cellsOf 3)) = [y0_0, y0_1, y0_2, y0_3, y0_4, y0_5][3]? := hf0 3 _ rfl
    rw [cells_22_1] at q
    exact q
  obtain ⟨at_, e4, _, w4⟩ := DataW.trod_int Try.underlying3 g0_3
  have g0_4 : DataW.trod enc Try.prog W 0 (fun _ => true) true n0 29 [x4, x5, x6, x7, x8, x9] = some y0_4 := by
    have q : DataW.trod enc Try.prog W 0 (fun _ => true) true n0 29 (([x0, x1, x2, x3, x4, x5, x6, x7, x8, x9, x10, x11, x12, x13].drop 4).take (Try.prog.cellsOf 29)) = [y0_0, y0_1, y0_2, y0_3, y0_4, y0_5][4]? := hf0 4 _ rfl
    rw [cells_22_2] at q
    exact q
  obtain ⟨ys5, n5, _, _, _, hyl5, hf5⟩ := DataW.trod_struct Try.underlying29 g0_4
  obtain ⟨y5_0, y5_1, y5_2, y5_3, y5_4, y5_5, rfl⟩ : ∃ y5_0 y5_1 y5_2 y5_3 y5_4 y5_5, ys5 = [y5_0, y5_1, y5_2, y5_3, y5_4, y5_5] := by
    match ys5, hyl5 with
    | [y5_0, y5_1, y5_2, y5_3, y5_4, y5_5], _ => exact ⟨_, _, _, _, _, _, rfl⟩
  have g5_0 : DataW.trod enc Try.prog W 0 (fun _ => true) true n5 3 [x4] = some y5_0 := by
    have q : DataW.trod enc Try.prog W 0 (fun _ => true) true n5 3 (([x4, x5, x6, x7, x8, x9].drop 0).take (Try.prog.cellsOf 3)) = [y5_0, y5_1, y5_2, y5_3, y5_4, y5_5][0]? := hf5 0 _ rfl
    rw [cells_22_1] at q
    exact q
  obtain ⟨qc, e6, _, w6⟩ := DataW.trod_int Try.underlying3 g5_0
  have g5_1 : DataW.trod enc Try.prog W 0 (fun _ => true) true n5 3 [x5] = some y5_1 := by
    have q : DataW.trod enc Try.prog W 0 (fun _ => true) true n5 3 (([x4, x5, x6, x7, x8, x9].drop 1).take (Try.prog.cellsOf 3)) = [y5_0, y5_1, y5_2, y5_3, y5_4, y5_5][1]? := hf5 1 _ rfl
    rw [cells_22_1] at q
    exact q
  obtain ⟨qs, e7, _, w7⟩ := DataW.trod_int Try.underlying3 g5_1
  have g5_2 : DataW.trod enc Try.prog W 0 (fun _ => true) true n5 3 [x6] = some y5_2 := by
    have q : DataW.trod enc Try.prog W 0 (fun _ => true) true n5 3 (([x4, x5, x6, x7, x8, x9].drop 2).take (Try.prog.cellsOf 3)) = [y5_0, y5_1, y5_2, y5_3, y5_4, y5_5][2]? := hf5 2 _ rfl
    rw [cells_22_1] at q
    exact q
  obtain ⟨qk, e8, _, w8⟩ := DataW.trod_int Try.underlying3 g5_2
  have g5_3 : DataW.trod enc Try.prog W 0 (fun _ => true) true n5 3 [x7] = some y5_3 := by
    have q : DataW.trod enc Try.prog W 0 (fun _ => true) true n5 3 (([x4, x5, x6, x7, x8, x9].drop 3).take (Try.prog.cellsOf 3)) = [y5_0, y5_1, y5_2, y5_3, y5_4, y5_5][3]? := hf5 3 _ rfl
    rw [cells_22_1] at q
    exact q
  obtain ⟨qi, e9, _, w9⟩ := DataW.trod_int Try.underlying3 g5_3
  have g5_4 : DataW.trod enc Try.prog W 0 (fun _ => true) true n5 3 [x8] = some y5_4 := by
    have q : DataW.trod enc Try.prog W 0 (fun _ => true) true n5 3 (([x4, x5, x6, x7, x8, x9].drop 4).take (Try.prog.cellsOf 3)) = [y5_0, y5_1, y5_2, y5_3, y5_4, y5_5][4]? := hf5 4 _ rfl
    rw [cells_22_1] at q
    exact q
  obtain ⟨qm, e10, _, w10⟩ := DataW.trod_int Try.underlying3 g5_4
  have g5_5 : DataW.trod enc Try.prog W 0 (fun _ => true) true n5 9 [x9] = some y5_5 := by
    have q : DataW.trod enc Try.prog W 0 (fun _ => true) true n5 9 (([x4, x5, x6, x7, x8, x9].drop 5).take (Try.prog.cellsOf 9)) = [y5_0, y5_1, y5_2, y5_3, y5_4, y5_5][5]? := hf5 5 _ rfl
    rw [cells_22_3] at q
    exact q
  obtain ⟨qd, e11, _, w11⟩ := DataW.trod_string Try.underlying9 g5_5
  have g0_5 : DataW.trod enc Try.prog W 0 (fun _ => true) true n0 35 [x10, x11, x12, x13] = some y0_5 := by
    have q : DataW.trod enc Try.prog W 0 (fun _ => true) true n0 35 (([x0, x1, x2, x3, x4, x5, x6, x7, x8, x9, x10, x11, x12, x13].drop 10).take (Try.prog.cellsOf 35)) = [y0_0, y0_1, y0_2, y0_3, y0_4, y0_5][5]? := hf0 5 _ rfl
    rw [cells_22_4] at q
    exact q
  obtain ⟨ys12, n12, _, _, _, hyl12, hf12⟩ := DataW.trod_struct Try.underlying35 g0_5
  obtain ⟨y12_0, y12_1, y12_2, y12_3, rfl⟩ : ∃ y12_0 y12_1 y12_2 y12_3, ys12 = [y12_0, y12_1, y12_2, y12_3] := by
    match ys12, hyl12 with
    | [y12_0, y12_1, y12_2, y12_3], _ => exact ⟨_, _, _, _, rfl⟩
  have g12_0 : DataW.trod enc Try.prog W 0 (fun _ => true) true n12 3 [x10] = some y12_0 := by
    have q : DataW.trod enc Try.prog W 0 (fun _ => true) true n12 3 (([x10, x11, x12, x13].drop 0).take (Try.prog.cellsOf 3)) = [y12_0, y12_1, y12_2, y12_3][0]? := hf12 0 _ rfl
    rw [cells_22_1] at q
    exact q
  obtain ⟨rc, e13, _, w13⟩ := DataW.trod_int Try.underlying3 g12_0
  have g12_1 : DataW.trod enc Try.prog W 0 (fun _ => true) true n12 3 [x11] = some y12_1 := by
    have q : DataW.trod enc Try.prog W 0 (fun _ => true) true n12 3 (([x10, x11, x12, x13].drop 1).take (Try.prog.cellsOf 3)) = [y12_0, y12_1, y12_2, y12_3][1]? := hf12 1 _ rfl
    rw [cells_22_1] at q
    exact q
  obtain ⟨rv, e14, _, w14⟩ := DataW.trod_int Try.underlying3 g12_1
  have g12_2 : DataW.trod enc Try.prog W 0 (fun _ => true) true n12 9 [x12] = some y12_2 := by
    have q : DataW.trod enc Try.prog W 0 (fun _ => true) true n12 9 (([x10, x11, x12, x13].drop 2).take (Try.prog.cellsOf 9)) = [y12_0, y12_1, y12_2, y12_3][2]? := hf12 2 _ rfl
    rw [cells_22_3] at q
    exact q
  obtain ⟨rd, e15, _, w15⟩ := DataW.trod_string Try.underlying9 g12_2
  have g12_3 : DataW.trod enc Try.prog W 0 (fun _ => true) true n12 33 [x13] = some y12_3 := by
    have q : DataW.trod enc Try.prog W 0 (fun _ => true) true n12 33 (([x10, x11, x12, x13].drop 3).take (Try.prog.cellsOf 33)) = [y12_0, y12_1, y12_2, y12_3][3]? := hf12 3 _ rfl
    rw [cells_22_5] at q
    exact q
  obtain ⟨rA, rcap, rl, e16, p16, q16, s16, _⟩ := trod_ints_sl Try.underlying33 Try.underlying3 cells_22_1 g12_3
  simp only [List.cons.injEq, and_true] at e1 e2 e3 e4 e6 e7 e8 e9 e10 e11 e13 e14 e15 e16
  subst e1 e2 e3 e4 e6 e7 e8 e9 e10 e11 e13 e14 e15 e16
  exact ⟨⟨kind, cl, sq, at_, qc, qs, qk, qi, qm, qd, rc, rv, rd, rA, rcap, rl⟩, rfl, s16, bounds_i64 w2, bounds_i64 w3, bounds_i64 w4, bounds_i64 w6, bounds_i64 w7, bounds_i64 w8, bounds_i64 w9, bounds_i64 w10, w11, bounds_i64 w13, bounds_i64 w14, w15, p16, q16⟩

theorem open_ops22 {H : Type} {enc : TypeId × Value → H} {W : World} {fuel : Nat} {cs : List Value} {x : DataW H × List MemPlace} (h : DataW.trod enc Try.prog W 0 (fun _ => true) true fuel 22 cs = some x) :
    ∃ (A : Option Addr) (l : List Op22) (cap : Nat), cs = [.slice A l.length cap] ∧ l.length ≤ cap ∧ cap ≤ 9223372036854775807 ∧ So22 W A l := by
  rcases open_slice Try.underlying22 h with ⟨rfl, _⟩ | ⟨a, len, cap, m, n, D, Pl, rfl, hb, hl, hm, hmm, hx, hi⟩
  · exact ⟨none, [], 0, rfl, by simp, by simp, fun j x hj => by simp at hj⟩
  · rw [cells_22_0] at hi
    have hlm : len ≤ m := by rw [hmm]; split <;> omega
    have hall : ∀ j, j < len → ∃ x : Op22, ∃ b o, some a = some ⟨b, o, none⟩ ∧ (∀ t, t < 14 → W.cell? ⟨b, o + j * 14 + t, none⟩ = x.vals[t]?) ∧ Sl i64 W x.rA x.rl ∧ x.ok := fun j hj => by
      obtain ⟨cs', hc, ht⟩ := hi j (by omega)
      obtain ⟨x, hx1, hx2⟩ := open_op22 ht
      obtain ⟨_, hl1, hat⟩ := World.cells?_some hc
      obtain ⟨cs0, hc0, _⟩ := hi 0 (by omega)
      obtain ⟨_, hl0, hat0⟩ := World.cells?_some hc0
      have h0 := hat0 (i := 0) (by omega)
      obtain ⟨b, o, f⟩ := a
      have hspot : f = none := by
        have hv : cs0[0]? = some (cs0[0]'(by omega)) := List.getElem?_eq_getElem (by omega)
        rw [hv] at h0
        simpa [Addr.add] using World.cell?_spot h0
      subst hspot
      refine ⟨x, b, o, rfl, fun t ht => ?_, hx2⟩
      have h1 := hat (i := t) (by omega)
      rw [Go.WideShapes.add_plain, Go.WideShapes.add_plain, hx1] at h1
      rw [h1, Array.getElem?_toList]
    obtain ⟨l, hl2, hq⟩ := list_choose len hall
    subst hl2
    exact ⟨some a, l, cap, rfl, hl, by unfold maxLen at hm; omega, hq⟩
end Go.Proofs.Ytnionfddejaalaa
