/-
  What a law was given, opened: a slice of 50.
-/
import Derived.Test.YtnionfddejaalaaOpen
import Derived.Test.YtnionfddejaalaaChoose
import Derived.Deep.Fields
import Derived.ChangeSame
namespace Go.Proofs.Ytnionfddejaalaa
set_option linter.unusedVariables false
set_option linter.unusedSimpArgs false
set_option maxRecDepth 20000
open Go.RowKit Go.ChangeShapes Go.WideShapes Go.Joins Go.Deep

structure OpAct where
  cl : Int
  sq : Int
  ans : Bool
  qc : Int
  qs : Int
  qk : Int
  qi : Int
  qm : Int
  qd : ByteArray
  rc : Int
  rv : Int
  rd : ByteArray
  rA : Option Addr
  rcap : Nat
  rl : List Int
  at_ : Int
def OpAct.vals (x : OpAct) : Array Value := #[.int .i64 x.cl, .int .i64 x.sq, .bool x.ans, .int .i64 x.qc, .int .i64 x.qs, .int .i64 x.qk, .int .i64 x.qi, .int .i64 x.qm, .string x.qd, .int .i64 x.rc, .int .i64 x.rv, .string x.rd, .slice x.rA x.rl.length x.rcap, .int .i64 x.at_]
def OpAct.ok (x : OpAct) : Prop := (-9223372036854775808 ≤ x.cl ∧ x.cl ≤ 9223372036854775807) ∧ (-9223372036854775808 ≤ x.sq ∧ x.sq ≤ 9223372036854775807) ∧ (-9223372036854775808 ≤ x.qc ∧ x.qc ≤ 9223372036854775807) ∧ (-9223372036854775808 ≤ x.qs ∧ x.qs ≤ 9223372036854775807) ∧ (-9223372036854775808 ≤ x.qk ∧ x.qk ≤ 9223372036854775807) ∧ (-9223372036854775808 ≤ x.qi ∧ x.qi ≤ 9223372036854775807) ∧ (-9223372036854775808 ≤ x.qm ∧ x.qm ≤ 9223372036854775807) ∧ x.qd.size ≤ maxLen ∧ (-9223372036854775808 ≤ x.rc ∧ x.rc ≤ 9223372036854775807) ∧ (-9223372036854775808 ≤ x.rv ∧ x.rv ≤ 9223372036854775807) ∧ x.rd.size ≤ maxLen ∧ x.rl.length ≤ x.rcap ∧ x.rcap ≤ 9223372036854775807 ∧ (-9223372036854775808 ≤ x.at_ ∧ x.at_ ≤ 9223372036854775807)
def SoAct (w : World) (A : Option Addr) (xs : List OpAct) : Prop :=
  ∀ (j : Nat) (x : OpAct), xs[j]? = some x → ∃ b o, A = some ⟨b, o, none⟩ ∧ (∀ t, t < 14 → w.cell? ⟨b, o + j * 14 + t, none⟩ = x.vals[t]?) ∧ Sl i64 w x.rA x.rl ∧ x.ok
theorem SoAct.stay {w w' : World} {A : Option Addr} {xs : List OpAct} (h : SoAct w A xs) (hb : Below w.heap.size w w') : SoAct w' A xs := fun j x hj =>
  let ⟨b, o, e, c, s0, r⟩ := h j x hj
  ⟨b, o, e, fun t ht => by
    have h1 := c t ht
    have h2 : ∃ v, x.vals[t]? = some v := ⟨x.vals[t]'(by show t < 14; exact ht), Array.getElem?_eq_getElem (by show t < 14; exact ht)⟩
    obtain ⟨v, hv⟩ := h2
    rw [hv] at h1 ⊢
    exact cell_stay hb h1, s0.stay hb, r⟩

theorem cells_Act_0 : Try.prog.cellsOf 50 = 14 := by kernel_rfl
theorem cells_Act_1 : Try.prog.cellsOf 3 = 1 := by kernel_rfl
theorem cells_Act_2 : Try.prog.cellsOf 4 = 1 := by kernel_rfl
theorem cells_Act_3 : Try.prog.cellsOf 29 = 6 := by kernel_rfl
theorem cells_Act_4 : Try.prog.cellsOf 9 = 1 := by kernel_rfl
theorem cells_Act_5 : Try.prog.cellsOf 35 = 4 := by kernel_rfl
theorem cells_Act_6 : Try.prog.cellsOf 33 = 1 := by kernel_rfl
theorem open_opAct {H : Type} {enc : TypeId × Value → H} {W : World} {fuel : Nat} {cs : List Value} {x : DataW H × List MemPlace} (h : DataW.trod enc Try.prog W 0 (fun _ => true) true fuel 50 cs = some x) :
    ∃ x : OpAct, cs = x.vals.toList ∧ Sl i64 W x.rA x.rl ∧ x.ok := by
  obtain ⟨ys0, n0, _, _, hlen, hyl0, hf0⟩ := DataW.trod_struct Try.underlying50 h
  rw [cells_Act_0] at hlen
  obtain ⟨x0, x1, x2, x3, x4, x5, x6, x7, x8, x9, x10, x11, x12, x13, rfl⟩ : ∃ x0 x1 x2 x3 x4 x5 x6 x7 x8 x9 x10 x11 x12 x13, cs = [x0, x1, x2, x3, x4, x5, x6, x7, x8, x9, x10, x11, x12, x13] := by
    match cs, hlen with
    | [x0, x1, x2, x3, x4, x5, x6, x7, x8, x9, x10, x11, x12, x13], _ => exact ⟨_, _, _, _, _, _, _, _, _, _, _, _, _, _, rfl⟩
  obtain ⟨y0_0, y0_1, y0_2, y0_3, y0_4, y0_5, rfl⟩ : ∃ y0_0 y0_1 y0_2 y0_3 y0_4 y0_5, ys0 = [y0_0, y0_1, y0_2, y0_3, y0_4, y0_5] := by
    match ys0, hyl0 with
    | [y0_0, y0_1, y0_2, y0_3, y0_4, y0_5], _ => exact ⟨_, _, _, _, _, _, rfl⟩
  have g0_0 : DataW.trod enc Try.prog W 0 (fun _ => true) true n0 3 [x0] = some y0_0 := by
    have q : DataW.trod enc Try.prog W 0 (fun _ => true) true n0 3 (([x0, x1, x2, x3, x4, x5, x6, x7, x8, x9, x10, x11, x12, x13].drop 0).take (Try.prog.cellsOf 3)) = [y0_0, y0_1, y0_2, y0_3, y0_4, y0_5][0]? := hf0 0 _ rfl
    rw [cells_Act_1] at q
    exact q
  obtain ⟨cl, e1, _, w1⟩ := DataW.trod_int Try.underlying3 g0_0
  have g0_1 : DataW.trod enc Try.prog W 0 (fun _ => true) true n0 3 [x1] = some y0_1 := by
    have q : DataW.trod enc Try.prog W 0 (fun _ => true) true n0 3 (([x0, x1, x2, x3, x4, x5, x6, x7, x8, x9, x10, x11, x12, x13].drop 1).take (Try.prog.cellsOf 3)) = [y0_0, y0_1, y0_2, y0_3, y0_4, y0_5][1]? := hf0 1 _ rfl
    rw [cells_Act_1] at q
    exact q
  obtain ⟨sq, e2, _, w2⟩ := DataW.trod_int Try.underlying3 g0_1
  have g0_2 : DataW.trod enc Try.prog W 0 (fun _ => true) true n0 4 [x2] = some y0_2 := by
    have q : DataW.trod enc Try.prog W 0 (fun _ => true) true n0 4 (([x0, x1, x2, x3, x4, x5, x6, x7, x8, x9, x10, x11, x12, x13].drop 2).take (Try.prog.cellsOf 4)) = [y0_0, y0_1, y0_2, y0_3, y0_4, y0_5][2]? := hf0 2 _ rfl
    rw [cells_Act_2] at q
    exact q
  obtain ⟨ans, e3, _⟩ := DataW.trod_bool Try.underlying4 g0_2
  have g0_3 : DataW.trod enc Try.prog W 0 (fun _ => true) true n0 29 [x3, x4, x5, x6, x7, x8] = some y0_3 := by
    have q : DataW.trod enc Try.prog W 0 (fun _ => true) true n0 29 (([x0, x1, x2, x3, x4, x5, x6, x7, x8, x9, x10, x11, x12, x13].drop 3).take (Try.prog.cellsOf 29)) = [y0_0, y0_1, y0_2, y0_3, y0_4, y0_5][3]? := hf0 3 _ rfl
    rw [cells_Act_3] at q
    exact q
  obtain ⟨ys4, n4, _, _, _, hyl4, hf4⟩ := DataW.trod_struct Try.underlying29 g0_3
  obtain ⟨y4_0, y4_1, y4_2, y4_3, y4_4, y4_5, rfl⟩ : ∃ y4_0 y4_1 y4_2 y4_3 y4_4 y4_5, ys4 = [y4_0, y4_1, y4_2, y4_3, y4_4, y4_5] := by
    match ys4, hyl4 with
    | [y4_0, y4_1, y4_2, y4_3, y4_4, y4_5], _ => exact ⟨_, _, _, _, _, _, rfl⟩
  have g4_0 : DataW.trod enc Try.prog W 0 (fun _ => true) true n4 3 [x3] = some y4_0 := by
    have q : DataW.trod enc Try.prog W 0 (fun _ => true) true n4 3 (([x3, x4, x5, x6, x7, x8].drop 0).take (Try.prog.cellsOf 3)) = [y4_0, y4_1, y4_2, y4_3, y4_4, y4_5][0]? := hf4 0 _ rfl
    rw [cells_Act_1] at q
    exact q
  obtain ⟨qc, e5, _, w5⟩ := DataW.trod_int Try.underlying3 g4_0
  have g4_1 : DataW.trod enc Try.prog W 0 (fun _ => true) true n4 3 [x4] = some y4_1 := by
    have q : DataW.trod enc Try.prog W 0 (fun _ => true) true n4 3 (([x3, x4, x5, x6, x7, x8].drop 1).take (Try.prog.cellsOf 3)) = [y4_0, y4_1, y4_2, y4_3, y4_4, y4_5][1]? := hf4 1 _ rfl
    rw [cells_Act_1] at q
    exact q
  obtain ⟨qs, e6, _, w6⟩ := DataW.trod_int Try.underlying3 g4_1
  have g4_2 : DataW.trod enc Try.prog W 0 (fun _ => true) true n4 3 [x5] = some y4_2 := by
    have q : DataW.trod enc Try.prog W 0 (fun _ => true) true n4 3 (([x3, x4, x5, x6, x7, x8].drop 2).take (Try.prog.cellsOf 3)) = [y4_0, y4_1, y4_2, y4_3, y4_4, y4_5][2]? := hf4 2 _ rfl
    rw [cells_Act_1] at q
    exact q
  obtain ⟨qk, e7, _, w7⟩ := DataW.trod_int Try.underlying3 g4_2
  have g4_3 : DataW.trod enc Try.prog W 0 (fun _ => true) true n4 3 [x6] = some y4_3 := by
    have q : DataW.trod enc Try.prog W 0 (fun _ => true) true n4 3 (([x3, x4, x5, x6, x7, x8].drop 3).take (Try.prog.cellsOf 3)) = [y4_0, y4_1, y4_2, y4_3, y4_4, y4_5][3]? := hf4 3 _ rfl
    rw [cells_Act_1] at q
    exact q
  obtain ⟨qi, e8, _, w8⟩ := DataW.trod_int Try.underlying3 g4_3
  have g4_4 : DataW.trod enc Try.prog W 0 (fun _ => true) true n4 3 [x7] = some y4_4 := by
    have q : DataW.trod enc Try.prog W 0 (fun _ => true) true n4 3 (([x3, x4, x5, x6, x7, x8].drop 4).take (Try.prog.cellsOf 3)) = [y4_0, y4_1, y4_2, y4_3, y4_4, y4_5][4]? := hf4 4 _ rfl
    rw [cells_Act_1] at q
    exact q
  obtain ⟨qm, e9, _, w9⟩ := DataW.trod_int Try.underlying3 g4_4
  have g4_5 : DataW.trod enc Try.prog W 0 (fun _ => true) true n4 9 [x8] = some y4_5 := by
    have q : DataW.trod enc Try.prog W 0 (fun _ => true) true n4 9 (([x3, x4, x5, x6, x7, x8].drop 5).take (Try.prog.cellsOf 9)) = [y4_0, y4_1, y4_2, y4_3, y4_4, y4_5][5]? := hf4 5 _ rfl
    rw [cells_Act_4] at q
    exact q
  obtain ⟨qd, e10, _, w10⟩ := DataW.trod_string Try.underlying9 g4_5
  have g0_4 : DataW.trod enc Try.prog W 0 (fun _ => true) true n0 35 [x9, x10, x11, x12] = some y0_4 := by
    have q : DataW.trod enc Try.prog W 0 (fun _ => true) true n0 35 (([x0, x1, x2, x3, x4, x5, x6, x7, x8, x9, x10, x11, x12, x13].drop 9).take (Try.prog.cellsOf 35)) = [y0_0, y0_1, y0_2, y0_3, y0_4, y0_5][4]? := hf0 4 _ rfl
    rw [cells_Act_5] at q
    exact q
  obtain ⟨ys11, n11, _, _, _, hyl11, hf11⟩ := DataW.trod_struct Try.underlying35 g0_4
  obtain ⟨y11_0, y11_1, y11_2, y11_3, rfl⟩ : ∃ y11_0 y11_1 y11_2 y11_3, ys11 = [y11_0, y11_1, y11_2, y11_3] := by
    match ys11, hyl11 with
    | [y11_0, y11_1, y11_2, y11_3], _ => exact ⟨_, _, _, _, rfl⟩
  have g11_0 : DataW.trod enc Try.prog W 0 (fun _ => true) true n11 3 [x9] = some y11_0 := by
    have q : DataW.trod enc Try.prog W 0 (fun _ => true) true n11 3 (([x9, x10, x11, x12].drop 0).take (Try.prog.cellsOf 3)) = [y11_0, y11_1, y11_2, y11_3][0]? := hf11 0 _ rfl
    rw [cells_Act_1] at q
    exact q
  obtain ⟨rc, e12, _, w12⟩ := DataW.trod_int Try.underlying3 g11_0
  have g11_1 : DataW.trod enc Try.prog W 0 (fun _ => true) true n11 3 [x10] = some y11_1 := by
    have q : DataW.trod enc Try.prog W 0 (fun _ => true) true n11 3 (([x9, x10, x11, x12].drop 1).take (Try.prog.cellsOf 3)) = [y11_0, y11_1, y11_2, y11_3][1]? := hf11 1 _ rfl
    rw [cells_Act_1] at q
    exact q
  obtain ⟨rv, e13, _, w13⟩ := DataW.trod_int Try.underlying3 g11_1
  have g11_2 : DataW.trod enc Try.prog W 0 (fun _ => true) true n11 9 [x11] = some y11_2 := by
    have q : DataW.trod enc Try.prog W 0 (fun _ => true) true n11 9 (([x9, x10, x11, x12].drop 2).take (Try.prog.cellsOf 9)) = [y11_0, y11_1, y11_2, y11_3][2]? := hf11 2 _ rfl
    rw [cells_Act_4] at q
    exact q
  obtain ⟨rd, e14, _, w14⟩ := DataW.trod_string Try.underlying9 g11_2
  have g11_3 : DataW.trod enc Try.prog W 0 (fun _ => true) true n11 33 [x12] = some y11_3 := by
    have q : DataW.trod enc Try.prog W 0 (fun _ => true) true n11 33 (([x9, x10, x11, x12].drop 3).take (Try.prog.cellsOf 33)) = [y11_0, y11_1, y11_2, y11_3][3]? := hf11 3 _ rfl
    rw [cells_Act_6] at q
    exact q
  obtain ⟨rA, rcap, rl, e15, p15, q15, s15, _⟩ := trod_ints_sl Try.underlying33 Try.underlying3 cells_Act_1 g11_3
  have g0_5 : DataW.trod enc Try.prog W 0 (fun _ => true) true n0 3 [x13] = some y0_5 := by
    have q : DataW.trod enc Try.prog W 0 (fun _ => true) true n0 3 (([x0, x1, x2, x3, x4, x5, x6, x7, x8, x9, x10, x11, x12, x13].drop 13).take (Try.prog.cellsOf 3)) = [y0_0, y0_1, y0_2, y0_3, y0_4, y0_5][5]? := hf0 5 _ rfl
    rw [cells_Act_1] at q
    exact q
  obtain ⟨at_, e16, _, w16⟩ := DataW.trod_int Try.underlying3 g0_5
  simp only [List.cons.injEq, and_true] at e1 e2 e3 e5 e6 e7 e8 e9 e10 e12 e13 e14 e15 e16
  subst e1 e2 e3 e5 e6 e7 e8 e9 e10 e12 e13 e14 e15 e16
  exact ⟨⟨cl, sq, ans, qc, qs, qk, qi, qm, qd, rc, rv, rd, rA, rcap, rl, at_⟩, rfl, s15, bounds_i64 w1, bounds_i64 w2, bounds_i64 w5, bounds_i64 w6, bounds_i64 w7, bounds_i64 w8, bounds_i64 w9, w10, bounds_i64 w12, bounds_i64 w13, w14, p15, q15, bounds_i64 w16⟩

theorem open_opsAct {H : Type} {enc : TypeId × Value → H} {W : World} {fuel : Nat} {cs : List Value} {x : DataW H × List MemPlace} (h : DataW.trod enc Try.prog W 0 (fun _ => true) true fuel 26 cs = some x) :
    ∃ (A : Option Addr) (l : List OpAct) (cap : Nat), cs = [.slice A l.length cap] ∧ l.length ≤ cap ∧ cap ≤ 9223372036854775807 ∧ SoAct W A l := by
  rcases open_slice Try.underlying26 h with ⟨rfl, _⟩ | ⟨a, len, cap, m, n, D, Pl, rfl, hb, hl, hm, hmm, hx, hi⟩
  · exact ⟨none, [], 0, rfl, by simp, by simp, fun j x hj => by simp at hj⟩
  · rw [cells_Act_0] at hi
    have hlm : len ≤ m := by rw [hmm]; split <;> omega
    have hall : ∀ j, j < len → ∃ x : OpAct, ∃ b o, some a = some ⟨b, o, none⟩ ∧ (∀ t, t < 14 → W.cell? ⟨b, o + j * 14 + t, none⟩ = x.vals[t]?) ∧ Sl i64 W x.rA x.rl ∧ x.ok := fun j hj => by
      obtain ⟨cs', hc, ht⟩ := hi j (by omega)
      obtain ⟨x, hx1, hx2⟩ := open_opAct ht
      obtain ⟨_, hl1, hat⟩ := World.cells?_some hc
      obtain ⟨cs0, hc0, _⟩ := hi 0 (by omega)
      obtain ⟨_, hl0, hat0⟩ := World.cells?_some hc0
      have h0 := hat0 (i := 0) (by omega)
      obtain ⟨b, o, f⟩ := a
      have hspot : f = none := by
        have hv : cs0[0]? = some (cs0[0]'(by omega)) := List.getElem?_eq_getElem (by omega)
        rw [hv] at h0
        simpa [Addr.add] using World.cell?_spot h0
      subst hspot
      refine ⟨x, b, o, rfl, fun t ht => ?_, hx2⟩
      have h1 := hat (i := t) (by omega)
      rw [Go.WideShapes.add_plain, Go.WideShapes.add_plain, hx1] at h1
      rw [h1, Array.getElem?_toList]
    obtain ⟨l, hl2, hq⟩ := list_choose len hall
    subst hl2
    exact ⟨some a, l, cap, rfl, hl, by unfold maxLen at hm; omega, hq⟩
end Go.Proofs.Ytnionfddejaalaa
