/-
  What the laws of the client were given, opened: a slice of steps.
-/
import Derived.Test.YtnionfddejaalaaOpen
import Derived.Test.YtnionfddejaalaaOpenReq
import Derived.Test.YtnionfddejaalaaOpenOps1
import Derived.Test.YtnionfddejaalaaMayChain
import Derived.Deep.Fields
import Derived.ChangeSame
namespace Go.Proofs.Ytnionfddejaalaa
set_option linter.unusedVariables false
set_option linter.unusedSimpArgs false
set_option maxRecDepth 20000
open Go.RowKit Go.ChangeShapes Go.WideShapes Go.Joins Go.Deep

structure Op21 where
  kind : Int
  now : Int
  seq : Int
  c : Int
  s : Int
  k : Int
  i : Int
  m : Int
  d : ByteArray
  ep : Int
  A : Option Addr
  cap : Nat
  l : List Int
def Op21.vals (x : Op21) : Array Value := #[.int .i64 x.kind, .int .i64 x.now, .int .i64 x.seq, .int .i64 x.c, .int .i64 x.s, .int .i64 x.k, .int .i64 x.i, .int .i64 x.m, .string x.d, .int .i64 x.ep, .slice x.A x.l.length x.cap]
def Op21.ok (x : Op21) : Prop := x.now ≤ 9223372036854775807 ∧ x.d.size ≤ maxLen ∧ x.l.length ≤ x.cap ∧ x.cap ≤ 9223372036854775807
def So21 (w : World) (A : Option Addr) (xs : List Op21) : Prop :=
  ∀ (j : Nat) (x : Op21), xs[j]? = some x → ∃ b o, A = some ⟨b, o, none⟩ ∧ (∀ t, t < 11 → w.cell? ⟨b, o + j * 11 + t, none⟩ = x.vals[t]?) ∧ Sl i64 w x.A x.l ∧ x.ok
theorem So21.stay {w w' : World} {A : Option Addr} {xs : List Op21} (h : So21 w A xs) (hb : Below w.heap.size w w') : So21 w' A xs := fun j x hj =>
  let ⟨b, o, e, c, hs, r⟩ := h j x hj
  ⟨b, o, e, fun t ht => by
    have h1 := c t ht
    have h2 : ∃ v, x.vals[t]? = some v := ⟨x.vals[t]'(by show t < 11; exact ht), Array.getElem?_eq_getElem (by show t < 11; exact ht)⟩
    obtain ⟨v, hv⟩ := h2
    rw [hv] at h1 ⊢
    exact cell_stay hb h1, hs.stay hb, r⟩

theorem cells_op21 : Try.prog.cellsOf 63 = 11 := by kernel_rfl
theorem cells_str21 : Try.prog.cellsOf 9 = 1 := by kernel_rfl
theorem cells_ints21 : Try.prog.cellsOf 33 = 1 := by kernel_rfl
theorem open_op21 {H : Type} {enc : TypeId × Value → H} {W : World} {fuel : Nat} {cs : List Value} {x : DataW H × List MemPlace} (h : DataW.trod enc Try.prog W 0 (fun _ => true) true fuel 63 cs = some x) :
    ∃ x : Op21, cs = x.vals.toList ∧ Sl i64 W x.A x.l ∧ x.ok := by
  obtain ⟨ys, n, _, _, hlen, hyl, hf⟩ := DataW.trod_struct Try.underlying63 h
  rw [cells_op21] at hlen
  match cs, hlen with
  | [x0, x1, x2, x3, x4, x5, x6, x7, x8, x9, x10], _ =>
    match ys, hyl with
    | [y0, y1, y2, y3, y4], _ =>
      have f0 : DataW.trod enc Try.prog W 0 (fun _ => true) true n 3 [x0] = some y0 := by
        have q : DataW.trod enc Try.prog W 0 (fun _ => true) true n 3 (([x0, x1, x2, x3, x4, x5, x6, x7, x8, x9, x10].drop 0).take (Try.prog.cellsOf 3)) = [y0, y1, y2, y3, y4][0]? := hf 0 _ rfl
        rw [cells_int] at q
        exact q
      have f1 : DataW.trod enc Try.prog W 0 (fun _ => true) true n 3 [x1] = some y1 := by
        have q : DataW.trod enc Try.prog W 0 (fun _ => true) true n 3 (([x0, x1, x2, x3, x4, x5, x6, x7, x8, x9, x10].drop 1).take (Try.prog.cellsOf 3)) = [y0, y1, y2, y3, y4][1]? := hf 1 _ rfl
        rw [cells_int] at q
        exact q
      have f2 : DataW.trod enc Try.prog W 0 (fun _ => true) true n 3 [x2] = some y2 := by
        have q : DataW.trod enc Try.prog W 0 (fun _ => true) true n 3 (([x0, x1, x2, x3, x4, x5, x6, x7, x8, x9, x10].drop 2).take (Try.prog.cellsOf 3)) = [y0, y1, y2, y3, y4][2]? := hf 2 _ rfl
        rw [cells_int] at q
        exact q
      have f3 : DataW.trod enc Try.prog W 0 (fun _ => true) true n 29 [x3, x4, x5, x6, x7, x8] = some y3 := by
        have q : DataW.trod enc Try.prog W 0 (fun _ => true) true n 29 (([x0, x1, x2, x3, x4, x5, x6, x7, x8, x9, x10].drop 3).take (Try.prog.cellsOf 29)) = [y0, y1, y2, y3, y4][3]? := hf 3 _ rfl
        rw [cells_req] at q
        exact q
      have f4 : DataW.trod enc Try.prog W 0 (fun _ => true) true n 59 [x9, x10] = some y4 := by
        have q : DataW.trod enc Try.prog W 0 (fun _ => true) true n 59 (([x0, x1, x2, x3, x4, x5, x6, x7, x8, x9, x10].drop 9).take (Try.prog.cellsOf 59)) = [y0, y1, y2, y3, y4][4]? := hf 4 _ rfl
        rw [cells_chain] at q
        exact q
      obtain ⟨kind, e0, _, w0⟩ := DataW.trod_int Try.underlying3 f0
      obtain ⟨now, e1, _, w1⟩ := DataW.trod_int Try.underlying3 f1
      obtain ⟨seq, e2, _, w2⟩ := DataW.trod_int Try.underlying3 f2
      obtain ⟨zs, n3, _, _, _, hzl, hg⟩ := DataW.trod_struct Try.underlying29 f3
      obtain ⟨vs, n4, _, _, _, hvl, hc⟩ := DataW.trod_struct Try.underlying59 f4
      match zs, hzl with
      | [z0, z1, z2, z3, z4, z5], _ =>
        match vs, hvl with
        | [v0, v1], _ =>
          have g0 : DataW.trod enc Try.prog W 0 (fun _ => true) true n3 3 [x3] = some z0 := by
            have q : DataW.trod enc Try.prog W 0 (fun _ => true) true n3 3 (([x3, x4, x5, x6, x7, x8].drop 0).take (Try.prog.cellsOf 3)) = [z0, z1, z2, z3, z4, z5][0]? := hg 0 _ rfl
            rw [cells_int] at q
            exact q
          have g1 : DataW.trod enc Try.prog W 0 (fun _ => true) true n3 3 [x4] = some z1 := by
            have q : DataW.trod enc Try.prog W 0 (fun _ => true) true n3 3 (([x3, x4, x5, x6, x7, x8].drop 1).take (Try.prog.cellsOf 3)) = [z0, z1, z2, z3, z4, z5][1]? := hg 1 _ rfl
            rw [cells_int] at q
            exact q
          have g2 : DataW.trod enc Try.prog W 0 (fun _ => true) true n3 3 [x5] = some z2 := by
            have q : DataW.trod enc Try.prog W 0 (fun _ => true) true n3 3 (([x3, x4, x5, x6, x7, x8].drop 2).take (Try.prog.cellsOf 3)) = [z0, z1, z2, z3, z4, z5][2]? := hg 2 _ rfl
            rw [cells_int] at q
            exact q
          have g3 : DataW.trod enc Try.prog W 0 (fun _ => true) true n3 3 [x6] = some z3 := by
            have q : DataW.trod enc Try.prog W 0 (fun _ => true) true n3 3 (([x3, x4, x5, x6, x7, x8].drop 3).take (Try.prog.cellsOf 3)) = [z0, z1, z2, z3, z4, z5][3]? := hg 3 _ rfl
            rw [cells_int] at q
            exact q
          have g4 : DataW.trod enc Try.prog W 0 (fun _ => true) true n3 3 [x7] = some z4 := by
            have q : DataW.trod enc Try.prog W 0 (fun _ => true) true n3 3 (([x3, x4, x5, x6, x7, x8].drop 4).take (Try.prog.cellsOf 3)) = [z0, z1, z2, z3, z4, z5][4]? := hg 4 _ rfl
            rw [cells_int] at q
            exact q
          have g5 : DataW.trod enc Try.prog W 0 (fun _ => true) true n3 9 [x8] = some z5 := by
            have q : DataW.trod enc Try.prog W 0 (fun _ => true) true n3 9 (([x3, x4, x5, x6, x7, x8].drop 5).take (Try.prog.cellsOf 9)) = [z0, z1, z2, z3, z4, z5][5]? := hg 5 _ rfl
            rw [cells_str21] at q
            exact q
          have c0 : DataW.trod enc Try.prog W 0 (fun _ => true) true n4 3 [x9] = some v0 := by
            have q : DataW.trod enc Try.prog W 0 (fun _ => true) true n4 3 (([x9, x10].drop 0).take (Try.prog.cellsOf 3)) = [v0, v1][0]? := hc 0 _ rfl
            rw [cells_int] at q
            exact q
          have c1 : DataW.trod enc Try.prog W 0 (fun _ => true) true n4 33 [x10] = some v1 := by
            have q : DataW.trod enc Try.prog W 0 (fun _ => true) true n4 33 (([x9, x10].drop 1).take (Try.prog.cellsOf 33)) = [v0, v1][1]? := hc 1 _ rfl
            rw [cells_ints21] at q
            exact q
          obtain ⟨c, a0, _, _⟩ := DataW.trod_int Try.underlying3 g0
          obtain ⟨s, a1, _, _⟩ := DataW.trod_int Try.underlying3 g1
          obtain ⟨k, a2, _, _⟩ := DataW.trod_int Try.underlying3 g2
          obtain ⟨i, a3, _, _⟩ := DataW.trod_int Try.underlying3 g3
          obtain ⟨m, a4, _, _⟩ := DataW.trod_int Try.underlying3 g4
          obtain ⟨d, a5, _, hd⟩ := DataW.trod_string Try.underlying9 g5
          obtain ⟨ep, b0, _, _⟩ := DataW.trod_int Try.underlying3 c0
          obtain ⟨A, cap, l, b1, q1, q2, q3, q4⟩ := trod_ints_sl Try.underlying33 Try.underlying3 cells_int c1
          simp only [List.cons.injEq, and_true] at e0 e1 e2 a0 a1 a2 a3 a4 a5 b0 b1
          subst e0 e1 e2 a0 a1 a2 a3 a4 a5 b0 b1
          have hw := bounds_i64 w1
          exact ⟨⟨kind, now, seq, c, s, k, i, m, d, ep, A, cap, l⟩, rfl, q3, hw.2, hd, q1, q2⟩

theorem open_ops21 {H : Type} {enc : TypeId × Value → H} {W : World} {fuel : Nat} {cs : List Value} {x : DataW H × List MemPlace} (h : DataW.trod enc Try.prog W 0 (fun _ => true) true fuel 53 cs = some x) :
    ∃ (A : Option Addr) (l : List Op21) (cap : Nat), cs = [.slice A l.length cap] ∧ l.length ≤ 9223372036854775807 ∧ So21 W A l := by
  rcases open_slice Try.underlying53 h with ⟨rfl, _⟩ | ⟨a, len, cap, m, n, D, Pl, rfl, hb, hl, hm, hmm, hx, hi⟩
  · exact ⟨none, [], 0, rfl, by simp, fun j x hj => by simp at hj⟩
  · rw [cells_op21] at hi
    have hlm : len ≤ m := by rw [hmm]; split <;> omega
    have hall : ∀ j, j < len → ∃ x : Op21, ∃ b o, some a = some ⟨b, o, none⟩ ∧ (∀ t, t < 11 → W.cell? ⟨b, o + j * 11 + t, none⟩ = x.vals[t]?) ∧ Sl i64 W x.A x.l ∧ x.ok := fun j hj => by
      obtain ⟨cs', hc, ht⟩ := hi j (by omega)
      obtain ⟨x, hx1, hx2, hx3⟩ := open_op21 ht
      obtain ⟨_, hl1, hat⟩ := World.cells?_some hc
      obtain ⟨cs0, hc0, _⟩ := hi 0 (by omega)
      obtain ⟨_, hl0, hat0⟩ := World.cells?_some hc0
      have h0 := hat0 (i := 0) (by omega)
      obtain ⟨b, o, f⟩ := a
      have hspot : f = none := by
        have hv : cs0[0]? = some (cs0[0]'(by omega)) := List.getElem?_eq_getElem (by omega)
        rw [hv] at h0
        simpa [Addr.add] using World.cell?_spot h0
      subst hspot
      refine ⟨x, b, o, rfl, fun t ht => ?_, hx2, hx3⟩
      have h1 := hat (i := t) (by omega)
      rw [Go.WideShapes.add_plain, Go.WideShapes.add_plain, hx1] at h1
      rw [h1, Array.getElem?_toList]
    obtain ⟨l, hl2, hq⟩ := list_choose len hall
    subst hl2
    exact ⟨some a, l, cap, rfl, by unfold maxLen at hm; omega, hq⟩
end Go.Proofs.Ytnionfddejaalaa
