/-
  What a law was given, opened: slices of ints, of bytes; a chain; a request.
-/
import Derived.Test.YtkdcbidbciognaaBase
import Derived.Lib.SmallJoins
namespace Go.Proofs.Ytkdcbidbciognaa
set_option maxRecDepth 20000
set_option linter.unusedVariables false
set_option linter.unusedSimpArgs false
open Go.RowKit Go.ChangeShapes Go.WideShapes Go.Joins Go.Deep

section
variable {H : Type} {enc : TypeId × Value → H} {P : Program} {w : World} {base : Nat} {spare : Nat → Bool} {held : Bool}

theorem trod_ints_sl {t e : TypeId} {k : IntKind} {fuel : Nat} {cs : List Value} {x : DataW H × List MemPlace} (ht : P.underlying t = some (.slice e)) (he : P.underlying e = some (.int k)) (hc : P.cellsOf e = 1)
    (h : DataW.trod enc P w base spare held fuel t cs = some x) :
    ∃ (A : Option Addr) (cap : Nat) (l : List Int), cs = [.slice A l.length cap] ∧ l.length ≤ cap ∧ cap ≤ 9223372036854775807 ∧ Sl (fun n => .int k n) w A l ∧ ∀ n ∈ l, (Lit.int k n).wf = true := by
  rcases Go.ChangeShapes.open_ints ht he hc h with ⟨rfl, _⟩ | ⟨a, len, cap, zs, rfl, _, hl, hm, hz, _, hcell, hwf⟩
  · exact ⟨none, 0, [], rfl, Nat.le_refl _, by omega, Sl.nil _ _ _, by simp⟩
  · have hlz : len ≤ zs.length := by rw [hz]; split <;> omega
    refine ⟨some a, cap, zs.take len, by simp [Nat.min_eq_left hlz], by simp; omega, by unfold maxLen at hm; omega, fun j v hj => ?_, fun n hn => hwf n (List.mem_of_mem_take hn)⟩
    rw [List.getElem?_take] at hj
    split at hj
    · have hj2 : j < zs.length := (List.getElem?_eq_some_iff.1 hj).1
      have hpos : 0 < zs.length := by omega
      obtain ⟨b, off, rfl, hat⟩ := ints_at hcell hpos
      refine ⟨b, off, rfl, ?_⟩
      rw [hat j hj2, List.getD, hj]
      rfl
    · cases hj

/-- a byte's cell -/
def u8 (b : UInt8) : Value := .int .u8 (b.toNat : Int)

theorem trod_bytes_sl {t e : TypeId} {fuel : Nat} {cs : List Value} {x : DataW H × List MemPlace} (ht : P.underlying t = some (.slice e)) (he : P.underlying e = some (.int .u8)) (hc : P.cellsOf e = 1)
    (h : DataW.trod enc P w base spare held fuel t cs = some x) :
    ∃ (A : Option Addr) (cap : Nat) (l : List UInt8), cs = [.slice A l.length cap] ∧ l.length ≤ cap ∧ cap ≤ 9223372036854775807 ∧ Sl u8 w A l := by
  obtain ⟨A, cap, l, rfl, h1, h2, h3, h4⟩ := trod_ints_sl ht he hc h
  refine ⟨A, cap, l.map fun n => UInt8.ofNat n.toNat, by simp, by simpa using h1, h2, fun j v hj => ?_⟩
  rw [List.getElem?_map] at hj
  obtain ⟨n, hn, rfl⟩ := Option.map_eq_some_iff.1 hj
  obtain ⟨b, o, rfl, hcell⟩ := h3 j n hn
  refine ⟨b, o, rfl, hcell.trans ?_⟩
  have hw := bounds_u8 (h4 n (List.mem_of_getElem? hn))
  unfold u8
  congr 2
  rw [UInt8.toNat_ofNat']
  omega
end

theorem cells_int : Try.prog.cellsOf 3 = 1 := by kernel_rfl
theorem cells_chain : Try.prog.cellsOf 26 = 2 := by kernel_rfl
/-- a chain that came in -/
theorem open_chain {H : Type} {enc : TypeId × Value → H} {W : World} {base : Nat} {r : Reach} {v : Value} {d : DataW H} {p : List MemPlace}
    (hval : Value.okWide Try.prog W r base 26 v) (h : DataW.Trod enc Try.prog W 0 (fun _ => true) true 26 v d p) :
    ∃ (ep : Int) (A : Option Addr) (cap : Nat) (l : List Int), v = .agg #[.int .i64 ep, .slice A l.length cap] ∧ (Lit.int .i64 ep).wf = true ∧ l.length ≤ cap ∧ cap ≤ 9223372036854775807 ∧ Sl i64 W A l ∧ ∀ n ∈ l, (Lit.int .i64 n).wf = true := by
  obtain ⟨c0, c1, y0, y1, m, rfl, _, _, hy0, hy1⟩ := open_agg2 Try.underlying26 (by kernel_rfl) cells_chain hval h
  obtain ⟨ep, e0, _, w0⟩ := DataW.trod_int Try.underlying3 hy0
  obtain ⟨A, cap, l, e1, h1, h2, h3, h4⟩ := trod_ints_sl Try.underlying24 Try.underlying3 cells_int hy1
  simp only [List.cons.injEq, and_true] at e0 e1
  subst e0; subst e1
  exact ⟨ep, A, cap, l, rfl, w0, h1, h2, h3, h4⟩
end Go.Proofs.Ytkdcbidbciognaa
