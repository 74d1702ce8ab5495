/-
  What the law DiskPlays was given, opened: a slice of steps.
-/
import Derived.Test.YtbjekbbokhjfmaaOpenReq
import Derived.Deep.Fields
import Derived.ChangeSame
namespace Go.Proofs.Ytbjekbbokhjfmaa
set_option linter.unusedVariables false
set_option linter.unusedSimpArgs false
open Go.RowKit Go.ChangeShapes Go.WideShapes Go.Joins Go.Deep

section
variable {H : Type} {enc : TypeId × Value → H} {P : Program} {w : World} {base : Nat} {spare : Nat → Bool} {held : Bool}
theorem open_slice_fields {t e : TypeId} {fs : Array Field} {fuel : Nat} {cs : List Value} {x : DataW H × List MemPlace} (ht : P.underlying t = some (.slice e)) (he : P.underlying e = some (.struct fs))
    (hone : oneCellFields P fs = true) (hC : P.cellsOf e = fs.size) (h : DataW.trod enc P w base spare held fuel t cs = some x) :
    (cs = [.slice none 0 0] ∧ x = (.nil, [])) ∨
    ∃ (a : Addr) (len cap m : Nat), cs = [.slice (some a) len cap] ∧ len ≤ cap ∧ cap ≤ maxLen ∧ len ≤ m ∧
      ∀ i, i < m → ∀ (j : Nat) (f : Field), fs[j]? = some f → ∃ (v : Value) (y : DataW H × List MemPlace) (n : Nat), w.cell? (a.add (i * fs.size + j)) = some v ∧ DataW.trod enc P w base spare held n f.type [v] = some y := by
  rcases open_slice ht h with h0 | ⟨a, len, cap, m, n, D, Pl, hcs, hb, hl, hm, hmm, hx, hi⟩
  · exact .inl h0
  · refine .inr ⟨a, len, cap, m, hcs, hl, hm, by rw [hmm]; split <;> omega, fun i him j f hj => ?_⟩
    obtain ⟨cs', hc, ht'⟩ := hi i him
    rw [hC] at hc
    obtain ⟨ys, n', hn', hy, hlen, hyl, hf⟩ := DataW.trod_struct he ht'
    obtain ⟨_, hcl, hat⟩ := World.cells?_some hc
    obtain ⟨ho, hk⟩ := hone_of hone j f hj
    have hjl : j < fs.size := (Array.getElem?_eq_some_iff.1 hj).1
    have hcell := hat j hjl
    have hv : cs'[j]? = some (cs'[j]'(by omega)) := List.getElem?_eq_getElem (by omega)
    have h1 := hf j f hj
    rw [ho, hk] at h1
    have hone' : (cs'.drop j).take 1 = [cs'[j]'(by omega)] := by
      rw [List.drop_eq_getElem_cons (by omega)]
      rfl
    rw [hone'] at h1
    have hys : ys[j]? = some (ys[j]'(by omega)) := List.getElem?_eq_getElem (by omega)
    refine ⟨_, _, n', ?_, h1.trans hys⟩
    rw [← Go.Deep.add_add, hcell, hv]
end

/-- a slice of steps reads as so many: each its kind, its number, its bytes -/
def Sop (w : World) (A : Option Addr) (n : Nat) : Prop :=
  ∀ j, j < n → ∃ b o, A = some ⟨b, o, none⟩ ∧ ∃ (k m : Int) (B : Option Addr) (cap : Nat) (l : List UInt8), w.cell? ⟨b, o + j * 3, none⟩ = some (.int .i64 k) ∧ w.cell? ⟨b, o + j * 3 + 1, none⟩ = some (.int .i64 m) ∧ w.cell? ⟨b, o + j * 3 + 2, none⟩ = some (.slice B l.length cap) ∧
    Sl u8 w B l ∧ l.length ≤ cap ∧ cap ≤ 9223372036854775807 ∧ -9223372036854775808 ≤ m ∧ m ≤ 9223372036854775807
theorem Sop.stay {w w' : World} {A : Option Addr} {n : Nat} (h : Sop w A n) (hb : Below w.heap.size w w') : Sop w' A n := fun j hj =>
  let ⟨b, o, e, k, m, B, cap, l, c0, c1, c2, hs, r⟩ := h j hj
  ⟨b, o, e, k, m, B, cap, l, cell_stay hb c0, cell_stay hb c1, cell_stay hb c2, hs.stay hb, r⟩

theorem open_ops {H : Type} {enc : TypeId × Value → H} {W : World} {fuel : Nat} {cs : List Value} {x : DataW H × List MemPlace} (h : DataW.trod enc Try.prog W 0 (fun _ => true) true fuel 50 cs = some x) :
    ∃ (A : Option Addr) (n cap : Nat), cs = [.slice A n cap] ∧ n ≤ 9223372036854775807 ∧ Sop W A n := by
  rcases open_slice_fields Try.underlying50 Try.underlying58 (by kernel_rfl) (by kernel_rfl) h with ⟨rfl, _⟩ | ⟨a, len, cap, m, rfl, h1, h2, h3, hf⟩
  · exact ⟨none, 0, 0, rfl, by omega, fun j hj => absurd hj (by omega)⟩
  · refine ⟨some a, len, cap, rfl, by unfold maxLen at h2; omega, fun j hj => ?_⟩
    obtain ⟨v0, y0, n0, c0, t0⟩ := hf j (by omega) 0 _ rfl
    obtain ⟨v1, y1, n1, c1, t1⟩ := hf j (by omega) 1 _ rfl
    obtain ⟨v2, y2, n2, c2, t2⟩ := hf j (by omega) 2 _ rfl
    obtain ⟨k, e0, _, w0⟩ := DataW.trod_int Try.underlying3 t0
    obtain ⟨m', e1, _, w1⟩ := DataW.trod_int Try.underlying3 t1
    obtain ⟨B, cap', l, e2, g1, g2, g3⟩ := trod_bytes_sl Try.underlying56 Try.underlying5 (by kernel_rfl) t2
    simp only [List.cons.injEq, and_true] at e0 e1 e2
    subst e0 e1 e2
    obtain ⟨vz, yz, nz, cz, _⟩ := hf 0 (by omega) 0 _ rfl
    obtain ⟨b, o, f⟩ := a
    have hspot : f = none := by simpa [Addr.add] using World.cell?_spot cz
    subst hspot
    rw [Go.WideShapes.add_plain] at c0 c1 c2
    have hw := bounds_i64 w1
    exact ⟨b, o, rfl, k, m', B, cap', l, c0, c1, c2, g3, g1, g2, by omega, by omega⟩
end Go.Proofs.Ytbjekbbokhjfmaa
