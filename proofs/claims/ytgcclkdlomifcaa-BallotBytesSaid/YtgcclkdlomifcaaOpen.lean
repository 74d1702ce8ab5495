/-
  What a law was given, opened: slices of ints, of bytes; a chain; a request.
-/
import Derived.Test.YtgcclkdlomifcaaBase
import Derived.Lib.SmallJoins
namespace Go.Proofs.Ytgcclkdlomifcaa
set_option linter.unusedVariables false
set_option linter.unusedSimpArgs false
open Go.RowKit Go.ChangeShapes Go.WideShapes Go.Joins Go.Deep

section
variable {H : Type} {enc : TypeId × Value → H} {P : Program} {w : World} {base : Nat} {spare : Nat → Bool} {held : Bool}

theorem trod_ints_sl {t e : TypeId} {k : IntKind} {fuel : Nat} {cs : List Value} {x : DataW H × List MemPlace} (ht : P.underlying t = some (.slice e)) (he : P.underlying e = some (.int k)) (hc : P.cellsOf e = 1)
    (h : DataW.trod enc P w base spare held fuel t cs = some x) :
    ∃ (A : Option Addr) (cap : Nat) (l : List Int), cs = [.slice A l.length cap] ∧ l.length ≤ cap ∧ cap ≤ 9223372036854775807 ∧ Sl (fun n => .int k n) w A l ∧ ∀ n ∈ l, (Lit.int k n).wf = true := by
  rcases Go.ChangeShapes.open_ints ht he hc h with ⟨rfl, _⟩ | ⟨a, len, cap, zs, rfl, _, hl, hm, hz, _, hcell, hwf⟩
  · exact ⟨none, 0, [], rfl, Nat.le_refl _, by omega, Sl.nil _ _ _, by simp⟩
  · have hlz : len ≤ zs.length := by rw [hz]; split <;> omega
    refine ⟨some a, cap, zs.take len, by simp [Nat.min_eq_left hlz], by simp; omega, by unfold maxLen at hm; omega, fun j v hj => ?_, fun n hn => hwf n (List.mem_of_mem_take hn)⟩
    rw [List.getElem?_take] at hj
    split at hj
    · have hj2 : j < zs.length := (List.getElem?_eq_some_iff.1 hj).1
      have hpos : 0 < zs.length := by omega
      obtain ⟨b, off, rfl, hat⟩ := ints_at hcell hpos
      refine ⟨b, off, rfl, ?_⟩
      rw [hat j hj2, List.getD, hj]
      rfl
    · cases hj

/-- a byte's cell -/
def u8 (b : UInt8) : Value := .int .u8 (b.toNat : Int)

theorem trod_bytes_sl {t e : TypeId} {fuel : Nat} {cs : List Value} {x : DataW H × List MemPlace} (ht : P.underlying t = some (.slice e)) (he : P.underlying e = some (.int .u8)) (hc : P.cellsOf e = 1)
    (h : DataW.trod enc P w base spare held fuel t cs = some x) :
    ∃ (A : Option Addr) (cap : Nat) (l : List UInt8), cs = [.slice A l.length cap] ∧ l.length ≤ cap ∧ cap ≤ 9223372036854775807 ∧ Sl u8 w A l := by
  obtain ⟨A, cap, l, rfl, h1, h2, h3, h4⟩ := trod_ints_sl ht he hc h
  refine ⟨A, cap, l.map fun n => UInt8.ofNat n.toNat, by simp, by simpa using h1, h2, fun j v hj => ?_⟩
  rw [List.getElem?_map] at hj
  obtain ⟨n, hn, rfl⟩ := Option.map_eq_some_iff.1 hj
  obtain ⟨b, o, rfl, hcell⟩ := h3 j n hn
  refine ⟨b, o, rfl, hcell.trans ?_⟩
  have hw := bounds_u8 (h4 n (List.mem_of_getElem? hn))
  unfold u8
  congr 2
  rw [UInt8.toNat_ofNat']
  omega
end

end Go.Proofs.Ytgcclkdlomifcaa
