/-
  What the laws of wal were given, opened: a slice of records.
-/
import Derived.Test.YtgcclkdlomifcaaWalPlain
import Derived.Test.YtgcclkdlomifcaaOpenOps1
namespace Go.Proofs.Ytgcclkdlomifcaa
set_option linter.unusedVariables false
set_option linter.unusedSimpArgs false
set_option maxRecDepth 20000
open Go.RowKit Go.ChangeShapes Go.WideShapes Go.Joins Go.Deep

theorem cells_bytesT : Try.prog.cellsOf 22 = 1 := by kernel_rfl
theorem open_recs {H : Type} {enc : TypeId × Value → H} {W : World} {fuel : Nat} {cs : List Value} {x : DataW H × List MemPlace} (h : DataW.trod enc Try.prog W 0 (fun _ => true) true fuel 27 cs = some x) :
    ∃ (A : Option Addr) (xs : List (List UInt8)) (cap : Nat), cs = [.slice A xs.length cap] ∧ xs.length ≤ 9223372036854775807 ∧ Sls W A xs ∧ ∀ x ∈ xs, x.length ≤ 9223372036854775807 := by
  rcases open_slice Try.underlying27 h with ⟨rfl, _⟩ | ⟨a, len, cap, m, n, D, Pl, rfl, hb, hl, hm, hmm, hx, hi⟩
  · exact ⟨none, [], 0, rfl, by simp, fun j x hj => by simp at hj, fun x hx => by simp at hx⟩
  · rw [cells_bytesT] at hi
    have hlm : len ≤ m := by rw [hmm]; split <;> omega
    have hall : ∀ j, j < len → ∃ x : List UInt8, ∃ b o A' c', some a = some ⟨b, o, none⟩ ∧ W.cell? ⟨b, o + j, none⟩ = some (.slice A' x.length c') ∧ Sl u8 W A' x ∧ x.length ≤ 9223372036854775807 := fun j hj => by
      obtain ⟨cs', hc, ht⟩ := hi j (by omega)
      obtain ⟨A', c', x, rfl, hx1, hx2, hs⟩ := trod_bytes_sl Try.underlying22 Try.underlying5 cells_byte ht
      obtain ⟨_, _, hat⟩ := World.cells?_some hc
      obtain ⟨cs0, hc0, _⟩ := hi 0 (by omega)
      obtain ⟨_, hl0, hat0⟩ := World.cells?_some hc0
      have h0 := hat0 (i := 0) (by omega)
      obtain ⟨b, o, f⟩ := a
      have hspot : f = none := by
        have hv : cs0[0]? = some (cs0[0]'(by omega)) := List.getElem?_eq_getElem (by omega)
        rw [hv] at h0
        simpa [Addr.add] using World.cell?_spot h0
      subst hspot
      have h1 := hat (i := 0) (by omega)
      rw [Nat.mul_one] at h1
      rw [Go.WideShapes.add_plain, Go.WideShapes.add_plain, Nat.add_zero] at h1
      exact ⟨x, b, o, A', c', rfl, h1, hs, Nat.le_trans hx1 hx2⟩
    obtain ⟨l, hl2, hq⟩ := list_choose len hall
    subst hl2
    exact ⟨some a, l, cap, rfl, by unfold maxLen at hm; omega, fun j x hj => let ⟨b, o, A', c', h1, h2, h3, _⟩ := hq j x hj; ⟨b, o, A', c', h1, h2, h3⟩, fun x hx => by
      obtain ⟨j, hj, e⟩ := List.getElem_of_mem hx
      obtain ⟨_, _, _, _, _, _, _, h⟩ := hq j x (by rw [List.getElem?_eq_getElem hj, e])
      exact h⟩
/-- where each record ends -/
def endsZ (xs : List (List UInt8)) : List Int := (endsGo 0 xs).map fun e => (e.1 : Int)
theorem endsGo_append : ∀ (a b : List (List UInt8)) (k : Nat), endsGo k (a ++ b) = endsGo k a ++ endsGo (k + (catB a).length) b
  | [], b, k => by simp [endsGo, catB]
  | x :: r, b, k => by
    rw [List.cons_append, endsGo, endsGo, endsGo_append r b, catB, List.length_append, frameB_len, List.cons_append]
    simp only [Nat.add_assoc]
theorem endsGo_len (xs : List (List UInt8)) (k : Nat) : (endsGo k xs).length = xs.length := by
  have := congrArg List.length (endsGo_map xs k)
  simpa using this
theorem endsZ_snoc (xs : List (List UInt8)) (x : List UInt8) : endsZ (xs ++ [x]) = endsZ xs ++ [((catB (xs ++ [x])).length : Int)] := by
  unfold endsZ
  rw [endsGo_append, List.map_append, catB_append]
  simp [endsGo, catB, frameB_len]
theorem endsZ_len (xs : List (List UInt8)) : (endsZ xs).length = xs.length := by rw [endsZ, List.length_map, endsGo_len]
theorem endsZ_get (xs : List (List UInt8)) (i : Nat) (h : i < xs.length) : (endsZ xs)[i]? = some (((catB (xs.take (i + 1))).length : Nat) : Int) := by
  have e : xs = (xs.take i ++ [xs[i]]) ++ xs.drop (i + 1) := by
    rw [List.append_assoc, List.singleton_append, ← List.drop_eq_getElem_cons h, List.take_append_drop]
  have ht : xs.take (i + 1) = xs.take i ++ [xs[i]] := by rw [List.take_add_one, List.getElem?_eq_getElem h]; rfl
  have hz : endsZ xs = endsZ (xs.take i ++ [xs[i]]) ++ (endsGo (0 + (catB (xs.take i ++ [xs[i]])).length) (xs.drop (i + 1))).map fun e => (e.1 : Int) := by
    unfold endsZ
    rw [← List.map_append, ← endsGo_append, ← e]
  have hl : (endsZ (xs.take i)).length = i := by rw [endsZ_len, List.length_take]; omega
  rw [hz, endsZ_snoc, List.append_assoc, List.getElem?_append_right (by omega), hl, ht]
  simp
theorem catB_mono (xs : List (List UInt8)) {i j : Nat} (h : i ≤ j) : (catB (xs.take i)).length ≤ (catB (xs.take j)).length := by
  have e : xs.take j = xs.take i ++ (xs.take j).drop i := by
    have := List.take_append_drop i (xs.take j)
    rw [List.take_take, Nat.min_eq_left h] at this
    exact this.symm
  rw [e, catB_append, List.length_append]
  omega
theorem catB_le (xs : List (List UInt8)) (m : Nat) (h : ∀ x ∈ xs, x.length ≤ m) : (catB xs).length ≤ (m + 6) * xs.length := by
  induction xs with
  | nil => simp [catB]
  | cons x r ih =>
    have h1 := h x (List.mem_cons_self ..)
    have h2 := ih (fun y hy => h y (List.mem_cons_of_mem _ hy))
    rw [catB, List.length_append, frameB_len, List.length_cons, Nat.mul_add]
    omega
end Go.Proofs.Ytgcclkdlomifcaa
