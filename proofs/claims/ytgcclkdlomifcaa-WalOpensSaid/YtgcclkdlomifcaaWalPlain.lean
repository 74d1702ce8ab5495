/-
  Records that were framed one behind the other are read in their order; behind the last whole frame nothing is.
-/
import Derived.Test.YtgcclkdlomifcaaWalTold
namespace Go.Proofs.Ytgcclkdlomifcaa
set_option linter.unusedVariables false
set_option linter.unusedSimpArgs false
open Go.RowKit

theorem numAt_frame (x r : List UInt8) (h : x.length ≤ 65535) : numAt (frameB x ++ r) = x.length := by
  unfold numAt frameB headB
  simp only [List.cons_append, List.getD_cons_zero, List.getD_cons_succ]
  rw [UInt8.toNat_ofNat', UInt8.toNat_ofNat']
  omega
theorem frameB_drop (x r : List UInt8) : (frameB x ++ r).drop 6 = x ++ r := by
  unfold frameB headB
  simp
theorem frameB_take (x r : List UInt8) : (frameB x ++ r).take (x.length + 6) = frameB x := by
  rw [← frameB_len x, List.take_left]
theorem stepB_frame (x r : List UInt8) (h1 : 1 ≤ x.length) (h2 : x.length ≤ 4096) : stepB (frameB x ++ r) = some x := by
  have hn := numAt_frame x r (by omega)
  have hl : (frameB x ++ r).length = x.length + 6 + r.length := by rw [List.length_append, frameB_len]
  unfold stepB
  rw [hn, frameB_drop, List.take_left, frameB_take, hl, if_pos ⟨by omega, h1, h2, by omega, rfl⟩]
theorem numAt_append (p q : List UInt8) (h : 1 < p.length) : numAt (p ++ q) = numAt p := by
  unfold numAt
  rw [List.getD_eq_getElem?_getD, List.getD_eq_getElem?_getD, List.getElem?_append_left (by omega), List.getElem?_append_left h, ← List.getD_eq_getElem?_getD, ← List.getD_eq_getElem?_getD]
theorem stepB_short {x p q : List UInt8} (h : frameB x = p ++ q) (hq : q ≠ []) (h2 : x.length ≤ 4096) : stepB p = none := by
  have hl := congrArg List.length h
  rw [frameB_len, List.length_append] at hl
  have hq1 := List.length_pos_iff.2 hq
  unfold stepB
  rw [if_neg]
  rintro ⟨h6, _, _, h4, _⟩
  have hp : numAt p = numAt (frameB x ++ []) := by
    rw [List.append_nil, h]
    exact (numAt_append p q (by omega)).symm
  rw [numAt_frame x [] (by omega)] at hp
  omega
theorem stepB_zero (r : List UInt8) : stepB (0 :: 0 :: r) = none := by
  unfold stepB
  rw [if_neg]
  rintro ⟨_, h, _⟩
  simp [numAt] at h
theorem stepB_nil : stepB [] = none := rfl

/-- frames one behind the other -/
def catB : List (List UInt8) → List UInt8
  | [] => []
  | x :: r => frameB x ++ catB r
theorem catB_append : ∀ (a b : List (List UInt8)), catB (a ++ b) = catB a ++ catB b
  | [], _ => rfl
  | x :: r, b => by rw [List.cons_append, catB, catB, catB_append r b, List.append_assoc]
def okR (xs : List (List UInt8)) : Prop := ∀ x ∈ xs, 1 ≤ x.length ∧ x.length ≤ 4096
def endsGo : Nat → List (List UInt8) → List (Nat × List UInt8)
  | _, [] => []
  | k, x :: r => (k + (x.length + 6), x) :: endsGo (k + (x.length + 6)) r
theorem endsGo_map : ∀ (xs : List (List UInt8)) (k : Nat), (endsGo k xs).map (·.2) = xs
  | [], _ => rfl
  | x :: r, k => by rw [endsGo, List.map_cons, endsGo_map r]
theorem endsGo_last : ∀ (xs : List (List UInt8)) (k : Nat) (h : xs ≠ []), endOf (endsGo k xs) = k + (catB xs).length
  | [x], k, _ => by simp [endsGo, endOf, catB, frameB_len]
  | x :: y :: r, k, _ => by
    have := endsGo_last (y :: r) (k + (x.length + 6)) (by simp)
    rw [endsGo]
    have e : endOf ((k + (x.length + 6), x) :: endsGo (k + (x.length + 6)) (y :: r)) = endOf (endsGo (k + (x.length + 6)) (y :: r)) := by
      unfold endOf
      rw [endsGo, List.getLast?_cons_cons]
    have hc : catB (x :: y :: r) = frameB x ++ catB (y :: r) := rfl
    rw [e, this, hc, List.length_append, frameB_len]
    omega
theorem walkGo_cat : ∀ (xs : List (List UInt8)) (f k : Nat) (r : List UInt8), okR xs → (catB xs ++ r).length ≤ f → stepB r = none → walkGo f k (catB xs ++ r) = endsGo k xs
  | [], f, k, r, _, _, h => by rw [catB, List.nil_append, walkGo_none h, endsGo]
  | x :: xs, f, k, r, hok, hf, h => by
    obtain ⟨h1, h2⟩ := hok x (List.mem_cons_self ..)
    have hs := stepB_frame x (catB xs ++ r) h1 h2
    rw [catB, List.append_assoc] at hf ⊢
    obtain ⟨f', _, e, hf'⟩ := walkGo_some (at_ := k) hs hf
    rw [e, endsGo]
    have hd : (frameB x ++ (catB xs ++ r)).drop (x.length + 6) = catB xs ++ r := by rw [← frameB_len x, List.drop_left]
    rw [hd] at hf' ⊢
    rw [walkGo_cat xs f' (k + (x.length + 6)) r (fun y hy => hok y (List.mem_cons_of_mem _ hy)) hf' h]
theorem frames_cat (xs : List (List UInt8)) (r : List UInt8) (hok : okR xs) (h : stepB r = none) : framesB (catB xs ++ r) = endsGo 0 xs := walkGo_cat xs _ 0 r hok (Nat.le_refl _) h
theorem read_cat (xs : List (List UInt8)) (r : List UInt8) (hok : okR xs) (h : stepB r = none) : readB (catB xs ++ r) = xs := by
  unfold readB
  rw [frames_cat xs r hok h, endsGo_map]
theorem end_cat (xs : List (List UInt8)) (r : List UInt8) (hok : okR xs) (h : stepB r = none) : endOf (framesB (catB xs ++ r)) = (catB xs).length := by
  rw [frames_cat xs r hok h]
  by_cases hx : xs = []
  · subst hx; rfl
  · rw [endsGo_last xs 0 hx, Nat.zero_add]
/-- cut off at any place, whole frames and a part of the next one stand there -/
theorem cat_cut : ∀ (xs : List (List UInt8)) (k : Nat), okR xs → k ≤ (catB xs).length → ∃ n r, n ≤ xs.length ∧ (catB xs).take k = catB (xs.take n) ++ r ∧ stepB r = none ∧ (catB (xs.take n)).length ≤ k ∧ (n < xs.length → k < (catB (xs.take (n + 1))).length)
  | [], k, _, hk => ⟨0, [], by simp, by simp [catB], rfl, by simp [catB], by simp⟩
  | x :: xs, k, hok, hk => by
    obtain ⟨h1, h2⟩ := hok x (List.mem_cons_self ..)
    by_cases h : k < x.length + 6
    · refine ⟨0, (catB (x :: xs)).take k, by simp, by simp [catB], ?_, by simp [catB], fun _ => by simp [catB, frameB_len]; omega⟩
      refine stepB_short (x := x) (p := (catB (x :: xs)).take k) (q := (frameB x).drop k) ?_ ?_ h2
      · rw [catB, List.take_append_of_le_length (by rw [frameB_len]; omega), List.take_append_drop]
      · intro e
        have := congrArg List.length e
        rw [List.length_drop, frameB_len] at this
        simp at this
        omega
    · rw [catB, List.length_append, frameB_len] at hk
      obtain ⟨n, r, hn, e, hs, hl, hlt⟩ := cat_cut xs (k - (x.length + 6)) (fun y hy => hok y (List.mem_cons_of_mem _ hy)) (by omega)
      refine ⟨n + 1, r, by simp; omega, ?_, hs, ?_, ?_⟩
      · rw [catB, List.take_append, frameB_len, e, List.take_of_length_le (by rw [frameB_len]; omega), List.take_succ_cons, catB, List.append_assoc]
      · rw [List.take_succ_cons, catB, List.length_append, frameB_len]; omega
      · intro h3
        have := hlt (by simpa using h3)
        rw [List.take_succ_cons, catB, List.length_append, frameB_len]
        omega
theorem catB_len_le : ∀ (xs : List (List UInt8)), okR xs → 7 * xs.length ≤ (catB xs).length
  | [], _ => by simp [catB]
  | x :: r, h => by
    have := catB_len_le r (fun y hy => h y (List.mem_cons_of_mem _ hy))
    have h1 := (h x (List.mem_cons_self ..)).1
    rw [catB, List.length_append, frameB_len, List.length_cons]
    omega
end Go.Proofs.Ytgcclkdlomifcaa
