/-
  Walks of the document's reader, further: a text, a yes; and the program's reader answers the same.
-/
import Derived.Test.YtnionfddejaalaaRefRn
namespace Go.Proofs.Ytnionfddejaalaa
set_option linter.unusedVariables false
set_option linter.unusedSimpArgs false
open Go.RowKit

def rfText (l : List UInt8) (bad : Bool) (most : Nat) : List UInt8 × List UInt8 × Bool :=
  if (rfNum l bad most).2.2 then ([], [], true)
  else if (rfNum l bad most).2.1.length < (rfNum l bad most).1 then ([], [], true)
  else ((rfNum l bad most).2.1.take (rfNum l bad most).1, (rfNum l bad most).2.1.drop (rfNum l bad most).1, false)
def rfYes (l : List UInt8) (bad : Bool) : Bool × List UInt8 × Bool :=
  if bad then (false, [], true) else match l with | [] => (false, [], true) | c :: r => if 1 < c.toNat then (false, [], true) else (decide (c.toNat = 1), r, false)
theorem rfNum_len (l : List UInt8) (bad : Bool) (most : Nat) : (rfNum l bad most).2.1.length ≤ l.length ∧ (rfNum l bad most).1 ≤ most := by
  unfold rfNum
  split
  · simp
  · split
    · rename_i v r h
      have := rdGo_len most l 0 0 _ h
      simpa using this
    · simp
theorem str_extract (l : List UInt8) (a b : Nat) : (str l).extract a b = str ((l.drop a).take (b - a)) := by
  simp [str, ByteArray.ext_iff]
theorem str_back (l : List UInt8) (k : Nat) : (str l).extract k (str l).size = str (l.drop k) := by
  rw [str_extract, str_size, List.take_of_length_le (by simp)]

/-! ### The two readers answer alike -/
/-- both wrong, or both right with the same bytes left -/
def Rel (x y : List UInt8 × Bool) : Prop := (x.2 = false ∧ y.2 = false ∧ x.1 = y.1) ∨ (x.2 = true ∧ y.2 = true)
theorem rel_num {l l' : List UInt8} {b b' : Bool} (h : Rel (l, b) (l', b')) (most : Nat) : (rdNum l b most).1 = (rfNum l' b' most).1 ∧ Rel (rdNum l b most).2 (rfNum l' b' most).2 := by
  rcases h with ⟨h1, h2, h3⟩ | ⟨h1, h2⟩
  · simp only at h1 h2 h3
    subst h1 h2 h3
    unfold rdNum rfNum
    simp only [Bool.false_eq_true, if_false]
    cases rdGo most 0 0 l with
    | some x => exact ⟨rfl, .inl ⟨rfl, rfl, rfl⟩⟩
    | none => exact ⟨rfl, .inr ⟨rfl, rfl⟩⟩
  · simp only at h1 h2
    subst h1 h2
    exact ⟨rfl, .inr ⟨rfl, rfl⟩⟩
theorem rel_text {l l' : List UInt8} {b b' : Bool} (h : Rel (l, b) (l', b')) (most : Nat) : (rdText l b most).1 = (rfText l' b' most).1 ∧ Rel (rdText l b most).2 (rfText l' b' most).2 := by
  have := rel_num h most
  unfold rdText rfText
  generalize rdNum l b most = x at *
  generalize rfNum l' b' most = y at *
  obtain ⟨v, L, c⟩ := x
  obtain ⟨v', L', c'⟩ := y
  obtain ⟨h1, h2⟩ := this
  simp only at *
  subst h1
  rcases h2 with ⟨h1, h2, h3⟩ | ⟨h1, h2⟩
  · simp only at h1 h2 h3
    subst h1 h2 h3
    simp only [Bool.false_eq_true, if_false]
    split
    · exact ⟨rfl, .inr ⟨rfl, rfl⟩⟩
    · exact ⟨rfl, .inl ⟨rfl, rfl, rfl⟩⟩
  · simp only at h1 h2
    subst h1 h2
    exact ⟨rfl, .inr ⟨rfl, rfl⟩⟩
theorem rdGo_low (most : Nat) : ∀ (l : List UInt8) (i v : Nat) (x : Nat × List UInt8), rdGo most i v l = some x → 0 < i → 2 ^ (7 * i) ≤ x.1
  | [], _, _, _, h, _ => by simp [rdGo] at h
  | c :: r, i, v, x, h, hi => by
    rw [rdGo] at h
    split at h
    · cases h
    · split at h
      · have := rdGo_low most r _ _ x h (by omega)
        rw [pow_next] at this
        have hp : 0 < 2 ^ (7 * i) := Nat.pow_pos (by omega)
        omega
      · split at h
        · cases h
        · rename_i h1 h2 h3
          injection h with h
          subst h
          have hc : 1 ≤ c.toNat % 128 := by omega
          have := Nat.mul_le_mul_right (2 ^ (7 * i)) hc
          simp only
          omega
theorem rel_yes {l l' : List UInt8} {b b' : Bool} (h : Rel (l, b) (l', b')) : decide ((rdNum l b 1).1 = 1) = (rfYes l' b').1 ∧ Rel (rdNum l b 1).2 (rfYes l' b').2 := by
  rcases h with ⟨h1, h2, h3⟩ | ⟨h1, h2⟩
  · simp only at h1 h2 h3
    subst h1 h2 h3
    unfold rdNum rfYes
    simp only [Bool.false_eq_true, if_false]
    cases l with
    | nil => exact ⟨by simp [rdGo], .inr ⟨by simp [rdGo], rfl⟩⟩
    | cons c r =>
      have hn : 1 < c.toNat → rdGo 1 0 0 (c :: r) = none := fun h1 => by
        cases hg : rdGo 1 0 0 (c :: r) with
        | none => rfl
        | some x =>
          have h2 := (rdGo_len 1 _ _ _ x hg).2
          rw [rdGo] at hg
          split at hg
          · cases hg
          · split at hg
            · have := rdGo_low 1 r _ _ x hg (by omega)
              have e : (2 : Nat) ^ (7 * (0 + 1)) = 128 := by decide
              omega
            · split at hg
              · cases hg
              · rename_i h3 h4 h5
                exact absurd (.inr (by omega)) h5
      by_cases h1 : 1 < c.toNat
      · rw [hn h1]
        simp only [if_pos h1]
        exact ⟨rfl, .inr ⟨rfl, rfl⟩⟩
      · have e : rdGo 1 0 0 (c :: r) = some (c.toNat, r) := by
          rw [rdGo, if_neg (by omega), if_neg (by omega), if_neg (by omega)]
          congr 2
          omega
        rw [e]
        simp only [if_neg h1]
        exact ⟨trivial, .inl ⟨rfl, rfl, rfl⟩⟩
  · simp only at h1 h2
    subst h1 h2
    exact ⟨by simp [rdNum, rfYes], .inr ⟨by simp [rdNum], rfl⟩⟩
theorem rel_end {l l' : List UInt8} {b b' : Bool} (h : Rel (l, b) (l', b')) : endN l b = endN l' b' := by
  rcases h with ⟨h1, h2, h3⟩ | ⟨h1, h2⟩
  · simp only at h1 h2 h3
    subst h1 h2 h3
    rfl
  · simp only at h1 h2
    subst h1 h2
    rfl
end Go.Proofs.Ytnionfddejaalaa
