/-
  The records that stand in bytes: the plain law.
-/
import Derived.Test.YtgcclkdlomifcaaWalEq
namespace Go.Proofs.Ytgcclkdlomifcaa
set_option linter.unusedVariables false
set_option linter.unusedSimpArgs false
open Go.RowKit

def numAt (l : List UInt8) : Nat := (l.getD 0 0).toNat * 256 + (l.getD 1 0).toNat
/-- the record whose whole right frame stands at the beginning -/
def stepB (l : List UInt8) : Option (List UInt8) :=
  if 6 < l.length ∧ 1 ≤ numAt l ∧ numAt l ≤ 4096 ∧ numAt l + 6 ≤ l.length ∧ frameB ((l.drop 6).take (numAt l)) = l.take (numAt l + 6) then some ((l.drop 6).take (numAt l)) else none
/-- where each record ends, and what it is -/
def walkGo : Nat → Nat → List UInt8 → List (Nat × List UInt8)
  | 0, _, _ => []
  | f + 1, at_, l => match stepB l with | none => [] | some x => (at_ + (x.length + 6), x) :: walkGo f (at_ + (x.length + 6)) (l.drop (x.length + 6))
def framesB (l : List UInt8) : List (Nat × List UInt8) := walkGo l.length 0 l
def readB (l : List UInt8) : List (List UInt8) := (framesB l).map (·.2)
def endOf (l : List (Nat × List UInt8)) : Nat := match l.getLast? with | some x => x.1 | none => 0

theorem stepB_some {l x : List UInt8} (h : stepB l = some x) : 6 < l.length ∧ 1 ≤ x.length ∧ x.length ≤ 4096 ∧ x.length + 6 ≤ l.length ∧ x.length = numAt l ∧ x = (l.drop 6).take (numAt l) ∧ frameB x = l.take (x.length + 6) := by
  unfold stepB at h
  split at h
  · rename_i hc
    obtain ⟨h1, h2, h3, h4, h5⟩ := hc
    injection h with h
    have hl : x.length = numAt l := by rw [← h, List.length_take, List.length_drop]; omega
    exact ⟨h1, by omega, by omega, by omega, hl, h.symm, by rw [hl, ← h5, h]⟩
  · cases h
theorem walkGo_none {f at_ : Nat} {l : List UInt8} (h : stepB l = none) : walkGo f at_ l = [] := by
  cases f with
  | zero => rfl
  | succ f => rw [walkGo, h]
theorem walkGo_some {f at_ : Nat} {l x : List UInt8} (h : stepB l = some x) (hf : l.length ≤ f) : ∃ f', f = f' + 1 ∧ walkGo f at_ l = (at_ + (x.length + 6), x) :: walkGo f' (at_ + (x.length + 6)) (l.drop (x.length + 6)) ∧ (l.drop (x.length + 6)).length ≤ f' := by
  have hs := stepB_some h
  cases f with
  | zero => omega
  | succ f => exact ⟨f, rfl, by rw [walkGo, h], by rw [List.length_drop]; omega⟩
theorem i64_or_nat (a b : Nat) (ha : a < 9223372036854775808) (hb : b < 9223372036854775808) : bits BinOp.or IntKind.i64 (a : Int) (b : Int) = ((a ||| b : Nat) : Int) := by
  have hx : a ||| b < 2 ^ 63 := Nat.or_lt_two_pow (by omega) (by omega)
  show IntKind.i64.wrap ((BitVec.ofInt 64 (a : Int) ||| BitVec.ofInt 64 (b : Int)).toNat : Int) = _
  rw [BitVec.toNat_or, ofInt_u64 a (by omega), ofInt_u64 b (by omega)]
  exact IntWalk.i64_in _ (by omega)
theorem num2 (x y : UInt8) : bits BinOp.or IntKind.i64 ((x.toNat : Int) * 256) (y.toNat : Int) = ((x.toNat * 256 + y.toNat : Nat) : Int) := by
  have hx := x.toNat_lt
  have hy := y.toNat_lt
  have e : ((x.toNat : Int) * 256) = ((x.toNat * 256 : Nat) : Int) := by omega
  rw [e, i64_or_nat _ _ (by omega) (by omega)]
  have := nat_join 8 (x.toNat * 256) y.toNat (Nat.mul_mod_left _ _) (by omega)
  rw [this]
theorem numAt_drop {l : List UInt8} {k : Nat} (h : k + 1 < l.length) : numAt (l.drop k) = (l[k]'(by omega)).toNat * 256 + (l[k + 1]).toNat := by
  unfold numAt
  rw [List.getD_eq_getElem?_getD, List.getD_eq_getElem?_getD, List.getElem?_drop, List.getElem?_drop, List.getElem?_eq_getElem (by omega), List.getElem?_eq_getElem (by omega)]
  rfl
end Go.Proofs.Ytgcclkdlomifcaa
