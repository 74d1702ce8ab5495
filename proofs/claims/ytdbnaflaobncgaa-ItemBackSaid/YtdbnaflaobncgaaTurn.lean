/-
  A byte that is turned turns the check sum; a row of ours, one of its cells set.
-/
import Derived.Test.YtdbnaflaobncgaaRefCrc
namespace Go.Proofs.Ytdbnaflaobncgaa
set_option linter.unusedVariables false
set_option linter.unusedSimpArgs false
open Go.RowKit

theorem own_at {α : Type} {f : α → Value} {w : World} {base : Nat} {e : TypeId} {v : Value} {l : List α} {k : Nat} (h : w.ownsRow base e 1 v l.length (l.map f)) (hk : k < l.length) :
    ∃ g cap cur, v = .slice (some ⟨g, 0, none⟩) l.length cap ∧ base ≤ g ∧ Blk w g e cur ∧ cur[k]? = some (f l[k]) ∧ l.length ≤ cap := by
  rcases h.2 with ⟨e, hn⟩ | ⟨g, cap, cur, e, hb, hg, hc, hm, hz, ht⟩
  · omega
  · refine ⟨g, cap, cur, e, hb, hg, ?_, hc⟩
    rw [Nat.mul_one] at ht hz
    have h2 : (cur.toList.take l.length)[k]? = some (f l[k]) := by rw [ht]; simp [hk]
    rw [List.getElem?_take_of_lt hk] at h2
    simpa using h2
theorem own_set {α : Type} {f : α → Value} {w : World} {base : Nat} {e : TypeId} {l : List α} {k g cap : Nat} (h : w.ownsRow base e 1 (.slice (some ⟨g, 0, none⟩) l.length cap) l.length (l.map f)) (hk : k < l.length) (x : α) :
    (w.setCell ⟨g, k, none⟩ (f x)).ownsRow base e 1 (.slice (some ⟨g, 0, none⟩) l.length cap) (l.set k x).length ((l.set k x).map f) := by
  refine ⟨by simp, ?_⟩
  rcases h.2 with ⟨e, hn⟩ | ⟨g', cap', cur, e, hb, hg, hc, hm, hz, ht⟩
  · omega
  · injection e with e1 e2 e3
    injection e1 with e1
    injection e1 with e1
    subst e1 e3
    refine .inr ⟨g, cap, cur.setIfInBounds k (f x), by rw [List.length_set], hb, Blk.set hg k (f x), by rw [List.length_set]; exact hc, hm, by simpa using hz, ?_⟩
    rw [Nat.mul_one] at ht ⊢
    rw [List.length_set, Array.toList_setIfInBounds, List.take_set, ht, List.map_set]

theorem xor_cancelL {a b c : Nat} (h : a ^^^ b = a ^^^ c) : b = c := by
  have h1 : a ^^^ (a ^^^ b) = a ^^^ (a ^^^ c) := by rw [h]
  rwa [← Nat.xor_assoc, ← Nat.xor_assoc, Nat.xor_self, Nat.zero_xor, Nat.zero_xor] at h1
theorem xor_cancelR {a b c : Nat} (h : b ^^^ a = c ^^^ a) : b = c := xor_cancelL (a := a) (by rw [Nat.xor_comm a b, Nat.xor_comm a c, h])
theorem stepN_inj {a b : Nat} (ha : a < 4294967296) (hb : b < 4294967296) (h : stepN a = stepN b) : a = b := by
  unfold stepN at h
  have hx : ∀ p q : Nat, p < 2147483648 → q < 2147483648 → p ^^^ 3988292384 ≠ q := fun p q hp hq e => by
    have h1 : p ^^^ q < 2 ^ 31 := Nat.xor_lt_two_pow (n := 31) hp hq
    rw [← e, ← Nat.xor_assoc, Nat.xor_self, Nat.zero_xor] at h1
    omega
  rcases Nat.mod_two_eq_zero_or_one a with h1 | h1 <;> rcases Nat.mod_two_eq_zero_or_one b with h2 | h2 <;> rw [h1, h2] at h
  · simp at h; omega
  · rw [Nat.mul_zero, Nat.xor_zero, Nat.mul_one] at h
    exact absurd h.symm (hx _ _ (by omega) (by omega))
  · rw [Nat.mul_zero, Nat.xor_zero, Nat.mul_one] at h
    exact absurd h (hx _ _ (by omega) (by omega))
  · have := xor_cancelR h
    omega
theorem stepsN_inj : ∀ (k : Nat) {a b : Nat}, a < 4294967296 → b < 4294967296 → stepsN k a = stepsN k b → a = b
  | 0, _, _, _, _, h => h
  | k + 1, a, b, ha, hb, h => stepsN_inj k ha hb (stepN_inj (stepsN_lt k a ha) (stepsN_lt k b hb) h)
theorem rc_lt : ∀ (l : List UInt8) (a : Nat), a < 4294967296 → rcGo a l < 4294967296
  | [], _, h => h
  | x :: r, a, h => rc_lt r _ (stepsN_lt 8 _ (Nat.xor_lt_two_pow (n := 32) h (by have := x.toNat_lt; omega)))
theorem rc_inj : ∀ (l : List UInt8) {a b : Nat}, a < 4294967296 → b < 4294967296 → rcGo a l = rcGo b l → a = b
  | [], _, _, _, _, h => h
  | x :: r, a, b, ha, hb, h => by
    have q : ∀ c, c < 4294967296 → c ^^^ x.toNat < 4294967296 := fun c hc => Nat.xor_lt_two_pow (n := 32) hc (by have := x.toNat_lt; omega)
    have h1 := rc_inj r (stepsN_lt 8 _ (q a ha)) (stepsN_lt 8 _ (q b hb)) h
    exact xor_cancelR (stepsN_inj 8 (q a ha) (q b hb) h1)
theorem rc_append : ∀ (p q : List UInt8) (a : Nat), rcGo a (p ++ q) = rcGo (rcGo a p) q
  | [], _, _ => rfl
  | x :: r, q, a => by rw [List.cons_append, rcGo, rcGo, rc_append r q]
theorem turned (l : List UInt8) (k : Nat) (hk : k < l.length) (x : UInt8) : crcN l = crcN (l.set k (l[k] ^^^ x)) ↔ x = 0 := by
  constructor
  · intro h
    unfold crcN at h
    have h := xor_cancelL h
    rw [rc_eq, rc_eq] at h
    have e1 : l = l.take k ++ l[k] :: l.drop (k + 1) := by rw [← List.drop_eq_getElem_cons hk, List.take_append_drop]
    have e2 : l.set k (l[k] ^^^ x) = l.take k ++ (l[k] ^^^ x) :: l.drop (k + 1) := by rw [List.set_eq_take_append_cons_drop, if_pos hk]
    rw [e2, rc_append] at h
    have h' : rcGo (rcGo 4294967295 (l.take k)) (l[k] :: l.drop (k + 1)) = rcGo (rcGo 4294967295 (l.take k)) ((l[k] ^^^ x) :: l.drop (k + 1)) := by
      rw [← h, ← rc_append, ← e1]
    have hA : rcGo 4294967295 (l.take k) < 4294967296 := rc_lt _ _ (by decide)
    generalize rcGo 4294967295 (l.take k) = a at *
    have q : ∀ c : UInt8, a ^^^ c.toNat < 4294967296 := fun c => Nat.xor_lt_two_pow (n := 32) hA (by have := c.toNat_lt; omega)
    rw [rcGo, rcGo] at h'
    have h1 := xor_cancelL (stepsN_inj 8 (q _) (q _) (rc_inj _ (stepsN_lt 8 _ (q _)) (stepsN_lt 8 _ (q _)) h'))
    have h2 : l[k] = l[k] ^^^ x := UInt8.toNat_inj.1 h1
    have h3 : l[k] ^^^ l[k] = l[k] ^^^ (l[k] ^^^ x) := by rw [← h2]
    rw [← UInt8.xor_assoc, UInt8.xor_self, UInt8.zero_xor] at h3
    exact h3.symm
  · rintro rfl
    rw [UInt8.xor_zero, List.set_getElem_self]
end Go.Proofs.Ytdbnaflaobncgaa
