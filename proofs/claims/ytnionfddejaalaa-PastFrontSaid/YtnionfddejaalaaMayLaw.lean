/-
  What may have been written down (law 22), act by act: for the walks of May.
-/
import Derived.Test.YtnionfddejaalaaPastLaw
namespace Go.Proofs.Ytnionfddejaalaa
set_option linter.unusedVariables false
set_option linter.unusedSimpArgs false

theorem run_take {l : List Ac} {s : Ps} {a : Ac} {j : Nat} (h : runF .init (l.take j) = some s) (ha : l[j]? = some a) :
    runF .init (l.take (j + 1)) = if stE s a = 0 ∧ sameAc (stA s a) a = true then some (stS s a) else none := by
  rw [List.take_add_one, ha, Option.toList_some, runF_app, h]
  show runF s [a] = _
  rw [runF]
  split
  · rfl
  · rfl
theorem may_not {l : List Ac} {j : Nat} (h : runF .init (l.take j) = none) : ¬ mayF l := by
  rintro ⟨s, hs⟩
  rw [← List.take_append_drop j l, runF_app, h] at hs
  cases hs
theorem stS_ok {s : Ps} {a : Ac} (h : PsOk s) (h0 : stE s a = 0) : PsOk (stS s a) := by
  unfold stE at h0
  unfold stS
  split
  · rename_i ha
    rw [if_pos ha] at h0
    have hb := ansE_ok h0
    exact h.ans ⟨hb.2.2.1, hb.2.2.2.1⟩
  · rename_i ha
    rw [if_neg ha] at h0
    exact h.ask (askE_ok h0).1
theorem runF_ok : ∀ (l : List Ac) (s s' : Ps), PsOk s → runF s l = some s' → PsOk s'
  | [], s, s', hk, h => by injection h with h; subst h; exact hk
  | a :: l, s, s', hk, h => by
    rw [runF] at h
    split at h
    case isTrue h0 => exact runF_ok l _ _ (stS_ok hk h0.1) h
    case isFalse => cases h
theorem take_acts {l : List Ac} {s : Ps} {j : Nat} (h : runF .init (l.take j) = some s) : s.acts = l.take j := by
  have := runF_acts _ _ _ h
  simpa [Ps.init] using this

end Go.Proofs.Ytnionfddejaalaa
