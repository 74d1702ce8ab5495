/-
  Walks of package chain, further: with a node more. What a chain or an error comes to, in one word for all that answer so.
-/
import Derived.Test.YtkdcbidbciognaaLoc
import Derived.Test.YtkdcbidbciognaaSet
import Derived.Test.YtkdcbidbciognaaPlace
namespace Go.Proofs.Ytkdcbidbciognaa
set_option linter.unusedVariables false
set_option linter.unusedSimpArgs false
open Go.RowKit

theorem ext_al (w : World) (o : Obj) : Ext w (w.alloc o) := (Below.refl _ _).alloc (Nat.le_refl _) _
/-- a call that answers with a chain and a number -/
def ChRes (w : World) (r : Int × List Int × Int) (e : Ending) (w' : World) : Prop :=
  ∃ A cap, e = .returned (.tuple #[chV r.1 A r.2.1.length cap, .int .i64 r.2.2]) ∧ Sl i64 w' A r.2.1 ∧ r.2.1.length ≤ cap ∧ Ext w w' ∧ ∀ a, A = some a → w.heap.size ≤ a.block
/-- no chain -/
abbrev noCh : Int × List Int × Int := (0, [], 1)
/-- a chain, if it may be -/
def chOk (ep : Int) (l : List Int) : Int × List Int × Int := if mayChainB ep l then (ep, l, 0) else noCh
def withL (ep : Int) (l : List Int) (x : Int) : Int × List Int × Int := if mayChainB ep l then chOk (ep + 1) (l ++ [x]) else noCh
def firstL (n : Int) : Int × List Int × Int := if 1 ≤ n ∧ n ≤ 5 then (1, upTo n.toNat, 0) else noCh

theorem own_sl {w : World} {base n cap : Nat} {A : Option Addr} {l : List Int} (h : w.ownsRow base 3 1 (.slice A n cap) l.length (l.map i64)) : Sl i64 w A l := by
  obtain ⟨A', c', e, hs⟩ := own_view h
  injection e with e1 e2 e3
  subst e1
  exact hs
theorem own_cap {w : World} {base n cap : Nat} {A : Option Addr} {l : List Int} (h : w.ownsRow base 3 1 (.slice A n cap) l.length (l.map i64)) : l.length ≤ cap := by
  rcases h.2 with ⟨e, hn⟩ | ⟨g, c, cur, e, _, _, h1, h2, _⟩
  · injection e with e1 e2 e3; omega
  · injection e with e1 e2 e3; omega
theorem own_fresh {w : World} {base n k cap : Nat} {A : Option Addr} {xs : List Value} (h : w.ownsRow base 3 1 (.slice A n cap) k xs) : ∀ a, A = some a → base ≤ a.block := by
  rintro a rfl
  exact (h.lt a.block rfl).1
theorem own_n {w : World} {base n k cap : Nat} {A : Option Addr} {xs : List Value} (h : w.ownsRow base 3 1 (.slice A n cap) k xs) : n = k := by
  obtain ⟨A', c', e⟩ := own_shape h
  injection e

theorem ChRes.no {w w' : World} (h : Ext w w') : ChRes w noCh (.returned (.tuple #[chV 0 none 0 0, .int .i64 1])) w' := ⟨none, 0, rfl, Sl.nil _ _ _, Nat.le_refl _, h, by simp⟩
theorem first_res (F : FuncId) (n : Int) (w : World)
    (hno : ∀ (n : Int) (w : World), n < 1 ∨ 5 < n → Calls Try.prog F #[.int .i64 n] w fun e w' => e = .returned (.tuple #[chV 0 none 0 0, .int .i64 1]) ∧ Below w.heap.size w w')
    (hyes : ∀ (n : Nat) (w : World), 1 ≤ n → n ≤ 5 → Calls Try.prog F #[.int .i64 n] w fun e w' => ∃ v, e = .returned (.tuple #[.agg #[.int .i64 1, v], .int .i64 0]) ∧ w'.ownsRow w.heap.size 3 1 v n ((upTo n).map i64) ∧ Below w.heap.size w w') :
    Calls Try.prog F #[.int .i64 n] w (ChRes w (firstL n)) := by
  by_cases h : 1 ≤ n ∧ n ≤ 5
  · obtain ⟨k, rfl⟩ := Int.eq_ofNat_of_zero_le (show 0 ≤ n by omega)
    refine (hyes k w (by omega) (by omega)).mono fun e w' ⟨v, he, ho, hb⟩ => ?_
    obtain ⟨A, cap, rfl⟩ := own_shape ho
    have ho' : w'.ownsRow w.heap.size 3 1 (.slice A k cap) (upTo k).length ((upTo k).map i64) := by rw [upTo_len]; exact ho
    refine ⟨A, cap, ?_, ?_, ?_, hb, own_fresh ho⟩
    · rw [he]; simp [firstL, h, upTo_len]
    · simp only [firstL, if_pos h, Int.toNat_natCast]; exact own_sl ho'
    · simp only [firstL, if_pos h, Int.toNat_natCast]; exact own_cap ho'
  · refine (hno n w (by omega)).mono fun e w' ⟨he, hb⟩ => ?_
    rw [he]
    simp only [firstL, if_neg h]
    exact ChRes.no hb
theorem chFirst_any (n : Int) (w : World) : Calls Try.prog 51 #[.int .i64 n] w (ChRes w (firstL n)) := first_res _ n w chFirst_no chFirst_yes
theorem refFirst_any (n : Int) (w : World) : Calls Try.prog 38 #[.int .i64 n] w (ChRes w (firstL n)) := first_res _ n w refFirst_no refFirst_yes

/-- what 'may' answers -/
def MayR (ep : Int) (A : Option Addr) (cap : Nat) (l : List Int) (E : Int) (A' : Option Addr) (N C : Nat) (c : Int) : Prop :=
  (mayChainB ep l = true ∧ E = ep ∧ A' = A ∧ N = l.length ∧ C = cap ∧ c = 0) ∨ (mayChainB ep l = false ∧ E = 0 ∧ A' = none ∧ N = 0 ∧ C = 0 ∧ c = 1)
theorem MayR.res {ep : Int} {A : Option Addr} {cap : Nat} {l : List Int} {E : Int} {A' : Option Addr} {N C : Nat} {c : Int} {w w' : World} (h : MayR ep A cap l E A' N C c) (hs : Sl i64 w' A l) (hc : l.length ≤ cap) (hf : ∀ a, A = some a → w.heap.size ≤ a.block) (hx : Ext w w') :
    ChRes w (chOk ep l) (.returned (.tuple #[.agg #[.int .i64 E, .slice A' N C], .int .i64 c])) w' := by
  rcases h with ⟨hm, rfl, rfl, rfl, rfl, rfl⟩ | ⟨hm, rfl, rfl, rfl, rfl, rfl⟩
  · unfold chOk; rw [if_pos hm]; exact ⟨_, _, rfl, hs, hc, hx, hf⟩
  · unfold chOk; rw [if_neg (by simp [hm])]; exact ChRes.no hx

end Go.Proofs.Ytkdcbidbciognaa
