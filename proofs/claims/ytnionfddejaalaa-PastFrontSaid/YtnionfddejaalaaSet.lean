/-
  slices.Clone of ints; a copy of a chain; a set of ints that grows.
-/
import Derived.Test.YtnionfddejaalaaFrm
import Derived.Test.YtnionfddejaalaaMayChain
import Derived.Test.YtnionfddejaalaaHeldR
namespace Go.Proofs.Ytnionfddejaalaa
set_option linter.unusedVariables false
set_option linter.unusedSimpArgs false
open Go.RowKit

/-- slices.Clone of ints: a slice of the call's own -/
theorem cloneI_any (A : Option Addr) (cap : Nat) (l : List Int) (w : World) (hl : l.length ≤ 1000000000000) (hs : Sl i64 w A l) :
    Calls Try.prog 38 #[.slice A l.length cap] w fun e w' => ∃ v, e = .returned v ∧ w'.ownsRow w.heap.size 3 1 v l.length (l.map i64) ∧ Below w.heap.size w w' := by
  refine hide_post fun D hD => ?_
  rcases A with _ | ad
  · have hl0 : l = [] := by
      cases l with
      | nil => rfl
      | cons x r => obtain ⟨b, o, e, _⟩ := hs 0 x rfl; cases e
    subst hl0
    have hq : ∀ w, (binOp .eql 33 (.slice none 0 cap) (.slice none 0 0)).run Try.prog w = .ok (.bool true) w := fun w => Lib.run_eql_slice_nil (P := Try.prog) w 33 3 none 0 cap 0 0 Try.underlying33
    clear hs
    go_enter Try.func38, Try.ntmps38
    go_wp2
    try go_ret
    exact hD.out _ _ ⟨.slice none 0 0, rfl, World.ownsRow_nil _ _ _ _, Below.refl _ _⟩
  · have hq : ∀ w, (binOp .eql 33 (.slice (some ad) l.length cap) (.slice none 0 0)).run Try.prog w = .ok (.bool false) w := fun w => Lib.run_eql_slice_nil (P := Try.prog) w 33 3 (some ad) l.length cap 0 0 Try.underlying33
    have HS : Hid (∀ W, Below w.heap.size w W → Sl i64 W (some ad) l) := fun W h => hs.stay h
    have hm := Lib.hid (World.ownsRow_made (base := w.heap.size) (e := 3) (size := 1) w #[] 0 (Nat.le_refl _) (Nat.zero_le _) rfl)
    have hD' : Hid (∀ v w', w'.ownsRow w.heap.size 3 1 v (0 + l.length) ([] ++ l.map i64) → (w.alloc (.cells #[] 3)).grownBy w' (some w.heap.size) → D (.returned v) w') := fun v w' h1 h2 =>
      hD.out _ _ ⟨v, rfl, by simpa using h1, (((Below.refl _ _).alloc (Nat.le_refl _) _).grown h2 (by simp) (fun k hk => by injection hk with hk; omega))⟩
    obtain ⟨n, hn⟩ : ∃ n, n = l.length := ⟨_, rfl⟩
    have HN := Lib.hid hn
    rw [← hn] at hq ⊢
    have hl' := hl
    rw [← hn] at hl'
    clear hs hn hD
    go_enter Try.func38, Try.ntmps38
    go_wp2_with (at_builtin; refine wpList_append_list rfl _ _ 33 rfl w.heap.size 3 (.int .i64 0) 8 Try.underlying33 info_int rfl (by omega) (.slice (some ⟨w.heap.size, 0, none⟩) 0 0) 0 [] rfl hm.out i64 (some ad) l n cap HN.out rfl (HS.out _ ((Below.refl _ _).alloc (Nat.le_refl _) _)) (fun _ => rfl) (by omega) (by simp) ?_; intro v' w' h1 h2 h3; have H1 := Lib.hid h1; have H2 := Lib.hid h2; clear h1 h2 h3)
    try go_ret
    exact hD'.out _ _ H1.out H2.out


end Go.Proofs.Ytnionfddejaalaa
