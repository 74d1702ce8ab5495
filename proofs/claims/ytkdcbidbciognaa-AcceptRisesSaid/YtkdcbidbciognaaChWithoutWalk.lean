/-
  The walk of the law ChainWithout.
-/
import Derived.Test.YtkdcbidbciognaaChKeepsWalk
namespace Go.Proofs.Ytkdcbidbciognaa
set_option linter.unusedVariables false
set_option linter.unusedSimpArgs false
open Go.RowKit Go.ChangeShapes Go.WideShapes

theorem okNodes_mk : ∀ (pre l : List Int), l.Nodup → (∀ x ∈ l, x ∉ pre) → (∀ x ∈ l, 0 ≤ x ∧ x ≤ 4) → okNodes pre l = true
  | _, [], _, _, _ => rfl
  | pre, y :: l, h1, h2, h3 => by
    have hn := List.nodup_cons.1 h1
    unfold okNodes
    rw [decide_eq_true (h3 y (by simp)), decide_eq_false (h2 y (by simp)), okNodes_mk (pre ++ [y]) l hn.2 (fun x hx hp => ?_) (fun x hx => h3 x (by simp [hx]))]
    · rfl
    · rcases List.mem_append.1 hp with hp | hp
      · exact h2 x (by simp [hx]) hp
      · simp at hp; subst hp; exact hn.1 hx
theorem mayChain_mk {ep : Int} {l : List Int} (he : 0 ≤ ep ∧ ep ≤ 1073741824) (hl : 1 ≤ l.length ∧ l.length ≤ 5) (hn : l.Nodup) (hx : ∀ x ∈ l, 0 ≤ x ∧ x ≤ 4) : mayChainB ep l = true := by
  unfold mayChainB
  rw [decide_eq_true he, decide_eq_true hl, okNodes_mk [] l hn (by simp) hx]
  rfl
theorem leftL_may {ep : Int} {l gone : List Int} (h : mayChainB ep l = true) (he : ep < 1073741824) : chOk (ep + 1) (leftL l gone) = if leftL l gone = [] then noCh else (ep + 1, leftL l gone, 0) := by
  obtain ⟨h1, h2, h3, h4⟩ := mayChain_all h
  by_cases hn : leftL l gone = []
  · rw [if_pos hn, hn]
    simp [chOk, mayChainB]
  · rw [if_neg hn]
    unfold chOk
    rw [if_pos]
    refine mayChain_mk (by omega) ⟨List.length_pos_iff.2 hn, Nat.le_trans (leftL_len _ _) h2.2⟩ (h3.filter _) (fun x hx => h4 x ((List.mem_filter.1 hx).1))

theorem ints_yes (A B : Option Addr) (c1 c2 : Nat) (l : List Int) (w : World) (h1 : l.length ≤ 9223372036854775807) (hs : Sl i64 w A l) (hs2 : Sl i64 w B l) :
    Calls Try.prog 50 #[.slice A l.length c1, .slice B l.length c2] w fun e w' => e = .returned (.bool true) ∧ Ext w w' := by
  refine (ints_any A B c1 c2 l l w h1 h1 hs hs2).mono fun e w' ⟨he, h⟩ => ⟨by rw [he]; simp, h⟩

end Go.Proofs.Ytkdcbidbciognaa
