/-
  Walks of item.MayChain and of the reference's: which chains may be; two chains compared.
-/
import Derived.Test.YtkdcbidbciognaaSlices
namespace Go.Proofs.Ytkdcbidbciognaa
set_option linter.unusedVariables false
set_option linter.unusedSimpArgs false
open Go.RowKit

/-- which nodes may stand behind others: each below five, none twice -/
def okNodes : List Int → List Int → Bool
  | _, [] => true
  | pre, x :: r => decide (0 ≤ x ∧ x ≤ 4) && !decide (x ∈ pre) && okNodes (pre ++ [x]) r
/-- which chains may be -/
def mayChainB (ep : Int) (l : List Int) : Bool := decide (0 ≤ ep ∧ ep ≤ 1073741824) && decide (1 ≤ l.length ∧ l.length ≤ 5) && okNodes [] l

theorem withinC_any (n lo hi : Int) (w : World) : Calls Try.prog 82 #[.int .i64 n, .int .i64 lo, .int .i64 hi] w fun e w' => e = .returned (.bool (decide (lo ≤ n ∧ n ≤ hi))) ∧ w = w' := by
  generalize hr : decide (lo ≤ n ∧ n ≤ hi) = r
  have HR := Lib.hid hr
  clear hr
  by_cases h1 : lo ≤ n
  all_goals
    go_enter Try.func82, Try.ntmps82
    go_wp2
    go_ret
    exact ⟨ret_bool (by rw [← HR.out]; first | exact dec_false (by omega) | exact dec_iff (by omega)), rfl⟩

theorem Sl.take {α : Type} {f : α → Value} {w : World} {A : Option Addr} {l : List α} (h : Sl f w A l) (k : Nat) : Sl f w A (l.take k) := fun j v hj => by
  rw [List.getElem?_take] at hj
  split at hj
  · exact h j v hj
  · cases hj

theorem okNodes_step (l : List Int) (k : Nat) (h : k < l.length) : okNodes (l.take k) (l.drop k) = (decide (0 ≤ l[k] ∧ l[k] ≤ 4) && !decide (l[k] ∈ l.take k) && okNodes (l.take (k + 1)) (l.drop (k + 1))) := by
  rw [List.drop_eq_getElem_cons h, okNodes, List.take_succ_eq_append_getElem h]
theorem okNodes_end (l : List Int) (k : Nat) (h : l.length ≤ k) : okNodes (l.take k) (l.drop k) = true := by
  rw [List.drop_of_length_le h]; rfl

set_option maxHeartbeats 1000000 in
theorem mayChain_any (ep : Int) (A : Option Addr) (cap : Nat) (l : List Int) (w : World) (hl : l.length ≤ 9223372036854775807) (hcap : l.length ≤ cap) (hs : Sl i64 w A l) :
    Calls Try.prog 45 #[.agg #[.int .i64 ep, .slice A l.length cap]] w fun e w' => e = .returned (.bool (mayChainB ep l)) ∧ Below w.heap.size w w' := by
  generalize hr : mayChainB ep l = r
  have HR := Lib.hid hr
  clear hr
  unfold mayChainB at HR
  obtain ⟨n, hn⟩ : ∃ n, n = l.length := ⟨_, rfl⟩
  rw [← hn] at hl hcap HR ⊢
  have HN := Lib.hid hn
  clear hn
  have HB : Hid (∀ o, Below w.heap.size w (w.alloc o)) := fun o => (Below.refl _ _).alloc (Nat.le_refl _) _
  have HS : Hid (∀ o, Sl i64 (w.alloc o) A l) := fun o => hs.stay (HB.out o)
  clear hs
  have HW : Hid (∀ n lo hi W b, decide (lo ≤ n ∧ n ≤ hi) = b → Calls Try.prog 82 #[.int .i64 n, .int .i64 lo, .int .i64 hi] W fun e w' => e = .returned (.bool b) ∧ W = w') := fun n lo hi W b h => by rw [← h]; exact withinC_any n lo hi W
  by_cases h1 : 0 ≤ ep ∧ ep ≤ 1073741824
  case neg =>
    have H1 : Hid (∀ W, Calls Try.prog 82 #[.int .i64 ep, .int .i64 0, .int .i64 1073741824] W fun e w' => e = .returned (.bool false) ∧ W = w') := fun W => HW.out _ _ _ W false (decide_eq_false h1)
    go_enter Try.func45, Try.ntmps45
    go_wp2_with (go_at_call 82; (with_reducible refine (H1.out _).mono ?_); rintro e w' ⟨rfl, rfl⟩)
    go_ret
    exact ⟨ret_bool (by rw [← HR.out, decide_eq_false h1]; rfl), HB.out _⟩
  have H1 : Hid (∀ W, Calls Try.prog 82 #[.int .i64 ep, .int .i64 0, .int .i64 1073741824] W fun e w' => e = .returned (.bool true) ∧ W = w') := fun W => HW.out _ _ _ W true (decide_eq_true h1)
  by_cases h2 : 1 ≤ n ∧ n ≤ 5
  case neg =>
    have H2 : Hid (∀ W, Calls Try.prog 82 #[.int .i64 n, .int .i64 1, .int .i64 5] W fun e w' => e = .returned (.bool false) ∧ W = w') := fun W => HW.out _ _ _ W false (decide_eq_false (by omega))
    go_enter Try.func45, Try.ntmps45
    go_wp2_with (first | (go_at_call 82; (with_reducible refine (H1.out _).mono ?_); rintro e w' ⟨rfl, rfl⟩) | (go_at_call 82; (with_reducible refine (H2.out _).mono ?_); rintro e w' ⟨rfl, rfl⟩))
    go_ret
    exact ⟨ret_bool (by rw [← HR.out, decide_eq_false h2]; simp), HB.out _⟩
  have H2 : Hid (∀ W, Calls Try.prog 82 #[.int .i64 n, .int .i64 1, .int .i64 5] W fun e w' => e = .returned (.bool true) ∧ W = w') := fun W => HW.out _ _ _ W true (decide_eq_true (by omega))
  have HO : Hid (okNodes [] l = r) := by show _ = _; rw [← HR.out, decide_eq_true h1, decide_eq_true h2]; rfl
  clear HR h1
  go_enter Try.func45, Try.ntmps45
  go_wp2_with (first | (go_at_call 82; (with_reducible refine (H1.out _).mono ?_); rintro e w' ⟨rfl, rfl⟩) | (go_at_call 82; (with_reducible refine (H2.out _).mono ?_); rintro e w' ⟨rfl, rfl⟩))
  clear H1 H2
  have HQ : Hid (∀ k x, Calls Try.prog 83 #[.slice A (min k l.length) cap, .int .i64 x] (w.alloc (.cells #[.int .i64 ep, .slice A n cap] 26)) fun e w' => e = .returned (.bool (decide (x ∈ l.take k))) ∧ (w.alloc (.cells #[.int .i64 ep, .slice A n cap] 26)) = w') := fun k x => by
    have := contains_any A cap (l.take k) x (w.alloc (.cells #[.int .i64 ep, .slice A n cap] 26)) (by rw [List.length_take]; have := HN.out; omega) ((HS.out _).take k)
    rwa [List.length_take] at this
  go_loop [19] (fun i => ∃ k : Nat, k ≤ n ∧ i = .int .i64 k ∧ Hid (r = okNodes (l.take k) (l.drop k))) (fun i => n - (intOf i).toNat)
  case atStart => exact ⟨0, Nat.zero_le _, rfl, HO.out.symm⟩
  case round =>
    obtain ⟨k, hk, rfl, Hi⟩ := hrel
    by_cases hlt : k < n
    · obtain ⟨b, o, rfl, hcell⟩ := (HS.out (.cells #[.int .i64 ep, .slice A n cap] 26)).at_ (k := k) (by rw [← HN.out]; exact hlt)
      have Hd := Lib.hid (okNodes_step l k (by rw [← HN.out]; exact hlt))
      generalize l[k]'(by rw [← HN.out]; exact hlt) = x at *
      have hq := HQ.out k x
      rw [show min k l.length = k by have := HN.out; omega] at hq
      unfold i64 at hcell
      have hk1 : (k : Int) ≤ (cap : Int) := by omega
      have hk2 : (0 : Int) ≤ (k : Int) := by omega
      by_cases hx : 0 ≤ x ∧ x ≤ 4
      case neg =>
        have HX : Hid (∀ W, Calls Try.prog 82 #[.int .i64 x, .int .i64 0, .int .i64 4] W fun e w' => e = .returned (.bool false) ∧ W = w') := fun W => HW.out _ _ _ W false (decide_eq_false hx)
        have HE : Hid (r = false) := by show _ = _; rw [Hi.out, Hd.out, decide_eq_false hx]; rfl
        clear hq hx
        go_wp2_with (go_at_call 82; (with_reducible refine (HX.out _).mono ?_); rintro e w' ⟨rfl, rfl⟩)
        go_ret
        exact ⟨ret_bool HE.out.symm, HB.out _⟩
      have HX : Hid (∀ W, Calls Try.prog 82 #[.int .i64 x, .int .i64 0, .int .i64 4] W fun e w' => e = .returned (.bool true) ∧ W = w') := fun W => HW.out _ _ _ W true (decide_eq_true hx)
      cases hc : decide (x ∈ l.take k)
      · have HE : Hid (r = okNodes (l.take (k + 1)) (l.drop (k + 1))) := by show _ = _; rw [Hi.out, Hd.out, decide_eq_true hx, hc]; rfl
        rw [hc] at hq
        have HC := Lib.hid hq
        clear hq hc hx
        go_wp2_with (first | (go_at_call 82; (with_reducible refine (HX.out _).mono ?_); rintro e w' ⟨rfl, rfl⟩) | (go_at_call 83; (with_reducible refine HC.out.mono ?_); rintro e w' ⟨rfl, rfl⟩))
        go_round
        case rel => exact ⟨k + 1, by omega, by go_num, HE⟩
        case measure => simp [intOf]; omega
      · have HE : Hid (r = false) := by show _ = _; rw [Hi.out, Hd.out, decide_eq_true hx, hc]; rfl
        rw [hc] at hq
        have HC := Lib.hid hq
        clear hq hc hx
        go_wp2_with (first | (go_at_call 82; (with_reducible refine (HX.out _).mono ?_); rintro e w' ⟨rfl, rfl⟩) | (go_at_call 83; (with_reducible refine HC.out.mono ?_); rintro e w' ⟨rfl, rfl⟩))
        go_ret
        exact ⟨ret_bool HE.out.symm, HB.out _⟩
    · have HE : Hid (r = true) := by show _ = _; rw [Hi.out]; exact okNodes_end l k (by have := HN.out; omega)
      go_wp2
      go_ret
      exact ⟨ret_bool HE.out.symm, HB.out _⟩
end Go.Proofs.Ytkdcbidbciognaa
