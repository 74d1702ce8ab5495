/-
  Walks of package ballot and of the reference's: which ballots may be, their order, the next one.
-/
import Derived.Test.YtkdcbidbciognaaBase
import Derived.Laws.StructEq
namespace Go.Proofs.Ytkdcbidbciognaa
set_option linter.unusedVariables false
set_option linter.unusedSimpArgs false
open Go.RowKit

/-- a ballot as a value -/
abbrev balV (r n : Int) : Value := .agg #[.int .i64 r, .int .i64 n]
/-- which ballots may be -/
def mayBal (r n : Int) : Bool := decide (0 ≤ r ∧ r ≤ 1099511627776 ∧ 0 ≤ n ∧ n < 5)
/-- two ballots held against each other -/
def cmpBal (r n r' n' : Int) : Int := if r < r' then -1 else if r' < r then 1 else if n < n' then -1 else if n' < n then 1 else 0
/-- the first that is not nought -/
def orI : List Int → Int
  | [] => 0
  | x :: l => if x = 0 then orI l else x
def cmpI (a b : Int) : Int := if a < b then -1 else if b < a then 1 else 0

theorem orI_cmp (r n r' n' : Int) : orI [cmpI r r', cmpI n n'] = cmpBal r n r' n' := by
  unfold cmpBal cmpI orI orI orI
  repeat' split
  all_goals omega

theorem mayBal_any (r n : Int) (w : World) : Calls Try.prog 44 #[.agg #[.int .i64 r, .int .i64 n]] w fun e w' => e = .returned (.bool (mayBal r n)) ∧ Below w.heap.size w w' := by
  generalize hr : mayBal r n = b
  have HR := Lib.hid hr
  clear hr
  unfold mayBal at HR
  have HB : Hid (∀ o, Below w.heap.size w (w.alloc o)) := fun o => (Below.refl _ _).alloc (Nat.le_refl _) _
  by_cases h1 : 0 ≤ r
  case neg =>
    go_enter Try.func44, Try.ntmps44
    go_wp2
    go_ret
    exact ⟨ret_bool (by rw [← HR.out]; exact dec_false (by omega)), HB.out _⟩
  by_cases h2 : r ≤ 1099511627776
  case neg =>
    go_enter Try.func44, Try.ntmps44
    go_wp2
    go_ret
    exact ⟨ret_bool (by rw [← HR.out]; exact dec_false (by omega)), HB.out _⟩
  by_cases h3 : 0 ≤ n
  case neg =>
    go_enter Try.func44, Try.ntmps44
    go_wp2
    go_ret
    exact ⟨ret_bool (by rw [← HR.out]; exact dec_false (by omega)), HB.out _⟩
  go_enter Try.func44, Try.ntmps44
  go_wp2
  go_ret
  exact ⟨ret_bool (by rw [← HR.out]; exact dec_iff (by omega)), HB.out _⟩

theorem refMayBal_any (r n : Int) (w : World) : Calls Try.prog 13 #[.agg #[.int .i64 r, .int .i64 n]] w fun e w' => e = .returned (.bool (mayBal r n)) ∧ Below w.heap.size w w' := by
  generalize hr : mayBal r n = b
  have HR := Lib.hid hr
  clear hr
  unfold mayBal at HR
  have HB : Hid (∀ o, Below w.heap.size w (w.alloc o)) := fun o => (Below.refl _ _).alloc (Nat.le_refl _) _
  by_cases h1 : 0 ≤ r
  case neg =>
    go_enter Try.func13, Try.ntmps13
    go_wp2
    go_ret
    exact ⟨ret_bool (by rw [← HR.out]; exact dec_false (by omega)), HB.out _⟩
  by_cases h2 : r ≤ 1099511627776
  case neg =>
    go_enter Try.func13, Try.ntmps13
    go_wp2
    go_ret
    exact ⟨ret_bool (by rw [← HR.out]; exact dec_false (by omega)), HB.out _⟩
  by_cases h3 : 0 ≤ n
  case neg =>
    go_enter Try.func13, Try.ntmps13
    go_wp2
    go_ret
    exact ⟨ret_bool (by rw [← HR.out]; exact dec_false (by omega)), HB.out _⟩
  go_enter Try.func13, Try.ntmps13
  go_wp2
  go_ret
  exact ⟨ret_bool (by rw [← HR.out]; exact dec_iff (by omega)), HB.out _⟩

theorem compare_any (a b : Int) (w : World) : Calls Try.prog 86 #[.int .i64 a, .int .i64 b] w fun e w' => e = .returned (.int .i64 (cmpI a b)) ∧ w = w' := by
  generalize hr : cmpI a b = c
  have HR := Lib.hid hr
  clear hr
  unfold cmpI at HR
  have hcs : a < b ∨ (¬ a < b ∧ b < a) ∨ (¬ a < b ∧ ¬ b < a) := by omega
  rcases hcs with h1 | ⟨h1, h2⟩ | ⟨h1, h2⟩
  all_goals
    go_enter Try.func86, Try.ntmps86
    go_wp2
    go_ret
    exact ⟨ret_int (by rw [← HR.out]; first | rw [if_pos (by omega)] | rw [if_neg (by omega), if_pos (by omega)] | rw [if_neg (by omega), if_neg (by omega)]), rfl⟩

theorem or_any (A : Option Addr) (cap : Nat) (l : List Int) (w : World) (hbig : l.length ≤ 9223372036854775807) (hs : Sl i64 w A l) :
    Calls Try.prog 85 #[.slice A l.length cap] w fun e w' => e = .returned (.int .i64 (orI l)) ∧ w = w' := by
  obtain ⟨n, hn⟩ : ∃ n, n = l.length := ⟨_, rfl⟩
  rw [← hn] at hbig ⊢
  have HN := Lib.hid hn
  have HS := Lib.hid hs
  clear hn hs
  go_enter Try.func85, Try.ntmps85
  go_wp2
  go_loop [8] (fun i => ∃ k : Nat, k ≤ n ∧ i = .int .i64 k ∧ Hid (orI l = orI (l.drop k))) (fun i => n - (intOf i).toNat)
  case atStart => exact ⟨0, Nat.zero_le _, rfl, rfl⟩
  case round =>
    obtain ⟨k, hk, rfl, Hi⟩ := hrel
    by_cases hlt : k < n
    · obtain ⟨b, o, rfl, hcell⟩ := HS.out.at_ (k := k) (by rw [← HN.out]; exact hlt)
      have hd : l.drop k = l[k]'(by rw [← HN.out]; exact hlt) :: l.drop (k + 1) := List.drop_eq_getElem_cons _
      have Hd := Lib.hid hd
      clear hd
      generalize l[k]'(by rw [← HN.out]; exact hlt) = y at *
      unfold i64 at hcell
      by_cases hy : y = 0
      · have HE : Hid (orI l = orI (l.drop (k + 1))) := by show _ = _; rw [Hi.out, Hd.out, orI, if_pos hy]
        subst hy
        go_wp2
        go_round
        case rel => exact ⟨k + 1, by omega, by go_num, HE⟩
        case measure => simp [intOf]; omega
      · have HE : Hid (y = orI l) := by show _ = _; rw [Hi.out, Hd.out, orI, if_neg hy]
        go_wp2
        go_ret
        exact ⟨ret_int HE.out, rfl⟩
    · have HE : Hid (0 = orI l) := by show _ = _; rw [Hi.out, List.drop_of_length_le (by have := HN.out; omega)]; rfl
      go_wp2
      go_ret
      exact ⟨ret_int HE.out, rfl⟩
end Go.Proofs.Ytkdcbidbciognaa
