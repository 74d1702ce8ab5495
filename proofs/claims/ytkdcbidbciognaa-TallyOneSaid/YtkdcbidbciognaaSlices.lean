/-
  Walks of slices.Index, slices.Contains at []int: they only read.
-/
import Derived.Test.YtkdcbidbciognaaBase
namespace Go.Proofs.Ytkdcbidbciognaa
set_option linter.unusedVariables false
set_option linter.unusedSimpArgs false
open Go.RowKit

/-- where a list has its first x, as Go's int, counted from k -/
def idx (x : Int) : List Int → Int → Int
  | [], _ => -1
  | y :: l, k => if x = y then k else idx x l (k + 1)

theorem idx_ge (x : Int) : ∀ (l : List Int) (k : Int), 0 ≤ k → (0 ≤ idx x l k ↔ x ∈ l)
  | [], k, _ => by simp [idx]
  | y :: l, k, h => by
    unfold idx
    by_cases e : x = y
    · simp [e, h]
    · rw [if_neg e, idx_ge x l (k + 1) (by omega)]; simp [e]

theorem index_any (A : Option Addr) (cap : Nat) (l : List Int) (x : Int) (w : World) (hbig : l.length ≤ 9223372036854775807) (hs : Sl i64 w A l) :
    Calls Try.prog 90 #[.slice A l.length cap, .int .i64 x] w fun e w' => e = .returned (.int .i64 (idx x l 0)) ∧ w = w' := by
  obtain ⟨n, hn⟩ : ∃ n, n = l.length := ⟨_, rfl⟩
  rw [← hn] at hbig ⊢
  have HN := Lib.hid hn
  have HS := Lib.hid hs
  clear hn hs
  go_enter Try.func90, Try.ntmps90
  go_wp2
  go_loop [8] (fun i => ∃ k : Nat, k ≤ n ∧ i = .int .i64 k ∧ Hid (idx x l 0 = idx x (l.drop k) k)) (fun i => n - (intOf i).toNat)
  case atStart => exact ⟨0, Nat.zero_le _, rfl, rfl⟩
  case round =>
    obtain ⟨k, hk, rfl, Hi⟩ := hrel
    by_cases hlt : k < n
    · obtain ⟨b, o, rfl, hcell⟩ := HS.out.at_ (k := k) (by rw [← HN.out]; exact hlt)
      have hd : l.drop k = l[k]'(by rw [← HN.out]; exact hlt) :: l.drop (k + 1) := List.drop_eq_getElem_cons _
      have Hd := Lib.hid hd
      clear hd
      generalize l[k]'(by rw [← HN.out]; exact hlt) = y at *
      unfold i64 at hcell
      go_wp2
      · go_ret
        exact ⟨by rw [Hi.out, Hd.out]; simp_all [idx], rfl⟩
      · go_round
        case rel => exact ⟨k + 1, by omega, by go_num, by show _ = _; rw [Hi.out, Hd.out]; simp_all [idx]⟩
        case measure => simp [intOf]; omega
    · go_wp2
      go_ret
      exact ⟨by rw [Hi.out, List.drop_of_length_le (by have := HN.out; omega)]; rfl, rfl⟩

theorem contains_any (A : Option Addr) (cap : Nat) (l : List Int) (x : Int) (w : World) (hbig : l.length ≤ 9223372036854775807) (hs : Sl i64 w A l) :
    Calls Try.prog 83 #[.slice A l.length cap, .int .i64 x] w fun e w' => e = .returned (.bool (decide (x ∈ l))) ∧ w = w' := by
  have hi := index_any A cap l x w hbig hs
  have hg := idx_ge x l 0 (by omega)
  have HG := Lib.hid hg
  clear hg
  generalize l.length = n at *
  generalize idx x l 0 = r at *
  have HI := Lib.hid hi
  clear hi hs
  go_enter Try.func83, Try.ntmps83
  go_wp2_with (go_at_call 90; refine HI.out.mono ?_; rintro e w' ⟨rfl, rfl⟩)
  go_ret
  exact ⟨ret_bool (by simp [HG.out]), rfl⟩
end Go.Proofs.Ytkdcbidbciognaa
