/-
  Walks of package chain, further: do all nodes of a chain lie below n?
-/
import Derived.Test.YtkdcbidbciognaaChain
namespace Go.Proofs.Ytkdcbidbciognaa
set_option linter.unusedVariables false
set_option linter.unusedSimpArgs false
open Go.RowKit

/-- is x no node below n? -/
def badB (n x : Int) : Bool := decide (x < 0 ∨ n ≤ x)

theorem bad_any (x n : Int) (b : Nat) (w : World) (hc : w.cell? ⟨b, 0, none⟩ = some (.int .i64 n)) :
    Calls Try.prog 89 #[.int .i64 x, .pointer (some ⟨b, 0, none⟩)] w fun e w' => e = .returned (.bool (badB n x)) ∧ w = w' := by
  generalize hr : badB n x = r
  have HR := Lib.hid hr
  clear hr
  unfold badB at HR
  by_cases h0 : x < 0
  · go_enter Try.func89, Try.ntmps89
    go_wp2
    go_ret
    exact ⟨ret_bool (by rw [← HR.out]; exact dec_true (by omega)), rfl⟩
  · by_cases h1 : n ≤ x
    · go_enter Try.func89, Try.ntmps89
      go_wp2
      go_ret
      exact ⟨ret_bool (by rw [← HR.out]; exact dec_true (by omega)), rfl⟩
    · go_enter Try.func89, Try.ntmps89
      go_wp2
      go_ret
      exact ⟨ret_bool (by rw [← HR.out]; exact dec_false (by omega)), rfl⟩

/-- the first place (from k on) at which the list says yes -/
def fidx (p : Int → Bool) : List Int → Int → Int
  | [], _ => -1
  | y :: l, k => if p y then k else fidx p l (k + 1)
theorem fidx_ge (p : Int → Bool) : ∀ (l : List Int) (k : Int), 0 ≤ k → (0 ≤ fidx p l k ↔ l.any p = true)
  | [], k, _ => by simp [fidx]
  | y :: l, k, h => by
    unfold fidx
    cases hp : p y
    · rw [if_neg (by simp), fidx_ge p l (k + 1) (by omega)]; simp [hp]
    · simp [h, hp]

theorem indexFunc_any (A : Option Addr) (cap : Nat) (l : List Int) (b : Nat) (n : Int) (w : World) (hbig : l.length ≤ 9223372036854775807) (hs : Sl i64 w A l) (hc : w.cell? ⟨b, 0, none⟩ = some (.int .i64 n)) :
    Calls Try.prog 101 #[.slice A l.length cap, .func (.func 89) #[] #[.pointer (some ⟨b, 0, none⟩)]] w fun e w' => e = .returned (.int .i64 (fidx (badB n) l 0)) ∧ w = w' := by
  have HF : Hid (∀ x, Calls Try.prog 89 #[.int .i64 x, .pointer (some ⟨b, 0, none⟩)] w fun e w' => e = .returned (.bool (badB n x)) ∧ w = w') := fun x => bad_any x n b w hc
  obtain ⟨N, hN⟩ : ∃ N, N = l.length := ⟨_, rfl⟩
  rw [← hN] at hbig ⊢
  have HN := Lib.hid hN
  have HS := Lib.hid hs
  clear hN hs hc
  generalize hr : fidx (badB n) l 0 = r
  have HR := Lib.hid hr
  clear hr
  go_enter Try.func101, Try.ntmps101
  go_wp2
  go_loop [8] (fun i => ∃ k : Nat, k ≤ N ∧ i = .int .i64 k ∧ Hid (r = fidx (badB n) (l.drop k) k)) (fun i => N - (intOf i).toNat)
  case atStart => exact ⟨0, Nat.zero_le _, rfl, HR.out.symm⟩
  case round =>
    obtain ⟨k, hk, rfl, Hi⟩ := hrel
    by_cases hlt : k < N
    · obtain ⟨b1, o, rfl, hcell⟩ := HS.out.at_ (k := k) (by rw [← HN.out]; exact hlt)
      have hd : l.drop k = l[k]'(by rw [← HN.out]; exact hlt) :: l.drop (k + 1) := List.drop_eq_getElem_cons _
      have Hd := Lib.hid hd
      clear hd
      generalize l[k]'(by rw [← HN.out]; exact hlt) = y at *
      unfold i64 at hcell
      have hf := HF.out y
      cases hb : badB n y
      · have HE : Hid (r = fidx (badB n) (l.drop (k + 1)) (k + 1)) := by show _ = _; rw [Hi.out, Hd.out]; simp [fidx, hb]
        rw [hb] at hf
        have HF1 := Lib.hid hf
        clear hb hf
        go_wp2_with (go_at_call 89; refine HF1.out.mono ?_; rintro e w' ⟨rfl, rfl⟩)
        go_round
        case rel => exact ⟨k + 1, by omega, by go_num, HE⟩
        case measure => simp [intOf]; omega
      · have HE : Hid (r = k) := by show _ = _; rw [Hi.out, Hd.out]; simp [fidx, hb]
        rw [hb] at hf
        have HF1 := Lib.hid hf
        clear hb hf
        go_wp2_with (go_at_call 89; refine HF1.out.mono ?_; rintro e w' ⟨rfl, rfl⟩)
        go_ret
        exact ⟨ret_int HE.out.symm, rfl⟩
    · go_wp2
      go_ret
      exact ⟨ret_int (by rw [Hi.out, List.drop_of_length_le (by have := HN.out; omega)]; rfl), rfl⟩

theorem containsFunc_any (A : Option Addr) (cap : Nat) (l : List Int) (b : Nat) (n : Int) (w : World) (hbig : l.length ≤ 9223372036854775807) (hs : Sl i64 w A l) (hc : w.cell? ⟨b, 0, none⟩ = some (.int .i64 n)) :
    Calls Try.prog 88 #[.slice A l.length cap, .func (.func 89) #[] #[.pointer (some ⟨b, 0, none⟩)]] w fun e w' => e = .returned (.bool (l.any (badB n))) ∧ w = w' := by
  have HI := Lib.hid (indexFunc_any A cap l b n w hbig hs hc)
  have hg := fidx_ge (badB n) l 0 (by omega)
  generalize hd : l.any (badB n) = d at *
  have HG := Lib.hid hg
  clear hd hg hs hc
  generalize l.length = N at *
  generalize fidx (badB n) l 0 = r at *
  go_enter Try.func88, Try.ntmps88
  go_wp2_with (go_at_call 101; refine HI.out.mono ?_; rintro e w' ⟨rfl, rfl⟩)
  go_ret
  exact ⟨ret_bool (by have := HG.out; cases d <;> simp_all), rfl⟩


theorem fits_any (ep n : Int) (A : Option Addr) (cap : Nat) (l : List Int) (w : World) (hl : l.length ≤ 9223372036854775807) (hs : Sl i64 w A l) :
    Calls Try.prog 59 #[chV ep A l.length cap, .int .i64 n] w fun e w' => e = .returned (.bool (!l.any (badB n))) ∧ Below w.heap.size w w' := by
  have HC : Hid (∀ W, Below w.heap.size w W → W.cell? ⟨w.heap.size + 1, 0, none⟩ = some (.int .i64 n) → Calls Try.prog 88 #[.slice A l.length cap, .func (.func 89) #[] #[.pointer (some ⟨w.heap.size + 1, 0, none⟩)]] W
      fun e w' => e = .returned (.bool (l.any (badB n))) ∧ W = w') := fun W hW hc => containsFunc_any A cap l _ n W hl (hs.stay hW) hc
  clear hs
  generalize l.any (badB n) = d at *
  generalize l.length = N at *
  have HB2 : Hid (Below w.heap.size w ((w.alloc (.cells #[.int .i64 ep, .slice A N cap] 26)).alloc (.cells #[.int .i64 n] 3))) := ((Below.refl _ _).alloc (Nat.le_refl _) _).alloc (by simp) _
  have hcn : Hid (((w.alloc (.cells #[.int .i64 ep, .slice A N cap] 26)).alloc (.cells #[.int .i64 n] 3)).cell? ⟨w.heap.size + 1, 0, none⟩ = some (.int .i64 n)) :=
    (Blk.new' _ 3 #[.int .i64 n] (w.heap.size + 1) (by simp)).cell 0
  cases d
  all_goals
    go_enter Try.func59, Try.ntmps59
    go_wp2_with (go_at_call 88; (with_reducible refine (HC.out _ HB2.out hcn.out).mono ?_); rintro e w' ⟨rfl, rfl⟩)
    go_ret
    exact ⟨rfl, HB2.out⟩

/-- who stands by so many places behind x; -1: nobody -/
def besideI (l : List Int) (x y : Int) : Int := if idx x l 0 < 0 ∨ idx x l 0 + y < 0 ∨ (l.length : Int) ≤ idx x l 0 + y then -1 else l.getD (idx x l 0 + y).toNat (-1)

theorem idx_lt (x : Int) : ∀ (l : List Int) (k : Int), -1 ≤ k → -1 ≤ idx x l k ∧ idx x l k < k + l.length ∨ idx x l k = -1
  | [], k, _ => by simp [idx]
  | y :: l, k, h => by
    unfold idx
    split
    · left; simp; omega
    · rcases idx_lt x l (k + 1) (by omega) with h | h
      · left; simp; omega
      · right; exact h

end Go.Proofs.Ytkdcbidbciognaa
