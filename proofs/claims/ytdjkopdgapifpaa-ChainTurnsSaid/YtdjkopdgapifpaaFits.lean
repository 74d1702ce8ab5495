/-
  Walks of package chain, further: do all nodes of a chain lie below n?
-/
import Derived.Test.YtdjkopdgapifpaaChain
namespace Go.Proofs.Ytdjkopdgapifpaa
set_option linter.unusedVariables false
set_option linter.unusedSimpArgs false
open Go.RowKit

/-- is x no node below n? -/
def badB (n x : Int) : Bool := decide (x < 0 ∨ n ≤ x)

theorem bad_any (x n : Int) (b : Nat) (w : World) (hc : w.cell? ⟨b, 0, none⟩ = some (.int .i64 n)) :
    Calls Try.prog 78 #[.int .i64 x, .pointer (some ⟨b, 0, none⟩)] w fun e w' => e = .returned (.bool (badB n x)) ∧ w = w' := by
  generalize hr : badB n x = r
  have HR := Lib.hid hr
  clear hr
  unfold badB at HR
  by_cases h0 : x < 0
  · go_enter Try.func78, Try.ntmps78
    go_wp2
    go_ret
    exact ⟨ret_bool (by rw [← HR.out]; exact dec_true (by omega)), rfl⟩
  · by_cases h1 : n ≤ x
    · go_enter Try.func78, Try.ntmps78
      go_wp2
      go_ret
      exact ⟨ret_bool (by rw [← HR.out]; exact dec_true (by omega)), rfl⟩
    · go_enter Try.func78, Try.ntmps78
      go_wp2
      go_ret
      exact ⟨ret_bool (by rw [← HR.out]; exact dec_false (by omega)), rfl⟩

/-- the first place (from k on) at which the list says yes -/
def fidx (p : Int → Bool) : List Int → Int → Int
  | [], _ => -1
  | y :: l, k => if p y then k else fidx p l (k + 1)
theorem fidx_ge (p : Int → Bool) : ∀ (l : List Int) (k : Int), 0 ≤ k → (0 ≤ fidx p l k ↔ l.any p = true)
  | [], k, _ => by simp [fidx]
  | y :: l, k, h => by
    unfold fidx
    cases hp : p y
    · rw [if_neg (by simp), fidx_ge p l (k + 1) (by omega)]; simp [hp]
    · simp [h, hp]

theorem indexFunc_any (A : Option Addr) (cap : Nat) (l : List Int) (b : Nat) (n : Int) (w : World) (hbig : l.length ≤ 9223372036854775807) (hs : Sl i64 w A l) (hc : w.cell? ⟨b, 0, none⟩ = some (.int .i64 n)) :
    Calls Try.prog 79 #[.slice A l.length cap, .func (.func 78) #[] #[.pointer (some ⟨b, 0, none⟩)]] w fun e w' => e = .returned (.int .i64 (fidx (badB n) l 0)) ∧ w = w' := by
  have HF : Hid (∀ x, Calls Try.prog 78 #[.int .i64 x, .pointer (some ⟨b, 0, none⟩)] w fun e w' => e = .returned (.bool (badB n x)) ∧ w = w') := fun x => bad_any x n b w hc
  obtain ⟨N, hN⟩ : ∃ N, N = l.length := ⟨_, rfl⟩
  rw [← hN] at hbig ⊢
  have HN := Lib.hid hN
  have HS := Lib.hid hs
  clear hN hs hc
  generalize hr : fidx (badB n) l 0 = r
  have HR := Lib.hid hr
  clear hr
  go_enter Try.func79, Try.ntmps79
  go_wp2
  go_loop [8] (fun i => ∃ k : Nat, k ≤ N ∧ i = .int .i64 k ∧ Hid (r = fidx (badB n) (l.drop k) k)) (fun i => N - (intOf i).toNat)
  case atStart => exact ⟨0, Nat.zero_le _, rfl, HR.out.symm⟩
  case round =>
    obtain ⟨k, hk, rfl, Hi⟩ := hrel
    by_cases hlt : k < N
    · obtain ⟨b1, o, rfl, hcell⟩ := HS.out.at_ (k := k) (by rw [← HN.out]; exact hlt)
      have hd : l.drop k = l[k]'(by rw [← HN.out]; exact hlt) :: l.drop (k + 1) := List.drop_eq_getElem_cons _
      have Hd := Lib.hid hd
      clear hd
      generalize l[k]'(by rw [← HN.out]; exact hlt) = y at *
      unfold i64 at hcell
      have hf := HF.out y
      cases hb : badB n y
      · have HE : Hid (r = fidx (badB n) (l.drop (k + 1)) (k + 1)) := by show _ = _; rw [Hi.out, Hd.out]; simp [fidx, hb]
        rw [hb] at hf
        have HF1 := Lib.hid hf
        clear hb hf
        go_wp2_with (go_at_call 78; refine HF1.out.mono ?_; rintro e w' ⟨rfl, rfl⟩)
        go_round
        case rel => exact ⟨k + 1, by omega, by go_num, HE⟩
        case measure => simp [intOf]; omega
      · have HE : Hid (r = k) := by show _ = _; rw [Hi.out, Hd.out]; simp [fidx, hb]
        rw [hb] at hf
        have HF1 := Lib.hid hf
        clear hb hf
        go_wp2_with (go_at_call 78; refine HF1.out.mono ?_; rintro e w' ⟨rfl, rfl⟩)
        go_ret
        exact ⟨ret_int HE.out.symm, rfl⟩
    · go_wp2
      go_ret
      exact ⟨ret_int (by rw [Hi.out, List.drop_of_length_le (by have := HN.out; omega)]; rfl), rfl⟩

theorem containsFunc_any (A : Option Addr) (cap : Nat) (l : List Int) (b : Nat) (n : Int) (w : World) (hbig : l.length ≤ 9223372036854775807) (hs : Sl i64 w A l) (hc : w.cell? ⟨b, 0, none⟩ = some (.int .i64 n)) :
    Calls Try.prog 77 #[.slice A l.length cap, .func (.func 78) #[] #[.pointer (some ⟨b, 0, none⟩)]] w fun e w' => e = .returned (.bool (l.any (badB n))) ∧ w = w' := by
  have HI := Lib.hid (indexFunc_any A cap l b n w hbig hs hc)
  have hg := fidx_ge (badB n) l 0 (by omega)
  generalize hd : l.any (badB n) = d at *
  have HG := Lib.hid hg
  clear hd hg hs hc
  generalize l.length = N at *
  generalize fidx (badB n) l 0 = r at *
  go_enter Try.func77, Try.ntmps77
  go_wp2_with (go_at_call 79; refine HI.out.mono ?_; rintro e w' ⟨rfl, rfl⟩)
  go_ret
  exact ⟨ret_bool (by have := HG.out; cases d <;> simp_all), rfl⟩


theorem fits_any (ep n : Int) (A : Option Addr) (cap : Nat) (l : List Int) (w : World) (hl : l.length ≤ 9223372036854775807) (hs : Sl i64 w A l) :
    Calls Try.prog 69 #[chV ep A l.length cap, .int .i64 n] w fun e w' => e = .returned (.bool (!l.any (badB n))) ∧ Below w.heap.size w w' := by
  have HC : Hid (∀ W, Below w.heap.size w W → W.cell? ⟨w.heap.size + 1, 0, none⟩ = some (.int .i64 n) → Calls Try.prog 77 #[.slice A l.length cap, .func (.func 78) #[] #[.pointer (some ⟨w.heap.size + 1, 0, none⟩)]] W
      fun e w' => e = .returned (.bool (l.any (badB n))) ∧ W = w') := fun W hW hc => containsFunc_any A cap l _ n W hl (hs.stay hW) hc
  clear hs
  generalize l.any (badB n) = d at *
  generalize l.length = N at *
  have HB2 : Hid (Below w.heap.size w ((w.alloc (.cells #[.int .i64 ep, .slice A N cap] 50)).alloc (.cells #[.int .i64 n] 3))) := ((Below.refl _ _).alloc (Nat.le_refl _) _).alloc (by simp) _
  have hcn : Hid (((w.alloc (.cells #[.int .i64 ep, .slice A N cap] 50)).alloc (.cells #[.int .i64 n] 3)).cell? ⟨w.heap.size + 1, 0, none⟩ = some (.int .i64 n)) :=
    (Blk.new' _ 3 #[.int .i64 n] (w.heap.size + 1) (by simp)).cell 0
  cases d
  all_goals
    go_enter Try.func69, Try.ntmps69
    go_wp2_with (go_at_call 77; (with_reducible refine (HC.out _ HB2.out hcn.out).mono ?_); rintro e w' ⟨rfl, rfl⟩)
    go_ret
    exact ⟨rfl, HB2.out⟩

/-- who stands by so many places behind x; -1: nobody -/
def besideI (l : List Int) (x y : Int) : Int := if idx x l 0 < 0 ∨ idx x l 0 + y < 0 ∨ (l.length : Int) ≤ idx x l 0 + y then -1 else l.getD (idx x l 0 + y).toNat (-1)

theorem idx_lt (x : Int) : ∀ (l : List Int) (k : Int), -1 ≤ k → -1 ≤ idx x l k ∧ idx x l k < k + l.length ∨ idx x l k = -1
  | [], k, _ => by simp [idx]
  | y :: l, k, h => by
    unfold idx
    split
    · left; simp; omega
    · rcases idx_lt x l (k + 1) (by omega) with h | h
      · left; simp; omega
      · right; exact h

theorem beside_any (ep x y : Int) (A : Option Addr) (cap : Nat) (l : List Int) (w : World) (hl : l.length ≤ 9223372036854775806) (hy : -1 ≤ y ∧ y ≤ 1) (hs : Sl i64 w A l) :
    Calls Try.prog 64 #[chV ep A l.length cap, .int .i64 x, .int .i64 y] w fun e w' => e = .returned (.int .i64 (besideI l x y)) ∧ Below w.heap.size w w' := by
  have HB : Hid (∀ o, Below w.heap.size w (w.alloc o)) := fun o => (Below.refl _ _).alloc (Nat.le_refl _) _
  have HC : Hid (∀ o, Calls Try.prog 70 #[.slice A l.length cap, .int .i64 x] (w.alloc o) fun e w' => e = .returned (.int .i64 (idx x l 0)) ∧ w.alloc o = w') := fun o => index_any A cap l x _ (by omega) (hs.stay (HB.out o))
  have hb := idx_lt x l 0 (by omega)
  generalize hr : besideI l x y = r
  have HR := Lib.hid hr
  clear hr
  unfold besideI at HR
  generalize hq : idx x l 0 = q at *
  clear hq
  have hq : -1 ≤ q ∧ q < l.length := by omega
  clear hb
  by_cases h0 : q < 0
  · have HR' : Hid (r = -1) := by (show _ = _); rw [← HR.out, if_pos (.inl h0)]
    clear hs HR
    generalize l.length = N at *
    go_enter Try.func64, Try.ntmps64
    go_wp2_with (go_at_call 70; (with_reducible refine (HC.out _).mono ?_); rintro e w' ⟨rfl, rfl⟩)
    go_ret
    exact ⟨ret_int HR'.out.symm, HB.out _⟩
  · by_cases h1 : q + y < 0
    · have HR' : Hid (r = -1) := by (show _ = _); rw [← HR.out, if_pos (.inr (.inl h1))]
      clear hs HR
      generalize l.length = N at *
      go_enter Try.func64, Try.ntmps64
      go_wp2_with (go_at_call 70; (with_reducible refine (HC.out _).mono ?_); rintro e w' ⟨rfl, rfl⟩)
      go_ret
      exact ⟨ret_int HR'.out.symm, HB.out _⟩
    · by_cases h2 : (l.length : Int) ≤ q + y
      · have HR' : Hid (r = -1) := by (show _ = _); rw [← HR.out, if_pos (.inr (.inr h2))]
        clear hs HR
        generalize l.length = N at *
        go_enter Try.func64, Try.ntmps64
        go_wp2_with (go_at_call 70; (with_reducible refine (HC.out _).mono ?_); rintro e w' ⟨rfl, rfl⟩)
        go_ret
        exact ⟨ret_int HR'.out.symm, HB.out _⟩
      · obtain ⟨k, hk⟩ : ∃ k : Nat, q + y = k := ⟨(q + y).toNat, by omega⟩
        have hkl : k < l.length := by omega
        have HR' : Hid (r = l[k]) := by
          (show _ = _)
          rw [← HR.out, if_neg (by omega), hk]
          simp [List.getD, List.getElem?_eq_getElem hkl]
        obtain ⟨b, o, rfl, hc⟩ := hs.at_ (k := k) hkl
        have hc2 := fun oo => cell_stay (HB.out oo) hc
        unfold i64 at hc2
        generalize l[k] = v at *
        clear hs HR hc
        obtain rfl : q = k - y := by omega
        generalize l.length = N at *
        have hyy : (k : Int) - y + y = k := by omega
        go_enter Try.func64, Try.ntmps64
        go_wp2_with (go_at_call 70; (with_reducible refine (HC.out _).mono ?_); rintro e w' ⟨rfl, rfl⟩)
        go_ret
        exact ⟨ret_int HR'.out.symm, HB.out _⟩

theorem above_any (ep x : Int) (A : Option Addr) (cap : Nat) (l : List Int) (w : World) (hl : l.length ≤ 9223372036854775806) (hs : Sl i64 w A l) :
    Calls Try.prog 38 #[chV ep A l.length cap, .int .i64 x] w fun e w' => e = .returned (.int .i64 (besideI l x (-1))) ∧ Below w.heap.size w w' := by
  have HB : Hid (∀ o, Below w.heap.size w (w.alloc o)) := fun o => (Below.refl _ _).alloc (Nat.le_refl _) _
  have HC : Hid (∀ o, Calls Try.prog 64 #[.agg #[.int .i64 ep, .slice A l.length cap], .int .i64 x, .int .i64 (-1)] (w.alloc o) fun e w' => e = .returned (.int .i64 (besideI l x (-1))) ∧ Below (w.alloc o).heap.size (w.alloc o) w') := fun o => beside_any ep x (-1) A cap l _ hl (by omega) (hs.stay (HB.out o))
  clear hs
  generalize besideI l x (-1) = r at *
  generalize l.length = N at *
  go_enter Try.func38, Try.ntmps38
  go_wp2_with (go_at_call 64; (with_reducible refine (HC.out _).mono ?_); rintro e w' ⟨rfl, hx⟩; have HX := Lib.hid hx; clear hx)
  go_ret
  exact ⟨rfl, Below.step (HB.out _) HX.out⟩
theorem below_any (ep x : Int) (A : Option Addr) (cap : Nat) (l : List Int) (w : World) (hl : l.length ≤ 9223372036854775806) (hs : Sl i64 w A l) :
    Calls Try.prog 52 #[chV ep A l.length cap, .int .i64 x] w fun e w' => e = .returned (.int .i64 (besideI l x 1)) ∧ Below w.heap.size w w' := by
  have HB : Hid (∀ o, Below w.heap.size w (w.alloc o)) := fun o => (Below.refl _ _).alloc (Nat.le_refl _) _
  have HC : Hid (∀ o, Calls Try.prog 64 #[.agg #[.int .i64 ep, .slice A l.length cap], .int .i64 x, .int .i64 1] (w.alloc o) fun e w' => e = .returned (.int .i64 (besideI l x 1)) ∧ Below (w.alloc o).heap.size (w.alloc o) w') := fun o => beside_any ep x 1 A cap l _ hl (by omega) (hs.stay (HB.out o))
  clear hs
  generalize besideI l x 1 = r at *
  generalize l.length = N at *
  go_enter Try.func52, Try.ntmps52
  go_wp2_with (go_at_call 64; (with_reducible refine (HC.out _).mono ?_); rintro e w' ⟨rfl, hx⟩; have HX := Lib.hid hx; clear hx)
  go_ret
  exact ⟨rfl, Below.step (HB.out _) HX.out⟩
end Go.Proofs.Ytdjkopdgapifpaa
