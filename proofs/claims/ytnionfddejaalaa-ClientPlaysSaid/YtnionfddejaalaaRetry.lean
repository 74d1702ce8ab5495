/-
  Walks of package retry: how long is waited, when it is due, whom to ask.
-/
import Derived.Test.YtnionfddejaalaaBase
namespace Go.Proofs.Ytnionfddejaalaa
set_option linter.unusedVariables false
set_option linter.unusedSimpArgs false
open Go.RowKit

def waitF (tries : Int) : Int := 8 * min (max tries 0) 4

theorem wait_any (t : Int) (w : World) (h0 : -9223372036854775808 ≤ t) (h1 : t ≤ 9223372036854775807) : Calls Try.prog 56 #[.int .i64 t] w fun e w' => e = .returned (.int .i64 (waitF t)) ∧ w = w' := by
  generalize hr : waitF t = r
  have HR := Lib.hid hr
  clear hr
  by_cases ht : t < 0
  · go_enter Try.func56, Try.ntmps56
    go_wp2
    all_goals go_ret
    all_goals exact ⟨ret_int (by rw [← HR.out]; unfold waitF; omega), rfl⟩
  · go_enter Try.func56, Try.ntmps56
    go_wp2
    all_goals go_ret
    all_goals exact ⟨ret_int (by rw [← HR.out]; unfold waitF; omega), rfl⟩

theorem wait_bd (t : Int) : 0 ≤ waitF t ∧ waitF t ≤ 32 := by unfold waitF; omega

def dueB (now asked tries : Int) : Bool := decide (0 ≤ now ∧ 0 ≤ asked ∧ waitF tries ≤ now - asked)

theorem due_any (now asked t : Int) (w : World) (h0 : -9223372036854775808 ≤ t) (h1 : t ≤ 9223372036854775807) (h2 : now ≤ 9223372036854775807) (h3 : asked ≤ 9223372036854775807) :
    Calls Try.prog 45 #[.int .i64 now, .int .i64 asked, .int .i64 t] w fun e w' => e = .returned (.bool (dueB now asked t)) ∧ w = w' := by
  generalize hr : dueB now asked t = r
  have HR := Lib.hid hr
  have HW := Lib.hid (wait_any t w h0 h1)
  clear hr h0 h1
  obtain ⟨b0, b1⟩ := wait_bd t
  unfold dueB at HR
  generalize waitF t = q at *
  by_cases hn : 0 ≤ now
  · by_cases ha : 0 ≤ asked
    · by_cases hq : q ≤ now - asked
      · go_enter Try.func45, Try.ntmps45
        go_wp2_with (go_at_call 56; refine HW.out.mono ?_; rintro e w' ⟨rfl, rfl⟩)
        go_ret
        exact ⟨ret_bool (by rw [← HR.out]; exact dec_true (by omega)), rfl⟩
      · go_enter Try.func45, Try.ntmps45
        go_wp2_with (go_at_call 56; refine HW.out.mono ?_; rintro e w' ⟨rfl, rfl⟩)
        go_ret
        exact ⟨ret_bool (by rw [← HR.out]; exact dec_iff (by omega)), rfl⟩
    · go_enter Try.func45, Try.ntmps45
      go_wp2
      go_ret
      exact ⟨ret_bool (by rw [← HR.out]; exact dec_false (by omega)), rfl⟩
  · go_enter Try.func45, Try.ntmps45
    go_wp2
    go_ret
    exact ⟨ret_bool (by rw [← HR.out]; exact dec_false (by omega)), rfl⟩

/-- is x no node below n? -/
def badB (n x : Int) : Bool := decide (x < 0 ∨ n ≤ x)

theorem bad_any (x n : Int) (b : Nat) (w : World) (hc : w.cell? ⟨b, 0, none⟩ = some (.int .i64 n)) :
    Calls Try.prog 62 #[.int .i64 x, .pointer (some ⟨b, 0, none⟩)] w fun e w' => e = .returned (.bool (badB n x)) ∧ w = w' := by
  generalize hr : badB n x = r
  have HR := Lib.hid hr
  clear hr
  unfold badB at HR
  by_cases h0 : x < 0
  · go_enter Try.func62, Try.ntmps62
    go_wp2
    go_ret
    exact ⟨ret_bool (by rw [← HR.out]; exact dec_true (by omega)), rfl⟩
  · by_cases h1 : n ≤ x
    · go_enter Try.func62, Try.ntmps62
      go_wp2
      go_ret
      exact ⟨ret_bool (by rw [← HR.out]; exact dec_true (by omega)), rfl⟩
    · go_enter Try.func62, Try.ntmps62
      go_wp2
      go_ret
      exact ⟨ret_bool (by rw [← HR.out]; exact dec_false (by omega)), rfl⟩

/-- the first place (from k on) at which the list says yes -/
def fidx (p : Int → Bool) : List Int → Int → Int
  | [], _ => -1
  | y :: l, k => if p y then k else fidx p l (k + 1)
theorem fidx_ge (p : Int → Bool) : ∀ (l : List Int) (k : Int), 0 ≤ k → (0 ≤ fidx p l k ↔ l.any p = true)
  | [], k, _ => by simp [fidx]
  | y :: l, k, h => by
    unfold fidx
    cases hp : p y
    · rw [if_neg (by simp), fidx_ge p l (k + 1) (by omega)]; simp [hp]
    · simp [h, hp]

theorem indexFunc_any (A : Option Addr) (cap : Nat) (l : List Int) (b : Nat) (n : Int) (w : World) (hbig : l.length ≤ 9223372036854775807) (hs : Sl i64 w A l) (hc : w.cell? ⟨b, 0, none⟩ = some (.int .i64 n)) :
    Calls Try.prog 64 #[.slice A l.length cap, .func (.func 62) #[] #[.pointer (some ⟨b, 0, none⟩)]] w fun e w' => e = .returned (.int .i64 (fidx (badB n) l 0)) ∧ w = w' := by
  have HF : Hid (∀ x, Calls Try.prog 62 #[.int .i64 x, .pointer (some ⟨b, 0, none⟩)] w fun e w' => e = .returned (.bool (badB n x)) ∧ w = w') := fun x => bad_any x n b w hc
  obtain ⟨N, hN⟩ : ∃ N, N = l.length := ⟨_, rfl⟩
  rw [← hN] at hbig ⊢
  have HN := Lib.hid hN
  have HS := Lib.hid hs
  clear hN hs hc
  generalize hr : fidx (badB n) l 0 = r
  have HR := Lib.hid hr
  clear hr
  go_enter Try.func64, Try.ntmps64
  go_wp2
  go_loop [8] (fun i => ∃ k : Nat, k ≤ N ∧ i = .int .i64 k ∧ Hid (r = fidx (badB n) (l.drop k) k)) (fun i => N - (intOf i).toNat)
  case atStart => exact ⟨0, Nat.zero_le _, rfl, HR.out.symm⟩
  case round =>
    obtain ⟨k, hk, rfl, Hi⟩ := hrel
    by_cases hlt : k < N
    · obtain ⟨b1, o, rfl, hcell⟩ := HS.out.at_ (k := k) (by rw [← HN.out]; exact hlt)
      have hd : l.drop k = l[k]'(by rw [← HN.out]; exact hlt) :: l.drop (k + 1) := List.drop_eq_getElem_cons _
      have Hd := Lib.hid hd
      clear hd
      generalize l[k]'(by rw [← HN.out]; exact hlt) = y at *
      unfold i64 at hcell
      have hf := HF.out y
      cases hb : badB n y
      · have HE : Hid (r = fidx (badB n) (l.drop (k + 1)) (k + 1)) := by show _ = _; rw [Hi.out, Hd.out]; simp [fidx, hb]
        rw [hb] at hf
        have HF1 := Lib.hid hf
        clear hb hf
        go_wp2_with (go_at_call 62; refine HF1.out.mono ?_; rintro e w' ⟨rfl, rfl⟩)
        go_round
        case rel => exact ⟨k + 1, by omega, by go_num, HE⟩
        case measure => simp [intOf]; omega
      · have HE : Hid (r = k) := by show _ = _; rw [Hi.out, Hd.out]; simp [fidx, hb]
        rw [hb] at hf
        have HF1 := Lib.hid hf
        clear hb hf
        go_wp2_with (go_at_call 62; refine HF1.out.mono ?_; rintro e w' ⟨rfl, rfl⟩)
        go_ret
        exact ⟨ret_int HE.out.symm, rfl⟩
    · go_wp2
      go_ret
      exact ⟨ret_int (by rw [Hi.out, List.drop_of_length_le (by have := HN.out; omega)]; rfl), rfl⟩

theorem containsFunc_any (A : Option Addr) (cap : Nat) (l : List Int) (b : Nat) (n : Int) (w : World) (hbig : l.length ≤ 9223372036854775807) (hs : Sl i64 w A l) (hc : w.cell? ⟨b, 0, none⟩ = some (.int .i64 n)) :
    Calls Try.prog 61 #[.slice A l.length cap, .func (.func 62) #[] #[.pointer (some ⟨b, 0, none⟩)]] w fun e w' => e = .returned (.bool (l.any (badB n))) ∧ w = w' := by
  have HI := Lib.hid (indexFunc_any A cap l b n w hbig hs hc)
  have hg := fidx_ge (badB n) l 0 (by omega)
  generalize hd : l.any (badB n) = d at *
  have HG := Lib.hid hg
  clear hd hg hs hc
  generalize l.length = N at *
  generalize fidx (badB n) l 0 = r at *
  go_enter Try.func61, Try.ntmps61
  go_wp2_with (go_at_call 64; refine HI.out.mono ?_; rintro e w' ⟨rfl, rfl⟩)
  go_ret
  exact ⟨ret_bool (by have := HG.out; cases d <;> simp_all), rfl⟩

/-- whom to ask -/
def targetF (l : List Int) (n t : Int) (writes : Bool) : Int :=
  if n < 1 then -1 else
  if t < 1 ∨ 2 < t ∨ l = [] ∨ l.any (badB n) = true then max t 0 % n else
  if writes then l.getD 0 0 else l.getD (t % l.length).toNat 0

theorem target_small (ep : Int) (A : Option Addr) (cap : Nat) (l : List Int) (n t : Int) (b : Bool) (w : World) (hn : n < 1) :
    Calls Try.prog 54 #[.agg #[.int .i64 ep, .slice A l.length cap], .int .i64 n, .int .i64 t, .bool b] w fun e w' => e = .returned (.int .i64 (targetF l n t b)) ∧ Below w.heap.size w w' := by
  generalize hr : targetF l n t b = r
  have HR := Lib.hid hr
  clear hr
  generalize l.length = N at *
  go_enter Try.func54, Try.ntmps54
  go_wp2
  go_ret
  exact ⟨ret_int (by rw [← HR.out]; unfold targetF; rw [if_pos hn]), ((Below.refl _ _).alloc (Nat.le_refl _) _).alloc (by simp) _⟩

theorem target_round (ep : Int) (A : Option Addr) (cap N : Nat) (n t : Int) (b : Bool) (w : World) (hn : 1 ≤ n) (ht : t < 1 ∨ 2 < t) :
    Calls Try.prog 54 #[.agg #[.int .i64 ep, .slice A N cap], .int .i64 n, .int .i64 t, .bool b] w fun e w' => e = .returned (.int .i64 (max t 0 % n)) ∧ Below w.heap.size w w' := by
  generalize hr : max t 0 % n = r
  have HR := Lib.hid hr
  clear hr
  by_cases h0 : t < 0
  · clear ht
    go_enter Try.func54, Try.ntmps54
    go_wp2
    go_ret
    exact ⟨ret_int (by rw [← HR.out, show max t 0 = 0 by omega]; simp), ((Below.refl _ _).alloc (Nat.le_refl _) _).alloc (by simp) _⟩
  · have ht' : t = 0 ∨ 2 < t := by omega
    clear ht
    rcases ht' with rfl | ht'
    · go_enter Try.func54, Try.ntmps54
      go_wp2
      go_ret
      exact ⟨ret_int (by rw [← HR.out]; simp), ((Below.refl _ _).alloc (Nat.le_refl _) _).alloc (by simp) _⟩
    · go_enter Try.func54, Try.ntmps54
      go_wp2
      go_ret
      exact ⟨ret_int (by rw [← HR.out, show max t 0 = t by omega]), ((Below.refl _ _).alloc (Nat.le_refl _) _).alloc (by simp) _⟩

theorem target_empty (ep : Int) (A : Option Addr) (cap : Nat) (n t : Int) (b : Bool) (w : World) (hn : 1 ≤ n) (h1 : 1 ≤ t) (h2 : t ≤ 2) :
    Calls Try.prog 54 #[.agg #[.int .i64 ep, .slice A 0 cap], .int .i64 n, .int .i64 t, .bool b] w fun e w' => e = .returned (.int .i64 (t % n)) ∧ Below w.heap.size w w' := by
  go_enter Try.func54, Try.ntmps54
  go_wp2
  go_ret
  exact ⟨rfl, ((Below.refl _ _).alloc (Nat.le_refl _) _).alloc (by simp) _⟩

theorem target_asks (ep : Int) (A : Option Addr) (cap : Nat) (l : List Int) (n t : Int) (b : Bool) (w : World) (hn : 1 ≤ n) (h1 : 1 ≤ t) (h2 : t ≤ 2) (hl : l ≠ []) (hbig : l.length ≤ 1000000) (hs : Sl i64 w A l) (r : Int)
    (hr : (if l.any (badB n) = true then t % n else if b then l.getD 0 0 else l.getD (t % l.length).toNat 0) = r) :
    Calls Try.prog 54 #[.agg #[.int .i64 ep, .slice A l.length cap], .int .i64 n, .int .i64 t, .bool b] w fun e w' => e = .returned (.int .i64 r) ∧ Below w.heap.size w w' := by
  have hpos : 0 < l.length := List.length_pos_iff.2 hl
  obtain ⟨b0, o0, hA, hc0⟩ := hs.at_ (k := 0) hpos
  subst hA
  have hm0 : 0 ≤ t % (l.length : Int) := Int.emod_nonneg _ (by omega)
  have hm1 : t % (l.length : Int) < l.length := Int.emod_lt_of_pos _ (by omega)
  obtain ⟨b1, o1, e1, hc1⟩ := hs.at_ (k := (t % (l.length : Int)).toNat) (by omega)
  injection e1 with e1; injection e1 with e1 e2; subst e1; subst e2
  have hC : Hid (∀ W, Below w.heap.size w W → W.cell? ⟨w.heap.size + 1, 0, none⟩ = some (.int .i64 n) → Calls Try.prog 61 #[.slice (some ⟨b0, o0, none⟩) l.length cap, .func (.func 62) #[] #[.pointer (some ⟨w.heap.size + 1, 0, none⟩)]] W
      fun e w' => e = .returned (.bool (l.any (badB n))) ∧ W = w') := fun W hW hc => containsFunc_any _ cap l _ n W (by omega) (hs.stay hW) hc
  have e0 : l[0] = l.getD 0 0 := by rw [List.getD, List.getElem?_eq_getElem hpos]; rfl
  have e1 : l[(t % (l.length : Int)).toNat]'(by omega) = l.getD (t % l.length).toNat 0 := by
    rw [List.getD, List.getElem?_eq_getElem (by omega)]; rfl
  rw [e0] at hc0
  rw [e1] at hc1
  have HR := Lib.hid hr
  clear hr e0 e1 hs hl
  generalize l.getD 0 0 = x0 at *
  generalize l.getD (t % l.length).toNat 0 = x1 at *
  generalize l.any (badB n) = d at *
  generalize l.length = N at *
  have hB2 : Hid (Below w.heap.size w ((w.alloc (.cells #[.int .i64 ep, .slice (some ⟨b0, o0, none⟩) N cap] 59)).alloc (.cells #[.int .i64 n] 3))) := ((Below.refl _ _).alloc (Nat.le_refl _) _).alloc (by simp) _
  have hcn : Hid (((w.alloc (.cells #[.int .i64 ep, .slice (some ⟨b0, o0, none⟩) N cap] 59)).alloc (.cells #[.int .i64 n] 3)).cell? ⟨w.heap.size + 1, 0, none⟩ = some (.int .i64 n)) :=
    (Blk.new' _ 3 #[.int .i64 n] (w.heap.size + 1) (by simp)).cell 0
  have hk0 := cell_stay hB2.out hc0
  have hk1 := cell_stay hB2.out hc1
  clear hc0 hc1
  unfold i64 at hk0 hk1
  simp only [Nat.add_zero] at hk0
  have hN0 : ((N : Int) == 0) = false := by rw [beq_eq_false_iff_ne]; omega
  cases d
  · cases b
    · go_enter Try.func54, Try.ntmps54
      go_wp2_with (go_at_call 61; refine (hC.out _ hB2.out hcn.out).mono ?_; rintro e w' ⟨rfl, rfl⟩)
      go_ret
      exact ⟨ret_int HR.out, hB2.out⟩
    · go_enter Try.func54, Try.ntmps54
      go_wp2_with (go_at_call 61; refine (hC.out _ hB2.out hcn.out).mono ?_; rintro e w' ⟨rfl, rfl⟩)
      go_ret
      exact ⟨ret_int HR.out, hB2.out⟩
  · go_enter Try.func54, Try.ntmps54
    go_wp2_with (go_at_call 61; refine (hC.out _ hB2.out hcn.out).mono ?_; rintro e w' ⟨rfl, rfl⟩)
    go_ret
    exact ⟨ret_int HR.out, hB2.out⟩

theorem target_any (ep : Int) (A : Option Addr) (cap : Nat) (l : List Int) (n t : Int) (b : Bool) (w : World) (hbig : l.length ≤ 1000000) (hs : Sl i64 w A l) :
    Calls Try.prog 54 #[.agg #[.int .i64 ep, .slice A l.length cap], .int .i64 n, .int .i64 t, .bool b] w fun e w' => e = .returned (.int .i64 (targetF l n t b)) ∧ Below w.heap.size w w' := by
  by_cases hn : n < 1
  · exact target_small ep A cap l n t b w hn
  · unfold targetF
    rw [if_neg hn]
    by_cases ht : t < 1 ∨ 2 < t
    · rw [if_pos (by omega)]
      exact target_round ep A cap l.length n t b w (by omega) ht
    · by_cases hl : l = []
      · subst hl
        rw [if_pos (by simp), show max t 0 = t by omega]
        exact target_empty ep A cap n t b w (by omega) (by omega) (by omega)
      · refine target_asks ep A cap l n t b w (by omega) (by omega) (by omega) hl hbig hs _ ?_
        cases hd : l.any (badB n)
        · rw [if_neg (show ¬ (false = true) by simp), if_neg (show ¬ (t < 1 ∨ 2 < t ∨ l = [] ∨ false = true) from fun h => by rcases h with h | h | h | h; exact ht (.inl h); exact ht (.inr h); exact hl h; cases h)]
        · rw [if_pos rfl, if_pos (by simp), show max t 0 = t by omega]
end Go.Proofs.Ytnionfddejaalaa
