/-
  Walks of chain.Has and of package grant: what each call does to a block of promises.
-/
import Derived.Test.YtbjekbbokhjfmaaSlices
namespace Go.Proofs.Ytbjekbbokhjfmaa
set_option linter.unusedVariables false
set_option linter.unusedSimpArgs false
open Go.RowKit

theorem has_any (e : Int) (A : Option Addr) (cap : Nat) (l : List Int) (x : Int) (w : World) (hbig : l.length ≤ 9223372036854775807) (hs : Sl i64 w A l) :
    Calls Try.prog 48 #[.agg #[.int .i64 e, .slice A l.length cap], .int .i64 x] w fun e w' => e = .returned (.bool (decide (x ∈ l))) ∧ Below w.heap.size w w' := by
  have HC : Hid (∀ W, Below w.heap.size w W → Calls Try.prog 52 #[.slice A l.length cap, .int .i64 x] W fun e w' => e = .returned (.bool (decide (x ∈ l))) ∧ W = w') :=
    fun W hW => contains_any A cap l x W hbig (hs.stay hW)
  clear hs
  generalize l.length = n at *
  generalize decide (x ∈ l) = d at *
  go_enter Try.func48, Try.ntmps48
  go_wp2_with (go_at_call 52; refine (HC.out _ ((Below.refl _ _).alloc (Nat.le_refl _) _)).mono ?_; rintro e w' ⟨rfl, rfl⟩)
  go_ret
  exact ⟨rfl, (Below.refl _ _).alloc (Nat.le_refl _) _⟩

/-- a block of promises -/
def GrantAt (w : World) (b : Nat) (n now u0 u1 u2 u3 u4 : Int) : Prop :=
  Blk w b 72 #[.int .i64 n, .int .i64 now, .int .i64 u0, .int .i64 u1, .int .i64 u2, .int .i64 u3, .int .i64 u4]

theorem is_nil (x : Int) (w : World) : Calls Try.prog 47 #[.pointer none, .int .i64 x] w fun e w' => e = .returned (.bool false) ∧ w = w' := by
  go_enter Try.func47, Try.ntmps47
  go_wp2
  go_ret
  exact ⟨rfl, rfl⟩

theorem is_any (b : Nat) (n now u0 u1 u2 u3 u4 x : Int) (w : World) (h : GrantAt w b n now u0 u1 u2 u3 u4) :
    Calls Try.prog 47 #[.pointer (some ⟨b, 0, none⟩), .int .i64 x] w fun e w' => e = .returned (.bool (decide (0 ≤ x ∧ x < n))) ∧ w = w' := by
  have h0 := h.cell 0
  simp at h0
  clear h
  generalize hd : decide (0 ≤ x ∧ x < n) = d
  have HD := Lib.hid hd
  clear hd
  by_cases hx : 0 ≤ x
  · by_cases hn : x < n
    · go_enter Try.func47, Try.ntmps47
      go_wp2
      go_ret
      exact ⟨ret_bool (by rw [← HD.out]; exact dec_true ⟨hx, hn⟩), rfl⟩
    · go_enter Try.func47, Try.ntmps47
      go_wp2
      go_ret
      exact ⟨ret_bool (by rw [← HD.out]; exact dec_false (by omega)), rfl⟩
  · go_enter Try.func47, Try.ntmps47
    go_wp2
    go_ret
    exact ⟨ret_bool (by rw [← HD.out]; exact dec_false (by omega)), rfl⟩

theorem until_nil (x : Int) (w : World) : Calls Try.prog 30 #[.pointer none, .int .i64 x] w fun e w' => e = .returned (.int .i64 0) ∧ w = w' := by
  go_enter Try.func30, Try.ntmps30
  go_wp2_with (go_at_call 47; refine (is_nil _ _).mono ?_; rintro e w' ⟨rfl, rfl⟩)
  go_ret
  exact ⟨rfl, rfl⟩

theorem give_nil (t x : Int) (w : World) : Calls Try.prog 27 #[.pointer none, .int .i64 t, .int .i64 x] w fun e w' => e = .returned (.bool false) ∧ w = w' := by
  go_enter Try.func27, Try.ntmps27
  go_wp2_with (go_at_call 47; refine (is_nil _ _).mono ?_; rintro e w' ⟨rfl, rfl⟩)
  go_ret
  exact ⟨rfl, rfl⟩

theorem veto_nil (t : Int) (e1 e2 : Int) (A1 A2 : Option Addr) (n1 c1 n2 c2 : Nat) (w : World) :
    Calls Try.prog 29 #[.pointer none, .int .i64 t, .agg #[.int .i64 e1, .slice A1 n1 c1], .agg #[.int .i64 e2, .slice A2 n2 c2]] w
      fun e w' => e = .returned (.bool true) ∧ Below w.heap.size w w' := by
  go_enter Try.func29, Try.ntmps29
  go_wp2
  go_ret
  exact ⟨rfl, ((Below.refl _ _).alloc (Nat.le_refl _) _).alloc (by simp) _⟩

/-- the k-th of five -/
def pick5 (u0 u1 u2 u3 u4 : Int) (k : Int) : Int := if k = 0 then u0 else if k = 1 then u1 else if k = 2 then u2 else if k = 3 then u3 else u4

theorem GrantAt.at_ {w : World} {b : Nat} {n now u0 u1 u2 u3 u4 : Int} (h : GrantAt w b n now u0 u1 u2 u3 u4) (k : Nat) (hk : k < 5) : w.cell? ⟨b, 2 + k, none⟩ = some (.int .i64 (pick5 u0 u1 u2 u3 u4 k)) := by
  rw [h.cell]
  match k, hk with
  | 0, _ => rfl
  | 1, _ => rfl
  | 2, _ => rfl
  | 3, _ => rfl
  | 4, _ => rfl

theorem until_any (b : Nat) (n now u0 u1 u2 u3 u4 x : Int) (w : World) (h : GrantAt w b n now u0 u1 u2 u3 u4) (hn : n ≤ 5) :
    Calls Try.prog 30 #[.pointer (some ⟨b, 0, none⟩), .int .i64 x] w fun e w' => e = .returned (.int .i64 (if 0 ≤ x ∧ x < n then pick5 u0 u1 u2 u3 u4 x else 0)) ∧ w = w' := by
  have HI := Lib.hid (is_any b n now u0 u1 u2 u3 u4 x w h)
  by_cases hx : 0 ≤ x ∧ x < n
  · obtain ⟨k, rfl⟩ := Int.eq_ofNat_of_zero_le hx.1
    have hk : k < 5 := by omega
    have hc := h.at_ k hk
    clear h
    rw [if_pos hx]
    generalize pick5 u0 u1 u2 u3 u4 k = y at *
    have hd : decide (0 ≤ (k : Int) ∧ (k : Int) < n) = true := decide_eq_true hx
    rw [hd] at HI
    clear hd hx
    go_enter Try.func30, Try.ntmps30
    go_wp2_with (go_at_call 47; refine HI.out.mono ?_; rintro e w' ⟨rfl, rfl⟩)
    go_ret
    exact ⟨rfl, rfl⟩
  · rw [if_neg hx]
    rw [decide_eq_false hx] at HI
    clear hx h
    go_enter Try.func30, Try.ntmps30
    go_wp2_with (go_at_call 47; refine HI.out.mono ?_; rintro e w' ⟨rfl, rfl⟩)
    go_ret
    exact ⟨rfl, rfl⟩

/-- Go's max -/
def mx (a b : Int) : Int := if a < b then b else a

theorem GrantAt.set {w : World} {b : Nat} {n now u0 u1 u2 u3 u4 : Int} (h : GrantAt w b n now u0 u1 u2 u3 u4) (k : Nat) (hk : k < 5) (y : Int) :
    GrantAt (w.setCell ⟨b, 2 + k, none⟩ (.int .i64 y)) b n now (if k = 0 then y else u0) (if k = 1 then y else u1) (if k = 2 then y else u2) (if k = 3 then y else u3) (if k = 4 then y else u4) := by
  have h2 := Blk.set h (2 + k) (.int .i64 y)
  match k, hk with
  | 0, _ => exact h2
  | 1, _ => exact h2
  | 2, _ => exact h2
  | 3, _ => exact h2
  | 4, _ => exact h2

theorem give_yes (b : Nat) (n now u0 u1 u2 u3 u4 t : Int) (k : Nat) (w : World) (h : GrantAt w b n now u0 u1 u2 u3 u4) (hk : k < 5) (hn : (k : Int) < n) (ht : now ≤ t) (h0 : 0 ≤ t) (ht2 : t ≤ 1099511627776)  :
    Calls Try.prog 27 #[.pointer (some ⟨b, 0, none⟩), .int .i64 t, .int .i64 k] w fun e w' => e = .returned (.bool true) ∧ w.grownBy w' (some b) ∧
      ∃ y, y = mx (pick5 u0 u1 u2 u3 u4 k) (t + 50) ∧ GrantAt w' b n now (if k = 0 then y else u0) (if k = 1 then y else u1) (if k = 2 then y else u2) (if k = 3 then y else u3) (if k = 4 then y else u4) := by
  have HI := Lib.hid (is_any b n now u0 u1 u2 u3 u4 k w h)
  have hc := h.at_ k hk
  have hc1 := h.cell 1
  have hf := h.frozen (2 + k)
  simp at hc1
  have hfin : ∀ e W, e = Ending.returned (.bool true) ∧ W = (w.setCell ⟨b, 2 + k, none⟩ (.int .i64 (mx (pick5 u0 u1 u2 u3 u4 k) (t + 50)))).drew → e = .returned (.bool true) ∧ w.grownBy W (some b) ∧
      ∃ y, y = mx (pick5 u0 u1 u2 u3 u4 k) (t + 50) ∧ GrantAt W b n now (if k = 0 then y else u0) (if k = 1 then y else u1) (if k = 2 then y else u2) (if k = 3 then y else u3) (if k = 4 then y else u4) := by
    rintro e W ⟨rfl, rfl⟩
    exact ⟨rfl, grown_drew (grown_set (grown_refl _ _) (.inl rfl) _), _, rfl, Blk.drew (h.set k hk _)⟩
  refine Calls.mono ?_ hfin
  clear h hfin
  generalize pick5 u0 u1 u2 u3 u4 k = y at *
  unfold mx
  have hd : decide (0 ≤ (k : Int) ∧ (k : Int) < n) = true := decide_eq_true ⟨by omega, hn⟩
  rw [hd] at HI
  clear hd
  go_enter Try.func27, Try.ntmps27
  go_wp2_with (go_at_call 47; refine HI.out.mono ?_; rintro e w' ⟨rfl, rfl⟩)
  go_region
  go_wp2
  all_goals go_ret
  all_goals exact ⟨rfl, rfl⟩

theorem give_no (b : Nat) (n now u0 u1 u2 u3 u4 t x : Int) (w : World) (h : GrantAt w b n now u0 u1 u2 u3 u4) (hno : ¬ (0 ≤ x ∧ x < n) ∨ t < now) :
    Calls Try.prog 27 #[.pointer (some ⟨b, 0, none⟩), .int .i64 t, .int .i64 x] w fun e w' => e = .returned (.bool false) ∧ w = w' := by
  have HI := Lib.hid (is_any b n now u0 u1 u2 u3 u4 x w h)
  have hc1 := h.cell 1
  simp at hc1
  clear h
  by_cases hx : 0 ≤ x ∧ x < n
  · have ht : t < now := hno.resolve_left (fun h => h hx)
    rw [decide_eq_true hx] at HI
    clear hno hx
    go_enter Try.func27, Try.ntmps27
    go_wp2_with (go_at_call 47; refine HI.out.mono ?_; rintro e w' ⟨rfl, rfl⟩)
    go_ret
    exact ⟨rfl, rfl⟩
  · rw [decide_eq_false hx] at HI
    clear hno hx
    go_enter Try.func27, Try.ntmps27
    go_wp2_with (go_at_call 47; refine HI.out.mono ?_; rintro e w' ⟨rfl, rfl⟩)
    go_ret
    exact ⟨rfl, rfl⟩

/-- who of the list stands in the way at t -/
def vetoB (n u0 u1 u2 u3 u4 t : Int) (m : List Int) (l : List Int) : Bool :=
  l.any fun x => !decide (x ∈ m) && decide (0 ≤ x ∧ x < n) && decide (t < pick5 u0 u1 u2 u3 u4 x)

theorem veto_any (b : Nat) (n now u0 u1 u2 u3 u4 t : Int) (e1 e2 : Int) (A1 A2 : Option Addr) (l m : List Int) (c1 c2 : Nat) (w : World) (h : GrantAt w b n now u0 u1 u2 u3 u4) (hn5 : n ≤ 5)
    (hl : l.length ≤ 1000000) (hm : m.length ≤ 1000000) (h1 : Sl i64 w A1 l) (h2 : Sl i64 w A2 m) :
    Calls Try.prog 29 #[.pointer (some ⟨b, 0, none⟩), .int .i64 t, .agg #[.int .i64 e1, .slice A1 l.length c1], .agg #[.int .i64 e2, .slice A2 m.length c2]] w
      fun e w' => e = .returned (.bool (vetoB n u0 u1 u2 u3 u4 t m l)) ∧ Below w.heap.size w w' := by
  have HH : Hid (∀ x W, Below w.heap.size w W → Calls Try.prog 48 #[.agg #[.int .i64 e2, .slice A2 m.length c2], .int .i64 x] W fun e w' => e = .returned (.bool (decide (x ∈ m))) ∧ Below W.heap.size W w') :=
    fun x W hW => has_any e2 A2 c2 m x W (by omega) (h2.stay hW)
  have HG : Hid (∀ W, Below w.heap.size w W → GrantAt W b n now u0 u1 u2 u3 u4) := fun W hW => Blk.stay h hW
  have HL : Hid (∀ W, Below w.heap.size w W → Sl i64 W A1 l) := fun W hW => h1.stay hW
  clear h h1 h2
  obtain ⟨N, hN⟩ : ∃ N, N = l.length := ⟨_, rfl⟩
  rw [← hN] at hl ⊢
  have HN := Lib.hid hN
  clear hN hm
  generalize m.length = M at *
  generalize hv : vetoB n u0 u1 u2 u3 u4 t m l = v
  have HV := Lib.hid hv
  clear hv
  go_enter Try.func29, Try.ntmps29
  go_wp2
  go_loopw [16] (fun i wr => ∃ k : Nat, k ≤ N ∧ i = .int .i64 k ∧ Hid (Below w.heap.size w wr ∧ Blk wr (w.heap.size + 1) 24 #[.int .i64 e2, .slice A2 M c2] ∧ v = vetoB n u0 u1 u2 u3 u4 t m (l.drop k)))
    (fun i _ => N - (intOf i).toNat)
  case atStart => exact ⟨0, Nat.zero_le _, rfl, ((Below.refl _ _).alloc (Nat.le_refl _) _).alloc (by simp) _, by simpa using Blk.new (w.alloc _) _ _, HV.out.symm⟩
  case round =>
    obtain ⟨k, hk, rfl, HR⟩ := hrel
    by_cases hlt : k < N
    · have hd : l.drop k = l[k]'(by rw [← HN.out]; exact hlt) :: l.drop (k + 1) := List.drop_eq_getElem_cons _
      obtain ⟨b1, o1, rfl, hcell⟩ := (HL.out _ HR.out.1).at_ (k := k) (by rw [← HN.out]; exact hlt)
      have Hd := Lib.hid hd
      clear hd
      generalize l[k]'(by rw [← HN.out]; exact hlt) = y at *
      unfold i64 at hcell
      have hb0 := HR.out.2.1.cell 0
      have hb1 := HR.out.2.1.cell 1
      simp at hb0 hb1
      have HB := HR.out.1
      have HD : Hid (v = (((!decide (y ∈ m)) && decide (0 ≤ y ∧ y < n) && decide (t < pick5 u0 u1 u2 u3 u4 y)) || vetoB n u0 u1 u2 u3 u4 t m (l.drop (k + 1)))) := by
        show _ = _
        rw [HR.out.2.2, Hd.out]; rfl
      have HK : Hid (∀ W, Below wr.heap.size wr W → v = vetoB n u0 u1 u2 u3 u4 t m (l.drop (k + 1)) →
          Hid (Below w.heap.size w W ∧ Blk W (w.heap.size + 1) 24 #[.int .i64 e2, .slice A2 M c2] ∧ v = vetoB n u0 u1 u2 u3 u4 t m (l.drop (k + 1)))) :=
        fun W hW hv => ⟨Below.step HR.out.1 hW, Blk.stay HR.out.2.1 hW, hv⟩
      have HG1 : Hid (∀ W, Below wr.heap.size wr W → GrantAt W b n now u0 u1 u2 u3 u4) := fun W hW => HG.out W (Below.step HR.out.1 hW)
      have hH := HH.out y wr HR.out.1
      by_cases hm : y ∈ m
      · rw [decide_eq_true hm] at hH
        have HH1 := Lib.hid hH
        have HE : Hid (v = vetoB n u0 u1 u2 u3 u4 t m (l.drop (k + 1))) := by show _ = _; rw [HD.out]; simp [hm]
        clear hH hm HB
        go_wp2_with (go_at_call 48; refine HH1.out.mono ?_; rintro e w1 ⟨rfl, hB1⟩)
        go_roundw
        case rel => exact ⟨k + 1, by omega, by go_num, HK.out _ hB1 HE.out⟩
        case measure => simp [intOf]; omega
      · rw [decide_eq_false hm] at hH
        have HH1 := Lib.hid hH
        clear hH
        have HI : Hid (∀ W, Below wr.heap.size wr W → Calls Try.prog 47 #[.pointer (some ⟨b, 0, none⟩), .int .i64 y] W fun e w' => e = .returned (.bool (decide (0 ≤ y ∧ y < n))) ∧ W = w') :=
          fun W hW => is_any b n now u0 u1 u2 u3 u4 y W (HG1.out W hW)
        by_cases hx : 0 ≤ y ∧ y < n
        · rw [decide_eq_true hx] at HI
          have HP : Hid (∀ W, Below wr.heap.size wr W → W.cell? ⟨b, 2 + y.toNat, none⟩ = some (.int .i64 (pick5 u0 u1 u2 u3 u4 y))) := fun W hW => by
            have := (HG1.out W hW).at_ y.toNat (by omega)
            rwa [Int.toNat_of_nonneg hx.1] at this
          have hy0 := hx.1
          have hy5 : y < 5 := by omega
          by_cases hp : t < pick5 u0 u1 u2 u3 u4 y
          · have HE : Hid (v = true) := by show _ = _; rw [HD.out]; simp [hm, hx, hp]
            clear hm hx HB
            generalize pick5 u0 u1 u2 u3 u4 y = q at *
            go_wp2_with (first
              | (go_at_call 48; refine HH1.out.mono ?_; rintro e w1 ⟨rfl, hB1⟩; have hP1 := HP.out _ hB1)
              | (go_at_call 47; refine (HI.out _ (by assumption)).mono ?_; rintro e w' ⟨rfl, rfl⟩))
            go_ret
            exact ⟨ret_bool HE.out.symm, Below.step HR.out.1 (by assumption)⟩
          · have HE : Hid (v = vetoB n u0 u1 u2 u3 u4 t m (l.drop (k + 1))) := by show _ = _; rw [HD.out]; simp [hp]
            clear hm hx HB
            generalize pick5 u0 u1 u2 u3 u4 y = q at *
            go_wp2_with (first
              | (go_at_call 48; refine HH1.out.mono ?_; rintro e w1 ⟨rfl, hB1⟩; have hP1 := HP.out _ hB1)
              | (go_at_call 47; refine (HI.out _ (by assumption)).mono ?_; rintro e w' ⟨rfl, rfl⟩))
            go_roundw
            case rel => exact ⟨k + 1, by omega, by go_num, HK.out _ (by assumption) HE.out⟩
            case measure => simp [intOf]; omega
        · have HE : Hid (v = vetoB n u0 u1 u2 u3 u4 t m (l.drop (k + 1))) := by show _ = _; rw [HD.out]; simp [hx]
          rw [decide_eq_false hx] at HI
          clear hm hx HB
          go_wp2_with (first
            | (go_at_call 48; refine HH1.out.mono ?_; rintro e w1 ⟨rfl, hB1⟩)
            | (go_at_call 47; refine (HI.out _ (by assumption)).mono ?_; rintro e w' ⟨rfl, rfl⟩))
          go_roundw
          case rel => exact ⟨k + 1, by omega, by go_num, HK.out _ (by assumption) HE.out⟩
          case measure => simp [intOf]; omega
    · go_wp2
      go_ret
      exact ⟨ret_bool (by rw [HR.out.2.2, List.drop_of_length_le (by have := HN.out; omega)]; rfl), HR.out.1⟩

theorem new_bad (n t : Int) (w : World) (h : n < 1 ∨ 5 < n ∨ t < 0 ∨ 1099511627776 < t) :
    Calls Try.prog 26 #[.int .i64 n, .int .i64 t] w fun e w' => e = .returned (.tuple #[.pointer none, .int .i64 1]) ∧ w = w' := by
  by_cases h1 : n < 1
  · clear h
    go_enter Try.func26, Try.ntmps26
    go_wp2
    go_ret2
    exact ⟨rfl, rfl⟩
  · by_cases h2 : 5 < n
    · clear h
      go_enter Try.func26, Try.ntmps26
      go_wp2
      go_ret2
      exact ⟨rfl, rfl⟩
    · by_cases h3 : t < 0
      · clear h
        go_enter Try.func26, Try.ntmps26
        go_wp2
        go_ret2
        exact ⟨rfl, rfl⟩
      · have h4 : 1099511627776 < t := by omega
        clear h
        go_enter Try.func26, Try.ntmps26
        go_wp2
        go_ret2
        exact ⟨rfl, rfl⟩

theorem new_any (n : Nat) (t : Int) (w : World) (h1 : 1 ≤ n) (h5 : n ≤ 5) (h0 : 0 ≤ t) (ht : t ≤ 1099511627776) :
    Calls Try.prog 26 #[.int .i64 n, .int .i64 t] w fun e w' => e = .returned (.tuple #[.pointer (some ⟨w.heap.size, 0, none⟩), .int .i64 0]) ∧ Below w.heap.size w w' ∧
      GrantAt w' w.heap.size n t (t + 50) (if 1 < n then t + 50 else 0) (if 2 < n then t + 50 else 0) (if 3 < n then t + 50 else 0) (if 4 < n then t + 50 else 0) := by
  have HF : Hid (∀ W, (Below w.heap.size w W ∧ GrantAt W w.heap.size n t (if 0 < n then t + 50 else 0) (if 1 < n then t + 50 else 0) (if 2 < n then t + 50 else 0) (if 3 < n then t + 50 else 0) (if 4 < n then t + 50 else 0)) →
      Below w.heap.size w W ∧ GrantAt W w.heap.size n t (t + 50) (if 1 < n then t + 50 else 0) (if 2 < n then t + 50 else 0) (if 3 < n then t + 50 else 0) (if 4 < n then t + 50 else 0)) := by
    intro W h; rw [if_pos (show 0 < n by omega)] at h; exact h
  generalize hR : (fun W : World => Below w.heap.size w W ∧ GrantAt W w.heap.size n t (t + 50) (if 1 < n then t + 50 else 0) (if 2 < n then t + 50 else 0) (if 3 < n then t + 50 else 0) (if 4 < n then t + 50 else 0)) = R
  have HR : Hid (∀ W, R W → Below w.heap.size w W ∧ GrantAt W w.heap.size n t (t + 50) (if 1 < n then t + 50 else 0) (if 2 < n then t + 50 else 0) (if 3 < n then t + 50 else 0) (if 4 < n then t + 50 else 0)) := by
    intro W h; rw [← hR] at h; exact h
  have HF' : Hid (∀ W, (Below w.heap.size w W ∧ GrantAt W w.heap.size n t (if 0 < n then t + 50 else 0) (if 1 < n then t + 50 else 0) (if 2 < n then t + 50 else 0) (if 3 < n then t + 50 else 0) (if 4 < n then t + 50 else 0)) → R W) := by
    intro W h; rw [← hR]; exact HF.out W h
  clear hR HF
  refine Calls.mono ?_ (fun e W (h : e = .returned (.tuple #[.pointer (some ⟨w.heap.size, 0, none⟩), .int .i64 0]) ∧ R W) => ⟨h.1, HR.out W h.2⟩)
  clear HR
  go_enter Try.func26, Try.ntmps26
  go_wp2
  go_loopw [27] (fun i wr => ∃ k : Nat, k ≤ n ∧ i = .int .i64 k ∧ Hid (Below w.heap.size w wr ∧ GrantAt wr w.heap.size n t (if 0 < k then t + 50 else 0) (if 1 < k then t + 50 else 0) (if 2 < k then t + 50 else 0) (if 3 < k then t + 50 else 0) (if 4 < k then t + 50 else 0)))
    (fun i _ => n - (intOf i).toNat)
  case atStart => exact ⟨0, Nat.zero_le _, rfl, (Below.refl _ _).alloc (Nat.le_refl _) _, by simp; exact Blk.new w _ _⟩
  case round =>
    obtain ⟨k, hk, rfl, HR⟩ := hrel
    by_cases hlt : k < n
    · have hc : ∃ u, wr.cell? ⟨w.heap.size, 2 + k, none⟩ = some (.int .i64 u) := ⟨_, HR.out.2.at_ k (by omega)⟩
      obtain ⟨u, hc⟩ := hc
      have hf := HR.out.2.frozen (2 + k)
      have HN : Hid (∀ W, W = wr.setCell ⟨w.heap.size, 2 + k, none⟩ (.int .i64 (t + 50)) → Below w.heap.size w W ∧ GrantAt W w.heap.size n t (if 0 < k + 1 then t + 50 else 0) (if 1 < k + 1 then t + 50 else 0) (if 2 < k + 1 then t + 50 else 0) (if 3 < k + 1 then t + 50 else 0) (if 4 < k + 1 then t + 50 else 0)) := by
        rintro W rfl
        refine ⟨HR.out.1.setCell (Nat.le_refl _) _, ?_⟩
        have := HR.out.2.set k (by omega) (t + 50)
        have hk5 : k = 0 ∨ k = 1 ∨ k = 2 ∨ k = 3 ∨ k = 4 := by omega
        rcases hk5 with rfl | rfl | rfl | rfl | rfl <;> simpa using this
      go_wp2
      go_roundw
      case rel => exact ⟨k + 1, by omega, by go_num, HN.out _ rfl⟩
      case measure => simp [intOf]; omega
    · have hkn : k = n := by omega
      have HE : Hid (R wr) := HF'.out _ (by have h := HR.out; rw [hkn] at h; exact h)
      clear hkn
      go_wp2
      go_ret2
      exact ⟨rfl, HE.out⟩

end Go.Proofs.Ytbjekbbokhjfmaa
