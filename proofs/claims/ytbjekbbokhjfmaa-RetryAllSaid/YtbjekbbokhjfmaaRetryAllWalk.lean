/-
  The walk of the law RetryAll.
-/
import Derived.Test.YtbjekbbokhjfmaaToldRetry
import Derived.Test.YtbjekbbokhjfmaaOpen
import Derived.Deep.OwnRows
namespace Go.Proofs.Ytbjekbbokhjfmaa
open Go.RowKit Go.ChangeShapes Go.WideShapes

theorem info_bool : (Try.prog.info? 4).map (fun i => (i.zero, i.size, i.bytes)) = some (some (.bool false), 1, 1) := by kernel_rfl

/-- was r asked in the tries t, t + 1, .. below t + i? -/
def seenB (t k : Nat) (i r : Nat) : Bool := (List.range i).any fun j => (t + j) % k == r
theorem seen_zero (t k r : Nat) : seenB t k 0 r = false := rfl
theorem seen_succ (t k i r : Nat) : seenB t k (i + 1) r = (seenB t k i r || (t + i) % k == r) := by
  unfold seenB; rw [List.range_succ, List.any_append]; simp
theorem seen_new (t k i : Nat) (hi : i < k) : seenB t k i ((t + i) % k) = false := by
  unfold seenB
  rw [List.any_eq_false]
  intro j hj
  rw [List.mem_range] at hj
  simp only [beq_iff_eq]
  intro h
  have h1 := Nat.sub_mod_eq_zero_of_mod_eq h.symm
  rw [show t + i - (t + j) = i - j by omega, Nat.mod_eq_of_lt (by omega)] at h1
  omega

/-- the answers so far: block g is k bools -/
def Marks (w : World) (g : Nat) (t k i : Nat) : Prop := ∃ cs : Array Value, Blk w g 4 cs ∧ cs.size = k ∧ ∀ r, r < k → cs[r]? = some (.bool (seenB t k i r))
theorem Marks.stay {w w' : World} {g t k i : Nat} (H : Marks w g t k i) (hb : Below w.heap.size w w') : Marks w' g t k i := by
  obtain ⟨cs, h1, h2, h3⟩ := H
  exact ⟨cs, h1.stay hb, h2, h3⟩
theorem Marks.put {w : World} {g t k i : Nat} (H : Marks w g t k i) (hk : 0 < k) : Marks (w.setCell ⟨g, (t + i) % k, none⟩ (.bool true)) g t k (i + 1) := by
  obtain ⟨cs, h1, h2, h3⟩ := H
  refine ⟨cs.setIfInBounds ((t + i) % k) (.bool true), h1.set _ _, by simp [h2], fun r hr => ?_⟩
  rw [seen_succ, Array.getElem?_setIfInBounds]
  by_cases e : (t + i) % k = r
  · rw [if_pos e, if_pos (by rw [h2]; exact Nat.mod_lt _ hk)]; simp [e]
  · rw [if_neg e, h3 r hr]
    have : ((t + i) % k == r) = false := by simp [e]
    rw [this, Bool.or_false]
theorem Marks.new (w : World) (t k : Nat) : Marks (w.alloc (.cells (madeCells #[.bool false] k) 4)) w.heap.size t k 0 :=
  ⟨_, Blk.new _ _ _, by simp [madeCells], fun r hr => by rw [seen_zero]; simp [madeCells, hr, Nat.mod_one]⟩

/-- what holds ahead of try t + j -/
def Tried (w0 W : World) (ep : Int) (A : Option Addr) (N cap t k j : Nat) : Prop :=
  Below w0.heap.size w0 W ∧ Blk W w0.heap.size 24 #[.int .i64 ep, .slice A N cap] ∧ Marks W (w0.heap.size + 1) t k j
section
variable {w0 W W' : World} {ep : Int} {A : Option Addr} {N cap t k j : Nat}
theorem Tried.start (w : World) : Tried w ((w.alloc (.cells #[.int .i64 ep, .slice A N cap] 24)).alloc (.cells (madeCells #[.bool false] k) 4)) ep A N cap t k 0 :=
  ⟨((Below.refl _ _).alloc (Nat.le_refl _) _).alloc (by simp) _, (Blk.new w _ _).alloc _, by have := Marks.new (w.alloc (.cells #[.int .i64 ep, .slice A N cap] 24)) t k; simpa using this⟩
theorem Tried.stay (H : Tried w0 W ep A N cap t k j) (hb : Below W.heap.size W W') : Tried w0 W' ep A N cap t k j := ⟨Below.step H.1 hb, H.2.1.stay hb, H.2.2.stay hb⟩
theorem Tried.cell (H : Tried w0 W ep A N cap t k j) (hj : j < k) : W.cell? ⟨w0.heap.size + 1, (t + j) % k, none⟩ = some (.bool false) ∧ W.frozen? ⟨w0.heap.size + 1, (t + j) % k, none⟩ = false := by
  obtain ⟨cs, h1, h2, h3⟩ := H.2.2
  exact ⟨by rw [h1.cell, h3 _ (Nat.mod_lt _ (by omega)), seen_new t k j hj], h1.frozen _⟩
theorem Tried.put (H : Tried w0 W ep A N cap t k j) (hk : 0 < k) : Tried w0 (W.setCell ⟨w0.heap.size + 1, (t + j) % k, none⟩ (.bool true)) ep A N cap t k (j + 1) :=
  ⟨H.1.setCell (by show w0.heap.size ≤ w0.heap.size + 1; omega) _, H.2.1.far (by show w0.heap.size ≠ w0.heap.size + 1; omega) _, H.2.2.put hk⟩
end

set_option maxHeartbeats 1000000 in
theorem walk_retryAll0 (a b ep : Int) (A : Option Addr) (N cap : Nat) (c : Bool) (w : World) (_hN : N ≤ 9223372036854775807) :
    Calls Try.prog 3 #[.int .i64 a, .int .i64 b, .agg #[.int .i64 ep, .slice A N cap], .bool c] w fun e w' => e = .returned (.bool true) ∧ Below w.heap.size w w' := by
  obtain ⟨a0, a1⟩ := umod_bd a 5 (by omega) (by omega)
  obtain ⟨b0, b1⟩ := umod_bd b 1000 (by omega) (by omega)
  by_cases h8 : 8 < N
  · go_enter Try.func3, Try.ntmps3
    go_wp2_with (go_at_call 15; refine (told_retry _).mono ?_; rintro e w1 ⟨rfl, hb1⟩; have HB1 := Lib.hid hb1; clear hb1)
    go_ret
    exact ⟨rfl, Below.step ((Below.refl _ _).alloc (Nat.le_refl _) _) HB1.out⟩
  · go_enter Try.func3, Try.ntmps3
    go_wp2_with fail
    obtain ⟨k, hk⟩ : ∃ k : Nat, 1 + wrap64 ((IntKind.u64.wrap a).tmod 5) = (k : Int) := ⟨(1 + wrap64 ((IntKind.u64.wrap a).tmod 5)).toNat, by omega⟩
    obtain ⟨t, ht⟩ : ∃ t : Nat, 3 + wrap64 ((IntKind.u64.wrap b).tmod 1000) = (t : Int) := ⟨(3 + wrap64 ((IntKind.u64.wrap b).tmod 1000)).toNat, by omega⟩
    rw [hk, ht]
    have k1 : 1 ≤ k := by omega
    have k5 : k ≤ 5 := by omega
    have t3 : 3 ≤ t := by omega
    have t1 : t ≤ 1002 := by omega
    clear hk ht a0 a1 b0 b1
    have hmk := run_make_row' (P := Try.prog) 27 4 (.bool false) 1 Try.underlying27 info_bool rfl .i64 .i64 k (by omega) (by omega)
    rw [hmk]
    go_wp2_with fail
    clear hmk
    have HS : Hid (Tried w _ ep A N cap t k 0) := Tried.start w
    go_loopw [12] (fun i wr => ∃ j : Nat, j ≤ k ∧ i = .int .i64 j ∧ Hid (Tried w wr ep A N cap t k j)) (fun i _ => k - (intOf i).toNat)
    case atStart => exact ⟨0, by omega, rfl, HS⟩
    case round =>
      obtain ⟨j, hj, rfl, HR⟩ := hrel
      have hb0 := HR.out.2.1.cell 0
      have hb1 := HR.out.2.1.cell 1
      simp at hb0 hb1
      by_cases hlt : j < k
      · have hT := target_round ep A cap N k ((t : Int) + j) c wr (by omega) (by omega)
        have hmx : max ((t : Int) + j) 0 % (k : Int) = (((t + j) % k : Nat) : Int) := by rw [show max ((t : Int) + j) 0 = ((t + j : Nat) : Int) by omega]; omega
        rw [hmx] at hT
        have HT := Lib.hid hT
        have hxk : (t + j) % k < k := Nat.mod_lt _ k1
        have HK : Hid (∀ W, Below wr.heap.size wr W → Tried w W ep A N cap t k j ∧ W.cell? ⟨w.heap.size + 1, (t + j) % k, none⟩ = some (.bool false) ∧ W.frozen? ⟨w.heap.size + 1, (t + j) % k, none⟩ = false) := fun W hW =>
          ⟨HR.out.stay hW, (HR.out.stay hW).cell hlt⟩
        have HP : Hid (∀ W, Tried w W ep A N cap t k j → Tried w (W.setCell ⟨w.heap.size + 1, (t + j) % k, none⟩ (.bool true)) ep A N cap t k (j + 1)) := fun W h => h.put k1
        clear hT hmx
        generalize (t + j) % k = x at *
        go_wp2_with (go_at_call 16; refine HT.out.mono ?_; rintro e w1 ⟨rfl, hb⟩; obtain ⟨h1, hx, hf⟩ := HK.out _ hb; have H1 := Lib.hid h1; clear h1 hb)
        go_roundw
        case rel => exact ⟨j + 1, by omega, by go_num, HP.out _ H1.out⟩
        case measure => simp [intOf]; omega
      · have hjk : j = k := by omega
        have HB := Lib.hid HR.out.1
        clear HR HS hb0 hb1 hj hjk
        obtain ⟨q, hq, hq2⟩ : ∃ q : Int, waitF t = q ∧ (t = 3 ∧ q = 24 ∨ 4 ≤ t ∧ q = 32) := ⟨_, rfl, by unfold waitF; omega⟩
        have HW : Hid (∀ W, Calls Try.prog 17 #[.int .i64 t] W fun e w' => e = .returned (.int .i64 q) ∧ W = w') := fun W => by rw [← hq]; exact wait_any t W (by omega) (by omega)
        have HW2 : Hid (∀ W, Calls Try.prog 17 #[.int .i64 ((t : Int) + 1)] W fun e w' => e = .returned (.int .i64 32) ∧ W = w') := fun W => by
          have := wait_any ((t : Int) + 1) W (by omega) (by omega)
          rwa [show waitF ((t : Int) + 1) = 32 by unfold waitF; omega] at this
        have HD : Hid (∀ W, Calls Try.prog 18 #[.int .i64 ((t : Int) + q), .int .i64 t, .int .i64 t] W fun e w' => e = .returned (.bool true) ∧ W = w') := fun W => by
          have := due_any ((t : Int) + q) t t W (by omega) (by omega) (by omega) (by omega)
          rwa [show dueB ((t : Int) + q) t t = true by unfold dueB; rw [decide_eq_true]; omega] at this
        have HD2 : Hid (∀ W, Calls Try.prog 18 #[.int .i64 ((t : Int) + q - 1), .int .i64 t, .int .i64 t] W fun e w' => e = .returned (.bool false) ∧ W = w') := fun W => by
          have := due_any ((t : Int) + q - 1) t t W (by omega) (by omega) (by omega) (by omega)
          rwa [show dueB ((t : Int) + q - 1) t t = false by unfold dueB; rw [decide_eq_false]; omega] at this
        clear hq
        have hq3 : ((t : Int) = 3 ∧ q = 24) ∨ (4 ≤ (t : Int) ∧ (t : Int) ≤ 1002 ∧ q = 32) := by omega
        clear hq2
        generalize (t : Int) = T at *
        clear t1 t3
        rcases hq3 with ⟨rfl, rfl⟩ | ⟨h4, h5, rfl⟩
        all_goals
          try simp only [Int.reduceAdd, Int.reduceSub] at HW2 HD HD2
          go_wp2_with (first
            | (go_at_call 17; (with_reducible refine (HW.out _).mono ?_); rintro e w' ⟨rfl, rfl⟩)
            | (go_at_call 17; (with_reducible refine (HW2.out _).mono ?_); rintro e w' ⟨rfl, rfl⟩)
            | (go_at_call 18; (with_reducible refine (HD.out _).mono ?_); rintro e w' ⟨rfl, rfl⟩)
            | (go_at_call 18; (with_reducible refine (HD2.out _).mono ?_); rintro e w' ⟨rfl, rfl⟩)
            | (go_at_call 15; (with_reducible refine (told_retry _).mono ?_); rintro e w1 ⟨rfl, hb1⟩; have HB1 := Lib.hid hb1; clear hb1))
          go_ret
          exact ⟨rfl, Below.step HB.out HB1.out⟩

theorem law_retryAll {H : Type} {enc : TypeId × Value → H} (W : World) (base : Nat) (args : Array Value) (ds : List (DataW H)) (p : List MemPlace)
    (hval : ∀ (j : Nat) t v, Try.f3.params[j]? = some t → args[j]? = some v → Value.okWide Try.prog W .any base t v)
    (hA : DataW.TrodAll enc Try.prog W 0 (fun _ => true) true Try.f3.params.toList args.toList ds p) :
    Calls Try.prog 3 args W fun e W' => e = .returned (.bool true) ∧ Below W.heap.size W W' := by
  rw [Try.params3] at hA hval
  obtain ⟨v0, vs0, d0, ds0, p0, q0, hargs, rfl, rfl, h0, r0⟩ := trodAll_cons hA
  obtain ⟨v1, vs1, d1, ds1, p1, q1, rfl, rfl, rfl, h1, r1⟩ := trodAll_cons r0
  obtain ⟨v2, vs2, d2, ds2, p2, q2, rfl, rfl, rfl, h2, r2⟩ := trodAll_cons r1
  obtain ⟨v3, vs3, d3, ds3, p3, q3, rfl, rfl, rfl, h3, r3⟩ := trodAll_cons r2
  obtain ⟨rfl, rfl, rfl⟩ := trodAll_nil r3
  obtain rfl : args = #[v0, v1, v2, v3] := by cases args; simp_all
  obtain ⟨a0, rfl, rfl, rfl, w0⟩ := open_int Try.underlying3 (hval 0 3 v0 rfl rfl) h0
  obtain ⟨a1, rfl, rfl, rfl, w1⟩ := open_int Try.underlying3 (hval 1 3 v1 rfl rfl) h1
  obtain ⟨ep2, A2, c2, l2, rfl, w2, x2, y2, z2, g2⟩ := open_chain (hval 2 24 v2 rfl rfl) h2
  obtain ⟨a3, rfl, rfl, rfl⟩ := open_bool Try.underlying4 (hval 3 4 v3 rfl rfl) h3
  exact walk_retryAll0 a0 a1 ep2 A2 l2.length c2 a3 W (Nat.le_trans x2 y2)
end Go.Proofs.Ytbjekbbokhjfmaa
