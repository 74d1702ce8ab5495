/-
  The walk of the law GrantBegins.
-/
import Derived.Test.YtbjekbbokhjfmaaToldGrant
namespace Go.Proofs.Ytbjekbbokhjfmaa
open Go.RowKit Go.ChangeShapes Go.WideShapes

/-- the promises (block P) and the law's two chains (blocks from h on) -/
def Beg (w0 W : World) (P h : Nat) (t u0 u1 u2 x y : Int) : Prop :=
  Below P w0 W ∧ P < h ∧ GrantAt W P 3 t u0 u1 u2 0 0 ∧ Sl i64 W (some ⟨h, 0, none⟩) [0, 1, 2] ∧ Sl i64 W (some ⟨h + 1, 0, none⟩) [x, y] ∧
    Blk W (h + 1 + 1) 24 #[.int .i64 1, .slice (some ⟨h, 0, none⟩) 3 3] ∧ Blk W (h + 1 + 1 + 1) 24 #[.int .i64 2, .slice (some ⟨h + 1, 0, none⟩) 2 2]

section
variable {w0 W W' : World} {P h : Nat} {t u0 u1 u2 x y : Int}
theorem Beg.stay (H : Beg w0 W P h t u0 u1 u2 x y) (hb : Below W.heap.size W W') : Beg w0 W' P h t u0 u1 u2 x y :=
  ⟨H.1.trans (hb.mono (Nat.le_of_lt (Blk.lt H.2.2.1))), H.2.1, Blk.stay H.2.2.1 hb, H.2.2.2.1.stay hb, H.2.2.2.2.1.stay hb, Blk.stay H.2.2.2.2.2.1 hb, Blk.stay H.2.2.2.2.2.2 hb⟩
theorem Beg.cells (H : Beg w0 W P h t u0 u1 u2 x y) : W.cell? ⟨h + 1 + 1, 0, none⟩ = some (.int .i64 1) ∧ W.cell? ⟨h + 1 + 1, 1, none⟩ = some (.slice (some ⟨h, 0, none⟩) 3 3) ∧
    W.cell? ⟨h + 1 + 1 + 1, 0, none⟩ = some (.int .i64 2) ∧ W.cell? ⟨h + 1 + 1 + 1, 1, none⟩ = some (.slice (some ⟨h + 1, 0, none⟩) 2 2) :=
  ⟨H.2.2.2.2.2.1.cell 0, H.2.2.2.2.2.1.cell 1, H.2.2.2.2.2.2.cell 0, H.2.2.2.2.2.2.cell 1⟩
theorem Beg.veto (H : Beg w0 W P h t u0 u1 u2 x y) (s : Int) :
    Calls Try.prog 29 #[.pointer (some ⟨P, 0, none⟩), .int .i64 s, .agg #[.int .i64 1, .slice (some ⟨h, 0, none⟩) 3 3], .agg #[.int .i64 2, .slice (some ⟨h + 1, 0, none⟩) 2 2]] W
      fun e w' => e = .returned (.bool (vetoB 3 u0 u1 u2 0 0 s [x, y] [0, 1, 2])) ∧ Beg w0 w' P h t u0 u1 u2 x y :=
  (veto_any P 3 t u0 u1 u2 0 0 s 1 2 _ _ [0, 1, 2] [x, y] 3 2 W H.2.2.1 (by omega) (by simp) (by simp) H.2.2.2.1 H.2.2.2.2.1).mono fun _ _ ⟨he, hb⟩ => ⟨he, H.stay hb⟩
theorem Beg.give (H : Beg w0 W P h t u0 u1 u2 x y) (s : Int) (k : Nat) (hk : k < 3) (h0 : 0 ≤ s) (ht : t ≤ s) (hs : s ≤ 1000000) :
    Calls Try.prog 27 #[.pointer (some ⟨P, 0, none⟩), .int .i64 s, .int .i64 k] W fun e w' => e = .returned (.bool true) ∧
      ∃ z, z = mx (pick5 u0 u1 u2 0 0 k) (s + 50) ∧ Beg w0 w' P h t (if k = 0 then z else u0) (if k = 1 then z else u1) (if k = 2 then z else u2) x y :=
  (give_yes P 3 t u0 u1 u2 0 0 s k W H.2.2.1 (by omega) (by omega) ht h0 (by omega)).mono fun e w' ⟨he, hg, z, hz, hG⟩ => by
    have hlt := Blk.lt H.2.2.1
    have hP := H.2.1
    rw [if_neg (show ¬ k = 3 by omega), if_neg (show ¬ k = 4 by omega)] at hG
    exact ⟨he, z, hz, H.1.trans (below_grown (Below.refl _ _) hg (by omega) (Nat.le_refl _)), hP, hG, H.2.2.2.1.grown hg (by simp; omega), H.2.2.2.2.1.grown hg (by simp; omega), Blk.grown H.2.2.2.2.2.1 hg (by simp; omega), Blk.grown H.2.2.2.2.2.2 hg (by simp; omega)⟩
theorem Beg.no (H : Beg w0 W P h t u0 u1 u2 x y) (s k : Int) (hno : ¬ (0 ≤ k ∧ k < 3) ∨ s < t) :
    Calls Try.prog 27 #[.pointer (some ⟨P, 0, none⟩), .int .i64 s, .int .i64 k] W fun e w' => e = .returned (.bool false) ∧ W = w' :=
  give_no P 3 t u0 u1 u2 0 0 s k W H.2.2.1 hno
theorem Beg.until_ (H : Beg w0 W P h t u0 u1 u2 x y) (k z : Int) (hk : (if 0 ≤ k ∧ k < 3 then pick5 u0 u1 u2 0 0 k else 0) = z) :
    Calls Try.prog 30 #[.pointer (some ⟨P, 0, none⟩), .int .i64 k] W fun e w' => e = .returned (.int .i64 z) ∧ W = w' :=
  (until_any P 3 t u0 u1 u2 0 0 k W H.2.2.1 (by omega)).mono fun e w' ⟨he, hw⟩ => ⟨by rw [he, hk], hw⟩
end

theorem beg_start {w w1 : World} {t : Int} (hb : Below w.heap.size w w1) (hg : GrantAt w1 w.heap.size 3 t (t + 50) (t + 50) (t + 50) 0 0) (x y : Int) :
    Beg w ((((w1.alloc (Obj.cells #[Value.int IntKind.i64 0, Value.int IntKind.i64 1, Value.int IntKind.i64 2] 3)).alloc (Obj.cells #[Value.int IntKind.i64 x, Value.int IntKind.i64 y] 3)).alloc
          (Obj.cells #[Value.int IntKind.i64 1, Value.slice (some { block := w1.heap.size, off := 0 }) 3 3] 24)).alloc
      (Obj.cells #[Value.int IntKind.i64 2, Value.slice (some { block := w1.heap.size + 1, off := 0 }) 2 2] 24)) w.heap.size w1.heap.size t (t + 50) (t + 50) (t + 50) x y := by
  have hlt := Blk.lt hg
  refine ⟨?_, hlt, ?_, ?_, ?_, ?_, ?_⟩
  · exact (((hb.alloc (by omega) _).alloc (by simp; omega) _).alloc (by simp; omega) _).alloc (by simp; omega) _
  · exact (((Blk.alloc hg _).alloc _).alloc _).alloc _
  · exact Sl.of_blk ((((Blk.new _ _ _).alloc _).alloc _).alloc _) (fun j v hj => by match j, hj with | 0, hj => (simp at hj; subst hj; rfl) | 1, hj => (simp at hj; subst hj; rfl) | 2, hj => (simp at hj; subst hj; rfl))
  · exact Sl.of_blk (((Blk.new' _ 3 #[.int .i64 x, .int .i64 y] _ (by simp)).alloc _).alloc _) (fun j v hj => by match j, hj with | 0, hj => (simp at hj; subst hj; rfl) | 1, hj => (simp at hj; subst hj; rfl))
  · exact (Blk.new' _ _ _ _ (by simp)).alloc _
  · exact Blk.new' _ _ _ _ (by simp)

theorem beg_give {w0 W : World} {P h : Nat} {t d x y : Int} (t0 : 0 ≤ t) (t1 : t < 1001) (d0 : 0 ≤ d) (d1 : d < 200) (k : Nat) (hk : k < 3) (H : Beg w0 W P h t (t + 50) (t + 50) (t + 50) x y) :
    Calls Try.prog 27 #[.pointer (some ⟨P, 0, none⟩), .int .i64 (t + d), .int .i64 k] W fun e w' => e = .returned (.bool true) ∧
      Beg w0 w' P h t (if k = 0 then t + d + 50 else t + 50) (if k = 1 then t + d + 50 else t + 50) (if k = 2 then t + d + 50 else t + 50) x y :=
  (H.give (t + d) k hk (by omega) (by omega) (by omega)).mono fun e w' ⟨he, z, hz, hB⟩ => by
    have : z = t + d + 50 := by
      rw [hz]
      have hp : pick5 (t + 50) (t + 50) (t + 50) 0 0 k = t + 50 := by unfold pick5; (repeat' split) <;> omega
      rw [hp]; unfold mx; split <;> omega
    subst this
    exact ⟨he, hB⟩

theorem Beg.told {w0 W : World} {P h : Nat} {t u0 u1 u2 x y : Int} (H : Beg w0 W P h t u0 u1 u2 x y) :
    Calls Try.prog 28 #[] W fun e w' => e = .returned (.bool true) ∧ Beg w0 w' P h t u0 u1 u2 x y :=
  (told_grant W).mono fun _ _ ⟨he, hb⟩ => ⟨he, H.stay hb⟩

set_option maxHeartbeats 2000000 in
theorem walk_grantBegins (a b c : Int) (w : World) : Calls Try.prog 10 #[.int .i64 a, .int .i64 b, .int .i64 c] w fun e w' => e = .returned (.bool true) ∧ Below w.heap.size w w' := by
  obtain ⟨t0, t1⟩ := umod_bd a 1001 (by omega) (by omega)
  obtain ⟨d0, d1⟩ := umod_bd b 200 (by omega) (by omega)
  obtain ⟨k0, k1⟩ := umod_bd c 3 (by omega) (by omega)
  go_enter Try.func10, Try.ntmps10
  go_wp2_with fail
  generalize wrap64 ((IntKind.u64.wrap a).tmod 1001) = t at *
  generalize wrap64 ((IntKind.u64.wrap b).tmod 200) = d at *
  generalize wrap64 ((IntKind.u64.wrap c).tmod 3) = k at *
  refine (new_three t w t0 (by omega)).mono ?_; rintro e w1 ⟨rfl, hb1, hg1⟩
  have HS : Hid (∀ x y, Beg w _ w.heap.size w1.heap.size t (t + 50) (t + 50) (t + 50) x y) := fun x y => beg_start hb1 hg1 x y
  clear hg1 hb1
  obtain rfl | rfl | rfl : k = 0 ∨ k = 1 ∨ k = 2 := by omega
  · have HV : Hid (vetoB 3 (t + 50) (t + 50) (t + 50) 0 0 (t + d) [1, 2] [0, 1, 2] = decide (d < 50)) := by simp [Hid, vetoB, pick5]
    have HU : Hid (∀ W, Beg w W w.heap.size w1.heap.size t (t + d + 50) (t + 50) (t + 50) 1 2 → Calls Try.prog 30 #[.pointer (some ⟨w.heap.size, 0, none⟩), .int .i64 0] W fun e w' => e = .returned (.int .i64 (t + d + 50)) ∧ W = w') := fun W H => H.until_ 0 (t + d + 50) rfl
    have HU2 : Hid (∀ W, Beg w W w.heap.size w1.heap.size t (t + d + 50) (t + 50) (t + 50) 1 2 → Calls Try.prog 30 #[.pointer (some ⟨w.heap.size, 0, none⟩), .int .i64 1] W fun e w' => e = .returned (.int .i64 (t + 50)) ∧ W = w') := fun W H => H.until_ 1 (t + 50) rfl
    go_wp2_with fail
    refine ((HS.out 1 2).veto (t + d)).mono ?_; rintro e w2 ⟨rfl, hB2⟩; rw [HV.out]; have HB2 := Lib.hid hB2; clear hB2 HS HV
    have HN1 : Hid (Calls Try.prog 27 #[.pointer (some ⟨w.heap.size, 0, none⟩), .int .i64 (t - 1), .int .i64 0] w2 fun e w' => e = .returned (.bool false) ∧ w2 = w') := HB2.out.no (t - 1) 0 (.inr (by omega))
    have HGV : Hid (Calls Try.prog 27 #[.pointer (some ⟨w.heap.size, 0, none⟩), .int .i64 (t + d), .int .i64 0] w2 fun e W => e = .returned (.bool true) ∧ Beg w W w.heap.size w1.heap.size t (t + d + 50) (t + 50) (t + 50) 1 2) := beg_give t0 t1 d0 d1 0 (by omega) HB2.out
    by_cases hd : d < 50
    all_goals
      first | rw [decide_eq_true hd] | rw [decide_eq_false hd]
      by_cases ht : 0 < t
      all_goals
        go_wp2_with (first
          | (go_at_call 27; (with_reducible refine HN1.out.mono ?_); rintro e w' ⟨rfl, rfl⟩)
          | (go_at_call 27; (with_reducible refine HGV.out.mono ?_); rintro e w3 ⟨rfl, hB3⟩; have HB3 := Lib.hid hB3; clear hB3)
          | (go_at_call 28; (with_reducible refine HB3.out.told.mono ?_); rintro e w4 ⟨rfl, hB4⟩; have HB4 := Lib.hid hB4; clear hB4; have HN3 := Lib.hid (HB4.out.no t 3 (.inl (by omega))); have HN4 := Lib.hid (HB4.out.no t (-1) (.inl (by omega))))
          | (go_at_call 30; (with_reducible refine (HU.out _ HB4.out).mono ?_); rintro e w' ⟨rfl, rfl⟩)
          | (go_at_call 30; (with_reducible refine (HU2.out _ HB4.out).mono ?_); rintro e w' ⟨rfl, rfl⟩)
          | (go_at_call 27; (with_reducible refine HN3.out.mono ?_); rintro e w' ⟨rfl, rfl⟩)
          | (go_at_call 27; (with_reducible refine HN4.out.mono ?_); rintro e w' ⟨rfl, rfl⟩))
        go_ret
        exact ⟨by first | rfl | exact ret_bool (by simp [hd]), HB4.out.1⟩
  · have HV : Hid (vetoB 3 (t + 50) (t + 50) (t + 50) 0 0 (t + d) [2, 0] [0, 1, 2] = decide (d < 50)) := by simp [Hid, vetoB, pick5]
    have HU : Hid (∀ W, Beg w W w.heap.size w1.heap.size t (t + 50) (t + d + 50) (t + 50) 2 0 → Calls Try.prog 30 #[.pointer (some ⟨w.heap.size, 0, none⟩), .int .i64 1] W fun e w' => e = .returned (.int .i64 (t + d + 50)) ∧ W = w') := fun W H => H.until_ 1 (t + d + 50) rfl
    have HU2 : Hid (∀ W, Beg w W w.heap.size w1.heap.size t (t + 50) (t + d + 50) (t + 50) 2 0 → Calls Try.prog 30 #[.pointer (some ⟨w.heap.size, 0, none⟩), .int .i64 2] W fun e w' => e = .returned (.int .i64 (t + 50)) ∧ W = w') := fun W H => H.until_ 2 (t + 50) rfl
    go_wp2_with fail
    refine ((HS.out 2 0).veto (t + d)).mono ?_; rintro e w2 ⟨rfl, hB2⟩; rw [HV.out]; have HB2 := Lib.hid hB2; clear hB2 HS HV
    have HN1 : Hid (Calls Try.prog 27 #[.pointer (some ⟨w.heap.size, 0, none⟩), .int .i64 (t - 1), .int .i64 1] w2 fun e w' => e = .returned (.bool false) ∧ w2 = w') := HB2.out.no (t - 1) 1 (.inr (by omega))
    have HGV : Hid (Calls Try.prog 27 #[.pointer (some ⟨w.heap.size, 0, none⟩), .int .i64 (t + d), .int .i64 1] w2 fun e W => e = .returned (.bool true) ∧ Beg w W w.heap.size w1.heap.size t (t + 50) (t + d + 50) (t + 50) 2 0) := beg_give t0 t1 d0 d1 1 (by omega) HB2.out
    by_cases hd : d < 50
    all_goals
      first | rw [decide_eq_true hd] | rw [decide_eq_false hd]
      by_cases ht : 0 < t
      all_goals
        go_wp2_with (first
          | (go_at_call 27; (with_reducible refine HN1.out.mono ?_); rintro e w' ⟨rfl, rfl⟩)
          | (go_at_call 27; (with_reducible refine HGV.out.mono ?_); rintro e w3 ⟨rfl, hB3⟩; have HB3 := Lib.hid hB3; clear hB3)
          | (go_at_call 28; (with_reducible refine HB3.out.told.mono ?_); rintro e w4 ⟨rfl, hB4⟩; have HB4 := Lib.hid hB4; clear hB4; have HN3 := Lib.hid (HB4.out.no t 3 (.inl (by omega))); have HN4 := Lib.hid (HB4.out.no t (-1) (.inl (by omega))))
          | (go_at_call 30; (with_reducible refine (HU.out _ HB4.out).mono ?_); rintro e w' ⟨rfl, rfl⟩)
          | (go_at_call 30; (with_reducible refine (HU2.out _ HB4.out).mono ?_); rintro e w' ⟨rfl, rfl⟩)
          | (go_at_call 27; (with_reducible refine HN3.out.mono ?_); rintro e w' ⟨rfl, rfl⟩)
          | (go_at_call 27; (with_reducible refine HN4.out.mono ?_); rintro e w' ⟨rfl, rfl⟩))
        go_ret
        exact ⟨by first | rfl | exact ret_bool (by simp [hd]), HB4.out.1⟩
  · have HV : Hid (vetoB 3 (t + 50) (t + 50) (t + 50) 0 0 (t + d) [0, 1] [0, 1, 2] = decide (d < 50)) := by simp [Hid, vetoB, pick5]
    have HU : Hid (∀ W, Beg w W w.heap.size w1.heap.size t (t + 50) (t + 50) (t + d + 50) 0 1 → Calls Try.prog 30 #[.pointer (some ⟨w.heap.size, 0, none⟩), .int .i64 2] W fun e w' => e = .returned (.int .i64 (t + d + 50)) ∧ W = w') := fun W H => H.until_ 2 (t + d + 50) rfl
    have HU2 : Hid (∀ W, Beg w W w.heap.size w1.heap.size t (t + 50) (t + 50) (t + d + 50) 0 1 → Calls Try.prog 30 #[.pointer (some ⟨w.heap.size, 0, none⟩), .int .i64 0] W fun e w' => e = .returned (.int .i64 (t + 50)) ∧ W = w') := fun W H => H.until_ 0 (t + 50) rfl
    go_wp2_with fail
    refine ((HS.out 0 1).veto (t + d)).mono ?_; rintro e w2 ⟨rfl, hB2⟩; rw [HV.out]; have HB2 := Lib.hid hB2; clear hB2 HS HV
    have HN1 : Hid (Calls Try.prog 27 #[.pointer (some ⟨w.heap.size, 0, none⟩), .int .i64 (t - 1), .int .i64 2] w2 fun e w' => e = .returned (.bool false) ∧ w2 = w') := HB2.out.no (t - 1) 2 (.inr (by omega))
    have HGV : Hid (Calls Try.prog 27 #[.pointer (some ⟨w.heap.size, 0, none⟩), .int .i64 (t + d), .int .i64 2] w2 fun e W => e = .returned (.bool true) ∧ Beg w W w.heap.size w1.heap.size t (t + 50) (t + 50) (t + d + 50) 0 1) := beg_give t0 t1 d0 d1 2 (by omega) HB2.out
    by_cases hd : d < 50
    all_goals
      first | rw [decide_eq_true hd] | rw [decide_eq_false hd]
      by_cases ht : 0 < t
      all_goals
        go_wp2_with (first
          | (go_at_call 27; (with_reducible refine HN1.out.mono ?_); rintro e w' ⟨rfl, rfl⟩)
          | (go_at_call 27; (with_reducible refine HGV.out.mono ?_); rintro e w3 ⟨rfl, hB3⟩; have HB3 := Lib.hid hB3; clear hB3)
          | (go_at_call 28; (with_reducible refine HB3.out.told.mono ?_); rintro e w4 ⟨rfl, hB4⟩; have HB4 := Lib.hid hB4; clear hB4; have HN3 := Lib.hid (HB4.out.no t 3 (.inl (by omega))); have HN4 := Lib.hid (HB4.out.no t (-1) (.inl (by omega))))
          | (go_at_call 30; (with_reducible refine (HU.out _ HB4.out).mono ?_); rintro e w' ⟨rfl, rfl⟩)
          | (go_at_call 30; (with_reducible refine (HU2.out _ HB4.out).mono ?_); rintro e w' ⟨rfl, rfl⟩)
          | (go_at_call 27; (with_reducible refine HN3.out.mono ?_); rintro e w' ⟨rfl, rfl⟩)
          | (go_at_call 27; (with_reducible refine HN4.out.mono ?_); rintro e w' ⟨rfl, rfl⟩))
        go_ret
        exact ⟨by first | rfl | exact ret_bool (by simp [hd]), HB4.out.1⟩

theorem law_grantBegins {H : Type} {enc : TypeId × Value → H} (W : World) (base : Nat) (args : Array Value) (ds : List (DataW H)) (p : List MemPlace)
    (hval : ∀ (j : Nat) t v, Try.f10.params[j]? = some t → args[j]? = some v → Value.okWide Try.prog W .any base t v)
    (hA : DataW.TrodAll enc Try.prog W 0 (fun _ => true) true Try.f10.params.toList args.toList ds p) :
    Calls Try.prog 10 args W fun e W' => e = .returned (.bool true) ∧ Below W.heap.size W W' := by
  rw [Try.params10] at hA hval
  obtain ⟨v0, vs0, d0, ds0, p0, q0, hargs, rfl, rfl, h0, r0⟩ := trodAll_cons hA
  obtain ⟨v1, vs1, d1, ds1, p1, q1, rfl, rfl, rfl, h1, r1⟩ := trodAll_cons r0
  obtain ⟨v2, vs2, d2, ds2, p2, q2, rfl, rfl, rfl, h2, r2⟩ := trodAll_cons r1
  obtain ⟨rfl, rfl, rfl⟩ := trodAll_nil r2
  obtain rfl : args = #[v0, v1, v2] := by cases args; simp_all
  obtain ⟨a0, rfl, rfl, rfl, w0⟩ := open_int Try.underlying3 (hval 0 3 v0 rfl rfl) h0
  obtain ⟨a1, rfl, rfl, rfl, w1⟩ := open_int Try.underlying3 (hval 1 3 v1 rfl rfl) h1
  obtain ⟨a2, rfl, rfl, rfl, w2⟩ := open_int Try.underlying3 (hval 2 3 v2 rfl rfl) h2
  exact walk_grantBegins a0 a1 a2 W
end Go.Proofs.Ytbjekbbokhjfmaa
