/-
  The law package's own small questions of package grant: answered yes.
-/
import Derived.Test.YtbjekbbokhjfmaaGrant
import Derived.Deep.RegionHeld3
namespace Go.Proofs.Ytbjekbbokhjfmaa
set_option linter.unusedVariables false
set_option linter.unusedSimpArgs false
open Go.RowKit

theorem new_three (t : Int) (w : World) (h0 : 0 ≤ t) (ht : t ≤ 1099511627776) :
    Calls Try.prog 26 #[.int .i64 3, .int .i64 t] w fun e w' => e = .returned (.tuple #[.pointer (some ⟨w.heap.size, 0, none⟩), .int .i64 0]) ∧ Below w.heap.size w w' ∧
      GrantAt w' w.heap.size 3 t (t + 50) (t + 50) (t + 50) 0 0 := new_any 3 t w (by omega) (by omega) h0 ht

/-- what the two chains of the small questions look like in memory (h: the first of their blocks), and the promises (block P) -/
def Asked (w0 W : World) (P h : Nat) (u2 : Int) : Prop :=
  Below P w0 W ∧ GrantAt W P 3 0 50 50 u2 0 0 ∧ Sl i64 W (some ⟨h, 0, none⟩) [0, 1, 2] ∧ Sl i64 W (some ⟨h + 1, 0, none⟩) [0, 1] ∧
    Blk W (h + 1 + 1) 24 #[.int .i64 1, .slice (some ⟨h, 0, none⟩) 3 3] ∧ Blk W (h + 1 + 1 + 1) 24 #[.int .i64 2, .slice (some ⟨h + 1, 0, none⟩) 2 2]

section
variable {w0 W W' : World} {P h : Nat} {u2 : Int}
theorem Asked.stay (H : Asked w0 W P h u2) (hb : Below W.heap.size W W') : Asked w0 W' P h u2 :=
  ⟨H.1.trans (hb.mono (Nat.le_of_lt (Blk.lt H.2.1))), Blk.stay H.2.1 hb, H.2.2.1.stay hb, H.2.2.2.1.stay hb, Blk.stay H.2.2.2.2.1 hb, Blk.stay H.2.2.2.2.2 hb⟩
theorem Asked.drew (H : Asked w0 W P h u2) : Asked w0 W.drew P h u2 := ⟨H.1.drew, H.2⟩
theorem Asked.cells (H : Asked w0 W P h u2) : W.cell? ⟨h + 1 + 1, 0, none⟩ = some (.int .i64 1) ∧ W.cell? ⟨h + 1 + 1, 1, none⟩ = some (.slice (some ⟨h, 0, none⟩) 3 3) ∧
    W.cell? ⟨h + 1 + 1 + 1, 0, none⟩ = some (.int .i64 2) ∧ W.cell? ⟨h + 1 + 1 + 1, 1, none⟩ = some (.slice (some ⟨h + 1, 0, none⟩) 2 2) :=
  ⟨H.2.2.2.2.1.cell 0, H.2.2.2.2.1.cell 1, H.2.2.2.2.2.cell 0, H.2.2.2.2.2.cell 1⟩
theorem Asked.veto (H : Asked w0 W P h u2) (t : Int) (v : Bool) (hv : vetoB 3 50 50 u2 0 0 t [0, 1] [0, 1, 2] = v) :
    Calls Try.prog 29 #[.pointer (some ⟨P, 0, none⟩), .int .i64 t, .agg #[.int .i64 1, .slice (some ⟨h, 0, none⟩) 3 3], .agg #[.int .i64 2, .slice (some ⟨h + 1, 0, none⟩) 2 2]] W
      fun e w' => e = .returned (.bool v) ∧ Asked w0 w' P h u2 :=
  (veto_any P 3 0 50 50 u2 0 0 t 1 2 _ _ [0, 1, 2] [0, 1] 3 2 W H.2.1 (by omega) (by simp) (by simp) H.2.2.1 H.2.2.2.1).mono fun _ _ ⟨he, hb⟩ => ⟨by rw [he, hv], H.stay hb⟩
theorem Asked.veto2 (H : Asked w0 W P h u2) (t : Int) (v : Bool) (hv : vetoB 3 50 50 u2 0 0 t [0, 1] [0, 1] = v) :
    Calls Try.prog 29 #[.pointer (some ⟨P, 0, none⟩), .int .i64 t, .agg #[.int .i64 2, .slice (some ⟨h + 1, 0, none⟩) 2 2], .agg #[.int .i64 2, .slice (some ⟨h + 1, 0, none⟩) 2 2]] W
      fun e w' => e = .returned (.bool v) ∧ Asked w0 w' P h u2 :=
  (veto_any P 3 0 50 50 u2 0 0 t 2 2 _ _ [0, 1] [0, 1] 2 2 W H.2.1 (by omega) (by simp) (by simp) H.2.2.2.1 H.2.2.2.1).mono fun _ _ ⟨he, hb⟩ => ⟨by rw [he, hv], H.stay hb⟩
theorem Asked.give (H : Asked w0 W P h 50) (hP : P < h) :
    Calls Try.prog 27 #[.pointer (some ⟨P, 0, none⟩), .int .i64 60, .int .i64 2] W fun e w' => e = .returned (.bool true) ∧ Asked w0 w' P h 110 :=
  (give_yes P 3 0 50 50 50 0 0 60 2 W H.2.1 (by omega) (by omega) (by omega) (by omega) (by omega)).mono fun e w' ⟨he, hg, y, hy, hG⟩ => by
    have hy' : y = 110 := by rw [hy]; decide
    subst hy'
    have hlt := Blk.lt H.2.1
    exact ⟨he, H.1.trans (below_grown (Below.refl _ _) hg (by omega) (Nat.le_refl _)), by simpa using hG, H.2.2.1.grown hg (by simp; omega), H.2.2.2.1.grown hg (by simp; omega), Blk.grown H.2.2.2.2.1 hg (by simp; omega), Blk.grown H.2.2.2.2.2 hg (by simp; omega)⟩
theorem Asked.until (H : Asked w0 W P h 110) :
    Calls Try.prog 30 #[.pointer (some ⟨P, 0, none⟩), .int .i64 2] W fun e w' => e = .returned (.int .i64 110) ∧ W = w' :=
  (until_any P 3 0 50 50 110 0 0 2 W H.2.1 (by omega)).mono fun e w' ⟨he, hw⟩ => ⟨by rw [he]; rfl, hw⟩
end

theorem v49 : vetoB 3 50 50 50 0 0 49 [0, 1] [0, 1, 2] = true := by decide
theorem v50 : vetoB 3 50 50 50 0 0 50 [0, 1] [0, 1, 2] = false := by decide
theorem v109 : vetoB 3 50 50 110 0 0 109 [0, 1] [0, 1, 2] = true := by decide
theorem v110 : vetoB 3 50 50 110 0 0 110 [0, 1] [0, 1, 2] = false := by decide
theorem v0 : vetoB 3 50 50 110 0 0 0 [0, 1] [0, 1] = false := by decide

set_option maxHeartbeats 400000 in
theorem told_grant (w : World) : Calls Try.prog 28 #[] w fun e w' => e = .returned (.bool true) ∧ Below w.heap.size w w' := by
  have HN := Lib.hid (new_three 0 w (by omega) (by omega))
  have HB : Hid (∀ W, Calls Try.prog 26 #[.int .i64 0, .int .i64 0] W fun e w' => e = .returned (.tuple #[.pointer none, .int .i64 1]) ∧ W = w') := fun W => new_bad 0 0 W (by omega)
  go_enter Try.func28, Try.ntmps28
  go_wp2_with fail
  refine HN.out.mono ?_; rintro e w1 ⟨rfl, hb1, hg1⟩; have HG1 := Lib.hid hg1; clear hg1
  go_wp2_with fail
  refine (HB.out _).mono ?_; rintro e w2 ⟨rfl, rfl⟩
  go_wp2_with fail
  clear HN HB
  have hB : ∀ W, W = (((w1.alloc (Obj.cells #[Value.int IntKind.i64 0, Value.int IntKind.i64 1, Value.int IntKind.i64 2] 3)).alloc (Obj.cells #[Value.int IntKind.i64 0, Value.int IntKind.i64 1] 3)).alloc
          (Obj.cells #[Value.int IntKind.i64 1, Value.slice (some { block := w1.heap.size, off := 0 }) 3 3] 24)).alloc
      (Obj.cells #[Value.int IntKind.i64 2, Value.slice (some { block := w1.heap.size + 1, off := 0 }) 2 2] 24) → Asked w W w.heap.size w1.heap.size 50 ∧ w.heap.size < w1.heap.size := by
    rintro W rfl
    have hlt := Blk.lt HG1.out
    refine ⟨⟨?_, ?_, ?_, ?_, ?_, ?_⟩, hlt⟩
    · exact (((hb1.alloc (by omega) _).alloc (by simp; omega) _).alloc (by simp; omega) _).alloc (by simp; omega) _
    · exact (((Blk.alloc HG1.out _).alloc _).alloc _).alloc _
    · exact Sl.of_blk ((((Blk.new _ _ _).alloc _).alloc _).alloc _) (fun j v hj => by match j, hj with | 0, hj => (simp at hj; subst hj; rfl) | 1, hj => (simp at hj; subst hj; rfl) | 2, hj => (simp at hj; subst hj; rfl))
    · exact Sl.of_blk (((Blk.new' _ 3 #[.int .i64 0, .int .i64 1] _ (by simp)).alloc _).alloc _) (fun j v hj => by match j, hj with | 0, hj => (simp at hj; subst hj; rfl) | 1, hj => (simp at hj; subst hj; rfl))
    · exact (Blk.new' _ _ _ _ (by simp)).alloc _
    · exact Blk.new' _ _ _ _ (by simp)
  generalize hW : (((w1.alloc (Obj.cells #[Value.int IntKind.i64 0, Value.int IntKind.i64 1, Value.int IntKind.i64 2] 3)).alloc (Obj.cells #[Value.int IntKind.i64 0, Value.int IntKind.i64 1] 3)).alloc
          (Obj.cells #[Value.int IntKind.i64 1, Value.slice (some { block := w1.heap.size, off := 0 }) 3 3] 24)).alloc
      (Obj.cells #[Value.int IntKind.i64 2, Value.slice (some { block := w1.heap.size + 1, off := 0 }) 2 2] 24) = W2
  have HW := Lib.hid (hB W2 hW.symm)
  clear hB hW HG1 hb1
  generalize w1.heap.size = h at *
  generalize hPe : w.heap.size = P at *
  have HPe := Lib.hid hPe
  clear hPe
  have HA := Lib.hid HW.out.1
  have hP := HW.out.2
  obtain ⟨c0, c1, c2, c3⟩ := HA.out.cells
  clear HW
  go_region_held3 (fun W' => W'.cell? ⟨h + 1 + 1, 0, none⟩ = some (.int .i64 1) ∧ W'.cell? ⟨h + 1 + 1, 1, none⟩ = some (.slice (some ⟨h, 0, none⟩) 3 3) ∧
    W'.cell? ⟨h + 1 + 1 + 1, 0, none⟩ = some (.int .i64 2) ∧ W'.cell? ⟨h + 1 + 1 + 1, 1, none⟩ = some (.slice (some ⟨h + 1, 0, none⟩) 2 2)) (first | exact ⟨c0, c1, c2, c3⟩ | exact ⟨k0, k1, k2, k3⟩ | exact ⟨m0, m1, m2, m3⟩)
    (first | (go_at_call 29; (first
      | ((with_reducible refine (HA.out.drew.veto 49 true v49).mono ?_); rintro e w3 ⟨rfl, hA3⟩; have HA3 := Lib.hid hA3; clear hA3; obtain ⟨k0, k1, k2, k3⟩ := HA3.out.cells)
      | ((with_reducible refine (HA3.out.veto 50 false v50).mono ?_); rintro e w4 ⟨rfl, hA4⟩; have HA4 := Lib.hid hA4; clear hA4; obtain ⟨m0, m1, m2, m3⟩ := HA4.out.cells))))
  clear c0 c1 c2 c3 k0 k1 k2 k3 HA HA3
  go_wp2_with fail
  refine (HA4.out.give hP).mono ?_; rintro e w5 ⟨rfl, hA5⟩; have HA5 := Lib.hid hA5; clear hA5; obtain ⟨p0, p1, p2, p3⟩ := HA5.out.cells
  clear m0 m1 m2 m3 HA4
  go_wp2_with fail
  refine (HA5.out.until).mono ?_; rintro e w' ⟨rfl, rfl⟩
  go_wp2_with fail
  refine (HA5.out.veto 109 true v109).mono ?_; rintro e w6 ⟨rfl, hA6⟩; have HA6 := Lib.hid hA6; clear hA6; obtain ⟨q0, q1, q2, q3⟩ := HA6.out.cells
  clear p0 p1 p2 p3 HA5
  go_wp2_with fail
  refine (HA6.out.veto 110 false v110).mono ?_; rintro e w7 ⟨rfl, hA7⟩; have HA7 := Lib.hid hA7; clear hA7; obtain ⟨r0, r1, r2, r3⟩ := HA7.out.cells
  clear q0 q1 q2 q3 HA6
  go_wp2_with fail
  refine (HA7.out.veto2 0 false v0).mono ?_; rintro e w8 ⟨rfl, hA8⟩; have HA8 := Lib.hid hA8; clear hA8
  go_wp2_with fail
  go_ret
  exact ⟨rfl, by rw [HPe.out]; exact HA8.out.1⟩
end Go.Proofs.Ytbjekbbokhjfmaa
