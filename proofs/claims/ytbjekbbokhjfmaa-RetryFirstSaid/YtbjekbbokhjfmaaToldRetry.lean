/-
  The law package's own small questions of package retry: answered yes.
-/
import Derived.Test.YtbjekbbokhjfmaaRetry
namespace Go.Proofs.Ytbjekbbokhjfmaa
set_option linter.unusedVariables false
set_option linter.unusedSimpArgs false
open Go.RowKit

/-- one chain that the call has made: its nodes in block h, its box behind it -/
def Made (w0 W : World) (h : Nat) (ep : Int) (l : List Int) : Prop :=
  Below w0.heap.size w0 W ∧ Sl i64 W (some ⟨h, 0, none⟩) l ∧ Blk W (h + 1) 24 #[.int .i64 ep, .slice (some ⟨h, 0, none⟩) l.length l.length]

section
variable {w0 W W' : World} {h : Nat} {ep : Int} {l : List Int}
theorem Made.stay (H : Made w0 W h ep l) (hb : Below W.heap.size W W') : Made w0 W' h ep l := ⟨Below.step H.1 hb, H.2.1.stay hb, H.2.2.stay hb⟩
theorem Made.cells (H : Made w0 W h ep l) : W.cell? ⟨h + 1, 0, none⟩ = some (.int .i64 ep) ∧ W.cell? ⟨h + 1, 1, none⟩ = some (.slice (some ⟨h, 0, none⟩) l.length l.length) := ⟨H.2.2.cell 0, H.2.2.cell 1⟩
theorem Made.target (H : Made w0 W h ep l) (hl : l.length ≤ 1000) (n t : Int) (b : Bool) :
    Calls Try.prog 16 #[.agg #[.int .i64 ep, .slice (some ⟨h, 0, none⟩) l.length l.length], .int .i64 n, .int .i64 t, .bool b] W fun e w' => e = .returned (.int .i64 (targetF l n t b)) ∧ Made w0 w' h ep l :=
  (target_any ep _ _ l n t b W (by omega) H.2.1).mono fun _ _ ⟨he, hb⟩ => ⟨he, H.stay hb⟩
end

theorem told_retry (w : World) : Calls Try.prog 15 #[] w fun e w' => e = .returned (.bool true) ∧ Below w.heap.size w w' := by
  have HM : Hid (Made w ((w.alloc (.cells #[.int .i64 2, .int .i64 0, .int .i64 1] 3)).alloc (.cells #[.int .i64 1, .slice (some ⟨w.heap.size, 0, none⟩) 3 3] 24)) w.heap.size 1 [2, 0, 1]) :=
    ⟨((Below.refl _ _).alloc (Nat.le_refl _) _).alloc (by simp) _,
      Sl.of_blk ((Blk.new _ _ _).alloc _) (fun j v hj => by match j, hj with | 0, hj => (simp at hj; subst hj; rfl) | 1, hj => (simp at hj; subst hj; rfl) | 2, hj => (simp at hj; subst hj; rfl)), Blk.new' _ _ _ _ (by simp)⟩
  have HW : Hid (∀ W, Calls Try.prog 17 #[.int .i64 1] W fun e w' => e = .returned (.int .i64 8) ∧ W = w') := fun W => wait_any 1 W (by omega) (by omega)
  have HW9 : Hid (∀ W, Calls Try.prog 17 #[.int .i64 9] W fun e w' => e = .returned (.int .i64 32) ∧ W = w') := fun W => wait_any 9 W (by omega) (by omega)
  have HW0 : Hid (∀ W, Calls Try.prog 17 #[.int .i64 0] W fun e w' => e = .returned (.int .i64 0) ∧ W = w') := fun W => wait_any 0 W (by omega) (by omega)
  have HD18 : Hid (∀ W, Calls Try.prog 18 #[.int .i64 18, .int .i64 10, .int .i64 1] W fun e w' => e = .returned (.bool true) ∧ W = w') := fun W => due_any 18 10 1 W (by omega) (by omega) (by omega) (by omega)
  have HD17 : Hid (∀ W, Calls Try.prog 18 #[.int .i64 17, .int .i64 10, .int .i64 1] W fun e w' => e = .returned (.bool false) ∧ W = w') := fun W => due_any 17 10 1 W (by omega) (by omega) (by omega) (by omega)
  have T1 : Hid (∀ W, Made w W w.heap.size 1 [2, 0, 1] → Calls Try.prog 16 #[.agg #[.int .i64 1, .slice (some ⟨w.heap.size, 0, none⟩) 3 3], .int .i64 3, .int .i64 1, .bool true] W fun e w' => e = .returned (.int .i64 2) ∧ Made w w' w.heap.size 1 [2, 0, 1]) := fun W H => H.target (by simp) 3 1 true
  have T2 : Hid (∀ W, Made w W w.heap.size 1 [2, 0, 1] → Calls Try.prog 16 #[.agg #[.int .i64 1, .slice (some ⟨w.heap.size, 0, none⟩) 3 3], .int .i64 3, .int .i64 1, .bool false] W fun e w' => e = .returned (.int .i64 0) ∧ Made w w' w.heap.size 1 [2, 0, 1]) := fun W H => H.target (by simp) 3 1 false
  have T3 : Hid (∀ W, Made w W w.heap.size 1 [2, 0, 1] → Calls Try.prog 16 #[.agg #[.int .i64 1, .slice (some ⟨w.heap.size, 0, none⟩) 3 3], .int .i64 3, .int .i64 4, .bool true] W fun e w' => e = .returned (.int .i64 1) ∧ Made w w' w.heap.size 1 [2, 0, 1]) := fun W H => H.target (by simp) 3 4 true
  have T4 : Hid (∀ W, Made w W w.heap.size 1 [2, 0, 1] → Calls Try.prog 16 #[.agg #[.int .i64 1, .slice (some ⟨w.heap.size, 0, none⟩) 3 3], .int .i64 0, .int .i64 1, .bool true] W fun e w' => e = .returned (.int .i64 (-1)) ∧ Made w w' w.heap.size 1 [2, 0, 1]) := fun W H => H.target (by simp) 0 1 true
  obtain ⟨c0, c1⟩ := HM.out.cells
  go_enter Try.func15, Try.ntmps15
  go_wp2_with (first
    | (go_at_call 17; (first | ((with_reducible refine (HW.out _).mono ?_); rintro e w' ⟨rfl, rfl⟩) | ((with_reducible refine (HW9.out _).mono ?_); rintro e w' ⟨rfl, rfl⟩) | ((with_reducible refine (HW0.out _).mono ?_); rintro e w' ⟨rfl, rfl⟩)))
    | (go_at_call 18; (first | ((with_reducible refine (HD18.out _).mono ?_); rintro e w' ⟨rfl, rfl⟩) | ((with_reducible refine (HD17.out _).mono ?_); rintro e w' ⟨rfl, rfl⟩)))
    | (go_at_call 16; (with_reducible refine (T1.out _ HM.out).mono ?_); rintro e w1 ⟨rfl, H1⟩; have HM1 := Lib.hid H1; clear H1; obtain ⟨d0, d1⟩ := HM1.out.cells)
    | (go_at_call 16; (with_reducible refine (T2.out _ HM1.out).mono ?_); rintro e w2 ⟨rfl, H2⟩; have HM2 := Lib.hid H2; clear H2; obtain ⟨e0, e1⟩ := HM2.out.cells)
    | (go_at_call 16; (with_reducible refine (T3.out _ HM2.out).mono ?_); rintro e w3 ⟨rfl, H3⟩; have HM3 := Lib.hid H3; clear H3; obtain ⟨f0, f1⟩ := HM3.out.cells)
    | (go_at_call 16; (with_reducible refine (T4.out _ HM3.out).mono ?_); rintro e w4 ⟨rfl, H4⟩; have HM4 := Lib.hid H4; clear H4))
  go_ret
  exact ⟨rfl, HM4.out.1⟩
end Go.Proofs.Ytbjekbbokhjfmaa
