/-
  past.New; few of law 22.
-/
import Derived.Test.YtnionfddejaalaaPast
namespace Go.Proofs.Ytnionfddejaalaa
set_option linter.unusedVariables false
set_option linter.unusedSimpArgs false
open Go.RowKit

theorem pastNew_any (base : Nat) (w : World) (hb : base ≤ w.heap.size) : Calls Try.prog 8 #[] w fun e w' => e = .returned (.pointer (some ⟨w.heap.size, 0, none⟩)) ∧ PAt w' base w.heap.size none .init ∧ Ext w w' := by
  refine hide_post fun D hD => ?_
  have HP := Lib.hid (PAt.new w base hb)
  clear hb
  go_enter Try.func8, Try.ntmps8
  go_wp2
  try go_ret
  exact hD.out _ _ ⟨rfl, HP.out, ext_al' _ _⟩

set_option maxHeartbeats 4000000 in
theorem few22_any (kd cl sq at_ c s k i m : Int) (d : ByteArray) (rc rv : Int) (rd : ByteArray) (A : Option Addr) (N cap : Nat) (w : World) :
    Calls Try.prog 9 #[.agg #[.int .i64 kd, .int .i64 cl, .int .i64 sq, .int .i64 at_, .int .i64 c, .int .i64 s, .int .i64 k, .int .i64 i, .int .i64 m, .string d, .int .i64 rc, .int .i64 rv, .string rd, .slice A N cap]] w fun e w' => e = .returned (.bool (decide (d.size ≤ 100 ∧ rd.size ≤ 200 ∧ N ≤ 60))) ∧ Ext w w' := by
  generalize hr : decide (d.size ≤ 100 ∧ rd.size ≤ 200 ∧ N ≤ 60) = r
  have HR := Lib.hid hr
  clear hr
  refine hide_post fun D hD => ?_
  have HD : Hid (∀ o b, b = r → D (.returned (.bool b)) (w.alloc o)) := fun o b h => hD.out _ _ ⟨ret_bool h, ext_al' _ _⟩
  clear hD
  by_cases h1 : d.size ≤ 100
  · by_cases h2 : rd.size ≤ 200
    · by_cases h3 : N ≤ 60
      · skip
        have hE : r = true := by rw [← HR.out]; exact decide_eq_true (by omega)
        have HE := Lib.hid hE
        clear hE
        have i100 : ((d.size : Nat) : Int) ≤ 100 := by omega
        have i200 : ((rd.size : Nat) : Int) ≤ 200 := by omega
        have i60 : ((N : Nat) : Int) ≤ 60 := by omega
        clear h1 h2 h3
        go_enter Try.func9, Try.ntmps9
        go_wp2
        try go_ret
        exact HD.out _ _ HE.out.symm
      · skip
        have hE : r = false := by rw [← HR.out]; exact decide_eq_false (by omega)
        have HE := Lib.hid hE
        clear hE
        have i100 : ((d.size : Nat) : Int) ≤ 100 := by omega
        have i200 : ((rd.size : Nat) : Int) ≤ 200 := by omega
        have i60 : ¬ ((N : Nat) : Int) ≤ 60 := by omega
        clear h1 h2 h3
        go_enter Try.func9, Try.ntmps9
        go_wp2
        try go_ret
        exact HD.out _ _ HE.out.symm
    · skip
      have hE : r = false := by rw [← HR.out]; exact decide_eq_false (by omega)
      have HE := Lib.hid hE
      clear hE
      have i100 : ((d.size : Nat) : Int) ≤ 100 := by omega
      have i200 : ¬ ((rd.size : Nat) : Int) ≤ 200 := by omega
      clear h1 h2
      go_enter Try.func9, Try.ntmps9
      go_wp2
      try go_ret
      exact HD.out _ _ HE.out.symm
  · skip
    have hE : r = false := by rw [← HR.out]; exact decide_eq_false (by omega)
    have HE := Lib.hid hE
    clear hE
    have i100 : ¬ ((d.size : Nat) : Int) ≤ 100 := by omega
    clear h1
    go_enter Try.func9, Try.ntmps9
    go_wp2
    try go_ret
    exact HD.out _ _ HE.out.symm

end Go.Proofs.Ytnionfddejaalaa
