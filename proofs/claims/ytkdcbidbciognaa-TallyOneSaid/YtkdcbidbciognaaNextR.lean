/-
  Walks of ballot.Next and of the reference's Next.
-/
import Derived.Test.YtkdcbidbciognaaBalCmp
namespace Go.Proofs.Ytkdcbidbciognaa
set_option linter.unusedVariables false
set_option linter.unusedSimpArgs false
open Go.RowKit

/-- the next ballot's round -/
def nextR (r n node : Int) : Int := if node ≤ n then r + 1 else r
/-- is there one? -/
def balNB (r n node : Int) : Bool := mayBal r n && mayBal (nextR r n node) node

theorem cmpBal_same (r node n : Int) : cmpBal r node r n = if node < n then -1 else if n < node then 1 else 0 := by
  unfold cmpBal
  rw [if_neg (Int.lt_irrefl _), if_neg (Int.lt_irrefl _)]

/-- the world behind the two stores into the result's block -/
theorem put_bal {B g : Nat} {W w : World} {x y : Int} (h : Below B W w) (hg : B ≤ g) (k : Blk w g 23 #[.int .i64 x, .int .i64 y]) (u v : Int) :
    Below B W ((w.setCell ⟨g, 0, none⟩ (.int .i64 u)).setCell ⟨g, 1, none⟩ (.int .i64 v)) ∧
      ((w.setCell ⟨g, 0, none⟩ (.int .i64 u)).setCell ⟨g, 1, none⟩ (.int .i64 v)).cell? ⟨g, 0, none⟩ = some (.int .i64 u) ∧ ((w.setCell ⟨g, 0, none⟩ (.int .i64 u)).setCell ⟨g, 1, none⟩ (.int .i64 v)).cell? ⟨g, 1, none⟩ = some (.int .i64 v) := by
  have k2 := (k.set 0 (.int .i64 u)).set 1 (.int .i64 v)
  exact ⟨(h.setCell (p := ⟨g, 0, none⟩) hg _).setCell (p := ⟨g, 1, none⟩) hg _, k2.cell 0, k2.cell 1⟩

set_option maxHeartbeats 8000000 in
theorem refNext_any (r n node : Int) (b : Bool) (hb : balNB r n node = b) (w : World) : Calls Try.prog 36 #[.agg #[.int .i64 r, .int .i64 n], .int .i64 node] w fun e w' =>
    e = .returned (.tuple #[.agg #[.int .i64 (if b then nextR r n node else 0), .int .i64 (if b then node else 0)], .bool b]) ∧ Below w.heap.size w w' := by
  refine hide_post fun D hD => ?_
  obtain ⟨w0, hw0⟩ : ∃ w0, w0 = (w.alloc (.cells #[.int .i64 r, .int .i64 n] 23)).alloc (.cells #[.int .i64 0, .int .i64 0] 23) := ⟨_, rfl⟩
  have hb0 : Below w.heap.size w w0 := by rw [hw0]; exact ((Below.refl _ _).alloc (Nat.le_refl _) _).alloc (by simp) _
  have hs0 : w0.heap.size = w.heap.size + 1 + 1 := by rw [hw0]; simp
  have k0 : Blk w0 w.heap.size 23 #[.int .i64 r, .int .i64 n] := by rw [hw0]; exact (Blk.new _ _ _).alloc _
  have k1 : Blk w0 (w.heap.size + 1) 23 #[.int .i64 0, .int .i64 0] := by rw [hw0]; exact Blk.new' _ _ _ _ (by simp)
  have K0 := Lib.hid k0
  have K1 := Lib.hid k1
  have HB0 := Lib.hid hb0
  have HS0 := Lib.hid hs0
  have HW0 := Lib.hid hw0
  have HM : Hid (∀ (x y : Int) (b : Bool) (W : World), mayBal x y = b → Calls Try.prog 13 #[.agg #[.int .i64 x, .int .i64 y]] W fun e w' => e = .returned (.bool b) ∧ Ext W w') := fun x y b W h => by rw [← h]; exact refMayBal_any x y W
  have HC : Hid (∀ (x y x' y' c : Int) (W : World), cmpBal x y x' y' = c → Calls Try.prog 34 #[.agg #[.int .i64 x, .int .i64 y], .agg #[.int .i64 x', .int .i64 y']] W fun e w' => e = .returned (.int .i64 c) ∧ Ext W w') := fun x y x' y' c W h => by rw [← h]; exact refCmp_any x y x' y' W
  clear hw0 hs0 hb0 k0 k1
  cases hm : mayBal r n
  case false =>
    obtain rfl : false = b := by rw [← hb]; unfold balNB; rw [hm]; rfl
    have HM1 := Lib.hid fun W => HM.out r n false W hm
    clear hm hb
    go_enter Try.func36, Try.ntmps36
    go_wp2_with (go_at_call 13; rw [← HW0.out]; (with_reducible refine (HM1.out _).mono ?_); rintro e w1 ⟨rfl, hx⟩; have c0 := (K1.out.stay hx).cell 0; have c1 := (K1.out.stay hx).cell 1; have f0 := (K1.out.stay hx).frozen 0; have f1 := (K1.out.stay hx).frozen 1; have HX := Lib.hid hx; clear hx)
    obtain ⟨b1, b2, b3⟩ := put_bal (Below.step HB0.out HX.out) (by omega) (K1.out.stay HX.out) 0 0
    have HBB := Lib.hid b1
    clear b1 c0 c1 f0 f1
    exact bodyPost_ret (v := .tuple #[.agg #[.int .i64 0, .int .i64 0], .bool false]) (by simp [results, Try.results36, go_sem, b2, b3]) rfl (hD.out _ _ ⟨rfl, HBB.out⟩)
  case true =>
    have HM1 := Lib.hid fun W => HM.out r n true W hm
    have hr : 0 ≤ r ∧ r ≤ 1099511627776 := by unfold mayBal at hm; have := of_decide_eq_true hm; omega
    have hb2 : mayBal (nextR r n node) node = b := by rw [← hb]; unfold balNB; rw [hm]; rfl
    have HM2 := Lib.hid fun W => HM.out _ _ b W hb2
    have HBV := Lib.hid hb2
    clear hm hb hb2
    obtain ⟨hr0, hr1⟩ := hr
    by_cases hnn : node < 0 ∨ 5 ≤ node
    · obtain rfl : false = b := by rw [← HBV.out]; unfold mayBal; exact (decide_eq_false (by omega)).symm
      clear HM2
      rcases hnn with h | h
      · go_enter Try.func36, Try.ntmps36
        go_wp2_with (go_at_call 13; rw [← HW0.out]; (with_reducible refine (HM1.out _).mono ?_); rintro e w1 ⟨rfl, hx⟩; have c0 := (K1.out.stay hx).cell 0; have c1 := (K1.out.stay hx).cell 1; have f0 := (K1.out.stay hx).frozen 0; have f1 := (K1.out.stay hx).frozen 1; have HX := Lib.hid hx; clear hx)
        obtain ⟨b1, b2, b3⟩ := put_bal (Below.step HB0.out HX.out) (by omega) (K1.out.stay HX.out) 0 0
        have HBB := Lib.hid b1
        clear b1 c0 c1 f0 f1
        exact bodyPost_ret (v := .tuple #[.agg #[.int .i64 0, .int .i64 0], .bool false]) (by simp [results, Try.results36, go_sem, b2, b3]) rfl (hD.out _ _ ⟨rfl, HBB.out⟩)
      · have h' : ¬ node < 0 := by omega
        go_enter Try.func36, Try.ntmps36
        go_wp2_with (go_at_call 13; rw [← HW0.out]; (with_reducible refine (HM1.out _).mono ?_); rintro e w1 ⟨rfl, hx⟩; have c0 := (K1.out.stay hx).cell 0; have c1 := (K1.out.stay hx).cell 1; have f0 := (K1.out.stay hx).frozen 0; have f1 := (K1.out.stay hx).frozen 1; have HX := Lib.hid hx; clear hx)
        obtain ⟨b1, b2, b3⟩ := put_bal (Below.step HB0.out HX.out) (by omega) (K1.out.stay HX.out) 0 0
        have HBB := Lib.hid b1
        clear b1 c0 c1 f0 f1
        exact bodyPost_ret (v := .tuple #[.agg #[.int .i64 0, .int .i64 0], .bool false]) (by simp [results, Try.results36, go_sem, b2, b3]) rfl (hD.out _ _ ⟨rfl, HBB.out⟩)
    obtain ⟨hn0, hn1⟩ : ¬ node < 0 ∧ ¬ 5 ≤ node := ⟨by omega, by omega⟩
    clear hnn
    clear HBV
    have hcs : node < n ∨ node = n ∨ n < node := by omega
    rcases hcs with h | h | h
    · have HR : Hid (nextR r n node = r + 1) := if_pos (by omega)
      have HC1 := Lib.hid fun W => HC.out r node r n (-1) W (by rw [cmpBal_same]; rw [if_pos h])
      rw [HR.out] at HM2 hD
      clear HC HM
      have hne : ¬ node = n := by omega
      cases b
      · simp only [Bool.false_eq_true, if_false] at hD
        go_enter Try.func36, Try.ntmps36
        go_wp2_with (first
          | (go_at_call 13; rw [← HW0.out]; (with_reducible refine (HM1.out _).mono ?_); rintro e w1 ⟨rfl, hx⟩; have e0 := (K0.out.stay hx).cell 0; have e1 := (K0.out.stay hx).cell 1; have z0 : w.heap.size < w1.heap.size := (K0.out.stay hx).lt; have z1 : w.heap.size + 1 < w1.heap.size := (K1.out.stay hx).lt; have HX := Lib.hid hx; clear hx)
          | (go_at_call 34; (with_reducible refine (HC1.out _).mono ?_); rintro e w2 ⟨rfl, hx⟩; have q0 := ((Blk.new w1 23 #[.int .i64 r, .int .i64 node]).stay hx).cell 0; have q1 := ((Blk.new w1 23 #[.int .i64 r, .int .i64 node]).stay hx).cell 1; have q2 := ((Blk.new w1 23 #[.int .i64 r, .int .i64 node]).stay hx).frozen 0; have HX2 := Lib.hid hx; clear hx)
          | (go_at_call 13; (with_reducible refine (HM2.out _).mono ?_); rintro e w3 ⟨rfl, hx⟩; have o0 := ((((Blk.new w1 23 #[.int .i64 r, .int .i64 node]).stay HX2.out).set 0 (.int .i64 (r + 1))).stay hx).cell 0; have o1 := ((((Blk.new w1 23 #[.int .i64 r, .int .i64 node]).stay HX2.out).set 0 (.int .i64 (r + 1))).stay hx).cell 1; have c0 := (((((K1.out.stay HX.out).alloc _).stay HX2.out).far (p := ⟨w1.heap.size, 0, none⟩) (show w.heap.size + 1 ≠ w1.heap.size by omega) _).stay hx).cell 0; have c1 := (((((K1.out.stay HX.out).alloc _).stay HX2.out).far (p := ⟨w1.heap.size, 0, none⟩) (show w.heap.size + 1 ≠ w1.heap.size by omega) _).stay hx).cell 1; have f0 := (((((K1.out.stay HX.out).alloc _).stay HX2.out).far (p := ⟨w1.heap.size, 0, none⟩) (show w.heap.size + 1 ≠ w1.heap.size by omega) _).stay hx).frozen 0; have f1 := (((((K1.out.stay HX.out).alloc _).stay HX2.out).far (p := ⟨w1.heap.size, 0, none⟩) (show w.heap.size + 1 ≠ w1.heap.size by omega) _).stay hx).frozen 1; have HX3 := Lib.hid hx; clear hx))
        obtain ⟨b1, b2, b3⟩ := put_bal (Below.step ((Below.step (Below.step (Below.step HB0.out HX.out) (Ext.alloc _ _)) HX2.out).setCell (p := ⟨w1.heap.size, 0, none⟩) (show w.heap.size ≤ w1.heap.size by omega) _) HX3.out) (by omega) (((((K1.out.stay HX.out).alloc _).stay HX2.out).far (p := ⟨w1.heap.size, 0, none⟩) (show w.heap.size + 1 ≠ w1.heap.size by omega) _).stay HX3.out) (0) (0)
        have HBB := Lib.hid b1
        clear b1 c0 c1 f0 f1 o0 o1
        exact bodyPost_ret (v := .tuple #[.agg #[.int .i64 (0), .int .i64 (0)], .bool false]) (by simp [results, Try.results36, go_sem, b2, b3]) rfl (hD.out _ _ ⟨rfl, HBB.out⟩)
      · simp only [if_true] at hD
        go_enter Try.func36, Try.ntmps36
        go_wp2_with (first
          | (go_at_call 13; rw [← HW0.out]; (with_reducible refine (HM1.out _).mono ?_); rintro e w1 ⟨rfl, hx⟩; have e0 := (K0.out.stay hx).cell 0; have e1 := (K0.out.stay hx).cell 1; have z0 : w.heap.size < w1.heap.size := (K0.out.stay hx).lt; have z1 : w.heap.size + 1 < w1.heap.size := (K1.out.stay hx).lt; have HX := Lib.hid hx; clear hx)
          | (go_at_call 34; (with_reducible refine (HC1.out _).mono ?_); rintro e w2 ⟨rfl, hx⟩; have q0 := ((Blk.new w1 23 #[.int .i64 r, .int .i64 node]).stay hx).cell 0; have q1 := ((Blk.new w1 23 #[.int .i64 r, .int .i64 node]).stay hx).cell 1; have q2 := ((Blk.new w1 23 #[.int .i64 r, .int .i64 node]).stay hx).frozen 0; have HX2 := Lib.hid hx; clear hx)
          | (go_at_call 13; (with_reducible refine (HM2.out _).mono ?_); rintro e w3 ⟨rfl, hx⟩; have o0 := ((((Blk.new w1 23 #[.int .i64 r, .int .i64 node]).stay HX2.out).set 0 (.int .i64 (r + 1))).stay hx).cell 0; have o1 := ((((Blk.new w1 23 #[.int .i64 r, .int .i64 node]).stay HX2.out).set 0 (.int .i64 (r + 1))).stay hx).cell 1; have c0 := (((((K1.out.stay HX.out).alloc _).stay HX2.out).far (p := ⟨w1.heap.size, 0, none⟩) (show w.heap.size + 1 ≠ w1.heap.size by omega) _).stay hx).cell 0; have c1 := (((((K1.out.stay HX.out).alloc _).stay HX2.out).far (p := ⟨w1.heap.size, 0, none⟩) (show w.heap.size + 1 ≠ w1.heap.size by omega) _).stay hx).cell 1; have f0 := (((((K1.out.stay HX.out).alloc _).stay HX2.out).far (p := ⟨w1.heap.size, 0, none⟩) (show w.heap.size + 1 ≠ w1.heap.size by omega) _).stay hx).frozen 0; have f1 := (((((K1.out.stay HX.out).alloc _).stay HX2.out).far (p := ⟨w1.heap.size, 0, none⟩) (show w.heap.size + 1 ≠ w1.heap.size by omega) _).stay hx).frozen 1; have HX3 := Lib.hid hx; clear hx))
        obtain ⟨b1, b2, b3⟩ := put_bal (Below.step ((Below.step (Below.step (Below.step HB0.out HX.out) (Ext.alloc _ _)) HX2.out).setCell (p := ⟨w1.heap.size, 0, none⟩) (show w.heap.size ≤ w1.heap.size by omega) _) HX3.out) (by omega) (((((K1.out.stay HX.out).alloc _).stay HX2.out).far (p := ⟨w1.heap.size, 0, none⟩) (show w.heap.size + 1 ≠ w1.heap.size by omega) _).stay HX3.out) (r + 1) (node)
        have HBB := Lib.hid b1
        clear b1 c0 c1 f0 f1 o0 o1
        exact bodyPost_ret (v := .tuple #[.agg #[.int .i64 (r + 1), .int .i64 (node)], .bool true]) (by simp [results, Try.results36, go_sem, b2, b3]) rfl (hD.out _ _ ⟨rfl, HBB.out⟩)
    · have HR : Hid (nextR r n node = r + 1) := if_pos (by omega)
      have HC1 := Lib.hid fun W => HC.out r node r n (0) W (by rw [cmpBal_same]; rw [if_neg (by omega), if_neg (by omega)])
      rw [HR.out] at HM2 hD
      clear HC HM
      subst h
      cases b
      · simp only [Bool.false_eq_true, if_false] at hD
        go_enter Try.func36, Try.ntmps36
        go_wp2_with (first
          | (go_at_call 13; rw [← HW0.out]; (with_reducible refine (HM1.out _).mono ?_); rintro e w1 ⟨rfl, hx⟩; have e0 := (K0.out.stay hx).cell 0; have e1 := (K0.out.stay hx).cell 1; have z0 : w.heap.size < w1.heap.size := (K0.out.stay hx).lt; have z1 : w.heap.size + 1 < w1.heap.size := (K1.out.stay hx).lt; have HX := Lib.hid hx; clear hx)
          | (go_at_call 34; (with_reducible refine (HC1.out _).mono ?_); rintro e w2 ⟨rfl, hx⟩; have q0 := ((Blk.new w1 23 #[.int .i64 r, .int .i64 node]).stay hx).cell 0; have q1 := ((Blk.new w1 23 #[.int .i64 r, .int .i64 node]).stay hx).cell 1; have q2 := ((Blk.new w1 23 #[.int .i64 r, .int .i64 node]).stay hx).frozen 0; have HX2 := Lib.hid hx; clear hx)
          | (go_at_call 13; (with_reducible refine (HM2.out _).mono ?_); rintro e w3 ⟨rfl, hx⟩; have o0 := ((((Blk.new w1 23 #[.int .i64 r, .int .i64 node]).stay HX2.out).set 0 (.int .i64 (r + 1))).stay hx).cell 0; have o1 := ((((Blk.new w1 23 #[.int .i64 r, .int .i64 node]).stay HX2.out).set 0 (.int .i64 (r + 1))).stay hx).cell 1; have c0 := (((((K1.out.stay HX.out).alloc _).stay HX2.out).far (p := ⟨w1.heap.size, 0, none⟩) (show w.heap.size + 1 ≠ w1.heap.size by omega) _).stay hx).cell 0; have c1 := (((((K1.out.stay HX.out).alloc _).stay HX2.out).far (p := ⟨w1.heap.size, 0, none⟩) (show w.heap.size + 1 ≠ w1.heap.size by omega) _).stay hx).cell 1; have f0 := (((((K1.out.stay HX.out).alloc _).stay HX2.out).far (p := ⟨w1.heap.size, 0, none⟩) (show w.heap.size + 1 ≠ w1.heap.size by omega) _).stay hx).frozen 0; have f1 := (((((K1.out.stay HX.out).alloc _).stay HX2.out).far (p := ⟨w1.heap.size, 0, none⟩) (show w.heap.size + 1 ≠ w1.heap.size by omega) _).stay hx).frozen 1; have HX3 := Lib.hid hx; clear hx))
        obtain ⟨b1, b2, b3⟩ := put_bal (Below.step ((Below.step (Below.step (Below.step HB0.out HX.out) (Ext.alloc _ _)) HX2.out).setCell (p := ⟨w1.heap.size, 0, none⟩) (show w.heap.size ≤ w1.heap.size by omega) _) HX3.out) (by omega) (((((K1.out.stay HX.out).alloc _).stay HX2.out).far (p := ⟨w1.heap.size, 0, none⟩) (show w.heap.size + 1 ≠ w1.heap.size by omega) _).stay HX3.out) (0) (0)
        have HBB := Lib.hid b1
        clear b1 c0 c1 f0 f1 o0 o1
        exact bodyPost_ret (v := .tuple #[.agg #[.int .i64 (0), .int .i64 (0)], .bool false]) (by simp [results, Try.results36, go_sem, b2, b3]) rfl (hD.out _ _ ⟨rfl, HBB.out⟩)
      · simp only [if_true] at hD
        go_enter Try.func36, Try.ntmps36
        go_wp2_with (first
          | (go_at_call 13; rw [← HW0.out]; (with_reducible refine (HM1.out _).mono ?_); rintro e w1 ⟨rfl, hx⟩; have e0 := (K0.out.stay hx).cell 0; have e1 := (K0.out.stay hx).cell 1; have z0 : w.heap.size < w1.heap.size := (K0.out.stay hx).lt; have z1 : w.heap.size + 1 < w1.heap.size := (K1.out.stay hx).lt; have HX := Lib.hid hx; clear hx)
          | (go_at_call 34; (with_reducible refine (HC1.out _).mono ?_); rintro e w2 ⟨rfl, hx⟩; have q0 := ((Blk.new w1 23 #[.int .i64 r, .int .i64 node]).stay hx).cell 0; have q1 := ((Blk.new w1 23 #[.int .i64 r, .int .i64 node]).stay hx).cell 1; have q2 := ((Blk.new w1 23 #[.int .i64 r, .int .i64 node]).stay hx).frozen 0; have HX2 := Lib.hid hx; clear hx)
          | (go_at_call 13; (with_reducible refine (HM2.out _).mono ?_); rintro e w3 ⟨rfl, hx⟩; have o0 := ((((Blk.new w1 23 #[.int .i64 r, .int .i64 node]).stay HX2.out).set 0 (.int .i64 (r + 1))).stay hx).cell 0; have o1 := ((((Blk.new w1 23 #[.int .i64 r, .int .i64 node]).stay HX2.out).set 0 (.int .i64 (r + 1))).stay hx).cell 1; have c0 := (((((K1.out.stay HX.out).alloc _).stay HX2.out).far (p := ⟨w1.heap.size, 0, none⟩) (show w.heap.size + 1 ≠ w1.heap.size by omega) _).stay hx).cell 0; have c1 := (((((K1.out.stay HX.out).alloc _).stay HX2.out).far (p := ⟨w1.heap.size, 0, none⟩) (show w.heap.size + 1 ≠ w1.heap.size by omega) _).stay hx).cell 1; have f0 := (((((K1.out.stay HX.out).alloc _).stay HX2.out).far (p := ⟨w1.heap.size, 0, none⟩) (show w.heap.size + 1 ≠ w1.heap.size by omega) _).stay hx).frozen 0; have f1 := (((((K1.out.stay HX.out).alloc _).stay HX2.out).far (p := ⟨w1.heap.size, 0, none⟩) (show w.heap.size + 1 ≠ w1.heap.size by omega) _).stay hx).frozen 1; have HX3 := Lib.hid hx; clear hx))
        obtain ⟨b1, b2, b3⟩ := put_bal (Below.step ((Below.step (Below.step (Below.step HB0.out HX.out) (Ext.alloc _ _)) HX2.out).setCell (p := ⟨w1.heap.size, 0, none⟩) (show w.heap.size ≤ w1.heap.size by omega) _) HX3.out) (by omega) (((((K1.out.stay HX.out).alloc _).stay HX2.out).far (p := ⟨w1.heap.size, 0, none⟩) (show w.heap.size + 1 ≠ w1.heap.size by omega) _).stay HX3.out) (r + 1) (node)
        have HBB := Lib.hid b1
        clear b1 c0 c1 f0 f1 o0 o1
        exact bodyPost_ret (v := .tuple #[.agg #[.int .i64 (r + 1), .int .i64 (node)], .bool true]) (by simp [results, Try.results36, go_sem, b2, b3]) rfl (hD.out _ _ ⟨rfl, HBB.out⟩)
    · have HR : Hid (nextR r n node = r) := if_neg (by omega)
      have HC1 := Lib.hid fun W => HC.out r node r n (1) W (by rw [cmpBal_same]; rw [if_neg (by omega), if_pos h])
      rw [HR.out] at HM2 hD
      clear HC HM
      have hne : ¬ node = n := by omega
      cases b
      · simp only [Bool.false_eq_true, if_false] at hD
        go_enter Try.func36, Try.ntmps36
        go_wp2_with (first
          | (go_at_call 13; rw [← HW0.out]; (with_reducible refine (HM1.out _).mono ?_); rintro e w1 ⟨rfl, hx⟩; have e0 := (K0.out.stay hx).cell 0; have e1 := (K0.out.stay hx).cell 1; have z0 : w.heap.size < w1.heap.size := (K0.out.stay hx).lt; have z1 : w.heap.size + 1 < w1.heap.size := (K1.out.stay hx).lt; have HX := Lib.hid hx; clear hx)
          | (go_at_call 34; (with_reducible refine (HC1.out _).mono ?_); rintro e w2 ⟨rfl, hx⟩; have q0 := ((Blk.new w1 23 #[.int .i64 r, .int .i64 node]).stay hx).cell 0; have q1 := ((Blk.new w1 23 #[.int .i64 r, .int .i64 node]).stay hx).cell 1; have q2 := ((Blk.new w1 23 #[.int .i64 r, .int .i64 node]).stay hx).frozen 0; have HX2 := Lib.hid hx; clear hx)
          | (go_at_call 13; (with_reducible refine (HM2.out _).mono ?_); rintro e w3 ⟨rfl, hx⟩; have o0 := (((Blk.new w1 23 #[.int .i64 r, .int .i64 node]).stay HX2.out).stay hx).cell 0; have o1 := (((Blk.new w1 23 #[.int .i64 r, .int .i64 node]).stay HX2.out).stay hx).cell 1; have c0 := ((((K1.out.stay HX.out).alloc _).stay HX2.out).stay hx).cell 0; have c1 := ((((K1.out.stay HX.out).alloc _).stay HX2.out).stay hx).cell 1; have f0 := ((((K1.out.stay HX.out).alloc _).stay HX2.out).stay hx).frozen 0; have f1 := ((((K1.out.stay HX.out).alloc _).stay HX2.out).stay hx).frozen 1; have HX3 := Lib.hid hx; clear hx))
        obtain ⟨b1, b2, b3⟩ := put_bal (Below.step (Below.step (Below.step (Below.step HB0.out HX.out) (Ext.alloc _ _)) HX2.out) HX3.out) (by omega) ((((K1.out.stay HX.out).alloc _).stay HX2.out).stay HX3.out) (0) (0)
        have HBB := Lib.hid b1
        clear b1 c0 c1 f0 f1 o0 o1
        exact bodyPost_ret (v := .tuple #[.agg #[.int .i64 (0), .int .i64 (0)], .bool false]) (by simp [results, Try.results36, go_sem, b2, b3]) rfl (hD.out _ _ ⟨rfl, HBB.out⟩)
      · simp only [if_true] at hD
        go_enter Try.func36, Try.ntmps36
        go_wp2_with (first
          | (go_at_call 13; rw [← HW0.out]; (with_reducible refine (HM1.out _).mono ?_); rintro e w1 ⟨rfl, hx⟩; have e0 := (K0.out.stay hx).cell 0; have e1 := (K0.out.stay hx).cell 1; have z0 : w.heap.size < w1.heap.size := (K0.out.stay hx).lt; have z1 : w.heap.size + 1 < w1.heap.size := (K1.out.stay hx).lt; have HX := Lib.hid hx; clear hx)
          | (go_at_call 34; (with_reducible refine (HC1.out _).mono ?_); rintro e w2 ⟨rfl, hx⟩; have q0 := ((Blk.new w1 23 #[.int .i64 r, .int .i64 node]).stay hx).cell 0; have q1 := ((Blk.new w1 23 #[.int .i64 r, .int .i64 node]).stay hx).cell 1; have q2 := ((Blk.new w1 23 #[.int .i64 r, .int .i64 node]).stay hx).frozen 0; have HX2 := Lib.hid hx; clear hx)
          | (go_at_call 13; (with_reducible refine (HM2.out _).mono ?_); rintro e w3 ⟨rfl, hx⟩; have o0 := (((Blk.new w1 23 #[.int .i64 r, .int .i64 node]).stay HX2.out).stay hx).cell 0; have o1 := (((Blk.new w1 23 #[.int .i64 r, .int .i64 node]).stay HX2.out).stay hx).cell 1; have c0 := ((((K1.out.stay HX.out).alloc _).stay HX2.out).stay hx).cell 0; have c1 := ((((K1.out.stay HX.out).alloc _).stay HX2.out).stay hx).cell 1; have f0 := ((((K1.out.stay HX.out).alloc _).stay HX2.out).stay hx).frozen 0; have f1 := ((((K1.out.stay HX.out).alloc _).stay HX2.out).stay hx).frozen 1; have HX3 := Lib.hid hx; clear hx))
        obtain ⟨b1, b2, b3⟩ := put_bal (Below.step (Below.step (Below.step (Below.step HB0.out HX.out) (Ext.alloc _ _)) HX2.out) HX3.out) (by omega) ((((K1.out.stay HX.out).alloc _).stay HX2.out).stay HX3.out) (r) (node)
        have HBB := Lib.hid b1
        clear b1 c0 c1 f0 f1 o0 o1
        exact bodyPost_ret (v := .tuple #[.agg #[.int .i64 (r), .int .i64 (node)], .bool true]) (by simp [results, Try.results36, go_sem, b2, b3]) rfl (hD.out _ _ ⟨rfl, HBB.out⟩)
end Go.Proofs.Ytkdcbidbciognaa
