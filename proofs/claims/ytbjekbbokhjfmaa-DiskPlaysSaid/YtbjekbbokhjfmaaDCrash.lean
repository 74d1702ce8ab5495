/-
  The walk of the document's own Crash.
-/
import Derived.Test.YtbjekbbokhjfmaaToldDisk
import Derived.Test.YtbjekbbokhjfmaaHeldR
import Derived.StillTailTactics
namespace Go.Proofs.Ytbjekbbokhjfmaa
set_option linter.unusedVariables false
set_option linter.unusedSimpArgs false
open Go.RowKit

theorem str_take (l : List UInt8) (k : Nat) : (str l).extract 0 k = str (l.take k) := by
  apply Go.WideShapes.bytes_inj
  rw [str_toList]
  rw [ByteArray.data_extract]
  simp [str]

set_option maxHeartbeats 4000000 in
theorem refCrash_any (X s : Nat) (l : List UInt8) (keep : Int) (w : World) (hB : Blk w X 55 #[.string (str l), .int .i64 s]) (hs : s ≤ l.length) (hl : l.length ≤ 1000000000000) :
    Calls Try.prog 37 #[.pointer (some ⟨X, 0, none⟩), .int .i64 keep] w fun e w' => e = .returned (.tuple #[]) ∧ Blk w' X 55 #[.string (str (l.take (keepN l.length s keep))), .int .i64 (keepN l.length s keep : Nat)] ∧ Frm (fun k => k = X) w w' := by
  refine hide_post fun D hD => ?_
  obtain ⟨k, hk⟩ : ∃ k, keepN l.length s keep = k := ⟨_, rfl⟩
  rw [hk] at hD
  have hkl : k ≤ l.length := by rw [← hk]; unfold keepN; omega
  have hkb : ((l.length : Int) - s ≤ keep ∧ k = l.length) ∨ (keep < (l.length : Int) - s ∧ keep < 0 ∧ k = s) ∨ (keep < (l.length : Int) - s ∧ ¬ keep < 0 ∧ keep = (k : Int) - s) := by rw [← hk]; unfold keepN; omega
  have hsz : (str l).size = l.length := str_size l
  have c0 := hB.cell 0
  have c1 := hB.cell 1
  have HB := Lib.hid hB
  have HE := Lib.hid (str_take l k)
  have HZ := Lib.hid (str_size (l.take k))
  have HKL : Hid ((l.take k).length = k) := by show _ = _; rw [List.length_take]; omega
  clear hB hk
  have hq : (str l).size ≤ 1000000000000 := by omega
  obtain ⟨n, hn⟩ : ∃ n, n = l.length := ⟨_, rfl⟩
  rw [← hn] at hs hl hkl hkb hsz
  clear hn
  have hE := HE.out
  have hz2 := HZ.out
  rw [HKL.out] at hz2
  have hkn : (k : Int) ≤ (n : Int) := by omega
  have hk0 : (0 : Int) ≤ (k : Int) := by omega
  rcases hkb with ⟨q1, q2⟩ | ⟨q1, q2, q3⟩ | ⟨q1, q2, q3⟩
  · have q1' : ¬ keep < (n : Int) - s := by omega
    have e1 : (s : Int) + ((n : Int) - s) = (k : Int) := by omega
    clear q2
    go_enter Try.func37, Try.ntmps37
    go_wp2_with fail
    go_quiet (fail)
    have hbn : Below w.heap.size w (w.drewN nq) := (by have := Below.refl w.heap.size w; exact ⟨this.os, this.tape, this.output, this.size, this.block⟩)
    have HBn := Lib.hid (HB.out.stay hbn)
    have HBB := Lib.hid hbn
    have d0 := HBn.out.cell 0
    have d1 := HBn.out.cell 1
    have f0 := HBn.out.frozen 0
    have f1 := HBn.out.frozen 1
    clear hbn
    generalize w.drewN nq = w1 at *
    clear c0 c1
    go_wp2_with fail
    have hwr : IntKind.i64.wrap (k : Int) = (k : Int) := IntWalk.i64_in _ (by omega)
    go_still_tail 14, (by kernel_rfl)
    change wpList _ _ _ _ _ w1.drew
    go_wp2
    try go_end0
    exact hD.out _ _ ⟨rfl, (HBn.out.set 0 (.string (str (l.take k)))).set 1 (.int .i64 (k : Int)), (Frm.tr (Frm.tr (Frm.of_below HBB.out (fun k => k = X)) (Frm.of_set _ _ _ rfl)) (Frm.of_set _ _ _ rfl)).drew⟩
  · subst q3
    go_enter Try.func37, Try.ntmps37
    go_wp2_with fail
    go_quiet (fail)
    have hbn : Below w.heap.size w (w.drewN nq) := (by have := Below.refl w.heap.size w; exact ⟨this.os, this.tape, this.output, this.size, this.block⟩)
    have HBn := Lib.hid (HB.out.stay hbn)
    have HBB := Lib.hid hbn
    have d0 := HBn.out.cell 0
    have d1 := HBn.out.cell 1
    have f0 := HBn.out.frozen 0
    have f1 := HBn.out.frozen 1
    clear hbn
    generalize w.drewN nq = w1 at *
    clear c0 c1
    go_wp2_with fail
    have hwr : IntKind.i64.wrap (k : Int) = (k : Int) := IntWalk.i64_in _ (by omega)
    go_still_tail 14, (by kernel_rfl)
    change wpList _ _ _ _ _ w1.drew
    go_wp2
    try go_end0
    exact hD.out _ _ ⟨rfl, (HBn.out.set 0 (.string (str (l.take k)))).set 1 (.int .i64 (k : Int)), (Frm.tr (Frm.tr (Frm.of_below HBB.out (fun k => k = X)) (Frm.of_set _ _ _ rfl)) (Frm.of_set _ _ _ rfl)).drew⟩
  · subst q3
    have e1 : (s : Int) + ((k : Int) - s) = (k : Int) := by omega
    go_enter Try.func37, Try.ntmps37
    go_wp2_with fail
    go_quiet (fail)
    have hbn : Below w.heap.size w (w.drewN nq) := (by have := Below.refl w.heap.size w; exact ⟨this.os, this.tape, this.output, this.size, this.block⟩)
    have HBn := Lib.hid (HB.out.stay hbn)
    have HBB := Lib.hid hbn
    have d0 := HBn.out.cell 0
    have d1 := HBn.out.cell 1
    have f0 := HBn.out.frozen 0
    have f1 := HBn.out.frozen 1
    clear hbn
    generalize w.drewN nq = w1 at *
    clear c0 c1
    go_wp2_with fail
    have hwr : IntKind.i64.wrap (k : Int) = (k : Int) := IntWalk.i64_in _ (by omega)
    go_still_tail 14, (by kernel_rfl)
    change wpList _ _ _ _ _ w1.drew
    go_wp2
    try go_end0
    exact hD.out _ _ ⟨rfl, (HBn.out.set 0 (.string (str (l.take k)))).set 1 (.int .i64 (k : Int)), (Frm.tr (Frm.tr (Frm.of_below HBB.out (fun k => k = X)) (Frm.of_set _ _ _ rfl)) (Frm.of_set _ _ _ rfl)).drew⟩
end Go.Proofs.Ytbjekbbokhjfmaa
