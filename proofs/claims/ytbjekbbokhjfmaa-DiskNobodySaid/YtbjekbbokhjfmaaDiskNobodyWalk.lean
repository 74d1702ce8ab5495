/-
  The walk of the law DiskNobody.
-/
import Derived.Test.YtbjekbbokhjfmaaToldDisk
namespace Go.Proofs.Ytbjekbbokhjfmaa
set_option linter.unusedVariables false
set_option linter.unusedSimpArgs false
open Go.RowKit Go.ChangeShapes Go.WideShapes

set_option maxHeartbeats 1000000 in
theorem walk_diskNobody (A : Option Addr) (cap : Nat) (l : List UInt8) (a : Int) (w : World) (hc : l.length ≤ maxLen) (hs : Sl u8 w A l) : Calls Try.prog 14 #[.slice A l.length cap, .int .i64 a] w fun e w' => e = .returned (.bool true) ∧ Below w.heap.size w w' := by
  clear hs hc
  generalize Value.slice A l.length cap = v
  go_enter Try.func14, Try.ntmps14
  go_wp2_with (first
    | (go_at_call 33; (with_reducible refine (nil_append _ _).mono ?_); rintro e w1 ⟨rfl, rfl⟩)
    | (go_at_call 34; (with_reducible refine (nil_sync _).mono ?_); rintro e w1 ⟨rfl, rfl⟩)
    | (go_at_call 36; (with_reducible refine (nil_crash _ _).mono ?_); rintro e w1 ⟨rfl, rfl⟩)
    | (go_at_call 32; (with_reducible refine (told_disk _).mono ?_); rintro e w2 ⟨rfl, hb⟩)
    | (go_at_call 40; (with_reducible refine (nil_len _).mono ?_); rintro e w3 ⟨rfl, rfl⟩)
    | (go_at_call 41; (with_reducible refine (nil_synced _).mono ?_); rintro e w3 ⟨rfl, rfl⟩)
    | (go_at_call 39; (with_reducible refine (nil_bytes _).mono ?_); rintro e w3 ⟨rfl, rfl⟩)
    | (go_at_call 35; (with_reducible refine (nil_cut _ _).mono ?_); rintro e w3 ⟨rfl, rfl⟩))
  go_ret
  exact ⟨rfl, hb⟩

theorem law_diskNobody {H : Type} {enc : TypeId × Value → H} (W : World) (base : Nat) (args : Array Value) (ds : List (DataW H)) (p : List MemPlace)
    (hval : ∀ (j : Nat) t v, Try.f14.params[j]? = some t → args[j]? = some v → Value.okWide Try.prog W .any base t v)
    (hA : DataW.TrodAll enc Try.prog W 0 (fun _ => true) true Try.f14.params.toList args.toList ds p) :
    Calls Try.prog 14 args W fun e W' => e = .returned (.bool true) ∧ Below W.heap.size W W' := by
  rw [Try.params14] at hA hval
  obtain ⟨v0, vs0, d0, ds0, p0, q0, hargs, rfl, rfl, h0, r0⟩ := trodAll_cons hA
  obtain ⟨v1, vs1, d1, ds1, p1, q1, rfl, rfl, rfl, h1, r1⟩ := trodAll_cons r0
  obtain ⟨rfl, rfl, rfl⟩ := trodAll_nil r1
  obtain rfl : args = #[v0, v1] := by cases args; simp_all
  obtain ⟨A0, n0, c0, rfl⟩ := okWide_slice Try.underlying56 (hval 0 56 v0 rfl rfl)
  obtain ⟨fuel0, hf0⟩ := h0
  obtain ⟨B0, e0, l0, hcs0, x0, y0, z0⟩ := trod_bytes_sl Try.underlying56 Try.underlying5 cells_byte hf0
  simp only [Value.cells, List.cons.injEq, Value.slice.injEq, and_true] at hcs0
  obtain ⟨rfl, rfl, rfl⟩ := hcs0
  obtain ⟨a1, rfl, rfl, rfl, w1⟩ := open_int Try.underlying3 (hval 1 3 v1 rfl rfl) h1
  exact walk_diskNobody A0 c0 l0 a1 W (Nat.le_trans x0 y0) z0
end Go.Proofs.Ytbjekbbokhjfmaa
