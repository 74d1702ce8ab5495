/-
  The law package's own small questions of package req: answered yes.
-/
import Derived.Test.YtbjekbbokhjfmaaReply
namespace Go.Proofs.Ytbjekbbokhjfmaa
set_option linter.unusedVariables false
set_option linter.unusedSimpArgs false
open Go.RowKit

/-- a request of the call's own, in block g -/
def ReqAt (w W : World) (g : Nat) (c s k i m : Int) (d : ByteArray) : Prop := Below w.heap.size w W ∧ Blk W g 35 #[.int .i64 c, .int .i64 s, .int .i64 k, .int .i64 i, .int .i64 m, .string d]
section
variable {w W W' : World} {g : Nat} {c s k i m : Int} {d : ByteArray}
theorem ReqAt.stay (H : ReqAt w W g c s k i m d) (h : Below W.heap.size W W') : ReqAt w W' g c s k i m d := ⟨Below.step H.1 h, H.2.stay h⟩
theorem ReqAt.cells (H : ReqAt w W g c s k i m d) : W.cell? ⟨g, 0, none⟩ = some (.int .i64 c) ∧ W.cell? ⟨g, 1, none⟩ = some (.int .i64 s) ∧ W.cell? ⟨g, 2, none⟩ = some (.int .i64 k) ∧ W.cell? ⟨g, 3, none⟩ = some (.int .i64 i) ∧ W.cell? ⟨g, 4, none⟩ = some (.int .i64 m) ∧ W.cell? ⟨g, 5, none⟩ = some (.string d) :=
  ⟨H.2.cell 0, H.2.cell 1, H.2.cell 2, H.2.cell 3, H.2.cell 4, H.2.cell 5⟩
theorem ReqAt.same (H : ReqAt w W g c s k i m d) (c' s' k' i' m' : Int) (d' : ByteArray) (b : Bool) (hb : decide (c = c' ∧ s = s' ∧ k = k' ∧ i = i' ∧ m = m' ∧ d = d') = b) :
    Calls Try.prog 21 #[reqV c s k i m d, reqV c' s' k' i' m' d'] W fun e w' => e = .returned (.bool b) ∧ ReqAt w w' g c s k i m d :=
  (same_any c s k i m c' s' k' i' m' d d' W).mono fun _ _ ⟨he, h⟩ => ⟨by rw [he, hb], H.stay h⟩
theorem ReqAt.key (H : ReqAt w W g c s k i m d) (c' s' k' i' m' : Int) (d' : ByteArray) (hd : d'.size ≤ maxLen) (r : Int) (hr : (if mayReqB c' s' k' i' m' d'.size then i' else -1) = r) :
    Calls Try.prog 24 #[reqV c' s' k' i' m' d'] W fun e w' => e = .returned (.int .i64 r) ∧ ReqAt w w' g c s k i m d :=
  (key_any c' s' k' i' m' d' W hd).mono fun _ _ ⟨he, h⟩ => ⟨by rw [he, hr], H.stay h⟩
theorem ReqAt.newer (H : ReqAt w W g c s k i m d) (c' s' k' i' m' : Int) (d' : ByteArray) (n : Int) (hd : d'.size ≤ maxLen) (b : Bool) (hb : (mayReqB c' s' k' i' m' d'.size && decide (n < s')) = b) :
    Calls Try.prog 25 #[reqV c' s' k' i' m' d', .int .i64 n] W fun e w' => e = .returned (.bool b) ∧ ReqAt w w' g c s k i m d :=
  (newer_any c' s' k' i' m' d' n W hd).mono fun _ _ ⟨he, h⟩ => ⟨by rw [he, hb], H.stay h⟩
end

set_option maxHeartbeats 2000000 in
theorem told_req (w : World) : Calls Try.prog 19 #[] w fun e w' => e = .returned (.bool true) ∧ Below w.heap.size w w' := by
  refine hide_post fun D hD => ?_
  obtain ⟨E, hE⟩ : ∃ E : ByteArray, E = { data := #[] } := ⟨_, rfl⟩
  have hz : E.size ≤ maxLen := by rw [hE]; decide
  have K0 : Hid (ReqAt w (w.alloc (.cells #[.int .i64 1, .int .i64 5, .int .i64 4, .int .i64 3, .int .i64 0, .string { data := #[] }] 35)) w.heap.size 1 5 4 3 0 { data := #[] }) := ⟨(Below.refl _ _).alloc (Nat.le_refl _) _, Blk.new _ _ _⟩
  have HS1 : Hid (∀ W, ReqAt w W w.heap.size 1 5 4 3 0 { data := #[] } → Calls Try.prog 21 #[.agg #[.int .i64 1, .int .i64 5, .int .i64 4, .int .i64 3, .int .i64 0, .string { data := #[] }], .agg #[.int .i64 1, .int .i64 5, .int .i64 4, .int .i64 3, .int .i64 0, .string { data := #[] }]] W fun e w' => e = .returned (.bool true) ∧ ReqAt w w' w.heap.size 1 5 4 3 0 { data := #[] }) := fun W H => H.same _ _ _ _ _ _ true (by simp)
  have HS2 : Hid (∀ W, ReqAt w W w.heap.size 1 5 4 3 0 { data := #[] } → Calls Try.prog 21 #[.agg #[.int .i64 1, .int .i64 5, .int .i64 4, .int .i64 3, .int .i64 0, .string { data := #[] }], .agg #[.int .i64 0, .int .i64 0, .int .i64 0, .int .i64 0, .int .i64 0, .string { data := #[] }]] W fun e w' => e = .returned (.bool false) ∧ ReqAt w w' w.heap.size 1 5 4 3 0 { data := #[] }) := fun W H => H.same _ _ _ _ _ _ false (by simp)
  have HK1 : Hid (∀ W, ReqAt w W w.heap.size 1 5 4 3 0 { data := #[] } → Calls Try.prog 24 #[.agg #[.int .i64 1, .int .i64 5, .int .i64 4, .int .i64 3, .int .i64 0, .string { data := #[] }]] W fun e w' => e = .returned (.int .i64 3) ∧ ReqAt w w' w.heap.size 1 5 4 3 0 { data := #[] }) := fun W H => H.key _ _ _ _ _ _ (by decide) 3 (by decide)
  have HK2 : Hid (∀ W, ReqAt w W w.heap.size 1 5 4 3 0 { data := #[] } → Calls Try.prog 24 #[.agg #[.int .i64 0, .int .i64 0, .int .i64 0, .int .i64 0, .int .i64 0, .string { data := #[] }]] W fun e w' => e = .returned (.int .i64 (-1)) ∧ ReqAt w w' w.heap.size 1 5 4 3 0 { data := #[] }) := fun W H => H.key _ _ _ _ _ _ (by decide) (-1) (by decide)
  have HN1 : Hid (∀ W, ReqAt w W w.heap.size 1 5 4 3 0 { data := #[] } → Calls Try.prog 25 #[.agg #[.int .i64 1, .int .i64 5, .int .i64 4, .int .i64 3, .int .i64 0, .string { data := #[] }], .int .i64 5] W fun e w' => e = .returned (.bool false) ∧ ReqAt w w' w.heap.size 1 5 4 3 0 { data := #[] }) := fun W H => H.newer _ _ _ _ _ _ 5 (by decide) false (by decide)
  have HN2 : Hid (∀ W, ReqAt w W w.heap.size 1 5 4 3 0 { data := #[] } → Calls Try.prog 25 #[.agg #[.int .i64 1, .int .i64 5, .int .i64 4, .int .i64 3, .int .i64 0, .string { data := #[] }], .int .i64 4] W fun e w' => e = .returned (.bool true) ∧ ReqAt w w' w.heap.size 1 5 4 3 0 { data := #[] }) := fun W H => H.newer _ _ _ _ _ _ 4 (by decide) true (by decide)
  have HR1 : Hid (∀ W, ReqAt w W w.heap.size 1 5 4 3 0 { data := #[] } → Calls Try.prog 22 #[.agg #[.int .i64 0, .int .i64 0, .string { data := #[] }, .slice (some ⟨W.heap.size, 0, none⟩) 1 1], .agg #[.int .i64 0, .int .i64 0, .string { data := #[] }, .slice (some ⟨W.heap.size + 1, 0, none⟩) 1 1]] ((W.alloc (.cells #[.int .i64 1] 3)).alloc (.cells #[.int .i64 2] 3)) fun e w' => e = .returned (.bool false) ∧ Below w.heap.size w w') := fun W H => by
    have hb : Below w.heap.size w ((W.alloc (.cells #[.int .i64 1] 3)).alloc (.cells #[.int .i64 2] 3)) := (H.1.alloc H.1.size _).alloc (Nat.le_trans H.1.size (by simp)) _
    refine (sameReply_any 0 0 0 0 { data := #[] } { data := #[] } (some ⟨W.heap.size, 0, none⟩) (some ⟨W.heap.size + 1, 0, none⟩) [1] [2] 1 1 _ (by simp) (by simp) ?_ ?_).mono fun _ _ ⟨he, h⟩ => ⟨by rw [he]; rfl, Below.step hb h⟩
    · exact Sl.of_blk ((Blk.new _ _ _).alloc _) (fun j v hj => by match j, hj with | 0, hj => (simp at hj; subst hj; rfl))
    · exact Sl.of_blk (Blk.new' _ _ _ _ (by simp)) (fun j v hj => by match j, hj with | 0, hj => (simp at hj; subst hj; rfl))
  have HR2 : Hid (∀ W g, Below w.heap.size w W → Calls Try.prog 22 #[.agg #[.int .i64 0, .int .i64 0, .string { data := #[] }, .slice (some ⟨g, 0, none⟩) 0 0], .agg #[.int .i64 0, .int .i64 0, .string { data := #[] }, .slice none 0 0]] (W.alloc (.cells #[] 3)) fun e w' => e = .returned (.bool true) ∧ Below w.heap.size w w') := fun W g H =>
    (sameReply_any 0 0 0 0 { data := #[] } { data := #[] } (some ⟨g, 0, none⟩) none [] [] 0 0 _ (by simp) (by simp) (Sl.nil _ _ _) (Sl.nil _ _ _)).mono fun _ _ ⟨he, h⟩ => ⟨by rw [he]; rfl, Below.step (H.alloc H.size _) h⟩
  clear hE hz
  go_enter Try.func19, Try.ntmps19
  go_wp2_with (first
    | (go_at_call 21; (with_reducible refine (HS1.out _ K0.out).mono ?_); rintro e w1 ⟨rfl, h⟩; obtain ⟨a0, a1, a2, a3, a4, a5⟩ := h.cells; have K1 := Lib.hid h; clear h)
    | (go_at_call 21; (with_reducible refine (HS2.out _ K1.out).mono ?_); rintro e w2 ⟨rfl, h⟩; obtain ⟨b0, b1, b2, b3, b4, b5⟩ := h.cells; have K2 := Lib.hid h; clear h)
    | (go_at_call 24; (with_reducible refine (HK1.out _ K2.out).mono ?_); rintro e w3 ⟨rfl, h⟩; have K3 := Lib.hid h; clear h)
    | (go_at_call 24; (with_reducible refine (HK2.out _ K3.out).mono ?_); rintro e w4 ⟨rfl, h⟩; obtain ⟨d0, d1, d2, d3, d4, d5⟩ := h.cells; have K4 := Lib.hid h; clear h)
    | (go_at_call 25; (with_reducible refine (HN1.out _ K4.out).mono ?_); rintro e w5 ⟨rfl, h⟩; obtain ⟨f0, f1, f2, f3, f4, f5⟩ := h.cells; have K5 := Lib.hid h; clear h)
    | (go_at_call 25; (with_reducible refine (HN2.out _ K5.out).mono ?_); rintro e w6 ⟨rfl, h⟩; have K6 := Lib.hid h; clear h)
    | (go_at_call 22; (with_reducible refine (HR1.out _ K6.out).mono ?_); rintro e w7 ⟨rfl, h⟩; have K7 := Lib.hid h; clear h)
    | (go_at_call 22; (with_reducible refine (HR2.out _ _ K7.out).mono ?_); rintro e w8 ⟨rfl, h⟩; have K8 := Lib.hid h; clear h))
  try go_ret
  exact hD.out _ _ ⟨rfl, K8.out⟩
end Go.Proofs.Ytbjekbbokhjfmaa
