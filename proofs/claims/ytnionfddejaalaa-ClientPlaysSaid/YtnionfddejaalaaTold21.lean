/-
  What the program tells of a few (law 21).
-/
import Derived.Test.YtnionfddejaalaaClient3
namespace Go.Proofs.Ytnionfddejaalaa
set_option linter.unusedVariables false
set_option linter.unusedSimpArgs false
open Go.RowKit

set_option maxRecDepth 8000 in
set_option maxHeartbeats 16000000 in
theorem told21 (w : World) : Calls Try.prog 23 #[] w fun e w' => e = .returned (.bool true) ∧ Ext w w' := by
  refine hide_post fun D hD => ?_
  have CN : Hid (Calls Try.prog 22 #[.int .i64 1, .int .i64 3] w fun e w' => ∃ P, e = .returned (.tuple #[.pointer (some ⟨P, 0, none⟩), .int .i64 0]) ∧ ClAt w.heap.size w' P ⟨1, 3, 0, 0, [], none⟩ ∧ Ext w w') := (new_yes 1 3 w (by decide) (by decide) (by decide) (by decide)).mono fun e w' h => ⟨_, h⟩
  have CN9 : Hid (∀ V, Calls Try.prog 22 #[.int .i64 9, .int .i64 3] V fun e w' => e = .returned (.tuple #[.pointer none, .int .i64 1]) ∧ Ext V w') := fun V => new_no 9 3 V (by decide)
  have CA1 : Hid (∀ V P, ClAt w.heap.size V P ⟨1, 3, 0, 0, [], none⟩ → Calls Try.prog 24 #[.pointer (some ⟨P, 0, none⟩), .int .i64 5, .agg #[.int .i64 0, .int .i64 0, .int .i64 4, .int .i64 2, .int .i64 0, .string ⟨#[]⟩]] V fun e w' => e = .returned (.tuple #[.int .i64 1, .int .i64 0]) ∧ ClAt w.heap.size w' P ⟨1, 3, 1, 0, [], some ⟨1, 1, 4, 2, 0, ⟨#[]⟩, 5, 1⟩⟩ ∧ Kt w.heap.size V w') := fun V P H => by
    refine (ask_any w.heap.size P 1 3 0 0 [] none 5 0 0 4 2 0 ⟨#[]⟩ V H (by decide) (by decide) (by decide) (by decide)).mono ?_
    rintro e w' ⟨a, f, rfl, hk, h | h⟩
    · have hm : mayReqB 1 (0 + 1) 4 2 0 (ByteArray.size ⟨#[]⟩) = true := by decide
      rcases h.1 with ⟨h1, _⟩ | ⟨_, _, _, h1, _⟩
      · rw [hm] at h1
        simp at h1
      · exact absurd rfl h1
    · obtain ⟨_, _, _, _, rfl, rfl, h7⟩ := h
      exact ⟨rfl, h7, hk⟩
  have CA2 : Hid (∀ V P, ClAt w.heap.size V P ⟨1, 3, 1, 0, [], some ⟨1, 1, 4, 2, 0, ⟨#[]⟩, 5, 1⟩⟩ → Calls Try.prog 24 #[.pointer (some ⟨P, 0, none⟩), .int .i64 5, .agg #[.int .i64 0, .int .i64 0, .int .i64 4, .int .i64 2, .int .i64 0, .string ⟨#[]⟩]] V fun e w' => e = .returned (.tuple #[.int .i64 0, .int .i64 4]) ∧ ClAt w.heap.size w' P ⟨1, 3, 1, 0, [], some ⟨1, 1, 4, 2, 0, ⟨#[]⟩, 5, 1⟩⟩ ∧ Kt w.heap.size V w') := fun V P H => by
    refine (ask_any w.heap.size P 1 3 1 0 [] _ 5 0 0 4 2 0 ⟨#[]⟩ V H (by decide) (by decide) (by decide) (by decide)).mono ?_
    rintro e w' ⟨a, f, rfl, hk, h | h⟩
    · have hm : mayReqB 1 (1 + 1) 4 2 0 (ByteArray.size ⟨#[]⟩) = true := by decide
      obtain ⟨h0, rfl, h3⟩ := h
      rcases h0 with ⟨h1, _⟩ | ⟨_, _, _, h1, rfl⟩
      · rw [hm] at h1
        simp at h1
      · exact ⟨rfl, h3, hk⟩
    · obtain ⟨_, _, _, h4, _⟩ := h
      cases h4
  have CT1 : Hid (∀ V P, ClAt w.heap.size V P ⟨1, 3, 1, 0, [], some ⟨1, 1, 4, 2, 0, ⟨#[]⟩, 5, 1⟩⟩ → Calls Try.prog 26 #[.pointer (some ⟨P, 0, none⟩), .int .i64 12] V fun e w' => e = .returned (.tuple #[.int .i64 (-1), .bool false]) ∧ Ext V w') := fun V P H => by
    exact tick_o w.heap.size P 1 3 1 0 [] 1 1 4 2 0 ⟨#[]⟩ 5 1 12 V H (by decide) (by decide) (by decide) (by decide) (by decide)
  have CT2 : Hid (∀ V P, ClAt w.heap.size V P ⟨1, 3, 1, 0, [], some ⟨1, 1, 4, 2, 0, ⟨#[]⟩, 5, 1⟩⟩ → Calls Try.prog 26 #[.pointer (some ⟨P, 0, none⟩), .int .i64 13] V fun e w' => e = .returned (.tuple #[.int .i64 2, .bool true]) ∧ ClAt w.heap.size w' P ⟨1, 3, 1, 0, [], some ⟨1, 1, 4, 2, 0, ⟨#[]⟩, 13, 2⟩⟩ ∧ Kt w.heap.size V w') := fun V P H => by
    exact tick_y w.heap.size P 1 3 1 0 [] 1 1 4 2 0 ⟨#[]⟩ 5 1 13 2 V H (by decide) (by decide) (by decide) (by decide) (by decide) (by decide) (by decide) (by decide)
  have CP : Hid (∀ V P, ClAt w.heap.size V P ⟨1, 3, 1, 0, [], some ⟨1, 1, 4, 2, 0, ⟨#[]⟩, 13, 2⟩⟩ → Calls Try.prog 32 #[.pointer (some ⟨P, 0, none⟩)] V fun e w' => e = .returned (.tuple #[.agg #[.int .i64 1, .int .i64 1, .int .i64 4, .int .i64 2, .int .i64 0, .string ⟨#[]⟩], .bool true]) ∧ Ext V w') := fun V P H => by
    exact pend_s w.heap.size P 1 3 1 0 [] 1 1 4 2 0 ⟨#[]⟩ 13 2 V H
  have CR1 : Hid (∀ V P, ClAt w.heap.size V P ⟨1, 3, 1, 0, [], some ⟨1, 1, 4, 2, 0, ⟨#[]⟩, 13, 2⟩⟩ → Calls Try.prog 34 #[.pointer (some ⟨P, 0, none⟩)] V fun e w' => e = .returned (.int .i64 2) ∧ Ext V w') := fun V P H => by
    exact tries_s w.heap.size P 1 3 1 0 [] 1 1 4 2 0 ⟨#[]⟩ 13 2 V H
  have CW1 : Hid (∀ V P, ClAt w.heap.size V P ⟨1, 3, 1, 0, [], some ⟨1, 1, 4, 2, 0, ⟨#[]⟩, 13, 2⟩⟩ → Calls Try.prog 30 #[.pointer (some ⟨P, 0, none⟩), .int .i64 2] V fun e w' => e = .returned (.bool false) ∧ Ext V w') := fun V P H => by
    exact answer_o w.heap.size P 1 3 1 0 [] 1 1 4 2 0 ⟨#[]⟩ 13 2 2 V H (by decide)
  have CW2 : Hid (∀ V P, ClAt w.heap.size V P ⟨1, 3, 1, 0, [], some ⟨1, 1, 4, 2, 0, ⟨#[]⟩, 13, 2⟩⟩ → Calls Try.prog 30 #[.pointer (some ⟨P, 0, none⟩), .int .i64 1] V fun e w' => e = .returned (.bool true) ∧ ClAt w.heap.size w' P ⟨1, 3, 1, 0, [], none⟩ ∧ Kt w.heap.size V w') := fun V P H => by
    exact answer_y w.heap.size P 1 3 1 0 [] 1 1 4 2 0 ⟨#[]⟩ 13 2 1 V H rfl
  have CR2 : Hid (∀ V P, ClAt w.heap.size V P ⟨1, 3, 1, 0, [], none⟩ → Calls Try.prog 34 #[.pointer (some ⟨P, 0, none⟩)] V fun e w' => e = .returned (.int .i64 0) ∧ Ext V w') := fun V P H => by
    exact tries_n w.heap.size P 1 3 1 0 [] V H
  have CS : Hid (∀ V P, ClAt w.heap.size V P ⟨1, 3, 1, 0, [], none⟩ → Calls Try.prog 33 #[.pointer (some ⟨P, 0, none⟩)] V fun e w' => e = .returned (.int .i64 1) ∧ Ext V w') := fun V P H => by
    exact seq_n w.heap.size P 1 3 1 0 [] V H
  have hb0 : w.heap.size ≤ w.heap.size := Nat.le_refl _
  have HB0 := Lib.hid hb0
  clear hb0
  go_enter Try.func23, Try.ntmps23
  go_wp2_with (first
    | (go_at_call 22; (with_reducible refine CN.out.mono ?_); rintro e w1 ⟨P, rfl, hc, hx⟩; have HC1 := Lib.hid hc; have X1 := Lib.hid hx; clear hc hx)
    | (go_at_call 22; (with_reducible refine (CN9.out _).mono ?_); rintro e w2 ⟨rfl, hx⟩; have HCQ := Lib.hid ((HC1.out.stay hx).stay (Ext.alloc w2 (.cells #[.int .i64 0, .int .i64 0, .int .i64 4, .int .i64 2, .int .i64 0, .string ⟨#[]⟩] 29))); have KQ : Hid (Kt w.heap.size w (w2.alloc (.cells #[.int .i64 0, .int .i64 0, .int .i64 4, .int .i64 2, .int .i64 0, .string ⟨#[]⟩] 29))) := Kt.ext (Ext.trans X1.out (Ext.trans hx (Ext.alloc _ _))) HB0.out; have u0 := (Blk.new w2 29 #[.int .i64 0, .int .i64 0, .int .i64 4, .int .i64 2, .int .i64 0, .string ⟨#[]⟩]).cell 0; have u1 := (Blk.new w2 29 #[.int .i64 0, .int .i64 0, .int .i64 4, .int .i64 2, .int .i64 0, .string ⟨#[]⟩]).cell 1; have u2 := (Blk.new w2 29 #[.int .i64 0, .int .i64 0, .int .i64 4, .int .i64 2, .int .i64 0, .string ⟨#[]⟩]).cell 2; have u3 := (Blk.new w2 29 #[.int .i64 0, .int .i64 0, .int .i64 4, .int .i64 2, .int .i64 0, .string ⟨#[]⟩]).cell 3; have u4 := (Blk.new w2 29 #[.int .i64 0, .int .i64 0, .int .i64 4, .int .i64 2, .int .i64 0, .string ⟨#[]⟩]).cell 4; have u5 := (Blk.new w2 29 #[.int .i64 0, .int .i64 0, .int .i64 4, .int .i64 2, .int .i64 0, .string ⟨#[]⟩]).cell 5; clear hx)
    | (go_at_call 24; (with_reducible refine (CA1.out _ _ HCQ.out).mono ?_); rintro e w3 ⟨rfl, hc, hk⟩; have HC3 := Lib.hid hc; have K3 : Hid (Kt w.heap.size w w3) := KQ.out.trans hk; have kq3 := hk.2 _ _ _ (by decide) (by decide) (Blk.new w2 29 #[.int .i64 0, .int .i64 0, .int .i64 4, .int .i64 2, .int .i64 0, .string ⟨#[]⟩]); have v0 := kq3.cell 0; have v1 := kq3.cell 1; have v2 := kq3.cell 2; have v3 := kq3.cell 3; have v4 := kq3.cell 4; have v5 := kq3.cell 5; simp at v0 v1 v2 v3 v4 v5; clear hc hk kq3)
    | (go_at_call 24; (with_reducible refine (CA2.out _ _ HC3.out).mono ?_); rintro e w4 ⟨rfl, hc, hk⟩; have HC4 := Lib.hid hc; have K4 : Hid (Kt w.heap.size w w4) := K3.out.trans hk; clear hc hk)
    | (go_at_call 26; (with_reducible refine (CT1.out _ _ HC4.out).mono ?_); rintro e w5 ⟨rfl, hx⟩; have HC5 := Lib.hid (HC4.out.stay hx); have K5 : Hid (Kt w.heap.size w w5) := K4.out.trans (Kt.ext hx HC4.out.lt); clear hx)
    | (go_at_call 26; (with_reducible refine (CT2.out _ _ HC5.out).mono ?_); rintro e w6 ⟨rfl, hc, hk⟩; have HC6 := Lib.hid hc; have K6 : Hid (Kt w.heap.size w w6) := K5.out.trans hk; clear hc hk)
    | (go_at_call 32; (with_reducible refine (CP.out _ _ HC6.out).mono ?_); rintro e w7 ⟨rfl, hx⟩; have HC7 := Lib.hid ((HC6.out.stay hx).stay (Ext.alloc w7 (.cells #[.int .i64 1, .int .i64 1, .int .i64 4, .int .i64 2, .int .i64 0, .string ⟨#[]⟩] 29))); have K7 : Hid (Kt w.heap.size w (w7.alloc (.cells #[.int .i64 1, .int .i64 1, .int .i64 4, .int .i64 2, .int .i64 0, .string ⟨#[]⟩] 29))) := K6.out.trans (Kt.ext (Ext.trans hx (Ext.alloc _ _)) HC6.out.lt); have z0 := (Blk.new w7 29 #[.int .i64 1, .int .i64 1, .int .i64 4, .int .i64 2, .int .i64 0, .string ⟨#[]⟩]).cell 0; have z1 := (Blk.new w7 29 #[.int .i64 1, .int .i64 1, .int .i64 4, .int .i64 2, .int .i64 0, .string ⟨#[]⟩]).cell 1; have z2 := (Blk.new w7 29 #[.int .i64 1, .int .i64 1, .int .i64 4, .int .i64 2, .int .i64 0, .string ⟨#[]⟩]).cell 2; have z3 := (Blk.new w7 29 #[.int .i64 1, .int .i64 1, .int .i64 4, .int .i64 2, .int .i64 0, .string ⟨#[]⟩]).cell 3; have z4 := (Blk.new w7 29 #[.int .i64 1, .int .i64 1, .int .i64 4, .int .i64 2, .int .i64 0, .string ⟨#[]⟩]).cell 4; have z5 := (Blk.new w7 29 #[.int .i64 1, .int .i64 1, .int .i64 4, .int .i64 2, .int .i64 0, .string ⟨#[]⟩]).cell 5; clear hx)
    | (go_at_call 34; (with_reducible refine (CR1.out _ _ HC7.out).mono ?_); rintro e w8 ⟨rfl, hx⟩; have HC8 := Lib.hid (HC7.out.stay hx); have K8 : Hid (Kt w.heap.size w w8) := K7.out.trans (Kt.ext hx HC7.out.lt); clear hx)
    | (go_at_call 30; (with_reducible refine (CW1.out _ _ HC8.out).mono ?_); rintro e w9 ⟨rfl, hx⟩; have HC9 := Lib.hid (HC8.out.stay hx); have K9 : Hid (Kt w.heap.size w w9) := K8.out.trans (Kt.ext hx HC8.out.lt); clear hx)
    | (go_at_call 30; (with_reducible refine (CW2.out _ _ HC9.out).mono ?_); rintro e w10 ⟨rfl, hc, hk⟩; have HC10 := Lib.hid hc; have K10 : Hid (Kt w.heap.size w w10) := K9.out.trans hk; clear hc hk)
    | (go_at_call 34; (with_reducible refine (CR2.out _ _ HC10.out).mono ?_); rintro e w11 ⟨rfl, hx⟩; have HC11 := Lib.hid (HC10.out.stay hx); have K11 : Hid (Kt w.heap.size w w11) := K10.out.trans (Kt.ext hx HC10.out.lt); clear hx)
    | (go_at_call 33; (with_reducible refine (CS.out _ _ HC11.out).mono ?_); rintro e w12 ⟨rfl, hx⟩; have K12 : Hid (Kt w.heap.size w w12) := K11.out.trans (Kt.ext hx HC11.out.lt); clear hx))
  try go_ret
  exact hD.out _ _ ⟨rfl, K12.out.1⟩

end Go.Proofs.Ytnionfddejaalaa
