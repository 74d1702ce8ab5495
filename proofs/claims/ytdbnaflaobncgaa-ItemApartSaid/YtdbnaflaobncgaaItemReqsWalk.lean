/-
  The walk of the law ItemReqs.
-/
import Derived.Test.YtdbnaflaobncgaaItemBoundsWalk
import Derived.Test.YtdbnaflaobncgaaRefGetReq
import Derived.Test.YtdbnaflaobncgaaHeldR
namespace Go.Proofs.Ytdbnaflaobncgaa
set_option linter.unusedVariables false
set_option linter.unusedSimpArgs false
open Go.RowKit Go.ChangeShapes Go.WideShapes

set_option maxRecDepth 8000 in
set_option maxHeartbeats 8000000 in
theorem reqs_no (c s k i m : Int) (d : ByteArray) (A : Option Addr) (cap n : Nat) (w : World) (f : Bool) (hd : d.size ≤ maxLen) (hf : decide (d.size ≤ 300) = f) (hn : f = true → 300 < n) :
    Calls Try.prog 7 #[.agg #[.int .i64 c, .int .i64 s, .int .i64 k, .int .i64 i, .int .i64 m, .string d], .slice A n cap] w fun e w' => e = .returned (.bool true) ∧ Below w.heap.size w w' := by
  refine hide_post fun D hD => ?_
  obtain ⟨W0, hW0⟩ : ∃ W0, W0 = w.alloc (.cells #[.int .i64 c, .int .i64 s, .int .i64 k, .int .i64 i, .int .i64 m, .string d] 30) := ⟨_, rfl⟩
  have kB : Blk W0 w.heap.size 30 #[.int .i64 c, .int .i64 s, .int .i64 k, .int .i64 i, .int .i64 m, .string d] := by rw [hW0]; exact Blk.new _ _ _
  have hx0 : Ext w W0 := by rw [hW0]; exact Ext.alloc _ _
  have HW0 := Lib.hid hW0
  have HX0 := Lib.hid hx0
  have fz0 : ∀ V, Ext W0 V → V.cell? ⟨w.heap.size, 0, none⟩ = some (.int .i64 c) := fun V h => (kB.stay h).cell 0
  have fz1 : ∀ V, Ext W0 V → V.cell? ⟨w.heap.size, 1, none⟩ = some (.int .i64 s) := fun V h => (kB.stay h).cell 1
  have fz2 : ∀ V, Ext W0 V → V.cell? ⟨w.heap.size, 2, none⟩ = some (.int .i64 k) := fun V h => (kB.stay h).cell 2
  have fz3 : ∀ V, Ext W0 V → V.cell? ⟨w.heap.size, 3, none⟩ = some (.int .i64 i) := fun V h => (kB.stay h).cell 3
  have fz4 : ∀ V, Ext W0 V → V.cell? ⟨w.heap.size, 4, none⟩ = some (.int .i64 m) := fun V h => (kB.stay h).cell 4
  have fz5 : ∀ V, Ext W0 V → V.cell? ⟨w.heap.size, 5, none⟩ = some (.string d) := fun V h => (kB.stay h).cell 5
  have E0 : Hid (Ext W0 W0) := Ext.refl _
  have HT : Hid (∀ V, Ext W0 V → Calls Try.prog 29 #[] V fun e w' => e = .returned (.bool true) ∧ Ext V w') := fun V _ => told2 V
  have CF : Hid (∀ V, Ext W0 V → Calls Try.prog 28 #[.agg #[.int .i64 c, .int .i64 s, .int .i64 k, .int .i64 i, .int .i64 m, .string d]] V fun e w' => e = .returned (.bool f) ∧ Ext V w') := fun V _ => by rw [← hf]; exact few_any c s k i m d V hd
  clear kB hx0 hW0 hf
  cases f
  · go_enter Try.func7, Try.ntmps7
    go_wp2_with fail
    rw [← HW0.out]
    have e0 := E0.out
    have W0z0 := fz0 W0 E0.out; have W0z1 := fz1 W0 E0.out; have W0z2 := fz2 W0 E0.out; have W0z3 := fz3 W0 E0.out; have W0z4 := fz4 W0 E0.out; have W0z5 := fz5 W0 E0.out
    go_wp2_with (first
      | (go_at_call 28; (with_reducible refine (CF.out _ e0).mono ?_); rintro e w1 ⟨rfl, hx⟩; have Ew1 : Ext W0 w1 := Ext.trans e0 hx; have w1z0 := fz0 w1 Ew1; have w1z1 := fz1 w1 Ew1; have w1z2 := fz2 w1 Ew1; have w1z3 := fz3 w1 Ew1; have w1z4 := fz4 w1 Ew1; have w1z5 := fz5 w1 Ew1; clear hx)
      | (go_at_call 29; (with_reducible refine (HT.out _ Ew1).mono ?_); rintro e w2 ⟨rfl, hx⟩; have Ew2 : Ext W0 w2 := Ext.trans Ew1 hx; clear hx))
    try go_ret
    exact hD.out _ _ ⟨rfl, Ext.trans HX0.out Ew2⟩
  · have h3 : (300 : Int) < (n : Int) := by have := hn rfl; omega
    go_enter Try.func7, Try.ntmps7
    go_wp2_with fail
    rw [← HW0.out]
    have e0 := E0.out
    have W0z0 := fz0 W0 E0.out; have W0z1 := fz1 W0 E0.out; have W0z2 := fz2 W0 E0.out; have W0z3 := fz3 W0 E0.out; have W0z4 := fz4 W0 E0.out; have W0z5 := fz5 W0 E0.out
    go_wp2_with (first
      | (go_at_call 28; (with_reducible refine (CF.out _ e0).mono ?_); rintro e w1 ⟨rfl, hx⟩; have Ew1 : Ext W0 w1 := Ext.trans e0 hx; have w1z0 := fz0 w1 Ew1; have w1z1 := fz1 w1 Ew1; have w1z2 := fz2 w1 Ew1; have w1z3 := fz3 w1 Ew1; have w1z4 := fz4 w1 Ew1; have w1z5 := fz5 w1 Ew1; clear hx)
      | (go_at_call 29; (with_reducible refine (HT.out _ Ew1).mono ?_); rintro e w2 ⟨rfl, hx⟩; have Ew2 : Ext W0 w2 := Ext.trans Ew1 hx; clear hx))
    try go_ret
    exact hD.out _ _ ⟨rfl, Ext.trans HX0.out Ew2⟩

set_option maxRecDepth 8000 in
set_option maxHeartbeats 16000000 in
theorem reqs_true (q : Rq) (hq1 : q.may = true) (A : Option Addr) (cap n : Nat) (l : List UInt8) (w : World) (hn : n = l.length) (hl : l.length ≤ 300) (hsl : Sl Go.Proofs.Ytdbnaflaobncgaa.u8 w A l) :
    Calls Try.prog 7 #[q.val, .slice A n cap] w fun e w' => e = .returned (.bool true) ∧ Below w.heap.size w w' := by
  obtain ⟨c, s, k, i, m, d, hq, hm, hd⟩ : ∃ (c s k i m : Int) (d : ByteArray), q.val = .agg #[.int .i64 c, .int .i64 s, .int .i64 k, .int .i64 i, .int .i64 m, .string d] ∧ mayReqB c s k i m d.size = true ∧ d.size ≤ 300 := ⟨q.c, q.s, q.k, q.i, q.m, q.d, rfl, hq1, by have := Rq.may_le hq1; omega⟩
  rw [hq]
  obtain ⟨n1, hn1⟩ : ∃ n, n = (putB q).length := ⟨_, rfl⟩
  obtain ⟨sb, hsb⟩ : ∃ z, z = str (putB q) := ⟨_, rfl⟩
  refine hide_post fun D hD => ?_
  obtain ⟨W0, hW0⟩ : ∃ W0, W0 = w.alloc (.cells #[.int .i64 c, .int .i64 s, .int .i64 k, .int .i64 i, .int .i64 m, .string d] 30) := ⟨_, rfl⟩
  have kB : Blk W0 w.heap.size 30 #[.int .i64 c, .int .i64 s, .int .i64 k, .int .i64 i, .int .i64 m, .string d] := by rw [hW0]; exact Blk.new _ _ _
  have hx0 : Ext w W0 := by rw [hW0]; exact Ext.alloc _ _
  have HW0 := Lib.hid hW0
  have HX0 := Lib.hid hx0
  have fz0 : ∀ V, Ext W0 V → V.cell? ⟨w.heap.size, 0, none⟩ = some (.int .i64 c) := fun V h => (kB.stay h).cell 0
  have fz1 : ∀ V, Ext W0 V → V.cell? ⟨w.heap.size, 1, none⟩ = some (.int .i64 s) := fun V h => (kB.stay h).cell 1
  have fz2 : ∀ V, Ext W0 V → V.cell? ⟨w.heap.size, 2, none⟩ = some (.int .i64 k) := fun V h => (kB.stay h).cell 2
  have fz3 : ∀ V, Ext W0 V → V.cell? ⟨w.heap.size, 3, none⟩ = some (.int .i64 i) := fun V h => (kB.stay h).cell 3
  have fz4 : ∀ V, Ext W0 V → V.cell? ⟨w.heap.size, 4, none⟩ = some (.int .i64 m) := fun V h => (kB.stay h).cell 4
  have fz5 : ∀ V, Ext W0 V → V.cell? ⟨w.heap.size, 5, none⟩ = some (.string d) := fun V h => (kB.stay h).cell 5
  have E0 : Hid (Ext W0 W0) := Ext.refl _
  have HT : Hid (∀ V, Ext W0 V → Calls Try.prog 29 #[] V fun e w' => e = .returned (.bool true) ∧ Ext V w') := fun V _ => told2 V
  have hdm : d.size ≤ maxLen := by unfold maxLen; omega
  obtain ⟨tl, htl⟩ : ∃ z, z = str l := ⟨_, rfl⟩
  have CF : Hid (∀ V, Ext W0 V → Calls Try.prog 28 #[.agg #[.int .i64 c, .int .i64 s, .int .i64 k, .int .i64 i, .int .i64 m, .string d]] V fun e w' => e = .returned (.bool true) ∧ Ext V w') := fun V _ => by have h := few_any c s k i m d V hdm; rw [decide_eq_true hd] at h; exact h
  have CM : Hid (∀ V, Ext W0 V → Calls Try.prog 32 #[.agg #[.int .i64 c, .int .i64 s, .int .i64 k, .int .i64 i, .int .i64 m, .string d]] V fun e w' => e = .returned (.bool true) ∧ Ext V w') := fun V _ => by rw [← hm]; exact mayReq_any c s k i m d V hdm
  have CRM : Hid (∀ V, Ext W0 V → Calls Try.prog 30 #[.agg #[.int .i64 c, .int .i64 s, .int .i64 k, .int .i64 i, .int .i64 m, .string d]] V fun e w' => e = .returned (.bool true) ∧ Ext V w') := fun V _ => by rw [← hm]; exact refMayReq_any c s k i m d V hdm
  have CP : Hid (∀ V, Ext W0 V → Calls Try.prog 31 #[.agg #[.int .i64 c, .int .i64 s, .int .i64 k, .int .i64 i, .int .i64 m, .string d]] V fun e w' => ∃ A' c', e = .returned (.tuple #[.slice A' n1 c', .int .i64 0]) ∧ Sl Go.Proofs.Ytdbnaflaobncgaa.u8 w' A' (putB q) ∧ Ext V w') := fun V _ => by
    have h := putReq_yes q V hq1; rw [hq] at h; rw [hn1]
    exact h
  obtain ⟨u, hu⟩ : ∃ u, u = decide (k = 1 ∨ k = 2 ∨ k = 3) := ⟨_, rfl⟩
  have CW : Hid (∀ V, Ext W0 V → Calls Try.prog 33 #[.agg #[.int .i64 c, .int .i64 s, .int .i64 k, .int .i64 i, .int .i64 m, .string d]] V fun e w' => e = .returned (.bool u) ∧ Ext V w') := fun V _ => by rw [hu]; exact writes_any c s k i m d V
  have CRW : Hid (∀ V, Ext W0 V → Calls Try.prog 34 #[.agg #[.int .i64 c, .int .i64 s, .int .i64 k, .int .i64 i, .int .i64 m, .string d]] V fun e w' => e = .returned (.bool u) ∧ Ext V w') := fun V _ => by rw [hu]; exact refWrites_any c s k i m d V
  have CG : Hid (∀ V, Ext W0 V → Calls Try.prog 36 #[.slice A n cap] V fun e w' => ∃ (yc ys yk yi ym : Nat) (yd : ByteArray) (ec : Int), GotQ l ⟨yc, ys, yk, yi, ym, yd⟩ ec ∧ e = .returned (.tuple #[.agg #[.int .i64 (yc : Int), .int .i64 (ys : Int), .int .i64 (yk : Int), .int .i64 (yi : Int), .int .i64 (ym : Int), .string yd], .int .i64 ec]) ∧ Ext V w') := fun V hV => by
    rw [hn]
    refine (getReq_any A cap l V (hsl.stay (Ext.trans hx0 hV)) (by omega)).mono ?_
    rintro e w' ⟨⟨yc, ys, yk, yi, ym, yd⟩, ec, h1, h2, h3⟩
    exact ⟨yc, ys, yk, yi, ym, yd, ec, h1, h2, h3⟩
  have CRG : Hid (∀ V (yc ys yk yi ym : Nat) (yd : ByteArray) (ec : Int), GotQ l ⟨yc, ys, yk, yi, ym, yd⟩ ec → Calls Try.prog 37 #[.string tl] V fun e w' => e = .returned (.tuple #[.agg #[.int .i64 (yc : Int), .int .i64 (ys : Int), .int .i64 (yk : Int), .int .i64 (yi : Int), .int .i64 (ym : Int), .string yd], .int .i64 ec]) ∧ Ext V w') := fun V yc ys yk yi ym yd ec h => by
    rw [htl]
    refine (refGetReq_any l V (by omega)).mono ?_
    rintro e w' ⟨q', ec', h1, h2, h3⟩
    obtain ⟨rfl, rfl⟩ := GotQ.det h h1
    exact ⟨h2, h3⟩
  have HCB : Hid (∀ V, Ext W0 V → (convert 54 9 (.slice A n cap)).run Try.prog V = .ok (.string tl) V) := fun V hV => by
    have := run_str (P := Try.prog) (w := V) 54 9 5 A l cap Try.underlying54 Try.underlying5 Try.underlying9 (hsl.stay (Ext.trans hx0 hV))
    rw [hn, htl]
    exact this
  have CRP : Hid (∀ V, Ext W0 V → Calls Try.prog 35 #[.agg #[.int .i64 c, .int .i64 s, .int .i64 k, .int .i64 i, .int .i64 m, .string d]] V fun e w' => e = .returned (.string sb) ∧ Ext V w') := fun V _ => by have h := refPutReq_any q V hq1; rw [hq] at h; rw [hsb]; exact h
  have HCX : Hid (∀ V A' c', Sl Go.Proofs.Ytdbnaflaobncgaa.u8 V A' (putB q) → ∀ W, Ext V W → (convert 54 9 (.slice A' n1 c')).run Try.prog W = .ok (.string sb) W) := fun V A' c' h W hW => by
    have := run_str (P := Try.prog) (w := W) 54 9 5 A' (putB q) c' Try.underlying54 Try.underlying5 Try.underlying9 (h.stay hW)
    rw [hn1, hsb]
    exact this
  have g3 : ¬ (300 : Int) < (n : Int) := by omega
  clear kB hx0 hW0 hn1 hsb hq1 hq hu htl hdm hm hd hn hl hsl
  go_enter Try.func7, Try.ntmps7
  go_wp2_with fail
  rw [← HW0.out]
  have e0 := E0.out
  have W0z0 := fz0 W0 E0.out; have W0z1 := fz1 W0 E0.out; have W0z2 := fz2 W0 E0.out; have W0z3 := fz3 W0 E0.out; have W0z4 := fz4 W0 E0.out; have W0z5 := fz5 W0 E0.out
  go_wp2_with (first
    | (go_at_call 28; (with_reducible refine (CF.out _ e0).mono ?_); rintro e w1 ⟨rfl, hx⟩; have Ew1 : Ext W0 w1 := Ext.trans e0 hx; have w1z0 := fz0 w1 Ew1; have w1z1 := fz1 w1 Ew1; have w1z2 := fz2 w1 Ew1; have w1z3 := fz3 w1 Ew1; have w1z4 := fz4 w1 Ew1; have w1z5 := fz5 w1 Ew1; clear hx)
    | (go_at_call 30; (with_reducible refine (CRM.out _ Ew1).mono ?_); rintro e w2 ⟨rfl, hx⟩; have Ew2 : Ext W0 w2 := Ext.trans Ew1 hx; have w2z0 := fz0 w2 Ew2; have w2z1 := fz1 w2 Ew2; have w2z2 := fz2 w2 Ew2; have w2z3 := fz3 w2 Ew2; have w2z4 := fz4 w2 Ew2; have w2z5 := fz5 w2 Ew2; clear hx)
    | (go_at_call 31; (with_reducible refine (CP.out _ Ew2).mono ?_); rintro e w3 ⟨A1, c1, rfl, hs1, hx⟩; have Ew3 : Ext W0 w3 := Ext.trans Ew2 hx; have w3z0 := fz0 w3 Ew3; have w3z1 := fz1 w3 Ew3; have w3z2 := fz2 w3 Ew3; have w3z3 := fz3 w3 Ew3; have w3z4 := fz4 w3 Ew3; have w3z5 := fz5 w3 Ew3; have HS1 := Lib.hid hs1; clear hs1; clear hx))
  have EW3 := Lib.hid Ew3
  clear W0z0 W0z1 W0z2 W0z3 W0z4 W0z5 w1z0 w1z1 w1z2 w1z3 w1z4 w1z5 w2z0 w2z1 w2z2 w2z3 w2z4 w2z5 w3z0 w3z1 w3z2 w3z3 w3z4 w3z5 Ew3
  have hcv : ∀ W, Ext w3 W → (convert 54 9 (.slice A1 n1 c1)).run Try.prog W = .ok (.string sb) W := HCX.out _ _ _ HS1.out
  have X33 : Hid (Ext w3 w3) := Ext.refl _
  have fy0 : ∀ V, Ext w3 V → V.cell? ⟨w.heap.size, 0, none⟩ = some (.int .i64 c) := fun V h => fz0 V (Ext.trans EW3.out h)
  have fy1 : ∀ V, Ext w3 V → V.cell? ⟨w.heap.size, 1, none⟩ = some (.int .i64 s) := fun V h => fz1 V (Ext.trans EW3.out h)
  have fy2 : ∀ V, Ext w3 V → V.cell? ⟨w.heap.size, 2, none⟩ = some (.int .i64 k) := fun V h => fz2 V (Ext.trans EW3.out h)
  have fy3 : ∀ V, Ext w3 V → V.cell? ⟨w.heap.size, 3, none⟩ = some (.int .i64 i) := fun V h => fz3 V (Ext.trans EW3.out h)
  have fy4 : ∀ V, Ext w3 V → V.cell? ⟨w.heap.size, 4, none⟩ = some (.int .i64 m) := fun V h => fz4 V (Ext.trans EW3.out h)
  have fy5 : ∀ V, Ext w3 V → V.cell? ⟨w.heap.size, 5, none⟩ = some (.string d) := fun V h => fz5 V (Ext.trans EW3.out h)
  clear fz0 fz1 fz2 fz3 fz4 fz5
  refine ext_begin (by kernel_rfl) ?_
  have X33d := Lib.hid (Ext.drewR X33.out)
  refine ext_take (i := 0) (v := ?_) rfl (by kernel_rfl) (by kernel_rfl) (by kernel_rfl) (fun _ _ _ h => h) (by rfl) ?_ ?_
  rotate_left
  · intro W hW; have hW0 := Ext.trans X33d.out hW; clear hW; go_simp <;> with_reducible rfl
  try simp only [Act.put, List.setIfInBounds_toArray, List.set_cons_zero, List.set_cons_succ]
  refine ext_take (i := 2) (v := ?_) rfl (by kernel_rfl) (by kernel_rfl) (by kernel_rfl) (fun _ _ _ h => h) (by rfl) ?_ ?_
  rotate_left
  · intro W hW; have hW0 := Ext.trans X33d.out hW; clear hW; go_simp <;> with_reducible rfl
  try simp only [Act.put, List.setIfInBounds_toArray, List.set_cons_zero, List.set_cons_succ]
  refine ext_call (i := 1) rfl (by kernel_rfl) (by rfl) (fun K' hK => ?_)
  go_simp
  (go_at_call 32; (with_reducible refine (CM.out _ (Ext.trans EW3.out X33d.out)).mono ?_); rintro e w4 ⟨rfl, hx⟩; refine hK _ _ hx ?_; clear hK)
  have Ew4 := Lib.hid (Ext.trans X33d.out hx)
  clear hx
  try simp only [Act.put, List.setIfInBounds_toArray, List.set_cons_zero, List.set_cons_succ]
  refine ext_take (i := 3) (v := ?_) rfl (by kernel_rfl) (by kernel_rfl) (by kernel_rfl) (fun _ _ _ h => h) (by rfl) ?_ ?_
  rotate_left
  · intro W hW; have hW0 := Ext.trans Ew4.out hW; clear hW; go_simp <;> with_reducible rfl
  try simp only [Act.put, List.setIfInBounds_toArray, List.set_cons_zero, List.set_cons_succ]
  refine ext_take (i := 4) (v := ?_) rfl (by kernel_rfl) (by kernel_rfl) (by kernel_rfl) (fun _ _ _ h => h) (by rfl) ?_ ?_
  rotate_left
  · intro W hW; have hW0 := Ext.trans Ew4.out hW; clear hW; go_simp <;> with_reducible rfl
  try simp only [Act.put, List.setIfInBounds_toArray, List.set_cons_zero, List.set_cons_succ]
  refine ext_take (i := 5) (v := ?_) rfl (by kernel_rfl) (by kernel_rfl) (by kernel_rfl) (fun _ _ _ h => h) (by rfl) ?_ ?_
  rotate_left
  · intro W hW; have hW0 := Ext.trans Ew4.out hW; clear hW; go_simp <;> with_reducible rfl
  try simp only [Act.put, List.setIfInBounds_toArray, List.set_cons_zero, List.set_cons_succ]
  refine ext_take (i := 7) (v := ?_) rfl (by kernel_rfl) (by kernel_rfl) (by kernel_rfl) (fun _ _ _ h => h) (by rfl) ?_ ?_
  rotate_left
  · intro W hW; have hW0 := Ext.trans Ew4.out hW; clear hW; go_simp <;> with_reducible rfl
  try simp only [Act.put, List.setIfInBounds_toArray, List.set_cons_zero, List.set_cons_succ]
  refine ext_call (i := 6) rfl (by kernel_rfl) (by rfl) (fun K' hK => ?_)
  go_simp
  (go_at_call 33; (with_reducible refine (CW.out _ (Ext.trans EW3.out Ew4.out)).mono ?_); rintro e w5 ⟨rfl, hx⟩; refine hK _ _ hx ?_; clear hK)
  have Ew5 := Lib.hid (Ext.trans Ew4.out hx)
  clear hx
  try simp only [Act.put, List.setIfInBounds_toArray, List.set_cons_zero, List.set_cons_succ]
  refine ext_call (i := 8) rfl (by kernel_rfl) (by rfl) (fun K' hK => ?_)
  go_simp
  (go_at_call 34; (with_reducible refine (CRW.out _ (Ext.trans EW3.out Ew5.out)).mono ?_); rintro e w6 ⟨rfl, hx⟩; refine hK _ _ hx ?_; clear hK)
  have Ew6 := Lib.hid (Ext.trans Ew5.out hx)
  clear hx
  try simp only [Act.put, List.setIfInBounds_toArray, List.set_cons_zero, List.set_cons_succ]
  refine ext_take (i := 9) (v := .bool false) rfl (by kernel_rfl) (by kernel_rfl) (by kernel_rfl) (fun _ _ _ h => h) (by rfl) ?_ ?_
  · intro W hW; have hW0 := Ext.trans Ew6.out hW; clear hW; go_simp; all_goals (first | done | simp)
  try simp only [Act.put, List.setIfInBounds_toArray, List.set_cons_zero, List.set_cons_succ]
  refine ext_take (i := 10) (v := ?_) rfl (by kernel_rfl) (by kernel_rfl) (by kernel_rfl) (fun _ _ _ h => h) (by rfl) ?_ ?_
  rotate_left
  · intro W hW; have hW0 := Ext.trans Ew6.out hW; clear hW; go_simp <;> with_reducible rfl
  try simp only [Act.put, List.setIfInBounds_toArray, List.set_cons_zero, List.set_cons_succ]
  refine ext_take (i := 11) (v := ?_) rfl (by kernel_rfl) (by kernel_rfl) (by kernel_rfl) (fun _ _ _ h => h) (by rfl) ?_ ?_
  rotate_left
  · intro W hW; have hW0 := Ext.trans Ew6.out hW; clear hW; go_simp <;> with_reducible rfl
  try simp only [Act.put, List.setIfInBounds_toArray, List.set_cons_zero, List.set_cons_succ]
  refine ext_take (i := 12) (v := ?_) rfl (by kernel_rfl) (by kernel_rfl) (by kernel_rfl) (fun _ _ _ h => h) (by rfl) ?_ ?_
  rotate_left
  · intro W hW; have hW0 := Ext.trans Ew6.out hW; clear hW; go_simp <;> with_reducible rfl
  try simp only [Act.put, List.setIfInBounds_toArray, List.set_cons_zero, List.set_cons_succ]
  refine ext_take (i := 13) (v := ?_) rfl (by kernel_rfl) (by kernel_rfl) (by kernel_rfl) (fun _ _ _ h => h) (by rfl) ?_ ?_
  rotate_left
  · intro W hW; have hW0 := Ext.trans Ew6.out hW; clear hW; go_simp <;> with_reducible rfl
  try simp only [Act.put, List.setIfInBounds_toArray, List.set_cons_zero, List.set_cons_succ]
  refine ext_take (i := 14) (v := ?_) rfl (by kernel_rfl) (by kernel_rfl) (by kernel_rfl) (fun _ _ _ h => h) (by rfl) ?_ ?_
  rotate_left
  · intro W hW; have hW0 := Ext.trans Ew6.out hW; clear hW; go_simp <;> with_reducible rfl
  try simp only [Act.put, List.setIfInBounds_toArray, List.set_cons_zero, List.set_cons_succ]
  refine ext_take (i := 15) (v := ?_) rfl (by kernel_rfl) (by kernel_rfl) (by kernel_rfl) (fun _ _ _ h => h) (by rfl) ?_ ?_
  rotate_left
  · intro W hW; have hW0 := Ext.trans Ew6.out hW; clear hW; go_simp <;> with_reducible rfl
  try simp only [Act.put, List.setIfInBounds_toArray, List.set_cons_zero, List.set_cons_succ]
  refine ext_take (i := 16) (v := ?_) rfl (by kernel_rfl) (by kernel_rfl) (by kernel_rfl) (fun _ _ _ h => h) (by rfl) ?_ ?_
  rotate_left
  · intro W hW; have hW0 := Ext.trans Ew6.out hW; clear hW; go_simp <;> with_reducible rfl
  try simp only [Act.put, List.setIfInBounds_toArray, List.set_cons_zero, List.set_cons_succ]
  refine ext_take (i := 17) (v := ?_) rfl (by kernel_rfl) (by kernel_rfl) (by kernel_rfl) (fun _ _ _ h => h) (by rfl) ?_ ?_
  rotate_left
  · intro W hW; have hW0 := Ext.trans Ew6.out hW; clear hW; go_simp <;> with_reducible rfl
  try simp only [Act.put, List.setIfInBounds_toArray, List.set_cons_zero, List.set_cons_succ]
  refine ext_take (i := 18) (v := ?_) rfl (by kernel_rfl) (by kernel_rfl) (by kernel_rfl) (fun _ _ _ h => h) (by rfl) ?_ ?_
  rotate_left
  · intro W hW; have hW0 := Ext.trans Ew6.out hW; clear hW; go_simp <;> with_reducible rfl
  try simp only [Act.put, List.setIfInBounds_toArray, List.set_cons_zero, List.set_cons_succ]
  refine ext_take (i := 19) (v := ?_) rfl (by kernel_rfl) (by kernel_rfl) (by kernel_rfl) (fun _ _ _ h => h) (by rfl) ?_ ?_
  rotate_left
  · intro W hW; have hW0 := Ext.trans Ew6.out hW; clear hW; go_simp <;> with_reducible rfl
  try simp only [Act.put, List.setIfInBounds_toArray, List.set_cons_zero, List.set_cons_succ]
  refine ext_take (i := 20) (v := ?_) rfl (by kernel_rfl) (by kernel_rfl) (by kernel_rfl) (fun _ _ _ h => h) (by rfl) ?_ ?_
  rotate_left
  · intro W hW; have hW0 := Ext.trans Ew6.out hW; clear hW; go_simp <;> with_reducible rfl
  try simp only [Act.put, List.setIfInBounds_toArray, List.set_cons_zero, List.set_cons_succ]
  refine ext_skip (i := 21) rfl (by kernel_rfl) (by kernel_rfl) (by kernel_rfl) (fun _ _ _ h => h) (by rfl) ?_
  try simp only [Act.put, List.setIfInBounds_toArray, List.set_cons_zero, List.set_cons_succ]
  refine ext_skip (i := 22) rfl (by kernel_rfl) (by kernel_rfl) (by kernel_rfl) (fun _ _ _ h => h) (by rfl) ?_
  try simp only [Act.put, List.setIfInBounds_toArray, List.set_cons_zero, List.set_cons_succ]
  refine ext_skip (i := 23) rfl (by kernel_rfl) (by kernel_rfl) (by kernel_rfl) (fun _ _ _ h => h) (by rfl) ?_
  try simp only [Act.put, List.setIfInBounds_toArray, List.set_cons_zero, List.set_cons_succ]
  refine ext_skip (i := 24) rfl (by kernel_rfl) (by kernel_rfl) (by kernel_rfl) (fun _ _ _ h => h) (by rfl) ?_
  try simp only [Act.put, List.setIfInBounds_toArray, List.set_cons_zero, List.set_cons_succ]
  refine ext_skip (i := 25) rfl (by kernel_rfl) (by kernel_rfl) (by kernel_rfl) (fun _ _ _ h => h) (by rfl) ?_
  try simp only [Act.put, List.setIfInBounds_toArray, List.set_cons_zero, List.set_cons_succ]
  refine ext_skip (i := 26) rfl (by kernel_rfl) (by kernel_rfl) (by kernel_rfl) (fun _ _ _ h => h) (by rfl) ?_
  try simp only [Act.put, List.setIfInBounds_toArray, List.set_cons_zero, List.set_cons_succ]
  refine ext_skip (i := 27) rfl (by kernel_rfl) (by kernel_rfl) (by kernel_rfl) (fun _ _ _ h => h) (by rfl) ?_
  try simp only [Act.put, List.setIfInBounds_toArray, List.set_cons_zero, List.set_cons_succ]
  refine ext_take (i := 28) (v := ?_) rfl (by kernel_rfl) (by kernel_rfl) (by kernel_rfl) (fun _ _ _ h => h) (by rfl) ?_ ?_
  rotate_left
  · intro W hW; have hW0 := Ext.trans Ew6.out hW; clear hW; go_simp <;> with_reducible rfl
  try simp only [Act.put, List.setIfInBounds_toArray, List.set_cons_zero, List.set_cons_succ]
  refine ext_take (i := 29) (v := ?_) rfl (by kernel_rfl) (by kernel_rfl) (by kernel_rfl) (fun _ _ _ h => h) (by rfl) ?_ ?_
  rotate_left
  · intro W hW; have hW0 := Ext.trans Ew6.out hW; clear hW; go_simp <;> with_reducible rfl
  try simp only [Act.put, List.setIfInBounds_toArray, List.set_cons_zero, List.set_cons_succ]
  refine ext_take (i := 30) (v := ?_) rfl (by kernel_rfl) (by kernel_rfl) (by kernel_rfl) (fun _ _ _ h => h) (by rfl) ?_ ?_
  rotate_left
  · intro W hW; have hW0 := Ext.trans Ew6.out hW; clear hW; go_simp <;> with_reducible rfl
  try simp only [Act.put, List.setIfInBounds_toArray, List.set_cons_zero, List.set_cons_succ]
  refine ext_take (i := 31) (v := ?_) rfl (by kernel_rfl) (by kernel_rfl) (by kernel_rfl) (fun _ _ _ h => h) (by rfl) ?_ ?_
  rotate_left
  · intro W hW; have hW0 := Ext.trans Ew6.out hW; clear hW; go_simp <;> with_reducible rfl
  try simp only [Act.put, List.setIfInBounds_toArray, List.set_cons_zero, List.set_cons_succ]
  refine ext_take (i := 32) (v := ?_) rfl (by kernel_rfl) (by kernel_rfl) (by kernel_rfl) (fun _ _ _ h => h) (by rfl) ?_ ?_
  rotate_left
  · intro W hW; have hW0 := Ext.trans Ew6.out hW; clear hW; go_simp <;> with_reducible rfl
  try simp only [Act.put, List.setIfInBounds_toArray, List.set_cons_zero, List.set_cons_succ]
  refine ext_take (i := 33) (v := ?_) rfl (by kernel_rfl) (by kernel_rfl) (by kernel_rfl) (fun _ _ _ h => h) (by rfl) ?_ ?_
  rotate_left
  · intro W hW; have hW0 := Ext.trans Ew6.out hW; clear hW; go_simp <;> with_reducible rfl
  try simp only [Act.put, List.setIfInBounds_toArray, List.set_cons_zero, List.set_cons_succ]
  refine ext_take (i := 34) (v := .string sb) rfl (by kernel_rfl) (by kernel_rfl) (by kernel_rfl) (fun _ _ _ h => h) (by rfl) ?_ ?_
  · intro W hW; have hW0 := Ext.trans Ew6.out hW; clear hW; have hh := hcv W hW0; go_simp; all_goals (first | exact hh | (rw [hh]; done) | (rw [hh]; rfl))
  try simp only [Act.put, List.setIfInBounds_toArray, List.set_cons_zero, List.set_cons_succ]
  refine ext_take (i := 35) (v := ?_) rfl (by kernel_rfl) (by kernel_rfl) (by kernel_rfl) (fun _ _ _ h => h) (by rfl) ?_ ?_
  rotate_left
  · intro W hW; have hW0 := Ext.trans Ew6.out hW; clear hW; go_simp <;> with_reducible rfl
  try simp only [Act.put, List.setIfInBounds_toArray, List.set_cons_zero, List.set_cons_succ]
  refine ext_call (i := 36) rfl (by kernel_rfl) (by rfl) (fun K' hK => ?_)
  go_simp
  (go_at_call 35; (with_reducible refine (CRP.out _ (Ext.trans EW3.out Ew6.out)).mono ?_); rintro e w7 ⟨rfl, hx⟩; refine hK _ _ hx ?_; clear hK)
  have Ew7 := Lib.hid (Ext.trans Ew6.out hx)
  clear hx
  try simp only [Act.put, List.setIfInBounds_toArray, List.set_cons_zero, List.set_cons_succ]
  refine ext_take (i := 37) (v := ?_) rfl (by kernel_rfl) (by kernel_rfl) (by kernel_rfl) (fun _ _ _ h => h) (by rfl) ?_ ?_
  rotate_left
  · intro W hW; have hW0 := Ext.trans Ew7.out hW; clear hW; go_simp <;> with_reducible rfl
  try simp only [Act.put, List.setIfInBounds_toArray, List.set_cons_zero, List.set_cons_succ]
  refine ext_take (i := 38) (v := ?_) rfl (by kernel_rfl) (by kernel_rfl) (by kernel_rfl) (fun _ _ _ h => h) (by rfl) ?_ ?_
  rotate_left
  · intro W hW; have hW0 := Ext.trans Ew7.out hW; clear hW; go_simp <;> with_reducible rfl
  try simp only [Act.put, List.setIfInBounds_toArray, List.set_cons_zero, List.set_cons_succ]
  refine ext_take (i := 39) (v := ?_) rfl (by kernel_rfl) (by kernel_rfl) (by kernel_rfl) (fun _ _ _ h => h) (by rfl) ?_ ?_
  rotate_left
  · intro W hW; have hW0 := Ext.trans Ew7.out hW; clear hW; go_simp <;> with_reducible rfl
  try simp only [Act.put, List.setIfInBounds_toArray, List.set_cons_zero, List.set_cons_succ]
  refine wpAnyH_done (by kernel_rfl) ?_ _
  have Ew7 := Lib.hid (Ext.trans EW3.out Ew7.out)
  have EX := Lib.hid (Ew7.out)
  have ex := EX.out
  clear Ew7 hcv
  go_wp2_with (first
    | (go_at_call 36; (with_reducible refine (CG.out _ ex).mono ?_); rintro e w8 ⟨yc, ys, yk, yi, ym, yd, ec, hg, rfl, hx⟩; have HG := Lib.hid hg; have E8 := Lib.hid (Ext.trans ex hx); have hcb : (convert 54 9 (.slice A n cap)).run Try.prog (w8.alloc (.cells #[.int .i64 (yc : Int), .int .i64 (ys : Int), .int .i64 (yk : Int), .int .i64 (yi : Int), .int .i64 (ym : Int), .string yd] 30)) = .ok (.string tl) (w8.alloc (.cells #[.int .i64 (yc : Int), .int .i64 (ys : Int), .int .i64 (yk : Int), .int .i64 (yi : Int), .int .i64 (ym : Int), .string yd] 30)) := HCB.out _ (Ext.trans E8.out (Ext.alloc _ _)); clear hg hx)
    | (go_at_call 37; (with_reducible refine (CRG.out _ _ _ _ _ _ _ _ HG.out).mono ?_); rintro e w9 ⟨rfl, hx⟩; have XY9 : Hid (Ext (w8.alloc (.cells #[.int .i64 (yc : Int), .int .i64 (ys : Int), .int .i64 (yk : Int), .int .i64 (yi : Int), .int .i64 (ym : Int), .string yd] 30)) w9) := hx; clear hx)
    | (go_at_call 29; (with_reducible refine (HT.out _ (Ext.trans (Ext.trans E8.out (Ext.trans (Ext.alloc _ _) XY9.out)) (Ext.alloc _ _))).mono ?_); rintro e w11 ⟨rfl, hx⟩; have ky := ((Blk.new w8 30 #[.int .i64 (yc : Int), .int .i64 (ys : Int), .int .i64 (yk : Int), .int .i64 (yi : Int), .int .i64 (ym : Int), .string yd]).stay XY9.out).stay (Ext.trans (Ext.alloc _ _) hx); have kz := (Blk.new w9 30 #[.int .i64 (yc : Int), .int .i64 (ys : Int), .int .i64 (yk : Int), .int .i64 (yi : Int), .int .i64 (ym : Int), .string yd]).stay hx; have cy0 := ky.cell 0; have cz0 := kz.cell 0; have cy1 := ky.cell 1; have cz1 := kz.cell 1; have cy2 := ky.cell 2; have cz2 := kz.cell 2; have cy3 := ky.cell 3; have cz3 := kz.cell 3; have cy4 := ky.cell 4; have cz4 := kz.cell 4; have cy5 := ky.cell 5; have cz5 := kz.cell 5; simp at cy0 cz0 cy1 cz1 cy2 cz2 cy3 cz3 cy4 cz4 cy5 cz5; have E11 := Lib.hid (Ext.trans (Ext.trans (Ext.trans E8.out (Ext.trans (Ext.alloc _ _) XY9.out)) (Ext.alloc _ _)) hx); clear hx ky kz))
  try go_ret
  exact hD.out _ _ ⟨rfl, Ext.trans HX0.out E11.out⟩

set_option maxRecDepth 8000 in
set_option maxHeartbeats 16000000 in
theorem reqs_false (c s k i m : Int) (d : ByteArray) (hm : mayReqB c s k i m d.size = false) (A : Option Addr) (cap n : Nat) (l : List UInt8) (w : World) (hd : d.size ≤ 300) (hn : n = l.length) (hl : l.length ≤ 300) (hsl : Sl Go.Proofs.Ytdbnaflaobncgaa.u8 w A l) :
    Calls Try.prog 7 #[.agg #[.int .i64 c, .int .i64 s, .int .i64 k, .int .i64 i, .int .i64 m, .string d], .slice A n cap] w fun e w' => e = .returned (.bool true) ∧ Below w.heap.size w w' := by
  refine hide_post fun D hD => ?_
  obtain ⟨W0, hW0⟩ : ∃ W0, W0 = w.alloc (.cells #[.int .i64 c, .int .i64 s, .int .i64 k, .int .i64 i, .int .i64 m, .string d] 30) := ⟨_, rfl⟩
  have kB : Blk W0 w.heap.size 30 #[.int .i64 c, .int .i64 s, .int .i64 k, .int .i64 i, .int .i64 m, .string d] := by rw [hW0]; exact Blk.new _ _ _
  have hx0 : Ext w W0 := by rw [hW0]; exact Ext.alloc _ _
  have HW0 := Lib.hid hW0
  have HX0 := Lib.hid hx0
  have fz0 : ∀ V, Ext W0 V → V.cell? ⟨w.heap.size, 0, none⟩ = some (.int .i64 c) := fun V h => (kB.stay h).cell 0
  have fz1 : ∀ V, Ext W0 V → V.cell? ⟨w.heap.size, 1, none⟩ = some (.int .i64 s) := fun V h => (kB.stay h).cell 1
  have fz2 : ∀ V, Ext W0 V → V.cell? ⟨w.heap.size, 2, none⟩ = some (.int .i64 k) := fun V h => (kB.stay h).cell 2
  have fz3 : ∀ V, Ext W0 V → V.cell? ⟨w.heap.size, 3, none⟩ = some (.int .i64 i) := fun V h => (kB.stay h).cell 3
  have fz4 : ∀ V, Ext W0 V → V.cell? ⟨w.heap.size, 4, none⟩ = some (.int .i64 m) := fun V h => (kB.stay h).cell 4
  have fz5 : ∀ V, Ext W0 V → V.cell? ⟨w.heap.size, 5, none⟩ = some (.string d) := fun V h => (kB.stay h).cell 5
  have E0 : Hid (Ext W0 W0) := Ext.refl _
  have HT : Hid (∀ V, Ext W0 V → Calls Try.prog 29 #[] V fun e w' => e = .returned (.bool true) ∧ Ext V w') := fun V _ => told2 V
  have hdm : d.size ≤ maxLen := by unfold maxLen; omega
  obtain ⟨tl, htl⟩ : ∃ z, z = str l := ⟨_, rfl⟩
  have CF : Hid (∀ V, Ext W0 V → Calls Try.prog 28 #[.agg #[.int .i64 c, .int .i64 s, .int .i64 k, .int .i64 i, .int .i64 m, .string d]] V fun e w' => e = .returned (.bool true) ∧ Ext V w') := fun V _ => by have h := few_any c s k i m d V hdm; rw [decide_eq_true hd] at h; exact h
  have CM : Hid (∀ V, Ext W0 V → Calls Try.prog 32 #[.agg #[.int .i64 c, .int .i64 s, .int .i64 k, .int .i64 i, .int .i64 m, .string d]] V fun e w' => e = .returned (.bool false) ∧ Ext V w') := fun V _ => by rw [← hm]; exact mayReq_any c s k i m d V hdm
  have CRM : Hid (∀ V, Ext W0 V → Calls Try.prog 30 #[.agg #[.int .i64 c, .int .i64 s, .int .i64 k, .int .i64 i, .int .i64 m, .string d]] V fun e w' => e = .returned (.bool false) ∧ Ext V w') := fun V _ => by rw [← hm]; exact refMayReq_any c s k i m d V hdm
  have CP : Hid (∀ V, Ext W0 V → Calls Try.prog 31 #[.agg #[.int .i64 c, .int .i64 s, .int .i64 k, .int .i64 i, .int .i64 m, .string d]] V fun e w' => e = .returned (.tuple #[.slice none 0 0, .int .i64 1]) ∧ Ext V w') := fun V _ => putReq_no c s k i m d V hdm hm
  obtain ⟨u, hu⟩ : ∃ u, u = decide (k = 1 ∨ k = 2 ∨ k = 3) := ⟨_, rfl⟩
  have CW : Hid (∀ V, Ext W0 V → Calls Try.prog 33 #[.agg #[.int .i64 c, .int .i64 s, .int .i64 k, .int .i64 i, .int .i64 m, .string d]] V fun e w' => e = .returned (.bool u) ∧ Ext V w') := fun V _ => by rw [hu]; exact writes_any c s k i m d V
  have CRW : Hid (∀ V, Ext W0 V → Calls Try.prog 34 #[.agg #[.int .i64 c, .int .i64 s, .int .i64 k, .int .i64 i, .int .i64 m, .string d]] V fun e w' => e = .returned (.bool u) ∧ Ext V w') := fun V _ => by rw [hu]; exact refWrites_any c s k i m d V
  have CG : Hid (∀ V, Ext W0 V → Calls Try.prog 36 #[.slice A n cap] V fun e w' => ∃ (yc ys yk yi ym : Nat) (yd : ByteArray) (ec : Int), GotQ l ⟨yc, ys, yk, yi, ym, yd⟩ ec ∧ e = .returned (.tuple #[.agg #[.int .i64 (yc : Int), .int .i64 (ys : Int), .int .i64 (yk : Int), .int .i64 (yi : Int), .int .i64 (ym : Int), .string yd], .int .i64 ec]) ∧ Ext V w') := fun V hV => by
    rw [hn]
    refine (getReq_any A cap l V (hsl.stay (Ext.trans hx0 hV)) (by omega)).mono ?_
    rintro e w' ⟨⟨yc, ys, yk, yi, ym, yd⟩, ec, h1, h2, h3⟩
    exact ⟨yc, ys, yk, yi, ym, yd, ec, h1, h2, h3⟩
  have CRG : Hid (∀ V (yc ys yk yi ym : Nat) (yd : ByteArray) (ec : Int), GotQ l ⟨yc, ys, yk, yi, ym, yd⟩ ec → Calls Try.prog 37 #[.string tl] V fun e w' => e = .returned (.tuple #[.agg #[.int .i64 (yc : Int), .int .i64 (ys : Int), .int .i64 (yk : Int), .int .i64 (yi : Int), .int .i64 (ym : Int), .string yd], .int .i64 ec]) ∧ Ext V w') := fun V yc ys yk yi ym yd ec h => by
    rw [htl]
    refine (refGetReq_any l V (by omega)).mono ?_
    rintro e w' ⟨q', ec', h1, h2, h3⟩
    obtain ⟨rfl, rfl⟩ := GotQ.det h h1
    exact ⟨h2, h3⟩
  have HCB : Hid (∀ V, Ext W0 V → (convert 54 9 (.slice A n cap)).run Try.prog V = .ok (.string tl) V) := fun V hV => by
    have := run_str (P := Try.prog) (w := V) 54 9 5 A l cap Try.underlying54 Try.underlying5 Try.underlying9 (hsl.stay (Ext.trans hx0 hV))
    rw [hn, htl]
    exact this
  have g3 : ¬ (300 : Int) < (n : Int) := by omega
  clear kB hx0 hW0  hu htl hdm hm hd hn hl hsl
  go_enter Try.func7, Try.ntmps7
  go_wp2_with fail
  rw [← HW0.out]
  have e0 := E0.out
  have W0z0 := fz0 W0 E0.out; have W0z1 := fz1 W0 E0.out; have W0z2 := fz2 W0 E0.out; have W0z3 := fz3 W0 E0.out; have W0z4 := fz4 W0 E0.out; have W0z5 := fz5 W0 E0.out
  go_wp2_with (first
    | (go_at_call 28; (with_reducible refine (CF.out _ e0).mono ?_); rintro e w1 ⟨rfl, hx⟩; have Ew1 : Ext W0 w1 := Ext.trans e0 hx; have w1z0 := fz0 w1 Ew1; have w1z1 := fz1 w1 Ew1; have w1z2 := fz2 w1 Ew1; have w1z3 := fz3 w1 Ew1; have w1z4 := fz4 w1 Ew1; have w1z5 := fz5 w1 Ew1; clear hx)
    | (go_at_call 30; (with_reducible refine (CRM.out _ Ew1).mono ?_); rintro e w2 ⟨rfl, hx⟩; have Ew2 : Ext W0 w2 := Ext.trans Ew1 hx; have w2z0 := fz0 w2 Ew2; have w2z1 := fz1 w2 Ew2; have w2z2 := fz2 w2 Ew2; have w2z3 := fz3 w2 Ew2; have w2z4 := fz4 w2 Ew2; have w2z5 := fz5 w2 Ew2; clear hx)
    | (go_at_call 31; (with_reducible refine (CP.out _ Ew2).mono ?_); rintro e w3 ⟨rfl, hx⟩; have Ew3 : Ext W0 w3 := Ext.trans Ew2 hx; have w3z0 := fz0 w3 Ew3; have w3z1 := fz1 w3 Ew3; have w3z2 := fz2 w3 Ew3; have w3z3 := fz3 w3 Ew3; have w3z4 := fz4 w3 Ew3; have w3z5 := fz5 w3 Ew3; clear hx))
  have EW3 := Lib.hid Ew3
  clear W0z0 W0z1 W0z2 W0z3 W0z4 W0z5 w1z0 w1z1 w1z2 w1z3 w1z4 w1z5 w2z0 w2z1 w2z2 w2z3 w2z4 w2z5 w3z0 w3z1 w3z2 w3z3 w3z4 w3z5 Ew3
  refine ext_begin (by kernel_rfl) ?_
  have EW3d := Lib.hid (Ext.drewR EW3.out)
  refine ext_take (i := 0) (v := ?_) rfl (by kernel_rfl) (by kernel_rfl) (by kernel_rfl) (fun _ _ _ h => h) (by rfl) ?_ ?_
  rotate_left
  · intro W hW; have hW0 := Ext.trans EW3d.out hW; clear hW; go_simp <;> with_reducible rfl
  try simp only [Act.put, List.setIfInBounds_toArray, List.set_cons_zero, List.set_cons_succ]
  refine ext_take (i := 2) (v := ?_) rfl (by kernel_rfl) (by kernel_rfl) (by kernel_rfl) (fun _ _ _ h => h) (by rfl) ?_ ?_
  rotate_left
  · intro W hW; have hW0 := Ext.trans EW3d.out hW; clear hW; go_simp <;> with_reducible rfl
  try simp only [Act.put, List.setIfInBounds_toArray, List.set_cons_zero, List.set_cons_succ]
  refine ext_call (i := 1) rfl (by kernel_rfl) (by rfl) (fun K' hK => ?_)
  go_simp
  (go_at_call 32; (with_reducible refine (CM.out _ EW3d.out).mono ?_); rintro e w4 ⟨rfl, hx⟩; refine hK _ _ hx ?_; clear hK)
  have Ew4 := Lib.hid (Ext.trans EW3d.out hx)
  clear hx
  try simp only [Act.put, List.setIfInBounds_toArray, List.set_cons_zero, List.set_cons_succ]
  refine ext_take (i := 3) (v := ?_) rfl (by kernel_rfl) (by kernel_rfl) (by kernel_rfl) (fun _ _ _ h => h) (by rfl) ?_ ?_
  rotate_left
  · intro W hW; have hW0 := Ext.trans Ew4.out hW; clear hW; go_simp <;> with_reducible rfl
  try simp only [Act.put, List.setIfInBounds_toArray, List.set_cons_zero, List.set_cons_succ]
  refine ext_take (i := 4) (v := ?_) rfl (by kernel_rfl) (by kernel_rfl) (by kernel_rfl) (fun _ _ _ h => h) (by rfl) ?_ ?_
  rotate_left
  · intro W hW; have hW0 := Ext.trans Ew4.out hW; clear hW; go_simp <;> with_reducible rfl
  try simp only [Act.put, List.setIfInBounds_toArray, List.set_cons_zero, List.set_cons_succ]
  refine ext_take (i := 5) (v := ?_) rfl (by kernel_rfl) (by kernel_rfl) (by kernel_rfl) (fun _ _ _ h => h) (by rfl) ?_ ?_
  rotate_left
  · intro W hW; have hW0 := Ext.trans Ew4.out hW; clear hW; go_simp <;> with_reducible rfl
  try simp only [Act.put, List.setIfInBounds_toArray, List.set_cons_zero, List.set_cons_succ]
  refine ext_take (i := 7) (v := ?_) rfl (by kernel_rfl) (by kernel_rfl) (by kernel_rfl) (fun _ _ _ h => h) (by rfl) ?_ ?_
  rotate_left
  · intro W hW; have hW0 := Ext.trans Ew4.out hW; clear hW; go_simp <;> with_reducible rfl
  try simp only [Act.put, List.setIfInBounds_toArray, List.set_cons_zero, List.set_cons_succ]
  refine ext_call (i := 6) rfl (by kernel_rfl) (by rfl) (fun K' hK => ?_)
  go_simp
  (go_at_call 33; (with_reducible refine (CW.out _ Ew4.out).mono ?_); rintro e w5 ⟨rfl, hx⟩; refine hK _ _ hx ?_; clear hK)
  have Ew5 := Lib.hid (Ext.trans Ew4.out hx)
  clear hx
  try simp only [Act.put, List.setIfInBounds_toArray, List.set_cons_zero, List.set_cons_succ]
  refine ext_call (i := 8) rfl (by kernel_rfl) (by rfl) (fun K' hK => ?_)
  go_simp
  (go_at_call 34; (with_reducible refine (CRW.out _ Ew5.out).mono ?_); rintro e w6 ⟨rfl, hx⟩; refine hK _ _ hx ?_; clear hK)
  have Ew6 := Lib.hid (Ext.trans Ew5.out hx)
  clear hx
  try simp only [Act.put, List.setIfInBounds_toArray, List.set_cons_zero, List.set_cons_succ]
  refine ext_take (i := 9) (v := .bool false) rfl (by kernel_rfl) (by kernel_rfl) (by kernel_rfl) (fun _ _ _ h => h) (by rfl) ?_ ?_
  · intro W hW; have hW0 := Ext.trans Ew6.out hW; clear hW; go_simp; all_goals (first | done | simp)
  try simp only [Act.put, List.setIfInBounds_toArray, List.set_cons_zero, List.set_cons_succ]
  refine ext_take (i := 10) (v := ?_) rfl (by kernel_rfl) (by kernel_rfl) (by kernel_rfl) (fun _ _ _ h => h) (by rfl) ?_ ?_
  rotate_left
  · intro W hW; have hW0 := Ext.trans Ew6.out hW; clear hW; go_simp <;> with_reducible rfl
  try simp only [Act.put, List.setIfInBounds_toArray, List.set_cons_zero, List.set_cons_succ]
  refine ext_take (i := 11) (v := ?_) rfl (by kernel_rfl) (by kernel_rfl) (by kernel_rfl) (fun _ _ _ h => h) (by rfl) ?_ ?_
  rotate_left
  · intro W hW; have hW0 := Ext.trans Ew6.out hW; clear hW; go_simp <;> with_reducible rfl
  try simp only [Act.put, List.setIfInBounds_toArray, List.set_cons_zero, List.set_cons_succ]
  refine ext_take (i := 12) (v := ?_) rfl (by kernel_rfl) (by kernel_rfl) (by kernel_rfl) (fun _ _ _ h => h) (by rfl) ?_ ?_
  rotate_left
  · intro W hW; have hW0 := Ext.trans Ew6.out hW; clear hW; go_simp <;> with_reducible rfl
  try simp only [Act.put, List.setIfInBounds_toArray, List.set_cons_zero, List.set_cons_succ]
  refine ext_take (i := 13) (v := ?_) rfl (by kernel_rfl) (by kernel_rfl) (by kernel_rfl) (fun _ _ _ h => h) (by rfl) ?_ ?_
  rotate_left
  · intro W hW; have hW0 := Ext.trans Ew6.out hW; clear hW; go_simp <;> with_reducible rfl
  try simp only [Act.put, List.setIfInBounds_toArray, List.set_cons_zero, List.set_cons_succ]
  refine ext_take (i := 14) (v := ?_) rfl (by kernel_rfl) (by kernel_rfl) (by kernel_rfl) (fun _ _ _ h => h) (by rfl) ?_ ?_
  rotate_left
  · intro W hW; have hW0 := Ext.trans Ew6.out hW; clear hW; go_simp <;> with_reducible rfl
  try simp only [Act.put, List.setIfInBounds_toArray, List.set_cons_zero, List.set_cons_succ]
  refine ext_take (i := 15) (v := ?_) rfl (by kernel_rfl) (by kernel_rfl) (by kernel_rfl) (fun _ _ _ h => h) (by rfl) ?_ ?_
  rotate_left
  · intro W hW; have hW0 := Ext.trans Ew6.out hW; clear hW; go_simp <;> with_reducible rfl
  try simp only [Act.put, List.setIfInBounds_toArray, List.set_cons_zero, List.set_cons_succ]
  refine ext_take (i := 16) (v := ?_) rfl (by kernel_rfl) (by kernel_rfl) (by kernel_rfl) (fun _ _ _ h => h) (by rfl) ?_ ?_
  rotate_left
  · intro W hW; have hW0 := Ext.trans Ew6.out hW; clear hW; go_simp <;> with_reducible rfl
  try simp only [Act.put, List.setIfInBounds_toArray, List.set_cons_zero, List.set_cons_succ]
  refine ext_take (i := 17) (v := ?_) rfl (by kernel_rfl) (by kernel_rfl) (by kernel_rfl) (fun _ _ _ h => h) (by rfl) ?_ ?_
  rotate_left
  · intro W hW; have hW0 := Ext.trans Ew6.out hW; clear hW; go_simp <;> with_reducible rfl
  try simp only [Act.put, List.setIfInBounds_toArray, List.set_cons_zero, List.set_cons_succ]
  refine ext_take (i := 18) (v := ?_) rfl (by kernel_rfl) (by kernel_rfl) (by kernel_rfl) (fun _ _ _ h => h) (by rfl) ?_ ?_
  rotate_left
  · intro W hW; have hW0 := Ext.trans Ew6.out hW; clear hW; go_simp <;> with_reducible rfl
  try simp only [Act.put, List.setIfInBounds_toArray, List.set_cons_zero, List.set_cons_succ]
  refine ext_take (i := 19) (v := ?_) rfl (by kernel_rfl) (by kernel_rfl) (by kernel_rfl) (fun _ _ _ h => h) (by rfl) ?_ ?_
  rotate_left
  · intro W hW; have hW0 := Ext.trans Ew6.out hW; clear hW; go_simp <;> with_reducible rfl
  try simp only [Act.put, List.setIfInBounds_toArray, List.set_cons_zero, List.set_cons_succ]
  refine ext_take (i := 20) (v := ?_) rfl (by kernel_rfl) (by kernel_rfl) (by kernel_rfl) (fun _ _ _ h => h) (by rfl) ?_ ?_
  rotate_left
  · intro W hW; have hW0 := Ext.trans Ew6.out hW; clear hW; go_simp <;> with_reducible rfl
  try simp only [Act.put, List.setIfInBounds_toArray, List.set_cons_zero, List.set_cons_succ]
  refine ext_take (i := 21) (v := ?_) rfl (by kernel_rfl) (by kernel_rfl) (by kernel_rfl) (fun _ _ _ h => h) (by rfl) ?_ ?_
  rotate_left
  · intro W hW; have hW0 := Ext.trans Ew6.out hW; clear hW; go_simp <;> with_reducible rfl
  try simp only [Act.put, List.setIfInBounds_toArray, List.set_cons_zero, List.set_cons_succ]
  refine ext_take (i := 22) (v := ?_) rfl (by kernel_rfl) (by kernel_rfl) (by kernel_rfl) (fun _ _ _ h => h) (by rfl) ?_ ?_
  rotate_left
  · intro W hW; have hW0 := Ext.trans Ew6.out hW; clear hW; go_simp <;> with_reducible rfl
  try simp only [Act.put, List.setIfInBounds_toArray, List.set_cons_zero, List.set_cons_succ]
  refine ext_take (i := 23) (v := ?_) rfl (by kernel_rfl) (by kernel_rfl) (by kernel_rfl) (fun _ _ _ h => h) (by rfl) ?_ ?_
  rotate_left
  · intro W hW; have hW0 := Ext.trans Ew6.out hW; clear hW; go_simp <;> with_reducible rfl
  try simp only [Act.put, List.setIfInBounds_toArray, List.set_cons_zero, List.set_cons_succ]
  refine ext_take (i := 24) (v := ?_) rfl (by kernel_rfl) (by kernel_rfl) (by kernel_rfl) (fun _ _ _ h => h) (by rfl) ?_ ?_
  rotate_left
  · intro W hW; have hW0 := Ext.trans Ew6.out hW; clear hW; go_simp <;> with_reducible rfl
  try simp only [Act.put, List.setIfInBounds_toArray, List.set_cons_zero, List.set_cons_succ]
  refine ext_take (i := 25) (v := ?_) rfl (by kernel_rfl) (by kernel_rfl) (by kernel_rfl) (fun _ _ _ h => h) (by rfl) ?_ ?_
  rotate_left
  · intro W hW; have hW0 := Ext.trans Ew6.out hW; clear hW; go_simp <;> with_reducible rfl
  try simp only [Act.put, List.setIfInBounds_toArray, List.set_cons_zero, List.set_cons_succ]
  refine ext_take (i := 26) (v := ?_) rfl (by kernel_rfl) (by kernel_rfl) (by kernel_rfl) (fun _ _ _ h => h) (by rfl) ?_ ?_
  rotate_left
  · intro W hW; have hW0 := Ext.trans Ew6.out hW; clear hW; go_simp <;> with_reducible rfl
  try simp only [Act.put, List.setIfInBounds_toArray, List.set_cons_zero, List.set_cons_succ]
  refine ext_take (i := 27) (v := ?_) rfl (by kernel_rfl) (by kernel_rfl) (by kernel_rfl) (fun _ _ _ h => h) (by rfl) ?_ ?_
  rotate_left
  · intro W hW; have hW0 := Ext.trans Ew6.out hW; clear hW; go_simp <;> with_reducible rfl
  try simp only [Act.put, List.setIfInBounds_toArray, List.set_cons_zero, List.set_cons_succ]
  refine ext_take (i := 28) (v := ?_) rfl (by kernel_rfl) (by kernel_rfl) (by kernel_rfl) (fun _ _ _ h => h) (by rfl) ?_ ?_
  rotate_left
  · intro W hW; have hW0 := Ext.trans Ew6.out hW; clear hW; go_simp <;> with_reducible rfl
  try simp only [Act.put, List.setIfInBounds_toArray, List.set_cons_zero, List.set_cons_succ]
  refine ext_take (i := 29) (v := ?_) rfl (by kernel_rfl) (by kernel_rfl) (by kernel_rfl) (fun _ _ _ h => h) (by rfl) ?_ ?_
  rotate_left
  · intro W hW; have hW0 := Ext.trans Ew6.out hW; clear hW; go_simp <;> with_reducible rfl
  try simp only [Act.put, List.setIfInBounds_toArray, List.set_cons_zero, List.set_cons_succ]
  refine ext_take (i := 30) (v := ?_) rfl (by kernel_rfl) (by kernel_rfl) (by kernel_rfl) (fun _ _ _ h => h) (by rfl) ?_ ?_
  rotate_left
  · intro W hW; have hW0 := Ext.trans Ew6.out hW; clear hW; go_simp <;> with_reducible rfl
  try simp only [Act.put, List.setIfInBounds_toArray, List.set_cons_zero, List.set_cons_succ]
  refine ext_take (i := 31) (v := ?_) rfl (by kernel_rfl) (by kernel_rfl) (by kernel_rfl) (fun _ _ _ h => h) (by rfl) ?_ ?_
  rotate_left
  · intro W hW; have hW0 := Ext.trans Ew6.out hW; clear hW; go_simp <;> with_reducible rfl
  try simp only [Act.put, List.setIfInBounds_toArray, List.set_cons_zero, List.set_cons_succ]
  refine ext_take (i := 32) (v := ?_) rfl (by kernel_rfl) (by kernel_rfl) (by kernel_rfl) (fun _ _ _ h => h) (by rfl) ?_ ?_
  rotate_left
  · intro W hW; have hW0 := Ext.trans Ew6.out hW; clear hW; go_simp <;> with_reducible rfl
  try simp only [Act.put, List.setIfInBounds_toArray, List.set_cons_zero, List.set_cons_succ]
  refine ext_skip (i := 33) rfl (by kernel_rfl) (by kernel_rfl) (by kernel_rfl) (fun _ _ _ h => h) (by rfl) ?_
  try simp only [Act.put, List.setIfInBounds_toArray, List.set_cons_zero, List.set_cons_succ]
  refine ext_skip (i := 34) rfl (by kernel_rfl) (by kernel_rfl) (by kernel_rfl) (fun _ _ _ h => h) (by rfl) ?_
  try simp only [Act.put, List.setIfInBounds_toArray, List.set_cons_zero, List.set_cons_succ]
  refine ext_skip (i := 35) rfl (by kernel_rfl) (by kernel_rfl) (by kernel_rfl) (fun _ _ _ h => h) (by rfl) ?_
  try simp only [Act.put, List.setIfInBounds_toArray, List.set_cons_zero, List.set_cons_succ]
  refine ext_skip (i := 36) rfl (by kernel_rfl) (by kernel_rfl) (by kernel_rfl) (fun _ _ _ h => h) (by rfl) ?_
  try simp only [Act.put, List.setIfInBounds_toArray, List.set_cons_zero, List.set_cons_succ]
  refine ext_skip (i := 37) rfl (by kernel_rfl) (by kernel_rfl) (by kernel_rfl) (fun _ _ _ h => h) (by rfl) ?_
  try simp only [Act.put, List.setIfInBounds_toArray, List.set_cons_zero, List.set_cons_succ]
  refine ext_take (i := 38) (v := ?_) rfl (by kernel_rfl) (by kernel_rfl) (by kernel_rfl) (fun _ _ _ h => h) (by rfl) ?_ ?_
  rotate_left
  · intro W hW; have hW0 := Ext.trans Ew6.out hW; clear hW; go_simp <;> with_reducible rfl
  try simp only [Act.put, List.setIfInBounds_toArray, List.set_cons_zero, List.set_cons_succ]
  refine ext_take (i := 39) (v := ?_) rfl (by kernel_rfl) (by kernel_rfl) (by kernel_rfl) (fun _ _ _ h => h) (by rfl) ?_ ?_
  rotate_left
  · intro W hW; have hW0 := Ext.trans Ew6.out hW; clear hW; go_simp <;> with_reducible rfl
  try simp only [Act.put, List.setIfInBounds_toArray, List.set_cons_zero, List.set_cons_succ]
  refine wpAnyH_done (by kernel_rfl) ?_ _
  have EX := Lib.hid (Ew6.out)
  have ex := EX.out
  clear Ew6 
  go_wp2_with (first
    | (go_at_call 36; (with_reducible refine (CG.out _ ex).mono ?_); rintro e w8 ⟨yc, ys, yk, yi, ym, yd, ec, hg, rfl, hx⟩; have HG := Lib.hid hg; have E8 := Lib.hid (Ext.trans ex hx); have hcb : (convert 54 9 (.slice A n cap)).run Try.prog (w8.alloc (.cells #[.int .i64 (yc : Int), .int .i64 (ys : Int), .int .i64 (yk : Int), .int .i64 (yi : Int), .int .i64 (ym : Int), .string yd] 30)) = .ok (.string tl) (w8.alloc (.cells #[.int .i64 (yc : Int), .int .i64 (ys : Int), .int .i64 (yk : Int), .int .i64 (yi : Int), .int .i64 (ym : Int), .string yd] 30)) := HCB.out _ (Ext.trans E8.out (Ext.alloc _ _)); clear hg hx)
    | (go_at_call 37; (with_reducible refine (CRG.out _ _ _ _ _ _ _ _ HG.out).mono ?_); rintro e w9 ⟨rfl, hx⟩; have XY9 : Hid (Ext (w8.alloc (.cells #[.int .i64 (yc : Int), .int .i64 (ys : Int), .int .i64 (yk : Int), .int .i64 (yi : Int), .int .i64 (ym : Int), .string yd] 30)) w9) := hx; clear hx)
    | (go_at_call 29; (with_reducible refine (HT.out _ (Ext.trans (Ext.trans E8.out (Ext.trans (Ext.alloc _ _) XY9.out)) (Ext.alloc _ _))).mono ?_); rintro e w11 ⟨rfl, hx⟩; have ky := ((Blk.new w8 30 #[.int .i64 (yc : Int), .int .i64 (ys : Int), .int .i64 (yk : Int), .int .i64 (yi : Int), .int .i64 (ym : Int), .string yd]).stay XY9.out).stay (Ext.trans (Ext.alloc _ _) hx); have kz := (Blk.new w9 30 #[.int .i64 (yc : Int), .int .i64 (ys : Int), .int .i64 (yk : Int), .int .i64 (yi : Int), .int .i64 (ym : Int), .string yd]).stay hx; have cy0 := ky.cell 0; have cz0 := kz.cell 0; have cy1 := ky.cell 1; have cz1 := kz.cell 1; have cy2 := ky.cell 2; have cz2 := kz.cell 2; have cy3 := ky.cell 3; have cz3 := kz.cell 3; have cy4 := ky.cell 4; have cz4 := kz.cell 4; have cy5 := ky.cell 5; have cz5 := kz.cell 5; simp at cy0 cz0 cy1 cz1 cy2 cz2 cy3 cz3 cy4 cz4 cy5 cz5; have E11 := Lib.hid (Ext.trans (Ext.trans (Ext.trans E8.out (Ext.trans (Ext.alloc _ _) XY9.out)) (Ext.alloc _ _)) hx); clear hx ky kz))
  try go_ret
  exact hD.out _ _ ⟨rfl, Ext.trans HX0.out E11.out⟩

theorem rq_of {c s k i m : Int} {d : ByteArray} (h : mayReqB c s k i m d.size = true) : ∃ q : Rq, q.may = true ∧ (Value.agg #[.int .i64 c, .int .i64 s, .int .i64 k, .int .i64 i, .int .i64 m, .string d]) = q.val := by
  have h' := h
  unfold mayReqB at h'
  have h2 := of_decide_eq_true h'
  obtain ⟨c, rfl⟩ : ∃ n : Nat, c = n := ⟨c.toNat, by omega⟩
  obtain ⟨s, rfl⟩ : ∃ n : Nat, s = n := ⟨s.toNat, by omega⟩
  obtain ⟨k, rfl⟩ : ∃ n : Nat, k = n := ⟨k.toNat, by omega⟩
  obtain ⟨i, rfl⟩ : ∃ n : Nat, i = n := ⟨i.toNat, by omega⟩
  obtain ⟨m, rfl⟩ : ∃ n : Nat, m = n := ⟨m.toNat, by omega⟩
  exact ⟨⟨c, s, k, i, m, d⟩, h, rfl⟩

theorem walk_itemReqs (c s k i m : Int) (d : ByteArray) (A : Option Addr) (cap : Nat) (l : List UInt8) (w : World) (hd : d.size ≤ maxLen) (hl : l.length ≤ 9223372036854775807) (hsl : Sl Go.Proofs.Ytdbnaflaobncgaa.u8 w A l) :
    Calls Try.prog 7 #[.agg #[.int .i64 c, .int .i64 s, .int .i64 k, .int .i64 i, .int .i64 m, .string d], .slice A l.length cap] w fun e w' => e = .returned (.bool true) ∧ Below w.heap.size w w' := by
  by_cases hf : d.size ≤ 300
  · by_cases h3 : l.length ≤ 300
    · cases hm : mayReqB c s k i m d.size with
      | false => exact reqs_false c s k i m d hm A cap _ l w hf rfl h3 hsl
      | true =>
        obtain ⟨q, hq, e⟩ := rq_of hm
        rw [e]
        exact reqs_true q hq A cap _ l w rfl h3 hsl
    · exact reqs_no c s k i m d A cap _ w true hd (decide_eq_true hf) (fun _ => by omega)
  · exact reqs_no c s k i m d A cap _ w false hd (decide_eq_false hf) (fun h => by simp at h)

set_option maxRecDepth 100000 in
theorem law_itemReqs {H : Type} {enc : TypeId × Value → H} (W : World) (base : Nat) (args : Array Value) (ds : List (DataW H)) (p : List MemPlace)
    (hval : ∀ (j : Nat) t v, Try.f7.params[j]? = some t → args[j]? = some v → Value.okWide Try.prog W .any base t v)
    (hA : DataW.TrodAll enc Try.prog W 0 (fun _ => true) true Try.f7.params.toList args.toList ds p) :
    Calls Try.prog 7 args W fun e W' => e = .returned (.bool true) ∧ Below W.heap.size W W' := by
  rw [Try.params7] at hA hval
  obtain ⟨v0, vs0, d0, ds0, p0, q0, hargs, rfl, rfl, h0, r0⟩ := trodAll_cons hA
  obtain ⟨v1, vs1, d1, ds1, p1, q1, rfl, rfl, rfl, h1, r1⟩ := trodAll_cons r0
  obtain ⟨rfl, rfl, rfl⟩ := trodAll_nil r1
  obtain rfl : args = #[v0, v1] := by cases args; simp_all
  obtain ⟨c0, s0, k0, i0, m0, x0, rfl, wc0, ws0, wk0, wi0, wm0, z0⟩ := open_req (hval 0 30 v0 rfl rfl) h0
  obtain ⟨A1, n1, c1, rfl⟩ := okWide_slice Try.underlying54 (hval 1 54 v1 rfl rfl)
  obtain ⟨fuel1, hf1⟩ := h1
  obtain ⟨B1, e1, l1, hcs1, x1, y1, z1⟩ := trod_bytes_sl Try.underlying54 Try.underlying5 cells_byte hf1
  simp only [Value.cells, List.cons.injEq, Value.slice.injEq, and_true] at hcs1
  obtain ⟨rfl, rfl, rfl⟩ := hcs1
  exact walk_itemReqs c0 s0 k0 i0 m0 x0 A1 c1 l1 W z0 (Nat.le_trans x1 y1) z1

end Go.Proofs.Ytdbnaflaobncgaa
