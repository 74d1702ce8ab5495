/-
  What the program tells of a few (law 2).
-/
import Derived.Test.YtdbnaflaobncgaaItemGetReq
import Derived.Test.YtdbnaflaobncgaaItemGetC
import Derived.Test.YtdbnaflaobncgaaRefPutReq
namespace Go.Proofs.Ytdbnaflaobncgaa
set_option linter.unusedVariables false
set_option linter.unusedSimpArgs false
open Go.RowKit

theorem putB_len {q : Rq} (h : q.may = true) : (putB q).length ≤ 200 := by
  have hb := Rq.may_le h
  have h1 := numsB_len [q.c, q.s, q.k, q.i, q.m]
  have h2 : (numB q.d.size).length ≤ 10 := numF_len 10 q.d.size
  have h3 : q.d.data.toList.length = q.d.size := by rw [Array.length_toList]; rfl
  unfold putB textB
  rw [List.length_append, List.length_append]
  simp at h1
  omega
theorem putC_len {ep : Nat} {ns : List Nat} (h : mayChainB ep (ints ns) = true) : (putC ep ns).length ≤ 100 := by
  have hb := mayChainB_le h
  have h1 := numsB_len [ep, ns.length]
  have h2 := numsB_len ns
  unfold putC
  rw [List.length_append]
  simp at h1
  omega
theorem GotQ.nil {q : Rq} {e : Int} (h : GotQ [] q e) : q = Rq.zero ∧ e = 2 := by
  rcases h with ⟨h1, h2, h3⟩ | ⟨h1, h2, h3⟩
  · have := congrArg List.length h2
    unfold putB numsB at this
    have h := numB_ne q.c
    cases hc : numB q.c with
    | nil => exact absurd hc h
    | cons x r => rw [hc] at this; simp at this
  · exact ⟨h2, h3⟩
def q0 : Rq := ⟨1, 2, 1, 3, 0, ⟨#[120]⟩⟩

set_option maxRecDepth 8000 in
set_option maxHeartbeats 16000000 in
theorem told2 (w : World) : Calls Try.prog 29 #[] w fun e w' => e = .returned (.bool true) ∧ Ext w w' := by
  refine hide_post fun D hD => ?_
  have hm0 : q0.may = true := by decide
  have hc0 : mayChainB ((1 : Nat) : Int) (ints [0, 2]) = true := by decide
  obtain ⟨n1, hn1⟩ : ∃ n, n = (putB q0).length := ⟨_, rfl⟩
  obtain ⟨n8, hn8⟩ : ∃ n, n = (putC 1 [0, 2]).length := ⟨_, rfl⟩
  have CP : Hid (∀ V, Calls Try.prog 31 #[.agg #[.int .i64 1, .int .i64 2, .int .i64 1, .int .i64 3, .int .i64 0, .string ⟨#[120]⟩]] V fun e w' => ∃ A cap, e = .returned (.tuple #[.slice A n1 cap, .int .i64 0]) ∧ Sl u8 w' A (putB q0) ∧ Ext V w') := fun V => by rw [hn1]; exact putReq_yes q0 V hm0
  have CG : Hid (∀ V A cap, Sl u8 V A (putB q0) → Calls Try.prog 36 #[.slice A n1 cap] V fun e w' => e = .returned (.tuple #[.agg #[.int .i64 1, .int .i64 2, .int .i64 1, .int .i64 3, .int .i64 0, .string ⟨#[120]⟩], .int .i64 0]) ∧ Ext V w') := fun V A cap h => by
    rw [hn1]
    refine (getReq_any A cap (putB q0) V h (Nat.le_trans (putB_len hm0) (by decide))).mono ?_
    rintro e w' ⟨q, ec, h1, rfl, h3⟩
    obtain ⟨rfl, rfl⟩ := h1.put hm0
    exact ⟨rfl, h3⟩
  have CN : Hid (∀ V, Calls Try.prog 36 #[.slice none 0 0] V fun e w' => e = .returned (.tuple #[.agg #[.int .i64 0, .int .i64 0, .int .i64 0, .int .i64 0, .int .i64 0, .string ⟨#[]⟩], .int .i64 2]) ∧ Ext V w') := fun V => by
    refine (getReq_any none 0 [] V (Sl.nil _ _ _) (by decide)).mono ?_
    rintro e w' ⟨q, ec, h1, rfl, h3⟩
    obtain ⟨rfl, rfl⟩ := h1.nil
    exact ⟨rfl, h3⟩
  have CC : Hid (∀ X k, k = X.heap.size → Calls Try.prog 38 #[.agg #[.int .i64 1, .slice (some ⟨k, 0, none⟩) 2 2]] (X.alloc (.cells #[.int .i64 0, .int .i64 2] 3)) fun e w' => ∃ A cap, e = .returned (.tuple #[.slice A n8 cap, .int .i64 0]) ∧ Sl u8 w' A (putC 1 [0, 2]) ∧ Ext X w') := fun X k hk => by
    have hs : Sl i64 (X.alloc (.cells #[.int .i64 0, .int .i64 2] 3)) (some ⟨k, 0, none⟩) (ints [0, 2]) := by
      refine Sl.of_blk (Blk.new' _ 3 #[.int .i64 0, .int .i64 2] _ hk) ?_
      intro j v hj
      match j, hj with
      | 0, hj => simp [ints] at hj; subst hj; rfl
      | 1, hj => simp [ints] at hj; subst hj; rfl
      | _ + 2, hj => simp [ints] at hj
    rw [hn8]
    refine (putChain_yes 1 (some ⟨k, 0, none⟩) 2 [0, 2] _ (by decide) hs hc0).mono ?_
    rintro e w' ⟨A, cap, h1, h2, h3⟩
    exact ⟨A, cap, h1, h2, Ext.trans (Ext.alloc _ _) h3⟩
  have CD : Hid (∀ V A cap, Sl u8 V A (putC 1 [0, 2]) → Calls Try.prog 41 #[.slice A n8 cap] V fun e w' => ∃ A' cap', e = .returned (.tuple #[.agg #[.int .i64 1, .slice A' 2 cap'], .int .i64 0]) ∧ Ext V w') := fun V A cap h => by
    rw [hn8]
    refine (getChain_any A cap (putC 1 [0, 2]) V h (Nat.le_trans (putC_len hc0) (by decide))).mono ?_
    rintro e w' ⟨ep, ns, ec, A', cap', h1, h2, rfl, h4, h5⟩
    obtain ⟨rfl, rfl, rfl⟩ := h1.put hc0
    exact ⟨A', cap', rfl, h5⟩
  have CW : Hid (∀ V, Calls Try.prog 33 #[.agg #[.int .i64 1, .int .i64 2, .int .i64 1, .int .i64 3, .int .i64 0, .string ⟨#[120]⟩]] V fun e w' => e = .returned (.bool true) ∧ Ext V w') := fun V => writes_any 1 2 1 3 0 ⟨#[120]⟩ V
  have CM : Hid (∀ V, Calls Try.prog 32 #[.agg #[.int .i64 1, .int .i64 2, .int .i64 1, .int .i64 3, .int .i64 0, .string ⟨#[120]⟩]] V fun e w' => e = .returned (.bool true) ∧ Ext V w') := fun V => mayReq_any 1 2 1 3 0 ⟨#[120]⟩ V (by decide)
  have CZ : Hid (∀ V, Calls Try.prog 32 #[.agg #[.int .i64 0, .int .i64 0, .int .i64 0, .int .i64 0, .int .i64 0, .string ⟨#[]⟩]] V fun e w' => e = .returned (.bool false) ∧ Ext V w') := fun V => mayReq_any 0 0 0 0 0 ⟨#[]⟩ V (by decide)
  clear hn1 hn8 hm0 hc0
  have K1 : Hid (Blk (w.alloc (.cells #[.int .i64 1, .int .i64 2, .int .i64 1, .int .i64 3, .int .i64 0, .string ⟨#[120]⟩] 30)) w.heap.size 30 #[.int .i64 1, .int .i64 2, .int .i64 1, .int .i64 3, .int .i64 0, .string ⟨#[120]⟩]) := Blk.new _ _ _
  have X1 : Hid (Ext w (w.alloc (.cells #[.int .i64 1, .int .i64 2, .int .i64 1, .int .i64 3, .int .i64 0, .string ⟨#[120]⟩] 30))) := Ext.alloc _ _
  have k0 := fun i => K1.out.cell i
  have e0 := k0 0
  have e1 := k0 1
  have e2 := k0 2
  have e3 := k0 3
  have e4 := k0 4
  have e5 := k0 5
  clear k0
  simp at e0 e1 e2 e3 e4 e5
  go_enter Try.func29, Try.ntmps29
  go_wp2_with (first
    | (go_at_call 31; (with_reducible refine (CP.out _).mono ?_); rintro e w1 ⟨A1, cap1, rfl, hs1, hx1⟩; have HS1 := Lib.hid hs1; have XX1 : Hid (Ext (w.alloc (.cells #[.int .i64 1, .int .i64 2, .int .i64 1, .int .i64 3, .int .i64 0, .string ⟨#[120]⟩] 30)) w1) := hx1; clear hs1 hx1)
    | (go_at_call 36; (with_reducible refine (CG.out _ _ _ HS1.out).mono ?_); rintro e w2 ⟨rfl, hx2⟩; have XX2 : Hid (Ext (w.alloc (.cells #[.int .i64 1, .int .i64 2, .int .i64 1, .int .i64 3, .int .i64 0, .string ⟨#[120]⟩] 30)) w2) := Ext.trans XX1.out hx2; clear hx2)
    | (go_at_call 36; (with_reducible refine (CN.out _).mono ?_); rintro e w3 ⟨rfl, hx3⟩; have XX3 : Hid (Ext (w2.alloc (.cells #[.int .i64 1, .int .i64 2, .int .i64 1, .int .i64 3, .int .i64 0, .string ⟨#[120]⟩] 30)) w3) := hx3; clear hx3)
    | (go_at_call 38; (with_reducible refine (CC.out (w3.alloc (.cells #[.int .i64 0, .int .i64 0, .int .i64 0, .int .i64 0, .int .i64 0, .string ⟨#[]⟩] 30)) _ (by simp)).mono ?_); rintro e w6 ⟨A6, cap6, rfl, hs6, hx6⟩; have HS6 := Lib.hid hs6; have XX6 : Hid (Ext w3 w6) := Ext.trans (Ext.alloc _ _) hx6; clear hs6 hx6)
    | (go_at_call 41; (with_reducible refine (CD.out _ _ _ HS6.out).mono ?_); rintro e w7 ⟨A7, cap7, rfl, hx7⟩; have XX7 : Hid (Ext (w2.alloc (.cells #[.int .i64 1, .int .i64 2, .int .i64 1, .int .i64 3, .int .i64 0, .string ⟨#[120]⟩] 30)) w7) := Ext.trans XX3.out (Ext.trans XX6.out hx7); have XW7 : Hid (Ext (w.alloc (.cells #[.int .i64 1, .int .i64 2, .int .i64 1, .int .i64 3, .int .i64 0, .string ⟨#[120]⟩] 30)) w7) := Ext.trans XX2.out (Ext.trans (Ext.alloc _ _) XX7.out); have k1 := K1.out.stay XW7.out; have k4 := (Blk.new w2 30 #[.int .i64 1, .int .i64 2, .int .i64 1, .int .i64 3, .int .i64 0, .string ⟨#[120]⟩]).stay XX7.out; have c0 : ∀ o, (w7.alloc o).cell? ⟨w.heap.size, 0, none⟩ = some (.int .i64 1) := fun o => (k1.alloc o).cell 0; have d0 : ∀ o, (w7.alloc o).cell? ⟨w2.heap.size, 0, none⟩ = some (.int .i64 1) := fun o => (k4.alloc o).cell 0; have c1 : ∀ o, (w7.alloc o).cell? ⟨w.heap.size, 1, none⟩ = some (.int .i64 2) := fun o => (k1.alloc o).cell 1; have d1 : ∀ o, (w7.alloc o).cell? ⟨w2.heap.size, 1, none⟩ = some (.int .i64 2) := fun o => (k4.alloc o).cell 1; have c2 : ∀ o, (w7.alloc o).cell? ⟨w.heap.size, 2, none⟩ = some (.int .i64 1) := fun o => (k1.alloc o).cell 2; have d2 : ∀ o, (w7.alloc o).cell? ⟨w2.heap.size, 2, none⟩ = some (.int .i64 1) := fun o => (k4.alloc o).cell 2; have c3 : ∀ o, (w7.alloc o).cell? ⟨w.heap.size, 3, none⟩ = some (.int .i64 3) := fun o => (k1.alloc o).cell 3; have d3 : ∀ o, (w7.alloc o).cell? ⟨w2.heap.size, 3, none⟩ = some (.int .i64 3) := fun o => (k4.alloc o).cell 3; have c4 : ∀ o, (w7.alloc o).cell? ⟨w.heap.size, 4, none⟩ = some (.int .i64 0) := fun o => (k1.alloc o).cell 4; have d4 : ∀ o, (w7.alloc o).cell? ⟨w2.heap.size, 4, none⟩ = some (.int .i64 0) := fun o => (k4.alloc o).cell 4; have c5 : ∀ o, (w7.alloc o).cell? ⟨w.heap.size, 5, none⟩ = some (.string ⟨#[120]⟩) := fun o => (k1.alloc o).cell 5; have d5 : ∀ o, (w7.alloc o).cell? ⟨w2.heap.size, 5, none⟩ = some (.string ⟨#[120]⟩) := fun o => (k4.alloc o).cell 5; have K7 := Lib.hid k1; clear hx7 k1 k4)
    | (go_at_call 33; (with_reducible refine (CW.out _).mono ?_); rintro e w9 ⟨rfl, hx9⟩; have X9 : Hid (Ext w7 w9) := Ext.trans (Ext.alloc _ _) hx9; have k1 := K7.out.stay X9.out; have w9c0 : w9.cell? ⟨w.heap.size, 0, none⟩ = some (.int .i64 1) := k1.cell 0; have w9c1 : w9.cell? ⟨w.heap.size, 1, none⟩ = some (.int .i64 2) := k1.cell 1; have w9c2 : w9.cell? ⟨w.heap.size, 2, none⟩ = some (.int .i64 1) := k1.cell 2; have w9c3 : w9.cell? ⟨w.heap.size, 3, none⟩ = some (.int .i64 3) := k1.cell 3; have w9c4 : w9.cell? ⟨w.heap.size, 4, none⟩ = some (.int .i64 0) := k1.cell 4; have w9c5 : w9.cell? ⟨w.heap.size, 5, none⟩ = some (.string ⟨#[120]⟩) := k1.cell 5; clear hx9 k1)
    | (go_at_call 32; (with_reducible refine (CM.out _).mono ?_); rintro e w10 ⟨rfl, hx10⟩; have X10 : Hid (Ext w7 w10) := Ext.trans X9.out hx10; clear hx10)
    | (go_at_call 32; (with_reducible refine (CZ.out _).mono ?_); rintro e w11 ⟨rfl, hx11⟩; have X11 : Hid (Ext w7 w11) := Ext.trans X10.out hx11; clear hx11))
  try go_ret
  exact hD.out _ _ ⟨rfl, Ext.trans X1.out (Ext.trans XW7.out X11.out)⟩
end Go.Proofs.Ytdbnaflaobncgaa
