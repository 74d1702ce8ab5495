/-
  The bytes of a request as a slice of its own.
-/
import Derived.Test.YtdbnaflaobncgaaItemPut
import Derived.Test.YtdbnaflaobncgaaTurn
namespace Go.Proofs.Ytdbnaflaobncgaa
set_option linter.unusedVariables false
set_option linter.unusedSimpArgs false
open Go.RowKit


set_option maxRecDepth 8000 in
set_option maxHeartbeats 8000000 in
theorem putReq_own (q : Rq) (w : World) (hm : q.may = true) :
    Calls Try.prog 31 #[q.val] w fun e w' => ∃ g cap, e = .returned (.tuple #[.slice (some ⟨g, 0, none⟩) (putB q).length cap, .int .i64 0]) ∧ (putB q).length ≤ cap ∧ Sl u8 w' (some ⟨g, 0, none⟩) (putB q) ∧ Ext w w' := by
  refine hide_post fun D hD => ?_
  have hb := Rq.may_le hm
  obtain ⟨c, s, k, i, m, d⟩ := q
  simp only at hb
  have HMY : Hid (∀ V, Calls Try.prog 32 #[.agg #[.int .i64 c, .int .i64 s, .int .i64 k, .int .i64 i, .int .i64 m, .string d]] V fun e w' => e = .returned (.bool true) ∧ Ext V w') := fun V => by
    have := mayReq_any c s k i m d V (by unfold maxLen; omega)
    rw [show mayReqB c s k i m d.size = true from hm] at this
    exact this
  obtain ⟨W0, hW0⟩ : ∃ W0, W0 = w.alloc (.cells #[.int .i64 c, .int .i64 s, .int .i64 k, .int .i64 i, .int .i64 m, .string d] 30) := ⟨_, rfl⟩
  have hx0 : Ext w W0 := by rw [hW0]; exact Ext.alloc _ _
  have kB : Blk W0 w.heap.size 30 #[.int .i64 c, .int .i64 s, .int .i64 k, .int .i64 i, .int .i64 m, .string d] := by rw [hW0]; exact Blk.new _ _ _
  have HX0 := Lib.hid hx0
  have HW0 := Lib.hid hW0
  have KB := Lib.hid kB
  clear hx0 hW0 kB hm
  unfold Rq.val
  go_enter Try.func31, Try.ntmps31
  go_wp2_with fail
  rw [← HW0.out]
  go_wp2_with fail
  go_at_call 32
  with_reducible refine (HMY.out _).mono ?_
  rintro e w1 ⟨rfl, hx1⟩
  obtain ⟨P, hP⟩ : ∃ P, P = w1.heap.size := ⟨_, rfl⟩
  obtain ⟨W2, hW2⟩ : ∃ W2, W2 = (w1.alloc (.cells #[.slice none 0 0] 84)).alloc (.cells #[.int .i64 c, .int .i64 s, .int .i64 k, .int .i64 i, .int .i64 m] 3) := ⟨_, rfl⟩
  have hxw : Ext w1 W2 := by rw [hW2]; exact Ext.trans (Ext.alloc _ _) (Ext.alloc _ _)
  have hwr : WrAt W2 P P [] none := by rw [hW2, hP]; exact ⟨.slice none 0 0, (Blk.new _ _ _).alloc _, World.ownsRow_nil _ _ _ _, rfl⟩
  have hsl : Sl i64 W2 (some ⟨P + 1, 0, none⟩) (ints [c, s, k, i, m]) := by
    rw [hW2, hP]
    refine Sl.of_blk (Blk.new' _ 3 #[.int .i64 c, .int .i64 s, .int .i64 k, .int .i64 i, .int .i64 m] _ (by simp)) ?_
    intro j v hj
    match j, hj with
    | 0, hj => simp [ints] at hj; subst hj; rfl
    | 1, hj => simp [ints] at hj; subst hj; rfl
    | 2, hj => simp [ints] at hj; subst hj; rfl
    | 3, hj => simp [ints] at hj; subst hj; rfl
    | 4, hj => simp [ints] at hj; subst hj; rfl
    | _ + 5, hj => simp [ints] at hj
  have KB1 := KB.out.stay hx1
  have KB2 := KB1.stay hxw
  have o0 : ∀ o, (w1.alloc o).cell? ⟨w.heap.size, 0, none⟩ = some (.int .i64 c) := fun o => (KB1.alloc o).cell 0
  have o1 : ∀ o, (w1.alloc o).cell? ⟨w.heap.size, 1, none⟩ = some (.int .i64 s) := fun o => (KB1.alloc o).cell 1
  have o2 : ∀ o, (w1.alloc o).cell? ⟨w.heap.size, 2, none⟩ = some (.int .i64 k) := fun o => (KB1.alloc o).cell 2
  have o3 : ∀ o, (w1.alloc o).cell? ⟨w.heap.size, 3, none⟩ = some (.int .i64 i) := fun o => (KB1.alloc o).cell 3
  have o4 : ∀ o, (w1.alloc o).cell? ⟨w.heap.size, 4, none⟩ = some (.int .i64 m) := fun o => (KB1.alloc o).cell 4
  have hPw : w.heap.size < P := by rw [hP]; exact KB1.lt
  have CN : Hid (Calls Try.prog 50 #[.pointer (some ⟨P, 0, none⟩), .slice (some ⟨P + 1, 0, none⟩) 5 5] W2 fun e w' => e = .returned (.tuple #[]) ∧ WrTo W2 w' P P (numsB [c, s, k, i, m]) none) :=
    nums_any P P [] none (some ⟨P + 1, 0, none⟩) 5 [c, s, k, i, m] W2 hwr hsl (fun a ha => by
      injection ha with ha
      subst ha
      rintro (e | e)
      · simp at e
      · cases e) (fun x hx => by simp at hx; omega) (by simp) (by rw [hP]; exact hxw.size)
  have HXW : Hid (Ext w W2) := Ext.trans HX0.out (Ext.trans hx1 hxw)
  have HKB2 := Lib.hid KB2
  have HW2 := Lib.hid hW2
  have HP := Lib.hid hP
  have HPW := Lib.hid hPw
  have HPS : Hid (P ≤ W2.heap.size) := by (show _ ≤ _); rw [hP]; exact hxw.size
  have hns : (numsB [c, s, k, i, m]).length ≤ 50 := numsB_len _
  have HPUT : Hid (putB ⟨c, s, k, i, m, d⟩ = numsB [c, s, k, i, m] ++ textB d) := rfl
  have htl : (textB d).length ≤ 74 := by
    unfold textB
    rw [List.length_append]
    have h1 : (numB d.size).length ≤ 10 := numF_len 10 d.size
    have h2 : d.data.toList.length = d.size := by rw [Array.length_toList]; rfl
    omega
  clear hx1 hxw hwr hsl KB1 KB2 hP hPw hW2
  generalize numsB [c, s, k, i, m] = B at *
  go_wp2_with fail
  rw [← HP.out, ← HW2.out]
  clear o0 o1 o2 o3 o4
  go_wp2_with (first
    | (go_at_call 50; (with_reducible refine CN.out.mono ?_); rintro e w3 ⟨rfl, h3⟩; obtain ⟨g3, k1, k2, k3⟩ := h3; have HX3 : Hid (Ext w w3) := k2.step HXW.out HXW.out.size (fun k hk => hk.elim (fun e => by have := HPW.out; omega) (fun e => by cases e)); have kb3 := HKB2.out.frm k2 (fun hk => hk.elim (fun e => by have := HPW.out; omega) (fun e => by cases e)); have c5 := kb3.cell 5; have CT := Lib.hid (textW_any P P B g3 d w3 k1 (by omega) (by omega) (Nat.le_trans HPS.out k2.size)); have HG3 := Lib.hid k1.glt; simp at c5; clear k1 k2 k3 kb3 CN)
    | (go_at_call 51; (with_reducible refine CT.out.mono ?_); rintro e w4 ⟨rfl, h4⟩; obtain ⟨g4, k1, k2, k3⟩ := h4; have HX4 : Hid (Ext w w4) := k2.step HX3.out HX3.out.size (fun k hk => hk.elim (fun e => by have := HPW.out; omega) (fun e => by have := (HG3.out _ e.symm).1; have := HPW.out; omega)); have CB := Lib.hid (bytes_any P P (B ++ textB d) g4 w4 k1 (by rw [List.length_append]; omega)); clear k1 k2 k3 CT c5)
    | (go_at_call 52; (with_reducible refine CB.out.mono ?_); rintro e w5 ⟨A5, c5, rfl, ho, hx5⟩; have HO := Lib.hid ho; have HX5 : Hid (Ext w w5) := Ext.trans HX4.out hx5; clear ho hx5))
  try go_ret
  obtain ⟨A', c', e, hsl⟩ := own_view HO.out
  have hlen : 0 < (B ++ textB d).length := by
    rw [List.length_append]
    have h1 : 0 < (textB d).length := by
      unfold textB
      rw [List.length_append]
      have := numB_ne d.size
      cases hc : numB d.size with
      | nil => exact absurd hc this
      | cons x r => simp; omega
    omega
  obtain ⟨g7, cap7, cur7, e7, _, _, _, hc7⟩ := own_at (k := 0) HO.out hlen
  injection e with e1 e2 e3
  subst e1
  injection e7 with e4 e5 e6
  subst e4 e6
  exact hD.out _ _ ⟨g7, c5, by rw [HPUT.out, List.length_append]; rfl, by rw [HPUT.out]; exact hc7, by rw [HPUT.out]; exact hsl, HX5.out⟩

theorem putB_pos (q : Rq) : 0 < (putB q).length := by
  unfold putB textB
  rw [List.length_append, List.length_append]
  have := numB_ne q.d.size
  cases hc : numB q.d.size with
  | nil => exact absurd hc this
  | cons x r => simp; omega
end Go.Proofs.Ytdbnaflaobncgaa
