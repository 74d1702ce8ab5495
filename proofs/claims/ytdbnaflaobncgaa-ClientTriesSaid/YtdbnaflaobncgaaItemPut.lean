/-
  A request's bytes, written: item.PutReq; numbers of a list.
-/
import Derived.Test.YtdbnaflaobncgaaItemLaw2
namespace Go.Proofs.Ytdbnaflaobncgaa
set_option linter.unusedVariables false
set_option linter.unusedSimpArgs false
open Go.RowKit

theorem numsB_snoc : ∀ (a : List Nat) (x : Nat), numsB (a ++ [x]) = numsB a ++ numB x
  | [], x => by simp [numsB]
  | y :: r, x => by rw [List.cons_append, numsB, numsB_snoc r x, numsB, List.append_assoc]
theorem numsB_len : ∀ (a : List Nat), (numsB a).length ≤ 10 * a.length
  | [] => by simp [numsB]
  | y :: r => by
    have := numsB_len r
    have h : (numB y).length ≤ 10 := numF_len 10 y
    rw [numsB, List.length_append, List.length_cons]; omega
theorem wrap_u64I (n : Nat) (h : n < 18446744073709551616) : IntKind.u64.wrap (n : Int) = (n : Int) := IntKind.wrap_u64_nat n h

set_option maxRecDepth 8000 in
set_option maxHeartbeats 4000000 in
theorem nums_any (base P : Nat) (l : List UInt8) (g : Option Nat) (A : Option Addr) (cap : Nat) (ns : List Nat) (w : World) (H : WrAt w base P l g) (hs : Sl i64 w A (ints ns))
    (hA : ∀ a, A = some a → ¬ (a.block = P ∨ some a.block = g)) (hx : ∀ x ∈ ns, x < 9223372036854775808) (hlen : l.length + 10 * ns.length ≤ 1000000000) (hb : base ≤ w.heap.size) :
    Calls Try.prog 50 #[.pointer (some ⟨P, 0, none⟩), .slice A ns.length cap] w fun e w' => e = .returned (.tuple #[]) ∧ WrTo w w' base P (l ++ numsB ns) g := by
  refine hide_post fun D hD => ?_
  obtain ⟨n, hn⟩ : ∃ n, n = ns.length := ⟨_, rfl⟩
  rw [← hn] at hlen ⊢
  have HN := Lib.hid hn
  have H0 : Hid (WrTo w w base P l g) := WrTo.refl H
  have HS := Lib.hid hs
  have HA := Lib.hid hA
  have HX := Lib.hid hx
  have HBS := Lib.hid hb
  clear hn hs hA hx hb H
  go_enter Try.func50, Try.ntmps50
  go_wp2
  go_loopw [8] (fun i wr => ∃ j : Nat, j ≤ n ∧ i = .int .i64 j ∧ Hid (WrTo w wr base P (l ++ numsB (ns.take j)) g)) (fun i _ => n - (intOf i).toNat)
  case atStart => exact ⟨0, Nat.zero_le _, rfl, by (show WrTo w w base P (l ++ numsB (ns.take 0)) g); rw [List.take_zero, numsB, List.append_nil]; exact H0.out⟩
  case round =>
    obtain ⟨j, hj, rfl, HW⟩ := hrel
    by_cases hlt : j < n
    · obtain ⟨g1, k1, k2, k3⟩ := HW.out
      obtain ⟨x, hx⟩ : ∃ x, ns[j]? = some x := ⟨_, List.getElem?_eq_getElem (by rw [← HN.out]; exact hlt)⟩
      obtain ⟨b, o, rfl, hcell⟩ := (HS.out.frm' k2 HA.out) j (x : Int) (by simp [ints, hx])
      have hxb := HX.out x (List.mem_of_getElem? hx)
      have htk : l ++ numsB (ns.take (j + 1)) = l ++ numsB (ns.take j) ++ numB x := by rw [List.take_add_one, hx, Option.toList_some, numsB_snoc, List.append_assoc]
      have HTK := Lib.hid htk
      have C1 := Lib.hid (numW_any base P (l ++ numsB (ns.take j)) g1 x wr k1 (by omega) (by rw [List.length_append]; have := numsB_len (ns.take j); rw [List.length_take] at this; omega) (Nat.le_trans HBS.out k2.size))
      have hq : IntKind.u64.wrap (x : Int) = (x : Int) := wrap_u64I x (by omega)
      have HK := Lib.hid (And.intro k1 (And.intro k2 k3))
      unfold i64 at hcell
      clear k1 k2 k3 htk hx
      go_wp2_with (go_at_call 67; (with_reducible refine C1.out.mono ?_); rintro e w1 ⟨rfl, h1⟩; have H1 := Lib.hid h1; clear h1)
      go_roundw
      case rel => exact ⟨j + 1, by omega, by go_num, by (show WrTo w _ base P (l ++ numsB (ns.take (j + 1))) g); rw [HTK.out]; exact WrTo.trans HK.out H1.out⟩
      case measure => simp [intOf]; omega
    · have hjn : j = n := by omega
      subst hjn
      have H2 : Hid (WrTo w wr base P (l ++ numsB ns) g) := by have h := HW.out; rw [HN.out, List.take_length] at h; exact h
      go_wp2
      try go_end0
      exact hD.out _ _ ⟨rfl, H2.out⟩

set_option maxRecDepth 8000 in
set_option maxHeartbeats 4000000 in
theorem putReq_no (c s k i m : Int) (d : ByteArray) (w : World) (hd : d.size ≤ maxLen) (hm : mayReqB c s k i m d.size = false) :
    Calls Try.prog 31 #[.agg #[.int .i64 c, .int .i64 s, .int .i64 k, .int .i64 i, .int .i64 m, .string d]] w fun e w' => e = .returned (.tuple #[.slice none 0 0, .int .i64 1]) ∧ Ext w w' := by
  refine hide_post fun D hD => ?_
  have hW : Hid (∀ o, Calls Try.prog 32 #[.agg #[.int .i64 c, .int .i64 s, .int .i64 k, .int .i64 i, .int .i64 m, .string d]] (w.alloc o) fun e w' => e = .returned (.bool false) ∧ Ext (w.alloc o) w') := fun o => by rw [← hm]; exact mayReq_any c s k i m d _ hd
  clear hm
  go_enter Try.func31, Try.ntmps31
  go_wp2_with (go_at_call 32; (with_reducible refine (hW.out _).mono ?_); rintro e w1 ⟨rfl, hx⟩; have HX := Lib.hid hx; clear hx)
  try go_ret
  exact hD.out _ _ ⟨rfl, Ext.trans (Ext.alloc _ _) HX.out⟩

theorem ints_len (ns : List Nat) : (ints ns).length = ns.length := by simp [ints]

set_option maxRecDepth 8000 in
set_option maxHeartbeats 8000000 in
theorem putReq_yes (q : Rq) (w : World) (hm : q.may = true) :
    Calls Try.prog 31 #[q.val] w fun e w' => ∃ A cap, e = .returned (.tuple #[.slice A (putB q).length cap, .int .i64 0]) ∧ Sl u8 w' A (putB q) ∧ Ext w w' := by
  refine hide_post fun D hD => ?_
  have hb := Rq.may_le hm
  obtain ⟨c, s, k, i, m, d⟩ := q
  simp only at hb
  have HMY : Hid (∀ V, Calls Try.prog 32 #[.agg #[.int .i64 c, .int .i64 s, .int .i64 k, .int .i64 i, .int .i64 m, .string d]] V fun e w' => e = .returned (.bool true) ∧ Ext V w') := fun V => by
    have := mayReq_any c s k i m d V (by unfold maxLen; omega)
    rw [show mayReqB c s k i m d.size = true from hm] at this
    exact this
  obtain ⟨W0, hW0⟩ : ∃ W0, W0 = w.alloc (.cells #[.int .i64 c, .int .i64 s, .int .i64 k, .int .i64 i, .int .i64 m, .string d] 30) := ⟨_, rfl⟩
  have hx0 : Ext w W0 := by rw [hW0]; exact Ext.alloc _ _
  have kB : Blk W0 w.heap.size 30 #[.int .i64 c, .int .i64 s, .int .i64 k, .int .i64 i, .int .i64 m, .string d] := by rw [hW0]; exact Blk.new _ _ _
  have HX0 := Lib.hid hx0
  have HW0 := Lib.hid hW0
  have KB := Lib.hid kB
  clear hx0 hW0 kB hm
  unfold Rq.val
  go_enter Try.func31, Try.ntmps31
  go_wp2_with fail
  rw [← HW0.out]
  go_wp2_with fail
  go_at_call 32
  with_reducible refine (HMY.out _).mono ?_
  rintro e w1 ⟨rfl, hx1⟩
  obtain ⟨P, hP⟩ : ∃ P, P = w1.heap.size := ⟨_, rfl⟩
  obtain ⟨W2, hW2⟩ : ∃ W2, W2 = (w1.alloc (.cells #[.slice none 0 0] 84)).alloc (.cells #[.int .i64 c, .int .i64 s, .int .i64 k, .int .i64 i, .int .i64 m] 3) := ⟨_, rfl⟩
  have hxw : Ext w1 W2 := by rw [hW2]; exact Ext.trans (Ext.alloc _ _) (Ext.alloc _ _)
  have hwr : WrAt W2 P P [] none := by rw [hW2, hP]; exact ⟨.slice none 0 0, (Blk.new _ _ _).alloc _, World.ownsRow_nil _ _ _ _, rfl⟩
  have hsl : Sl i64 W2 (some ⟨P + 1, 0, none⟩) (ints [c, s, k, i, m]) := by
    rw [hW2, hP]
    refine Sl.of_blk (Blk.new' _ 3 #[.int .i64 c, .int .i64 s, .int .i64 k, .int .i64 i, .int .i64 m] _ (by simp)) ?_
    intro j v hj
    match j, hj with
    | 0, hj => simp [ints] at hj; subst hj; rfl
    | 1, hj => simp [ints] at hj; subst hj; rfl
    | 2, hj => simp [ints] at hj; subst hj; rfl
    | 3, hj => simp [ints] at hj; subst hj; rfl
    | 4, hj => simp [ints] at hj; subst hj; rfl
    | _ + 5, hj => simp [ints] at hj
  have KB1 := KB.out.stay hx1
  have KB2 := KB1.stay hxw
  have o0 : ∀ o, (w1.alloc o).cell? ⟨w.heap.size, 0, none⟩ = some (.int .i64 c) := fun o => (KB1.alloc o).cell 0
  have o1 : ∀ o, (w1.alloc o).cell? ⟨w.heap.size, 1, none⟩ = some (.int .i64 s) := fun o => (KB1.alloc o).cell 1
  have o2 : ∀ o, (w1.alloc o).cell? ⟨w.heap.size, 2, none⟩ = some (.int .i64 k) := fun o => (KB1.alloc o).cell 2
  have o3 : ∀ o, (w1.alloc o).cell? ⟨w.heap.size, 3, none⟩ = some (.int .i64 i) := fun o => (KB1.alloc o).cell 3
  have o4 : ∀ o, (w1.alloc o).cell? ⟨w.heap.size, 4, none⟩ = some (.int .i64 m) := fun o => (KB1.alloc o).cell 4
  have hPw : w.heap.size < P := by rw [hP]; exact KB1.lt
  have CN : Hid (Calls Try.prog 50 #[.pointer (some ⟨P, 0, none⟩), .slice (some ⟨P + 1, 0, none⟩) 5 5] W2 fun e w' => e = .returned (.tuple #[]) ∧ WrTo W2 w' P P (numsB [c, s, k, i, m]) none) :=
    nums_any P P [] none (some ⟨P + 1, 0, none⟩) 5 [c, s, k, i, m] W2 hwr hsl (fun a ha => by
      injection ha with ha
      subst ha
      rintro (e | e)
      · simp at e
      · cases e) (fun x hx => by simp at hx; omega) (by simp) (by rw [hP]; exact hxw.size)
  have HXW : Hid (Ext w W2) := Ext.trans HX0.out (Ext.trans hx1 hxw)
  have HKB2 := Lib.hid KB2
  have HW2 := Lib.hid hW2
  have HP := Lib.hid hP
  have HPW := Lib.hid hPw
  have HPS : Hid (P ≤ W2.heap.size) := by (show _ ≤ _); rw [hP]; exact hxw.size
  have hns : (numsB [c, s, k, i, m]).length ≤ 50 := numsB_len _
  have HPUT : Hid (putB ⟨c, s, k, i, m, d⟩ = numsB [c, s, k, i, m] ++ textB d) := rfl
  have htl : (textB d).length ≤ 74 := by
    unfold textB
    rw [List.length_append]
    have h1 : (numB d.size).length ≤ 10 := numF_len 10 d.size
    have h2 : d.data.toList.length = d.size := by rw [Array.length_toList]; rfl
    omega
  clear hx1 hxw hwr hsl KB1 KB2 hP hPw hW2
  generalize numsB [c, s, k, i, m] = B at *
  go_wp2_with fail
  rw [← HP.out, ← HW2.out]
  clear o0 o1 o2 o3 o4
  go_wp2_with (first
    | (go_at_call 50; (with_reducible refine CN.out.mono ?_); rintro e w3 ⟨rfl, h3⟩; obtain ⟨g3, k1, k2, k3⟩ := h3; have HX3 : Hid (Ext w w3) := k2.step HXW.out HXW.out.size (fun k hk => hk.elim (fun e => by have := HPW.out; omega) (fun e => by cases e)); have kb3 := HKB2.out.frm k2 (fun hk => hk.elim (fun e => by have := HPW.out; omega) (fun e => by cases e)); have c5 := kb3.cell 5; have CT := Lib.hid (textW_any P P B g3 d w3 k1 (by omega) (by omega) (Nat.le_trans HPS.out k2.size)); have HG3 := Lib.hid k1.glt; simp at c5; clear k1 k2 k3 kb3 CN)
    | (go_at_call 51; (with_reducible refine CT.out.mono ?_); rintro e w4 ⟨rfl, h4⟩; obtain ⟨g4, k1, k2, k3⟩ := h4; have HX4 : Hid (Ext w w4) := k2.step HX3.out HX3.out.size (fun k hk => hk.elim (fun e => by have := HPW.out; omega) (fun e => by have := (HG3.out _ e.symm).1; have := HPW.out; omega)); have CB := Lib.hid (bytes_any P P (B ++ textB d) g4 w4 k1 (by rw [List.length_append]; omega)); clear k1 k2 k3 CT c5)
    | (go_at_call 52; (with_reducible refine CB.out.mono ?_); rintro e w5 ⟨A5, c5, rfl, ho, hx5⟩; have HO := Lib.hid ho; have HX5 : Hid (Ext w w5) := Ext.trans HX4.out hx5; clear ho hx5))
  try go_ret
  obtain ⟨A', c', e, hsl⟩ := own_view HO.out
  injection e with e1 e2 e3
  subst e1
  exact hD.out _ _ ⟨A5, c5, by rw [HPUT.out, List.length_append]; rfl, by rw [HPUT.out]; exact hsl, HX5.out⟩
end Go.Proofs.Ytdbnaflaobncgaa
