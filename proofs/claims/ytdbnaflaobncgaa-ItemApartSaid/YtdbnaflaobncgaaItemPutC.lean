/-
  A chain's bytes, written: item.PutChain.
-/
import Derived.Test.YtdbnaflaobncgaaItemPut
namespace Go.Proofs.Ytdbnaflaobncgaa
set_option linter.unusedVariables false
set_option linter.unusedSimpArgs false
open Go.RowKit

theorem ints_of : ∀ (l : List Int), (∀ x ∈ l, 0 ≤ x) → ∃ ns, l = ints ns
  | [], _ => ⟨[], rfl⟩
  | x :: r, h => by
    obtain ⟨ns, hn⟩ := ints_of r (fun y hy => h y (List.mem_cons_of_mem _ hy))
    have hx := h x (List.mem_cons_self ..)
    exact ⟨x.toNat :: ns, by rw [hn]; simp [ints]; omega⟩
theorem mayChainB_ints {ep : Int} {l : List Int} (h : mayChainB ep l = true) : ∃ (e : Nat) (ns : List Nat), ep = e ∧ l = ints ns := by
  have h0 := h
  unfold mayChainB at h
  rw [Bool.and_eq_true, Bool.and_eq_true] at h
  obtain ⟨ns, hn⟩ := ints_of l (fun x hx => (okNodes_mem _ _ h.2 x hx).1)
  have := of_decide_eq_true h.1.1
  exact ⟨ep.toNat, ns, by omega, hn⟩

set_option maxRecDepth 8000 in
set_option maxHeartbeats 4000000 in
theorem putChain_no (ep : Int) (A : Option Addr) (cap : Nat) (l : List Int) (w : World) (hl : l.length ≤ 9223372036854775807) (hcap : l.length ≤ cap) (hs : Sl i64 w A l) (hm : mayChainB ep l = false) :
    Calls Try.prog 38 #[.agg #[.int .i64 ep, .slice A l.length cap]] w fun e w' => e = .returned (.tuple #[.slice none 0 0, .int .i64 1]) ∧ Ext w w' := by
  refine hide_post fun D hD => ?_
  have hW : Hid (∀ o, Calls Try.prog 39 #[.agg #[.int .i64 ep, .slice A l.length cap]] (w.alloc o) fun e w' => e = .returned (.bool false) ∧ Ext (w.alloc o) w') := fun o => by rw [← hm]; exact mayChain_any ep A cap l _ hl hcap (hs.stay (Ext.alloc _ _))
  clear hm hs hcap hl
  generalize l.length = n at *
  go_enter Try.func38, Try.ntmps38
  go_wp2_with (go_at_call 39; (with_reducible refine (hW.out _).mono ?_); rintro e w1 ⟨rfl, hx⟩; have HX := Lib.hid hx; clear hx)
  try go_ret
  exact hD.out _ _ ⟨rfl, Ext.trans (Ext.alloc _ _) HX.out⟩

set_option maxRecDepth 8000 in
set_option maxHeartbeats 8000000 in
theorem putChain_yes (ep : Nat) (A : Option Addr) (cap : Nat) (ns : List Nat) (w : World) (hcap : ns.length ≤ cap) (hs : Sl i64 w A (ints ns)) (hm : mayChainB ep (ints ns) = true) :
    Calls Try.prog 38 #[.agg #[.int .i64 ep, .slice A ns.length cap]] w fun e w' => ∃ A' cap', e = .returned (.tuple #[.slice A' (putC ep ns).length cap', .int .i64 0]) ∧ Sl u8 w' A' (putC ep ns) ∧ Ext w w' := by
  refine hide_post fun D hD => ?_
  have hb := mayChainB_le hm
  have HAB : Hid (∀ a, A = some a → a.block < w.heap.size) := fun a ha => by
    obtain ⟨x, hx⟩ : ∃ x, (ints ns)[0]? = some x := ⟨_, List.getElem?_eq_getElem (by rw [ints_len]; omega)⟩
    obtain ⟨b, o, e, hc⟩ := hs 0 x hx
    rw [ha] at e
    injection e with e
    subst e
    exact World.block_lt_of_cell? w _ hc
  obtain ⟨n, hn⟩ : ∃ n, n = ns.length := ⟨_, rfl⟩
  have HMY : Hid (∀ V, Ext w V → Calls Try.prog 39 #[.agg #[.int .i64 ep, .slice A n cap]] V fun e w' => e = .returned (.bool true) ∧ Ext V w') := fun V hV => by
    have := mayChain_any ep A cap (ints ns) V (by rw [ints_len]; omega) (by rw [ints_len]; exact hcap) (hs.stay hV)
    rw [ints_len, hm, ← hn] at this
    exact this
  obtain ⟨W0, hW0⟩ : ∃ W0, W0 = w.alloc (.cells #[.int .i64 ep, .slice A n cap] 39) := ⟨_, rfl⟩
  have hx0 : Ext w W0 := by rw [hW0]; exact Ext.alloc _ _
  have kB : Blk W0 w.heap.size 39 #[.int .i64 ep, .slice A n cap] := by rw [hW0]; exact Blk.new _ _ _
  have HX0 := Lib.hid hx0
  have HW0 := Lib.hid hW0
  have KB := Lib.hid kB
  have HS := Lib.hid hs
  have HN := Lib.hid hn
  have hn5 : n ≤ 5 := by omega
  have hep : ep ≤ 1073741824 := hb.1
  have HNS : Hid (∀ x ∈ ns, x ≤ 4) := hb.2.2.2
  rw [← hn]
  clear hx0 hW0 kB hm hs hn hb hcap
  go_enter Try.func38, Try.ntmps38
  go_wp2_with fail
  rw [← HW0.out]
  go_wp2_with fail
  go_at_call 39
  with_reducible refine (HMY.out _ HX0.out).mono ?_
  rintro e w1 ⟨rfl, hx1⟩
  obtain ⟨P, hP⟩ : ∃ P, P = w1.heap.size := ⟨_, rfl⟩
  obtain ⟨W2, hW2⟩ : ∃ W2, W2 = (w1.alloc (.cells #[.slice none 0 0] 84)).alloc (.cells #[.int .i64 ep, .int .i64 n] 3) := ⟨_, rfl⟩
  have hxw : Ext w1 W2 := by rw [hW2]; exact Ext.trans (Ext.alloc _ _) (Ext.alloc _ _)
  have hwr : WrAt W2 P P [] none := by rw [hW2, hP]; exact ⟨.slice none 0 0, (Blk.new _ _ _).alloc _, World.ownsRow_nil _ _ _ _, rfl⟩
  have hsl : Sl i64 W2 (some ⟨P + 1, 0, none⟩) (ints [ep, n]) := by
    rw [hW2, hP]
    refine Sl.of_blk (Blk.new' _ 3 #[.int .i64 ep, .int .i64 n] _ (by simp)) ?_
    intro j v hj
    match j, hj with
    | 0, hj => simp [ints] at hj; subst hj; rfl
    | 1, hj => simp [ints] at hj; subst hj; rfl
    | _ + 2, hj => simp [ints] at hj
  have KB1 := KB.out.stay hx1
  have KB2 := KB1.stay hxw
  have o0 : ∀ o, (w1.alloc o).cell? ⟨w.heap.size, 0, none⟩ = some (.int .i64 ep) := fun o => (KB1.alloc o).cell 0
  have o1 : ∀ o, (w1.alloc o).cell? ⟨w.heap.size, 1, none⟩ = some (.slice A n cap) := fun o => (KB1.alloc o).cell 1
  have hPw : w.heap.size < P := by rw [hP]; exact KB1.lt
  have CN : Hid (Calls Try.prog 50 #[.pointer (some ⟨P, 0, none⟩), .slice (some ⟨P + 1, 0, none⟩) 2 2] W2 fun e w' => e = .returned (.tuple #[]) ∧ WrTo W2 w' P P (numsB [ep, n]) none) :=
    nums_any P P [] none (some ⟨P + 1, 0, none⟩) 2 [ep, n] W2 hwr hsl (fun a ha => by
      injection ha with ha
      subst ha
      rintro (e | e)
      · simp at e
      · cases e) (fun x hx => by simp at hx; omega) (by simp) (by rw [hP]; exact hxw.size)
  have HXW : Hid (Ext w W2) := Ext.trans HX0.out (Ext.trans hx1 hxw)
  have HKB2 := Lib.hid KB2
  have HW2 := Lib.hid hW2
  have HP := Lib.hid hP
  have HPW := Lib.hid hPw
  have HPS : Hid (P ≤ W2.heap.size) := by (show _ ≤ _); rw [hP]; exact hxw.size
  have hns : (numsB [ep, n]).length ≤ 20 := numsB_len _
  have hns2 : (numsB ns).length ≤ 50 := Nat.le_trans (numsB_len _) (by rw [← HN.out]; omega)
  have HPUT : Hid (putC ep ns = numsB [ep, n] ++ numsB ns) := by (show _ = _); rw [HN.out]; rfl
  clear hx1 hxw hwr hsl KB1 KB2 hP hPw hW2
  generalize numsB [ep, n] = B at *
  go_wp2_with fail
  rw [← HP.out, ← HW2.out]
  clear o0 o1
  go_wp2_with (first
    | (go_at_call 50; (with_reducible refine CN.out.mono ?_); rintro e w3 ⟨rfl, h3⟩; obtain ⟨g3, k1, k2, k3⟩ := h3; have HX3 : Hid (Ext w w3) := k2.step HXW.out HXW.out.size (fun k hk => hk.elim (fun e => by have := HPW.out; omega) (fun e => by cases e)); have kb3 := HKB2.out.frm k2 (fun hk => hk.elim (fun e => by have := HPW.out; omega) (fun e => by cases e)); have c1 := kb3.cell 1; have HG3 := Lib.hid k1.glt; have hct := nums_any P P B g3 A cap ns w3 k1 (HS.out.stay HX3.out) (fun a ha hk => hk.elim (fun e => by have := HAB.out a ha; have := HPW.out; omega) (fun e => by have := (HG3.out _ e.symm).1; have := HAB.out a ha; have := HPW.out; omega)) (fun x hx => by have := HNS.out x hx; omega) (by rw [← HN.out]; omega) (Nat.le_trans HPS.out k2.size); rw [← HN.out] at hct; have CT := Lib.hid hct; simp at c1; clear k1 k2 k3 kb3 CN hct)
    | (go_at_call 50; (with_reducible refine CT.out.mono ?_); rintro e w4 ⟨rfl, h4⟩; obtain ⟨g4, k1, k2, k3⟩ := h4; have HX4 : Hid (Ext w w4) := k2.step HX3.out HX3.out.size (fun k hk => hk.elim (fun e => by have := HPW.out; omega) (fun e => by have := (HG3.out _ e.symm).1; have := HPW.out; omega)); have CB := Lib.hid (bytes_any P P (B ++ numsB ns) g4 w4 k1 (by rw [List.length_append]; omega)); clear k1 k2 k3 CT c1)
    | (go_at_call 52; (with_reducible refine CB.out.mono ?_); rintro e w5 ⟨A5, c5, rfl, ho, hx5⟩; have HO := Lib.hid ho; have HX5 : Hid (Ext w w5) := Ext.trans HX4.out hx5; clear ho hx5))
  try go_ret
  obtain ⟨A', c', e, hsl⟩ := own_view HO.out
  injection e with e1 e2 e3
  subst e1
  exact hD.out _ _ ⟨A5, c5, by rw [HPUT.out, List.length_append]; rfl, by rw [HPUT.out]; exact hsl, HX5.out⟩
end Go.Proofs.Ytdbnaflaobncgaa
