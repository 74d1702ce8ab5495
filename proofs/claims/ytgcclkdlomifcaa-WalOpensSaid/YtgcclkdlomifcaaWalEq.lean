/-
  Bytes compared by slices.Equal, cloned by slices.Clone; the document's frame.
-/
import Derived.Test.YtgcclkdlomifcaaWalFrame
import Derived.Test.YtgcclkdlomifcaaRefNum
namespace Go.Proofs.Ytgcclkdlomifcaa
set_option linter.unusedVariables false
set_option linter.unusedSimpArgs false
open Go.RowKit

theorem u8_ne {x y : UInt8} (h : x ≠ y) : ((x.toNat : Int) == (y.toNat : Int)) = false := by
  rw [beq_eq_false_iff_ne]
  intro e
  exact h (UInt8.toNat_inj.1 (by omega))

theorem equalB_any (A B : Option Addr) (c1 c2 : Nat) (la lb : List UInt8) (w : World) (hbig : la.length ≤ 9223372036854775807) (hbig2 : lb.length ≤ 9223372036854775807) (hs : Sl Go.Proofs.Ytgcclkdlomifcaa.u8 w A la) (hs2 : Sl Go.Proofs.Ytgcclkdlomifcaa.u8 w B lb) :
    Calls Try.prog 80 #[.slice A la.length c1, .slice B lb.length c2] w fun e w' => e = .returned (.bool (decide (la = lb))) ∧ Below w.heap.size w w' := by
  generalize hr : decide (la = lb) = r
  have HR := Lib.hid hr
  clear hr
  have HS : Hid (∀ W, Below w.heap.size w W → Sl Go.Proofs.Ytgcclkdlomifcaa.u8 W A la ∧ Sl Go.Proofs.Ytgcclkdlomifcaa.u8 W B lb) := fun W h => ⟨hs.stay h, hs2.stay h⟩
  clear hs hs2
  obtain ⟨n, hn⟩ : ∃ n, n = la.length := ⟨_, rfl⟩
  obtain ⟨m, hm⟩ : ∃ m, m = lb.length := ⟨_, rfl⟩
  rw [← hn] at hbig ⊢
  rw [← hm] at hbig2 ⊢
  have HN := Lib.hid hn
  have HM := Lib.hid hm
  clear hn hm
  by_cases hnm : n = m
  case neg =>
    go_enter Try.func80, Try.ntmps80
    go_wp2
    go_ret
    exact ⟨ret_bool (by rw [← HR.out]; exact dec_false (fun e => hnm (by rw [HN.out, HM.out, e]))), Below.refl _ _⟩
  subst hnm
  have HB0 : Hid (Below w.heap.size w w) := Below.refl _ _
  go_enter Try.func80, Try.ntmps80
  go_wp2
  go_loopw [13] (fun i wr => ∃ k : Nat, k ≤ n ∧ i = .int .i64 k ∧ Hid (Below w.heap.size w wr ∧ r = decide (la.drop k = lb.drop k))) (fun i _ => n - (intOf i).toNat)
  case atStart => exact ⟨0, Nat.zero_le _, rfl, HB0.out, HR.out.symm⟩
  case round =>
    obtain ⟨k, hk, rfl, Hi⟩ := hrel
    by_cases hlt : k < n
    · obtain ⟨HA, HB⟩ := HS.out wr Hi.out.1
      obtain ⟨b1, o1, rfl, hc1⟩ := HA.at_ (k := k) (by rw [← HN.out]; exact hlt)
      obtain ⟨b2, o2, rfl, hc2⟩ := HB.at_ (k := k) (by rw [← HM.out]; exact hlt)
      have hd : la.drop k = la[k]'(by rw [← HN.out]; exact hlt) :: la.drop (k + 1) := List.drop_eq_getElem_cons _
      have hd2 : lb.drop k = lb[k]'(by rw [← HM.out]; exact hlt) :: lb.drop (k + 1) := List.drop_eq_getElem_cons _
      have Hd := Lib.hid hd
      have Hd2 := Lib.hid hd2
      clear hd hd2 HA HB
      generalize la[k]'(by rw [← HN.out]; exact hlt) = x at *
      generalize lb[k]'(by rw [← HM.out]; exact hlt) = y at *
      unfold Go.Proofs.Ytgcclkdlomifcaa.u8 at hc1 hc2
      have hk0 : (0 : Int) ≤ (k : Int) := by omega
      have hk1 : (k : Int) < (n : Int) := by omega
      by_cases hxy : x = y
      · have HE : Hid (r = decide (la.drop (k + 1) = lb.drop (k + 1))) := by
          show _ = _
          rw [Hi.out.2, Hd.out, Hd2.out]
          exact dec_iff (by rw [hxy]; simp)
        subst hxy
        go_wp2
        go_quiet (fail)
        go_wp2
        go_roundw
        case rel => exact ⟨k + 1, by omega, by go_num, by have := Hi.out.1; exact ⟨this.os, this.tape, this.output, this.size, this.block⟩, HE.out⟩
        case measure => simp [intOf]; omega
      · have hne := u8_ne hxy
        have HE : Hid (r = false) := by
          show _ = _
          rw [Hi.out.2, Hd.out, Hd2.out]
          exact (dec_false (by intro e; injection e with e1 e2; exact hxy e1)).symm
        go_wp2
        go_quiet (fail)
        go_wp2
        go_ret
        exact ⟨ret_bool HE.out.symm, by have := Hi.out.1; exact ⟨this.os, this.tape, this.output, this.size, this.block⟩⟩
    · go_wp2
      go_ret
      exact ⟨ret_bool (by rw [Hi.out.2, List.drop_of_length_le (by have := HN.out; omega), List.drop_of_length_le (by have := HM.out; omega)]; simp), Hi.out.1⟩


set_option maxRecDepth 8000 in
theorem cloneB_any (A : Option Addr) (cap : Nat) (l : List UInt8) (w : World) (hs : Sl u8 w A l) (hl : l.length ≤ 1000000000) :
    Calls Try.prog 61 #[.slice A l.length cap] w fun e w' => ∃ A' c', e = .returned (.slice A' l.length c') ∧ Sl u8 w' A' l ∧ (∀ a, A' = some a → ∃ b, a = ⟨b, 0, none⟩ ∧ w.heap.size ≤ b) ∧ Ext w w' := by
  rcases A with _ | a
  · have hl0 : l = [] := by
      cases l with
      | nil => rfl
      | cons x r => obtain ⟨b, o, e, _⟩ := hs 0 x rfl; cases e
    subst hl0
    have hq : ∀ w, (binOp .eql 22 (.slice none 0 cap) (.slice none 0 0)).run Try.prog w = .ok (.bool true) w := fun w => Lib.run_eql_slice_nil (P := Try.prog) w 22 5 none 0 cap 0 0 Try.underlying22
    have hl0 : ([] : List UInt8).length = 0 := rfl
    rw [hl0]
    go_enter Try.func61, Try.ntmps61
    go_wp2
    try go_ret
    exact ⟨none, 0, rfl, Sl.nil _ _ _, fun a h => (by cases h), Ext.refl _⟩
  · refine hide_post fun D hD => ?_
    have hm := Lib.hid (World.ownsRow_made (base := w.heap.size) (e := 5) (size := 1) w #[] 0 (Nat.le_refl _) (Nat.zero_le _) rfl)
    have HS : Hid (Sl u8 (w.alloc (.cells #[] 5)) (some a) l) := hs.stay (Ext.alloc _ _)
    have hD' : Hid (∀ A' c' w', w'.ownsRow w.heap.size 5 1 (.slice A' (0 + l.length) c') (0 + l.length) ([] ++ l.map u8) → (w.alloc (.cells #[] 5)).grownBy w' (some w.heap.size) → D (.returned (.slice A' l.length c')) w') := fun A' c' w' h1 h2 => by
      rw [Nat.zero_add] at h1
      rw [List.nil_append] at h1
      refine hD.out _ _ ⟨A', c', rfl, ?_, ?_, below_grown (Ext.alloc _ _) h2 (by simp) (Nat.le_refl _)⟩
      · obtain ⟨A9, c9, e, h⟩ := own_view h1
        injection e with e1 e2 e3
        subst e1
        exact h
      · intro a ha
        rcases h1.2 with ⟨e, _⟩ | ⟨g, c, cur, e, hb, _⟩
        · injection e with e1 e2 e3; subst e1; cases ha
        · injection e with e1 e2 e3; subst e1; injection ha with ha; subst ha; exact ⟨g, rfl, hb⟩
    clear hs hD
    have hq : ∀ w, (binOp .eql 22 (.slice (some a) l.length cap) (.slice none 0 0)).run Try.prog w = .ok (.bool false) w := fun w => Lib.run_eql_slice_nil (P := Try.prog) w 22 5 (some a) l.length cap 0 0 Try.underlying22
    go_enter Try.func61, Try.ntmps61
    go_wp2_with (at_builtin; refine wpList_append_list rfl _ _ 22 rfl w.heap.size 5 (.int .u8 0) 1 Try.underlying22 info_byte rfl (by omega) (.slice (some ⟨w.heap.size, 0, none⟩) 0 0) 0 [] rfl hm.out u8 (some a) l l.length cap rfl rfl HS.out (fun _ => rfl) (by omega) (by simp) ?_; intro v' w' h1 h2 h3; obtain ⟨A', c', rfl⟩ := own_shape h1; have H1 := Lib.hid h1; have H2 := Lib.hid h2; clear h1 h2 h3)
    try go_ret
    exact hD'.out _ _ _ H1.out H2.out

set_option maxRecDepth 8000 in
set_option maxHeartbeats 4000000 in
theorem refFrame_any (r : List UInt8) (w : World) (h2 : r.length ≤ 4096) :
    Calls Try.prog 16 #[.string (str r)] w fun e w' => e = .returned (.string (str (frameB r))) ∧ Ext w w' := by
  refine hide_post fun D hD => ?_
  have HC : Hid (Calls Try.prog 20 #[.string (str r)] w fun e w' => e = .returned (.int .u32 (crcN r)) ∧ w = w') := by
    have := refCrc_any (str r) w (by rw [str_size]; omega)
    rwa [str_toList] at this
  have hc := crcN_lt r
  have hap : str (headB r.length (crcN r)) ++ str r = str (frameB r) := by
    apply ByteArray.ext
    rw [ByteArray.data_append]
    simp [str, frameB]
  rw [← hap] at hD
  have HHL : Hid ((headB r.length (crcN r)).length = 6) := rfl
  obtain ⟨c, hce⟩ : ∃ c, c = crcN r := ⟨_, rfl⟩
  rw [← hce] at HC hc hD HHL
  have hsz := str_size r
  obtain ⟨n, hn⟩ : ∃ n, n = r.length := ⟨_, rfl⟩
  rw [← hn] at h2 hD hsz HHL
  have hsum : (str (headB n c)).size + (str r).size ≤ 1000000000 := by (rw [str_size, hsz]); have := HHL.out; omega
  obtain ⟨s, hs⟩ : ∃ s, s = str r := ⟨_, rfl⟩
  rw [← hs] at HC hD hsz hsum ⊢
  clear hce hap hn hs
  have hh : (#[Value.int .u8 ((n : Int) / 256), .int .u8 ((n : Int) % 256), .int .u8 ((c : Int) / 16777216), .int .u8 ((c : Int) / 65536 % 256), .int .u8 ((c : Int) / 256 % 256), .int .u8 ((c : Int) % 256)] : Array Value).toList = (headB n c).map u8 := by
    unfold headB u8
    simp only [List.map_cons, List.map_nil, UInt8.toNat_ofNat']
    simp only [List.cons.injEq, Value.int.injEq, true_and, and_true]
    omega
  have HCV : Hid (∀ V : World, (convert 22 9 (.slice (some ⟨V.heap.size, 0, none⟩) 6 6)).run Try.prog (V.alloc (.cells #[.int .u8 ((n : Int) / 256), .int .u8 ((n : Int) % 256), .int .u8 ((c : Int) / 16777216), .int .u8 ((c : Int) / 65536 % 256), .int .u8 ((c : Int) / 256 % 256), .int .u8 ((c : Int) % 256)] 5)) = .ok (.string (str (headB n c))) (V.alloc (.cells #[.int .u8 ((n : Int) / 256), .int .u8 ((n : Int) % 256), .int .u8 ((c : Int) / 16777216), .int .u8 ((c : Int) / 65536 % 256), .int .u8 ((c : Int) / 256 % 256), .int .u8 ((c : Int) % 256)] 5))) := fun V => by
    have hsl := Sl.of_blk (f := u8) (l := headB n c) (Blk.new V 5 #[.int .u8 ((n : Int) / 256), .int .u8 ((n : Int) % 256), .int .u8 ((c : Int) / 16777216), .int .u8 ((c : Int) / 65536 % 256), .int .u8 ((c : Int) / 256 % 256), .int .u8 ((c : Int) % 256)]) (fun j v hj => by
      rw [← Array.getElem?_toList, hh, List.getElem?_map, hj]
      rfl)
    exact run_str (P := Try.prog) 22 9 5 _ (headB n c) 6 Try.underlying22 Try.underlying5 Try.underlying9 hsl
  have hcv := HCV.out w
  have HEND : Hid (∀ o, D (.returned (.string (str (headB n c) ++ s))) (w.alloc o)) := fun o => hD.out _ _ ⟨rfl, Ext.alloc _ _⟩
  clear hD hh HCV HHL
  generalize str (headB n c) = t at *
  go_enter Try.func16, Try.ntmps16
  go_wp2_with (go_at_call 20; (with_reducible refine HC.out.mono ?_); rintro e w1 ⟨rfl, rfl⟩)
  try go_ret
  exact HEND.out _
end Go.Proofs.Ytgcclkdlomifcaa
