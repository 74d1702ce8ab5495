/-
  The walk of the law PackReads.
-/
import Derived.Test.YtgcclkdlomifcaaRefTy
import Derived.Test.YtgcclkdlomifcaaHeldZ
import Derived.Test.YtgcclkdlomifcaaBackLaw
namespace Go.Proofs.Ytgcclkdlomifcaa
set_option linter.unusedVariables false
set_option linter.unusedSimpArgs false
open Go.RowKit Go.ChangeShapes Go.WideShapes

theorem below_of_frm {w w' : World} (h : Frm (fun _ => False) w w') : Below w.heap.size w w' := h.below (Nat.le_refl _) (fun _ h => h.elim)
theorem rfText_len (l : List UInt8) (bad : Bool) (most : Nat) : (rfText l bad most).2.1.length ≤ l.length := by
  have h := (rfNum_len l bad most).1
  unfold rfText
  split
  · simp
  · split
    · simp
    · simp; omega
theorem rfYes_len (l : List UInt8) (bad : Bool) : (rfYes l bad).2.1.length ≤ l.length := by
  unfold rfYes
  split
  · simp
  · split
    · simp
    · split <;> simp
theorem RdAt.frmQ {w w' : World} {P Q : Nat} {l l2 : List UInt8} {b b2 : Bool} (H : RdAt w P l b) (hQ : RfAt w Q l2 b2) (hPQ : P ≠ Q) (hf : Frm (fun k => k = Q) w w') : RdAt w' P l b := by
  obtain ⟨A, cap, h1, h2, h3, h4⟩ := H
  refine ⟨A, cap, h1.frm hf hPQ, fun j v hj => ?_, h3, h4⟩
  obtain ⟨b', o', e, hc⟩ := h2 j v hj
  refine ⟨b', o', e, (World.cell?_of_block (hf.block b' (World.block_lt_of_cell? w _ hc) ?_)).trans hc⟩
  intro hb
  subst hb
  rw [Blk.cell hQ] at hc
  match o' + j, hc with
  | 0, hc => simp [Go.Proofs.Ytgcclkdlomifcaa.u8] at hc
  | 1, hc => simp [Go.Proofs.Ytgcclkdlomifcaa.u8] at hc
  | n + 2, hc => simp at hc

set_option maxRecDepth 8000 in
set_option maxHeartbeats 64000000 in
theorem walk_packReads (A0 : Option Addr) (cap0 : Nat) (l0 : List UInt8) (A : Option Addr) (l : List Op1) (cap : Nat) (w : World) (hn0 : l0.length ≤ 9223372036854775807) (hs0 : Sl Go.Proofs.Ytgcclkdlomifcaa.u8 w A0 l0) (hn : l.length ≤ 9223372036854775807) (hs : So1 w A l) :
    Calls Try.prog 7 #[.slice A0 l0.length cap0, .slice A l.length cap] w fun e w' => e = .returned (.bool true) ∧ Below w.heap.size w w' := by
  refine hide_post fun DP hD => ?_
  have HTO : Hid (∀ V, Calls Try.prog 21 #[] V fun e w' => e = .returned (.bool true) ∧ Ext V w') := told1
  have HS := Lib.hid hs
  obtain ⟨n, hln⟩ : ∃ n, n = l.length := ⟨_, rfl⟩
  obtain ⟨n0, hln0⟩ : ∃ n, n = l0.length := ⟨_, rfl⟩
  have HNEW : Hid (l0.length ≤ 500 → ∀ V, Frm (fun _ => False) w V → Calls Try.prog 22 #[.slice A0 l0.length cap0] V fun e w' => ∃ P, e = .returned (.pointer (some ⟨P, 0, none⟩)) ∧ RdAt w' P l0 false ∧ Frm (fun _ => False) V w' ∧ V.heap.size ≤ P) := fun h5 V hV => (new_any A0 cap0 l0 V (hs0.stay (below_of_frm hV)) (by omega)).mono fun e w' ⟨P, h1, h2, h3, h4⟩ => ⟨P, h1, h2, Frm.of_below h3 _, h4⟩
  have hcv : ∀ V, Frm (fun _ => False) w V → (convert 22 9 (.slice A0 l0.length cap0)).run Try.prog V = .ok (.string (str l0)) V := fun V h => run_str (P := Try.prog) (w := V) 22 9 5 A0 l0 cap0 Try.underlying22 Try.underlying5 Try.underlying9 (hs0.stay (below_of_frm h))
  rw [← hln] at hn ⊢
  rw [← hln0] at hn0 HNEW hcv ⊢
  have HLN := Lib.hid hln
  have HLN0 := Lib.hid hln0
  clear hs hln hs0 hln0
  by_cases h40 : (500 : Int) < (n0 : Int)
  · clear hcv
    go_enter Try.func7, Try.ntmps7
    go_wp2_with (go_at_call 21; (with_reducible refine (HTO.out _).mono ?_); rintro e w1 ⟨rfl, hx⟩; have HX := Lib.hid hx; clear hx)
    try go_ret
    exact hD.out _ _ ⟨rfl, HX.out⟩
  by_cases h41 : (40 : Int) < (n : Int)
  · clear hcv
    go_enter Try.func7, Try.ntmps7
    go_wp2_with (go_at_call 21; (with_reducible refine (HTO.out _).mono ?_); rintro e w1 ⟨rfl, hx⟩; have HX := Lib.hid hx; clear hx)
    try go_ret
    exact hD.out _ _ ⟨rfl, HX.out⟩
  have hn40 : n ≤ 40 := by omega
  have h500 : n0 ≤ 500 := by omega
  have HL0 : Hid (l0.length ≤ 500) := by (show _ ≤ _); have := HLN0.out; omega
  have HNEW := Lib.hid (HNEW.out h500)
  have E0 : Hid (Frm (fun _ => False) w w) := Frm.refl _ _
  go_enter Try.func7, Try.ntmps7
  go_wp2
  refine rz_begin (fun _ => False) [] (by kernel_rfl) ?_
  have E0 : Hid (Frm (fun _ => False) w w.drew) := Frm.drew E0.out
  refine rz_take [1, 6, 7] (i := 0) (v := ?_) rfl (by kernel_rfl) (by kernel_rfl) (by kernel_rfl) (by kernel_rfl) (by kernel_rfl) (by kernel_rfl) (fun _ _ _ h => h) (by rfl) ?_ ?_
  rotate_left
  · intro W hW; have hW0 := Frm.tr E0.out hW; clear hW; go_simp <;> with_reducible rfl
  try simp only [Act.put, List.setIfInBounds_toArray, List.set_cons_zero, List.set_cons_succ]
  refine rz_take [3, 4, 5, 7] (i := 2) (v := ?_) rfl (by kernel_rfl) (by kernel_rfl) (by kernel_rfl) (by kernel_rfl) (by kernel_rfl) (by kernel_rfl) (fun _ _ _ h => h) (by rfl) ?_ ?_
  rotate_left
  · intro W hW; have hW0 := Frm.tr E0.out hW; clear hW; go_simp <;> with_reducible rfl
  try simp only [Act.put, List.setIfInBounds_toArray, List.set_cons_zero, List.set_cons_succ]
  refine rz_take [4, 5, 7] (i := 3) (v := .string (str l0)) rfl (by kernel_rfl) (by kernel_rfl) (by kernel_rfl) (by kernel_rfl) (by kernel_rfl) (by kernel_rfl) (fun _ _ _ h => h) (by rfl) ?_ ?_
  · intro W hW; have hW0 := Frm.tr E0.out hW; clear hW; have hcw := hcv _ hW0; go_simp; first | done | exact hcw | (rw [hcw])
  try simp only [Act.put, List.setIfInBounds_toArray, List.set_cons_zero, List.set_cons_succ]
  refine rz_take [5, 7] (i := 4) (v := ?_) rfl (by kernel_rfl) (by kernel_rfl) (by kernel_rfl) (by kernel_rfl) (by kernel_rfl) (by kernel_rfl) (fun _ _ _ h => h) (by rfl) ?_ ?_
  rotate_left
  · intro W hW; have hW0 := Frm.tr E0.out hW; clear hW; go_simp <;> with_reducible rfl
  try simp only [Act.put, List.setIfInBounds_toArray, List.set_cons_zero, List.set_cons_succ]
  refine rz_two (i := 1) (j := 5) rfl rfl (by kernel_rfl) (by rfl) (by rfl) (fun K hK => ?_) (fun K hK => ?_)
  · go_simp
    (go_at_call 22; (with_reducible refine (HNEW.out _ E0.out).mono ?_); rintro e wn ⟨P, rfl, hr, hx, hP⟩; refine hK _ _ hx ?_; clear hK K)
    have Ewn := Lib.hid (Frm.tr E0.out hx)
    have HP1 := Lib.hid hr
    have HPl : Hid (w.heap.size ≤ P) := Nat.le_trans (below_of_frm E0.out).size hP
    have HPlt : Hid (P < wn.heap.size) := hr.lt
    clear hP hr hx
    try simp only [Act.put, List.setIfInBounds_toArray, List.set_cons_zero, List.set_cons_succ]
    refine rz_take [7] (i := 6) (v := ?_) rfl (by kernel_rfl) (by kernel_rfl) (by kernel_rfl) (by kernel_rfl) (by kernel_rfl) (by kernel_rfl) (fun _ _ _ h => h) (by rfl) ?_ ?_
    rotate_left
    · intro W hW; have hW0 := Frm.tr Ewn.out hW; clear hW; go_simp <;> with_reducible rfl
    try simp only [Act.put, List.setIfInBounds_toArray, List.set_cons_zero, List.set_cons_succ]
    refine rz_call (i := 5) rfl (by kernel_rfl) (by rfl) (fun K hK => ?_)
    go_simp
    refine hK _ _ (Frm.of_alloc _ _ _) ?_; clear hK K
    obtain ⟨wnb, hwnb⟩ : ∃ W, W = (wn).alloc (.cells #[.string (str l0), .bool false] 47) := ⟨_, rfl⟩
    obtain ⟨Q, hQ⟩ : ∃ Q, Q = (wn).heap.size := ⟨_, rfl⟩
    have Ewnb : Hid (Frm (fun _ => False) w wnb) := by (show Frm _ _ _); rw [hwnb]; exact Frm.tr Ewn.out (Frm.of_alloc _ _ _)
    have HQ1 : Hid (RfAt wnb Q l0 false) := by (show RfAt _ _ _ _); rw [hwnb, hQ]; exact Blk.new _ _ _
    have HQlt : Hid (Q < wnb.heap.size) := Blk.lt HQ1.out
    have HQl : Hid (w.heap.size ≤ Q) := by (show _ ≤ _); have := (below_of_frm Ewn.out).size; rw [hQ]; exact this
    have HPQ : Hid (P ≠ Q) := by (show _ ≠ _); have := HPlt.out; rw [hQ]; omega
    have HP1 : Hid (RdAt wnb P l0 false) := HP1.out.stay (by rw [hwnb]; exact Ext.alloc _ _)
    rw [← hwnb, ← hQ]
    clear hwnb hQ
    try simp only [Act.put, List.setIfInBounds_toArray, List.set_cons_zero, List.set_cons_succ]
    refine rz_take [] (i := 7) (v := ?_) rfl (by kernel_rfl) (by kernel_rfl) (by kernel_rfl) (by kernel_rfl) (by kernel_rfl) (by kernel_rfl) (fun _ _ _ h => h) (by rfl) ?_ ?_
    rotate_left
    · intro W hW; have hW0 := Frm.tr Ewnb.out hW; clear hW; go_simp <;> with_reducible rfl
    try simp only [Act.put, List.setIfInBounds_toArray, List.set_cons_zero, List.set_cons_succ]
    refine rz_done (by kernel_rfl) ?_ _
    have HST : Hid (RdAt wnb P l0 false ∧ RfAt wnb Q l0 false ∧ Below w.heap.size w wnb) := ⟨HP1.out, HQ1.out, below_of_frm Ewnb.out⟩
    clear HP1 HQ1 HPlt HQlt HNEW hcv E0
    go_wp2
    go_loopw [7] (fun i wr => ∃ (j : Nat) (l1 : List UInt8) (b1 : Bool) (l2 : List UInt8) (b2 : Bool), j ≤ n ∧ i = .int .i64 j ∧ Hid (Rel (l1, b1) (l2, b2)) ∧ Hid (l1.length ≤ 500 ∧ l2.length ≤ 500) ∧ Hid (RdAt wr P l1 b1 ∧ RfAt wr Q l2 b2 ∧ Below w.heap.size w wr)) (fun i _ => n - (intOf i).toNat)
    case atStart => exact ⟨0, l0, false, l0, false, by omega, rfl, .inl ⟨rfl, rfl, rfl⟩, ⟨HL0.out, HL0.out⟩, HST.out⟩
    case round =>
      obtain ⟨j, l1, b1, l2, b2, hj, rfl, HRL, HLR, HQ⟩ := hrel
      by_cases hlt : j < n
      · obtain ⟨x, hx⟩ : ∃ x, l[j]? = some x := ⟨_, List.getElem?_eq_getElem (by rw [← HLN.out]; exact hlt)⟩
        obtain ⟨b, o, rfl, q0, q1, q2, q3, q4, hok⟩ := HS.out j x hx
        have c0 : wr.cell? ⟨b, o + j * 5, none⟩ = some (.int .i64 x.kind) := cell_stay HQ.out.2.2 q0
        have HC1 : Hid (∀ V, Below w.heap.size w V → V.cell? ⟨b, o + j * 5 + 1, none⟩ = some (.int .u64 x.n)) := fun V h => cell_stay h q1
        have HC4 : Hid (∀ V, Below w.heap.size w V → V.cell? ⟨b, o + j * 5 + 4, none⟩ = some (.int .i64 x.more)) := fun V h => cell_stay h q4
        have HOK := Lib.hid hok
        clear q0 q1 q2 q3 q4 hok hx
        obtain ⟨xk, xn, xs, xy, xm⟩ := x
        simp only at c0
        have HN64 : Hid (xn < 18446744073709551616) := HOK.out.1
        obtain ⟨mn, hmn⟩ : ∃ mn : Nat, mn ≤ 9223372036854775807 ∧ (xm = mn ∨ xm < 0 ∧ mn = 0) := ⟨xm.toNat, by have := HOK.out.2.2.2; simp only at this; omega, by omega⟩
        have HMN := Lib.hid hmn
        clear hmn HOK
        by_cases hk0 : xk = 0
        · subst hk0
          have CP : Hid (∀ V, RdAt V P l1 b1 → Calls Try.prog 23 #[.pointer (some ⟨P, 0, none⟩), .int .u64 xn] V fun e w' => e = .returned (.int .u64 (rdNum l1 b1 xn).1) ∧ RdAt w' P (rdNum l1 b1 xn).2.1 (rdNum l1 b1 xn).2.2 ∧ Frm (fun k => k = P) V w') := fun V hr => numR_any P l1 b1 xn V hr (by have := HLR.out.1; omega)
          have CX : Hid (∀ V, RfAt V Q l2 b2 → Calls Try.prog 24 #[.pointer (some ⟨Q, 0, none⟩), .int .u64 xn] V fun e w' => e = .returned (.int .u64 (rdNum l1 b1 xn).1) ∧ RfAt w' Q (rfNum l2 b2 xn).2.1 (rfNum l2 b2 xn).2.2 ∧ Frm (fun k => k = Q) V w') := fun V hr => by rw [(rel_num HRL.out xn).1]; exact refNumR_any Q l2 b2 xn V hr (by have := HLR.out.2; omega)
          have HRN : Hid (Rel (rdNum l1 b1 xn).2 (rfNum l2 b2 xn).2) := (rel_num HRL.out xn).2
          have HLN2 : Hid ((rdNum l1 b1 xn).2.1.length ≤ 500 ∧ (rfNum l2 b2 xn).2.1.length ≤ 500) := ⟨Nat.le_trans ((rdNum_len l1 b1 xn).1) HLR.out.1, Nat.le_trans ((rfNum_len l2 b2 xn).1) HLR.out.2⟩
          generalize rdNum l1 b1 xn = y at *
          obtain ⟨y1, y2, y3⟩ := y
          generalize rfNum l2 b2 xn = z at *
          obtain ⟨z1, z2, z3⟩ := z
          simp only at CP CX HRN HLN2
          have fz : ∀ V, Frm (fun k => k = P ∨ k = Q) wr V → V.cell? ⟨b, o + j * 5 + 1, none⟩ = some (.int .u64 xn) := fun V h => HC1.out V (Below.trans HQ.out.2.2 (h.below HQ.out.2.2.size (fun k hk => by rcases hk with rfl | rfl; exact HPl.out; exact HQl.out)))
          have EQ : Hid (Frm (fun k => k = P ∨ k = Q) wr wr) := Frm.refl _ _
          have HRd : Hid (RdAt wr.drew P l1 b1) := HQ.out.1.stay (Ext.drewR (Ext.refl _))
          go_wp2
          clear c0
          refine rx_begin (fun k => k = P ∨ k = Q) (by kernel_rfl) ?_
          have EQd := Lib.hid (Frm.drew EQ.out)
          refine rx_take (i := 0) (v := ?_) rfl (by kernel_rfl) (by kernel_rfl) (by kernel_rfl) (fun _ _ _ h => h) (by rfl) ?_ ?_
          rotate_left
          · intro W hW; have hW0 := Frm.tr EQd.out hW; clear hW; go_simp <;> with_reducible rfl
          try simp only [Act.put, List.setIfInBounds_toArray, List.set_cons_zero, List.set_cons_succ]
          refine rx_take (i := 1) (v := ?_) rfl (by kernel_rfl) (by kernel_rfl) (by kernel_rfl) (fun _ _ _ h => h) (by rfl) ?_ ?_
          rotate_left
          · intro W hW; have hW0 := Frm.tr EQd.out hW; clear hW; go_simp <;> with_reducible rfl
          try simp only [Act.put, List.setIfInBounds_toArray, List.set_cons_zero, List.set_cons_succ]
          refine rx_take (i := 2) (v := ?_) rfl (by kernel_rfl) (by kernel_rfl) (by kernel_rfl) (fun _ _ _ h => h) (by rfl) ?_ ?_
          rotate_left
          · intro W hW; have hW0 := Frm.tr EQd.out hW; clear hW; go_simp <;> with_reducible rfl
          try simp only [Act.put, List.setIfInBounds_toArray, List.set_cons_zero, List.set_cons_succ]
          refine rx_take (i := 3) (v := ?_) rfl (by kernel_rfl) (by kernel_rfl) (by kernel_rfl) (fun _ _ _ h => h) (by rfl) ?_ ?_
          rotate_left
          · intro W hW; have hW0 := Frm.tr EQd.out hW; clear hW; go_simp <;> with_reducible rfl
          try simp only [Act.put, List.setIfInBounds_toArray, List.set_cons_zero, List.set_cons_succ]
          refine rx_take (i := 4) (v := ?_) rfl (by kernel_rfl) (by kernel_rfl) (by kernel_rfl) (fun _ _ _ h => h) (by rfl) ?_ ?_
          rotate_left
          · intro W hW; have hW0 := Frm.tr EQd.out hW; clear hW; go_simp <;> with_reducible rfl
          try simp only [Act.put, List.setIfInBounds_toArray, List.set_cons_zero, List.set_cons_succ]
          refine rx_take (i := 5) (v := ?_) rfl (by kernel_rfl) (by kernel_rfl) (by kernel_rfl) (fun _ _ _ h => h) (by rfl) ?_ ?_
          rotate_left
          · intro W hW; have hW0 := Frm.tr EQd.out hW; clear hW; go_simp <;> with_reducible rfl
          try simp only [Act.put, List.setIfInBounds_toArray, List.set_cons_zero, List.set_cons_succ]
          refine rx_take (i := 7) (v := ?_) rfl (by kernel_rfl) (by kernel_rfl) (by kernel_rfl) (fun _ _ _ h => h) (by rfl) ?_ ?_
          rotate_left
          · intro W hW; have hW0 := Frm.tr EQd.out hW; clear hW; go_simp <;> with_reducible rfl
          try simp only [Act.put, List.setIfInBounds_toArray, List.set_cons_zero, List.set_cons_succ]
          refine rx_take (i := 8) (v := ?_) rfl (by kernel_rfl) (by kernel_rfl) (by kernel_rfl) (fun _ _ _ h => h) (by rfl) ?_ ?_
          rotate_left
          · intro W hW; have hW0 := Frm.tr EQd.out hW; clear hW; go_simp <;> with_reducible rfl
          try simp only [Act.put, List.setIfInBounds_toArray, List.set_cons_zero, List.set_cons_succ]
          refine rx_take (i := 9) (v := ?_) rfl (by kernel_rfl) (by kernel_rfl) (by kernel_rfl) (fun _ _ _ h => h) (by rfl) ?_ ?_
          rotate_left
          · intro W hW; have hW0 := Frm.tr EQd.out hW; clear hW; go_simp <;> with_reducible rfl
          try simp only [Act.put, List.setIfInBounds_toArray, List.set_cons_zero, List.set_cons_succ]
          refine rx_take (i := 10) (v := ?_) rfl (by kernel_rfl) (by kernel_rfl) (by kernel_rfl) (fun _ _ _ h => h) (by rfl) ?_ ?_
          rotate_left
          · intro W hW; have hW0 := Frm.tr EQd.out hW; clear hW; go_simp <;> with_reducible rfl
          try simp only [Act.put, List.setIfInBounds_toArray, List.set_cons_zero, List.set_cons_succ]
          refine rx_take (i := 11) (v := ?_) rfl (by kernel_rfl) (by kernel_rfl) (by kernel_rfl) (fun _ _ _ h => h) (by rfl) ?_ ?_
          rotate_left
          · intro W hW; have hW0 := Frm.tr EQd.out hW; clear hW; go_simp <;> with_reducible rfl
          try simp only [Act.put, List.setIfInBounds_toArray, List.set_cons_zero, List.set_cons_succ]
          refine rx_take (i := 12) (v := ?_) rfl (by kernel_rfl) (by kernel_rfl) (by kernel_rfl) (fun _ _ _ h => h) (by rfl) ?_ ?_
          rotate_left
          · intro W hW; have hW0 := Frm.tr EQd.out hW; clear hW; go_simp <;> with_reducible rfl
          try simp only [Act.put, List.setIfInBounds_toArray, List.set_cons_zero, List.set_cons_succ]
          refine rx_call (i := 6) rfl (by kernel_rfl) (by rfl) (fun K' hK => ?_)
          go_simp
          (go_at_call 23; (with_reducible refine (CP.out _ HRd.out).mono ?_); rintro e w5 ⟨rfl, hr, hf⟩; have hx := hf.mono (s' := fun k => k = P ∨ k = Q) (fun k hk => by first | exact .inl hk | exact .inr hk); refine hK _ _ hx ?_; clear hK)
          have Ew5 := Lib.hid (Frm.tr EQd.out hx)
          have HR5 := Lib.hid hr; have HF5 : Hid (Frm (fun k => k = P) wr w5) := Frm.of_drew hf; clear hr hf; have HX5 : Hid (RfAt w5 Q l2 b2) := Blk.frm HQ.out.2.1 HF5.out (fun e => HPQ.out e.symm)
          clear hx
          try simp only [Act.put, List.setIfInBounds_toArray, List.set_cons_zero, List.set_cons_succ]
          refine rx_call (i := 13) rfl (by kernel_rfl) (by rfl) (fun K' hK => ?_)
          go_simp
          (go_at_call 24; (with_reducible refine (CX.out _ HX5.out).mono ?_); rintro e w6 ⟨rfl, hr, hf⟩; have hx := hf.mono (s' := fun k => k = P ∨ k = Q) (fun k hk => by first | exact .inl hk | exact .inr hk); refine hK _ _ hx ?_; clear hK)
          have Ew6 := Lib.hid (Frm.tr Ew5.out hx)
          have HR6 := Lib.hid hr; have HF6 : Hid (Frm (fun k => k = Q) w5 w6) := hf; clear hr hf
          clear hx
          try simp only [Act.put, List.setIfInBounds_toArray, List.set_cons_zero, List.set_cons_succ]
          refine rx_take (i := 14) (v := .bool false) rfl (by kernel_rfl) (by kernel_rfl) (by kernel_rfl) (fun _ _ _ h => h) (by rfl) ?_ ?_
          · intro W hW; have hW0 := Frm.tr Ew6.out hW; clear hW; go_simp; all_goals (first | done | (simp; done))
          try simp only [Act.put, List.setIfInBounds_toArray, List.set_cons_zero, List.set_cons_succ]
          refine wpAnyH_done (by kernel_rfl) ?_ _
          have B6 : Hid (Below w.heap.size w w6) := Below.trans HQ.out.2.2 (Below.trans (HF5.out.below HQ.out.2.2.size (fun k hk => by rw [hk]; exact HPl.out)) (HF6.out.below (Nat.le_trans HQ.out.2.2.size HF5.out.size) (fun k hk => by rw [hk]; exact HQl.out)))
          have HRP : Hid (RdAt w6 P y2 y3) := HR5.out.frmQ HX5.out HPQ.out HF6.out
          clear fz CP CX
          go_wp2
          go_roundw
          case rel => exact ⟨j + 1, y2, y3, z2, z3, by omega, by go_num, HRN.out, HLN2.out, HRP.out, HR6.out, B6.out⟩
          case measure => simp [intOf]; omega
        by_cases hk1 : xk = 1
        · subst hk1
          have CP : Hid (∀ V, RdAt V P l1 b1 → Calls Try.prog 25 #[.pointer (some ⟨P, 0, none⟩), .int .i64 xm] V fun e w' => e = .returned (.string (str (rdText l1 b1 mn).1)) ∧ RdAt w' P (rdText l1 b1 mn).2.1 (rdText l1 b1 mn).2.2 ∧ Frm (fun k => k = P) V w') := fun V hr => textR_any P l1 b1 mn xm V HMN.out.2 hr (by have := HLR.out.1; omega) HMN.out.1
          have CX : Hid (∀ V, RfAt V Q l2 b2 → Calls Try.prog 26 #[.pointer (some ⟨Q, 0, none⟩), .int .i64 xm] V fun e w' => e = .returned (.string (str (rdText l1 b1 mn).1)) ∧ RfAt w' Q (rfText l2 b2 mn).2.1 (rfText l2 b2 mn).2.2 ∧ Frm (fun k => k = Q) V w') := fun V hr => by rw [show (rdText l1 b1 mn).1 = (rfText l2 b2 mn).1 from (rel_text HRL.out mn).1]; exact refTextR_any Q l2 b2 mn xm V HMN.out.2 hr (by have := HLR.out.2; omega) HMN.out.1
          have HRN : Hid (Rel (rdText l1 b1 mn).2 (rfText l2 b2 mn).2) := (rel_text HRL.out mn).2
          have HLN2 : Hid ((rdText l1 b1 mn).2.1.length ≤ 500 ∧ (rfText l2 b2 mn).2.1.length ≤ 500) := ⟨Nat.le_trans (rdText_len l1 b1 mn) HLR.out.1, Nat.le_trans (rfText_len l2 b2 mn) HLR.out.2⟩
          generalize rdText l1 b1 mn = y at *
          obtain ⟨y1, y2, y3⟩ := y
          generalize rfText l2 b2 mn = z at *
          obtain ⟨z1, z2, z3⟩ := z
          simp only at CP CX HRN HLN2
          generalize str y1 = y0 at *
          have fz : ∀ V, Frm (fun k => k = P ∨ k = Q) wr V → V.cell? ⟨b, o + j * 5 + 4, none⟩ = some (.int .i64 xm) := fun V h => HC4.out V (Below.trans HQ.out.2.2 (h.below HQ.out.2.2.size (fun k hk => by rcases hk with rfl | rfl; exact HPl.out; exact HQl.out)))
          have EQ : Hid (Frm (fun k => k = P ∨ k = Q) wr wr) := Frm.refl _ _
          have HRd : Hid (RdAt wr.drew P l1 b1) := HQ.out.1.stay (Ext.drewR (Ext.refl _))
          go_wp2
          clear c0
          refine rx_begin (fun k => k = P ∨ k = Q) (by kernel_rfl) ?_
          have EQd := Lib.hid (Frm.drew EQ.out)
          refine rx_take (i := 0) (v := ?_) rfl (by kernel_rfl) (by kernel_rfl) (by kernel_rfl) (fun _ _ _ h => h) (by rfl) ?_ ?_
          rotate_left
          · intro W hW; have hW0 := Frm.tr EQd.out hW; clear hW; go_simp <;> with_reducible rfl
          try simp only [Act.put, List.setIfInBounds_toArray, List.set_cons_zero, List.set_cons_succ]
          refine rx_take (i := 1) (v := ?_) rfl (by kernel_rfl) (by kernel_rfl) (by kernel_rfl) (fun _ _ _ h => h) (by rfl) ?_ ?_
          rotate_left
          · intro W hW; have hW0 := Frm.tr EQd.out hW; clear hW; go_simp <;> with_reducible rfl
          try simp only [Act.put, List.setIfInBounds_toArray, List.set_cons_zero, List.set_cons_succ]
          refine rx_take (i := 2) (v := ?_) rfl (by kernel_rfl) (by kernel_rfl) (by kernel_rfl) (fun _ _ _ h => h) (by rfl) ?_ ?_
          rotate_left
          · intro W hW; have hW0 := Frm.tr EQd.out hW; clear hW; go_simp <;> with_reducible rfl
          try simp only [Act.put, List.setIfInBounds_toArray, List.set_cons_zero, List.set_cons_succ]
          refine rx_take (i := 3) (v := ?_) rfl (by kernel_rfl) (by kernel_rfl) (by kernel_rfl) (fun _ _ _ h => h) (by rfl) ?_ ?_
          rotate_left
          · intro W hW; have hW0 := Frm.tr EQd.out hW; clear hW; go_simp <;> with_reducible rfl
          try simp only [Act.put, List.setIfInBounds_toArray, List.set_cons_zero, List.set_cons_succ]
          refine rx_take (i := 4) (v := ?_) rfl (by kernel_rfl) (by kernel_rfl) (by kernel_rfl) (fun _ _ _ h => h) (by rfl) ?_ ?_
          rotate_left
          · intro W hW; have hW0 := Frm.tr EQd.out hW; clear hW; go_simp <;> with_reducible rfl
          try simp only [Act.put, List.setIfInBounds_toArray, List.set_cons_zero, List.set_cons_succ]
          refine rx_take (i := 5) (v := ?_) rfl (by kernel_rfl) (by kernel_rfl) (by kernel_rfl) (fun _ _ _ h => h) (by rfl) ?_ ?_
          rotate_left
          · intro W hW; have hW0 := Frm.tr EQd.out hW; clear hW; go_simp <;> with_reducible rfl
          try simp only [Act.put, List.setIfInBounds_toArray, List.set_cons_zero, List.set_cons_succ]
          refine rx_take (i := 7) (v := ?_) rfl (by kernel_rfl) (by kernel_rfl) (by kernel_rfl) (fun _ _ _ h => h) (by rfl) ?_ ?_
          rotate_left
          · intro W hW; have hW0 := Frm.tr EQd.out hW; clear hW; go_simp <;> with_reducible rfl
          try simp only [Act.put, List.setIfInBounds_toArray, List.set_cons_zero, List.set_cons_succ]
          refine rx_take (i := 8) (v := ?_) rfl (by kernel_rfl) (by kernel_rfl) (by kernel_rfl) (fun _ _ _ h => h) (by rfl) ?_ ?_
          rotate_left
          · intro W hW; have hW0 := Frm.tr EQd.out hW; clear hW; go_simp <;> with_reducible rfl
          try simp only [Act.put, List.setIfInBounds_toArray, List.set_cons_zero, List.set_cons_succ]
          refine rx_take (i := 9) (v := ?_) rfl (by kernel_rfl) (by kernel_rfl) (by kernel_rfl) (fun _ _ _ h => h) (by rfl) ?_ ?_
          rotate_left
          · intro W hW; have hW0 := Frm.tr EQd.out hW; clear hW; go_simp <;> with_reducible rfl
          try simp only [Act.put, List.setIfInBounds_toArray, List.set_cons_zero, List.set_cons_succ]
          refine rx_take (i := 10) (v := ?_) rfl (by kernel_rfl) (by kernel_rfl) (by kernel_rfl) (fun _ _ _ h => h) (by rfl) ?_ ?_
          rotate_left
          · intro W hW; have hW0 := Frm.tr EQd.out hW; clear hW; go_simp <;> with_reducible rfl
          try simp only [Act.put, List.setIfInBounds_toArray, List.set_cons_zero, List.set_cons_succ]
          refine rx_take (i := 11) (v := ?_) rfl (by kernel_rfl) (by kernel_rfl) (by kernel_rfl) (fun _ _ _ h => h) (by rfl) ?_ ?_
          rotate_left
          · intro W hW; have hW0 := Frm.tr EQd.out hW; clear hW; go_simp <;> with_reducible rfl
          try simp only [Act.put, List.setIfInBounds_toArray, List.set_cons_zero, List.set_cons_succ]
          refine rx_take (i := 12) (v := ?_) rfl (by kernel_rfl) (by kernel_rfl) (by kernel_rfl) (fun _ _ _ h => h) (by rfl) ?_ ?_
          rotate_left
          · intro W hW; have hW0 := Frm.tr EQd.out hW; clear hW; go_simp <;> with_reducible rfl
          try simp only [Act.put, List.setIfInBounds_toArray, List.set_cons_zero, List.set_cons_succ]
          refine rx_call (i := 6) rfl (by kernel_rfl) (by rfl) (fun K' hK => ?_)
          go_simp
          (go_at_call 25; (with_reducible refine (CP.out _ HRd.out).mono ?_); rintro e w5 ⟨rfl, hr, hf⟩; have hx := hf.mono (s' := fun k => k = P ∨ k = Q) (fun k hk => by first | exact .inl hk | exact .inr hk); refine hK _ _ hx ?_; clear hK)
          have Ew5 := Lib.hid (Frm.tr EQd.out hx)
          have HR5 := Lib.hid hr; have HF5 : Hid (Frm (fun k => k = P) wr w5) := Frm.of_drew hf; clear hr hf; have HX5 : Hid (RfAt w5 Q l2 b2) := Blk.frm HQ.out.2.1 HF5.out (fun e => HPQ.out e.symm)
          clear hx
          try simp only [Act.put, List.setIfInBounds_toArray, List.set_cons_zero, List.set_cons_succ]
          refine rx_call (i := 13) rfl (by kernel_rfl) (by rfl) (fun K' hK => ?_)
          go_simp
          (go_at_call 26; (with_reducible refine (CX.out _ HX5.out).mono ?_); rintro e w6 ⟨rfl, hr, hf⟩; have hx := hf.mono (s' := fun k => k = P ∨ k = Q) (fun k hk => by first | exact .inl hk | exact .inr hk); refine hK _ _ hx ?_; clear hK)
          have Ew6 := Lib.hid (Frm.tr Ew5.out hx)
          have HR6 := Lib.hid hr; have HF6 : Hid (Frm (fun k => k = Q) w5 w6) := hf; clear hr hf
          clear hx
          try simp only [Act.put, List.setIfInBounds_toArray, List.set_cons_zero, List.set_cons_succ]
          refine rx_take (i := 14) (v := .bool false) rfl (by kernel_rfl) (by kernel_rfl) (by kernel_rfl) (fun _ _ _ h => h) (by rfl) ?_ ?_
          · intro W hW; have hW0 := Frm.tr Ew6.out hW; clear hW; go_simp; all_goals (first | done | (simp; done))
          try simp only [Act.put, List.setIfInBounds_toArray, List.set_cons_zero, List.set_cons_succ]
          refine wpAnyH_done (by kernel_rfl) ?_ _
          have B6 : Hid (Below w.heap.size w w6) := Below.trans HQ.out.2.2 (Below.trans (HF5.out.below HQ.out.2.2.size (fun k hk => by rw [hk]; exact HPl.out)) (HF6.out.below (Nat.le_trans HQ.out.2.2.size HF5.out.size) (fun k hk => by rw [hk]; exact HQl.out)))
          have HRP : Hid (RdAt w6 P y2 y3) := HR5.out.frmQ HX5.out HPQ.out HF6.out
          clear fz CP CX
          go_wp2
          go_roundw
          case rel => exact ⟨j + 1, y2, y3, z2, z3, by omega, by go_num, HRN.out, HLN2.out, HRP.out, HR6.out, B6.out⟩
          case measure => simp [intOf]; omega
        by_cases hk2 : xk = 2
        · subst hk2
          have CP : Hid (∀ V, RdAt V P l1 b1 → Calls Try.prog 27 #[.pointer (some ⟨P, 0, none⟩)] V fun e w' => e = .returned (.bool (decide ((rdNum l1 b1 1).1 = 1))) ∧ RdAt w' P (rdNum l1 b1 1).2.1 (rdNum l1 b1 1).2.2 ∧ Frm (fun k => k = P) V w') := fun V hr => yesR_any P l1 b1 V hr (by have := HLR.out.1; omega)
          have CX : Hid (∀ V, RfAt V Q l2 b2 → Calls Try.prog 28 #[.pointer (some ⟨Q, 0, none⟩)] V fun e w' => e = .returned (.bool (decide ((rdNum l1 b1 1).1 = 1))) ∧ RfAt w' Q (rfYes l2 b2).2.1 (rfYes l2 b2).2.2 ∧ Frm (fun k => k = Q) V w') := fun V hr => by rw [(rel_yes HRL.out).1]; exact refYesR_any Q l2 b2 V hr (by have := HLR.out.2; omega)
          have HRN : Hid (Rel (rdNum l1 b1 1).2 (rfYes l2 b2).2) := (rel_yes HRL.out).2
          have HLN2 : Hid ((rdNum l1 b1 1).2.1.length ≤ 500 ∧ (rfYes l2 b2).2.1.length ≤ 500) := ⟨Nat.le_trans ((rdNum_len l1 b1 1).1) HLR.out.1, Nat.le_trans (rfYes_len l2 b2) HLR.out.2⟩
          generalize rdNum l1 b1 1 = y at *
          obtain ⟨y1, y2, y3⟩ := y
          generalize rfYes l2 b2 = z at *
          obtain ⟨z1, z2, z3⟩ := z
          simp only at CP CX HRN HLN2
          generalize decide (y1 = 1) = y0 at *
          have HFa : Hid (∀ W, Frm (fun k => k = P) wr W → RfAt W Q l2 b2) := fun W h => Blk.frm HQ.out.2.1 h (fun e => HPQ.out e.symm)
          have HFb : Hid (∀ W W', Frm (fun k => k = P) wr W → Frm (fun k => k = Q) W W' → Below w.heap.size w W') := fun W W' h h' => Below.trans HQ.out.2.2 (Below.trans (h.below HQ.out.2.2.size (fun k hk => by rw [hk]; exact HPl.out)) (h'.below (Nat.le_trans HQ.out.2.2.size h.size) (fun k hk => by rw [hk]; exact HQl.out)))
          have HFc : Hid (∀ W W', Frm (fun k => k = P) wr W → RdAt W P y2 y3 → Frm (fun k => k = Q) W W' → RdAt W' P y2 y3) := fun W W' h0 hr h => hr.frmQ (HFa.out _ h0) HPQ.out h
          go_wp2_with (first | (go_at_call 27; (with_reducible refine (CP.out _ HQ.out.1).mono ?_); rintro e w5 ⟨rfl, hr, hf⟩; have HR5 := Lib.hid hr; have HF5 := Lib.hid hf; clear hr hf) | (go_at_call 28; (with_reducible refine (CX.out _ (HFa.out _ HF5.out)).mono ?_); rintro e w6 ⟨rfl, hr, hf⟩; have HR6 := Lib.hid hr; have HF6 := Lib.hid hf; clear hr hf))
          go_roundw
          case rel => exact ⟨j + 1, y2, y3, z2, z3, by omega, by go_num, HRN.out, HLN2.out, HFc.out _ _ HF5.out HR5.out HF6.out, HR6.out, HFb.out _ _ HF5.out HF6.out⟩
          case measure => simp [intOf]; omega
        have CP : Hid (∀ V, RdAt V P l1 b1 → Calls Try.prog 29 #[.pointer (some ⟨P, 0, none⟩)] V fun e w' => e = .returned (.int .i64 (endN l1 b1)) ∧ V = w') := fun V hr => endR_any P l1 b1 V hr (by have := HLR.out.1; omega)
        have CX : Hid (∀ V, RfAt V Q l2 b2 → Calls Try.prog 30 #[.pointer (some ⟨Q, 0, none⟩)] V fun e w' => e = .returned (.int .i64 (endN l1 b1)) ∧ V = w') := fun V hr => by rw [rel_end HRL.out]; exact refEnd_any Q l2 b2 V hr (by have := HLR.out.2; omega)
        generalize endN l1 b1 = y at *
        go_wp2_with (first | (go_at_call 29; (with_reducible refine (CP.out _ HQ.out.1).mono ?_); rintro e w5 ⟨rfl, rfl⟩) | (go_at_call 30; (with_reducible refine (CX.out _ HQ.out.2.1).mono ?_); rintro e w6 ⟨rfl, rfl⟩))
        go_roundw
        case rel => exact ⟨j + 1, l1, b1, l2, b2, by omega, by go_num, HRL.out, HLR.out, HQ.out⟩
        case measure => simp [intOf]; omega
      · obtain rfl : n = j := by omega
        have CP : Hid (∀ V, RdAt V P l1 b1 → Calls Try.prog 29 #[.pointer (some ⟨P, 0, none⟩)] V fun e w' => e = .returned (.int .i64 (endN l1 b1)) ∧ V = w') := fun V hr => endR_any P l1 b1 V hr (by have := HLR.out.1; omega)
        have CX : Hid (∀ V, RfAt V Q l2 b2 → Calls Try.prog 30 #[.pointer (some ⟨Q, 0, none⟩)] V fun e w' => e = .returned (.int .i64 (endN l1 b1)) ∧ V = w') := fun V hr => by rw [rel_end HRL.out]; exact refEnd_any Q l2 b2 V hr (by have := HLR.out.2; omega)
        generalize endN l1 b1 = y at *
        go_wp2_with (first | (go_at_call 21; (with_reducible refine (HTO.out _).mono ?_); rintro e w1 ⟨rfl, hx⟩; have HX := Lib.hid hx; have HPX : Hid (RdAt w1 P l1 b1) := HQ.out.1.stay hx; have HQX : Hid (RfAt w1 Q l2 b2) := Blk.stay HQ.out.2.1 hx; clear hx) | (go_at_call 29; (with_reducible refine (CP.out _ HPX.out).mono ?_); rintro e w5 ⟨rfl, rfl⟩) | (go_at_call 30; (with_reducible refine (CX.out _ HQX.out).mono ?_); rintro e w6 ⟨rfl, rfl⟩))
        try go_ret
        exact hD.out _ _ ⟨rfl, Below.step HQ.out.2.2 HX.out⟩
  · go_simp
    refine hK _ _ (Frm.of_alloc _ _ _) ?_; clear hK K
    obtain ⟨wb, hwb⟩ : ∃ W, W = (w.alloc (.cells #[.string (str l0), .bool false] 47)).drew := ⟨_, rfl⟩
    obtain ⟨Q, hQ⟩ : ∃ Q, Q = w.heap.size := ⟨_, rfl⟩
    have Ewb : Hid (Frm (fun _ => False) w wb) := by (show Frm _ _ _); rw [hwb]; exact Frm.drew (Frm.of_alloc _ _ _)
    have HQ1 : Hid (RfAt wb Q l0 false) := by (show RfAt _ _ _ _); rw [hwb, hQ]; exact Blk.new _ _ _
    have HQlt : Hid (Q < wb.heap.size) := Blk.lt HQ1.out
    have HQl : Hid (w.heap.size ≤ Q) := by (show _ ≤ _); have := (below_of_frm E0.out).size; rw [hQ]; exact this
    rw [← hwb, ← hQ]
    clear hwb hQ
    try simp only [Act.put, List.setIfInBounds_toArray, List.set_cons_zero, List.set_cons_succ]
    refine rz_call (i := 1) rfl (by kernel_rfl) (by rfl) (fun K hK => ?_)
    go_simp
    (go_at_call 22; (with_reducible refine (HNEW.out _ Ewb.out).mono ?_); rintro e wbn ⟨P, rfl, hr, hx, hP⟩; refine hK _ _ hx ?_; clear hK K)
    have Ewbn := Lib.hid (Frm.tr Ewb.out hx)
    have HP1 := Lib.hid hr
    have HPl : Hid (w.heap.size ≤ P) := Nat.le_trans (below_of_frm Ewb.out).size hP
    have HPlt : Hid (P < wbn.heap.size) := hr.lt
    have HPQ : Hid (P ≠ Q) := by (show _ ≠ _); have := HQlt.out; omega
    have HQ1 : Hid (RfAt wbn Q l0 false) := Blk.stay HQ1.out (below_of_frm hx)
    clear hP hr hx
    try simp only [Act.put, List.setIfInBounds_toArray, List.set_cons_zero, List.set_cons_succ]
    refine rz_take [7] (i := 6) (v := ?_) rfl (by kernel_rfl) (by kernel_rfl) (by kernel_rfl) (by kernel_rfl) (by kernel_rfl) (by kernel_rfl) (fun _ _ _ h => h) (by rfl) ?_ ?_
    rotate_left
    · intro W hW; have hW0 := Frm.tr Ewbn.out hW; clear hW; go_simp <;> with_reducible rfl
    try simp only [Act.put, List.setIfInBounds_toArray, List.set_cons_zero, List.set_cons_succ]
    refine rz_take [] (i := 7) (v := ?_) rfl (by kernel_rfl) (by kernel_rfl) (by kernel_rfl) (by kernel_rfl) (by kernel_rfl) (by kernel_rfl) (fun _ _ _ h => h) (by rfl) ?_ ?_
    rotate_left
    · intro W hW; have hW0 := Frm.tr Ewbn.out hW; clear hW; go_simp <;> with_reducible rfl
    try simp only [Act.put, List.setIfInBounds_toArray, List.set_cons_zero, List.set_cons_succ]
    refine rz_done (by kernel_rfl) ?_ _
    have HST : Hid (RdAt wbn P l0 false ∧ RfAt wbn Q l0 false ∧ Below w.heap.size w wbn) := ⟨HP1.out, HQ1.out, below_of_frm Ewbn.out⟩
    clear HP1 HQ1 HPlt HQlt HNEW hcv E0
    go_wp2
    go_loopw [7] (fun i wr => ∃ (j : Nat) (l1 : List UInt8) (b1 : Bool) (l2 : List UInt8) (b2 : Bool), j ≤ n ∧ i = .int .i64 j ∧ Hid (Rel (l1, b1) (l2, b2)) ∧ Hid (l1.length ≤ 500 ∧ l2.length ≤ 500) ∧ Hid (RdAt wr P l1 b1 ∧ RfAt wr Q l2 b2 ∧ Below w.heap.size w wr)) (fun i _ => n - (intOf i).toNat)
    case atStart => exact ⟨0, l0, false, l0, false, by omega, rfl, .inl ⟨rfl, rfl, rfl⟩, ⟨HL0.out, HL0.out⟩, HST.out⟩
    case round =>
      obtain ⟨j, l1, b1, l2, b2, hj, rfl, HRL, HLR, HQ⟩ := hrel
      by_cases hlt : j < n
      · obtain ⟨x, hx⟩ : ∃ x, l[j]? = some x := ⟨_, List.getElem?_eq_getElem (by rw [← HLN.out]; exact hlt)⟩
        obtain ⟨b, o, rfl, q0, q1, q2, q3, q4, hok⟩ := HS.out j x hx
        have c0 : wr.cell? ⟨b, o + j * 5, none⟩ = some (.int .i64 x.kind) := cell_stay HQ.out.2.2 q0
        have HC1 : Hid (∀ V, Below w.heap.size w V → V.cell? ⟨b, o + j * 5 + 1, none⟩ = some (.int .u64 x.n)) := fun V h => cell_stay h q1
        have HC4 : Hid (∀ V, Below w.heap.size w V → V.cell? ⟨b, o + j * 5 + 4, none⟩ = some (.int .i64 x.more)) := fun V h => cell_stay h q4
        have HOK := Lib.hid hok
        clear q0 q1 q2 q3 q4 hok hx
        obtain ⟨xk, xn, xs, xy, xm⟩ := x
        simp only at c0
        have HN64 : Hid (xn < 18446744073709551616) := HOK.out.1
        obtain ⟨mn, hmn⟩ : ∃ mn : Nat, mn ≤ 9223372036854775807 ∧ (xm = mn ∨ xm < 0 ∧ mn = 0) := ⟨xm.toNat, by have := HOK.out.2.2.2; simp only at this; omega, by omega⟩
        have HMN := Lib.hid hmn
        clear hmn HOK
        by_cases hk0 : xk = 0
        · subst hk0
          have CP : Hid (∀ V, RdAt V P l1 b1 → Calls Try.prog 23 #[.pointer (some ⟨P, 0, none⟩), .int .u64 xn] V fun e w' => e = .returned (.int .u64 (rdNum l1 b1 xn).1) ∧ RdAt w' P (rdNum l1 b1 xn).2.1 (rdNum l1 b1 xn).2.2 ∧ Frm (fun k => k = P) V w') := fun V hr => numR_any P l1 b1 xn V hr (by have := HLR.out.1; omega)
          have CX : Hid (∀ V, RfAt V Q l2 b2 → Calls Try.prog 24 #[.pointer (some ⟨Q, 0, none⟩), .int .u64 xn] V fun e w' => e = .returned (.int .u64 (rdNum l1 b1 xn).1) ∧ RfAt w' Q (rfNum l2 b2 xn).2.1 (rfNum l2 b2 xn).2.2 ∧ Frm (fun k => k = Q) V w') := fun V hr => by rw [(rel_num HRL.out xn).1]; exact refNumR_any Q l2 b2 xn V hr (by have := HLR.out.2; omega)
          have HRN : Hid (Rel (rdNum l1 b1 xn).2 (rfNum l2 b2 xn).2) := (rel_num HRL.out xn).2
          have HLN2 : Hid ((rdNum l1 b1 xn).2.1.length ≤ 500 ∧ (rfNum l2 b2 xn).2.1.length ≤ 500) := ⟨Nat.le_trans ((rdNum_len l1 b1 xn).1) HLR.out.1, Nat.le_trans ((rfNum_len l2 b2 xn).1) HLR.out.2⟩
          generalize rdNum l1 b1 xn = y at *
          obtain ⟨y1, y2, y3⟩ := y
          generalize rfNum l2 b2 xn = z at *
          obtain ⟨z1, z2, z3⟩ := z
          simp only at CP CX HRN HLN2
          have fz : ∀ V, Frm (fun k => k = P ∨ k = Q) wr V → V.cell? ⟨b, o + j * 5 + 1, none⟩ = some (.int .u64 xn) := fun V h => HC1.out V (Below.trans HQ.out.2.2 (h.below HQ.out.2.2.size (fun k hk => by rcases hk with rfl | rfl; exact HPl.out; exact HQl.out)))
          have EQ : Hid (Frm (fun k => k = P ∨ k = Q) wr wr) := Frm.refl _ _
          have HRd : Hid (RdAt wr.drew P l1 b1) := HQ.out.1.stay (Ext.drewR (Ext.refl _))
          go_wp2
          clear c0
          refine rx_begin (fun k => k = P ∨ k = Q) (by kernel_rfl) ?_
          have EQd := Lib.hid (Frm.drew EQ.out)
          refine rx_take (i := 0) (v := ?_) rfl (by kernel_rfl) (by kernel_rfl) (by kernel_rfl) (fun _ _ _ h => h) (by rfl) ?_ ?_
          rotate_left
          · intro W hW; have hW0 := Frm.tr EQd.out hW; clear hW; go_simp <;> with_reducible rfl
          try simp only [Act.put, List.setIfInBounds_toArray, List.set_cons_zero, List.set_cons_succ]
          refine rx_take (i := 1) (v := ?_) rfl (by kernel_rfl) (by kernel_rfl) (by kernel_rfl) (fun _ _ _ h => h) (by rfl) ?_ ?_
          rotate_left
          · intro W hW; have hW0 := Frm.tr EQd.out hW; clear hW; go_simp <;> with_reducible rfl
          try simp only [Act.put, List.setIfInBounds_toArray, List.set_cons_zero, List.set_cons_succ]
          refine rx_take (i := 2) (v := ?_) rfl (by kernel_rfl) (by kernel_rfl) (by kernel_rfl) (fun _ _ _ h => h) (by rfl) ?_ ?_
          rotate_left
          · intro W hW; have hW0 := Frm.tr EQd.out hW; clear hW; go_simp <;> with_reducible rfl
          try simp only [Act.put, List.setIfInBounds_toArray, List.set_cons_zero, List.set_cons_succ]
          refine rx_take (i := 3) (v := ?_) rfl (by kernel_rfl) (by kernel_rfl) (by kernel_rfl) (fun _ _ _ h => h) (by rfl) ?_ ?_
          rotate_left
          · intro W hW; have hW0 := Frm.tr EQd.out hW; clear hW; go_simp <;> with_reducible rfl
          try simp only [Act.put, List.setIfInBounds_toArray, List.set_cons_zero, List.set_cons_succ]
          refine rx_take (i := 4) (v := ?_) rfl (by kernel_rfl) (by kernel_rfl) (by kernel_rfl) (fun _ _ _ h => h) (by rfl) ?_ ?_
          rotate_left
          · intro W hW; have hW0 := Frm.tr EQd.out hW; clear hW; go_simp <;> with_reducible rfl
          try simp only [Act.put, List.setIfInBounds_toArray, List.set_cons_zero, List.set_cons_succ]
          refine rx_take (i := 5) (v := ?_) rfl (by kernel_rfl) (by kernel_rfl) (by kernel_rfl) (fun _ _ _ h => h) (by rfl) ?_ ?_
          rotate_left
          · intro W hW; have hW0 := Frm.tr EQd.out hW; clear hW; go_simp <;> with_reducible rfl
          try simp only [Act.put, List.setIfInBounds_toArray, List.set_cons_zero, List.set_cons_succ]
          refine rx_take (i := 7) (v := ?_) rfl (by kernel_rfl) (by kernel_rfl) (by kernel_rfl) (fun _ _ _ h => h) (by rfl) ?_ ?_
          rotate_left
          · intro W hW; have hW0 := Frm.tr EQd.out hW; clear hW; go_simp <;> with_reducible rfl
          try simp only [Act.put, List.setIfInBounds_toArray, List.set_cons_zero, List.set_cons_succ]
          refine rx_take (i := 8) (v := ?_) rfl (by kernel_rfl) (by kernel_rfl) (by kernel_rfl) (fun _ _ _ h => h) (by rfl) ?_ ?_
          rotate_left
          · intro W hW; have hW0 := Frm.tr EQd.out hW; clear hW; go_simp <;> with_reducible rfl
          try simp only [Act.put, List.setIfInBounds_toArray, List.set_cons_zero, List.set_cons_succ]
          refine rx_take (i := 9) (v := ?_) rfl (by kernel_rfl) (by kernel_rfl) (by kernel_rfl) (fun _ _ _ h => h) (by rfl) ?_ ?_
          rotate_left
          · intro W hW; have hW0 := Frm.tr EQd.out hW; clear hW; go_simp <;> with_reducible rfl
          try simp only [Act.put, List.setIfInBounds_toArray, List.set_cons_zero, List.set_cons_succ]
          refine rx_take (i := 10) (v := ?_) rfl (by kernel_rfl) (by kernel_rfl) (by kernel_rfl) (fun _ _ _ h => h) (by rfl) ?_ ?_
          rotate_left
          · intro W hW; have hW0 := Frm.tr EQd.out hW; clear hW; go_simp <;> with_reducible rfl
          try simp only [Act.put, List.setIfInBounds_toArray, List.set_cons_zero, List.set_cons_succ]
          refine rx_take (i := 11) (v := ?_) rfl (by kernel_rfl) (by kernel_rfl) (by kernel_rfl) (fun _ _ _ h => h) (by rfl) ?_ ?_
          rotate_left
          · intro W hW; have hW0 := Frm.tr EQd.out hW; clear hW; go_simp <;> with_reducible rfl
          try simp only [Act.put, List.setIfInBounds_toArray, List.set_cons_zero, List.set_cons_succ]
          refine rx_take (i := 12) (v := ?_) rfl (by kernel_rfl) (by kernel_rfl) (by kernel_rfl) (fun _ _ _ h => h) (by rfl) ?_ ?_
          rotate_left
          · intro W hW; have hW0 := Frm.tr EQd.out hW; clear hW; go_simp <;> with_reducible rfl
          try simp only [Act.put, List.setIfInBounds_toArray, List.set_cons_zero, List.set_cons_succ]
          refine rx_call (i := 6) rfl (by kernel_rfl) (by rfl) (fun K' hK => ?_)
          go_simp
          (go_at_call 23; (with_reducible refine (CP.out _ HRd.out).mono ?_); rintro e w5 ⟨rfl, hr, hf⟩; have hx := hf.mono (s' := fun k => k = P ∨ k = Q) (fun k hk => by first | exact .inl hk | exact .inr hk); refine hK _ _ hx ?_; clear hK)
          have Ew5 := Lib.hid (Frm.tr EQd.out hx)
          have HR5 := Lib.hid hr; have HF5 : Hid (Frm (fun k => k = P) wr w5) := Frm.of_drew hf; clear hr hf; have HX5 : Hid (RfAt w5 Q l2 b2) := Blk.frm HQ.out.2.1 HF5.out (fun e => HPQ.out e.symm)
          clear hx
          try simp only [Act.put, List.setIfInBounds_toArray, List.set_cons_zero, List.set_cons_succ]
          refine rx_call (i := 13) rfl (by kernel_rfl) (by rfl) (fun K' hK => ?_)
          go_simp
          (go_at_call 24; (with_reducible refine (CX.out _ HX5.out).mono ?_); rintro e w6 ⟨rfl, hr, hf⟩; have hx := hf.mono (s' := fun k => k = P ∨ k = Q) (fun k hk => by first | exact .inl hk | exact .inr hk); refine hK _ _ hx ?_; clear hK)
          have Ew6 := Lib.hid (Frm.tr Ew5.out hx)
          have HR6 := Lib.hid hr; have HF6 : Hid (Frm (fun k => k = Q) w5 w6) := hf; clear hr hf
          clear hx
          try simp only [Act.put, List.setIfInBounds_toArray, List.set_cons_zero, List.set_cons_succ]
          refine rx_take (i := 14) (v := .bool false) rfl (by kernel_rfl) (by kernel_rfl) (by kernel_rfl) (fun _ _ _ h => h) (by rfl) ?_ ?_
          · intro W hW; have hW0 := Frm.tr Ew6.out hW; clear hW; go_simp; all_goals (first | done | (simp; done))
          try simp only [Act.put, List.setIfInBounds_toArray, List.set_cons_zero, List.set_cons_succ]
          refine wpAnyH_done (by kernel_rfl) ?_ _
          have B6 : Hid (Below w.heap.size w w6) := Below.trans HQ.out.2.2 (Below.trans (HF5.out.below HQ.out.2.2.size (fun k hk => by rw [hk]; exact HPl.out)) (HF6.out.below (Nat.le_trans HQ.out.2.2.size HF5.out.size) (fun k hk => by rw [hk]; exact HQl.out)))
          have HRP : Hid (RdAt w6 P y2 y3) := HR5.out.frmQ HX5.out HPQ.out HF6.out
          clear fz CP CX
          go_wp2
          go_roundw
          case rel => exact ⟨j + 1, y2, y3, z2, z3, by omega, by go_num, HRN.out, HLN2.out, HRP.out, HR6.out, B6.out⟩
          case measure => simp [intOf]; omega
        by_cases hk1 : xk = 1
        · subst hk1
          have CP : Hid (∀ V, RdAt V P l1 b1 → Calls Try.prog 25 #[.pointer (some ⟨P, 0, none⟩), .int .i64 xm] V fun e w' => e = .returned (.string (str (rdText l1 b1 mn).1)) ∧ RdAt w' P (rdText l1 b1 mn).2.1 (rdText l1 b1 mn).2.2 ∧ Frm (fun k => k = P) V w') := fun V hr => textR_any P l1 b1 mn xm V HMN.out.2 hr (by have := HLR.out.1; omega) HMN.out.1
          have CX : Hid (∀ V, RfAt V Q l2 b2 → Calls Try.prog 26 #[.pointer (some ⟨Q, 0, none⟩), .int .i64 xm] V fun e w' => e = .returned (.string (str (rdText l1 b1 mn).1)) ∧ RfAt w' Q (rfText l2 b2 mn).2.1 (rfText l2 b2 mn).2.2 ∧ Frm (fun k => k = Q) V w') := fun V hr => by rw [show (rdText l1 b1 mn).1 = (rfText l2 b2 mn).1 from (rel_text HRL.out mn).1]; exact refTextR_any Q l2 b2 mn xm V HMN.out.2 hr (by have := HLR.out.2; omega) HMN.out.1
          have HRN : Hid (Rel (rdText l1 b1 mn).2 (rfText l2 b2 mn).2) := (rel_text HRL.out mn).2
          have HLN2 : Hid ((rdText l1 b1 mn).2.1.length ≤ 500 ∧ (rfText l2 b2 mn).2.1.length ≤ 500) := ⟨Nat.le_trans (rdText_len l1 b1 mn) HLR.out.1, Nat.le_trans (rfText_len l2 b2 mn) HLR.out.2⟩
          generalize rdText l1 b1 mn = y at *
          obtain ⟨y1, y2, y3⟩ := y
          generalize rfText l2 b2 mn = z at *
          obtain ⟨z1, z2, z3⟩ := z
          simp only at CP CX HRN HLN2
          generalize str y1 = y0 at *
          have fz : ∀ V, Frm (fun k => k = P ∨ k = Q) wr V → V.cell? ⟨b, o + j * 5 + 4, none⟩ = some (.int .i64 xm) := fun V h => HC4.out V (Below.trans HQ.out.2.2 (h.below HQ.out.2.2.size (fun k hk => by rcases hk with rfl | rfl; exact HPl.out; exact HQl.out)))
          have EQ : Hid (Frm (fun k => k = P ∨ k = Q) wr wr) := Frm.refl _ _
          have HRd : Hid (RdAt wr.drew P l1 b1) := HQ.out.1.stay (Ext.drewR (Ext.refl _))
          go_wp2
          clear c0
          refine rx_begin (fun k => k = P ∨ k = Q) (by kernel_rfl) ?_
          have EQd := Lib.hid (Frm.drew EQ.out)
          refine rx_take (i := 0) (v := ?_) rfl (by kernel_rfl) (by kernel_rfl) (by kernel_rfl) (fun _ _ _ h => h) (by rfl) ?_ ?_
          rotate_left
          · intro W hW; have hW0 := Frm.tr EQd.out hW; clear hW; go_simp <;> with_reducible rfl
          try simp only [Act.put, List.setIfInBounds_toArray, List.set_cons_zero, List.set_cons_succ]
          refine rx_take (i := 1) (v := ?_) rfl (by kernel_rfl) (by kernel_rfl) (by kernel_rfl) (fun _ _ _ h => h) (by rfl) ?_ ?_
          rotate_left
          · intro W hW; have hW0 := Frm.tr EQd.out hW; clear hW; go_simp <;> with_reducible rfl
          try simp only [Act.put, List.setIfInBounds_toArray, List.set_cons_zero, List.set_cons_succ]
          refine rx_take (i := 2) (v := ?_) rfl (by kernel_rfl) (by kernel_rfl) (by kernel_rfl) (fun _ _ _ h => h) (by rfl) ?_ ?_
          rotate_left
          · intro W hW; have hW0 := Frm.tr EQd.out hW; clear hW; go_simp <;> with_reducible rfl
          try simp only [Act.put, List.setIfInBounds_toArray, List.set_cons_zero, List.set_cons_succ]
          refine rx_take (i := 3) (v := ?_) rfl (by kernel_rfl) (by kernel_rfl) (by kernel_rfl) (fun _ _ _ h => h) (by rfl) ?_ ?_
          rotate_left
          · intro W hW; have hW0 := Frm.tr EQd.out hW; clear hW; go_simp <;> with_reducible rfl
          try simp only [Act.put, List.setIfInBounds_toArray, List.set_cons_zero, List.set_cons_succ]
          refine rx_take (i := 4) (v := ?_) rfl (by kernel_rfl) (by kernel_rfl) (by kernel_rfl) (fun _ _ _ h => h) (by rfl) ?_ ?_
          rotate_left
          · intro W hW; have hW0 := Frm.tr EQd.out hW; clear hW; go_simp <;> with_reducible rfl
          try simp only [Act.put, List.setIfInBounds_toArray, List.set_cons_zero, List.set_cons_succ]
          refine rx_take (i := 5) (v := ?_) rfl (by kernel_rfl) (by kernel_rfl) (by kernel_rfl) (fun _ _ _ h => h) (by rfl) ?_ ?_
          rotate_left
          · intro W hW; have hW0 := Frm.tr EQd.out hW; clear hW; go_simp <;> with_reducible rfl
          try simp only [Act.put, List.setIfInBounds_toArray, List.set_cons_zero, List.set_cons_succ]
          refine rx_take (i := 7) (v := ?_) rfl (by kernel_rfl) (by kernel_rfl) (by kernel_rfl) (fun _ _ _ h => h) (by rfl) ?_ ?_
          rotate_left
          · intro W hW; have hW0 := Frm.tr EQd.out hW; clear hW; go_simp <;> with_reducible rfl
          try simp only [Act.put, List.setIfInBounds_toArray, List.set_cons_zero, List.set_cons_succ]
          refine rx_take (i := 8) (v := ?_) rfl (by kernel_rfl) (by kernel_rfl) (by kernel_rfl) (fun _ _ _ h => h) (by rfl) ?_ ?_
          rotate_left
          · intro W hW; have hW0 := Frm.tr EQd.out hW; clear hW; go_simp <;> with_reducible rfl
          try simp only [Act.put, List.setIfInBounds_toArray, List.set_cons_zero, List.set_cons_succ]
          refine rx_take (i := 9) (v := ?_) rfl (by kernel_rfl) (by kernel_rfl) (by kernel_rfl) (fun _ _ _ h => h) (by rfl) ?_ ?_
          rotate_left
          · intro W hW; have hW0 := Frm.tr EQd.out hW; clear hW; go_simp <;> with_reducible rfl
          try simp only [Act.put, List.setIfInBounds_toArray, List.set_cons_zero, List.set_cons_succ]
          refine rx_take (i := 10) (v := ?_) rfl (by kernel_rfl) (by kernel_rfl) (by kernel_rfl) (fun _ _ _ h => h) (by rfl) ?_ ?_
          rotate_left
          · intro W hW; have hW0 := Frm.tr EQd.out hW; clear hW; go_simp <;> with_reducible rfl
          try simp only [Act.put, List.setIfInBounds_toArray, List.set_cons_zero, List.set_cons_succ]
          refine rx_take (i := 11) (v := ?_) rfl (by kernel_rfl) (by kernel_rfl) (by kernel_rfl) (fun _ _ _ h => h) (by rfl) ?_ ?_
          rotate_left
          · intro W hW; have hW0 := Frm.tr EQd.out hW; clear hW; go_simp <;> with_reducible rfl
          try simp only [Act.put, List.setIfInBounds_toArray, List.set_cons_zero, List.set_cons_succ]
          refine rx_take (i := 12) (v := ?_) rfl (by kernel_rfl) (by kernel_rfl) (by kernel_rfl) (fun _ _ _ h => h) (by rfl) ?_ ?_
          rotate_left
          · intro W hW; have hW0 := Frm.tr EQd.out hW; clear hW; go_simp <;> with_reducible rfl
          try simp only [Act.put, List.setIfInBounds_toArray, List.set_cons_zero, List.set_cons_succ]
          refine rx_call (i := 6) rfl (by kernel_rfl) (by rfl) (fun K' hK => ?_)
          go_simp
          (go_at_call 25; (with_reducible refine (CP.out _ HRd.out).mono ?_); rintro e w5 ⟨rfl, hr, hf⟩; have hx := hf.mono (s' := fun k => k = P ∨ k = Q) (fun k hk => by first | exact .inl hk | exact .inr hk); refine hK _ _ hx ?_; clear hK)
          have Ew5 := Lib.hid (Frm.tr EQd.out hx)
          have HR5 := Lib.hid hr; have HF5 : Hid (Frm (fun k => k = P) wr w5) := Frm.of_drew hf; clear hr hf; have HX5 : Hid (RfAt w5 Q l2 b2) := Blk.frm HQ.out.2.1 HF5.out (fun e => HPQ.out e.symm)
          clear hx
          try simp only [Act.put, List.setIfInBounds_toArray, List.set_cons_zero, List.set_cons_succ]
          refine rx_call (i := 13) rfl (by kernel_rfl) (by rfl) (fun K' hK => ?_)
          go_simp
          (go_at_call 26; (with_reducible refine (CX.out _ HX5.out).mono ?_); rintro e w6 ⟨rfl, hr, hf⟩; have hx := hf.mono (s' := fun k => k = P ∨ k = Q) (fun k hk => by first | exact .inl hk | exact .inr hk); refine hK _ _ hx ?_; clear hK)
          have Ew6 := Lib.hid (Frm.tr Ew5.out hx)
          have HR6 := Lib.hid hr; have HF6 : Hid (Frm (fun k => k = Q) w5 w6) := hf; clear hr hf
          clear hx
          try simp only [Act.put, List.setIfInBounds_toArray, List.set_cons_zero, List.set_cons_succ]
          refine rx_take (i := 14) (v := .bool false) rfl (by kernel_rfl) (by kernel_rfl) (by kernel_rfl) (fun _ _ _ h => h) (by rfl) ?_ ?_
          · intro W hW; have hW0 := Frm.tr Ew6.out hW; clear hW; go_simp; all_goals (first | done | (simp; done))
          try simp only [Act.put, List.setIfInBounds_toArray, List.set_cons_zero, List.set_cons_succ]
          refine wpAnyH_done (by kernel_rfl) ?_ _
          have B6 : Hid (Below w.heap.size w w6) := Below.trans HQ.out.2.2 (Below.trans (HF5.out.below HQ.out.2.2.size (fun k hk => by rw [hk]; exact HPl.out)) (HF6.out.below (Nat.le_trans HQ.out.2.2.size HF5.out.size) (fun k hk => by rw [hk]; exact HQl.out)))
          have HRP : Hid (RdAt w6 P y2 y3) := HR5.out.frmQ HX5.out HPQ.out HF6.out
          clear fz CP CX
          go_wp2
          go_roundw
          case rel => exact ⟨j + 1, y2, y3, z2, z3, by omega, by go_num, HRN.out, HLN2.out, HRP.out, HR6.out, B6.out⟩
          case measure => simp [intOf]; omega
        by_cases hk2 : xk = 2
        · subst hk2
          have CP : Hid (∀ V, RdAt V P l1 b1 → Calls Try.prog 27 #[.pointer (some ⟨P, 0, none⟩)] V fun e w' => e = .returned (.bool (decide ((rdNum l1 b1 1).1 = 1))) ∧ RdAt w' P (rdNum l1 b1 1).2.1 (rdNum l1 b1 1).2.2 ∧ Frm (fun k => k = P) V w') := fun V hr => yesR_any P l1 b1 V hr (by have := HLR.out.1; omega)
          have CX : Hid (∀ V, RfAt V Q l2 b2 → Calls Try.prog 28 #[.pointer (some ⟨Q, 0, none⟩)] V fun e w' => e = .returned (.bool (decide ((rdNum l1 b1 1).1 = 1))) ∧ RfAt w' Q (rfYes l2 b2).2.1 (rfYes l2 b2).2.2 ∧ Frm (fun k => k = Q) V w') := fun V hr => by rw [(rel_yes HRL.out).1]; exact refYesR_any Q l2 b2 V hr (by have := HLR.out.2; omega)
          have HRN : Hid (Rel (rdNum l1 b1 1).2 (rfYes l2 b2).2) := (rel_yes HRL.out).2
          have HLN2 : Hid ((rdNum l1 b1 1).2.1.length ≤ 500 ∧ (rfYes l2 b2).2.1.length ≤ 500) := ⟨Nat.le_trans ((rdNum_len l1 b1 1).1) HLR.out.1, Nat.le_trans (rfYes_len l2 b2) HLR.out.2⟩
          generalize rdNum l1 b1 1 = y at *
          obtain ⟨y1, y2, y3⟩ := y
          generalize rfYes l2 b2 = z at *
          obtain ⟨z1, z2, z3⟩ := z
          simp only at CP CX HRN HLN2
          generalize decide (y1 = 1) = y0 at *
          have HFa : Hid (∀ W, Frm (fun k => k = P) wr W → RfAt W Q l2 b2) := fun W h => Blk.frm HQ.out.2.1 h (fun e => HPQ.out e.symm)
          have HFb : Hid (∀ W W', Frm (fun k => k = P) wr W → Frm (fun k => k = Q) W W' → Below w.heap.size w W') := fun W W' h h' => Below.trans HQ.out.2.2 (Below.trans (h.below HQ.out.2.2.size (fun k hk => by rw [hk]; exact HPl.out)) (h'.below (Nat.le_trans HQ.out.2.2.size h.size) (fun k hk => by rw [hk]; exact HQl.out)))
          have HFc : Hid (∀ W W', Frm (fun k => k = P) wr W → RdAt W P y2 y3 → Frm (fun k => k = Q) W W' → RdAt W' P y2 y3) := fun W W' h0 hr h => hr.frmQ (HFa.out _ h0) HPQ.out h
          go_wp2_with (first | (go_at_call 27; (with_reducible refine (CP.out _ HQ.out.1).mono ?_); rintro e w5 ⟨rfl, hr, hf⟩; have HR5 := Lib.hid hr; have HF5 := Lib.hid hf; clear hr hf) | (go_at_call 28; (with_reducible refine (CX.out _ (HFa.out _ HF5.out)).mono ?_); rintro e w6 ⟨rfl, hr, hf⟩; have HR6 := Lib.hid hr; have HF6 := Lib.hid hf; clear hr hf))
          go_roundw
          case rel => exact ⟨j + 1, y2, y3, z2, z3, by omega, by go_num, HRN.out, HLN2.out, HFc.out _ _ HF5.out HR5.out HF6.out, HR6.out, HFb.out _ _ HF5.out HF6.out⟩
          case measure => simp [intOf]; omega
        have CP : Hid (∀ V, RdAt V P l1 b1 → Calls Try.prog 29 #[.pointer (some ⟨P, 0, none⟩)] V fun e w' => e = .returned (.int .i64 (endN l1 b1)) ∧ V = w') := fun V hr => endR_any P l1 b1 V hr (by have := HLR.out.1; omega)
        have CX : Hid (∀ V, RfAt V Q l2 b2 → Calls Try.prog 30 #[.pointer (some ⟨Q, 0, none⟩)] V fun e w' => e = .returned (.int .i64 (endN l1 b1)) ∧ V = w') := fun V hr => by rw [rel_end HRL.out]; exact refEnd_any Q l2 b2 V hr (by have := HLR.out.2; omega)
        generalize endN l1 b1 = y at *
        go_wp2_with (first | (go_at_call 29; (with_reducible refine (CP.out _ HQ.out.1).mono ?_); rintro e w5 ⟨rfl, rfl⟩) | (go_at_call 30; (with_reducible refine (CX.out _ HQ.out.2.1).mono ?_); rintro e w6 ⟨rfl, rfl⟩))
        go_roundw
        case rel => exact ⟨j + 1, l1, b1, l2, b2, by omega, by go_num, HRL.out, HLR.out, HQ.out⟩
        case measure => simp [intOf]; omega
      · obtain rfl : n = j := by omega
        have CP : Hid (∀ V, RdAt V P l1 b1 → Calls Try.prog 29 #[.pointer (some ⟨P, 0, none⟩)] V fun e w' => e = .returned (.int .i64 (endN l1 b1)) ∧ V = w') := fun V hr => endR_any P l1 b1 V hr (by have := HLR.out.1; omega)
        have CX : Hid (∀ V, RfAt V Q l2 b2 → Calls Try.prog 30 #[.pointer (some ⟨Q, 0, none⟩)] V fun e w' => e = .returned (.int .i64 (endN l1 b1)) ∧ V = w') := fun V hr => by rw [rel_end HRL.out]; exact refEnd_any Q l2 b2 V hr (by have := HLR.out.2; omega)
        generalize endN l1 b1 = y at *
        go_wp2_with (first | (go_at_call 21; (with_reducible refine (HTO.out _).mono ?_); rintro e w1 ⟨rfl, hx⟩; have HX := Lib.hid hx; have HPX : Hid (RdAt w1 P l1 b1) := HQ.out.1.stay hx; have HQX : Hid (RfAt w1 Q l2 b2) := Blk.stay HQ.out.2.1 hx; clear hx) | (go_at_call 29; (with_reducible refine (CP.out _ HPX.out).mono ?_); rintro e w5 ⟨rfl, rfl⟩) | (go_at_call 30; (with_reducible refine (CX.out _ HQX.out).mono ?_); rintro e w6 ⟨rfl, rfl⟩))
        try go_ret
        exact hD.out _ _ ⟨rfl, Below.step HQ.out.2.2 HX.out⟩
set_option maxRecDepth 100000 in
theorem law_packReads {H : Type} {enc : TypeId × Value → H} (W : World) (base : Nat) (args : Array Value) (ds : List (DataW H)) (p : List MemPlace)
    (hval : ∀ (j : Nat) t v, Try.f7.params[j]? = some t → args[j]? = some v → Value.okWide Try.prog W .any base t v)
    (hA : DataW.TrodAll enc Try.prog W 0 (fun _ => true) true Try.f7.params.toList args.toList ds p) :
    Calls Try.prog 7 args W fun e W' => e = .returned (.bool true) ∧ Below W.heap.size W W' := by
  rw [Try.params7] at hA hval
  obtain ⟨v0, vs0, d0, ds0, p0, q0, hargs, rfl, rfl, h0, r0⟩ := trodAll_cons hA
  obtain ⟨v1, vs1, d1, ds1, p1, q1, rfl, rfl, rfl, h1, r1⟩ := trodAll_cons r0
  obtain ⟨rfl, rfl, rfl⟩ := trodAll_nil r1
  obtain rfl : args = #[v0, v1] := by cases args; simp_all
  obtain ⟨A0, n0, c0, rfl⟩ := okWide_slice Try.underlying22 (hval 0 22 v0 rfl rfl)
  obtain ⟨fuel0, hf0⟩ := h0
  obtain ⟨B0, e0, l0, hcs0, x0, y0, z0⟩ := trod_bytes_sl Try.underlying22 Try.underlying5 cells_byte hf0
  simp only [Value.cells, List.cons.injEq, Value.slice.injEq, and_true] at hcs0
  obtain ⟨rfl, rfl, rfl⟩ := hcs0
  obtain ⟨A1, n1, c1, rfl⟩ := okWide_slice Try.underlying42 (hval 1 42 v1 rfl rfl)
  obtain ⟨fuel1, hf1⟩ := h1
  obtain ⟨B1, l1, e1, hcs1, x1, y1⟩ := open_ops1 hf1
  simp only [Value.cells, List.cons.injEq, Value.slice.injEq, and_true] at hcs1
  obtain ⟨rfl, rfl, rfl⟩ := hcs1
  exact walk_packReads A0 c0 l0 A1 l1 c1 W (Nat.le_trans x0 y0) z0 x1 y1

end Go.Proofs.Ytgcclkdlomifcaa
