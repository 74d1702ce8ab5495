/-
  The walk of the law BallotBytes.
-/
import Derived.Test.YtgcclkdlomifcaaBalPack
import Derived.Test.YtgcclkdlomifcaaToldBal
import Derived.Test.YtgcclkdlomifcaaOpen
namespace Go.Proofs.Ytgcclkdlomifcaa
set_option linter.unusedVariables false
set_option linter.unusedSimpArgs false
open Go.RowKit Go.ChangeShapes Go.WideShapes Go.Joins Go.Deep

set_option maxRecDepth 20000 in
/-- a ballot that came in -/
theorem open_bal {H : Type} {enc : TypeId × Value → H} {W : World} {base : Nat} {r : Reach} {v : Value} {d : DataW H} {p : List MemPlace}
    (hval : Value.okWide Try.prog W r base 56 v) (h : DataW.Trod enc Try.prog W 0 (fun _ => true) true 56 v d p) :
    ∃ (x y : Int), v = .agg #[.int .i64 x, .int .i64 y] ∧ (Lit.int .i64 x).wf = true ∧ (Lit.int .i64 y).wf = true := by
  obtain ⟨c0, c1, y0, y1, m, rfl, _, _, hy0, hy1⟩ := open_agg2 Try.underlying56 (by kernel_rfl) (by kernel_rfl) hval h
  obtain ⟨x, e0, _, w0⟩ := DataW.trod_int Try.underlying3 hy0
  obtain ⟨y, e1, _, w1⟩ := DataW.trod_int Try.underlying3 hy1
  simp only [List.cons.injEq, and_true] at e0 e1
  subst e0; subst e1
  exact ⟨x, y, rfl, w0, w1⟩


set_option maxRecDepth 8000 in
set_option maxHeartbeats 4000000 in
theorem refPutBal_any (r n : Nat) (w : World) (hr : r ≤ 1099511627776) (hn : n ≤ 1099511627776) :
    Calls Try.prog 36 #[.agg #[.int .i64 r, .int .i64 n]] w fun e w' => e = .returned (.string (str (numB r ++ numB n))) ∧ Ext w w' := by
  refine hide_post fun D hD => ?_
  obtain ⟨W0, hW0⟩ : ∃ W0, W0 = w.alloc (.cells #[.int .i64 r, .int .i64 n] 56) := ⟨_, rfl⟩
  have hx0 : Ext w W0 := by rw [hW0]; exact Ext.alloc _ _
  have kB : Blk W0 w.heap.size 56 #[.int .i64 r, .int .i64 n] := by rw [hW0]; exact Blk.new _ _ _
  have fz0 : ∀ V, Ext W0 V → V.cell? ⟨w.heap.size, 0, none⟩ = some (.int .i64 r) := fun V h => (kB.stay h).cell 0
  have fz1 : ∀ V, Ext W0 V → V.cell? ⟨w.heap.size, 1, none⟩ = some (.int .i64 n) := fun V h => (kB.stay h).cell 1
  have C1 : Hid (∀ V, Ext W0 V → Calls Try.prog 66 #[.int .u64 r] V fun e w' => e = .returned (.string (str (numB r))) ∧ Ext V w') := fun V _ => refNum_any r V (by omega)
  have C2 : Hid (∀ V, Ext W0 V → Calls Try.prog 66 #[.int .u64 n] V fun e w' => e = .returned (.string (str (numB n))) ∧ Ext V w') := fun V _ => refNum_any n V (by omega)
  have hsum : (str (numB r)).size + (str (numB n)).size ≤ 1000000000 := by rw [str_size, str_size]; have h1 : (numB r).length ≤ 10 := numF_len 10 r; have h2 : (numB n).length ≤ 10 := numF_len 10 n; omega
  have hq1 : IntKind.u64.wrap (r : Int) = (r : Int) := wrap_u64_int r (by omega)
  have hq2 : IntKind.u64.wrap (n : Int) = (n : Int) := wrap_u64_int n (by omega)
  rw [str_appB] at hD
  have E0 : Hid (Ext W0 W0) := Ext.refl _
  have HX0 := Lib.hid hx0
  have HW0 := Lib.hid hW0
  clear hx0 hW0 kB
  go_enter Try.func36, Try.ntmps36
  go_wp2
  rw [← HW0.out]
  refine ext_begin (by kernel_rfl) ?_
  have E0d := Lib.hid (Ext.drewR E0.out)
  refine ext_take (i := 0) (v := ?_) rfl (by kernel_rfl) (by kernel_rfl) (by kernel_rfl) (fun _ _ _ h => h) (by rfl) ?_ ?_
  rotate_left
  · intro W hW; have hW0 := Ext.trans E0d.out hW; clear hW; go_simp <;> with_reducible rfl
  try simp only [Act.put, List.setIfInBounds_toArray, List.set_cons_zero, List.set_cons_succ]
  refine ext_take (i := 1) (v := ?_) rfl (by kernel_rfl) (by kernel_rfl) (by kernel_rfl) (fun _ _ _ h => h) (by rfl) ?_ ?_
  rotate_left
  · intro W hW; have hW0 := Ext.trans E0d.out hW; clear hW; go_simp <;> with_reducible rfl
  try simp only [Act.put, List.setIfInBounds_toArray, List.set_cons_zero, List.set_cons_succ]
  refine ext_take (i := 2) (v := ?_) rfl (by kernel_rfl) (by kernel_rfl) (by kernel_rfl) (fun _ _ _ h => h) (by rfl) ?_ ?_
  rotate_left
  · intro W hW; have hW0 := Ext.trans E0d.out hW; clear hW; go_simp <;> with_reducible rfl
  try simp only [Act.put, List.setIfInBounds_toArray, List.set_cons_zero, List.set_cons_succ]
  refine ext_take (i := 4) (v := ?_) rfl (by kernel_rfl) (by kernel_rfl) (by kernel_rfl) (fun _ _ _ h => h) (by rfl) ?_ ?_
  rotate_left
  · intro W hW; have hW0 := Ext.trans E0d.out hW; clear hW; go_simp <;> with_reducible rfl
  try simp only [Act.put, List.setIfInBounds_toArray, List.set_cons_zero, List.set_cons_succ]
  refine ext_take (i := 5) (v := ?_) rfl (by kernel_rfl) (by kernel_rfl) (by kernel_rfl) (fun _ _ _ h => h) (by rfl) ?_ ?_
  rotate_left
  · intro W hW; have hW0 := Ext.trans E0d.out hW; clear hW; go_simp <;> with_reducible rfl
  try simp only [Act.put, List.setIfInBounds_toArray, List.set_cons_zero, List.set_cons_succ]
  refine ext_take (i := 6) (v := ?_) rfl (by kernel_rfl) (by kernel_rfl) (by kernel_rfl) (fun _ _ _ h => h) (by rfl) ?_ ?_
  rotate_left
  · intro W hW; have hW0 := Ext.trans E0d.out hW; clear hW; go_simp <;> with_reducible rfl
  try simp only [Act.put, List.setIfInBounds_toArray, List.set_cons_zero, List.set_cons_succ]
  refine ext_call (i := 3) rfl (by kernel_rfl) (by rfl) (fun K' hK => ?_)
  go_simp
  (go_at_call 66; (with_reducible refine (C1.out _ E0d.out).mono ?_); rintro e w1 ⟨rfl, hx⟩; refine hK _ _ hx ?_; clear hK)
  have Ew1 := Lib.hid (Ext.trans E0d.out hx)
  clear hx
  try simp only [Act.put, List.setIfInBounds_toArray, List.set_cons_zero, List.set_cons_succ]
  refine ext_call (i := 7) rfl (by kernel_rfl) (by rfl) (fun K' hK => ?_)
  go_simp
  (go_at_call 66; (with_reducible refine (C2.out _ Ew1.out).mono ?_); rintro e w2 ⟨rfl, hx⟩; refine hK _ _ hx ?_; clear hK)
  have Ew2 := Lib.hid (Ext.trans Ew1.out hx)
  clear hx
  try simp only [Act.put, List.setIfInBounds_toArray, List.set_cons_zero, List.set_cons_succ]
  refine ext_take (i := 8) (v := .string (str (numB r) ++ str (numB n))) rfl (by kernel_rfl) (by kernel_rfl) (by kernel_rfl) (fun _ _ _ h => h) (by rfl) ?_ ?_
  · intro W hW; have hW0 := Ext.trans Ew2.out hW; clear hW; go_simp; all_goals (first | done | omega)
  try simp only [Act.put, List.setIfInBounds_toArray, List.set_cons_zero, List.set_cons_succ]
  refine ext_take (i := 9) (v := ?_) rfl (by kernel_rfl) (by kernel_rfl) (by kernel_rfl) (fun _ _ _ h => h) (by rfl) ?_ ?_
  rotate_left
  · intro W hW; have hW0 := Ext.trans Ew2.out hW; clear hW; go_simp <;> with_reducible rfl
  try simp only [Act.put, List.setIfInBounds_toArray, List.set_cons_zero, List.set_cons_succ]
  refine wpAnyH_done (by kernel_rfl) ?_ _
  clear fz0 fz1
  go_wp2
  try go_ret
  exact hD.out _ _ ⟨rfl, Ext.trans HX0.out Ew2.out⟩

set_option maxRecDepth 8000 in
set_option maxHeartbeats 16000000 in
theorem walk_ballotBytes (ri ni : Int) (A : Option Addr) (cap : Nat) (lt : List UInt8) (w : World) (hlt : lt.length ≤ 9223372036854775807) (hs : Sl Go.Proofs.Ytgcclkdlomifcaa.u8 w A lt) :
    Calls Try.prog 8 #[.agg #[.int .i64 ri, .int .i64 ni], .slice A lt.length cap] w fun e w' => e = .returned (.bool true) ∧ Below w.heap.size w w' := by
  refine hide_post fun DP hD => ?_
  have HTO : Hid (∀ V, Calls Try.prog 32 #[] V fun e w' => e = .returned (.bool true) ∧ Ext V w') := told_bal
  obtain ⟨W0, hW0⟩ : ∃ W0, W0 = w.alloc (.cells #[.int .i64 ri, .int .i64 ni] 56) := ⟨_, rfl⟩
  have hx0 : Ext w W0 := by rw [hW0]; exact Ext.alloc _ _
  have kB : Blk W0 w.heap.size 56 #[.int .i64 ri, .int .i64 ni] := by rw [hW0]; exact Blk.new _ _ _
  have HM : Hid (∀ b, mayBal ri ni = b → Calls Try.prog 31 #[.agg #[.int .i64 ri, .int .i64 ni]] W0 fun e w' => e = .returned (.bool b) ∧ Ext W0 w') := fun b hb => by rw [← hb]; exact mayBal_any ri ni W0
  have HSL : Hid (∀ V, Ext w V → Sl Go.Proofs.Ytgcclkdlomifcaa.u8 V A lt) := fun V h => hs.stay h
  obtain ⟨m, hm⟩ : ∃ m, m = lt.length := ⟨_, rfl⟩
  rw [← hm] at hlt ⊢
  have HML := Lib.hid hm
  have HX0 := Lib.hid hx0
  have HW0 := Lib.hid hW0
  have KB := Lib.hid kB
  clear hx0 hW0 kB hm hs
  cases hmb : mayBal ri ni
  case false =>
    have HM1 := Lib.hid (HM.out false hmb)
    clear HM hmb
    go_enter Try.func8, Try.ntmps8
    go_wp2_with (first
      | (go_at_call 31; rw [← HW0.out]; (with_reducible refine HM1.out.mono ?_); rintro e w1 ⟨rfl, hx⟩; have HX1 : Hid (Ext w w1) := Ext.trans HX0.out hx; clear hx)
      | (go_at_call 32; (with_reducible refine (HTO.out _).mono ?_); rintro e w2 ⟨rfl, hx⟩; have HX2 : Hid (Ext w w2) := Ext.trans HX1.out hx; clear hx))
    try go_ret
    exact hD.out _ _ ⟨rfl, HX2.out⟩
  case true =>
    have HM1 := Lib.hid (HM.out true hmb)
    have hb : 0 ≤ ri ∧ ri ≤ 1099511627776 ∧ 0 ≤ ni ∧ ni < 5 := by unfold mayBal at hmb; exact of_decide_eq_true hmb
    clear HM hmb
    by_cases h20 : (20 : Int) < (m : Int)
    · clear hb
      go_enter Try.func8, Try.ntmps8
      go_wp2_with (first
        | (go_at_call 31; rw [← HW0.out]; (with_reducible refine HM1.out.mono ?_); rintro e w1 ⟨rfl, hx⟩; have HX1 : Hid (Ext w w1) := Ext.trans HX0.out hx; clear hx)
        | (go_at_call 32; (with_reducible refine (HTO.out _).mono ?_); rintro e w2 ⟨rfl, hx⟩; have HX2 : Hid (Ext w w2) := Ext.trans HX1.out hx; clear hx))
      try go_ret
      exact hD.out _ _ ⟨rfl, HX2.out⟩
    obtain ⟨r, rfl⟩ : ∃ r : Nat, ri = r := ⟨ri.toNat, by omega⟩
    obtain ⟨n, rfl⟩ : ∃ n : Nat, ni = n := ⟨ni.toNat, by omega⟩
    obtain ⟨DB, hDB⟩ : ∃ DB, DB = numB r ++ numB n := ⟨_, rfl⟩
    have hDl : DB.length ≤ 20 := by rw [hDB, List.length_append]; have h1 : (numB r).length ≤ 10 := numF_len 10 r; have h2 : (numB n).length ≤ 10 := numF_len 10 n; omega
    have hr1 : rdNum (DB ++ lt) false 1099511627776 = (r, numB n ++ lt, false) := by
      rw [hDB, List.append_assoc, rdNum_numB _ _ _ (by omega), if_neg (by omega)]
    have hr2 : rdNum (numB n ++ lt) false 4 = (n, lt, false) := by
      rw [rdNum_numB _ _ _ (by omega), if_neg (by omega)]
    have HR := Lib.hid (And.intro hr1 hr2)
    have HDB := Lib.hid hDB
    obtain ⟨d, hd⟩ : ∃ d, d = DB.length := ⟨_, rfl⟩
    rw [← hd] at hDl
    have HDL := Lib.hid hd
    have CRP : Hid (∀ V, Calls Try.prog 36 #[.agg #[.int .i64 r, .int .i64 n]] V fun e w' => e = .returned (.string (str DB)) ∧ Ext V w') := fun V => by rw [hDB]; exact refPutBal_any r n V (by omega) (by omega)
    have hm20 : m ≤ 20 := by omega
    clear hr1 hr2 hDB hd
    go_enter Try.func8, Try.ntmps8
    go_wp2_with fail
    rw [← HW0.out]
    go_wp2_with fail
    go_at_call 31
    with_reducible refine HM1.out.mono ?_
    rintro e w1 ⟨rfl, hx1⟩
    have HX1 : Hid (Ext w w1) := Ext.trans HX0.out hx1
    have KB1 := Lib.hid (KB.out.stay hx1)
    obtain ⟨P, hP⟩ : ∃ P, P = w1.heap.size := ⟨_, rfl⟩
    obtain ⟨W1, hW1⟩ : ∃ W1, W1 = w1.alloc (.cells #[.slice none 0 0] 59) := ⟨_, rfl⟩
    have hxw1 : Ext w1 W1 := by rw [hW1]; exact Ext.alloc _ _
    have hwr : WrAt W1 P P [] none := by rw [hW1, hP]; exact ⟨.slice none 0 0, Blk.new _ _ _, World.ownsRow_nil _ _ _ _, rfl⟩
    have kb1 := KB1.out.stay hxw1
    have c0 : ∀ i, W1.cell? ⟨w.heap.size, i, none⟩ = #[Value.int .i64 (r : Int), .int .i64 (n : Int)][i]? := fun i => kb1.cell i
    have c00 := c0 0
    have c01 := c0 1
    have hPw : w.heap.size < P := by rw [hP]; have := KB1.out.lt; omega
    have CPB : Hid (Calls Try.prog 33 #[.pointer (some ⟨P, 0, none⟩), .agg #[.int .i64 r, .int .i64 n]] W1 fun e w' => e = .returned (.tuple #[]) ∧ WrTo W1 w' P P DB none) := by
      have := putBal_any P P [] none r n W1 hwr (by omega) (by omega) (by simp) (by rw [hP]; exact hxw1.size)
      rw [List.nil_append, ← HDB.out] at this
      exact this
    have HXW1 : Hid (Ext w W1) := Ext.trans HX1.out hxw1
    have KBW := Lib.hid kb1
    have HW1 := Lib.hid hW1
    have HP := Lib.hid hP
    have HPW := Lib.hid hPw
    simp at c00 c01
    have o0 : ∀ o, (w1.alloc o).cell? ⟨w.heap.size, 0, none⟩ = some (.int .i64 r) := fun o => (KB1.out.alloc o).cell 0
    have o1 : ∀ o, (w1.alloc o).cell? ⟨w.heap.size, 1, none⟩ = some (.int .i64 n) := fun o => (KB1.out.alloc o).cell 1
    clear hx1 hxw1 hwr kb1 c0 hW1 hP hPw HM1
    go_wp2_with fail
    rw [← HW1.out, ← HP.out]
    go_wp2_with fail
    go_at_call 33
    with_reducible refine CPB.out.mono ?_
    rintro e w2 ⟨rfl, h2⟩
    obtain ⟨g2, hw2, hf2, hg2⟩ := h2
    have HX2 : Hid (Ext w w2) := hf2.step HXW1.out HXW1.out.size (by
      rintro k (e | e)
      · have := HPW.out; omega
      · cases e)
    have KB2 := Lib.hid (KBW.out.frm hf2 (by
      rintro (e | e)
      · have := HPW.out; omega
      · cases e))
    have CBY := Lib.hid (bytes_any P P DB g2 w2 hw2 (by rw [← HDL.out]; omega))
    clear hw2 hf2 hg2 c00 c01 o0 o1 KBW HW1
    go_wp2_with fail
    go_at_call 34
    with_reducible refine CBY.out.mono ?_
    rintro e w3 ⟨A3, c3, rfl, ho3, hx3⟩
    obtain ⟨A3', c3', e3, hsl3⟩ := own_view ho3
    injection e3 with e31 e32 e33
    subst e31
    have HX3 : Hid (Ext w w3) := Ext.trans HX2.out hx3
    have hmm := Lib.hid (World.ownsRow_made (base := w3.heap.size) (e := 5) (size := 1) w3 #[] 0 (Nat.le_refl _) (Nat.zero_le _) rfl)
    have HS3 : Hid (Sl Go.Proofs.Ytgcclkdlomifcaa.u8 (w3.alloc (.cells #[] 5)) A3 DB) := hsl3.stay (Ext.alloc _ _)
    have HSL3 := Lib.hid hsl3
    have KB3 := Lib.hid (KB2.out.stay hx3)
    clear e32 e33 c3' ho3 hx3 hsl3 CBY KB2 CPB
    rw [← HDL.out]
    go_wp2_with (first
      | (at_builtin; refine wpList_append_list rfl _ _ 22 rfl w3.heap.size 5 (.int .u8 0) 1 Try.underlying22 info_byte rfl (by omega) (.slice (some ⟨w3.heap.size, 0, none⟩) 0 0) 0 [] rfl hmm.out Go.Proofs.Ytgcclkdlomifcaa.u8 A3 DB d c3 HDL.out rfl HS3.out (fun _ => rfl) (by rw [← HDL.out]; omega) (by simp) ?_; intro v4 w4 h1 h2 h3; rw [Nat.zero_add, List.nil_append, ← HDL.out] at h1; obtain ⟨A4, c4, rfl⟩ := own_shape h1; have hx4 : Ext w3 w4 := (((Below.refl _ _).alloc (Nat.le_refl _) _).grown (row := some w3.heap.size) h2 (by simp) (fun k hk => by injection hk with hk; omega)); have HO4 := Lib.hid h1; have HX4 := Lib.hid hx4; have HS4 : Hid (Sl Go.Proofs.Ytgcclkdlomifcaa.u8 w4 A lt) := HSL.out _ (Ext.trans HX3.out hx4); clear h1 h2 h3 hx4 hmm HS3)
      | (at_builtin; refine wpList_append_list rfl _ _ 22 rfl w3.heap.size 5 (.int .u8 0) 1 Try.underlying22 info_byte rfl (by omega) (.slice A4 d c4) d (DB.map Go.Proofs.Ytgcclkdlomifcaa.u8) rfl HO4.out Go.Proofs.Ytgcclkdlomifcaa.u8 A lt m cap HML.out rfl HS4.out (fun _ => rfl) (by rw [← HML.out]; omega) HX4.out.size ?_; intro v5 w5 h1 h2 h3; have hx5 : Ext w3 w5 := Below.grown HX4.out h2 HX4.out.size (fun k hk => Nat.le_of_not_lt (fun hg => own_ne HO4.out hg hk.symm)); have h1' : w5.ownsRow w3.heap.size 5 1 v5 (DB ++ lt).length ((DB ++ lt).map Go.Proofs.Ytgcclkdlomifcaa.u8) := (by rw [List.length_append, List.map_append, ← HDL.out]; exact h1); obtain ⟨A5, c5, rfl, hsl5⟩ := own_view h1'; have hln : (DB ++ lt).length ≤ 1000000000 := (by rw [List.length_append, ← HDL.out, ← HML.out]; omega); have hnew := new_any A5 c5 (DB ++ lt) w5 hsl5 hln; obtain ⟨q5, hq5⟩ : ∃ q5, q5 = (DB ++ lt).length := ⟨_, rfl⟩; rw [← hq5] at hnew ⊢; clear hq5; have CNEW := Lib.hid hnew; clear hnew; have HLN := Lib.hid hln; have HX5 := Lib.hid hx5; clear h1 h2 h3 h1' hx5 hsl5 HS4 HO4 hln)
      | (go_at_call 22; (with_reducible refine CNEW.out.mono ?_); rintro e w6 ⟨P6, rfl, hrd6, hx6, hP6⟩; have hx36 : Ext w3 w6 := Ext.trans HX5.out hx6; have CGET : Hid (Calls Try.prog 35 #[.pointer (some ⟨P6, 0, none⟩)] w6 fun e w' => e = .returned (.agg #[.int .i64 r, .int .i64 n]) ∧ RdAt w' P6 lt false ∧ Frm (fun k => k = P6) w6 w') := (by have h := getBal_any P6 (DB ++ lt) false w6 hrd6 HLN.out; rw [HR.out.1] at h; dsimp only at h; rw [HR.out.2] at h; exact h); have HX6 := Lib.hid hx36; have HP6 : Hid (w3.heap.size ≤ P6) := Nat.le_trans HX5.out.size hP6; clear CNEW hrd6 hx6 hP6 hx36))
    go_at_call 35
    with_reducible refine CGET.out.mono ?_
    rintro e w7 ⟨rfl, hrd7, hf7⟩
    have hx7 : Ext w3 w7 := hf7.step HX6.out HX6.out.size (fun k hk => by subst hk; exact HP6.out)
    have kb7 := KB3.out.stay hx7
    obtain ⟨W8, hW8⟩ : ∃ W8, W8 = w7.alloc (.cells #[.int .i64 r, .int .i64 n] 56) := ⟨_, rfl⟩
    have hx8 : Ext w7 W8 := by rw [hW8]; exact Ext.alloc _ _
    have k8 : Blk W8 w7.heap.size 56 #[.int .i64 r, .int .i64 n] := by rw [hW8]; exact Blk.new _ _ _
    have hxw8 : Ext w W8 := Ext.trans HX3.out (Ext.trans hx7 hx8)
    have CEN : Hid (Calls Try.prog 29 #[.pointer (some ⟨P6, 0, none⟩)] W8 fun e w' => e = .returned (.int .i64 (endN lt false)) ∧ W8 = w') := endR_any P6 lt false W8 (hrd7.stay hx8) (by rw [← HML.out]; omega)
    have hcv : ∀ V, Ext W8 V → (convert 22 9 (.slice A3 d c3)).run Try.prog V = .ok (.string (str DB)) V := fun V h => by
      have := run_str (P := Try.prog) (w := V) 22 9 5 A3 DB c3 Try.underlying22 Try.underlying5 Try.underlying9 (HSL3.out.stay (Ext.trans (Ext.trans hx7 hx8) h))
      rw [← HDL.out] at this
      exact this
    have fz0 : ∀ V, Ext W8 V → V.cell? ⟨w.heap.size, 0, none⟩ = some (.int .i64 r) := fun V h => ((kb7.stay hx8).stay h).cell 0
    have fz1 : ∀ V, Ext W8 V → V.cell? ⟨w.heap.size, 1, none⟩ = some (.int .i64 n) := fun V h => ((kb7.stay hx8).stay h).cell 1
    have gz0 : ∀ V, Ext W8 V → V.cell? ⟨w7.heap.size, 0, none⟩ = some (.int .i64 r) := fun V h => (k8.stay h).cell 0
    have gz1 : ∀ V, Ext W8 V → V.cell? ⟨w7.heap.size, 1, none⟩ = some (.int .i64 n) := fun V h => (k8.stay h).cell 1
    have HXW8 := Lib.hid hxw8
    have HW8 := Lib.hid hW8
    have E8 : Hid (Ext W8 W8) := Ext.refl _
    have HEN : ∃ u : Bool, decide (endN lt false = 0) = u ∧ decide ((m : Int) = 0) = u := by
      rw [HML.out]
      cases lt with
      | nil => exact ⟨true, by simp [endN], by simp⟩
      | cons x t => exact ⟨false, by simp [endN], by simp; omega⟩
    obtain ⟨u, hu1, hu2⟩ := HEN
    have CT9 : Hid (∀ V, Ext W8 V → Calls Try.prog 32 #[] V fun e w' => e = .returned (.bool true) ∧ Ext V w') := fun V _ => HTO.out V
    have CR9 : Hid (∀ V, Ext W8 V → Calls Try.prog 36 #[.agg #[.int .i64 r, .int .i64 n]] V fun e w' => e = .returned (.string (str DB)) ∧ Ext V w') := fun V _ => CRP.out V
    clear CGET hrd7 hf7 hx7 kb7 hx8 k8 hxw8 hW8
    generalize endN lt false = q at *
    generalize str DB = sb at *
    go_wp2_with fail
    try rw [← HW8.out]
    go_wp2_with fail
    go_at_call 29
    with_reducible refine CEN.out.mono ?_
    rintro e w8 ⟨rfl, rfl⟩
    clear CEN HSL HTO HSL3 KB KB1 KB3 CRP HR HX1 HX2 HX3 HX4 HX5 HX6 HXW1
    go_wp2
    refine ext_begin (by kernel_rfl) ?_
    have E8d := Lib.hid (Ext.drewR E8.out)
    refine ext_call (i := 0) rfl (by kernel_rfl) (by rfl) (fun K' hK => ?_)
    go_simp
    (go_at_call 32; (with_reducible refine (CT9.out _ E8d.out).mono ?_); rintro e w20 ⟨rfl, hx⟩; refine hK _ _ hx ?_; clear hK)
    have Ew20 := Lib.hid (Ext.trans E8d.out hx)
    clear hx
    try simp only [Act.put, List.setIfInBounds_toArray, List.set_cons_zero, List.set_cons_succ]
    refine ext_take (i := 1) (v := ?_) rfl (by kernel_rfl) (by kernel_rfl) (by kernel_rfl) (fun _ _ _ h => h) (by rfl) ?_ ?_
    rotate_left
    · intro W hW; have hW0 := Ext.trans Ew20.out hW; clear hW; go_simp <;> with_reducible rfl
    try simp only [Act.put, List.setIfInBounds_toArray, List.set_cons_zero, List.set_cons_succ]
    refine ext_take (i := 2) (v := ?_) rfl (by kernel_rfl) (by kernel_rfl) (by kernel_rfl) (fun _ _ _ h => h) (by rfl) ?_ ?_
    rotate_left
    · intro W hW; have hW0 := Ext.trans Ew20.out hW; clear hW; go_simp <;> with_reducible rfl
    try simp only [Act.put, List.setIfInBounds_toArray, List.set_cons_zero, List.set_cons_succ]
    refine ext_take (i := 3) (v := .string sb) rfl (by kernel_rfl) (by kernel_rfl) (by kernel_rfl) (fun _ _ _ h => h) (by rfl) ?_ ?_
    · intro W hW; have hW0 := Ext.trans Ew20.out hW; have hcw := hcv _ hW0; go_simp; first | done | exact hcw | (rw [hcw])
    try simp only [Act.put, List.setIfInBounds_toArray, List.set_cons_zero, List.set_cons_succ]
    refine ext_take (i := 4) (v := ?_) rfl (by kernel_rfl) (by kernel_rfl) (by kernel_rfl) (fun _ _ _ h => h) (by rfl) ?_ ?_
    rotate_left
    · intro W hW; have hW0 := Ext.trans Ew20.out hW; clear hW; go_simp <;> with_reducible rfl
    try simp only [Act.put, List.setIfInBounds_toArray, List.set_cons_zero, List.set_cons_succ]
    refine ext_call (i := 5) rfl (by kernel_rfl) (by rfl) (fun K' hK => ?_)
    go_simp
    (go_at_call 36; (with_reducible refine (CR9.out _ Ew20.out).mono ?_); rintro e w21 ⟨rfl, hx⟩; refine hK _ _ hx ?_; clear hK)
    have Ew21 := Lib.hid (Ext.trans Ew20.out hx)
    clear hx
    try simp only [Act.put, List.setIfInBounds_toArray, List.set_cons_zero, List.set_cons_succ]
    refine ext_take (i := 6) (v := .bool true) rfl (by kernel_rfl) (by kernel_rfl) (by kernel_rfl) (fun _ _ _ h => h) (by rfl) ?_ ?_
    · intro W hW; have hW0 := Ext.trans Ew21.out hW; clear hW; go_simp; all_goals (first | done | (simp; done) | omega)
    try simp only [Act.put, List.setIfInBounds_toArray, List.set_cons_zero, List.set_cons_succ]
    refine ext_take (i := 7) (v := ?_) rfl (by kernel_rfl) (by kernel_rfl) (by kernel_rfl) (fun _ _ _ h => h) (by rfl) ?_ ?_
    rotate_left
    · intro W hW; have hW0 := Ext.trans Ew21.out hW; clear hW; go_simp <;> with_reducible rfl
    try simp only [Act.put, List.setIfInBounds_toArray, List.set_cons_zero, List.set_cons_succ]
    refine ext_take (i := 8) (v := ?_) rfl (by kernel_rfl) (by kernel_rfl) (by kernel_rfl) (fun _ _ _ h => h) (by rfl) ?_ ?_
    rotate_left
    · intro W hW; have hW0 := Ext.trans Ew21.out hW; clear hW; go_simp <;> with_reducible rfl
    try simp only [Act.put, List.setIfInBounds_toArray, List.set_cons_zero, List.set_cons_succ]
    refine ext_take (i := 9) (v := ?_) rfl (by kernel_rfl) (by kernel_rfl) (by kernel_rfl) (fun _ _ _ h => h) (by rfl) ?_ ?_
    rotate_left
    · intro W hW; have hW0 := Ext.trans Ew21.out hW; clear hW; go_simp <;> with_reducible rfl
    try simp only [Act.put, List.setIfInBounds_toArray, List.set_cons_zero, List.set_cons_succ]
    refine ext_take (i := 10) (v := ?_) rfl (by kernel_rfl) (by kernel_rfl) (by kernel_rfl) (fun _ _ _ h => h) (by rfl) ?_ ?_
    rotate_left
    · intro W hW; have hW0 := Ext.trans Ew21.out hW; clear hW; go_simp <;> with_reducible rfl
    try simp only [Act.put, List.setIfInBounds_toArray, List.set_cons_zero, List.set_cons_succ]
    refine ext_take (i := 11) (v := .bool true) rfl (by kernel_rfl) (by kernel_rfl) (by kernel_rfl) (fun _ _ _ h => h) (by rfl) ?_ ?_
    · intro W hW; have hW0 := Ext.trans Ew21.out hW; clear hW; go_simp; all_goals (first | done | (simp; done) | omega)
    try simp only [Act.put, List.setIfInBounds_toArray, List.set_cons_zero, List.set_cons_succ]
    refine ext_take (i := 12) (v := ?_) rfl (by kernel_rfl) (by kernel_rfl) (by kernel_rfl) (fun _ _ _ h => h) (by rfl) ?_ ?_
    rotate_left
    · intro W hW; have hW0 := Ext.trans Ew21.out hW; clear hW; go_simp <;> with_reducible rfl
    try simp only [Act.put, List.setIfInBounds_toArray, List.set_cons_zero, List.set_cons_succ]
    refine ext_take (i := 13) (v := ?_) rfl (by kernel_rfl) (by kernel_rfl) (by kernel_rfl) (fun _ _ _ h => h) (by rfl) ?_ ?_
    rotate_left
    · intro W hW; have hW0 := Ext.trans Ew21.out hW; clear hW; go_simp <;> with_reducible rfl
    try simp only [Act.put, List.setIfInBounds_toArray, List.set_cons_zero, List.set_cons_succ]
    refine ext_take (i := 14) (v := ?_) rfl (by kernel_rfl) (by kernel_rfl) (by kernel_rfl) (fun _ _ _ h => h) (by rfl) ?_ ?_
    rotate_left
    · intro W hW; have hW0 := Ext.trans Ew21.out hW; clear hW; go_simp <;> with_reducible rfl
    try simp only [Act.put, List.setIfInBounds_toArray, List.set_cons_zero, List.set_cons_succ]
    refine ext_take (i := 15) (v := .bool u) rfl (by kernel_rfl) (by kernel_rfl) (by kernel_rfl) (fun _ _ _ h => h) (by rfl) ?_ ?_
    · intro W hW; have hW0 := Ext.trans Ew21.out hW; clear hW; go_simp; all_goals (first | done | exact hu1 | omega)
    try simp only [Act.put, List.setIfInBounds_toArray, List.set_cons_zero, List.set_cons_succ]
    refine ext_take (i := 16) (v := ?_) rfl (by kernel_rfl) (by kernel_rfl) (by kernel_rfl) (fun _ _ _ h => h) (by rfl) ?_ ?_
    rotate_left
    · intro W hW; have hW0 := Ext.trans Ew21.out hW; clear hW; go_simp <;> with_reducible rfl
    try simp only [Act.put, List.setIfInBounds_toArray, List.set_cons_zero, List.set_cons_succ]
    refine ext_take (i := 17) (v := ?_) rfl (by kernel_rfl) (by kernel_rfl) (by kernel_rfl) (fun _ _ _ h => h) (by rfl) ?_ ?_
    rotate_left
    · intro W hW; have hW0 := Ext.trans Ew21.out hW; clear hW; go_simp <;> with_reducible rfl
    try simp only [Act.put, List.setIfInBounds_toArray, List.set_cons_zero, List.set_cons_succ]
    refine ext_take (i := 18) (v := .bool u) rfl (by kernel_rfl) (by kernel_rfl) (by kernel_rfl) (fun _ _ _ h => h) (by rfl) ?_ ?_
    · intro W hW; have hW0 := Ext.trans Ew21.out hW; clear hW; go_simp; all_goals (first | done | exact hu2 | omega)
    try simp only [Act.put, List.setIfInBounds_toArray, List.set_cons_zero, List.set_cons_succ]
    refine ext_take (i := 19) (v := .bool true) rfl (by kernel_rfl) (by kernel_rfl) (by kernel_rfl) (fun _ _ _ h => h) (by rfl) ?_ ?_
    · intro W hW; have hW0 := Ext.trans Ew21.out hW; clear hW; go_simp; all_goals (first | done | (simp; done) | omega)
    try simp only [Act.put, List.setIfInBounds_toArray, List.set_cons_zero, List.set_cons_succ]
    refine ext_take (i := 20) (v := ?_) rfl (by kernel_rfl) (by kernel_rfl) (by kernel_rfl) (fun _ _ _ h => h) (by rfl) ?_ ?_
    rotate_left
    · intro W hW; have hW0 := Ext.trans Ew21.out hW; clear hW; go_simp <;> with_reducible rfl
    try simp only [Act.put, List.setIfInBounds_toArray, List.set_cons_zero, List.set_cons_succ]
    refine ext_take (i := 21) (v := ?_) rfl (by kernel_rfl) (by kernel_rfl) (by kernel_rfl) (fun _ _ _ h => h) (by rfl) ?_ ?_
    rotate_left
    · intro W hW; have hW0 := Ext.trans Ew21.out hW; clear hW; go_simp <;> with_reducible rfl
    try simp only [Act.put, List.setIfInBounds_toArray, List.set_cons_zero, List.set_cons_succ]
    refine wpAnyH_done (by kernel_rfl) ?_ _
    clear fz0 fz1 gz0 gz1 hcv
    try go_wp2
    try go_ret
    exact hD.out _ _ ⟨rfl, Ext.trans HXW8.out Ew21.out⟩
set_option maxRecDepth 100000 in
theorem law_ballotBytes {H : Type} {enc : TypeId × Value → H} (W : World) (base : Nat) (args : Array Value) (ds : List (DataW H)) (p : List MemPlace)
    (hval : ∀ (j : Nat) t v, Try.f8.params[j]? = some t → args[j]? = some v → Value.okWide Try.prog W .any base t v)
    (hA : DataW.TrodAll enc Try.prog W 0 (fun _ => true) true Try.f8.params.toList args.toList ds p) :
    Calls Try.prog 8 args W fun e W' => e = .returned (.bool true) ∧ Below W.heap.size W W' := by
  rw [Try.params8] at hA hval
  obtain ⟨v0, vs0, d0, ds0, p0, q0, hargs, rfl, rfl, h0, r0⟩ := trodAll_cons hA
  obtain ⟨v1, vs1, d1, ds1, p1, q1, rfl, rfl, rfl, h1, r1⟩ := trodAll_cons r0
  obtain ⟨rfl, rfl, rfl⟩ := trodAll_nil r1
  obtain rfl : args = #[v0, v1] := by cases args; simp_all
  obtain ⟨r0_, n0, rfl, wr0, wn0⟩ := open_bal (hval 0 56 v0 rfl rfl) h0
  obtain ⟨A1, n1, c1, rfl⟩ := okWide_slice Try.underlying22 (hval 1 22 v1 rfl rfl)
  obtain ⟨fuel1, hf1⟩ := h1
  obtain ⟨B1, e1, l1, hcs1, x1, y1, z1⟩ := trod_bytes_sl Try.underlying22 Try.underlying5 cells_byte hf1
  simp only [Value.cells, List.cons.injEq, Value.slice.injEq, and_true] at hcs1
  obtain ⟨rfl, rfl, rfl⟩ := hcs1
  exact walk_ballotBytes r0_ n0 A1 c1 l1 W (Nat.le_trans x1 y1) z1

end Go.Proofs.Ytgcclkdlomifcaa
