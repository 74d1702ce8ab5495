/-
  A ballot's bytes: written, read; the document's.
-/
import Derived.Test.YtgcclkdlomifcaaBallot
import Derived.Test.YtgcclkdlomifcaaNumLaw
import Derived.Test.YtgcclkdlomifcaaRefNum
import Derived.Test.YtgcclkdlomifcaaHeld
import Derived.Laws.Concat
namespace Go.Proofs.Ytgcclkdlomifcaa
set_option linter.unusedVariables false
set_option linter.unusedSimpArgs false
open Go.RowKit

theorem wrap_u64_int (n : Nat) (h : n < 18446744073709551616) : IntKind.u64.wrap (n : Int) = (n : Int) := IntKind.wrap_u64_nat n h
theorem str_appB (a b : List UInt8) : str (a ++ b) = str a ++ str b := by
  apply ByteArray.ext
  rw [ByteArray.data_append]
  simp [str]

set_option maxRecDepth 8000 in
set_option maxHeartbeats 4000000 in
theorem putBal_any (base P : Nat) (l : List UInt8) (g : Option Nat) (r n : Nat) (w : World) (H : WrAt w base P l g) (hr : r ≤ 1099511627776) (hn : n ≤ 1099511627776) (hl : l.length ≤ 100000000) (hb : base ≤ w.heap.size) :
    Calls Try.prog 33 #[.pointer (some ⟨P, 0, none⟩), .agg #[.int .i64 r, .int .i64 n]] w fun e w' => e = .returned (.tuple #[]) ∧ WrTo w w' base P (l ++ (numB r ++ numB n)) g := by
  refine hide_post fun D hD => ?_
  obtain ⟨W0, hW0⟩ : ∃ W0, W0 = w.alloc (.cells #[.int .i64 r, .int .i64 n] 56) := ⟨_, rfl⟩
  have hx0 : Ext w W0 := by rw [hW0]; exact Ext.alloc _ _
  have kB : Blk W0 w.heap.size 56 #[.int .i64 r, .int .i64 n] := by rw [hW0]; exact Blk.new _ _ _
  have hz0 : W0.heap.size = w.heap.size + 1 := by rw [hW0]; simp
  have C1 : Hid (Calls Try.prog 62 #[.pointer (some ⟨P, 0, none⟩), .int .u64 r] W0 fun e w' => e = .returned (.tuple #[]) ∧ WrTo W0 w' base P (l ++ numB r) g) := numW_any base P l g r W0 (H.stay hx0) (by omega) (by omega) (Nat.le_trans hb hx0.size)
  have HF : Hid (∀ V, Frm (fun k => k = P ∨ some k = g) W0 V → Blk V w.heap.size 56 #[.int .i64 r, .int .i64 n]) := fun V h => kB.frm h (by
    rintro (e | e)
    · have := H.lt; omega
    · have := (H.glt _ e.symm).2.1; omega)
  have HNL : Hid ((numB r).length ≤ 10) := numF_len 10 r
  have hq1 : IntKind.u64.wrap (r : Int) = (r : Int) := wrap_u64_int r (by omega)
  have hq2 : IntKind.u64.wrap (n : Int) = (n : Int) := wrap_u64_int n (by omega)
  have c0 := (HF.out W0 (Frm.refl _ _)).cell 0
  have HX0 := Lib.hid hx0
  have HW0 := Lib.hid hW0
  simp at c0
  clear kB hx0 hW0 hz0 H
  go_enter Try.func33, Try.ntmps33
  go_wp2_with fail
  rw [← HW0.out]
  go_wp2_with fail
  go_at_call 62
  with_reducible refine C1.out.mono ?_
  rintro e w1 ⟨rfl, h1⟩
  have H1 := Lib.hid h1
  obtain ⟨g1, k1, k2, k3⟩ := h1
  have c1 := (HF.out w1 k2).cell 1
  have C2 : Hid (Calls Try.prog 62 #[.pointer (some ⟨P, 0, none⟩), .int .u64 n] w1 fun e w' => e = .returned (.tuple #[]) ∧ WrTo w1 w' base P (l ++ numB r ++ numB n) g1) := numW_any base P (l ++ numB r) g1 n w1 k1 (by omega) (by rw [List.length_append]; have := HNL.out; omega) (Nat.le_trans hb (Nat.le_trans HX0.out.size k2.size))
  have HK := Lib.hid (And.intro k1 (And.intro k2 k3))
  simp at c1
  clear k1 k2 k3 C1 c0
  go_wp2_with (go_at_call 62; (with_reducible refine C2.out.mono ?_); rintro e w2 ⟨rfl, h2⟩; have H2 := Lib.hid h2; clear h2)
  try go_end0
  refine hD.out _ _ ⟨rfl, ?_⟩
  obtain ⟨g2, q1, q2, q3⟩ := WrTo.trans HK.out H2.out
  rw [List.append_assoc] at q1
  refine ⟨g2, q1, Frm.tr (Frm.of_below HX0.out _) q2, ?_⟩
  rcases q3 with q3 | ⟨k, q3, hk⟩
  · exact .inl q3
  · exact .inr ⟨k, q3, Nat.le_trans HX0.out.size hk⟩

set_option maxRecDepth 8000 in
set_option maxHeartbeats 4000000 in
theorem getBal_any (P : Nat) (l : List UInt8) (bad : Bool) (w : World) (H : RdAt w P l bad) (hl : l.length ≤ 1000000000) :
    Calls Try.prog 35 #[.pointer (some ⟨P, 0, none⟩)] w fun e w' => e = .returned (.agg #[.int .i64 (rdNum l bad 1099511627776).1, .int .i64 (rdNum (rdNum l bad 1099511627776).2.1 (rdNum l bad 1099511627776).2.2 4).1]) ∧
      RdAt w' P (rdNum (rdNum l bad 1099511627776).2.1 (rdNum l bad 1099511627776).2.2 4).2.1 (rdNum (rdNum l bad 1099511627776).2.1 (rdNum l bad 1099511627776).2.2 4).2.2 ∧ Frm (fun k => k = P) w w' := by
  refine hide_post fun D hD => ?_
  obtain ⟨W0, hW0⟩ : ∃ W0, W0 = w.alloc (.cells #[.int .i64 0, .int .i64 0] 56) := ⟨_, rfl⟩
  have hx0 : Ext w W0 := by rw [hW0]; exact Ext.alloc _ _
  have kB : Blk W0 w.heap.size 56 #[.int .i64 0, .int .i64 0] := by rw [hW0]; exact Blk.new _ _ _
  have C1 : Hid (Calls Try.prog 23 #[.pointer (some ⟨P, 0, none⟩), .int .u64 1099511627776] W0 fun e w' => e = .returned (.int .u64 (rdNum l bad 1099511627776).1) ∧ RdAt w' P (rdNum l bad 1099511627776).2.1 (rdNum l bad 1099511627776).2.2 ∧ Frm (fun k => k = P) W0 w') := numR_any P l bad 1099511627776 W0 (H.stay hx0) hl
  have hlen := rdNum_len l bad 1099511627776
  have HPl : Hid (P < w.heap.size) := H.lt
  have HX0 := Lib.hid hx0
  have HW0 := Lib.hid hW0
  have HKB := Lib.hid kB
  clear H kB hW0 hx0
  generalize rdNum l bad 1099511627776 = x at *
  obtain ⟨v1, l1, b1⟩ := x
  simp only at *
  have C2 : Hid (∀ V, RdAt V P l1 b1 → Calls Try.prog 23 #[.pointer (some ⟨P, 0, none⟩), .int .u64 4] V fun e w' => e = .returned (.int .u64 (rdNum l1 b1 4).1) ∧ RdAt w' P (rdNum l1 b1 4).2.1 (rdNum l1 b1 4).2.2 ∧ Frm (fun k => k = P) V w') := fun V h => numR_any P l1 b1 4 V h (by omega)
  have hlen2 := rdNum_len l1 b1 4
  generalize rdNum l1 b1 4 = y at *
  obtain ⟨v2, l2, b2⟩ := y
  simp only at *
  have hv1 := hlen.2
  have hv2 := hlen2.2
  have hq1 : IntKind.i64.wrap (v1 : Int) = (v1 : Int) := IntWalk.i64_in _ (by omega)
  have hq2 : IntKind.i64.wrap (v2 : Int) = (v2 : Int) := IntWalk.i64_in _ (by omega)
  clear hlen hlen2
  go_enter Try.func35, Try.ntmps35
  go_wp2_with (first
    | (go_at_call 23; rw [← HW0.out]; (with_reducible refine C1.out.mono ?_); rintro e w1 ⟨rfl, hr, hf⟩; have HR1 := Lib.hid hr; have HF1 := Lib.hid hf; clear C1 hr hf)
    | (go_at_call 23; (with_reducible refine (C2.out _ HR1.out).mono ?_); rintro e w2 ⟨rfl, hr, hf⟩; have HR2 := Lib.hid hr; have hKB2 := HKB.out.frm (Frm.tr HF1.out hf) (show ¬ w.heap.size = P by have := HPl.out; omega); have HF2 := Lib.hid hf; have d0 := hKB2.cell 0; have d1 := hKB2.cell 1; have f0 := hKB2.frozen 0; have f1 := hKB2.frozen 1; have HK2 := Lib.hid hKB2; simp at d0 d1; clear hr hf hKB2))
  have hF : Frm (fun k => k = w.heap.size) w2 ((w2.setCell ⟨w.heap.size, 0, none⟩ (.int .i64 v1)).setCell ⟨w.heap.size, 1, none⟩ (.int .i64 v2)) := Frm.tr (Frm.of_set _ _ _ rfl) (Frm.of_set _ _ _ rfl)
  have KA := (HK2.out.set 0 (.int .i64 v1)).set 1 (.int .i64 v2)
  have hcA := KA.cell 0
  have hcB := KA.cell 1
  simp at hcA hcB
  have hR3 : RdAt ((w2.setCell ⟨w.heap.size, 0, none⟩ (.int .i64 v1)).setCell ⟨w.heap.size, 1, none⟩ (.int .i64 v2)) P l2 b2 := by
    obtain ⟨A, cap, h1, h2, h3, h4⟩ := HR2.out
    refine ⟨A, cap, h1.frm hF (show ¬ P = w.heap.size by have := HPl.out; omega), fun j v hj => ?_, h3, h4⟩
    obtain ⟨b', o', e, hc⟩ := h2 j v hj
    refine ⟨b', o', e, (World.cell?_of_block (hF.block b' (World.block_lt_of_cell? w2 _ hc) ?_)).trans hc⟩
    intro hb
    subst hb
    rw [Blk.cell HK2.out] at hc
    match o' + j, hc with
    | 0, hc => simp [Go.Proofs.Ytgcclkdlomifcaa.u8] at hc
    | 1, hc => simp [Go.Proofs.Ytgcclkdlomifcaa.u8] at hc
    | n + 2, hc => simp at hc
  have hFw : Frm (fun k => k = P) w ((w2.setCell ⟨w.heap.size, 0, none⟩ (.int .i64 v1)).setCell ⟨w.heap.size, 1, none⟩ (.int .i64 v2)) := by
    have h0 := Frm.tr (Frm.of_below HX0.out (fun k => k = P)) (Frm.tr HF1.out HF2.out)
    exact h0.trans hF (fun k hk e => by omega)
  exact bodyPost_ret (v := .agg #[.int .i64 v1, .int .i64 v2]) (by simp [results, Try.results35, go_sem, hcA, hcB]) rfl (hD.out _ _ ⟨rfl, hR3, hFw⟩)
end Go.Proofs.Ytgcclkdlomifcaa
