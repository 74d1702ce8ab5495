/-
  The walk of the document's Follows.
-/
import Derived.Test.YtkdcbidbciognaaChPlain2
namespace Go.Proofs.Ytkdcbidbciognaa
set_option linter.unusedVariables false
set_option linter.unusedSimpArgs false
open Go.RowKit

theorem all_fits {l : List Int} (n : Int) (h : ∀ x ∈ l, 0 ≤ x ∧ x ≤ 4) : (l.all fun y => decide (y < n)) = !l.any (badB n) := by
  induction l with
  | nil => rfl
  | cons x r ih =>
    have hx := h x (by simp)
    rw [List.all_cons, List.any_cons, ih (fun y hy => h y (by simp [hy]))]
    have e : badB n x = !decide (x < n) := by
      unfold badB
      by_cases hn : x < n
      · rw [decide_eq_true hn]; simp; omega
      · rw [decide_eq_false hn]; simp; omega
    rw [e]
    cases decide (x < n) <;> simp

set_option maxRecDepth 4000 in
set_option maxHeartbeats 8000000 in
theorem follows_any (ea eb n : Int) (A B : Option Addr) (c1 c2 : Nat) (la lb : List Int) (w : World) (h1 : la.length ≤ 9223372036854775807) (h2 : lb.length ≤ 9223372036854775807) (hs : Sl i64 w A la) (hs2 : Sl i64 w B lb) :
    Calls Try.prog 35 #[chV ea A la.length c1, chV eb B lb.length c2, .int .i64 n] w fun e w' => e = .returned (.bool (nextB ea eb la lb n)) ∧ Ext w w' := by
  refine hide_post fun D hD => ?_
  generalize hr : nextB ea eb la lb n = r at *
  obtain ⟨w0, hw0⟩ : ∃ w0, w0 = (w.alloc (.cells #[.int .i64 ea, .slice A la.length c1] 26)).alloc (.cells #[.int .i64 eb, .slice B lb.length c2] 26) := ⟨_, rfl⟩
  have HW0 := Lib.hid hw0
  have hb0 : Ext w w0 := by rw [hw0]; exact Ext.trans (ext_al _ _) (ext_al _ _)
  have KA : Blk w0 w.heap.size 26 #[.int .i64 ea, .slice A la.length c1] := by rw [hw0]; exact (Blk.new w _ _).alloc _
  have KB : Blk w0 (w.heap.size + 1) 26 #[.int .i64 eb, .slice B lb.length c2] := by rw [hw0]; exact Blk.new' _ _ _ (w.heap.size + 1) (by simp)
  have HMA0 : Hid (∀ b, mayChainB ea la = b → ∀ V, Ext w0 V → Calls Try.prog 14 #[.agg #[.int .i64 ea, .slice A la.length c1]] V fun e w' => e = .returned (.bool b) ∧ Ext V w') := fun b hb V hV => by rw [← hb]; exact refMayChain_any ea A c1 la V h1 (hs.stay (Ext.trans hb0 hV))
  have HMB0 : Hid (∀ b, mayChainB eb lb = b → ∀ V, Ext w0 V → Calls Try.prog 14 #[.agg #[.int .i64 eb, .slice B lb.length c2]] V fun e w' => e = .returned (.bool b) ∧ Ext V w') := fun b hb V hV => by rw [← hb]; exact refMayChain_any eb B c2 lb V h2 (hs2.stay (Ext.trans hb0 hV))
  have HFA0 : Hid (mayChainB ea la = true → ∀ b, (!la.any (badB n)) = b → ∀ V, Ext w0 V → Calls Try.prog 69 #[.agg #[.int .i64 ea, .slice A la.length c1], .int .i64 n] V fun e w' => e = .returned (.bool b) ∧ Ext V w') := fun hm b hb V hV => by rw [← hb, ← all_fits n (mayChain_all hm).2.2.2]; exact belowRef_any ea n A c1 la V h1 (hs.stay (Ext.trans hb0 hV))
  have HFB0 : Hid (mayChainB eb lb = true → ∀ b, (!lb.any (badB n)) = b → ∀ V, Ext w0 V → Calls Try.prog 69 #[.agg #[.int .i64 eb, .slice B lb.length c2], .int .i64 n] V fun e w' => e = .returned (.bool b) ∧ Ext V w') := fun hm b hb V hV => by rw [← hb, ← all_fits n (mayChain_all hm).2.2.2]; exact belowRef_any eb n B c2 lb V h2 (hs2.stay (Ext.trans hb0 hV))
  have HIX : Hid (∀ V x, Ext w0 V → Calls Try.prog 70 #[.agg #[.int .i64 ea, .slice A la.length c1], .int .i64 x] V fun e w' => e = .returned (.int .i64 (idx x la 0)) ∧ Ext V w') := fun V x hV => place_any ea x A c1 la V h1 (hs.stay (Ext.trans hb0 hV))
  have HSB : Hid (∀ V, Ext w0 V → Sl i64 V B lb) := fun V hV => hs2.stay (Ext.trans hb0 hV)
  have HI : Hid (∀ x, -1 ≤ idx x la 0 ∧ idx x la 0 < la.length) := fun x => by have := idx_lt x la 0 (by omega); omega
  have HE0 := Lib.hid hb0
  have fa0 : ∀ V, Ext w0 V → V.cell? ⟨w.heap.size, 0, none⟩ = some (.int .i64 ea) := fun V h => (KA.stay h).cell 0
  have fa1 : ∀ V, Ext w0 V → V.cell? ⟨w.heap.size, 1, none⟩ = some (.slice A la.length c1) := fun V h => (KA.stay h).cell 1
  have fb0 : ∀ V, Ext w0 V → V.cell? ⟨w.heap.size + 1, 0, none⟩ = some (.int .i64 eb) := fun V h => (KB.stay h).cell 0
  have fb1 : ∀ V, Ext w0 V → V.cell? ⟨w.heap.size + 1, 1, none⟩ = some (.slice B lb.length c2) := fun V h => (KB.stay h).cell 1
  clear hs hs2 hw0 hb0 KA KB
  unfold nextB at hr
  have HR := Lib.hid hr
  clear hr
  cases g0 : mayChainB ea la
  · have HR' : Hid (r = false) := by (show _ = _); rw [← HR.out, g0]; simp
    have HMA := Lib.hid (HMA0.out false g0)
    clear g0
    go_enter Try.func35, Try.ntmps35
    go_wp2_with (first
      | (go_at_call 14; rw [← HW0.out]; (with_reducible refine (HMA.out _ (Ext.refl _)).mono ?_); rintro e w1 ⟨rfl, hx⟩; have h1 : Ext w0 w1 := hx; clear hx))
    try go_ret
    exact hD.out _ _ ⟨ret_bool HR'.out.symm, Ext.trans HE0.out h1⟩
  have HMA := Lib.hid (HMA0.out true g0)
  have HFA1 := Lib.hid (HFA0.out g0)
  obtain ⟨⟨e0, e1⟩, ⟨n0, n1⟩, _, _⟩ := mayChain_all g0
  have G0 := Lib.hid g0
  clear g0
  cases g1 : mayChainB eb lb
  · have HR' : Hid (r = false) := by (show _ = _); rw [← HR.out, g1]; simp
    have HMB := Lib.hid (HMB0.out false g1)
    clear g1
    go_enter Try.func35, Try.ntmps35
    go_wp2_with (first
      | (go_at_call 14; rw [← HW0.out]; (with_reducible refine (HMA.out _ (Ext.refl _)).mono ?_); rintro e w1 ⟨rfl, hx⟩; have h1 : Ext w0 w1 := hx; clear hx)
      | (go_at_call 14; (with_reducible refine (HMB.out _ h1).mono ?_); rintro e w2 ⟨rfl, hx⟩; have h2 : Ext w0 w2 := Ext.trans h1 hx; clear hx))
    try go_ret
    exact hD.out _ _ ⟨ret_bool HR'.out.symm, Ext.trans HE0.out h2⟩
  have HMB := Lib.hid (HMB0.out true g1)
  have HFB1 := Lib.hid (HFB0.out g1)
  obtain ⟨⟨e2, e3⟩, ⟨n2, n3⟩, _, _⟩ := mayChain_all g1
  have G1 := Lib.hid g1
  clear g1
  cases g2 : (!la.any (badB n))
  · have HR' : Hid (r = false) := by (show _ = _); rw [← HR.out, g2]; simp
    have HFA := Lib.hid (HFA1.out false g2)
    clear g2
    go_enter Try.func35, Try.ntmps35
    go_wp2_with (first
      | (go_at_call 14; rw [← HW0.out]; (with_reducible refine (HMA.out _ (Ext.refl _)).mono ?_); rintro e w1 ⟨rfl, hx⟩; have h1 : Ext w0 w1 := hx; clear hx)
      | (go_at_call 14; (with_reducible refine (HMB.out _ h1).mono ?_); rintro e w2 ⟨rfl, hx⟩; have h2 : Ext w0 w2 := Ext.trans h1 hx; clear hx)
      | (go_at_call 69; (with_reducible refine (HFA.out _ h2).mono ?_); rintro e w3 ⟨rfl, hx⟩; have h3 : Ext w0 w3 := Ext.trans h2 hx; clear hx))
    try go_ret
    exact hD.out _ _ ⟨ret_bool HR'.out.symm, Ext.trans HE0.out h3⟩
  have HFA := Lib.hid (HFA1.out true g2)
  have G2 := Lib.hid g2
  clear g2
  cases g3 : (!lb.any (badB n))
  · have HR' : Hid (r = false) := by (show _ = _); rw [← HR.out, g3]; simp
    have HFB := Lib.hid (HFB1.out false g3)
    clear g3
    go_enter Try.func35, Try.ntmps35
    go_wp2_with (first
      | (go_at_call 14; rw [← HW0.out]; (with_reducible refine (HMA.out _ (Ext.refl _)).mono ?_); rintro e w1 ⟨rfl, hx⟩; have h1 : Ext w0 w1 := hx; clear hx)
      | (go_at_call 14; (with_reducible refine (HMB.out _ h1).mono ?_); rintro e w2 ⟨rfl, hx⟩; have h2 : Ext w0 w2 := Ext.trans h1 hx; clear hx)
      | (go_at_call 69; (with_reducible refine (HFA.out _ h2).mono ?_); rintro e w3 ⟨rfl, hx⟩; have h3 : Ext w0 w3 := Ext.trans h2 hx; clear hx)
      | (go_at_call 69; (with_reducible refine (HFB.out _ h3).mono ?_); rintro e w4 ⟨rfl, hx⟩; have h4 : Ext w0 w4 := Ext.trans h3 hx; clear hx))
    try go_ret
    exact hD.out _ _ ⟨ret_bool HR'.out.symm, Ext.trans HE0.out h4⟩
  have HFB := Lib.hid (HFB1.out true g3)
  have G3 := Lib.hid g3
  clear g3
  generalize hna : la.length = na at *
  generalize hnb : lb.length = nb at *
  have HNA := Lib.hid hna
  have HNB := Lib.hid hnb
  clear hna hnb
  by_cases hep : eb = ea + 1
  case neg =>
    have HR' : Hid (r = false) := by (show _ = _); rw [← HR.out]; simp [hep]
    go_enter Try.func35, Try.ntmps35
    go_wp2_with (first
      | (go_at_call 14; rw [← HW0.out]; (with_reducible refine (HMA.out _ (Ext.refl _)).mono ?_); rintro e w1 ⟨rfl, hx⟩; have h1 : Ext w0 w1 := hx; clear hx)
      | (go_at_call 14; (with_reducible refine (HMB.out _ h1).mono ?_); rintro e w2 ⟨rfl, hx⟩; have h2 : Ext w0 w2 := Ext.trans h1 hx; clear hx)
      | (go_at_call 69; (with_reducible refine (HFA.out _ h2).mono ?_); rintro e w3 ⟨rfl, hx⟩; have h3 : Ext w0 w3 := Ext.trans h2 hx; clear hx)
      | (go_at_call 69; (with_reducible refine (HFB.out _ h3).mono ?_); rintro e w4 ⟨rfl, hx⟩; have h4 : Ext w0 w4 := Ext.trans h3 hx; clear hx))
    try go_ret
    exact hD.out _ _ ⟨ret_bool HR'.out.symm, Ext.trans HE0.out h4⟩
  have HR' : Hid (r = nextL la lb 0 0) := by (show _ = _); rw [← HR.out, G0.out, G1.out, G2.out, G3.out, decide_eq_true hep]; rfl
  clear HR
  subst hep
  go_enter Try.func35, Try.ntmps35
  go_wp2_with (first
      | (go_at_call 14; rw [← HW0.out]; (with_reducible refine (HMA.out _ (Ext.refl _)).mono ?_); rintro e w1 ⟨rfl, hx⟩; have h1 : Ext w0 w1 := hx; clear hx)
      | (go_at_call 14; (with_reducible refine (HMB.out _ h1).mono ?_); rintro e w2 ⟨rfl, hx⟩; have h2 : Ext w0 w2 := Ext.trans h1 hx; clear hx)
      | (go_at_call 69; (with_reducible refine (HFA.out _ h2).mono ?_); rintro e w3 ⟨rfl, hx⟩; have h3 : Ext w0 w3 := Ext.trans h2 hx; clear hx)
      | (go_at_call 69; (with_reducible refine (HFB.out _ h3).mono ?_); rintro e w4 ⟨rfl, hx⟩; have h4 : Ext w0 w4 := Ext.trans h3 hx; clear hx))
  go_loopw [7, 8, 9] (fun a c i wr => ∃ (k : Nat) (p q : Int), k ≤ nb ∧ a = .int .i64 p ∧ c = .int .i64 q ∧ i = .int .i64 k ∧ -1 ≤ p ∧ p ≤ na ∧ 0 ≤ q ∧ q ≤ k ∧ Hid (r = nextL la (lb.drop k) (p + 1) q) ∧ Ext w0 wr) (fun _ _ i _ => nb - (intOf i).toNat)
  case atStart => exact ⟨0, -1, 0, Nat.zero_le _, rfl, rfl, rfl, by omega, by omega, by omega, by omega, HR'.out, h4⟩
  case round =>
    obtain ⟨k, p, q, hk, rfl, rfl, rfl, p0, p1, q0, q1, Hi, hr⟩ := hrel
    clear h1 h2 h3 h4
    by_cases hlt : k < nb
    · obtain ⟨b9, o9, rfl, hcell⟩ := (HSB.out _ hr).at_ (k := k) (by rw [HNB.out]; exact hlt)
      have hd : lb.drop k = lb[k]'(by rw [HNB.out]; exact hlt) :: lb.drop (k + 1) := List.drop_eq_getElem_cons _
      have Hd := Lib.hid hd
      clear hd
      generalize lb[k]'(by rw [HNB.out]; exact hlt) = y at *
      unfold i64 at hcell
      obtain ⟨i0, i1⟩ := HI.out y
      obtain ⟨v, hv⟩ : ∃ v, idx y la 0 = v := ⟨_, rfl⟩
      have HX : Hid (∀ V, Ext wr V → Calls Try.prog 70 #[.agg #[.int .i64 ea, .slice A na c1], .int .i64 y] V fun e w' => e = .returned (.int .i64 v) ∧ Ext V w') := fun V h => by rw [← hv]; exact HIX.out V y (Ext.trans hr h)
      rw [hv] at i0 i1
      have HV := Lib.hid hv
      clear hv
      have hdn : lb.drop (k + 1) = [] ↔ nb ≤ k + 1 := by rw [List.drop_eq_nil_iff, HNB.out]
      have HDN := Lib.hid hdn
      clear hdn
      have m0 : (0 : Int) ≤ (k : Int) := by omega
      have m1 : (k : Int) < (nb : Int) := by omega
      have r0 : ∀ W, Ext wr W → W.cell? ⟨w.heap.size, 0, none⟩ = some (.int .i64 ea) := fun W h => fa0 W (Ext.trans hr h)
      have r1 : ∀ W, Ext wr W → W.cell? ⟨w.heap.size, 1, none⟩ = some (.slice A na c1) := fun W h => fa1 W (Ext.trans hr h)
      have r2 : ∀ W, Ext wr W → W.cell? ⟨w.heap.size + 1, 0, none⟩ = some (.int .i64 (ea + 1)) := fun W h => fb0 W (Ext.trans hr h)
      have r3 : ∀ W, Ext wr W → W.cell? ⟨w.heap.size + 1, 1, none⟩ = some (.slice (some ⟨b9, o9, none⟩) nb c2) := fun W h => fb1 W (Ext.trans hr h)
      have r4 : ∀ W, Ext wr W → W.cell? ⟨b9, o9 + k, none⟩ = some (.int .i64 y) := fun W h => cell_stay h hcell
      have HE9 : Hid (Ext wr wr) := Ext.refl _
      have HRR := Lib.hid hr
      have s3 := fb1 wr hr
      go_wp2_with fail
      clear s3 hcell fa0 fa1 fb0 fb1 hr
      refine ext_begin (by kernel_rfl) ?_
      have HE9d := Lib.hid (Ext.drewR HE9.out)
      refine ext_take (i := 0) (v := ?_) rfl (by kernel_rfl) (by kernel_rfl) (by kernel_rfl) (fun _ _ _ h => h) (by rfl) ?_ ?_
      rotate_left
      · intro W hW; have hW0 := Ext.trans HE9d.out hW; clear hW; go_simp <;> with_reducible rfl
      try simp only [Act.put, List.setIfInBounds_toArray, List.set_cons_zero, List.set_cons_succ]
      refine ext_take (i := 1) (v := ?_) rfl (by kernel_rfl) (by kernel_rfl) (by kernel_rfl) (fun _ _ _ h => h) (by rfl) ?_ ?_
      rotate_left
      · intro W hW; have hW0 := Ext.trans HE9d.out hW; clear hW; go_simp <;> with_reducible rfl
      try simp only [Act.put, List.setIfInBounds_toArray, List.set_cons_zero, List.set_cons_succ]
      refine ext_take (i := 2) (v := ?_) rfl (by kernel_rfl) (by kernel_rfl) (by kernel_rfl) (fun _ _ _ h => h) (by rfl) ?_ ?_
      rotate_left
      · intro W hW; have hW0 := Ext.trans HE9d.out hW; clear hW; go_simp <;> with_reducible rfl
      try simp only [Act.put, List.setIfInBounds_toArray, List.set_cons_zero, List.set_cons_succ]
      refine ext_take (i := 3) (v := ?_) rfl (by kernel_rfl) (by kernel_rfl) (by kernel_rfl) (fun _ _ _ h => h) (by rfl) ?_ ?_
      rotate_left
      · intro W hW; have hW0 := Ext.trans HE9d.out hW; clear hW; go_simp <;> with_reducible rfl
      try simp only [Act.put, List.setIfInBounds_toArray, List.set_cons_zero, List.set_cons_succ]
      refine ext_take (i := 4) (v := ?_) rfl (by kernel_rfl) (by kernel_rfl) (by kernel_rfl) (fun _ _ _ h => h) (by rfl) ?_ ?_
      rotate_left
      · intro W hW; have hW0 := Ext.trans HE9d.out hW; clear hW; go_simp <;> with_reducible rfl
      try simp only [Act.put, List.setIfInBounds_toArray, List.set_cons_zero, List.set_cons_succ]
      refine ext_take (i := 5) (v := ?_) rfl (by kernel_rfl) (by kernel_rfl) (by kernel_rfl) (fun _ _ _ h => h) (by rfl) ?_ ?_
      rotate_left
      · intro W hW; have hW0 := Ext.trans HE9d.out hW; clear hW; go_simp <;> with_reducible rfl
      try simp only [Act.put, List.setIfInBounds_toArray, List.set_cons_zero, List.set_cons_succ]
      refine ext_call (i := 6) rfl (by kernel_rfl) (by rfl) (fun K' hK => ?_)
      go_simp
      (go_at_call 70; (with_reducible refine (HX.out _ HE9d.out).mono ?_); rintro e w7 ⟨rfl, hx⟩; refine hK _ _ hx ?_; clear hK)
      have Ew7 := Lib.hid (Ext.trans HE9d.out hx)
      clear hx
      try simp only [Act.put, List.setIfInBounds_toArray, List.set_cons_zero, List.set_cons_succ]
      refine ext_take (i := 7) (v := ?_) rfl (by kernel_rfl) (by kernel_rfl) (by kernel_rfl) (fun _ _ _ h => h) (by rfl) ?_ ?_
      rotate_left
      · intro W hW; have hW0 := Ext.trans Ew7.out hW; clear hW; go_simp <;> with_reducible rfl
      try simp only [Act.put, List.setIfInBounds_toArray, List.set_cons_zero, List.set_cons_succ]
      refine wpAnyH_done (by kernel_rfl) ?_ _
      have s3 := r3 w7 Ew7.out
      have h7 : Ext w0 w7 := Ext.trans HRR.out Ew7.out
      clear r0 r1 r2 r3 r4
      by_cases g0 : v < 0
      · by_cases g1 : (k : Int) = (nb : Int) - 1
        · have HE : Hid (r = nextL la (lb.drop (k + 1)) (p + 1) q) := by (show _ = _); rw [Hi.out, Hd.out, nextL, HV.out, if_pos ⟨g0, HDN.out.2 (by omega)⟩]
          have g3 : (nb : Int) - 1 = (k : Int) := by omega
          clear g1
          go_wp2
          go_roundw
          case rel => exact ⟨k + 1, p, q, by omega, rfl, rfl, by go_num, p0, p1, q0, by omega, HE, h7⟩
          case measure => simp [intOf]; omega
        · have HE : Hid (r = false) := by (show _ = _); rw [Hi.out, Hd.out, nextL, HV.out, if_neg (fun h => g1 (by have := HDN.out.1 h.2; omega)), if_pos (by omega)]
          have g2 : v ≤ p := by omega
          go_wp2
          try go_ret
          exact hD.out _ _ ⟨ret_bool HE.out.symm, Ext.trans HE0.out h7⟩
      · by_cases g2 : v ≤ p
        · have HE : Hid (r = false) := by (show _ = _); rw [Hi.out, Hd.out, nextL, HV.out, if_neg (fun h => g0 h.1), if_pos (by omega)]
          go_wp2
          try go_ret
          exact hD.out _ _ ⟨ret_bool HE.out.symm, Ext.trans HE0.out h7⟩
        · have HE : Hid (r = nextL la (lb.drop (k + 1)) (v + 1) (q + 1)) := by (show _ = _); rw [Hi.out, Hd.out, nextL, HV.out, if_neg (fun h => g0 h.1), if_neg (by omega)]
          go_wp2
          go_roundw
          case rel => exact ⟨k + 1, v, q + 1, by omega, rfl, by go_num, by go_num, by omega, by omega, by omega, by omega, HE, h7⟩
          case measure => simp [intOf]; omega
    · have HE : Hid (r = decide (0 < q)) := by (show _ = _); rw [Hi.out, List.drop_of_length_le (by have := HNB.out; omega)]; rfl
      have s3 := fb1 wr hr
      go_wp2_with fail
      all_goals try go_ret
      all_goals exact hD.out _ _ ⟨ret_bool (by rw [HE.out]), Ext.trans HE0.out hr⟩
end Go.Proofs.Ytkdcbidbciognaa
