/-
  The walk of the law ChainTurns.
-/
import Derived.Test.YtdjkopdgapifpaaRefWith
namespace Go.Proofs.Ytdjkopdgapifpaa
set_option linter.unusedVariables false
set_option linter.unusedSimpArgs false
open Go.RowKit Go.ChangeShapes Go.WideShapes

theorem chOk_far {ep : Int} {l : List Int} (h : 1073741824 < ep) : chOk ep l = noCh := by
  have hm : mayChainB ep l = false := by
    cases hm : mayChainB ep l
    · rfl
    · have := (mayChain_all hm).1; omega
  simp [chOk, hm]
theorem same_self' (ep : Int) (A B : Option Addr) (c1 c2 n : Nat) (l : List Int) (w : World) (hn : n = l.length) (h1 : l.length ≤ 9223372036854775807) (hs : Sl i64 w A l) (hs2 : Sl i64 w B l) :
    Calls Try.prog 33 #[.agg #[.int .i64 ep, .slice A n c1], .agg #[.int .i64 ep, .slice B n c2]] w fun e w' => e = .returned (.bool true) ∧ Ext w w' := by
  subst hn
  exact (sameRef_any ep ep A B c1 c2 l l w h1 h1 hs hs2).mono fun e w' ⟨he, h⟩ => ⟨by rw [he]; simp, h⟩

set_option maxRecDepth 8000 in
set_option maxHeartbeats 64000000 in
theorem walk_chainTurns (ea : Int) (A : Option Addr) (c1 : Nat) (la : List Int) (G : Option Addr) (c2 : Nat) (lg : List Int) (node : Int) (w : World) (l1 : la.length ≤ 9223372036854775807) (hc1 : la.length ≤ c1) (hs : Sl i64 w A la) (l2 : lg.length ≤ 9223372036854775807) (hs2 : Sl i64 w G lg) :
    Calls Try.prog 12 #[chV ea A la.length c1, .slice G lg.length c2, .int .i64 node] w fun e w' => e = .returned (.bool true) ∧ Below w.heap.size w w' := by
  refine hide_post fun D hD => ?_
  obtain ⟨w0, hw0⟩ : ∃ w0, w0 = w.alloc (.cells #[.int .i64 ea, .slice A la.length c1] 50) := ⟨_, rfl⟩
  have hb0 : Ext w w0 := by rw [hw0]; exact ext_al _ _
  have KA : Blk w0 w.heap.size 50 #[.int .i64 ea, .slice A la.length c1] := by rw [hw0]; exact Blk.new w _ _
  have HSA : Hid (∀ V, Ext w0 V → Sl i64 V A la) := fun V h => hs.stay (Ext.trans hb0 h)
  have HSG : Hid (∀ V, Ext w0 V → Sl i64 V G lg) := fun V h => hs2.stay (Ext.trans hb0 h)
  have HTO : Hid (∀ V, Ext w0 V → Calls Try.prog 45 #[] V fun e w' => e = .returned (.bool true) ∧ Ext V w') := fun V h => told12 V
  have HFA0 : Hid (∀ b, decide (la.length ≤ 10) = b → ∀ V, Ext w0 V → Calls Try.prog 46 #[.agg #[.int .i64 ea, .slice A la.length c1]] V fun e w' => e = .returned (.bool b) ∧ Ext V w') := fun b hb V h => by rw [← hb]; exact few_any ea A la.length c1 V (by omega)
  have HMA0 : Hid (∀ b, mayChainB ea la = b → ∀ V, Ext w0 V → Calls Try.prog 44 #[.agg #[.int .i64 ea, .slice A la.length c1]] V fun e w' => e = .returned (.bool b) ∧ Ext V w') := fun b hb V h => by rw [← hb]; exact refMayChain_any ea A c1 la V (by omega) (HSA.out V h)
  have fa0 : ∀ V, Ext w0 V → V.cell? ⟨w.heap.size, 0, none⟩ = some (.int .i64 ea) := fun V h => (KA.stay h).cell 0
  have fa1 : ∀ V, Ext w0 V → V.cell? ⟨w.heap.size, 1, none⟩ = some (.slice A la.length c1) := fun V h => (KA.stay h).cell 1
  have HB0 := Lib.hid hb0
  have HW0 := Lib.hid hw0
  clear hb0 hw0 hs hs2 KA
  cases g0 : decide (la.length ≤ 10)
  · have HFA := Lib.hid (HFA0.out false g0)
    clear g0
    go_enter Try.func12, Try.ntmps12
    go_wp2_with (first
      | (go_at_call 46; rw [← HW0.out]; (with_reducible refine (HFA.out _ (Ext.refl _)).mono ?_); rintro e w1 ⟨rfl, hx⟩; have h1 : Ext w0 w1 := hx; clear hx)
      | (go_at_call 45; (with_reducible refine (HTO.out _ h1).mono ?_); rintro e w9 ⟨rfl, hx⟩; have h9 : Ext w0 w9 := Ext.trans h1 hx; clear hx))
    try go_ret
    exact hD.out _ _ ⟨rfl, Ext.trans HB0.out h9⟩
  have HFA := Lib.hid (HFA0.out true g0)
  clear g0 HFA0
  by_cases g1 : (8 : Int) < (lg.length : Int)
  · go_enter Try.func12, Try.ntmps12
    go_wp2_with (first
      | (go_at_call 46; rw [← HW0.out]; (with_reducible refine (HFA.out _ (Ext.refl _)).mono ?_); rintro e w1 ⟨rfl, hx⟩; have h1 : Ext w0 w1 := hx; clear hx)
      | (go_at_call 45; (with_reducible refine (HTO.out _ h1).mono ?_); rintro e w9 ⟨rfl, hx⟩; have h9 : Ext w0 w9 := Ext.trans h1 hx; clear hx))
    try go_ret
    exact hD.out _ _ ⟨rfl, Ext.trans HB0.out h9⟩
  cases g2 : mayChainB ea la
  · have HMA := Lib.hid (HMA0.out false g2)
    clear g2
    go_enter Try.func12, Try.ntmps12
    go_wp2_with (first
      | (go_at_call 46; rw [← HW0.out]; (with_reducible refine (HFA.out _ (Ext.refl _)).mono ?_); rintro e w1 ⟨rfl, hx⟩; have h1 : Ext w0 w1 := hx; clear hx)
      | (go_at_call 44; (with_reducible refine (HMA.out _ h1).mono ?_); rintro e w2 ⟨rfl, hx⟩; have h2 : Ext w0 w2 := Ext.trans h1 hx; clear hx)
      | (go_at_call 45; (with_reducible refine (HTO.out _ h2).mono ?_); rintro e w9 ⟨rfl, hx⟩; have h9 : Ext w0 w9 := Ext.trans h2 hx; clear hx))
    try go_ret
    exact hD.out _ _ ⟨rfl, Ext.trans HB0.out h9⟩
  have HMA := Lib.hid (HMA0.out true g2)
  obtain ⟨⟨e0, e1⟩, ⟨n0, n1⟩, nd, ns⟩ := mayChain_all g2
  have q1 : withoutL ea la lg = chOk (ea + 1) (leftL la lg) := by rw [withoutL, if_pos g2]
  have q1b : refWithoutL ea la lg = chOk (ea + 1) (leftL la lg) := by
    unfold refWithoutL
    split
    · rfl
    · rw [chOk_far (by omega)]
  have q2 : withL ea la node = chOk (ea + 1) (la ++ [node]) := by rw [withL, if_pos g2]
  have q2b : refWithL ea la node = chOk (ea + 1) (la ++ [node]) := by
    unfold refWithL
    split
    · rename_i h
      rcases h with h | h
      · rw [chOk_far (by omega)]
      · simp [chOk, may_twice h]
    · rfl
  have z1 : chOk (ea + 1) (leftL la lg) = noCh ∨ (chOk (ea + 1) (leftL la lg) = (ea + 1, leftL la lg, 0) ∧ nextB ea (ea + 1) la (leftL la lg) 5 = true) := by
    cases hm : mayChainB (ea + 1) (leftL la lg)
    · exact .inl (by simp [chOk, hm])
    · refine .inr ⟨by simp [chOk, hm], next_left g2 (by have := (mayChain_all hm).1; omega) (fun x hx => by have := ns x hx; omega) (fun e => by rw [e] at hm; simp [mayChainB] at hm)⟩
  have z2 : chOk (ea + 1) (la ++ [node]) = noCh ∨ (chOk (ea + 1) (la ++ [node]) = (ea + 1, la ++ [node], 0) ∧ nextB ea (ea + 1) la (la ++ [node]) 5 = true) := by
    cases hm : mayChainB (ea + 1) (la ++ [node])
    · exact .inl (by simp [chOk, hm])
    · have hx := (mayChain_all hm).2.2.2 node (by simp)
      exact .inr ⟨by simp [chOk, hm], next_more g2 hm (fun x hx => by have := ns x hx; omega) (by omega)⟩
  have LL1 := leftL_len la lg
  have HT2 := Lib.hid (tail_more la node)
  have LL2 : (la ++ [node]).length ≤ 6 := by simp; omega
  clear g2 nd ns HMA0
  generalize leftL la lg = L1 at *
  generalize la ++ [node] = L2 at *
  rcases z1 with z1 | ⟨z1, z1n⟩
  · rcases z2 with z2 | ⟨z2, z2n⟩
    · have R1 := Lib.hid (q1.trans z1)
      have R1b := Lib.hid (q1b.trans z1)
      have R2 := Lib.hid (q2.trans z2)
      have R2b := Lib.hid (q2b.trans z2)
      clear q1 q1b q2 q2b z1 z2
      have HWO : Hid (∀ V, Ext w0 V → Calls Try.prog 41 #[.agg #[.int .i64 ea, .slice A la.length c1], .slice G lg.length c2] V fun e w' => ∃ A' c, e = .returned (.tuple #[.agg #[.int .i64 0, .slice A' 0 c], .int .i64 1]) ∧ Sl i64 w' A' [] ∧ 0 ≤ c ∧ Ext V w') := fun V h => by
        have := without_any ea A G c1 c2 la lg V (by omega) hc1 (by omega) (HSA.out V h) (HSG.out V h)
        rw [R1.out] at this
        exact this.mono fun e w' ⟨A', c, he, hs, hc, hx, _⟩ => ⟨A', c, he, hs, hc, hx⟩
      have HRO : Hid (∀ V, Ext w0 V → Calls Try.prog 53 #[.agg #[.int .i64 ea, .slice A la.length c1], .slice G lg.length c2] V fun e w' => ∃ A' c, e = .returned (.tuple #[.agg #[.int .i64 0, .slice A' 0 c], .int .i64 1]) ∧ Sl i64 w' A' [] ∧ 0 ≤ c ∧ Ext V w') := fun V h => by
        have := refWithout_any ea A G c1 c2 la lg V (by omega) (by omega) (by omega) (HSA.out V h) (HSG.out V h)
        rw [R1b.out] at this
        exact this.mono fun e w' ⟨A', c, he, hs, hc, hx, _⟩ => ⟨A', c, he, hs, hc, hx⟩
      have HWI : Hid (∀ V, Ext w0 V → Calls Try.prog 40 #[.agg #[.int .i64 ea, .slice A la.length c1], .int .i64 node] V fun e w' => ∃ A' c, e = .returned (.tuple #[.agg #[.int .i64 0, .slice A' 0 c], .int .i64 1]) ∧ Sl i64 w' A' [] ∧ 0 ≤ c ∧ Ext V w') := fun V h => by
        have := with_any ea node A c1 la V (by omega) hc1 (HSA.out V h)
        rw [R2.out] at this
        exact this.mono fun e w' ⟨A', c, he, hs, hc, hx, _⟩ => ⟨A', c, he, hs, hc, hx⟩
      have HRI : Hid (∀ V, Ext w0 V → Calls Try.prog 54 #[.agg #[.int .i64 ea, .slice A la.length c1], .int .i64 node] V fun e w' => ∃ A' c, e = .returned (.tuple #[.agg #[.int .i64 0, .slice A' 0 c], .int .i64 1]) ∧ Sl i64 w' A' [] ∧ 0 ≤ c ∧ Ext V w') := fun V h => by
        have := refWith_any ea node A c1 la V (by omega) (by omega) (HSA.out V h)
        rw [R2b.out] at this
        exact this.mono fun e w' ⟨A', c, he, hs, hc, hx, _⟩ => ⟨A', c, he, hs, hc, hx⟩
      go_enter Try.func12, Try.ntmps12
      go_wp2_with (first
        | (go_at_call 46; rw [← HW0.out]; (with_reducible refine (HFA.out _ (Ext.refl _)).mono ?_); rintro e w1 ⟨rfl, hx⟩; have h1 : Ext w0 w1 := hx; clear hx)
        | (go_at_call 44; (with_reducible refine (HMA.out _ h1).mono ?_); rintro e w2 ⟨rfl, hx⟩; have h2 : Ext w0 w2 := Ext.trans h1 hx; clear hx))
      go_at_call 41
      have p3 := h2
      (with_reducible refine (HWO.out _ p3).mono ?_)
      rintro e w3 ⟨A3, d3, rfl, hs3, hc3, hx⟩
      have X3 := Lib.hid hx
      have S3 := Lib.hid hs3
      have g3 : ∀ o, Ext w0 (w3.alloc o) := fun o => Ext.trans (Ext.trans p3 hx) (ext_al _ _)
      clear hx hs3 p3
      go_wp2_with fail
      go_at_call 53
      have p4 := (g3 (.cells #[.int .i64 0, .slice A3 0 d3] 50))
      (with_reducible refine (HRO.out _ p4).mono ?_)
      rintro e w4 ⟨A4, d4, rfl, hs4, hc4, hx⟩
      have X4 := Lib.hid hx
      have S4 := Lib.hid hs4
      have g4 : ∀ o, Ext w0 (w4.alloc o) := fun o => Ext.trans (Ext.trans p4 hx) (ext_al _ _)
      clear hx hs4 p4
      go_wp2_with fail
      go_at_call 40
      have p5 := (g4 (.cells #[.int .i64 0, .slice A4 0 d4] 50))
      (with_reducible refine (HWI.out _ p5).mono ?_)
      rintro e w5 ⟨A5, d5, rfl, hs5, hc5, hx⟩
      have X5 := Lib.hid hx
      have S5 := Lib.hid hs5
      have g5 : ∀ o, Ext w0 (w5.alloc o) := fun o => Ext.trans (Ext.trans p5 hx) (ext_al _ _)
      clear hx hs5 p5
      go_wp2_with fail
      go_at_call 54
      have p6 := (g5 (.cells #[.int .i64 0, .slice A5 0 d5] 50))
      (with_reducible refine (HRI.out _ p6).mono ?_)
      rintro e w6 ⟨A6, d6, rfl, hs6, hc6, hx⟩
      have X6 := Lib.hid hx
      have S6 := Lib.hid hs6
      have g6 : ∀ o, Ext w0 (w6.alloc o) := fun o => Ext.trans (Ext.trans p6 hx) (ext_al _ _)
      clear hx hs6 p6
      obtain ⟨V, hV⟩ : ∃ V, V = w6.alloc (.cells #[.int .i64 0, .slice A6 0 d6] 50) := ⟨_, rfl⟩
      have x6 : Ext w6 V := by rw [hV]; exact ext_al _ _
      have x5 : Ext w5 V := Ext.trans (Ext.trans (ext_al _ _) X6.out) x6
      have x4 : Ext w4 V := Ext.trans (Ext.trans (ext_al _ _) X5.out) x5
      have x3 : Ext w3 V := Ext.trans (Ext.trans (ext_al _ _) X4.out) x4
      have H0V : Hid (Ext w0 V) := (by (show Ext _ _); rw [hV]; exact g6 _)
      have y4 : Ext (w3.alloc (.cells #[.int .i64 0, .slice A3 0 d3] 50)) w6 := Ext.trans X4.out (Ext.trans (Ext.trans (ext_al _ _) X5.out) (Ext.trans (ext_al _ _) X6.out))
      have y5 : Ext (w4.alloc (.cells #[.int .i64 0, .slice A4 0 d4] 50)) w6 := Ext.trans X5.out (Ext.trans (ext_al _ _) X6.out)
      have y6 : Ext (w5.alloc (.cells #[.int .i64 0, .slice A5 0 d5] 50)) w6 := X6.out
      have kx : Blk w6 w3.heap.size 50 #[.int .i64 0, .slice A3 0 d3] := (Blk.new w3 _ _).stay y4
      have ky : Blk w6 w4.heap.size 50 #[.int .i64 0, .slice A4 0 d4] := (Blk.new w4 _ _).stay y5
      have kz : Blk w6 w5.heap.size 50 #[.int .i64 0, .slice A5 0 d5] := (Blk.new w5 _ _).stay y6
      have ku : Blk V w6.heap.size 50 #[.int .i64 0, .slice A6 0 d6] := by rw [hV]; exact Blk.new w6 _ _
      have HS1 : Hid (∀ W, Ext V W → Calls Try.prog 33 #[.agg #[.int .i64 0, .slice A3 0 d3], .agg #[.int .i64 0, .slice A4 0 d4]] W fun e w' => e = .returned (.bool true) ∧ Ext W w') := fun W h => same_self' _ A3 A4 d3 d4 _ [] W (by rfl) (by simp) (S3.out.stay (Ext.trans x3 h)) (S4.out.stay (Ext.trans x4 h))
      have HS2 : Hid (∀ W, Ext V W → Calls Try.prog 33 #[.agg #[.int .i64 0, .slice A5 0 d5], .agg #[.int .i64 0, .slice A6 0 d6]] W fun e w' => e = .returned (.bool true) ∧ Ext W w') := fun W h => same_self' _ A5 A6 d5 d6 _ [] W (by rfl) (by simp) (S5.out.stay (Ext.trans x5 h)) (S6.out.stay (Ext.trans x6 h))
      have HT : Hid (∀ W, Ext V W → Calls Try.prog 45 #[] W fun e w' => e = .returned (.bool true) ∧ Ext W w') := fun W h => HTO.out W (Ext.trans H0V.out h)
      have ex0 : ∀ o, (w6.alloc o).cell? ⟨w3.heap.size, 0, none⟩ = some (.int .i64 0) := fun o => (kx.alloc o).cell 0
      have ex1 : ∀ o, (w6.alloc o).cell? ⟨w3.heap.size, 1, none⟩ = some (.slice A3 0 d3) := fun o => (kx.alloc o).cell 1
      have fx0 : ∀ W, Ext V W → W.cell? ⟨w3.heap.size, 0, none⟩ = some (.int .i64 0) := fun W h => ((kx.stay x6).stay h).cell 0
      have fx1 : ∀ W, Ext V W → W.cell? ⟨w3.heap.size, 1, none⟩ = some (.slice A3 0 d3) := fun W h => ((kx.stay x6).stay h).cell 1
      have ey0 : ∀ o, (w6.alloc o).cell? ⟨w4.heap.size, 0, none⟩ = some (.int .i64 0) := fun o => (ky.alloc o).cell 0
      have ey1 : ∀ o, (w6.alloc o).cell? ⟨w4.heap.size, 1, none⟩ = some (.slice A4 0 d4) := fun o => (ky.alloc o).cell 1
      have fy0 : ∀ W, Ext V W → W.cell? ⟨w4.heap.size, 0, none⟩ = some (.int .i64 0) := fun W h => ((ky.stay x6).stay h).cell 0
      have fy1 : ∀ W, Ext V W → W.cell? ⟨w4.heap.size, 1, none⟩ = some (.slice A4 0 d4) := fun W h => ((ky.stay x6).stay h).cell 1
      have ez0 : ∀ o, (w6.alloc o).cell? ⟨w5.heap.size, 0, none⟩ = some (.int .i64 0) := fun o => (kz.alloc o).cell 0
      have ez1 : ∀ o, (w6.alloc o).cell? ⟨w5.heap.size, 1, none⟩ = some (.slice A5 0 d5) := fun o => (kz.alloc o).cell 1
      have fz0 : ∀ W, Ext V W → W.cell? ⟨w5.heap.size, 0, none⟩ = some (.int .i64 0) := fun W h => ((kz.stay x6).stay h).cell 0
      have fz1 : ∀ W, Ext V W → W.cell? ⟨w5.heap.size, 1, none⟩ = some (.slice A5 0 d5) := fun W h => ((kz.stay x6).stay h).cell 1
      have fu0 : ∀ W, Ext V W → W.cell? ⟨w6.heap.size, 0, none⟩ = some (.int .i64 0) := fun W h => (ku.stay h).cell 0
      have fu1 : ∀ W, Ext V W → W.cell? ⟨w6.heap.size, 1, none⟩ = some (.slice A6 0 d6) := fun W h => (ku.stay h).cell 1
      have ga0 : ∀ W, Ext V W → W.cell? ⟨w.heap.size, 0, none⟩ = some (.int .i64 ea) := fun W h => fa0 W (Ext.trans H0V.out h)
      have ga1 : ∀ W, Ext V W → W.cell? ⟨w.heap.size, 1, none⟩ = some (.slice A la.length c1) := fun W h => fa1 W (Ext.trans H0V.out h)
      have HV := Lib.hid hV
      clear hV kx ky kz ku x3 x4 x5 x6 y4 y5 y6 fa0 fa1 h1 h2 g3 g4 g5 g6
      go_wp2_with (first
        | (go_at_call 33; rw [← HV.out]; (with_reducible refine (HS1.out _ (Ext.refl _)).mono ?_); rintro e w11 ⟨rfl, hx⟩; have k11 : Ext V w11 := hx; clear hx)
        | (go_at_call 33; (with_reducible refine (HS2.out _ k11).mono ?_); rintro e w12 ⟨rfl, hx⟩; have k12 : Ext V w12 := Ext.trans k11 hx; clear hx)
        | (go_at_call 45; (with_reducible refine (HT.out _ k12).mono ?_); rintro e w13 ⟨rfl, hx⟩; have k13 : Ext V w13 := Ext.trans k12 hx; clear hx))
      try go_ret
      exact hD.out _ _ ⟨rfl, Ext.trans HB0.out (Ext.trans H0V.out k13)⟩
    · have R1 := Lib.hid (q1.trans z1)
      have R1b := Lib.hid (q1b.trans z1)
      have R2 := Lib.hid (q2.trans z2)
      have R2b := Lib.hid (q2b.trans z2)
      have N2 := Lib.hid z2n
      clear q1 q1b q2 q2b z1 z2 z2n
      have HWO : Hid (∀ V, Ext w0 V → Calls Try.prog 41 #[.agg #[.int .i64 ea, .slice A la.length c1], .slice G lg.length c2] V fun e w' => ∃ A' c, e = .returned (.tuple #[.agg #[.int .i64 0, .slice A' 0 c], .int .i64 1]) ∧ Sl i64 w' A' [] ∧ 0 ≤ c ∧ Ext V w') := fun V h => by
        have := without_any ea A G c1 c2 la lg V (by omega) hc1 (by omega) (HSA.out V h) (HSG.out V h)
        rw [R1.out] at this
        exact this.mono fun e w' ⟨A', c, he, hs, hc, hx, _⟩ => ⟨A', c, he, hs, hc, hx⟩
      have HRO : Hid (∀ V, Ext w0 V → Calls Try.prog 53 #[.agg #[.int .i64 ea, .slice A la.length c1], .slice G lg.length c2] V fun e w' => ∃ A' c, e = .returned (.tuple #[.agg #[.int .i64 0, .slice A' 0 c], .int .i64 1]) ∧ Sl i64 w' A' [] ∧ 0 ≤ c ∧ Ext V w') := fun V h => by
        have := refWithout_any ea A G c1 c2 la lg V (by omega) (by omega) (by omega) (HSA.out V h) (HSG.out V h)
        rw [R1b.out] at this
        exact this.mono fun e w' ⟨A', c, he, hs, hc, hx, _⟩ => ⟨A', c, he, hs, hc, hx⟩
      have HWI : Hid (∀ V, Ext w0 V → Calls Try.prog 40 #[.agg #[.int .i64 ea, .slice A la.length c1], .int .i64 node] V fun e w' => ∃ A' c, e = .returned (.tuple #[.agg #[.int .i64 (ea + 1), .slice A' L2.length c], .int .i64 0]) ∧ Sl i64 w' A' L2 ∧ L2.length ≤ c ∧ Ext V w') := fun V h => by
        have := with_any ea node A c1 la V (by omega) hc1 (HSA.out V h)
        rw [R2.out] at this
        exact this.mono fun e w' ⟨A', c, he, hs, hc, hx, _⟩ => ⟨A', c, he, hs, hc, hx⟩
      have HRI : Hid (∀ V, Ext w0 V → Calls Try.prog 54 #[.agg #[.int .i64 ea, .slice A la.length c1], .int .i64 node] V fun e w' => ∃ A' c, e = .returned (.tuple #[.agg #[.int .i64 (ea + 1), .slice A' L2.length c], .int .i64 0]) ∧ Sl i64 w' A' L2 ∧ L2.length ≤ c ∧ Ext V w') := fun V h => by
        have := refWith_any ea node A c1 la V (by omega) (by omega) (HSA.out V h)
        rw [R2b.out] at this
        exact this.mono fun e w' ⟨A', c, he, hs, hc, hx, _⟩ => ⟨A', c, he, hs, hc, hx⟩
      go_enter Try.func12, Try.ntmps12
      go_wp2_with (first
        | (go_at_call 46; rw [← HW0.out]; (with_reducible refine (HFA.out _ (Ext.refl _)).mono ?_); rintro e w1 ⟨rfl, hx⟩; have h1 : Ext w0 w1 := hx; clear hx)
        | (go_at_call 44; (with_reducible refine (HMA.out _ h1).mono ?_); rintro e w2 ⟨rfl, hx⟩; have h2 : Ext w0 w2 := Ext.trans h1 hx; clear hx))
      go_at_call 41
      have p3 := h2
      (with_reducible refine (HWO.out _ p3).mono ?_)
      rintro e w3 ⟨A3, d3, rfl, hs3, hc3, hx⟩
      have X3 := Lib.hid hx
      have S3 := Lib.hid hs3
      have g3 : ∀ o, Ext w0 (w3.alloc o) := fun o => Ext.trans (Ext.trans p3 hx) (ext_al _ _)
      clear hx hs3 p3
      go_wp2_with fail
      go_at_call 53
      have p4 := (g3 (.cells #[.int .i64 0, .slice A3 0 d3] 50))
      (with_reducible refine (HRO.out _ p4).mono ?_)
      rintro e w4 ⟨A4, d4, rfl, hs4, hc4, hx⟩
      have X4 := Lib.hid hx
      have S4 := Lib.hid hs4
      have g4 : ∀ o, Ext w0 (w4.alloc o) := fun o => Ext.trans (Ext.trans p4 hx) (ext_al _ _)
      clear hx hs4 p4
      go_wp2_with fail
      go_at_call 40
      have p5 := (g4 (.cells #[.int .i64 0, .slice A4 0 d4] 50))
      (with_reducible refine (HWI.out _ p5).mono ?_)
      rintro e w5 ⟨A5, d5, rfl, hs5, hc5, hx⟩
      have X5 := Lib.hid hx
      have S5 := Lib.hid hs5
      have g5 : ∀ o, Ext w0 (w5.alloc o) := fun o => Ext.trans (Ext.trans p5 hx) (ext_al _ _)
      clear hx hs5 p5
      go_wp2_with fail
      go_at_call 54
      have p6 := (g5 (.cells #[.int .i64 (ea + 1), .slice A5 L2.length d5] 50))
      (with_reducible refine (HRI.out _ p6).mono ?_)
      rintro e w6 ⟨A6, d6, rfl, hs6, hc6, hx⟩
      have X6 := Lib.hid hx
      have S6 := Lib.hid hs6
      have g6 : ∀ o, Ext w0 (w6.alloc o) := fun o => Ext.trans (Ext.trans p6 hx) (ext_al _ _)
      clear hx hs6 p6
      obtain ⟨V, hV⟩ : ∃ V, V = w6.alloc (.cells #[.int .i64 (ea + 1), .slice A6 L2.length d6] 50) := ⟨_, rfl⟩
      have x6 : Ext w6 V := by rw [hV]; exact ext_al _ _
      have x5 : Ext w5 V := Ext.trans (Ext.trans (ext_al _ _) X6.out) x6
      have x4 : Ext w4 V := Ext.trans (Ext.trans (ext_al _ _) X5.out) x5
      have x3 : Ext w3 V := Ext.trans (Ext.trans (ext_al _ _) X4.out) x4
      have H0V : Hid (Ext w0 V) := (by (show Ext _ _); rw [hV]; exact g6 _)
      have y4 : Ext (w3.alloc (.cells #[.int .i64 0, .slice A3 0 d3] 50)) w6 := Ext.trans X4.out (Ext.trans (Ext.trans (ext_al _ _) X5.out) (Ext.trans (ext_al _ _) X6.out))
      have y5 : Ext (w4.alloc (.cells #[.int .i64 0, .slice A4 0 d4] 50)) w6 := Ext.trans X5.out (Ext.trans (ext_al _ _) X6.out)
      have y6 : Ext (w5.alloc (.cells #[.int .i64 (ea + 1), .slice A5 L2.length d5] 50)) w6 := X6.out
      have kx : Blk w6 w3.heap.size 50 #[.int .i64 0, .slice A3 0 d3] := (Blk.new w3 _ _).stay y4
      have ky : Blk w6 w4.heap.size 50 #[.int .i64 0, .slice A4 0 d4] := (Blk.new w4 _ _).stay y5
      have kz : Blk w6 w5.heap.size 50 #[.int .i64 (ea + 1), .slice A5 L2.length d5] := (Blk.new w5 _ _).stay y6
      have ku : Blk V w6.heap.size 50 #[.int .i64 (ea + 1), .slice A6 L2.length d6] := by rw [hV]; exact Blk.new w6 _ _
      have HS1 : Hid (∀ W, Ext V W → Calls Try.prog 33 #[.agg #[.int .i64 0, .slice A3 0 d3], .agg #[.int .i64 0, .slice A4 0 d4]] W fun e w' => e = .returned (.bool true) ∧ Ext W w') := fun W h => same_self' _ A3 A4 d3 d4 _ [] W (by rfl) (by simp) (S3.out.stay (Ext.trans x3 h)) (S4.out.stay (Ext.trans x4 h))
      have HS2 : Hid (∀ W, Ext V W → Calls Try.prog 33 #[.agg #[.int .i64 (ea + 1), .slice A5 L2.length d5], .agg #[.int .i64 (ea + 1), .slice A6 L2.length d6]] W fun e w' => e = .returned (.bool true) ∧ Ext W w') := fun W h => same_self' _ A5 A6 d5 d6 _ L2 W (by rfl) (by omega) (S5.out.stay (Ext.trans x5 h)) (S6.out.stay (Ext.trans x6 h))
      have HT : Hid (∀ W, Ext V W → Calls Try.prog 45 #[] W fun e w' => e = .returned (.bool true) ∧ Ext W w') := fun W h => HTO.out W (Ext.trans H0V.out h)
      have HN2 : Hid (∀ W, Ext V W → Calls Try.prog 43 #[.agg #[.int .i64 ea, .slice A la.length c1], .agg #[.int .i64 (ea + 1), .slice A5 L2.length d5], .int .i64 5] W fun e w' => e = .returned (.bool true) ∧ Ext W w') := fun W h => by
        have := chNext_any ea (ea + 1) 5 A A5 c1 d5 la L2 W l1 (by omega) hc1 hc5 (HSA.out W (Ext.trans H0V.out h)) (S5.out.stay (Ext.trans x5 h))
        rwa [N2.out] at this
      have HTL : Hid (∀ W, Ext V W → Calls Try.prog 42 #[.agg #[.int .i64 (ea + 1), .slice A5 L2.length d5]] W fun e w' => e = .returned (.int .i64 node) ∧ Ext W w') := fun W h => by
        have := tail_any (ea + 1) A5 d5 L2 W (by omega) (S5.out.stay (Ext.trans x5 h))
        rwa [HT2.out] at this
      have ex0 : ∀ o, (w6.alloc o).cell? ⟨w3.heap.size, 0, none⟩ = some (.int .i64 0) := fun o => (kx.alloc o).cell 0
      have ex1 : ∀ o, (w6.alloc o).cell? ⟨w3.heap.size, 1, none⟩ = some (.slice A3 0 d3) := fun o => (kx.alloc o).cell 1
      have fx0 : ∀ W, Ext V W → W.cell? ⟨w3.heap.size, 0, none⟩ = some (.int .i64 0) := fun W h => ((kx.stay x6).stay h).cell 0
      have fx1 : ∀ W, Ext V W → W.cell? ⟨w3.heap.size, 1, none⟩ = some (.slice A3 0 d3) := fun W h => ((kx.stay x6).stay h).cell 1
      have ey0 : ∀ o, (w6.alloc o).cell? ⟨w4.heap.size, 0, none⟩ = some (.int .i64 0) := fun o => (ky.alloc o).cell 0
      have ey1 : ∀ o, (w6.alloc o).cell? ⟨w4.heap.size, 1, none⟩ = some (.slice A4 0 d4) := fun o => (ky.alloc o).cell 1
      have fy0 : ∀ W, Ext V W → W.cell? ⟨w4.heap.size, 0, none⟩ = some (.int .i64 0) := fun W h => ((ky.stay x6).stay h).cell 0
      have fy1 : ∀ W, Ext V W → W.cell? ⟨w4.heap.size, 1, none⟩ = some (.slice A4 0 d4) := fun W h => ((ky.stay x6).stay h).cell 1
      have ez0 : ∀ o, (w6.alloc o).cell? ⟨w5.heap.size, 0, none⟩ = some (.int .i64 (ea + 1)) := fun o => (kz.alloc o).cell 0
      have ez1 : ∀ o, (w6.alloc o).cell? ⟨w5.heap.size, 1, none⟩ = some (.slice A5 L2.length d5) := fun o => (kz.alloc o).cell 1
      have fz0 : ∀ W, Ext V W → W.cell? ⟨w5.heap.size, 0, none⟩ = some (.int .i64 (ea + 1)) := fun W h => ((kz.stay x6).stay h).cell 0
      have fz1 : ∀ W, Ext V W → W.cell? ⟨w5.heap.size, 1, none⟩ = some (.slice A5 L2.length d5) := fun W h => ((kz.stay x6).stay h).cell 1
      have fu0 : ∀ W, Ext V W → W.cell? ⟨w6.heap.size, 0, none⟩ = some (.int .i64 (ea + 1)) := fun W h => (ku.stay h).cell 0
      have fu1 : ∀ W, Ext V W → W.cell? ⟨w6.heap.size, 1, none⟩ = some (.slice A6 L2.length d6) := fun W h => (ku.stay h).cell 1
      have ga0 : ∀ W, Ext V W → W.cell? ⟨w.heap.size, 0, none⟩ = some (.int .i64 ea) := fun W h => fa0 W (Ext.trans H0V.out h)
      have ga1 : ∀ W, Ext V W → W.cell? ⟨w.heap.size, 1, none⟩ = some (.slice A la.length c1) := fun W h => fa1 W (Ext.trans H0V.out h)
      have HV := Lib.hid hV
      clear hV kx ky kz ku x3 x4 x5 x6 y4 y5 y6 fa0 fa1 h1 h2 g3 g4 g5 g6
      go_wp2_with (first
        | (go_at_call 33; rw [← HV.out]; (with_reducible refine (HS1.out _ (Ext.refl _)).mono ?_); rintro e w11 ⟨rfl, hx⟩; have k11 : Ext V w11 := hx; clear hx)
        | (go_at_call 33; (with_reducible refine (HS2.out _ k11).mono ?_); rintro e w12 ⟨rfl, hx⟩; have k12 : Ext V w12 := Ext.trans k11 hx; clear hx)
        | (go_at_call 45; (with_reducible refine (HT.out _ k12).mono ?_); rintro e w13 ⟨rfl, hx⟩; have k13 : Ext V w13 := Ext.trans k12 hx; clear hx)
        | (go_at_call 43; (with_reducible refine (HN2.out _ k13).mono ?_); rintro e w15 ⟨rfl, hx⟩; have k15 : Ext V w15 := Ext.trans k13 hx; clear hx)
        | (go_at_call 42; (with_reducible refine (HTL.out _ k15).mono ?_); rintro e w16 ⟨rfl, hx⟩; have k16 : Ext V w16 := Ext.trans k15 hx; clear hx))
      try go_ret
      exact hD.out _ _ ⟨rfl, Ext.trans HB0.out (Ext.trans H0V.out k16)⟩
  · rcases z2 with z2 | ⟨z2, z2n⟩
    · have R1 := Lib.hid (q1.trans z1)
      have R1b := Lib.hid (q1b.trans z1)
      have R2 := Lib.hid (q2.trans z2)
      have R2b := Lib.hid (q2b.trans z2)
      have N1 := Lib.hid z1n
      clear q1 q1b q2 q2b z1 z2 z1n
      have HWO : Hid (∀ V, Ext w0 V → Calls Try.prog 41 #[.agg #[.int .i64 ea, .slice A la.length c1], .slice G lg.length c2] V fun e w' => ∃ A' c, e = .returned (.tuple #[.agg #[.int .i64 (ea + 1), .slice A' L1.length c], .int .i64 0]) ∧ Sl i64 w' A' L1 ∧ L1.length ≤ c ∧ Ext V w') := fun V h => by
        have := without_any ea A G c1 c2 la lg V (by omega) hc1 (by omega) (HSA.out V h) (HSG.out V h)
        rw [R1.out] at this
        exact this.mono fun e w' ⟨A', c, he, hs, hc, hx, _⟩ => ⟨A', c, he, hs, hc, hx⟩
      have HRO : Hid (∀ V, Ext w0 V → Calls Try.prog 53 #[.agg #[.int .i64 ea, .slice A la.length c1], .slice G lg.length c2] V fun e w' => ∃ A' c, e = .returned (.tuple #[.agg #[.int .i64 (ea + 1), .slice A' L1.length c], .int .i64 0]) ∧ Sl i64 w' A' L1 ∧ L1.length ≤ c ∧ Ext V w') := fun V h => by
        have := refWithout_any ea A G c1 c2 la lg V (by omega) (by omega) (by omega) (HSA.out V h) (HSG.out V h)
        rw [R1b.out] at this
        exact this.mono fun e w' ⟨A', c, he, hs, hc, hx, _⟩ => ⟨A', c, he, hs, hc, hx⟩
      have HWI : Hid (∀ V, Ext w0 V → Calls Try.prog 40 #[.agg #[.int .i64 ea, .slice A la.length c1], .int .i64 node] V fun e w' => ∃ A' c, e = .returned (.tuple #[.agg #[.int .i64 0, .slice A' 0 c], .int .i64 1]) ∧ Sl i64 w' A' [] ∧ 0 ≤ c ∧ Ext V w') := fun V h => by
        have := with_any ea node A c1 la V (by omega) hc1 (HSA.out V h)
        rw [R2.out] at this
        exact this.mono fun e w' ⟨A', c, he, hs, hc, hx, _⟩ => ⟨A', c, he, hs, hc, hx⟩
      have HRI : Hid (∀ V, Ext w0 V → Calls Try.prog 54 #[.agg #[.int .i64 ea, .slice A la.length c1], .int .i64 node] V fun e w' => ∃ A' c, e = .returned (.tuple #[.agg #[.int .i64 0, .slice A' 0 c], .int .i64 1]) ∧ Sl i64 w' A' [] ∧ 0 ≤ c ∧ Ext V w') := fun V h => by
        have := refWith_any ea node A c1 la V (by omega) (by omega) (HSA.out V h)
        rw [R2b.out] at this
        exact this.mono fun e w' ⟨A', c, he, hs, hc, hx, _⟩ => ⟨A', c, he, hs, hc, hx⟩
      go_enter Try.func12, Try.ntmps12
      go_wp2_with (first
        | (go_at_call 46; rw [← HW0.out]; (with_reducible refine (HFA.out _ (Ext.refl _)).mono ?_); rintro e w1 ⟨rfl, hx⟩; have h1 : Ext w0 w1 := hx; clear hx)
        | (go_at_call 44; (with_reducible refine (HMA.out _ h1).mono ?_); rintro e w2 ⟨rfl, hx⟩; have h2 : Ext w0 w2 := Ext.trans h1 hx; clear hx))
      go_at_call 41
      have p3 := h2
      (with_reducible refine (HWO.out _ p3).mono ?_)
      rintro e w3 ⟨A3, d3, rfl, hs3, hc3, hx⟩
      have X3 := Lib.hid hx
      have S3 := Lib.hid hs3
      have g3 : ∀ o, Ext w0 (w3.alloc o) := fun o => Ext.trans (Ext.trans p3 hx) (ext_al _ _)
      clear hx hs3 p3
      go_wp2_with fail
      go_at_call 53
      have p4 := (g3 (.cells #[.int .i64 (ea + 1), .slice A3 L1.length d3] 50))
      (with_reducible refine (HRO.out _ p4).mono ?_)
      rintro e w4 ⟨A4, d4, rfl, hs4, hc4, hx⟩
      have X4 := Lib.hid hx
      have S4 := Lib.hid hs4
      have g4 : ∀ o, Ext w0 (w4.alloc o) := fun o => Ext.trans (Ext.trans p4 hx) (ext_al _ _)
      clear hx hs4 p4
      go_wp2_with fail
      go_at_call 40
      have p5 := (g4 (.cells #[.int .i64 (ea + 1), .slice A4 L1.length d4] 50))
      (with_reducible refine (HWI.out _ p5).mono ?_)
      rintro e w5 ⟨A5, d5, rfl, hs5, hc5, hx⟩
      have X5 := Lib.hid hx
      have S5 := Lib.hid hs5
      have g5 : ∀ o, Ext w0 (w5.alloc o) := fun o => Ext.trans (Ext.trans p5 hx) (ext_al _ _)
      clear hx hs5 p5
      go_wp2_with fail
      go_at_call 54
      have p6 := (g5 (.cells #[.int .i64 0, .slice A5 0 d5] 50))
      (with_reducible refine (HRI.out _ p6).mono ?_)
      rintro e w6 ⟨A6, d6, rfl, hs6, hc6, hx⟩
      have X6 := Lib.hid hx
      have S6 := Lib.hid hs6
      have g6 : ∀ o, Ext w0 (w6.alloc o) := fun o => Ext.trans (Ext.trans p6 hx) (ext_al _ _)
      clear hx hs6 p6
      obtain ⟨V, hV⟩ : ∃ V, V = w6.alloc (.cells #[.int .i64 0, .slice A6 0 d6] 50) := ⟨_, rfl⟩
      have x6 : Ext w6 V := by rw [hV]; exact ext_al _ _
      have x5 : Ext w5 V := Ext.trans (Ext.trans (ext_al _ _) X6.out) x6
      have x4 : Ext w4 V := Ext.trans (Ext.trans (ext_al _ _) X5.out) x5
      have x3 : Ext w3 V := Ext.trans (Ext.trans (ext_al _ _) X4.out) x4
      have H0V : Hid (Ext w0 V) := (by (show Ext _ _); rw [hV]; exact g6 _)
      have y4 : Ext (w3.alloc (.cells #[.int .i64 (ea + 1), .slice A3 L1.length d3] 50)) w6 := Ext.trans X4.out (Ext.trans (Ext.trans (ext_al _ _) X5.out) (Ext.trans (ext_al _ _) X6.out))
      have y5 : Ext (w4.alloc (.cells #[.int .i64 (ea + 1), .slice A4 L1.length d4] 50)) w6 := Ext.trans X5.out (Ext.trans (ext_al _ _) X6.out)
      have y6 : Ext (w5.alloc (.cells #[.int .i64 0, .slice A5 0 d5] 50)) w6 := X6.out
      have kx : Blk w6 w3.heap.size 50 #[.int .i64 (ea + 1), .slice A3 L1.length d3] := (Blk.new w3 _ _).stay y4
      have ky : Blk w6 w4.heap.size 50 #[.int .i64 (ea + 1), .slice A4 L1.length d4] := (Blk.new w4 _ _).stay y5
      have kz : Blk w6 w5.heap.size 50 #[.int .i64 0, .slice A5 0 d5] := (Blk.new w5 _ _).stay y6
      have ku : Blk V w6.heap.size 50 #[.int .i64 0, .slice A6 0 d6] := by rw [hV]; exact Blk.new w6 _ _
      have HS1 : Hid (∀ W, Ext V W → Calls Try.prog 33 #[.agg #[.int .i64 (ea + 1), .slice A3 L1.length d3], .agg #[.int .i64 (ea + 1), .slice A4 L1.length d4]] W fun e w' => e = .returned (.bool true) ∧ Ext W w') := fun W h => same_self' _ A3 A4 d3 d4 _ L1 W (by rfl) (by omega) (S3.out.stay (Ext.trans x3 h)) (S4.out.stay (Ext.trans x4 h))
      have HS2 : Hid (∀ W, Ext V W → Calls Try.prog 33 #[.agg #[.int .i64 0, .slice A5 0 d5], .agg #[.int .i64 0, .slice A6 0 d6]] W fun e w' => e = .returned (.bool true) ∧ Ext W w') := fun W h => same_self' _ A5 A6 d5 d6 _ [] W (by rfl) (by simp) (S5.out.stay (Ext.trans x5 h)) (S6.out.stay (Ext.trans x6 h))
      have HT : Hid (∀ W, Ext V W → Calls Try.prog 45 #[] W fun e w' => e = .returned (.bool true) ∧ Ext W w') := fun W h => HTO.out W (Ext.trans H0V.out h)
      have HN1 : Hid (∀ W, Ext V W → Calls Try.prog 43 #[.agg #[.int .i64 ea, .slice A la.length c1], .agg #[.int .i64 (ea + 1), .slice A3 L1.length d3], .int .i64 5] W fun e w' => e = .returned (.bool true) ∧ Ext W w') := fun W h => by
        have := chNext_any ea (ea + 1) 5 A A3 c1 d3 la L1 W l1 (by omega) hc1 hc3 (HSA.out W (Ext.trans H0V.out h)) (S3.out.stay (Ext.trans x3 h))
        rwa [N1.out] at this
      have ex0 : ∀ o, (w6.alloc o).cell? ⟨w3.heap.size, 0, none⟩ = some (.int .i64 (ea + 1)) := fun o => (kx.alloc o).cell 0
      have ex1 : ∀ o, (w6.alloc o).cell? ⟨w3.heap.size, 1, none⟩ = some (.slice A3 L1.length d3) := fun o => (kx.alloc o).cell 1
      have fx0 : ∀ W, Ext V W → W.cell? ⟨w3.heap.size, 0, none⟩ = some (.int .i64 (ea + 1)) := fun W h => ((kx.stay x6).stay h).cell 0
      have fx1 : ∀ W, Ext V W → W.cell? ⟨w3.heap.size, 1, none⟩ = some (.slice A3 L1.length d3) := fun W h => ((kx.stay x6).stay h).cell 1
      have ey0 : ∀ o, (w6.alloc o).cell? ⟨w4.heap.size, 0, none⟩ = some (.int .i64 (ea + 1)) := fun o => (ky.alloc o).cell 0
      have ey1 : ∀ o, (w6.alloc o).cell? ⟨w4.heap.size, 1, none⟩ = some (.slice A4 L1.length d4) := fun o => (ky.alloc o).cell 1
      have fy0 : ∀ W, Ext V W → W.cell? ⟨w4.heap.size, 0, none⟩ = some (.int .i64 (ea + 1)) := fun W h => ((ky.stay x6).stay h).cell 0
      have fy1 : ∀ W, Ext V W → W.cell? ⟨w4.heap.size, 1, none⟩ = some (.slice A4 L1.length d4) := fun W h => ((ky.stay x6).stay h).cell 1
      have ez0 : ∀ o, (w6.alloc o).cell? ⟨w5.heap.size, 0, none⟩ = some (.int .i64 0) := fun o => (kz.alloc o).cell 0
      have ez1 : ∀ o, (w6.alloc o).cell? ⟨w5.heap.size, 1, none⟩ = some (.slice A5 0 d5) := fun o => (kz.alloc o).cell 1
      have fz0 : ∀ W, Ext V W → W.cell? ⟨w5.heap.size, 0, none⟩ = some (.int .i64 0) := fun W h => ((kz.stay x6).stay h).cell 0
      have fz1 : ∀ W, Ext V W → W.cell? ⟨w5.heap.size, 1, none⟩ = some (.slice A5 0 d5) := fun W h => ((kz.stay x6).stay h).cell 1
      have fu0 : ∀ W, Ext V W → W.cell? ⟨w6.heap.size, 0, none⟩ = some (.int .i64 0) := fun W h => (ku.stay h).cell 0
      have fu1 : ∀ W, Ext V W → W.cell? ⟨w6.heap.size, 1, none⟩ = some (.slice A6 0 d6) := fun W h => (ku.stay h).cell 1
      have ga0 : ∀ W, Ext V W → W.cell? ⟨w.heap.size, 0, none⟩ = some (.int .i64 ea) := fun W h => fa0 W (Ext.trans H0V.out h)
      have ga1 : ∀ W, Ext V W → W.cell? ⟨w.heap.size, 1, none⟩ = some (.slice A la.length c1) := fun W h => fa1 W (Ext.trans H0V.out h)
      have HV := Lib.hid hV
      clear hV kx ky kz ku x3 x4 x5 x6 y4 y5 y6 fa0 fa1 h1 h2 g3 g4 g5 g6
      go_wp2_with (first
        | (go_at_call 33; rw [← HV.out]; (with_reducible refine (HS1.out _ (Ext.refl _)).mono ?_); rintro e w11 ⟨rfl, hx⟩; have k11 : Ext V w11 := hx; clear hx)
        | (go_at_call 33; (with_reducible refine (HS2.out _ k11).mono ?_); rintro e w12 ⟨rfl, hx⟩; have k12 : Ext V w12 := Ext.trans k11 hx; clear hx)
        | (go_at_call 45; (with_reducible refine (HT.out _ k12).mono ?_); rintro e w13 ⟨rfl, hx⟩; have k13 : Ext V w13 := Ext.trans k12 hx; clear hx)
        | (go_at_call 43; (with_reducible refine (HN1.out _ k13).mono ?_); rintro e w14 ⟨rfl, hx⟩; have k14 : Ext V w14 := Ext.trans k13 hx; clear hx))
      try go_ret
      exact hD.out _ _ ⟨rfl, Ext.trans HB0.out (Ext.trans H0V.out k14)⟩
    · have R1 := Lib.hid (q1.trans z1)
      have R1b := Lib.hid (q1b.trans z1)
      have R2 := Lib.hid (q2.trans z2)
      have R2b := Lib.hid (q2b.trans z2)
      have N1 := Lib.hid z1n
      have N2 := Lib.hid z2n
      clear q1 q1b q2 q2b z1 z2 z1n z2n
      have HWO : Hid (∀ V, Ext w0 V → Calls Try.prog 41 #[.agg #[.int .i64 ea, .slice A la.length c1], .slice G lg.length c2] V fun e w' => ∃ A' c, e = .returned (.tuple #[.agg #[.int .i64 (ea + 1), .slice A' L1.length c], .int .i64 0]) ∧ Sl i64 w' A' L1 ∧ L1.length ≤ c ∧ Ext V w') := fun V h => by
        have := without_any ea A G c1 c2 la lg V (by omega) hc1 (by omega) (HSA.out V h) (HSG.out V h)
        rw [R1.out] at this
        exact this.mono fun e w' ⟨A', c, he, hs, hc, hx, _⟩ => ⟨A', c, he, hs, hc, hx⟩
      have HRO : Hid (∀ V, Ext w0 V → Calls Try.prog 53 #[.agg #[.int .i64 ea, .slice A la.length c1], .slice G lg.length c2] V fun e w' => ∃ A' c, e = .returned (.tuple #[.agg #[.int .i64 (ea + 1), .slice A' L1.length c], .int .i64 0]) ∧ Sl i64 w' A' L1 ∧ L1.length ≤ c ∧ Ext V w') := fun V h => by
        have := refWithout_any ea A G c1 c2 la lg V (by omega) (by omega) (by omega) (HSA.out V h) (HSG.out V h)
        rw [R1b.out] at this
        exact this.mono fun e w' ⟨A', c, he, hs, hc, hx, _⟩ => ⟨A', c, he, hs, hc, hx⟩
      have HWI : Hid (∀ V, Ext w0 V → Calls Try.prog 40 #[.agg #[.int .i64 ea, .slice A la.length c1], .int .i64 node] V fun e w' => ∃ A' c, e = .returned (.tuple #[.agg #[.int .i64 (ea + 1), .slice A' L2.length c], .int .i64 0]) ∧ Sl i64 w' A' L2 ∧ L2.length ≤ c ∧ Ext V w') := fun V h => by
        have := with_any ea node A c1 la V (by omega) hc1 (HSA.out V h)
        rw [R2.out] at this
        exact this.mono fun e w' ⟨A', c, he, hs, hc, hx, _⟩ => ⟨A', c, he, hs, hc, hx⟩
      have HRI : Hid (∀ V, Ext w0 V → Calls Try.prog 54 #[.agg #[.int .i64 ea, .slice A la.length c1], .int .i64 node] V fun e w' => ∃ A' c, e = .returned (.tuple #[.agg #[.int .i64 (ea + 1), .slice A' L2.length c], .int .i64 0]) ∧ Sl i64 w' A' L2 ∧ L2.length ≤ c ∧ Ext V w') := fun V h => by
        have := refWith_any ea node A c1 la V (by omega) (by omega) (HSA.out V h)
        rw [R2b.out] at this
        exact this.mono fun e w' ⟨A', c, he, hs, hc, hx, _⟩ => ⟨A', c, he, hs, hc, hx⟩
      go_enter Try.func12, Try.ntmps12
      go_wp2_with (first
        | (go_at_call 46; rw [← HW0.out]; (with_reducible refine (HFA.out _ (Ext.refl _)).mono ?_); rintro e w1 ⟨rfl, hx⟩; have h1 : Ext w0 w1 := hx; clear hx)
        | (go_at_call 44; (with_reducible refine (HMA.out _ h1).mono ?_); rintro e w2 ⟨rfl, hx⟩; have h2 : Ext w0 w2 := Ext.trans h1 hx; clear hx))
      go_at_call 41
      have p3 := h2
      (with_reducible refine (HWO.out _ p3).mono ?_)
      rintro e w3 ⟨A3, d3, rfl, hs3, hc3, hx⟩
      have X3 := Lib.hid hx
      have S3 := Lib.hid hs3
      have g3 : ∀ o, Ext w0 (w3.alloc o) := fun o => Ext.trans (Ext.trans p3 hx) (ext_al _ _)
      clear hx hs3 p3
      go_wp2_with fail
      go_at_call 53
      have p4 := (g3 (.cells #[.int .i64 (ea + 1), .slice A3 L1.length d3] 50))
      (with_reducible refine (HRO.out _ p4).mono ?_)
      rintro e w4 ⟨A4, d4, rfl, hs4, hc4, hx⟩
      have X4 := Lib.hid hx
      have S4 := Lib.hid hs4
      have g4 : ∀ o, Ext w0 (w4.alloc o) := fun o => Ext.trans (Ext.trans p4 hx) (ext_al _ _)
      clear hx hs4 p4
      go_wp2_with fail
      go_at_call 40
      have p5 := (g4 (.cells #[.int .i64 (ea + 1), .slice A4 L1.length d4] 50))
      (with_reducible refine (HWI.out _ p5).mono ?_)
      rintro e w5 ⟨A5, d5, rfl, hs5, hc5, hx⟩
      have X5 := Lib.hid hx
      have S5 := Lib.hid hs5
      have g5 : ∀ o, Ext w0 (w5.alloc o) := fun o => Ext.trans (Ext.trans p5 hx) (ext_al _ _)
      clear hx hs5 p5
      go_wp2_with fail
      go_at_call 54
      have p6 := (g5 (.cells #[.int .i64 (ea + 1), .slice A5 L2.length d5] 50))
      (with_reducible refine (HRI.out _ p6).mono ?_)
      rintro e w6 ⟨A6, d6, rfl, hs6, hc6, hx⟩
      have X6 := Lib.hid hx
      have S6 := Lib.hid hs6
      have g6 : ∀ o, Ext w0 (w6.alloc o) := fun o => Ext.trans (Ext.trans p6 hx) (ext_al _ _)
      clear hx hs6 p6
      obtain ⟨V, hV⟩ : ∃ V, V = w6.alloc (.cells #[.int .i64 (ea + 1), .slice A6 L2.length d6] 50) := ⟨_, rfl⟩
      have x6 : Ext w6 V := by rw [hV]; exact ext_al _ _
      have x5 : Ext w5 V := Ext.trans (Ext.trans (ext_al _ _) X6.out) x6
      have x4 : Ext w4 V := Ext.trans (Ext.trans (ext_al _ _) X5.out) x5
      have x3 : Ext w3 V := Ext.trans (Ext.trans (ext_al _ _) X4.out) x4
      have H0V : Hid (Ext w0 V) := (by (show Ext _ _); rw [hV]; exact g6 _)
      have y4 : Ext (w3.alloc (.cells #[.int .i64 (ea + 1), .slice A3 L1.length d3] 50)) w6 := Ext.trans X4.out (Ext.trans (Ext.trans (ext_al _ _) X5.out) (Ext.trans (ext_al _ _) X6.out))
      have y5 : Ext (w4.alloc (.cells #[.int .i64 (ea + 1), .slice A4 L1.length d4] 50)) w6 := Ext.trans X5.out (Ext.trans (ext_al _ _) X6.out)
      have y6 : Ext (w5.alloc (.cells #[.int .i64 (ea + 1), .slice A5 L2.length d5] 50)) w6 := X6.out
      have kx : Blk w6 w3.heap.size 50 #[.int .i64 (ea + 1), .slice A3 L1.length d3] := (Blk.new w3 _ _).stay y4
      have ky : Blk w6 w4.heap.size 50 #[.int .i64 (ea + 1), .slice A4 L1.length d4] := (Blk.new w4 _ _).stay y5
      have kz : Blk w6 w5.heap.size 50 #[.int .i64 (ea + 1), .slice A5 L2.length d5] := (Blk.new w5 _ _).stay y6
      have ku : Blk V w6.heap.size 50 #[.int .i64 (ea + 1), .slice A6 L2.length d6] := by rw [hV]; exact Blk.new w6 _ _
      have HS1 : Hid (∀ W, Ext V W → Calls Try.prog 33 #[.agg #[.int .i64 (ea + 1), .slice A3 L1.length d3], .agg #[.int .i64 (ea + 1), .slice A4 L1.length d4]] W fun e w' => e = .returned (.bool true) ∧ Ext W w') := fun W h => same_self' _ A3 A4 d3 d4 _ L1 W (by rfl) (by omega) (S3.out.stay (Ext.trans x3 h)) (S4.out.stay (Ext.trans x4 h))
      have HS2 : Hid (∀ W, Ext V W → Calls Try.prog 33 #[.agg #[.int .i64 (ea + 1), .slice A5 L2.length d5], .agg #[.int .i64 (ea + 1), .slice A6 L2.length d6]] W fun e w' => e = .returned (.bool true) ∧ Ext W w') := fun W h => same_self' _ A5 A6 d5 d6 _ L2 W (by rfl) (by omega) (S5.out.stay (Ext.trans x5 h)) (S6.out.stay (Ext.trans x6 h))
      have HT : Hid (∀ W, Ext V W → Calls Try.prog 45 #[] W fun e w' => e = .returned (.bool true) ∧ Ext W w') := fun W h => HTO.out W (Ext.trans H0V.out h)
      have HN1 : Hid (∀ W, Ext V W → Calls Try.prog 43 #[.agg #[.int .i64 ea, .slice A la.length c1], .agg #[.int .i64 (ea + 1), .slice A3 L1.length d3], .int .i64 5] W fun e w' => e = .returned (.bool true) ∧ Ext W w') := fun W h => by
        have := chNext_any ea (ea + 1) 5 A A3 c1 d3 la L1 W l1 (by omega) hc1 hc3 (HSA.out W (Ext.trans H0V.out h)) (S3.out.stay (Ext.trans x3 h))
        rwa [N1.out] at this
      have HN2 : Hid (∀ W, Ext V W → Calls Try.prog 43 #[.agg #[.int .i64 ea, .slice A la.length c1], .agg #[.int .i64 (ea + 1), .slice A5 L2.length d5], .int .i64 5] W fun e w' => e = .returned (.bool true) ∧ Ext W w') := fun W h => by
        have := chNext_any ea (ea + 1) 5 A A5 c1 d5 la L2 W l1 (by omega) hc1 hc5 (HSA.out W (Ext.trans H0V.out h)) (S5.out.stay (Ext.trans x5 h))
        rwa [N2.out] at this
      have HTL : Hid (∀ W, Ext V W → Calls Try.prog 42 #[.agg #[.int .i64 (ea + 1), .slice A5 L2.length d5]] W fun e w' => e = .returned (.int .i64 node) ∧ Ext W w') := fun W h => by
        have := tail_any (ea + 1) A5 d5 L2 W (by omega) (S5.out.stay (Ext.trans x5 h))
        rwa [HT2.out] at this
      have ex0 : ∀ o, (w6.alloc o).cell? ⟨w3.heap.size, 0, none⟩ = some (.int .i64 (ea + 1)) := fun o => (kx.alloc o).cell 0
      have ex1 : ∀ o, (w6.alloc o).cell? ⟨w3.heap.size, 1, none⟩ = some (.slice A3 L1.length d3) := fun o => (kx.alloc o).cell 1
      have fx0 : ∀ W, Ext V W → W.cell? ⟨w3.heap.size, 0, none⟩ = some (.int .i64 (ea + 1)) := fun W h => ((kx.stay x6).stay h).cell 0
      have fx1 : ∀ W, Ext V W → W.cell? ⟨w3.heap.size, 1, none⟩ = some (.slice A3 L1.length d3) := fun W h => ((kx.stay x6).stay h).cell 1
      have ey0 : ∀ o, (w6.alloc o).cell? ⟨w4.heap.size, 0, none⟩ = some (.int .i64 (ea + 1)) := fun o => (ky.alloc o).cell 0
      have ey1 : ∀ o, (w6.alloc o).cell? ⟨w4.heap.size, 1, none⟩ = some (.slice A4 L1.length d4) := fun o => (ky.alloc o).cell 1
      have fy0 : ∀ W, Ext V W → W.cell? ⟨w4.heap.size, 0, none⟩ = some (.int .i64 (ea + 1)) := fun W h => ((ky.stay x6).stay h).cell 0
      have fy1 : ∀ W, Ext V W → W.cell? ⟨w4.heap.size, 1, none⟩ = some (.slice A4 L1.length d4) := fun W h => ((ky.stay x6).stay h).cell 1
      have ez0 : ∀ o, (w6.alloc o).cell? ⟨w5.heap.size, 0, none⟩ = some (.int .i64 (ea + 1)) := fun o => (kz.alloc o).cell 0
      have ez1 : ∀ o, (w6.alloc o).cell? ⟨w5.heap.size, 1, none⟩ = some (.slice A5 L2.length d5) := fun o => (kz.alloc o).cell 1
      have fz0 : ∀ W, Ext V W → W.cell? ⟨w5.heap.size, 0, none⟩ = some (.int .i64 (ea + 1)) := fun W h => ((kz.stay x6).stay h).cell 0
      have fz1 : ∀ W, Ext V W → W.cell? ⟨w5.heap.size, 1, none⟩ = some (.slice A5 L2.length d5) := fun W h => ((kz.stay x6).stay h).cell 1
      have fu0 : ∀ W, Ext V W → W.cell? ⟨w6.heap.size, 0, none⟩ = some (.int .i64 (ea + 1)) := fun W h => (ku.stay h).cell 0
      have fu1 : ∀ W, Ext V W → W.cell? ⟨w6.heap.size, 1, none⟩ = some (.slice A6 L2.length d6) := fun W h => (ku.stay h).cell 1
      have ga0 : ∀ W, Ext V W → W.cell? ⟨w.heap.size, 0, none⟩ = some (.int .i64 ea) := fun W h => fa0 W (Ext.trans H0V.out h)
      have ga1 : ∀ W, Ext V W → W.cell? ⟨w.heap.size, 1, none⟩ = some (.slice A la.length c1) := fun W h => fa1 W (Ext.trans H0V.out h)
      have HV := Lib.hid hV
      clear hV kx ky kz ku x3 x4 x5 x6 y4 y5 y6 fa0 fa1 h1 h2 g3 g4 g5 g6
      go_wp2_with (first
        | (go_at_call 33; rw [← HV.out]; (with_reducible refine (HS1.out _ (Ext.refl _)).mono ?_); rintro e w11 ⟨rfl, hx⟩; have k11 : Ext V w11 := hx; clear hx)
        | (go_at_call 33; (with_reducible refine (HS2.out _ k11).mono ?_); rintro e w12 ⟨rfl, hx⟩; have k12 : Ext V w12 := Ext.trans k11 hx; clear hx)
        | (go_at_call 45; (with_reducible refine (HT.out _ k12).mono ?_); rintro e w13 ⟨rfl, hx⟩; have k13 : Ext V w13 := Ext.trans k12 hx; clear hx)
        | (go_at_call 43; (with_reducible refine (HN1.out _ k13).mono ?_); rintro e w14 ⟨rfl, hx⟩; have k14 : Ext V w14 := Ext.trans k13 hx; clear hx)
        | (go_at_call 43; (with_reducible refine (HN2.out _ k14).mono ?_); rintro e w15 ⟨rfl, hx⟩; have k15 : Ext V w15 := Ext.trans k14 hx; clear hx)
        | (go_at_call 42; (with_reducible refine (HTL.out _ k15).mono ?_); rintro e w16 ⟨rfl, hx⟩; have k16 : Ext V w16 := Ext.trans k15 hx; clear hx))
      try go_ret
      exact hD.out _ _ ⟨rfl, Ext.trans HB0.out (Ext.trans H0V.out k16)⟩

theorem law_chainTurns {H : Type} {enc : TypeId × Value → H} (W : World) (base : Nat) (args : Array Value) (ds : List (DataW H)) (p : List MemPlace)
    (hval : ∀ (j : Nat) t v, Try.f12.params[j]? = some t → args[j]? = some v → Value.okWide Try.prog W .any base t v)
    (hA : DataW.TrodAll enc Try.prog W 0 (fun _ => true) true Try.f12.params.toList args.toList ds p) :
    Calls Try.prog 12 args W fun e W' => e = .returned (.bool true) ∧ Below W.heap.size W W' := by
  rw [Try.params12] at hA hval
  obtain ⟨v0, vs0, d0, ds0, p0, q0, hargs, rfl, rfl, h0, r0⟩ := trodAll_cons hA
  obtain ⟨v1, vs1, d1, ds1, p1, q1, rfl, rfl, rfl, h1, r1⟩ := trodAll_cons r0
  obtain ⟨v2, vs2, d2, ds2, p2, q2, rfl, rfl, rfl, h2, r2⟩ := trodAll_cons r1
  obtain ⟨rfl, rfl, rfl⟩ := trodAll_nil r2
  obtain rfl : args = #[v0, v1, v2] := by cases args; simp_all
  obtain ⟨ep0, A0, c0, l0, rfl, w0, x0, y0, z0, g0⟩ := open_chain (hval 0 50 v0 rfl rfl) h0
  obtain ⟨A1, n1, c1, rfl⟩ := okWide_slice Try.underlying32 (hval 1 32 v1 rfl rfl)
  obtain ⟨fuel1, hf1⟩ := h1
  obtain ⟨B1, e1, l1, hcs1, x1, y1, z1, g1⟩ := trod_ints_sl Try.underlying32 Try.underlying3 cells_int hf1
  simp only [Value.cells, List.cons.injEq, Value.slice.injEq, and_true] at hcs1
  obtain ⟨rfl, rfl, rfl⟩ := hcs1
  obtain ⟨a2, rfl, rfl, rfl, w2⟩ := open_int Try.underlying3 (hval 2 3 v2 rfl rfl) h2
  exact walk_chainTurns ep0 A0 c0 l0 A1 c1 l1 a2 W (Nat.le_trans x0 y0) x0 z0 (Nat.le_trans x1 y1) z1

end Go.Proofs.Ytdjkopdgapifpaa
