/-
  The walk of the law ChainKeeps.
-/
import Derived.Test.YtdjkopdgapifpaaChPlain
import Derived.Test.YtdjkopdgapifpaaOpen
namespace Go.Proofs.Ytdjkopdgapifpaa
set_option linter.unusedVariables false
set_option linter.unusedSimpArgs false
open Go.RowKit Go.ChangeShapes Go.WideShapes

theorem few_any (ep : Int) (A : Option Addr) (n cap : Nat) (w : World) (hn : n ≤ 9223372036854775807) :
    Calls Try.prog 46 #[.agg #[.int .i64 ep, .slice A n cap]] w fun e w' => e = .returned (.bool (decide (n ≤ 10))) ∧ Ext w w' := by
  have HB : Hid (∀ o, Ext w (w.alloc o)) := fun o => ext_al w o
  by_cases h : (n : Int) ≤ 10
  · have hd : (decide (n ≤ 10)) = true := decide_eq_true (by omega)
    rw [hd]
    go_enter Try.func46, Try.ntmps46
    go_wp2
    go_ret
    exact ⟨rfl, HB.out _⟩
  · have hd : (decide (n ≤ 10)) = false := decide_eq_false (by omega)
    rw [hd]
    go_enter Try.func46, Try.ntmps46
    go_wp2
    go_ret
    exact ⟨rfl, HB.out _⟩

/-- between two rounds: x stands in both, and it is the one from which to look on -/
def KpO (la lb : List Int) (node x last : Int) : Prop := x ∈ la ∧ x ∈ lb ∧ 0 ≤ x ∧ (last = -2 ∧ x = node ∨ 0 ≤ last ∧ last = x)
/-- in the inner loop: y stands m places above x, still behind z; or z was found -/
def KpI (la : List Int) (z x y : Int) (f : Bool) (m : Nat) : Prop := f = false → y ∈ la ∧ 0 ≤ y ∧ idx y la 0 = idx x la 0 - m ∧ idx z la 0 < idx y la 0
/-- all that is known of two chains that follow one another -/
structure Foll (la lb : List Int) : Prop where
  na : la.Nodup
  nb : lb.Nodup
  la5 : la.length ≤ 5
  pa : ∀ x ∈ la, 0 ≤ x ∧ x ≤ 4
  pb : ∀ x ∈ lb, 0 ≤ x ∧ x ≤ 4
  nx : nextL la lb 0 0 = true
theorem KpO.step {la lb : List Int} (F : Foll la lb) {node x last : Int} (h : KpO la lb node x last) :
    (besideI lb x (-1) = -1) ∨ (besideI lb x (-1) ∈ la ∧ besideI lb x (-1) ∈ lb ∧ 0 ≤ besideI lb x (-1) ∧ idx (besideI lb x (-1)) la 0 < idx x la 0) := by
  obtain ⟨h1, h2, h3, _⟩ := h
  obtain ⟨j, hj, e, rfl⟩ := idx_some F.nb h2
  obtain ⟨g1, g2, g3⟩ := nextL_steps la lb 0 0 (by omega) F.nx
  rw [above_at F.nb j hj]
  split
  · rename_i hp
    right
    have k1 := g1 (j - 1) (by omega) (by omega)
    have k2 := g3 (j - 1) (by omega)
    have ej : j - 1 + 1 = j := by omega
    have k3 := k2 (by simp only [ej]; exact (idx_ge _ la 0 (by omega)).2 h1)
    simp only [ej] at k3
    exact ⟨(idx_ge _ la 0 (by omega)).1 k1, List.getElem_mem _, (F.pb _ (List.getElem_mem _)).1, k3⟩
  · exact .inl rfl
theorem KpI.start {la : List Int} {z x : Int} (hx : x ∈ la) (h0 : 0 ≤ x) (h : idx z la 0 < idx x la 0) : KpI la z x x false 0 := fun _ => ⟨hx, h0, by omega, h⟩
theorem KpI.step {la lb : List Int} (F : Foll la lb) {z x y : Int} {m : Nat} (hz : z ∈ la) (h : KpI la z x y false m) (hne : ¬ besideI la y (-1) = z) : KpI la z x (besideI la y (-1)) false (m + 1) := by
  obtain ⟨h1, h2, h3, h4⟩ := h rfl
  obtain ⟨j, hj, e, rfl⟩ := idx_some F.na h1
  obtain ⟨i, hi, e2, rfl⟩ := idx_some F.na hz
  rw [above_at F.na j hj] at hne ⊢
  have hp : 0 < j := by omega
  rw [dif_pos hp] at hne ⊢
  have e3 := idx_get la 0 (j - 1) (by omega) F.na
  have hij : i ≠ j - 1 := fun e => by subst e; exact hne rfl
  exact fun _ => ⟨List.getElem_mem _, (F.pa _ (List.getElem_mem _)).1, by omega, by omega⟩
theorem KpI.fin {la lb : List Int} (F : Foll la lb) {z x y : Int} {f : Bool} {m : Nat} (hz : z ∈ la) (hx : x ∈ la) (h : KpI la z x y f m) (hm : 6 ≤ m ∨ y < 0) : f = true := by
  cases f
  · obtain ⟨h1, h2, h3, h4⟩ := h rfl
    obtain ⟨j, hj, e, rfl⟩ := idx_some F.na hx
    obtain ⟨i, hi, e2, rfl⟩ := idx_some F.na hz
    have := F.la5
    omega
  · rfl

set_option maxRecDepth 8000 in
set_option maxHeartbeats 8000000 in
theorem walk_chainKeeps (ea : Int) (A : Option Addr) (c1 : Nat) (la : List Int) (eb : Int) (B : Option Addr) (c2 : Nat) (lb : List Int) (node : Int) (w : World) (l1 : la.length ≤ 9223372036854775807) (l2 : lb.length ≤ 9223372036854775807) (hc1 : la.length ≤ c1) (hc2 : lb.length ≤ c2) (hs : Sl i64 w A la) (hs2 : Sl i64 w B lb) :
    Calls Try.prog 13 #[chV ea A la.length c1, chV eb B lb.length c2, .int .i64 node] w fun e w' => e = .returned (.bool true) ∧ Below w.heap.size w w' := by
  refine hide_post fun D hD => ?_
  obtain ⟨w0, hw0⟩ : ∃ w0, w0 = (w.alloc (.cells #[.int .i64 ea, .slice A la.length c1] 50)).alloc (.cells #[.int .i64 eb, .slice B lb.length c2] 50) := ⟨_, rfl⟩
  have hb0 : Ext w w0 := by rw [hw0]; exact Ext.trans (ext_al _ _) (ext_al _ _)
  have KA : Blk w0 w.heap.size 50 #[.int .i64 ea, .slice A la.length c1] := by rw [hw0]; exact (Blk.new w _ _).alloc _
  have KB : Blk w0 (w.heap.size + 1) 50 #[.int .i64 eb, .slice B lb.length c2] := by rw [hw0]; exact Blk.new' _ _ _ _ (by simp)
  have sa : ∀ V, Ext w0 V → Sl i64 V A la := fun V h => hs.stay (Ext.trans hb0 h)
  have sb : ∀ V, Ext w0 V → Sl i64 V B lb := fun V h => hs2.stay (Ext.trans hb0 h)
  have HTO : Hid (∀ V, Ext w0 V → Calls Try.prog 45 #[] V fun e w' => e = .returned (.bool true) ∧ Ext V w') := fun V h => told12 V
  have HFA0 : Hid (∀ b, decide (la.length ≤ 10) = b → ∀ V, Ext w0 V → Calls Try.prog 46 #[.agg #[.int .i64 ea, .slice A la.length c1]] V fun e w' => e = .returned (.bool b) ∧ Ext V w') := fun b hb V h => by rw [← hb]; exact few_any ea A la.length c1 V (by omega)
  have HFB0 : Hid (∀ b, decide (lb.length ≤ 10) = b → ∀ V, Ext w0 V → Calls Try.prog 46 #[.agg #[.int .i64 eb, .slice B lb.length c2]] V fun e w' => e = .returned (.bool b) ∧ Ext V w') := fun b hb V h => by rw [← hb]; exact few_any eb B lb.length c2 V (by omega)
  have HNX0 : Hid (∀ b, nextB ea eb la lb 5 = b → ∀ V, Ext w0 V → Calls Try.prog 43 #[.agg #[.int .i64 ea, .slice A la.length c1], .agg #[.int .i64 eb, .slice B lb.length c2], .int .i64 5] V fun e w' => e = .returned (.bool b) ∧ Ext V w') := fun b hb V h => by rw [← hb]; exact chNext_any ea eb 5 A B c1 c2 la lb V (by omega) (by omega) hc1 hc2 (sa V h) (sb V h)
  have HHA0 : Hid (∀ b, decide (node ∈ la) = b → ∀ V, Ext w0 V → Calls Try.prog 39 #[.agg #[.int .i64 ea, .slice A la.length c1], .int .i64 node] V fun e w' => e = .returned (.bool b) ∧ Ext V w') := fun b hb V h => by rw [← hb]; exact has_any ea A c1 la node V (by omega) (sa V h)
  have HHB0 : Hid (∀ b, decide (node ∈ lb) = b → ∀ V, Ext w0 V → Calls Try.prog 39 #[.agg #[.int .i64 eb, .slice B lb.length c2], .int .i64 node] V fun e w' => e = .returned (.bool b) ∧ Ext V w') := fun b hb V h => by rw [← hb]; exact has_any eb B c2 lb node V (by omega) (sb V h)
  have HAB0 : Hid (lb.length ≤ 10 → ∀ x V, Ext w0 V → Calls Try.prog 38 #[.agg #[.int .i64 eb, .slice B lb.length c2], .int .i64 x] V fun e w' => e = .returned (.int .i64 (besideI lb x (-1))) ∧ Ext V w') := fun hl x V h => above_any eb x B c2 lb V (by omega) (sb V h)
  have HAA0 : Hid (la.length ≤ 10 → ∀ x V, Ext w0 V → Calls Try.prog 38 #[.agg #[.int .i64 ea, .slice A la.length c1], .int .i64 x] V fun e w' => e = .returned (.int .i64 (besideI la x (-1))) ∧ Ext V w') := fun hl x V h => above_any ea x A c1 la V (by omega) (sa V h)
  have HFO : Hid (nextB ea eb la lb 5 = true → Foll la lb ∧ (0 ≤ ea ∧ ea ≤ 1073741824) ∧ eb = ea + 1) := fun h => by
    obtain ⟨g1, g2, g3, g4, g5, g6⟩ := nextB_all h
    obtain ⟨p1, p2, p3, p4⟩ := mayChain_all g1
    obtain ⟨q1, q2, q3, q4⟩ := mayChain_all g2
    exact ⟨⟨p3, q3, p2.2, p4, q4, g6⟩, p1, g5⟩
  have fa0 : ∀ V, Ext w0 V → V.cell? ⟨w.heap.size, 0, none⟩ = some (.int .i64 ea) := fun V h => (KA.stay h).cell 0
  have fa1 : ∀ V, Ext w0 V → V.cell? ⟨w.heap.size, 1, none⟩ = some (.slice A la.length c1) := fun V h => (KA.stay h).cell 1
  have fb0 : ∀ V, Ext w0 V → V.cell? ⟨w.heap.size + 1, 0, none⟩ = some (.int .i64 eb) := fun V h => (KB.stay h).cell 0
  have fb1 : ∀ V, Ext w0 V → V.cell? ⟨w.heap.size + 1, 1, none⟩ = some (.slice B lb.length c2) := fun V h => (KB.stay h).cell 1
  have HB0 := Lib.hid hb0
  have HW0 := Lib.hid hw0
  clear hb0 hw0 hs hs2 sa sb KA KB
  cases g0 : decide (la.length ≤ 10)
  · have HFA := Lib.hid (HFA0.out false g0)
    have H0 := fa0
    clear g0 HFO 
    go_enter Try.func13, Try.ntmps13
    go_wp2_with (first
      | (go_at_call 46; rw [← HW0.out]; (with_reducible refine (HFA.out _ (Ext.refl _)).mono ?_); rintro e w1 ⟨rfl, hx⟩; have h1 : Ext w0 w1 := hx; clear hx)
      | (go_at_call 45; (with_reducible refine (HTO.out _ h1).mono ?_); rintro e w9 ⟨rfl, hx⟩; have h9 : Ext w0 w9 := Ext.trans h1 hx; clear hx))
    try go_ret
    exact hD.out _ _ ⟨rfl, Ext.trans HB0.out h9⟩
  have HFA := Lib.hid (HFA0.out true g0)
  have G0 := Lib.hid g0
  clear g0
  cases g1 : decide (lb.length ≤ 10)
  · have HFB := Lib.hid (HFB0.out false g1)
    have H0 := fa0
    clear g1 HFO 
    go_enter Try.func13, Try.ntmps13
    go_wp2_with (first
      | (go_at_call 46; rw [← HW0.out]; (with_reducible refine (HFA.out _ (Ext.refl _)).mono ?_); rintro e w1 ⟨rfl, hx⟩; have h1 : Ext w0 w1 := hx; clear hx)
      | (go_at_call 46; (with_reducible refine (HFB.out _ h1).mono ?_); rintro e w2 ⟨rfl, hx⟩; have h2 : Ext w0 w2 := Ext.trans h1 hx; clear hx)
      | (go_at_call 45; (with_reducible refine (HTO.out _ h2).mono ?_); rintro e w9 ⟨rfl, hx⟩; have h9 : Ext w0 w9 := Ext.trans h2 hx; clear hx))
    try go_ret
    exact hD.out _ _ ⟨rfl, Ext.trans HB0.out h9⟩
  have HFB := Lib.hid (HFB0.out true g1)
  have G1 := Lib.hid g1
  clear g1
  cases g2 : nextB ea eb la lb 5
  · have HNX := Lib.hid (HNX0.out false g2)
    have H0 := fa0
    clear g2 HFO 
    go_enter Try.func13, Try.ntmps13
    go_wp2_with (first
      | (go_at_call 46; rw [← HW0.out]; (with_reducible refine (HFA.out _ (Ext.refl _)).mono ?_); rintro e w1 ⟨rfl, hx⟩; have h1 : Ext w0 w1 := hx; clear hx)
      | (go_at_call 46; (with_reducible refine (HFB.out _ h1).mono ?_); rintro e w2 ⟨rfl, hx⟩; have h2 : Ext w0 w2 := Ext.trans h1 hx; clear hx)
      | (go_at_call 43; (with_reducible refine (HNX.out _ h2).mono ?_); rintro e w3 ⟨rfl, hx⟩; have h3 : Ext w0 w3 := Ext.trans h2 hx; clear hx)
      | (go_at_call 45; (with_reducible refine (HTO.out _ h3).mono ?_); rintro e w9 ⟨rfl, hx⟩; have h9 : Ext w0 w9 := Ext.trans h3 hx; clear hx))
    try go_ret
    exact hD.out _ _ ⟨rfl, Ext.trans HB0.out h9⟩
  have HNX := Lib.hid (HNX0.out true g2)
  have G2 := Lib.hid g2
  clear g2
  cases g3 : decide (node ∈ la)
  · have HHA := Lib.hid (HHA0.out false g3)
    have H0 := fa0
    clear g3 HFO 
    go_enter Try.func13, Try.ntmps13
    go_wp2_with (first
      | (go_at_call 46; rw [← HW0.out]; (with_reducible refine (HFA.out _ (Ext.refl _)).mono ?_); rintro e w1 ⟨rfl, hx⟩; have h1 : Ext w0 w1 := hx; clear hx)
      | (go_at_call 46; (with_reducible refine (HFB.out _ h1).mono ?_); rintro e w2 ⟨rfl, hx⟩; have h2 : Ext w0 w2 := Ext.trans h1 hx; clear hx)
      | (go_at_call 43; (with_reducible refine (HNX.out _ h2).mono ?_); rintro e w3 ⟨rfl, hx⟩; have h3 : Ext w0 w3 := Ext.trans h2 hx; clear hx)
      | (go_at_call 39; (with_reducible refine (HHA.out _ h3).mono ?_); rintro e w4 ⟨rfl, hx⟩; have h4 : Ext w0 w4 := Ext.trans h3 hx; clear hx)
      | (go_at_call 45; (with_reducible refine (HTO.out _ h4).mono ?_); rintro e w9 ⟨rfl, hx⟩; have h9 : Ext w0 w9 := Ext.trans h4 hx; clear hx))
    try go_ret
    exact hD.out _ _ ⟨rfl, Ext.trans HB0.out h9⟩
  have HHA := Lib.hid (HHA0.out true g3)
  have G3 := Lib.hid g3
  clear g3
  cases g4 : decide (node ∈ lb)
  · have HHB := Lib.hid (HHB0.out false g4)
    have H0 := fa0
    clear g4 HFO 
    go_enter Try.func13, Try.ntmps13
    go_wp2_with (first
      | (go_at_call 46; rw [← HW0.out]; (with_reducible refine (HFA.out _ (Ext.refl _)).mono ?_); rintro e w1 ⟨rfl, hx⟩; have h1 : Ext w0 w1 := hx; clear hx)
      | (go_at_call 46; (with_reducible refine (HFB.out _ h1).mono ?_); rintro e w2 ⟨rfl, hx⟩; have h2 : Ext w0 w2 := Ext.trans h1 hx; clear hx)
      | (go_at_call 43; (with_reducible refine (HNX.out _ h2).mono ?_); rintro e w3 ⟨rfl, hx⟩; have h3 : Ext w0 w3 := Ext.trans h2 hx; clear hx)
      | (go_at_call 39; (with_reducible refine (HHA.out _ h3).mono ?_); rintro e w4 ⟨rfl, hx⟩; have h4 : Ext w0 w4 := Ext.trans h3 hx; clear hx)
      | (go_at_call 39; (with_reducible refine (HHB.out _ h4).mono ?_); rintro e w5 ⟨rfl, hx⟩; have h5 : Ext w0 w5 := Ext.trans h4 hx; clear hx)
      | (go_at_call 45; (with_reducible refine (HTO.out _ h5).mono ?_); rintro e w9 ⟨rfl, hx⟩; have h9 : Ext w0 w9 := Ext.trans h5 hx; clear hx))
    try go_ret
    exact hD.out _ _ ⟨rfl, Ext.trans HB0.out h9⟩
  have HHB := Lib.hid (HHB0.out true g4)
  have G4 := Lib.hid g4
  clear g4
  obtain ⟨hF, ⟨e0, e1⟩, rfl⟩ := HFO.out G2.out
  have HF := Lib.hid hF
  have HKp : Hid (KpO la lb node node (-2)) := ⟨of_decide_eq_true G3.out, of_decide_eq_true G4.out, (hF.pa node (of_decide_eq_true G3.out)).1, .inl ⟨rfl, rfl⟩⟩
  have HAB := Lib.hid (HAB0.out (of_decide_eq_true G1.out))
  have HAA := Lib.hid (HAA0.out (of_decide_eq_true G0.out))
  clear hF HFO
  go_enter Try.func13, Try.ntmps13
  go_wp2_with (first
    | (go_at_call 46; rw [← HW0.out]; (with_reducible refine (HFA.out _ (Ext.refl _)).mono ?_); rintro e w1 ⟨rfl, hx⟩; have h1 : Ext w0 w1 := hx; clear hx)
    | (go_at_call 46; (with_reducible refine (HFB.out _ h1).mono ?_); rintro e w2 ⟨rfl, hx⟩; have h2 : Ext w0 w2 := Ext.trans h1 hx; clear hx)
    | (go_at_call 43; (with_reducible refine (HNX.out _ h2).mono ?_); rintro e w3 ⟨rfl, hx⟩; have h3 : Ext w0 w3 := Ext.trans h2 hx; clear hx)
    | (go_at_call 39; (with_reducible refine (HHA.out _ h3).mono ?_); rintro e w4 ⟨rfl, hx⟩; have h4 : Ext w0 w4 := Ext.trans h3 hx; clear hx)
    | (go_at_call 39; (with_reducible refine (HHB.out _ h4).mono ?_); rintro e w5 ⟨rfl, hx⟩; have h5 : Ext w0 w5 := Ext.trans h4 hx; clear hx))
  go_loopw [7, 8, 9] (fun x s i wr => ∃ (k : Nat) (xv sv : Int), k ≤ 6 ∧ x = .int .i64 xv ∧ s = .int .i64 sv ∧ i = .int .i64 k ∧ Hid (KpO la lb node xv sv) ∧ Ext w0 wr) (fun _ _ i _ => 6 - (intOf i).toNat)
  case atStart => exact ⟨0, node, -2, by omega, rfl, rfl, rfl, HKp, h5⟩
  case round =>
    obtain ⟨k, xv, sv, hk, rfl, rfl, rfl, HK, hr⟩ := hrel
    clear HKp h1 h2 h3 h4 h5
    by_cases hlt : k < 6
    · have hst := HK.out.step HF.out
      have HA1 := Lib.hid (HAB.out xv wr hr)
      rcases hst with hz | ⟨z1, z2, z3, z4⟩
      · rw [hz] at HA1
        have HA2 := Lib.hid HA1.out
        clear hz HA1
        go_wp2_with (first
          | (go_at_call 38; (with_reducible refine HA2.out.mono ?_); rintro e w6 ⟨rfl, hx⟩; have h6 : Ext w0 w6 := Ext.trans hr hx; clear hx)
          | (go_at_call 45; (with_reducible refine (HTO.out _ h6).mono ?_); rintro e w9 ⟨rfl, hx⟩; have h9 : Ext w0 w9 := Ext.trans h6 hx; clear hx))
        try go_ret
        exact hD.out _ _ ⟨rfl, Ext.trans HB0.out h9⟩
      · obtain ⟨z, hz⟩ : ∃ z, z = besideI lb xv (-1) := ⟨_, rfl⟩
        rw [← hz] at HA1 z1 z2 z3 z4
        have HKn : Hid (KpO la lb node z z) := ⟨z1, z2, z3, .inr ⟨z3, rfl⟩⟩
        have HS0 : Hid (KpI la z xv xv false 0) := KpI.start HK.out.1 HK.out.2.2.1 z4
        have HZ1 := Lib.hid z1
        have HXM := Lib.hid HK.out.1
        have hzn : ¬ z < 0 := by omega
        have hlast := HK.out.2.2.2
        clear hz z1 z2 z4
        rcases hlast with ⟨hl, hn⟩ | ⟨s0, hn⟩
        · subst hl
          have HS1 : Hid (KpI la z xv node false 0) := by (show KpI _ _ _ _ _ _); have h := HS0.out; rw [hn] at h ⊢; exact h
          clear hn HS0
          go_wp2_with (go_at_call 38; (with_reducible refine HA1.out.mono ?_); rintro e w6 ⟨rfl, hx⟩; have h6 : Ext w0 w6 := Ext.trans hr hx; clear hx)
          obtain ⟨wo, rfl⟩ : ∃ wo : World, wo = wr := ⟨_, rfl⟩
          go_loopw [10, 11, 12] (fun y f i wr => ∃ (m : Nat) (yv : Int) (fv : Bool), m ≤ 6 ∧ y = .int .i64 yv ∧ f = .bool fv ∧ i = .int .i64 m ∧ Hid (KpI la z xv yv fv m) ∧ Ext w0 wr) (fun _ _ i _ => 6 - (intOf i).toNat)
          case atStart => exact ⟨0, node, false, by omega, rfl, rfl, rfl, HS1, h6⟩
          case round =>
            obtain ⟨m, yv, fv, hm, rfl, rfl, rfl, HI, hr2⟩ := hrel
            by_cases hgo : m < 6 ∧ 0 ≤ yv
            · obtain ⟨hm6, hy0⟩ := hgo
              have HA3 := Lib.hid (HAA.out yv wr hr2)
              obtain ⟨y2, hy2⟩ : ∃ y2, y2 = besideI la yv (-1) := ⟨_, rfl⟩
              rw [← hy2] at HA3
              have HY2 := Lib.hid hy2
              clear hy2
              cases fv
              · by_cases hyz : y2 = z
                · subst hyz
                  go_wp2_with (go_at_call 38; (with_reducible refine HA3.out.mono ?_); rintro e w7 ⟨rfl, hx⟩; have h7 : Ext w0 w7 := Ext.trans hr2 hx; clear hx)
                  go_roundw
                  case rel => exact ⟨m + 1, _, true, by omega, rfl, rfl, by go_num, (fun h => by cases h), h7⟩
                  case measure => simp [intOf]; omega
                · have HI2 : Hid (KpI la z xv y2 false (m + 1)) := by (show KpI _ _ _ _ _ _); rw [HY2.out]; exact KpI.step HF.out HZ1.out HI.out (by rw [← HY2.out]; exact hyz)
                  have hd : (y2 == z) = false := beq_eq_false_iff_ne.2 hyz
                  go_wp2_with (go_at_call 38; (with_reducible refine HA3.out.mono ?_); rintro e w7 ⟨rfl, hx⟩; have h7 : Ext w0 w7 := Ext.trans hr2 hx; clear hx)
                  go_roundw
                  case rel => exact ⟨m + 1, _, false, by omega, rfl, rfl, by go_num, HI2, h7⟩
                  case measure => simp [intOf]; omega
              · go_wp2_with (go_at_call 38; (with_reducible refine HA3.out.mono ?_); rintro e w7 ⟨rfl, hx⟩; have h7 : Ext w0 w7 := Ext.trans hr2 hx; clear hx)
                go_roundw
                case rel => exact ⟨m + 1, _, true, by omega, rfl, rfl, by go_num, (fun h => by cases h), h7⟩
                case measure => simp [intOf]; omega
            · obtain rfl : fv = true := HI.out.fin HF.out HZ1.out HXM.out (by omega)
              by_cases hm6 : m < 6
              · have hy : yv < 0 := by omega
                go_wp2
                go_roundw
                case rel => exact ⟨k + 1, _, _, by omega, rfl, rfl, by go_num, HKn, hr2⟩
                case measure => simp [intOf]; omega
              · go_wp2
                go_roundw
                case rel => exact ⟨k + 1, _, _, by omega, rfl, rfl, by go_num, HKn, hr2⟩
                case measure => simp [intOf]; omega
        · have HS1 : Hid (KpI la z xv sv false 0) := by (show KpI _ _ _ _ _ _); rw [hn]; exact HS0.out
          clear hn HS0
          go_wp2_with (go_at_call 38; (with_reducible refine HA1.out.mono ?_); rintro e w6 ⟨rfl, hx⟩; have h6 : Ext w0 w6 := Ext.trans hr hx; clear hx)
          obtain ⟨wo, rfl⟩ : ∃ wo : World, wo = wr := ⟨_, rfl⟩
          go_loopw [10, 11, 12] (fun y f i wr => ∃ (m : Nat) (yv : Int) (fv : Bool), m ≤ 6 ∧ y = .int .i64 yv ∧ f = .bool fv ∧ i = .int .i64 m ∧ Hid (KpI la z xv yv fv m) ∧ Ext w0 wr) (fun _ _ i _ => 6 - (intOf i).toNat)
          case atStart => exact ⟨0, sv, false, by omega, rfl, rfl, rfl, HS1, h6⟩
          case round =>
            obtain ⟨m, yv, fv, hm, rfl, rfl, rfl, HI, hr2⟩ := hrel
            by_cases hgo : m < 6 ∧ 0 ≤ yv
            · obtain ⟨hm6, hy0⟩ := hgo
              have HA3 := Lib.hid (HAA.out yv wr hr2)
              obtain ⟨y2, hy2⟩ : ∃ y2, y2 = besideI la yv (-1) := ⟨_, rfl⟩
              rw [← hy2] at HA3
              have HY2 := Lib.hid hy2
              clear hy2
              cases fv
              · by_cases hyz : y2 = z
                · subst hyz
                  go_wp2_with (go_at_call 38; (with_reducible refine HA3.out.mono ?_); rintro e w7 ⟨rfl, hx⟩; have h7 : Ext w0 w7 := Ext.trans hr2 hx; clear hx)
                  go_roundw
                  case rel => exact ⟨m + 1, _, true, by omega, rfl, rfl, by go_num, (fun h => by cases h), h7⟩
                  case measure => simp [intOf]; omega
                · have HI2 : Hid (KpI la z xv y2 false (m + 1)) := by (show KpI _ _ _ _ _ _); rw [HY2.out]; exact KpI.step HF.out HZ1.out HI.out (by rw [← HY2.out]; exact hyz)
                  have hd : (y2 == z) = false := beq_eq_false_iff_ne.2 hyz
                  go_wp2_with (go_at_call 38; (with_reducible refine HA3.out.mono ?_); rintro e w7 ⟨rfl, hx⟩; have h7 : Ext w0 w7 := Ext.trans hr2 hx; clear hx)
                  go_roundw
                  case rel => exact ⟨m + 1, _, false, by omega, rfl, rfl, by go_num, HI2, h7⟩
                  case measure => simp [intOf]; omega
              · go_wp2_with (go_at_call 38; (with_reducible refine HA3.out.mono ?_); rintro e w7 ⟨rfl, hx⟩; have h7 : Ext w0 w7 := Ext.trans hr2 hx; clear hx)
                go_roundw
                case rel => exact ⟨m + 1, _, true, by omega, rfl, rfl, by go_num, (fun h => by cases h), h7⟩
                case measure => simp [intOf]; omega
            · obtain rfl : fv = true := HI.out.fin HF.out HZ1.out HXM.out (by omega)
              by_cases hm6 : m < 6
              · have hy : yv < 0 := by omega
                go_wp2
                go_roundw
                case rel => exact ⟨k + 1, _, _, by omega, rfl, rfl, by go_num, HKn, hr2⟩
                case measure => simp [intOf]; omega
              · go_wp2
                go_roundw
                case rel => exact ⟨k + 1, _, _, by omega, rfl, rfl, by go_num, HKn, hr2⟩
                case measure => simp [intOf]; omega
    · go_wp2_with (go_at_call 45; (with_reducible refine (HTO.out _ hr).mono ?_); rintro e w9 ⟨rfl, hx⟩; have h9 : Ext w0 w9 := Ext.trans hr hx; clear hx)
      try go_ret
      exact hD.out _ _ ⟨rfl, Ext.trans HB0.out h9⟩

theorem law_chainKeeps {H : Type} {enc : TypeId × Value → H} (W : World) (base : Nat) (args : Array Value) (ds : List (DataW H)) (p : List MemPlace)
    (hval : ∀ (j : Nat) t v, Try.f13.params[j]? = some t → args[j]? = some v → Value.okWide Try.prog W .any base t v)
    (hA : DataW.TrodAll enc Try.prog W 0 (fun _ => true) true Try.f13.params.toList args.toList ds p) :
    Calls Try.prog 13 args W fun e W' => e = .returned (.bool true) ∧ Below W.heap.size W W' := by
  rw [Try.params13] at hA hval
  obtain ⟨v0, vs0, d0, ds0, p0, q0, hargs, rfl, rfl, h0, r0⟩ := trodAll_cons hA
  obtain ⟨v1, vs1, d1, ds1, p1, q1, rfl, rfl, rfl, h1, r1⟩ := trodAll_cons r0
  obtain ⟨v2, vs2, d2, ds2, p2, q2, rfl, rfl, rfl, h2, r2⟩ := trodAll_cons r1
  obtain ⟨rfl, rfl, rfl⟩ := trodAll_nil r2
  obtain rfl : args = #[v0, v1, v2] := by cases args; simp_all
  obtain ⟨ep0, A0, c0, l0, rfl, w0, x0, y0, z0, g0⟩ := open_chain (hval 0 50 v0 rfl rfl) h0
  obtain ⟨ep1, A1, c1, l1, rfl, w1, x1, y1, z1, g1⟩ := open_chain (hval 1 50 v1 rfl rfl) h1
  obtain ⟨a2, rfl, rfl, rfl, w2⟩ := open_int Try.underlying3 (hval 2 3 v2 rfl rfl) h2
  exact walk_chainKeeps ep0 A0 c0 l0 ep1 A1 c1 l1 a2 W (Nat.le_trans x0 y0) (Nat.le_trans x1 y1) x0 x1 z0 z1

end Go.Proofs.Ytdjkopdgapifpaa
