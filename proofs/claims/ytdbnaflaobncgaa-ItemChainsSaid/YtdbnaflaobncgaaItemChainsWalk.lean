/-
  The walk of the law ItemChains.
-/
import Derived.Test.YtdbnaflaobncgaaTold2
import Derived.Test.YtdbnaflaobncgaaRefGetC
import Derived.Test.YtdbnaflaobncgaaRefPutC
import Derived.Test.YtdbnaflaobncgaaChain
import Derived.Test.YtdbnaflaobncgaaHeldR
import Derived.Test.YtdbnaflaobncgaaOpen
namespace Go.Proofs.Ytdbnaflaobncgaa
set_option linter.unusedVariables false
set_option linter.unusedSimpArgs false
open Go.RowKit Go.ChangeShapes Go.WideShapes

set_option maxRecDepth 8000 in
set_option maxHeartbeats 8000000 in
theorem chains_no (ep : Int) (A : Option Addr) (cap n : Nat) (B : Option Addr) (cb nb : Nat) (w : World) (h : 20 < n ∨ n ≤ 20 ∧ 100 < nb) :
    Calls Try.prog 9 #[.agg #[.int .i64 ep, .slice A n cap], .slice B nb cb] w fun e w' => e = .returned (.bool true) ∧ Below w.heap.size w w' := by
  refine hide_post fun D hD => ?_
  obtain ⟨W0, hW0⟩ : ∃ W0, W0 = w.alloc (.cells #[.int .i64 ep, .slice A n cap] 39) := ⟨_, rfl⟩
  have kB : Blk W0 w.heap.size 39 #[.int .i64 ep, .slice A n cap] := by rw [hW0]; exact Blk.new _ _ _
  have hx0 : Ext w W0 := by rw [hW0]; exact Ext.alloc _ _
  have HW0 := Lib.hid hW0
  have HX0 := Lib.hid hx0
  have fz0 : ∀ V, Ext W0 V → V.cell? ⟨w.heap.size, 0, none⟩ = some (.int .i64 ep) := fun V h => (kB.stay h).cell 0
  have fz1 : ∀ V, Ext W0 V → V.cell? ⟨w.heap.size, 1, none⟩ = some (.slice A n cap) := fun V h => (kB.stay h).cell 1
  have E0 : Hid (Ext W0 W0) := Ext.refl _
  have HT : Hid (∀ V, Ext W0 V → Calls Try.prog 29 #[] V fun e w' => e = .returned (.bool true) ∧ Ext V w') := fun V _ => told2 V
  clear kB hx0 hW0
  rcases h with h | ⟨h1, h2⟩
  · have h3 : (20 : Int) < (n : Int) := by omega
    go_enter Try.func9, Try.ntmps9
    go_wp2_with fail
    rw [← HW0.out]
    have e0 := E0.out
    have W0z0 := fz0 W0 E0.out; have W0z1 := fz1 W0 E0.out
    go_wp2_with (go_at_call 29; (with_reducible refine (HT.out _ e0).mono ?_); rintro e w2 ⟨rfl, hx⟩; have Ew2 : Ext W0 w2 := Ext.trans e0 hx; clear hx)
    try go_ret
    exact hD.out _ _ ⟨rfl, Ext.trans HX0.out Ew2⟩
  · have h3 : ¬ (20 : Int) < (n : Int) := by omega
    have h4 : (100 : Int) < (nb : Int) := by omega
    go_enter Try.func9, Try.ntmps9
    go_wp2_with fail
    rw [← HW0.out]
    have e0 := E0.out
    have W0z0 := fz0 W0 E0.out; have W0z1 := fz1 W0 E0.out
    go_wp2_with (go_at_call 29; (with_reducible refine (HT.out _ e0).mono ?_); rintro e w2 ⟨rfl, hx⟩; have Ew2 : Ext W0 w2 := Ext.trans e0 hx; clear hx)
    try go_ret
    exact hD.out _ _ ⟨rfl, Ext.trans HX0.out Ew2⟩

set_option maxRecDepth 8000 in
set_option maxHeartbeats 16000000 in
theorem chains_true (ep0 : Nat) (ns : List Nat) (hm : mayChainB (ep0 : Int) (ints ns) = true) (A : Option Addr) (cap n : Nat) (B : Option Addr) (cb nb : Nat) (lb : List UInt8) (w : World) (hcap : ((ints ns)).length ≤ cap) (hl9 : ((ints ns)).length ≤ 9223372036854775807) (hn : n = ((ints ns)).length) (h20 : n ≤ 20) (hsl : Sl i64 w A (ints ns)) (hnb : nb = lb.length) (hb : nb ≤ 100) (hsb0 : Sl Go.Proofs.Ytdbnaflaobncgaa.u8 w B lb) :
    Calls Try.prog 9 #[.agg #[.int .i64 (ep0 : Int), .slice A n cap], .slice B nb cb] w fun e w' => e = .returned (.bool true) ∧ Below w.heap.size w w' := by
  obtain ⟨ep, hep⟩ : ∃ ep : Int, ep = ep0 := ⟨_, rfl⟩
  rw [← hep]
  obtain ⟨XB, hXB⟩ : ∃ L, L = putC ep0 ns := ⟨_, rfl⟩
  obtain ⟨n1, hn1⟩ : ∃ n, n = (putC ep0 ns).length := ⟨_, rfl⟩
  obtain ⟨sb, hsb⟩ : ∃ z, z = str XB := ⟨_, rfl⟩
  rw [ints_len] at hn
  refine hide_post fun D hD => ?_
  obtain ⟨W0, hW0⟩ : ∃ W0, W0 = w.alloc (.cells #[.int .i64 ep, .slice A n cap] 39) := ⟨_, rfl⟩
  have kB : Blk W0 w.heap.size 39 #[.int .i64 ep, .slice A n cap] := by rw [hW0]; exact Blk.new _ _ _
  have hx0 : Ext w W0 := by rw [hW0]; exact Ext.alloc _ _
  have HW0 := Lib.hid hW0
  have HX0 := Lib.hid hx0
  have fz0 : ∀ V, Ext W0 V → V.cell? ⟨w.heap.size, 0, none⟩ = some (.int .i64 ep) := fun V h => (kB.stay h).cell 0
  have fz1 : ∀ V, Ext W0 V → V.cell? ⟨w.heap.size, 1, none⟩ = some (.slice A n cap) := fun V h => (kB.stay h).cell 1
  have E0 : Hid (Ext W0 W0) := Ext.refl _
  have HT : Hid (∀ V, Ext W0 V → Calls Try.prog 29 #[] V fun e w' => e = .returned (.bool true) ∧ Ext V w') := fun V _ => told2 V
  obtain ⟨tl, htl⟩ : ∃ z, z = str lb := ⟨_, rfl⟩
  have CM : Hid (∀ V, Ext W0 V → Calls Try.prog 39 #[.agg #[.int .i64 ep, .slice A n cap]] V fun e w' => e = .returned (.bool true) ∧ Ext V w') := fun V hV => by
    have h := mayChain_any ep0 A cap (ints ns) V hl9 hcap (hsl.stay (Ext.trans hx0 hV))
    rw [ints_len, ← hn, hm, ← hep] at h
    exact h
  have CRM : Hid (∀ V, Ext W0 V → Calls Try.prog 19 #[.agg #[.int .i64 ep, .slice A n cap]] V fun e w' => e = .returned (.bool true) ∧ Ext V w') := fun V hV => by
    have h := refMayChain_any ep0 A cap (ints ns) V hl9 (hsl.stay (Ext.trans hx0 hV))
    rw [ints_len, ← hn, hm, ← hep] at h
    exact h
  have CP : Hid (∀ V, Ext W0 V → Calls Try.prog 38 #[.agg #[.int .i64 ep, .slice A n cap]] V fun e w' => ∃ A' c', e = .returned (.tuple #[.slice A' n1 c', .int .i64 0]) ∧ Sl Go.Proofs.Ytdbnaflaobncgaa.u8 w' A' XB ∧ Ext V w') := fun V hV => by rw [hep, hn, hn1, hXB]; exact putChain_yes ep0 A cap ns V (by rw [ints_len] at hcap; exact hcap) (hsl.stay (Ext.trans hx0 hV)) hm
  have CG : Hid (∀ V, Ext W0 V → Calls Try.prog 41 #[.slice B nb cb] V fun e w' => ∃ (ye : Nat) (yn : List Nat) (yk : Nat) (ec : Int) (A' : Option Addr) (c' : Nat), yk = yn.length ∧ GotC lb ye yn ec ∧ e = .returned (.tuple #[.agg #[.int .i64 (ye : Int), .slice A' yk c'], .int .i64 ec]) ∧ Sl i64 w' A' (ints yn) ∧ Ext V w') := fun V hV => by
    rw [hnb]
    refine (getChain_any B cb lb V (hsb0.stay (Ext.trans hx0 hV)) (by omega)).mono ?_
    rintro e w' ⟨ye, yn, ec, A', c', h1, h2, h3, h4, h5⟩
    exact ⟨ye, yn, _, ec, A', c', rfl, h1, h3, h4, h5⟩
  have CRG : Hid (∀ V (ye : Nat) (yn : List Nat) (yk : Nat) (ec : Int), yk = yn.length → GotC lb ye yn ec → Calls Try.prog 42 #[.string tl] V fun e w' => ∃ A' c', e = .returned (.tuple #[.agg #[.int .i64 (ye : Int), .slice A' yk c'], .int .i64 ec]) ∧ Sl i64 w' A' (ints yn) ∧ Ext V w') := fun V ye yn yk ec hk h => by
    rw [htl]
    refine (refGetChain_any lb V (by omega)).mono ?_
    rintro e w' ⟨ye', yn', ec', A', c', h1, h2, h3, h4, h5⟩
    obtain ⟨rfl, rfl, rfl⟩ := GotC.det h h1
    exact ⟨A', c', by rw [hk]; exact h3, h4, h5⟩
  have CSC : Hid (∀ V (ye : Nat) (yn : List Nat) (yk : Nat) (ec : Int) (A1 A2 : Option Addr) (c1 c2 : Nat), yk = yn.length → yn.length ≤ 5 → Sl i64 V A1 (ints yn) → Sl i64 V A2 (ints yn) → Calls Try.prog 43 #[.agg #[.int .i64 (ye : Int), .slice A1 yk c1], .agg #[.int .i64 (ye : Int), .slice A2 yk c2]] V fun e w' => e = .returned (.bool true) ∧ Ext V w') := fun V ye yn yk ec A1 A2 c1 c2 hk h5 h1 h2 => by
    have h := sameRef_any ye ye A1 A2 c1 c2 (ints yn) (ints yn) V (by rw [ints_len]; omega) (by rw [ints_len]; omega) h1 h2
    rw [decide_eq_true ⟨rfl, rfl⟩, ints_len, ← hk] at h
    exact h
  have HL5 : Hid (∀ {ye : Nat} {yn : List Nat} {ec : Int}, GotC lb ye yn ec → yn.length ≤ 5) := fun {ye yn ec} h => by
    rcases h with ⟨h1, h2, h3⟩ | ⟨h1, h2, h3, h4⟩
    · exact (mayChainB_le h1).2.2.1
    · rw [h3]; simp
  have HCB : Hid (∀ V, Ext W0 V → (convert 54 9 (.slice B nb cb)).run Try.prog V = .ok (.string tl) V) := fun V hV => by
    have := run_str (P := Try.prog) (w := V) 54 9 5 B lb cb Try.underlying54 Try.underlying5 Try.underlying9 (hsb0.stay (Ext.trans hx0 hV))
    rw [hnb, htl]
    exact this
  have CRP : Hid (∀ V, Ext W0 V → Calls Try.prog 40 #[.agg #[.int .i64 ep, .slice A n cap]] V fun e w' => e = .returned (.string sb) ∧ Ext V w') := fun V hV => by rw [hep, hn, hsb, hXB]; exact refPutChain_any ep0 A cap ns V (hsl.stay (Ext.trans hx0 hV)) hm
  have HCX : Hid (∀ V A' c', Sl Go.Proofs.Ytdbnaflaobncgaa.u8 V A' XB → ∀ W, Ext V W → (convert 54 9 (.slice A' n1 c')).run Try.prog W = .ok (.string sb) W) := fun V A' c' h W hW => by
    have := run_str (P := Try.prog) (w := W) 54 9 5 A' XB c' Try.underlying54 Try.underlying5 Try.underlying9 (h.stay hW)
    rw [hn1, hsb, ← hXB]
    exact this
  have CGX : Hid (∀ V A' c', Sl Go.Proofs.Ytdbnaflaobncgaa.u8 V A' XB → Calls Try.prog 41 #[.slice A' n1 c'] V fun e w' => ∃ A2 c2, e = .returned (.tuple #[.agg #[.int .i64 ep, .slice A2 n c2], .int .i64 0]) ∧ Sl i64 w' A2 (ints ns) ∧ Ext V w') := fun V A' c' h => by
    rw [hn1, ← hXB]
    refine (getChain_any A' c' XB V h (by rw [hXB]; exact Nat.le_trans (putC_len hm) (by decide))).mono ?_
    rintro e w' ⟨ye, yn, ec, A2, c2, h1, h2, h3, h4, h5⟩
    rw [hXB] at h1
    obtain ⟨rfl, rfl, rfl⟩ := h1.put hm
    exact ⟨A2, c2, by rw [hn, hep]; exact h3, h4, h5⟩
  have HNS : Hid (n = ns.length ∧ ns.length ≤ 5 ∧ ep = (ep0 : Int)) := ⟨hn, (mayChainB_le hm).2.2.1, hep⟩
  have HSC : Hid (∀ V, Ext W0 V → Sl i64 V A (ints ns)) := fun V hV => hsl.stay (Ext.trans hx0 hV)
  have CSX : Hid (∀ V A1 A2 c1 c2, Sl i64 V A1 (ints ns) → Sl i64 V A2 (ints ns) → Calls Try.prog 43 #[.agg #[.int .i64 ep, .slice A1 n c1], .agg #[.int .i64 ep, .slice A2 n c2]] V fun e w' => e = .returned (.bool true) ∧ Ext V w') := fun V A1 A2 c1 c2 h1 h2 => by rw [hep]; exact CSC.out V ep0 ns n 0 A1 A2 c1 c2 hn (mayChainB_le hm).2.2.1 h1 h2
  have g3 : ¬ (20 : Int) < (n : Int) := by omega
  have g4 : ¬ (100 : Int) < (nb : Int) := by omega
  clear kB hx0 hW0 hep hXB hn1 hsb htl hm hcap hl9 hn h20 hsl hnb hb hsb0
  go_enter Try.func9, Try.ntmps9
  go_wp2_with fail
  rw [← HW0.out]
  have e0 := E0.out
  have W0z0 := fz0 W0 E0.out; have W0z1 := fz1 W0 E0.out
  go_wp2_with (first
    | (go_at_call 19; (with_reducible refine (CRM.out _ e0).mono ?_); rintro e w2 ⟨rfl, hx⟩; have Ew2 : Ext W0 w2 := Ext.trans e0 hx; have w2z0 := fz0 w2 Ew2; have w2z1 := fz1 w2 Ew2; clear hx)
    | (go_at_call 38; (with_reducible refine (CP.out _ Ew2).mono ?_); rintro e w3 ⟨A1, c1, rfl, hs1, hx⟩; have Ew3 : Ext W0 w3 := Ext.trans Ew2 hx; have w3z0 := fz0 w3 Ew3; have w3z1 := fz1 w3 Ew3; have HS1 := Lib.hid hs1; clear hs1; clear hx))
  have EW3 := Lib.hid Ew3
  clear W0z0 W0z1 w2z0 w2z1 w3z0 w3z1 Ew3
  have hcv : ∀ W, Ext w3 W → (convert 54 9 (.slice A1 n1 c1)).run Try.prog W = .ok (.string sb) W := HCX.out _ _ _ HS1.out
  have X33 : Hid (Ext w3 w3) := Ext.refl _
  have fy0 : ∀ V, Ext w3 V → V.cell? ⟨w.heap.size, 0, none⟩ = some (.int .i64 ep) := fun V h => fz0 V (Ext.trans EW3.out h)
  have fy1 : ∀ V, Ext w3 V → V.cell? ⟨w.heap.size, 1, none⟩ = some (.slice A n cap) := fun V h => fz1 V (Ext.trans EW3.out h)
  have HFZ : Hid (∀ V, Ext W0 V → V.cell? ⟨w.heap.size, 0, none⟩ = some (.int .i64 ep) ∧ V.cell? ⟨w.heap.size, 1, none⟩ = some (.slice A n cap)) := fun V h => ⟨fz0 V h, fz1 V h⟩
  clear fz0 fz1
  refine ext_begin (by kernel_rfl) ?_
  have X33d := Lib.hid (Ext.drewR X33.out)
  refine ext_take (i := 0) (v := ?_) rfl (by kernel_rfl) (by kernel_rfl) (by kernel_rfl) (fun _ _ _ h => h) (by rfl) ?_ ?_
  rotate_left
  · intro W hW; have hW0 := Ext.trans X33d.out hW; clear hW; go_simp <;> with_reducible rfl
  try simp only [Act.put, List.setIfInBounds_toArray, List.set_cons_zero, List.set_cons_succ]
  refine ext_take (i := 2) (v := ?_) rfl (by kernel_rfl) (by kernel_rfl) (by kernel_rfl) (fun _ _ _ h => h) (by rfl) ?_ ?_
  rotate_left
  · intro W hW; have hW0 := Ext.trans X33d.out hW; clear hW; go_simp <;> with_reducible rfl
  try simp only [Act.put, List.setIfInBounds_toArray, List.set_cons_zero, List.set_cons_succ]
  refine ext_call (i := 1) rfl (by kernel_rfl) (by rfl) (fun K' hK => ?_)
  go_simp
  (go_at_call 39; (with_reducible refine (CM.out _ (Ext.trans EW3.out X33d.out)).mono ?_); rintro e w4 ⟨rfl, hx⟩; refine hK _ _ hx ?_; clear hK)
  have Ew4 := Lib.hid (Ext.trans X33d.out hx)
  clear hx
  try simp only [Act.put, List.setIfInBounds_toArray, List.set_cons_zero, List.set_cons_succ]
  refine ext_take (i := 3) (v := ?_) rfl (by kernel_rfl) (by kernel_rfl) (by kernel_rfl) (fun _ _ _ h => h) (by rfl) ?_ ?_
  rotate_left
  · intro W hW; have hW0 := Ext.trans Ew4.out hW; clear hW; go_simp <;> with_reducible rfl
  try simp only [Act.put, List.setIfInBounds_toArray, List.set_cons_zero, List.set_cons_succ]
  refine ext_take (i := 4) (v := ?_) rfl (by kernel_rfl) (by kernel_rfl) (by kernel_rfl) (fun _ _ _ h => h) (by rfl) ?_ ?_
  rotate_left
  · intro W hW; have hW0 := Ext.trans Ew4.out hW; clear hW; go_simp <;> with_reducible rfl
  try simp only [Act.put, List.setIfInBounds_toArray, List.set_cons_zero, List.set_cons_succ]
  refine ext_take (i := 5) (v := ?_) rfl (by kernel_rfl) (by kernel_rfl) (by kernel_rfl) (fun _ _ _ h => h) (by rfl) ?_ ?_
  rotate_left
  · intro W hW; have hW0 := Ext.trans Ew4.out hW; clear hW; go_simp <;> with_reducible rfl
  try simp only [Act.put, List.setIfInBounds_toArray, List.set_cons_zero, List.set_cons_succ]
  refine ext_take (i := 6) (v := ?_) rfl (by kernel_rfl) (by kernel_rfl) (by kernel_rfl) (fun _ _ _ h => h) (by rfl) ?_ ?_
  rotate_left
  · intro W hW; have hW0 := Ext.trans Ew4.out hW; clear hW; go_simp <;> with_reducible rfl
  try simp only [Act.put, List.setIfInBounds_toArray, List.set_cons_zero, List.set_cons_succ]
  refine ext_take (i := 7) (v := ?_) rfl (by kernel_rfl) (by kernel_rfl) (by kernel_rfl) (fun _ _ _ h => h) (by rfl) ?_ ?_
  rotate_left
  · intro W hW; have hW0 := Ext.trans Ew4.out hW; clear hW; go_simp <;> with_reducible rfl
  try simp only [Act.put, List.setIfInBounds_toArray, List.set_cons_zero, List.set_cons_succ]
  refine ext_take (i := 8) (v := ?_) rfl (by kernel_rfl) (by kernel_rfl) (by kernel_rfl) (fun _ _ _ h => h) (by rfl) ?_ ?_
  rotate_left
  · intro W hW; have hW0 := Ext.trans Ew4.out hW; clear hW; go_simp <;> with_reducible rfl
  try simp only [Act.put, List.setIfInBounds_toArray, List.set_cons_zero, List.set_cons_succ]
  refine ext_take (i := 9) (v := ?_) rfl (by kernel_rfl) (by kernel_rfl) (by kernel_rfl) (fun _ _ _ h => h) (by rfl) ?_ ?_
  rotate_left
  · intro W hW; have hW0 := Ext.trans Ew4.out hW; clear hW; go_simp <;> with_reducible rfl
  try simp only [Act.put, List.setIfInBounds_toArray, List.set_cons_zero, List.set_cons_succ]
  refine ext_take (i := 10) (v := ?_) rfl (by kernel_rfl) (by kernel_rfl) (by kernel_rfl) (fun _ _ _ h => h) (by rfl) ?_ ?_
  rotate_left
  · intro W hW; have hW0 := Ext.trans Ew4.out hW; clear hW; go_simp <;> with_reducible rfl
  try simp only [Act.put, List.setIfInBounds_toArray, List.set_cons_zero, List.set_cons_succ]
  refine ext_take (i := 11) (v := ?_) rfl (by kernel_rfl) (by kernel_rfl) (by kernel_rfl) (fun _ _ _ h => h) (by rfl) ?_ ?_
  rotate_left
  · intro W hW; have hW0 := Ext.trans Ew4.out hW; clear hW; go_simp <;> with_reducible rfl
  try simp only [Act.put, List.setIfInBounds_toArray, List.set_cons_zero, List.set_cons_succ]
  refine ext_take (i := 12) (v := ?_) rfl (by kernel_rfl) (by kernel_rfl) (by kernel_rfl) (fun _ _ _ h => h) (by rfl) ?_ ?_
  rotate_left
  · intro W hW; have hW0 := Ext.trans Ew4.out hW; clear hW; go_simp <;> with_reducible rfl
  try simp only [Act.put, List.setIfInBounds_toArray, List.set_cons_zero, List.set_cons_succ]
  refine ext_take (i := 13) (v := ?_) rfl (by kernel_rfl) (by kernel_rfl) (by kernel_rfl) (fun _ _ _ h => h) (by rfl) ?_ ?_
  rotate_left
  · intro W hW; have hW0 := Ext.trans Ew4.out hW; clear hW; go_simp <;> with_reducible rfl
  try simp only [Act.put, List.setIfInBounds_toArray, List.set_cons_zero, List.set_cons_succ]
  refine ext_skip (i := 14) rfl (by kernel_rfl) (by kernel_rfl) (by kernel_rfl) (fun _ _ _ h => h) (by rfl) ?_
  try simp only [Act.put, List.setIfInBounds_toArray, List.set_cons_zero, List.set_cons_succ]
  refine ext_skip (i := 15) rfl (by kernel_rfl) (by kernel_rfl) (by kernel_rfl) (fun _ _ _ h => h) (by rfl) ?_
  try simp only [Act.put, List.setIfInBounds_toArray, List.set_cons_zero, List.set_cons_succ]
  refine ext_skip (i := 16) rfl (by kernel_rfl) (by kernel_rfl) (by kernel_rfl) (fun _ _ _ h => h) (by rfl) ?_
  try simp only [Act.put, List.setIfInBounds_toArray, List.set_cons_zero, List.set_cons_succ]
  refine ext_skip (i := 17) rfl (by kernel_rfl) (by kernel_rfl) (by kernel_rfl) (fun _ _ _ h => h) (by rfl) ?_
  try simp only [Act.put, List.setIfInBounds_toArray, List.set_cons_zero, List.set_cons_succ]
  refine ext_skip (i := 18) rfl (by kernel_rfl) (by kernel_rfl) (by kernel_rfl) (fun _ _ _ h => h) (by rfl) ?_
  try simp only [Act.put, List.setIfInBounds_toArray, List.set_cons_zero, List.set_cons_succ]
  refine ext_skip (i := 19) rfl (by kernel_rfl) (by kernel_rfl) (by kernel_rfl) (fun _ _ _ h => h) (by rfl) ?_
  try simp only [Act.put, List.setIfInBounds_toArray, List.set_cons_zero, List.set_cons_succ]
  refine ext_skip (i := 20) rfl (by kernel_rfl) (by kernel_rfl) (by kernel_rfl) (fun _ _ _ h => h) (by rfl) ?_
  try simp only [Act.put, List.setIfInBounds_toArray, List.set_cons_zero, List.set_cons_succ]
  refine ext_take (i := 21) (v := ?_) rfl (by kernel_rfl) (by kernel_rfl) (by kernel_rfl) (fun _ _ _ h => h) (by rfl) ?_ ?_
  rotate_left
  · intro W hW; have hW0 := Ext.trans Ew4.out hW; clear hW; go_simp <;> with_reducible rfl
  try simp only [Act.put, List.setIfInBounds_toArray, List.set_cons_zero, List.set_cons_succ]
  refine ext_take (i := 22) (v := ?_) rfl (by kernel_rfl) (by kernel_rfl) (by kernel_rfl) (fun _ _ _ h => h) (by rfl) ?_ ?_
  rotate_left
  · intro W hW; have hW0 := Ext.trans Ew4.out hW; clear hW; go_simp <;> with_reducible rfl
  try simp only [Act.put, List.setIfInBounds_toArray, List.set_cons_zero, List.set_cons_succ]
  refine ext_take (i := 23) (v := ?_) rfl (by kernel_rfl) (by kernel_rfl) (by kernel_rfl) (fun _ _ _ h => h) (by rfl) ?_ ?_
  rotate_left
  · intro W hW; have hW0 := Ext.trans Ew4.out hW; clear hW; go_simp <;> with_reducible rfl
  try simp only [Act.put, List.setIfInBounds_toArray, List.set_cons_zero, List.set_cons_succ]
  refine ext_take (i := 24) (v := ?_) rfl (by kernel_rfl) (by kernel_rfl) (by kernel_rfl) (fun _ _ _ h => h) (by rfl) ?_ ?_
  rotate_left
  · intro W hW; have hW0 := Ext.trans Ew4.out hW; clear hW; go_simp <;> with_reducible rfl
  try simp only [Act.put, List.setIfInBounds_toArray, List.set_cons_zero, List.set_cons_succ]
  refine ext_take (i := 25) (v := ?_) rfl (by kernel_rfl) (by kernel_rfl) (by kernel_rfl) (fun _ _ _ h => h) (by rfl) ?_ ?_
  rotate_left
  · intro W hW; have hW0 := Ext.trans Ew4.out hW; clear hW; go_simp <;> with_reducible rfl
  try simp only [Act.put, List.setIfInBounds_toArray, List.set_cons_zero, List.set_cons_succ]
  refine ext_take (i := 26) (v := ?_) rfl (by kernel_rfl) (by kernel_rfl) (by kernel_rfl) (fun _ _ _ h => h) (by rfl) ?_ ?_
  rotate_left
  · intro W hW; have hW0 := Ext.trans Ew4.out hW; clear hW; go_simp <;> with_reducible rfl
  try simp only [Act.put, List.setIfInBounds_toArray, List.set_cons_zero, List.set_cons_succ]
  refine ext_take (i := 27) (v := .string sb) rfl (by kernel_rfl) (by kernel_rfl) (by kernel_rfl) (fun _ _ _ h => h) (by rfl) ?_ ?_
  · intro W hW; have hW0 := Ext.trans Ew4.out hW; clear hW; have hh := hcv W hW0; go_simp; all_goals (first | exact hh | (rw [hh]; done) | (rw [hh]; rfl))
  try simp only [Act.put, List.setIfInBounds_toArray, List.set_cons_zero, List.set_cons_succ]
  refine ext_take (i := 28) (v := ?_) rfl (by kernel_rfl) (by kernel_rfl) (by kernel_rfl) (fun _ _ _ h => h) (by rfl) ?_ ?_
  rotate_left
  · intro W hW; have hW0 := Ext.trans Ew4.out hW; clear hW; go_simp <;> with_reducible rfl
  try simp only [Act.put, List.setIfInBounds_toArray, List.set_cons_zero, List.set_cons_succ]
  refine ext_call (i := 29) rfl (by kernel_rfl) (by rfl) (fun K' hK => ?_)
  go_simp
  (go_at_call 40; (with_reducible refine (CRP.out _ (Ext.trans EW3.out Ew4.out)).mono ?_); rintro e w7 ⟨rfl, hx⟩; refine hK _ _ hx ?_; clear hK)
  have Ew7 := Lib.hid (Ext.trans Ew4.out hx)
  clear hx
  try simp only [Act.put, List.setIfInBounds_toArray, List.set_cons_zero, List.set_cons_succ]
  refine ext_take (i := 30) (v := ?_) rfl (by kernel_rfl) (by kernel_rfl) (by kernel_rfl) (fun _ _ _ h => h) (by rfl) ?_ ?_
  rotate_left
  · intro W hW; have hW0 := Ext.trans Ew7.out hW; clear hW; go_simp <;> with_reducible rfl
  try simp only [Act.put, List.setIfInBounds_toArray, List.set_cons_zero, List.set_cons_succ]
  refine ext_take (i := 31) (v := ?_) rfl (by kernel_rfl) (by kernel_rfl) (by kernel_rfl) (fun _ _ _ h => h) (by rfl) ?_ ?_
  rotate_left
  · intro W hW; have hW0 := Ext.trans Ew7.out hW; clear hW; go_simp <;> with_reducible rfl
  try simp only [Act.put, List.setIfInBounds_toArray, List.set_cons_zero, List.set_cons_succ]
  refine ext_take (i := 32) (v := ?_) rfl (by kernel_rfl) (by kernel_rfl) (by kernel_rfl) (fun _ _ _ h => h) (by rfl) ?_ ?_
  rotate_left
  · intro W hW; have hW0 := Ext.trans Ew7.out hW; clear hW; go_simp <;> with_reducible rfl
  try simp only [Act.put, List.setIfInBounds_toArray, List.set_cons_zero, List.set_cons_succ]
  refine wpAnyH_done (by kernel_rfl) ?_ _
  have X37 := Lib.hid (Ew7.out)
  have Ew7 := Lib.hid (Ext.trans EW3.out Ew7.out)
  have EX := Lib.hid (Ew7.out)
  have ex := EX.out
  clear Ew7 hcv
  go_wp2_with (first
    | (go_at_call 41; (with_reducible refine (CG.out _ ex).mono ?_); rintro e w8 ⟨ye, yn, yk, ec, A8, c8, hk8, hg, rfl, hs8, hx⟩; have HG := Lib.hid hg; have HK8 := Lib.hid hk8; have HS8 := Lib.hid hs8; have E8 : Hid (Ext W0 (w8.alloc (.cells #[.int .i64 (ye : Int), .slice A8 yk c8] 39)) ∧ Ext w7 (w8.alloc (.cells #[.int .i64 (ye : Int), .slice A8 yk c8] 39))) := ⟨Ext.trans ex (Ext.trans hx (Ext.alloc _ _)), Ext.trans hx (Ext.alloc _ _)⟩; have hcb := HCB.out _ E8.out.1; clear hg hx hs8 hk8)
    | (go_at_call 42; (with_reducible refine (CRG.out _ _ _ _ _ HK8.out HG.out).mono ?_); rintro e w9 ⟨A9, c9, rfl, hs9, hx⟩; have XYZ : Hid (Ext (w8.alloc (.cells #[.int .i64 (ye : Int), .slice A8 yk c8] 39)) (w9.alloc (.cells #[.int .i64 (ye : Int), .slice A9 yk c9] 39))) := Ext.trans hx (Ext.alloc _ _); have HS9 : Hid (Sl i64 (w9.alloc (.cells #[.int .i64 (ye : Int), .slice A9 yk c9] 39)) A9 (ints yn)) := hs9.stay (Ext.alloc _ _); have HS89 : Hid (Sl i64 (w9.alloc (.cells #[.int .i64 (ye : Int), .slice A9 yk c9] 39)) A8 (ints yn)) := HS8.out.stay (Ext.trans (Ext.alloc _ _) XYZ.out); have KY := (Blk.new w8 39 #[.int .i64 (ye : Int), .slice A8 yk c8]).stay XYZ.out; have ky0 := KY.cell 0; have ky1 := KY.cell 1; have kz0 := (Blk.new w9 39 #[.int .i64 (ye : Int), .slice A9 yk c9]).cell 0; have kz1 := (Blk.new w9 39 #[.int .i64 (ye : Int), .slice A9 yk c9]).cell 1; simp at ky0 ky1; clear hx hs9 KY)
    | (go_at_call 43; (with_reducible refine (CSC.out _ _ yn _ ec _ _ _ _ HK8.out (HL5.out HG.out) HS89.out HS9.out).mono ?_); rintro e w10 ⟨rfl, hx⟩; have E10 : Hid (Ext W0 w10 ∧ Ext w7 w10) := ⟨Ext.trans (Ext.trans E8.out.1 XYZ.out) hx, Ext.trans (Ext.trans E8.out.2 XYZ.out) hx⟩; clear hx))
  have HSX : Hid (Sl Go.Proofs.Ytdbnaflaobncgaa.u8 w10 A1 XB) := HS1.out.stay (Ext.trans X37.out E10.out.2)
  go_wp2_with (first
    | (go_at_call 41; (with_reducible refine (CGX.out _ _ _ HSX.out).mono ?_); rintro e w11 ⟨A11, c11, rfl, hs11, hx⟩; have HS11 := Lib.hid hs11; have E11 : Hid (Ext W0 (w11.alloc (.cells #[.int .i64 ep, .slice A11 n c11] 39))) := Ext.trans E10.out.1 (Ext.trans hx (Ext.alloc _ _)); clear hx hs11)
    | (go_at_call 29; (with_reducible refine (HT.out _ E11.out).mono ?_); rintro e w12 ⟨rfl, hx⟩; have E12 : Hid (Ext W0 w12) := Ext.trans E11.out hx; have KX := (Blk.new w11 39 #[.int .i64 ep, .slice A11 n c11]).stay hx; have kx0 := KX.cell 0; have kx1 := KX.cell 1; have kc := HFZ.out _ E12.out; have kc0 := kc.1; have kc1 := kc.2; have HS12 : Hid (Sl i64 w12 A11 (ints ns)) := HS11.out.stay (Ext.trans (Ext.alloc _ _) hx); have HSC12 := Lib.hid (HSC.out _ E12.out); simp at kx0 kx1; clear hx KX kc)
    | (go_at_call 43; (with_reducible refine (CSX.out _ _ _ _ _ HS12.out HSC12.out).mono ?_); rintro e w13 ⟨rfl, hx⟩; have E13 : Hid (Ext W0 w13) := Ext.trans E12.out hx; clear hx))
  try go_ret
  exact hD.out _ _ ⟨rfl, Ext.trans HX0.out E13.out⟩

set_option maxRecDepth 8000 in
set_option maxHeartbeats 16000000 in
theorem chains_false (ep : Int) (l : List Int) (hm : mayChainB ep l = false) (A : Option Addr) (cap n : Nat) (B : Option Addr) (cb nb : Nat) (lb : List UInt8) (w : World) (hcap : (l).length ≤ cap) (hl9 : (l).length ≤ 9223372036854775807) (hn : n = (l).length) (h20 : n ≤ 20) (hsl : Sl i64 w A l) (hnb : nb = lb.length) (hb : nb ≤ 100) (hsb0 : Sl Go.Proofs.Ytdbnaflaobncgaa.u8 w B lb) :
    Calls Try.prog 9 #[.agg #[.int .i64 ep, .slice A n cap], .slice B nb cb] w fun e w' => e = .returned (.bool true) ∧ Below w.heap.size w w' := by
  refine hide_post fun D hD => ?_
  obtain ⟨W0, hW0⟩ : ∃ W0, W0 = w.alloc (.cells #[.int .i64 ep, .slice A n cap] 39) := ⟨_, rfl⟩
  have kB : Blk W0 w.heap.size 39 #[.int .i64 ep, .slice A n cap] := by rw [hW0]; exact Blk.new _ _ _
  have hx0 : Ext w W0 := by rw [hW0]; exact Ext.alloc _ _
  have HW0 := Lib.hid hW0
  have HX0 := Lib.hid hx0
  have fz0 : ∀ V, Ext W0 V → V.cell? ⟨w.heap.size, 0, none⟩ = some (.int .i64 ep) := fun V h => (kB.stay h).cell 0
  have fz1 : ∀ V, Ext W0 V → V.cell? ⟨w.heap.size, 1, none⟩ = some (.slice A n cap) := fun V h => (kB.stay h).cell 1
  have E0 : Hid (Ext W0 W0) := Ext.refl _
  have HT : Hid (∀ V, Ext W0 V → Calls Try.prog 29 #[] V fun e w' => e = .returned (.bool true) ∧ Ext V w') := fun V _ => told2 V
  obtain ⟨tl, htl⟩ : ∃ z, z = str lb := ⟨_, rfl⟩
  have CM : Hid (∀ V, Ext W0 V → Calls Try.prog 39 #[.agg #[.int .i64 ep, .slice A n cap]] V fun e w' => e = .returned (.bool false) ∧ Ext V w') := fun V hV => by
    have h := mayChain_any ep A cap l V hl9 hcap (hsl.stay (Ext.trans hx0 hV))
    rw [← hn, hm] at h
    exact h
  have CRM : Hid (∀ V, Ext W0 V → Calls Try.prog 19 #[.agg #[.int .i64 ep, .slice A n cap]] V fun e w' => e = .returned (.bool false) ∧ Ext V w') := fun V hV => by
    have h := refMayChain_any ep A cap l V hl9 (hsl.stay (Ext.trans hx0 hV))
    rw [← hn, hm] at h
    exact h
  have CP : Hid (∀ V, Ext W0 V → Calls Try.prog 38 #[.agg #[.int .i64 ep, .slice A n cap]] V fun e w' => e = .returned (.tuple #[.slice none 0 0, .int .i64 1]) ∧ Ext V w') := fun V hV => by rw [hn]; exact putChain_no ep A cap l V hl9 hcap (hsl.stay (Ext.trans hx0 hV)) hm
  have CG : Hid (∀ V, Ext W0 V → Calls Try.prog 41 #[.slice B nb cb] V fun e w' => ∃ (ye : Nat) (yn : List Nat) (yk : Nat) (ec : Int) (A' : Option Addr) (c' : Nat), yk = yn.length ∧ GotC lb ye yn ec ∧ e = .returned (.tuple #[.agg #[.int .i64 (ye : Int), .slice A' yk c'], .int .i64 ec]) ∧ Sl i64 w' A' (ints yn) ∧ Ext V w') := fun V hV => by
    rw [hnb]
    refine (getChain_any B cb lb V (hsb0.stay (Ext.trans hx0 hV)) (by omega)).mono ?_
    rintro e w' ⟨ye, yn, ec, A', c', h1, h2, h3, h4, h5⟩
    exact ⟨ye, yn, _, ec, A', c', rfl, h1, h3, h4, h5⟩
  have CRG : Hid (∀ V (ye : Nat) (yn : List Nat) (yk : Nat) (ec : Int), yk = yn.length → GotC lb ye yn ec → Calls Try.prog 42 #[.string tl] V fun e w' => ∃ A' c', e = .returned (.tuple #[.agg #[.int .i64 (ye : Int), .slice A' yk c'], .int .i64 ec]) ∧ Sl i64 w' A' (ints yn) ∧ Ext V w') := fun V ye yn yk ec hk h => by
    rw [htl]
    refine (refGetChain_any lb V (by omega)).mono ?_
    rintro e w' ⟨ye', yn', ec', A', c', h1, h2, h3, h4, h5⟩
    obtain ⟨rfl, rfl, rfl⟩ := GotC.det h h1
    exact ⟨A', c', by rw [hk]; exact h3, h4, h5⟩
  have CSC : Hid (∀ V (ye : Nat) (yn : List Nat) (yk : Nat) (ec : Int) (A1 A2 : Option Addr) (c1 c2 : Nat), yk = yn.length → yn.length ≤ 5 → Sl i64 V A1 (ints yn) → Sl i64 V A2 (ints yn) → Calls Try.prog 43 #[.agg #[.int .i64 (ye : Int), .slice A1 yk c1], .agg #[.int .i64 (ye : Int), .slice A2 yk c2]] V fun e w' => e = .returned (.bool true) ∧ Ext V w') := fun V ye yn yk ec A1 A2 c1 c2 hk h5 h1 h2 => by
    have h := sameRef_any ye ye A1 A2 c1 c2 (ints yn) (ints yn) V (by rw [ints_len]; omega) (by rw [ints_len]; omega) h1 h2
    rw [decide_eq_true ⟨rfl, rfl⟩, ints_len, ← hk] at h
    exact h
  have HL5 : Hid (∀ {ye : Nat} {yn : List Nat} {ec : Int}, GotC lb ye yn ec → yn.length ≤ 5) := fun {ye yn ec} h => by
    rcases h with ⟨h1, h2, h3⟩ | ⟨h1, h2, h3, h4⟩
    · exact (mayChainB_le h1).2.2.1
    · rw [h3]; simp
  have HCB : Hid (∀ V, Ext W0 V → (convert 54 9 (.slice B nb cb)).run Try.prog V = .ok (.string tl) V) := fun V hV => by
    have := run_str (P := Try.prog) (w := V) 54 9 5 B lb cb Try.underlying54 Try.underlying5 Try.underlying9 (hsb0.stay (Ext.trans hx0 hV))
    rw [hnb, htl]
    exact this
  have g3 : ¬ (20 : Int) < (n : Int) := by omega
  have g4 : ¬ (100 : Int) < (nb : Int) := by omega
  clear kB hx0 hW0 htl hm hcap hl9 hn h20 hsl hnb hb hsb0
  go_enter Try.func9, Try.ntmps9
  go_wp2_with fail
  rw [← HW0.out]
  have e0 := E0.out
  have W0z0 := fz0 W0 E0.out; have W0z1 := fz1 W0 E0.out
  go_wp2_with (first
    | (go_at_call 19; (with_reducible refine (CRM.out _ e0).mono ?_); rintro e w2 ⟨rfl, hx⟩; have Ew2 : Ext W0 w2 := Ext.trans e0 hx; have w2z0 := fz0 w2 Ew2; have w2z1 := fz1 w2 Ew2; clear hx)
    | (go_at_call 38; (with_reducible refine (CP.out _ Ew2).mono ?_); rintro e w3 ⟨rfl, hx⟩; have Ew3 : Ext W0 w3 := Ext.trans Ew2 hx; have w3z0 := fz0 w3 Ew3; have w3z1 := fz1 w3 Ew3; clear hx))
  have EW3 := Lib.hid Ew3
  clear W0z0 W0z1 w2z0 w2z1 w3z0 w3z1 Ew3
  refine ext_begin (by kernel_rfl) ?_
  have EW3d := Lib.hid (Ext.drewR EW3.out)
  refine ext_take (i := 0) (v := ?_) rfl (by kernel_rfl) (by kernel_rfl) (by kernel_rfl) (fun _ _ _ h => h) (by rfl) ?_ ?_
  rotate_left
  · intro W hW; have hW0 := Ext.trans EW3d.out hW; clear hW; go_simp <;> with_reducible rfl
  try simp only [Act.put, List.setIfInBounds_toArray, List.set_cons_zero, List.set_cons_succ]
  refine ext_take (i := 2) (v := ?_) rfl (by kernel_rfl) (by kernel_rfl) (by kernel_rfl) (fun _ _ _ h => h) (by rfl) ?_ ?_
  rotate_left
  · intro W hW; have hW0 := Ext.trans EW3d.out hW; clear hW; go_simp <;> with_reducible rfl
  try simp only [Act.put, List.setIfInBounds_toArray, List.set_cons_zero, List.set_cons_succ]
  refine ext_call (i := 1) rfl (by kernel_rfl) (by rfl) (fun K' hK => ?_)
  go_simp
  (go_at_call 39; (with_reducible refine (CM.out _ EW3d.out).mono ?_); rintro e w4 ⟨rfl, hx⟩; refine hK _ _ hx ?_; clear hK)
  have Ew4 := Lib.hid (Ext.trans EW3d.out hx)
  clear hx
  try simp only [Act.put, List.setIfInBounds_toArray, List.set_cons_zero, List.set_cons_succ]
  refine ext_take (i := 3) (v := ?_) rfl (by kernel_rfl) (by kernel_rfl) (by kernel_rfl) (fun _ _ _ h => h) (by rfl) ?_ ?_
  rotate_left
  · intro W hW; have hW0 := Ext.trans Ew4.out hW; clear hW; go_simp <;> with_reducible rfl
  try simp only [Act.put, List.setIfInBounds_toArray, List.set_cons_zero, List.set_cons_succ]
  refine ext_take (i := 4) (v := ?_) rfl (by kernel_rfl) (by kernel_rfl) (by kernel_rfl) (fun _ _ _ h => h) (by rfl) ?_ ?_
  rotate_left
  · intro W hW; have hW0 := Ext.trans Ew4.out hW; clear hW; go_simp <;> with_reducible rfl
  try simp only [Act.put, List.setIfInBounds_toArray, List.set_cons_zero, List.set_cons_succ]
  refine ext_take (i := 5) (v := ?_) rfl (by kernel_rfl) (by kernel_rfl) (by kernel_rfl) (fun _ _ _ h => h) (by rfl) ?_ ?_
  rotate_left
  · intro W hW; have hW0 := Ext.trans Ew4.out hW; clear hW; go_simp <;> with_reducible rfl
  try simp only [Act.put, List.setIfInBounds_toArray, List.set_cons_zero, List.set_cons_succ]
  refine ext_take (i := 6) (v := ?_) rfl (by kernel_rfl) (by kernel_rfl) (by kernel_rfl) (fun _ _ _ h => h) (by rfl) ?_ ?_
  rotate_left
  · intro W hW; have hW0 := Ext.trans Ew4.out hW; clear hW; go_simp <;> with_reducible rfl
  try simp only [Act.put, List.setIfInBounds_toArray, List.set_cons_zero, List.set_cons_succ]
  refine ext_take (i := 7) (v := ?_) rfl (by kernel_rfl) (by kernel_rfl) (by kernel_rfl) (fun _ _ _ h => h) (by rfl) ?_ ?_
  rotate_left
  · intro W hW; have hW0 := Ext.trans Ew4.out hW; clear hW; go_simp <;> with_reducible rfl
  try simp only [Act.put, List.setIfInBounds_toArray, List.set_cons_zero, List.set_cons_succ]
  refine ext_take (i := 8) (v := ?_) rfl (by kernel_rfl) (by kernel_rfl) (by kernel_rfl) (fun _ _ _ h => h) (by rfl) ?_ ?_
  rotate_left
  · intro W hW; have hW0 := Ext.trans Ew4.out hW; clear hW; go_simp <;> with_reducible rfl
  try simp only [Act.put, List.setIfInBounds_toArray, List.set_cons_zero, List.set_cons_succ]
  refine ext_take (i := 9) (v := ?_) rfl (by kernel_rfl) (by kernel_rfl) (by kernel_rfl) (fun _ _ _ h => h) (by rfl) ?_ ?_
  rotate_left
  · intro W hW; have hW0 := Ext.trans Ew4.out hW; clear hW; go_simp <;> with_reducible rfl
  try simp only [Act.put, List.setIfInBounds_toArray, List.set_cons_zero, List.set_cons_succ]
  refine ext_take (i := 10) (v := ?_) rfl (by kernel_rfl) (by kernel_rfl) (by kernel_rfl) (fun _ _ _ h => h) (by rfl) ?_ ?_
  rotate_left
  · intro W hW; have hW0 := Ext.trans Ew4.out hW; clear hW; go_simp <;> with_reducible rfl
  try simp only [Act.put, List.setIfInBounds_toArray, List.set_cons_zero, List.set_cons_succ]
  refine ext_take (i := 11) (v := ?_) rfl (by kernel_rfl) (by kernel_rfl) (by kernel_rfl) (fun _ _ _ h => h) (by rfl) ?_ ?_
  rotate_left
  · intro W hW; have hW0 := Ext.trans Ew4.out hW; clear hW; go_simp <;> with_reducible rfl
  try simp only [Act.put, List.setIfInBounds_toArray, List.set_cons_zero, List.set_cons_succ]
  refine ext_take (i := 12) (v := ?_) rfl (by kernel_rfl) (by kernel_rfl) (by kernel_rfl) (fun _ _ _ h => h) (by rfl) ?_ ?_
  rotate_left
  · intro W hW; have hW0 := Ext.trans Ew4.out hW; clear hW; go_simp <;> with_reducible rfl
  try simp only [Act.put, List.setIfInBounds_toArray, List.set_cons_zero, List.set_cons_succ]
  refine ext_take (i := 13) (v := ?_) rfl (by kernel_rfl) (by kernel_rfl) (by kernel_rfl) (fun _ _ _ h => h) (by rfl) ?_ ?_
  rotate_left
  · intro W hW; have hW0 := Ext.trans Ew4.out hW; clear hW; go_simp <;> with_reducible rfl
  try simp only [Act.put, List.setIfInBounds_toArray, List.set_cons_zero, List.set_cons_succ]
  refine ext_take (i := 14) (v := ?_) rfl (by kernel_rfl) (by kernel_rfl) (by kernel_rfl) (fun _ _ _ h => h) (by rfl) ?_ ?_
  rotate_left
  · intro W hW; have hW0 := Ext.trans Ew4.out hW; clear hW; go_simp <;> with_reducible rfl
  try simp only [Act.put, List.setIfInBounds_toArray, List.set_cons_zero, List.set_cons_succ]
  refine ext_take (i := 15) (v := ?_) rfl (by kernel_rfl) (by kernel_rfl) (by kernel_rfl) (fun _ _ _ h => h) (by rfl) ?_ ?_
  rotate_left
  · intro W hW; have hW0 := Ext.trans Ew4.out hW; clear hW; go_simp <;> with_reducible rfl
  try simp only [Act.put, List.setIfInBounds_toArray, List.set_cons_zero, List.set_cons_succ]
  refine ext_take (i := 16) (v := ?_) rfl (by kernel_rfl) (by kernel_rfl) (by kernel_rfl) (fun _ _ _ h => h) (by rfl) ?_ ?_
  rotate_left
  · intro W hW; have hW0 := Ext.trans Ew4.out hW; clear hW; go_simp <;> with_reducible rfl
  try simp only [Act.put, List.setIfInBounds_toArray, List.set_cons_zero, List.set_cons_succ]
  refine ext_take (i := 17) (v := ?_) rfl (by kernel_rfl) (by kernel_rfl) (by kernel_rfl) (fun _ _ _ h => h) (by rfl) ?_ ?_
  rotate_left
  · intro W hW; have hW0 := Ext.trans Ew4.out hW; clear hW; go_simp <;> with_reducible rfl
  try simp only [Act.put, List.setIfInBounds_toArray, List.set_cons_zero, List.set_cons_succ]
  refine ext_take (i := 18) (v := ?_) rfl (by kernel_rfl) (by kernel_rfl) (by kernel_rfl) (fun _ _ _ h => h) (by rfl) ?_ ?_
  rotate_left
  · intro W hW; have hW0 := Ext.trans Ew4.out hW; clear hW; go_simp <;> with_reducible rfl
  try simp only [Act.put, List.setIfInBounds_toArray, List.set_cons_zero, List.set_cons_succ]
  refine ext_take (i := 19) (v := ?_) rfl (by kernel_rfl) (by kernel_rfl) (by kernel_rfl) (fun _ _ _ h => h) (by rfl) ?_ ?_
  rotate_left
  · intro W hW; have hW0 := Ext.trans Ew4.out hW; clear hW; go_simp <;> with_reducible rfl
  try simp only [Act.put, List.setIfInBounds_toArray, List.set_cons_zero, List.set_cons_succ]
  refine ext_take (i := 20) (v := ?_) rfl (by kernel_rfl) (by kernel_rfl) (by kernel_rfl) (fun _ _ _ h => h) (by rfl) ?_ ?_
  rotate_left
  · intro W hW; have hW0 := Ext.trans Ew4.out hW; clear hW; go_simp <;> with_reducible rfl
  try simp only [Act.put, List.setIfInBounds_toArray, List.set_cons_zero, List.set_cons_succ]
  refine ext_take (i := 21) (v := ?_) rfl (by kernel_rfl) (by kernel_rfl) (by kernel_rfl) (fun _ _ _ h => h) (by rfl) ?_ ?_
  rotate_left
  · intro W hW; have hW0 := Ext.trans Ew4.out hW; clear hW; go_simp <;> with_reducible rfl
  try simp only [Act.put, List.setIfInBounds_toArray, List.set_cons_zero, List.set_cons_succ]
  refine ext_take (i := 22) (v := ?_) rfl (by kernel_rfl) (by kernel_rfl) (by kernel_rfl) (fun _ _ _ h => h) (by rfl) ?_ ?_
  rotate_left
  · intro W hW; have hW0 := Ext.trans Ew4.out hW; clear hW; go_simp <;> with_reducible rfl
  try simp only [Act.put, List.setIfInBounds_toArray, List.set_cons_zero, List.set_cons_succ]
  refine ext_take (i := 23) (v := ?_) rfl (by kernel_rfl) (by kernel_rfl) (by kernel_rfl) (fun _ _ _ h => h) (by rfl) ?_ ?_
  rotate_left
  · intro W hW; have hW0 := Ext.trans Ew4.out hW; clear hW; go_simp <;> with_reducible rfl
  try simp only [Act.put, List.setIfInBounds_toArray, List.set_cons_zero, List.set_cons_succ]
  refine ext_take (i := 24) (v := ?_) rfl (by kernel_rfl) (by kernel_rfl) (by kernel_rfl) (fun _ _ _ h => h) (by rfl) ?_ ?_
  rotate_left
  · intro W hW; have hW0 := Ext.trans Ew4.out hW; clear hW; go_simp <;> with_reducible rfl
  try simp only [Act.put, List.setIfInBounds_toArray, List.set_cons_zero, List.set_cons_succ]
  refine ext_take (i := 25) (v := ?_) rfl (by kernel_rfl) (by kernel_rfl) (by kernel_rfl) (fun _ _ _ h => h) (by rfl) ?_ ?_
  rotate_left
  · intro W hW; have hW0 := Ext.trans Ew4.out hW; clear hW; go_simp <;> with_reducible rfl
  try simp only [Act.put, List.setIfInBounds_toArray, List.set_cons_zero, List.set_cons_succ]
  refine ext_skip (i := 26) rfl (by kernel_rfl) (by kernel_rfl) (by kernel_rfl) (fun _ _ _ h => h) (by rfl) ?_
  try simp only [Act.put, List.setIfInBounds_toArray, List.set_cons_zero, List.set_cons_succ]
  refine ext_skip (i := 27) rfl (by kernel_rfl) (by kernel_rfl) (by kernel_rfl) (fun _ _ _ h => h) (by rfl) ?_
  try simp only [Act.put, List.setIfInBounds_toArray, List.set_cons_zero, List.set_cons_succ]
  refine ext_skip (i := 28) rfl (by kernel_rfl) (by kernel_rfl) (by kernel_rfl) (fun _ _ _ h => h) (by rfl) ?_
  try simp only [Act.put, List.setIfInBounds_toArray, List.set_cons_zero, List.set_cons_succ]
  refine ext_skip (i := 29) rfl (by kernel_rfl) (by kernel_rfl) (by kernel_rfl) (fun _ _ _ h => h) (by rfl) ?_
  try simp only [Act.put, List.setIfInBounds_toArray, List.set_cons_zero, List.set_cons_succ]
  refine ext_skip (i := 30) rfl (by kernel_rfl) (by kernel_rfl) (by kernel_rfl) (fun _ _ _ h => h) (by rfl) ?_
  try simp only [Act.put, List.setIfInBounds_toArray, List.set_cons_zero, List.set_cons_succ]
  refine ext_take (i := 31) (v := ?_) rfl (by kernel_rfl) (by kernel_rfl) (by kernel_rfl) (fun _ _ _ h => h) (by rfl) ?_ ?_
  rotate_left
  · intro W hW; have hW0 := Ext.trans Ew4.out hW; clear hW; go_simp <;> with_reducible rfl
  try simp only [Act.put, List.setIfInBounds_toArray, List.set_cons_zero, List.set_cons_succ]
  refine ext_take (i := 32) (v := ?_) rfl (by kernel_rfl) (by kernel_rfl) (by kernel_rfl) (fun _ _ _ h => h) (by rfl) ?_ ?_
  rotate_left
  · intro W hW; have hW0 := Ext.trans Ew4.out hW; clear hW; go_simp <;> with_reducible rfl
  try simp only [Act.put, List.setIfInBounds_toArray, List.set_cons_zero, List.set_cons_succ]
  refine wpAnyH_done (by kernel_rfl) ?_ _
  have EX := Lib.hid (Ew4.out)
  have ex := EX.out
  clear Ew4 
  go_wp2_with (first
    | (go_at_call 41; (with_reducible refine (CG.out _ ex).mono ?_); rintro e w8 ⟨ye, yn, yk, ec, A8, c8, hk8, hg, rfl, hs8, hx⟩; have HG := Lib.hid hg; have HK8 := Lib.hid hk8; have HS8 := Lib.hid hs8; have E8 : Hid (Ext W0 (w8.alloc (.cells #[.int .i64 (ye : Int), .slice A8 yk c8] 39)) ∧ Ext w4 (w8.alloc (.cells #[.int .i64 (ye : Int), .slice A8 yk c8] 39))) := ⟨Ext.trans ex (Ext.trans hx (Ext.alloc _ _)), Ext.trans hx (Ext.alloc _ _)⟩; have hcb := HCB.out _ E8.out.1; clear hg hx hs8 hk8)
    | (go_at_call 42; (with_reducible refine (CRG.out _ _ _ _ _ HK8.out HG.out).mono ?_); rintro e w9 ⟨A9, c9, rfl, hs9, hx⟩; have XYZ : Hid (Ext (w8.alloc (.cells #[.int .i64 (ye : Int), .slice A8 yk c8] 39)) (w9.alloc (.cells #[.int .i64 (ye : Int), .slice A9 yk c9] 39))) := Ext.trans hx (Ext.alloc _ _); have HS9 : Hid (Sl i64 (w9.alloc (.cells #[.int .i64 (ye : Int), .slice A9 yk c9] 39)) A9 (ints yn)) := hs9.stay (Ext.alloc _ _); have HS89 : Hid (Sl i64 (w9.alloc (.cells #[.int .i64 (ye : Int), .slice A9 yk c9] 39)) A8 (ints yn)) := HS8.out.stay (Ext.trans (Ext.alloc _ _) XYZ.out); have KY := (Blk.new w8 39 #[.int .i64 (ye : Int), .slice A8 yk c8]).stay XYZ.out; have ky0 := KY.cell 0; have ky1 := KY.cell 1; have kz0 := (Blk.new w9 39 #[.int .i64 (ye : Int), .slice A9 yk c9]).cell 0; have kz1 := (Blk.new w9 39 #[.int .i64 (ye : Int), .slice A9 yk c9]).cell 1; simp at ky0 ky1; clear hx hs9 KY)
    | (go_at_call 43; (with_reducible refine (CSC.out _ _ yn _ ec _ _ _ _ HK8.out (HL5.out HG.out) HS89.out HS9.out).mono ?_); rintro e w10 ⟨rfl, hx⟩; have E10 : Hid (Ext W0 w10 ∧ Ext w4 w10) := ⟨Ext.trans (Ext.trans E8.out.1 XYZ.out) hx, Ext.trans (Ext.trans E8.out.2 XYZ.out) hx⟩; clear hx)
    | (go_at_call 29; (with_reducible refine (HT.out _ E10.out.1).mono ?_); rintro e w11 ⟨rfl, hx⟩; have E11 : Hid (Ext W0 w11) := Ext.trans E10.out.1 hx; clear hx))
  try go_ret
  exact hD.out _ _ ⟨rfl, Ext.trans HX0.out E11.out⟩

theorem walk_itemChains (ep : Int) (A : Option Addr) (cap : Nat) (l : List Int) (B : Option Addr) (cb : Nat) (lb : List UInt8) (w : World) (hcap : l.length ≤ cap) (hl : l.length ≤ 9223372036854775807) (hsl : Sl i64 w A l) (hlb : lb.length ≤ 9223372036854775807) (hsb : Sl Go.Proofs.Ytdbnaflaobncgaa.u8 w B lb) :
    Calls Try.prog 9 #[.agg #[.int .i64 ep, .slice A l.length cap], .slice B lb.length cb] w fun e w' => e = .returned (.bool true) ∧ Below w.heap.size w w' := by
  by_cases h20 : l.length ≤ 20
  · by_cases h100 : lb.length ≤ 100
    · cases hm : mayChainB ep l with
      | false => exact chains_false ep l hm A cap _ B cb _ lb w hcap hl rfl h20 hsl rfl h100 hsb
      | true =>
        obtain ⟨e, ns, rfl, rfl⟩ := mayChainB_ints hm
        exact chains_true e ns hm A cap _ B cb _ lb w hcap hl rfl h20 hsl rfl h100 hsb
    · exact chains_no ep A cap _ B cb _ w (.inr ⟨h20, by omega⟩)
  · exact chains_no ep A cap _ B cb _ w (.inl (by omega))

set_option maxRecDepth 100000 in
theorem law_itemChains {H : Type} {enc : TypeId × Value → H} (W : World) (base : Nat) (args : Array Value) (ds : List (DataW H)) (p : List MemPlace)
    (hval : ∀ (j : Nat) t v, Try.f9.params[j]? = some t → args[j]? = some v → Value.okWide Try.prog W .any base t v)
    (hA : DataW.TrodAll enc Try.prog W 0 (fun _ => true) true Try.f9.params.toList args.toList ds p) :
    Calls Try.prog 9 args W fun e W' => e = .returned (.bool true) ∧ Below W.heap.size W W' := by
  rw [Try.params9] at hA hval
  obtain ⟨v0, vs0, d0, ds0, p0, q0, hargs, rfl, rfl, h0, r0⟩ := trodAll_cons hA
  obtain ⟨v1, vs1, d1, ds1, p1, q1, rfl, rfl, rfl, h1, r1⟩ := trodAll_cons r0
  obtain ⟨rfl, rfl, rfl⟩ := trodAll_nil r1
  obtain rfl : args = #[v0, v1] := by cases args; simp_all
  obtain ⟨ep0, A0, c0, l0, rfl, w0, x0, y0, z0, g0⟩ := open_chain (hval 0 39 v0 rfl rfl) h0
  obtain ⟨A1, n1, c1, rfl⟩ := okWide_slice Try.underlying54 (hval 1 54 v1 rfl rfl)
  obtain ⟨fuel1, hf1⟩ := h1
  obtain ⟨B1, e1, l1, hcs1, x1, y1, z1⟩ := trod_bytes_sl Try.underlying54 Try.underlying5 cells_byte hf1
  simp only [Value.cells, List.cons.injEq, Value.slice.injEq, and_true] at hcs1
  obtain ⟨rfl, rfl, rfl⟩ := hcs1
  exact walk_itemChains ep0 A0 c0 l0 A1 c1 l1 W x0 (Nat.le_trans x0 y0) z0 (Nat.le_trans x1 y1) z1

end Go.Proofs.Ytdbnaflaobncgaa
