/-
  The walk of the law ChainAsks.
-/
import Derived.Test.YtdjkopdgapifpaaFollows
namespace Go.Proofs.Ytdjkopdgapifpaa
set_option linter.unusedVariables false
set_option linter.unusedSimpArgs false
open Go.RowKit Go.ChangeShapes Go.WideShapes

theorem same_self (ep : Int) (A B : Option Addr) (c1 c2 : Nat) (l : List Int) (w : World) (h1 : l.length ≤ 9223372036854775807) (hs : Sl i64 w A l) (hs2 : Sl i64 w B l) :
    Calls Try.prog 33 #[.agg #[.int .i64 ep, .slice A l.length c1], .agg #[.int .i64 ep, .slice B l.length c2]] w fun e w' => e = .returned (.bool true) ∧ Ext w w' :=
  (sameRef_any ep ep A B c1 c2 l l w h1 h1 hs hs2).mono fun e w' ⟨he, h⟩ => ⟨by rw [he]; simp, h⟩
theorem beside_in {l : List Int} {x : Int} {j : Nat} (y : Int) (h : idx x l 0 = j) (k : Nat) (hk : (j : Int) + y = k) (hl : k < l.length) : besideI l x y = l[k] := by
  unfold besideI
  rw [h, if_neg (by omega), hk]
  simp [List.getD, List.getElem?_eq_getElem hl]
theorem beside_out {l : List Int} {x : Int} (y : Int) (h : idx x l 0 < 0 ∨ idx x l 0 + y < 0 ∨ (l.length : Int) ≤ idx x l 0 + y) : besideI l x y = -1 := by
  unfold besideI; rw [if_pos h]

set_option maxRecDepth 8000 in
set_option maxHeartbeats 64000000 in
theorem walk_chainAsks (ea : Int) (A : Option Addr) (c1 : Nat) (la : List Int) (eb : Int) (B : Option Addr) (c2 : Nat) (lb : List Int) (n node : Int) (w : World) (l1 : la.length ≤ 9223372036854775807) (l2 : lb.length ≤ 9223372036854775807) (hc1 : la.length ≤ c1) (hc2 : lb.length ≤ c2) (hs : Sl i64 w A la) (hs2 : Sl i64 w B lb) :
    Calls Try.prog 11 #[chV ea A la.length c1, chV eb B lb.length c2, .int .i64 n, .int .i64 node] w fun e w' => e = .returned (.bool true) ∧ Below w.heap.size w w' := by
  refine hide_post fun D hD => ?_
  obtain ⟨w0, hw0⟩ : ∃ w0, w0 = (w.alloc (.cells #[.int .i64 ea, .slice A la.length c1] 50)).alloc (.cells #[.int .i64 eb, .slice B lb.length c2] 50) := ⟨_, rfl⟩
  have hb0 : Ext w w0 := by rw [hw0]; exact Ext.trans (ext_al _ _) (ext_al _ _)
  have KA : Blk w0 w.heap.size 50 #[.int .i64 ea, .slice A la.length c1] := by rw [hw0]; exact (Blk.new w _ _).alloc _
  have KB : Blk w0 (w.heap.size + 1) 50 #[.int .i64 eb, .slice B lb.length c2] := by rw [hw0]; exact Blk.new' _ _ _ _ (by simp)
  have sa : ∀ V, Ext w0 V → Sl i64 V A la := fun V h => hs.stay (Ext.trans hb0 h)
  have sb : ∀ V, Ext w0 V → Sl i64 V B lb := fun V h => hs2.stay (Ext.trans hb0 h)
  have HTO : Hid (∀ V, Ext w0 V → Calls Try.prog 45 #[] V fun e w' => e = .returned (.bool true) ∧ Ext V w') := fun V h => told12 V
  have HFA0 : Hid (∀ b, decide (la.length ≤ 10) = b → ∀ V, Ext w0 V → Calls Try.prog 46 #[.agg #[.int .i64 ea, .slice A la.length c1]] V fun e w' => e = .returned (.bool b) ∧ Ext V w') := fun b hb V h => by rw [← hb]; exact few_any ea A la.length c1 V (by omega)
  have HFB0 : Hid (∀ b, decide (lb.length ≤ 10) = b → ∀ V, Ext w0 V → Calls Try.prog 46 #[.agg #[.int .i64 eb, .slice B lb.length c2]] V fun e w' => e = .returned (.bool b) ∧ Ext V w') := fun b hb V h => by rw [← hb]; exact few_any eb B lb.length c2 V (by omega)
  have HMA0 : Hid (∀ b, mayChainB ea la = b → ∀ V, Ext w0 V → Calls Try.prog 44 #[.agg #[.int .i64 ea, .slice A la.length c1]] V fun e w' => e = .returned (.bool b) ∧ Ext V w') := fun b hb V h => by rw [← hb]; exact refMayChain_any ea A c1 la V (by omega) (sa V h)
  obtain ⟨bn, hbn⟩ : ∃ bn, bn = nextB ea eb la lb n := ⟨_, rfl⟩
  have HNX : Hid (∀ V, Ext w0 V → Calls Try.prog 43 #[.agg #[.int .i64 ea, .slice A la.length c1], .agg #[.int .i64 eb, .slice B lb.length c2], .int .i64 n] V fun e w' => e = .returned (.bool bn) ∧ Ext V w') := fun V h => by rw [hbn]; exact chNext_any ea eb n A B c1 c2 la lb V l1 l2 hc1 hc2 (sa V h) (sb V h)
  have HFO : Hid (∀ V, Ext w0 V → Calls Try.prog 48 #[.agg #[.int .i64 ea, .slice A la.length c1], .agg #[.int .i64 eb, .slice B lb.length c2], .int .i64 n] V fun e w' => e = .returned (.bool bn) ∧ Ext V w') := fun V h => by rw [hbn]; exact follows_any ea eb n A B c1 c2 la lb V l1 l2 (sa V h) (sb V h)
  obtain ⟨bs, hbs⟩ : ∃ bs, bs = decide (ea = eb ∧ la = lb) := ⟨_, rfl⟩
  have HSA : Hid (∀ V, Ext w0 V → Calls Try.prog 49 #[.agg #[.int .i64 ea, .slice A la.length c1], .agg #[.int .i64 eb, .slice B lb.length c2]] V fun e w' => e = .returned (.bool bs) ∧ Ext V w') := fun V h => by rw [hbs]; exact same_ch ea eb A B c1 c2 la lb V l1 l2 (sa V h) (sb V h)
  have HSR : Hid (∀ V, Ext w0 V → Calls Try.prog 33 #[.agg #[.int .i64 ea, .slice A la.length c1], .agg #[.int .i64 eb, .slice B lb.length c2]] V fun e w' => e = .returned (.bool bs) ∧ Ext V w') := fun V h => by rw [hbs]; exact sameRef_any ea eb A B c1 c2 la lb V l1 l2 (sa V h) (sb V h)
  have HPL : Hid (∀ V, Ext w0 V → Calls Try.prog 50 #[.agg #[.int .i64 ea, .slice A la.length c1], .int .i64 node] V fun e w' => e = .returned (.int .i64 (idx node la 0)) ∧ Ext V w') := fun V h => place_any ea node A c1 la V l1 (sa V h)
  clear hbn hbs
  have HSA' := Lib.hid sa
  have fa0 : ∀ V, Ext w0 V → V.cell? ⟨w.heap.size, 0, none⟩ = some (.int .i64 ea) := fun V h => (KA.stay h).cell 0
  have fa1 : ∀ V, Ext w0 V → V.cell? ⟨w.heap.size, 1, none⟩ = some (.slice A la.length c1) := fun V h => (KA.stay h).cell 1
  have fb0 : ∀ V, Ext w0 V → V.cell? ⟨w.heap.size + 1, 0, none⟩ = some (.int .i64 eb) := fun V h => (KB.stay h).cell 0
  have fb1 : ∀ V, Ext w0 V → V.cell? ⟨w.heap.size + 1, 1, none⟩ = some (.slice B lb.length c2) := fun V h => (KB.stay h).cell 1
  have KA9 := Lib.hid KA
  have HB0 := Lib.hid hb0
  have HW0 := Lib.hid hw0
  clear hb0 hw0 hs hs2 sa sb KA KB
  cases g0 : decide (la.length ≤ 10)
  · have HFA := Lib.hid (HFA0.out false g0)
    clear g0
    go_enter Try.func11, Try.ntmps11
    go_wp2_with (first
      | (go_at_call 46; rw [← HW0.out]; (with_reducible refine (HFA.out _ (Ext.refl _)).mono ?_); rintro e w1 ⟨rfl, hx⟩; have h1 : Ext w0 w1 := hx; clear hx)
      | (go_at_call 45; (with_reducible refine (HTO.out _ h1).mono ?_); rintro e w9 ⟨rfl, hx⟩; have h9 : Ext w0 w9 := Ext.trans h1 hx; clear hx))
    try go_ret
    exact hD.out _ _ ⟨rfl, Ext.trans HB0.out h9⟩
  have HFA := Lib.hid (HFA0.out true g0)
  have G0 := Lib.hid g0
  clear g0
  cases g1 : decide (lb.length ≤ 10)
  · have HFB := Lib.hid (HFB0.out false g1)
    clear g1
    go_enter Try.func11, Try.ntmps11
    go_wp2_with (first
      | (go_at_call 46; rw [← HW0.out]; (with_reducible refine (HFA.out _ (Ext.refl _)).mono ?_); rintro e w1 ⟨rfl, hx⟩; have h1 : Ext w0 w1 := hx; clear hx)
      | (go_at_call 46; (with_reducible refine (HFB.out _ h1).mono ?_); rintro e w2 ⟨rfl, hx⟩; have h2 : Ext w0 w2 := Ext.trans h1 hx; clear hx)
      | (go_at_call 45; (with_reducible refine (HTO.out _ h2).mono ?_); rintro e w9 ⟨rfl, hx⟩; have h9 : Ext w0 w9 := Ext.trans h2 hx; clear hx))
    try go_ret
    exact hD.out _ _ ⟨rfl, Ext.trans HB0.out h9⟩
  have HFB := Lib.hid (HFB0.out true g1)
  have G1 := Lib.hid g1
  clear g1
  have HF0 : Hid (firstL n = firstL n) := rfl
  obtain ⟨re, rl, rc, hrl, HF, HR⟩ : ∃ (re : Int) (rl : List Int) (rc : Int), rl.length ≤ 5 ∧ Hid (∀ V, Calls Try.prog 37 #[.int .i64 n] V fun e w' => ∃ A c, e = .returned (.tuple #[.agg #[.int .i64 re, .slice A rl.length c], .int .i64 rc]) ∧ Sl i64 w' A rl ∧ Ext V w') ∧
      Hid (∀ V, Calls Try.prog 47 #[.int .i64 n] V fun e w' => ∃ A c, e = .returned (.tuple #[.agg #[.int .i64 re, .slice A rl.length c], .int .i64 rc]) ∧ Sl i64 w' A rl ∧ Ext V w') :=
    ⟨(firstL n).1, (firstL n).2.1, (firstL n).2.2, by unfold firstL; split <;> simp [upTo_len]; omega, fun V => (chFirst_any n V).mono fun e w' ⟨A, c, he, hs, hc, hx, _⟩ => ⟨A, c, he, hs, hx⟩, fun V => (refFirst_any n V).mono fun e w' ⟨A, c, he, hs, hc, hx, _⟩ => ⟨A, c, he, hs, hx⟩⟩
  go_enter Try.func11, Try.ntmps11
  go_wp2_with (first
    | (go_at_call 46; rw [← HW0.out]; (with_reducible refine (HFA.out _ (Ext.refl _)).mono ?_); rintro e w1 ⟨rfl, hx⟩; have h1 : Ext w0 w1 := hx; clear hx)
    | (go_at_call 46; (with_reducible refine (HFB.out _ h1).mono ?_); rintro e w2 ⟨rfl, hx⟩; have h2 : Ext w0 w2 := Ext.trans h1 hx; clear hx)
    | (go_at_call 37; (with_reducible refine (HF.out _).mono ?_); rintro e w3 ⟨A3, c3, rfl, hs3, hx⟩; have h3 : Ext w0 w3 := Ext.trans h2 hx; have S3 := Lib.hid hs3; clear hx hs3)
    | (go_at_call 47; (with_reducible refine (HR.out _).mono ?_); rintro e w4 ⟨A4, c4, rfl, hs4, hx⟩; have X4 := Lib.hid hx; have S4 := Lib.hid hs4; clear hx hs4))
  obtain ⟨V, hV⟩ : ∃ V, V = w4.alloc (.cells #[.int .i64 re, .slice A4 rl.length c4] 50) := ⟨_, rfl⟩
  rw [← hV]
  have x3V : Ext w3 V := by rw [hV]; exact Ext.trans (Ext.trans (ext_al _ _) X4.out) (ext_al _ _)
  have x4V : Ext w4 V := by rw [hV]; exact ext_al _ _
  have hx0 : Ext w0 V := Ext.trans h3 x3V
  have k3 : Blk V w3.heap.size 50 #[.int .i64 re, .slice A3 rl.length c3] := by rw [hV]; exact ((Blk.new w3 _ _).stay X4.out).alloc _
  have k4 : Blk V w4.heap.size 50 #[.int .i64 re, .slice A4 rl.length c4] := by rw [hV]; exact Blk.new w4 _ _
  have HSC : Hid (∀ W, Ext V W → Calls Try.prog 33 #[.agg #[.int .i64 re, .slice A3 rl.length c3], .agg #[.int .i64 re, .slice A4 rl.length c4]] W fun e w' => e = .returned (.bool true) ∧ Ext W w') := fun W h => same_self re A3 A4 c3 c4 rl W (by omega) (S3.out.stay (Ext.trans x3V h)) (S4.out.stay (Ext.trans x4V h))
  have HN1 : Hid (∀ W, Ext V W → Calls Try.prog 43 #[.agg #[.int .i64 ea, .slice A la.length c1], .agg #[.int .i64 eb, .slice B lb.length c2], .int .i64 n] W fun e w' => e = .returned (.bool bn) ∧ Ext W w') := fun W h => HNX.out W (Ext.trans hx0 h)
  have HO1 : Hid (∀ W, Ext V W → Calls Try.prog 48 #[.agg #[.int .i64 ea, .slice A la.length c1], .agg #[.int .i64 eb, .slice B lb.length c2], .int .i64 n] W fun e w' => e = .returned (.bool bn) ∧ Ext W w') := fun W h => HFO.out W (Ext.trans hx0 h)
  have HA1 : Hid (∀ W, Ext V W → Calls Try.prog 49 #[.agg #[.int .i64 ea, .slice A la.length c1], .agg #[.int .i64 eb, .slice B lb.length c2]] W fun e w' => e = .returned (.bool bs) ∧ Ext W w') := fun W h => HSA.out W (Ext.trans hx0 h)
  have HR1 : Hid (∀ W, Ext V W → Calls Try.prog 33 #[.agg #[.int .i64 ea, .slice A la.length c1], .agg #[.int .i64 eb, .slice B lb.length c2]] W fun e w' => e = .returned (.bool bs) ∧ Ext W w') := fun W h => HSR.out W (Ext.trans hx0 h)
  have ra0 : ∀ W, Ext V W → W.cell? ⟨w.heap.size, 0, none⟩ = some (.int .i64 ea) := fun W h => fa0 W (Ext.trans hx0 h)
  have ra1 : ∀ W, Ext V W → W.cell? ⟨w.heap.size, 1, none⟩ = some (.slice A la.length c1) := fun W h => fa1 W (Ext.trans hx0 h)
  have rb0 : ∀ W, Ext V W → W.cell? ⟨w.heap.size + 1, 0, none⟩ = some (.int .i64 eb) := fun W h => fb0 W (Ext.trans hx0 h)
  have rb1 : ∀ W, Ext V W → W.cell? ⟨w.heap.size + 1, 1, none⟩ = some (.slice B lb.length c2) := fun W h => fb1 W (Ext.trans hx0 h)
  have rc0 : ∀ W, Ext V W → W.cell? ⟨w3.heap.size, 0, none⟩ = some (.int .i64 re) := fun W h => (k3.stay h).cell 0
  have rc1 : ∀ W, Ext V W → W.cell? ⟨w3.heap.size, 1, none⟩ = some (.slice A3 rl.length c3) := fun W h => (k3.stay h).cell 1
  have rd0 : ∀ W, Ext V W → W.cell? ⟨w4.heap.size, 0, none⟩ = some (.int .i64 re) := fun W h => (k4.stay h).cell 0
  have rd1 : ∀ W, Ext V W → W.cell? ⟨w4.heap.size, 1, none⟩ = some (.slice A4 rl.length c4) := fun W h => (k4.stay h).cell 1
  have E0 : Hid (Ext V V) := Ext.refl _
  have HX0 := Lib.hid hx0
  clear hV x3V x4V hx0 k3 k4 fa0 fa1 fb0 fb1 h1 h2 h3 HF HR
  refine ext_begin (by kernel_rfl) ?_
  have E0d := Lib.hid (Ext.drewR E0.out)
  refine ext_take (i := 0) (v := ?_) rfl (by kernel_rfl) (by kernel_rfl) (by kernel_rfl) (fun _ _ _ h => h) (by rfl) ?_ ?_
  rotate_left
  · intro W hW; have hW0 := Ext.trans E0d.out hW; clear hW; go_simp <;> with_reducible rfl
  try simp only [Act.put, List.setIfInBounds_toArray, List.set_cons_zero, List.set_cons_succ]
  refine ext_take (i := 1) (v := ?_) rfl (by kernel_rfl) (by kernel_rfl) (by kernel_rfl) (fun _ _ _ h => h) (by rfl) ?_ ?_
  rotate_left
  · intro W hW; have hW0 := Ext.trans E0d.out hW; clear hW; go_simp <;> with_reducible rfl
  try simp only [Act.put, List.setIfInBounds_toArray, List.set_cons_zero, List.set_cons_succ]
  refine ext_take (i := 2) (v := .bool false) rfl (by kernel_rfl) (by kernel_rfl) (by kernel_rfl) (fun _ _ _ h => h) (by rfl) ?_ ?_
  · intro W hW; have hW0 := Ext.trans E0d.out hW; clear hW; go_simp; all_goals (first | (simp; done) | omega)
  try simp only [Act.put, List.setIfInBounds_toArray, List.set_cons_zero, List.set_cons_succ]
  refine ext_take (i := 3) (v := ?_) rfl (by kernel_rfl) (by kernel_rfl) (by kernel_rfl) (fun _ _ _ h => h) (by rfl) ?_ ?_
  rotate_left
  · intro W hW; have hW0 := Ext.trans E0d.out hW; clear hW; go_simp <;> with_reducible rfl
  try simp only [Act.put, List.setIfInBounds_toArray, List.set_cons_zero, List.set_cons_succ]
  refine ext_take (i := 4) (v := ?_) rfl (by kernel_rfl) (by kernel_rfl) (by kernel_rfl) (fun _ _ _ h => h) (by rfl) ?_ ?_
  rotate_left
  · intro W hW; have hW0 := Ext.trans E0d.out hW; clear hW; go_simp <;> with_reducible rfl
  try simp only [Act.put, List.setIfInBounds_toArray, List.set_cons_zero, List.set_cons_succ]
  refine ext_take (i := 5) (v := ?_) rfl (by kernel_rfl) (by kernel_rfl) (by kernel_rfl) (fun _ _ _ h => h) (by rfl) ?_ ?_
  rotate_left
  · intro W hW; have hW0 := Ext.trans E0d.out hW; clear hW; go_simp <;> with_reducible rfl
  try simp only [Act.put, List.setIfInBounds_toArray, List.set_cons_zero, List.set_cons_succ]
  refine ext_call (i := 6) rfl (by kernel_rfl) (by rfl) (fun K' hK => ?_)
  go_simp
  (go_at_call 33; (with_reducible refine (HSC.out _ E0d.out).mono ?_); rintro e w5 ⟨rfl, hx⟩; refine hK _ _ hx ?_; clear hK)
  have Ew5 := Lib.hid (Ext.trans E0d.out hx)
  clear hx
  try simp only [Act.put, List.setIfInBounds_toArray, List.set_cons_zero, List.set_cons_succ]
  refine ext_take (i := 7) (v := ?_) rfl (by kernel_rfl) (by kernel_rfl) (by kernel_rfl) (fun _ _ _ h => h) (by rfl) ?_ ?_
  rotate_left
  · intro W hW; have hW0 := Ext.trans Ew5.out hW; clear hW; go_simp <;> with_reducible rfl
  try simp only [Act.put, List.setIfInBounds_toArray, List.set_cons_zero, List.set_cons_succ]
  refine ext_take (i := 8) (v := ?_) rfl (by kernel_rfl) (by kernel_rfl) (by kernel_rfl) (fun _ _ _ h => h) (by rfl) ?_ ?_
  rotate_left
  · intro W hW; have hW0 := Ext.trans Ew5.out hW; clear hW; go_simp <;> with_reducible rfl
  try simp only [Act.put, List.setIfInBounds_toArray, List.set_cons_zero, List.set_cons_succ]
  refine ext_take (i := 9) (v := ?_) rfl (by kernel_rfl) (by kernel_rfl) (by kernel_rfl) (fun _ _ _ h => h) (by rfl) ?_ ?_
  rotate_left
  · intro W hW; have hW0 := Ext.trans Ew5.out hW; clear hW; go_simp <;> with_reducible rfl
  try simp only [Act.put, List.setIfInBounds_toArray, List.set_cons_zero, List.set_cons_succ]
  refine ext_take (i := 10) (v := ?_) rfl (by kernel_rfl) (by kernel_rfl) (by kernel_rfl) (fun _ _ _ h => h) (by rfl) ?_ ?_
  rotate_left
  · intro W hW; have hW0 := Ext.trans Ew5.out hW; clear hW; go_simp <;> with_reducible rfl
  try simp only [Act.put, List.setIfInBounds_toArray, List.set_cons_zero, List.set_cons_succ]
  refine ext_take (i := 11) (v := ?_) rfl (by kernel_rfl) (by kernel_rfl) (by kernel_rfl) (fun _ _ _ h => h) (by rfl) ?_ ?_
  rotate_left
  · intro W hW; have hW0 := Ext.trans Ew5.out hW; clear hW; go_simp <;> with_reducible rfl
  try simp only [Act.put, List.setIfInBounds_toArray, List.set_cons_zero, List.set_cons_succ]
  refine ext_take (i := 12) (v := ?_) rfl (by kernel_rfl) (by kernel_rfl) (by kernel_rfl) (fun _ _ _ h => h) (by rfl) ?_ ?_
  rotate_left
  · intro W hW; have hW0 := Ext.trans Ew5.out hW; clear hW; go_simp <;> with_reducible rfl
  try simp only [Act.put, List.setIfInBounds_toArray, List.set_cons_zero, List.set_cons_succ]
  refine ext_take (i := 14) (v := ?_) rfl (by kernel_rfl) (by kernel_rfl) (by kernel_rfl) (fun _ _ _ h => h) (by rfl) ?_ ?_
  rotate_left
  · intro W hW; have hW0 := Ext.trans Ew5.out hW; clear hW; go_simp <;> with_reducible rfl
  try simp only [Act.put, List.setIfInBounds_toArray, List.set_cons_zero, List.set_cons_succ]
  refine ext_take (i := 15) (v := ?_) rfl (by kernel_rfl) (by kernel_rfl) (by kernel_rfl) (fun _ _ _ h => h) (by rfl) ?_ ?_
  rotate_left
  · intro W hW; have hW0 := Ext.trans Ew5.out hW; clear hW; go_simp <;> with_reducible rfl
  try simp only [Act.put, List.setIfInBounds_toArray, List.set_cons_zero, List.set_cons_succ]
  refine ext_take (i := 16) (v := ?_) rfl (by kernel_rfl) (by kernel_rfl) (by kernel_rfl) (fun _ _ _ h => h) (by rfl) ?_ ?_
  rotate_left
  · intro W hW; have hW0 := Ext.trans Ew5.out hW; clear hW; go_simp <;> with_reducible rfl
  try simp only [Act.put, List.setIfInBounds_toArray, List.set_cons_zero, List.set_cons_succ]
  refine ext_call (i := 13) rfl (by kernel_rfl) (by rfl) (fun K' hK => ?_)
  go_simp
  (go_at_call 43; (with_reducible refine (HN1.out _ Ew5.out).mono ?_); rintro e w6 ⟨rfl, hx⟩; refine hK _ _ hx ?_; clear hK)
  have Ew6 := Lib.hid (Ext.trans Ew5.out hx)
  clear hx
  try simp only [Act.put, List.setIfInBounds_toArray, List.set_cons_zero, List.set_cons_succ]
  refine ext_call (i := 17) rfl (by kernel_rfl) (by rfl) (fun K' hK => ?_)
  go_simp
  (go_at_call 48; (with_reducible refine (HO1.out _ Ew6.out).mono ?_); rintro e w7 ⟨rfl, hx⟩; refine hK _ _ hx ?_; clear hK)
  have Ew7 := Lib.hid (Ext.trans Ew6.out hx)
  clear hx
  try simp only [Act.put, List.setIfInBounds_toArray, List.set_cons_zero, List.set_cons_succ]
  refine ext_take (i := 18) (v := .bool false) rfl (by kernel_rfl) (by kernel_rfl) (by kernel_rfl) (fun _ _ _ h => h) (by rfl) ?_ ?_
  · intro W hW; have hW0 := Ext.trans Ew7.out hW; clear hW; go_simp; all_goals (first | (simp; done) | omega)
  try simp only [Act.put, List.setIfInBounds_toArray, List.set_cons_zero, List.set_cons_succ]
  refine ext_take (i := 19) (v := ?_) rfl (by kernel_rfl) (by kernel_rfl) (by kernel_rfl) (fun _ _ _ h => h) (by rfl) ?_ ?_
  rotate_left
  · intro W hW; have hW0 := Ext.trans Ew7.out hW; clear hW; go_simp <;> with_reducible rfl
  try simp only [Act.put, List.setIfInBounds_toArray, List.set_cons_zero, List.set_cons_succ]
  refine ext_take (i := 20) (v := ?_) rfl (by kernel_rfl) (by kernel_rfl) (by kernel_rfl) (fun _ _ _ h => h) (by rfl) ?_ ?_
  rotate_left
  · intro W hW; have hW0 := Ext.trans Ew7.out hW; clear hW; go_simp <;> with_reducible rfl
  try simp only [Act.put, List.setIfInBounds_toArray, List.set_cons_zero, List.set_cons_succ]
  refine ext_take (i := 21) (v := ?_) rfl (by kernel_rfl) (by kernel_rfl) (by kernel_rfl) (fun _ _ _ h => h) (by rfl) ?_ ?_
  rotate_left
  · intro W hW; have hW0 := Ext.trans Ew7.out hW; clear hW; go_simp <;> with_reducible rfl
  try simp only [Act.put, List.setIfInBounds_toArray, List.set_cons_zero, List.set_cons_succ]
  refine ext_take (i := 22) (v := ?_) rfl (by kernel_rfl) (by kernel_rfl) (by kernel_rfl) (fun _ _ _ h => h) (by rfl) ?_ ?_
  rotate_left
  · intro W hW; have hW0 := Ext.trans Ew7.out hW; clear hW; go_simp <;> with_reducible rfl
  try simp only [Act.put, List.setIfInBounds_toArray, List.set_cons_zero, List.set_cons_succ]
  refine ext_take (i := 24) (v := ?_) rfl (by kernel_rfl) (by kernel_rfl) (by kernel_rfl) (fun _ _ _ h => h) (by rfl) ?_ ?_
  rotate_left
  · intro W hW; have hW0 := Ext.trans Ew7.out hW; clear hW; go_simp <;> with_reducible rfl
  try simp only [Act.put, List.setIfInBounds_toArray, List.set_cons_zero, List.set_cons_succ]
  refine ext_take (i := 25) (v := ?_) rfl (by kernel_rfl) (by kernel_rfl) (by kernel_rfl) (fun _ _ _ h => h) (by rfl) ?_ ?_
  rotate_left
  · intro W hW; have hW0 := Ext.trans Ew7.out hW; clear hW; go_simp <;> with_reducible rfl
  try simp only [Act.put, List.setIfInBounds_toArray, List.set_cons_zero, List.set_cons_succ]
  refine ext_call (i := 23) rfl (by kernel_rfl) (by rfl) (fun K' hK => ?_)
  go_simp
  (go_at_call 49; (with_reducible refine (HA1.out _ Ew7.out).mono ?_); rintro e w8 ⟨rfl, hx⟩; refine hK _ _ hx ?_; clear hK)
  have Ew8 := Lib.hid (Ext.trans Ew7.out hx)
  clear hx
  try simp only [Act.put, List.setIfInBounds_toArray, List.set_cons_zero, List.set_cons_succ]
  refine ext_call (i := 26) rfl (by kernel_rfl) (by rfl) (fun K' hK => ?_)
  go_simp
  (go_at_call 33; (with_reducible refine (HR1.out _ Ew8.out).mono ?_); rintro e w10 ⟨rfl, hx⟩; refine hK _ _ hx ?_; clear hK)
  have Ew10 := Lib.hid (Ext.trans Ew8.out hx)
  clear hx
  try simp only [Act.put, List.setIfInBounds_toArray, List.set_cons_zero, List.set_cons_succ]
  refine ext_take (i := 27) (v := .bool false) rfl (by kernel_rfl) (by kernel_rfl) (by kernel_rfl) (fun _ _ _ h => h) (by rfl) ?_ ?_
  · intro W hW; have hW0 := Ext.trans Ew10.out hW; clear hW; go_simp; all_goals (first | (simp; done) | omega)
  try simp only [Act.put, List.setIfInBounds_toArray, List.set_cons_zero, List.set_cons_succ]
  refine ext_take (i := 28) (v := ?_) rfl (by kernel_rfl) (by kernel_rfl) (by kernel_rfl) (fun _ _ _ h => h) (by rfl) ?_ ?_
  rotate_left
  · intro W hW; have hW0 := Ext.trans Ew10.out hW; clear hW; go_simp <;> with_reducible rfl
  try simp only [Act.put, List.setIfInBounds_toArray, List.set_cons_zero, List.set_cons_succ]
  refine wpAnyH_done (by kernel_rfl) ?_ _
  have EV := Lib.hid Ew10.out
  have e10 : Ext w0 w10 := Ext.trans HX0.out Ew10.out
  have s0 := ra0 w10 Ew10.out
  have s1 := ra1 w10 Ew10.out
  clear Ew5 Ew6 Ew7 Ew8 rb0 rb1 rc0 rc1 rd0 rd1
  clear s0 s1 ra0 ra1
  have fa0 : ∀ W, Ext w10 W → W.cell? ⟨w.heap.size, 0, none⟩ = some (.int .i64 ea) := fun W h => (KA9.out.stay (Ext.trans e10 h)).cell 0
  have fa1 : ∀ W, Ext w10 W → W.cell? ⟨w.heap.size, 1, none⟩ = some (.slice A la.length c1) := fun W h => (KA9.out.stay (Ext.trans e10 h)).cell 1
  have s0 := fa0 w10 (Ext.refl _)
  have s1 := fa1 w10 (Ext.refl _)
  have HE10 := Lib.hid e10
  have HTO1 : Hid (∀ W, Ext w10 W → Calls Try.prog 45 #[] W fun e w' => e = .returned (.bool true) ∧ Ext W w') := fun W h => HTO.out W (Ext.trans e10 h)
  cases g2 : mayChainB ea la
  · have HMA := Lib.hid (HMA0.out false g2 w10 e10)
    clear g2 e10
    go_wp2_with (first
      | (go_at_call 44; (with_reducible refine HMA.out.mono ?_); rintro e w11 ⟨rfl, hx⟩; have h11 : Ext w10 w11 := hx; clear hx)
      | (go_at_call 45; (with_reducible refine (HTO1.out _ h11).mono ?_); rintro e w12 ⟨rfl, hx⟩; have h12 : Ext w10 w12 := Ext.trans h11 hx; clear hx))
    try go_ret
    exact hD.out _ _ ⟨rfl, Ext.trans HB0.out (Ext.trans HE10.out h12)⟩
  have HMA := Lib.hid (HMA0.out true g2 w10 e10)
  obtain ⟨_, ⟨n0, n1⟩, nd, ns⟩ := mayChain_all g2
  have HSL : Hid (∀ W, Ext w10 W → Sl i64 W A la) := fun W h => HSA'.out W (Ext.trans e10 h)
  have HPL1 : Hid (∀ W, Ext w10 W → Calls Try.prog 50 #[.agg #[.int .i64 ea, .slice A la.length c1], .int .i64 node] W fun e w' => e = .returned (.int .i64 (idx node la 0)) ∧ Ext W w') := fun W h => HPL.out W (Ext.trans e10 h)
  have HHA : Hid (∀ W, Ext w10 W → Calls Try.prog 39 #[.agg #[.int .i64 ea, .slice A la.length c1], .int .i64 node] W fun e w' => e = .returned (.bool (decide (node ∈ la))) ∧ Ext W w') := fun W h => has_any ea A c1 la node W l1 (HSL.out W h)
  have HAB : Hid (∀ W, Ext w10 W → Calls Try.prog 38 #[.agg #[.int .i64 ea, .slice A la.length c1], .int .i64 node] W fun e w' => e = .returned (.int .i64 (besideI la node (-1))) ∧ Ext W w') := fun W h => above_any ea node A c1 la W (by omega) (HSL.out W h)
  have HBE : Hid (∀ W, Ext w10 W → Calls Try.prog 52 #[.agg #[.int .i64 ea, .slice A la.length c1], .int .i64 node] W fun e w' => e = .returned (.int .i64 (besideI la node 1)) ∧ Ext W w') := fun W h => below_any ea node A c1 la W (by omega) (HSL.out W h)
  have HH0 : Hid (∀ W, Ext w10 W → Calls Try.prog 51 #[.agg #[.int .i64 0, .slice none 0 0]] W fun e w' => e = .returned (.int .i64 (-1)) ∧ Ext W w') := fun W h => head_any 0 none 0 [] W (by simp) (Sl.nil _ _ _)
  have HT0 : Hid (∀ W, Ext w10 W → Calls Try.prog 42 #[.agg #[.int .i64 0, .slice none 0 0]] W fun e w' => e = .returned (.int .i64 (-1)) ∧ Ext W w') := fun W h => tail_any 0 none 0 [] W (by simp) (Sl.nil _ _ _)
  obtain ⟨m, hm⟩ : ∃ m, m + 1 = la.length := ⟨la.length - 1, by omega⟩
  obtain ⟨b, o, rfl, hc0⟩ := (HSL.out w10 (Ext.refl _)).at_ (k := 0) (by omega)
  have hcell : ∀ (k : Nat) (hk : k < la.length) W, Ext w10 W → W.cell? ⟨b, o + k, none⟩ = some (.int .i64 la[k]) := fun k hk W h => by
    obtain ⟨b', o', e, hc⟩ := (HSL.out W h).at_ hk
    injection e with e
    injection e with q1 q2
    subst q1 q2
    exact hc
  have hhd : headI la = la[0]'(by omega) := by
    cases la with
    | nil => simp at n0
    | cons x r => rfl
  have htl : tailI la = la[m]'(by omega) := by
    unfold tailI
    rw [List.getLastD_eq_getLast?, List.getLast?_eq_getElem?, show la.length - 1 = m by omega, List.getElem?_eq_getElem (by omega)]
    rfl
  have HHD : Hid (∀ W, Ext w10 W → Calls Try.prog 51 #[.agg #[.int .i64 ea, .slice (some ⟨b, o, none⟩) la.length c1]] W fun e w' => e = .returned (.int .i64 (la[0]'(by omega))) ∧ Ext W w') := fun W h => by rw [← hhd]; exact head_any ea _ c1 la W l1 (HSL.out W h)
  have HTL : Hid (∀ W, Ext w10 W → Calls Try.prog 42 #[.agg #[.int .i64 ea, .slice (some ⟨b, o, none⟩) la.length c1]] W fun e w' => e = .returned (.int .i64 (la[m]'(by omega))) ∧ Ext W w') := fun W h => by rw [← htl]; exact tail_any ea _ c1 la W l1 (HSL.out W h)
  have f0 : ∀ W, Ext w10 W → W.cell? ⟨b, o, none⟩ = some (.int .i64 (la[0]'(by omega))) := fun W h => hcell 0 (by omega) W h
  have fm : ∀ W, Ext w10 W → W.cell? ⟨b, o + m, none⟩ = some (.int .i64 (la[m]'(by omega))) := fun W h => hcell m (by omega) W h
  have HCELL := Lib.hid hcell
  have HND := Lib.hid nd
  obtain ⟨x0, hx0⟩ : ∃ x0, x0 = la[0]'(by omega) := ⟨_, rfl⟩
  obtain ⟨xm, hxm⟩ : ∃ xm, xm = la[m]'(by omega) := ⟨_, rfl⟩
  rw [← hx0] at HHD f0
  rw [← hxm] at HTL fm
  clear hx0 hxm hcell hhd htl hc0 nd ns g2 e10 HMA0 HPL HSA'
  have fz := f0 w10 (Ext.refl _)
  have hmm : (m : Int) = (la.length : Int) - 1 := by omega
  have hNm : (la.length : Int) - 1 = (m : Int) := by omega
  have hwr : IntKind.i64.wrap ((la.length : Int) - 1) = (m : Int) := by rw [IntWalk.i64_in _ (by omega)]; exact hNm
  have p1 : (0 : Int) < (la.length : Int) := by omega
  have p2 : 0 < la.length := by omega
  have p3 : m < la.length := by omega
  have p4 : (0 : Int) ≤ (m : Int) := by omega
  have p5 : (m : Int) < (la.length : Int) := by omega
  have HWR := Lib.hid hwr
  have HWR2 : Hid (IntKind.i64.wrap (m : Int) = (m : Int)) := IntWalk.i64_in _ (by omega)
  have HNM := Lib.hid hNm
  clear hwr hmm
  by_cases hin : node ∈ la
  case neg =>
    have hi := idx_no hin
    have HPL2 : Hid (∀ W, Ext w10 W → Calls Try.prog 50 #[.agg #[.int .i64 ea, .slice (some ⟨b, o, none⟩) la.length c1], .int .i64 node] W fun e w' => e = .returned (.int .i64 (-1)) ∧ Ext W w') := fun W h => by have := HPL1.out W h; rwa [hi] at this
    have HHA1 : Hid (∀ W, Ext w10 W → Calls Try.prog 39 #[.agg #[.int .i64 ea, .slice (some ⟨b, o, none⟩) la.length c1], .int .i64 node] W fun e w' => e = .returned (.bool false) ∧ Ext W w') := fun W h => by have := HHA.out W h; rwa [decide_eq_false hin] at this
    have HAB1 : Hid (∀ W, Ext w10 W → Calls Try.prog 38 #[.agg #[.int .i64 ea, .slice (some ⟨b, o, none⟩) la.length c1], .int .i64 node] W fun e w' => e = .returned (.int .i64 (-1)) ∧ Ext W w') := fun W h => by have := HAB.out W h; rwa [beside_out (-1) (by omega)] at this
    have HBE1 : Hid (∀ W, Ext w10 W → Calls Try.prog 52 #[.agg #[.int .i64 ea, .slice (some ⟨b, o, none⟩) la.length c1], .int .i64 node] W fun e w' => e = .returned (.int .i64 (-1)) ∧ Ext W w') := fun W h => by have := HBE.out W h; rwa [beside_out 1 (by omega)] at this
    clear hi hin HPL1 HHA HAB HBE
    go_wp2_with (first
      | (go_at_call 44; (with_reducible refine HMA.out.mono ?_); rintro e w11 ⟨rfl, hx⟩; have h11 : Ext w10 w11 := hx; have s0 := fa0 _ h11; have s1 := fa1 _ h11; clear hx)
      | (go_at_call 50; (with_reducible refine (HPL2.out _ h11).mono ?_); rintro e w20 ⟨rfl, hx⟩; have h20 : Ext w10 w20 := Ext.trans h11 hx; have s0 := fa0 _ h20; have s1 := fa1 _ h20; clear hx))
    have HX20 := Lib.hid h20
    have E20 : Hid (Ext w20 w20) := Ext.refl _
    have ga0 : ∀ W, Ext w20 W → W.cell? ⟨w.heap.size, 0, none⟩ = some (.int .i64 ea) := fun W h => fa0 W (Ext.trans HX20.out h)
    have ga1 : ∀ W, Ext w20 W → W.cell? ⟨w.heap.size, 1, none⟩ = some (.slice (some ⟨b, o, none⟩) la.length c1) := fun W h => fa1 W (Ext.trans HX20.out h)
    have g0 : ∀ W, Ext w20 W → W.cell? ⟨b, o, none⟩ = some (.int .i64 x0) := fun W h => f0 W (Ext.trans HX20.out h)
    have gm : ∀ W, Ext w20 W → W.cell? ⟨b, o + m, none⟩ = some (.int .i64 xm) := fun W h => fm W (Ext.trans HX20.out h)
    have hwr := HWR.out
    have hwr2 := HWR2.out
    clear fa0 fa1 f0 fm fz h11 h20 s0 s1
    refine ext_begin (by kernel_rfl) ?_
    have E20d := Lib.hid (Ext.drewR E20.out)
    refine ext_call (i := 0) rfl (by kernel_rfl) (by rfl) (fun K' hK => ?_)
    go_simp
    (go_at_call 45; (with_reducible refine (HTO1.out _ (Ext.trans HX20.out E20d.out)).mono ?_); rintro e w21 ⟨rfl, hx⟩; refine hK _ _ hx ?_; clear hK)
    have Ew21 := Lib.hid (Ext.trans E20d.out hx)
    clear hx
    try simp only [Act.put, List.setIfInBounds_toArray, List.set_cons_zero, List.set_cons_succ]
    refine ext_take (i := 1) (v := ?_) rfl (by kernel_rfl) (by kernel_rfl) (by kernel_rfl) (fun _ _ _ h => h) (by rfl) ?_ ?_
    rotate_left
    · intro W hW; have hW0 := Ext.trans Ew21.out hW; clear hW; go_simp <;> with_reducible rfl
    try simp only [Act.put, List.setIfInBounds_toArray, List.set_cons_zero, List.set_cons_succ]
    refine ext_take (i := 2) (v := ?_) rfl (by kernel_rfl) (by kernel_rfl) (by kernel_rfl) (fun _ _ _ h => h) (by rfl) ?_ ?_
    rotate_left
    · intro W hW; have hW0 := Ext.trans Ew21.out hW; clear hW; go_simp <;> with_reducible rfl
    try simp only [Act.put, List.setIfInBounds_toArray, List.set_cons_zero, List.set_cons_succ]
    refine ext_take (i := 3) (v := ?_) rfl (by kernel_rfl) (by kernel_rfl) (by kernel_rfl) (fun _ _ _ h => h) (by rfl) ?_ ?_
    rotate_left
    · intro W hW; have hW0 := Ext.trans Ew21.out hW; clear hW; go_simp <;> with_reducible rfl
    try simp only [Act.put, List.setIfInBounds_toArray, List.set_cons_zero, List.set_cons_succ]
    refine ext_take (i := 5) (v := ?_) rfl (by kernel_rfl) (by kernel_rfl) (by kernel_rfl) (fun _ _ _ h => h) (by rfl) ?_ ?_
    rotate_left
    · intro W hW; have hW0 := Ext.trans Ew21.out hW; clear hW; go_simp <;> with_reducible rfl
    try simp only [Act.put, List.setIfInBounds_toArray, List.set_cons_zero, List.set_cons_succ]
    refine ext_take (i := 6) (v := .bool false) rfl (by kernel_rfl) (by kernel_rfl) (by kernel_rfl) (fun _ _ _ h => h) (by rfl) ?_ ?_
    · intro W hW; have hW0 := Ext.trans Ew21.out hW; clear hW; go_simp; all_goals (first | (simp; done) | omega)
    try simp only [Act.put, List.setIfInBounds_toArray, List.set_cons_zero, List.set_cons_succ]
    refine ext_call (i := 4) rfl (by kernel_rfl) (by rfl) (fun K' hK => ?_)
    go_simp
    (go_at_call 39; (with_reducible refine (HHA1.out _ (Ext.trans HX20.out Ew21.out)).mono ?_); rintro e w22 ⟨rfl, hx⟩; refine hK _ _ hx ?_; clear hK)
    have Ew22 := Lib.hid (Ext.trans Ew21.out hx)
    clear hx
    try simp only [Act.put, List.setIfInBounds_toArray, List.set_cons_zero, List.set_cons_succ]
    refine ext_take (i := 7) (v := .bool true) rfl (by kernel_rfl) (by kernel_rfl) (by kernel_rfl) (fun _ _ _ h => h) (by rfl) ?_ ?_
    · intro W hW; have hW0 := Ext.trans Ew22.out hW; clear hW; go_simp; all_goals (first | (simp; done) | omega)
    try simp only [Act.put, List.setIfInBounds_toArray, List.set_cons_zero, List.set_cons_succ]
    refine ext_take (i := 8) (v := ?_) rfl (by kernel_rfl) (by kernel_rfl) (by kernel_rfl) (fun _ _ _ h => h) (by rfl) ?_ ?_
    rotate_left
    · intro W hW; have hW0 := Ext.trans Ew22.out hW; clear hW; go_simp <;> with_reducible rfl
    try simp only [Act.put, List.setIfInBounds_toArray, List.set_cons_zero, List.set_cons_succ]
    refine ext_take (i := 9) (v := ?_) rfl (by kernel_rfl) (by kernel_rfl) (by kernel_rfl) (fun _ _ _ h => h) (by rfl) ?_ ?_
    rotate_left
    · intro W hW; have hW0 := Ext.trans Ew22.out hW; clear hW; go_simp <;> with_reducible rfl
    try simp only [Act.put, List.setIfInBounds_toArray, List.set_cons_zero, List.set_cons_succ]
    refine ext_take (i := 10) (v := ?_) rfl (by kernel_rfl) (by kernel_rfl) (by kernel_rfl) (fun _ _ _ h => h) (by rfl) ?_ ?_
    rotate_left
    · intro W hW; have hW0 := Ext.trans Ew22.out hW; clear hW; go_simp <;> with_reducible rfl
    try simp only [Act.put, List.setIfInBounds_toArray, List.set_cons_zero, List.set_cons_succ]
    refine ext_take (i := 12) (v := ?_) rfl (by kernel_rfl) (by kernel_rfl) (by kernel_rfl) (fun _ _ _ h => h) (by rfl) ?_ ?_
    rotate_left
    · intro W hW; have hW0 := Ext.trans Ew22.out hW; clear hW; go_simp <;> with_reducible rfl
    try simp only [Act.put, List.setIfInBounds_toArray, List.set_cons_zero, List.set_cons_succ]
    refine ext_take (i := 13) (v := ?_) rfl (by kernel_rfl) (by kernel_rfl) (by kernel_rfl) (fun _ _ _ h => h) (by rfl) ?_ ?_
    rotate_left
    · intro W hW; have hW0 := Ext.trans Ew22.out hW; clear hW; go_simp <;> with_reducible rfl
    try simp only [Act.put, List.setIfInBounds_toArray, List.set_cons_zero, List.set_cons_succ]
    refine ext_take (i := 14) (v := ?_) rfl (by kernel_rfl) (by kernel_rfl) (by kernel_rfl) (fun _ _ _ h => h) (by rfl) ?_ ?_
    rotate_left
    · intro W hW; have hW0 := Ext.trans Ew22.out hW; clear hW; go_simp <;> with_reducible rfl
    try simp only [Act.put, List.setIfInBounds_toArray, List.set_cons_zero, List.set_cons_succ]
    refine ext_take (i := 15) (v := ?_) rfl (by kernel_rfl) (by kernel_rfl) (by kernel_rfl) (fun _ _ _ h => h) (by rfl) ?_ ?_
    rotate_left
    · intro W hW; have hW0 := Ext.trans Ew22.out hW; clear hW; go_simp <;> with_reducible rfl
    try simp only [Act.put, List.setIfInBounds_toArray, List.set_cons_zero, List.set_cons_succ]
    refine ext_call (i := 11) rfl (by kernel_rfl) (by rfl) (fun K' hK => ?_)
    go_simp
    (go_at_call 51; (with_reducible refine (HHD.out _ (Ext.trans HX20.out Ew22.out)).mono ?_); rintro e w23 ⟨rfl, hx⟩; refine hK _ _ hx ?_; clear hK)
    have Ew23 := Lib.hid (Ext.trans Ew22.out hx)
    clear hx
    try simp only [Act.put, List.setIfInBounds_toArray, List.set_cons_zero, List.set_cons_succ]
    refine ext_take (i := 16) (v := .bool true) rfl (by kernel_rfl) (by kernel_rfl) (by kernel_rfl) (fun _ _ _ h => h) (by rfl) ?_ ?_
    · intro W hW; have hW0 := Ext.trans Ew23.out hW; clear hW; go_simp; all_goals (first | (simp; done) | omega)
    try simp only [Act.put, List.setIfInBounds_toArray, List.set_cons_zero, List.set_cons_succ]
    refine ext_take (i := 17) (v := ?_) rfl (by kernel_rfl) (by kernel_rfl) (by kernel_rfl) (fun _ _ _ h => h) (by rfl) ?_ ?_
    rotate_left
    · intro W hW; have hW0 := Ext.trans Ew23.out hW; clear hW; go_simp <;> with_reducible rfl
    try simp only [Act.put, List.setIfInBounds_toArray, List.set_cons_zero, List.set_cons_succ]
    refine ext_take (i := 18) (v := ?_) rfl (by kernel_rfl) (by kernel_rfl) (by kernel_rfl) (fun _ _ _ h => h) (by rfl) ?_ ?_
    rotate_left
    · intro W hW; have hW0 := Ext.trans Ew23.out hW; clear hW; go_simp <;> with_reducible rfl
    try simp only [Act.put, List.setIfInBounds_toArray, List.set_cons_zero, List.set_cons_succ]
    refine ext_take (i := 19) (v := ?_) rfl (by kernel_rfl) (by kernel_rfl) (by kernel_rfl) (fun _ _ _ h => h) (by rfl) ?_ ?_
    rotate_left
    · intro W hW; have hW0 := Ext.trans Ew23.out hW; clear hW; go_simp <;> with_reducible rfl
    try simp only [Act.put, List.setIfInBounds_toArray, List.set_cons_zero, List.set_cons_succ]
    refine ext_take (i := 21) (v := ?_) rfl (by kernel_rfl) (by kernel_rfl) (by kernel_rfl) (fun _ _ _ h => h) (by rfl) ?_ ?_
    rotate_left
    · intro W hW; have hW0 := Ext.trans Ew23.out hW; clear hW; go_simp <;> with_reducible rfl
    try simp only [Act.put, List.setIfInBounds_toArray, List.set_cons_zero, List.set_cons_succ]
    refine ext_take (i := 22) (v := ?_) rfl (by kernel_rfl) (by kernel_rfl) (by kernel_rfl) (fun _ _ _ h => h) (by rfl) ?_ ?_
    rotate_left
    · intro W hW; have hW0 := Ext.trans Ew23.out hW; clear hW; go_simp <;> with_reducible rfl
    try simp only [Act.put, List.setIfInBounds_toArray, List.set_cons_zero, List.set_cons_succ]
    refine ext_take (i := 23) (v := ?_) rfl (by kernel_rfl) (by kernel_rfl) (by kernel_rfl) (fun _ _ _ h => h) (by rfl) ?_ ?_
    rotate_left
    · intro W hW; have hW0 := Ext.trans Ew23.out hW; clear hW; go_simp <;> with_reducible rfl
    try simp only [Act.put, List.setIfInBounds_toArray, List.set_cons_zero, List.set_cons_succ]
    refine ext_take (i := 24) (v := ?_) rfl (by kernel_rfl) (by kernel_rfl) (by kernel_rfl) (fun _ _ _ h => h) (by rfl) ?_ ?_
    rotate_left
    · intro W hW; have hW0 := Ext.trans Ew23.out hW; clear hW; go_simp <;> with_reducible rfl
    try simp only [Act.put, List.setIfInBounds_toArray, List.set_cons_zero, List.set_cons_succ]
    refine ext_take (i := 25) (v := ?_) rfl (by kernel_rfl) (by kernel_rfl) (by kernel_rfl) (fun _ _ _ h => h) (by rfl) ?_ ?_
    rotate_left
    · intro W hW; have hW0 := Ext.trans Ew23.out hW; clear hW; go_simp <;> with_reducible rfl
    try simp only [Act.put, List.setIfInBounds_toArray, List.set_cons_zero, List.set_cons_succ]
    refine ext_take (i := 26) (v := ?_) rfl (by kernel_rfl) (by kernel_rfl) (by kernel_rfl) (fun _ _ _ h => h) (by rfl) ?_ ?_
    rotate_left
    · intro W hW; have hW0 := Ext.trans Ew23.out hW; clear hW; go_simp <;> with_reducible rfl
    try simp only [Act.put, List.setIfInBounds_toArray, List.set_cons_zero, List.set_cons_succ]
    refine ext_take (i := 27) (v := ?_) rfl (by kernel_rfl) (by kernel_rfl) (by kernel_rfl) (fun _ _ _ h => h) (by rfl) ?_ ?_
    rotate_left
    · intro W hW; have hW0 := Ext.trans Ew23.out hW; clear hW; go_simp <;> with_reducible rfl
    try simp only [Act.put, List.setIfInBounds_toArray, List.set_cons_zero, List.set_cons_succ]
    refine ext_take (i := 28) (v := ?_) rfl (by kernel_rfl) (by kernel_rfl) (by kernel_rfl) (fun _ _ _ h => h) (by rfl) ?_ ?_
    rotate_left
    · intro W hW; have hW0 := Ext.trans Ew23.out hW; clear hW; go_simp <;> with_reducible rfl
    try simp only [Act.put, List.setIfInBounds_toArray, List.set_cons_zero, List.set_cons_succ]
    refine ext_call (i := 20) rfl (by kernel_rfl) (by rfl) (fun K' hK => ?_)
    go_simp
    (go_at_call 42; (with_reducible refine (HTL.out _ (Ext.trans HX20.out Ew23.out)).mono ?_); rintro e w24 ⟨rfl, hx⟩; refine hK _ _ hx ?_; clear hK)
    have Ew24 := Lib.hid (Ext.trans Ew23.out hx)
    clear hx
    try simp only [Act.put, List.setIfInBounds_toArray, List.set_cons_zero, List.set_cons_succ]
    refine ext_take (i := 29) (v := .bool true) rfl (by kernel_rfl) (by kernel_rfl) (by kernel_rfl) (fun _ _ _ h => h) (by rfl) ?_ ?_
    · intro W hW; have hW0 := Ext.trans Ew24.out hW; clear hW; go_simp; all_goals (first | (simp; done) | omega)
    try simp only [Act.put, List.setIfInBounds_toArray, List.set_cons_zero, List.set_cons_succ]
    refine ext_take (i := 30) (v := ?_) rfl (by kernel_rfl) (by kernel_rfl) (by kernel_rfl) (fun _ _ _ h => h) (by rfl) ?_ ?_
    rotate_left
    · intro W hW; have hW0 := Ext.trans Ew24.out hW; clear hW; go_simp <;> with_reducible rfl
    try simp only [Act.put, List.setIfInBounds_toArray, List.set_cons_zero, List.set_cons_succ]
    refine ext_take (i := 31) (v := ?_) rfl (by kernel_rfl) (by kernel_rfl) (by kernel_rfl) (fun _ _ _ h => h) (by rfl) ?_ ?_
    rotate_left
    · intro W hW; have hW0 := Ext.trans Ew24.out hW; clear hW; go_simp <;> with_reducible rfl
    try simp only [Act.put, List.setIfInBounds_toArray, List.set_cons_zero, List.set_cons_succ]
    refine ext_take (i := 32) (v := ?_) rfl (by kernel_rfl) (by kernel_rfl) (by kernel_rfl) (fun _ _ _ h => h) (by rfl) ?_ ?_
    rotate_left
    · intro W hW; have hW0 := Ext.trans Ew24.out hW; clear hW; go_simp <;> with_reducible rfl
    try simp only [Act.put, List.setIfInBounds_toArray, List.set_cons_zero, List.set_cons_succ]
    refine ext_take (i := 33) (v := ?_) rfl (by kernel_rfl) (by kernel_rfl) (by kernel_rfl) (fun _ _ _ h => h) (by rfl) ?_ ?_
    rotate_left
    · intro W hW; have hW0 := Ext.trans Ew24.out hW; clear hW; go_simp <;> with_reducible rfl
    try simp only [Act.put, List.setIfInBounds_toArray, List.set_cons_zero, List.set_cons_succ]
    refine ext_take (i := 35) (v := ?_) rfl (by kernel_rfl) (by kernel_rfl) (by kernel_rfl) (fun _ _ _ h => h) (by rfl) ?_ ?_
    rotate_left
    · intro W hW; have hW0 := Ext.trans Ew24.out hW; clear hW; go_simp <;> with_reducible rfl
    try simp only [Act.put, List.setIfInBounds_toArray, List.set_cons_zero, List.set_cons_succ]
    refine ext_call (i := 34) rfl (by kernel_rfl) (by rfl) (fun K' hK => ?_)
    go_simp
    (go_at_call 38; (with_reducible refine (HAB1.out _ (Ext.trans HX20.out Ew24.out)).mono ?_); rintro e w25 ⟨rfl, hx⟩; refine hK _ _ hx ?_; clear hK)
    have Ew25 := Lib.hid (Ext.trans Ew24.out hx)
    clear hx
    try simp only [Act.put, List.setIfInBounds_toArray, List.set_cons_zero, List.set_cons_succ]
    refine ext_take (i := 36) (v := .bool true) rfl (by kernel_rfl) (by kernel_rfl) (by kernel_rfl) (fun _ _ _ h => h) (by rfl) ?_ ?_
    · intro W hW; have hW0 := Ext.trans Ew25.out hW; clear hW; go_simp; all_goals (first | (simp; done) | omega)
    try simp only [Act.put, List.setIfInBounds_toArray, List.set_cons_zero, List.set_cons_succ]
    refine ext_take (i := 37) (v := ?_) rfl (by kernel_rfl) (by kernel_rfl) (by kernel_rfl) (fun _ _ _ h => h) (by rfl) ?_ ?_
    rotate_left
    · intro W hW; have hW0 := Ext.trans Ew25.out hW; clear hW; go_simp <;> with_reducible rfl
    try simp only [Act.put, List.setIfInBounds_toArray, List.set_cons_zero, List.set_cons_succ]
    refine ext_take (i := 38) (v := ?_) rfl (by kernel_rfl) (by kernel_rfl) (by kernel_rfl) (fun _ _ _ h => h) (by rfl) ?_ ?_
    rotate_left
    · intro W hW; have hW0 := Ext.trans Ew25.out hW; clear hW; go_simp <;> with_reducible rfl
    try simp only [Act.put, List.setIfInBounds_toArray, List.set_cons_zero, List.set_cons_succ]
    refine ext_take (i := 39) (v := ?_) rfl (by kernel_rfl) (by kernel_rfl) (by kernel_rfl) (fun _ _ _ h => h) (by rfl) ?_ ?_
    rotate_left
    · intro W hW; have hW0 := Ext.trans Ew25.out hW; clear hW; go_simp <;> with_reducible rfl
    try simp only [Act.put, List.setIfInBounds_toArray, List.set_cons_zero, List.set_cons_succ]
    refine ext_take (i := 40) (v := ?_) rfl (by kernel_rfl) (by kernel_rfl) (by kernel_rfl) (fun _ _ _ h => h) (by rfl) ?_ ?_
    rotate_left
    · intro W hW; have hW0 := Ext.trans Ew25.out hW; clear hW; go_simp <;> with_reducible rfl
    try simp only [Act.put, List.setIfInBounds_toArray, List.set_cons_zero, List.set_cons_succ]
    refine ext_take (i := 42) (v := ?_) rfl (by kernel_rfl) (by kernel_rfl) (by kernel_rfl) (fun _ _ _ h => h) (by rfl) ?_ ?_
    rotate_left
    · intro W hW; have hW0 := Ext.trans Ew25.out hW; clear hW; go_simp <;> with_reducible rfl
    try simp only [Act.put, List.setIfInBounds_toArray, List.set_cons_zero, List.set_cons_succ]
    refine ext_call (i := 41) rfl (by kernel_rfl) (by rfl) (fun K' hK => ?_)
    go_simp
    (go_at_call 52; (with_reducible refine (HBE1.out _ (Ext.trans HX20.out Ew25.out)).mono ?_); rintro e w26 ⟨rfl, hx⟩; refine hK _ _ hx ?_; clear hK)
    have Ew26 := Lib.hid (Ext.trans Ew25.out hx)
    clear hx
    try simp only [Act.put, List.setIfInBounds_toArray, List.set_cons_zero, List.set_cons_succ]
    refine ext_take (i := 43) (v := .bool true) rfl (by kernel_rfl) (by kernel_rfl) (by kernel_rfl) (fun _ _ _ h => h) (by rfl) ?_ ?_
    · intro W hW; have hW0 := Ext.trans Ew26.out hW; clear hW; go_simp; all_goals (first | (simp; done) | omega)
    try simp only [Act.put, List.setIfInBounds_toArray, List.set_cons_zero, List.set_cons_succ]
    refine ext_take (i := 44) (v := ?_) rfl (by kernel_rfl) (by kernel_rfl) (by kernel_rfl) (fun _ _ _ h => h) (by rfl) ?_ ?_
    rotate_left
    · intro W hW; have hW0 := Ext.trans Ew26.out hW; clear hW; go_simp <;> with_reducible rfl
    try simp only [Act.put, List.setIfInBounds_toArray, List.set_cons_zero, List.set_cons_succ]
    refine ext_take (i := 45) (v := ?_) rfl (by kernel_rfl) (by kernel_rfl) (by kernel_rfl) (fun _ _ _ h => h) (by rfl) ?_ ?_
    rotate_left
    · intro W hW; have hW0 := Ext.trans Ew26.out hW; clear hW; go_simp <;> with_reducible rfl
    try simp only [Act.put, List.setIfInBounds_toArray, List.set_cons_zero, List.set_cons_succ]
    refine ext_take (i := 46) (v := ?_) rfl (by kernel_rfl) (by kernel_rfl) (by kernel_rfl) (fun _ _ _ h => h) (by rfl) ?_ ?_
    rotate_left
    · intro W hW; have hW0 := Ext.trans Ew26.out hW; clear hW; go_simp <;> with_reducible rfl
    try simp only [Act.put, List.setIfInBounds_toArray, List.set_cons_zero, List.set_cons_succ]
    refine ext_call (i := 47) rfl (by kernel_rfl) (by rfl) (fun K' hK => ?_)
    go_simp
    (go_at_call 51; (with_reducible refine (HH0.out _ (Ext.trans HX20.out Ew26.out)).mono ?_); rintro e w27 ⟨rfl, hx⟩; refine hK _ _ hx ?_; clear hK)
    have Ew27 := Lib.hid (Ext.trans Ew26.out hx)
    clear hx
    try simp only [Act.put, List.setIfInBounds_toArray, List.set_cons_zero, List.set_cons_succ]
    refine ext_take (i := 48) (v := ?_) rfl (by kernel_rfl) (by kernel_rfl) (by kernel_rfl) (fun _ _ _ h => h) (by rfl) ?_ ?_
    rotate_left
    · intro W hW; have hW0 := Ext.trans Ew27.out hW; clear hW; go_simp <;> with_reducible rfl
    try simp only [Act.put, List.setIfInBounds_toArray, List.set_cons_zero, List.set_cons_succ]
    refine ext_take (i := 49) (v := ?_) rfl (by kernel_rfl) (by kernel_rfl) (by kernel_rfl) (fun _ _ _ h => h) (by rfl) ?_ ?_
    rotate_left
    · intro W hW; have hW0 := Ext.trans Ew27.out hW; clear hW; go_simp <;> with_reducible rfl
    try simp only [Act.put, List.setIfInBounds_toArray, List.set_cons_zero, List.set_cons_succ]
    refine ext_take (i := 50) (v := ?_) rfl (by kernel_rfl) (by kernel_rfl) (by kernel_rfl) (fun _ _ _ h => h) (by rfl) ?_ ?_
    rotate_left
    · intro W hW; have hW0 := Ext.trans Ew27.out hW; clear hW; go_simp <;> with_reducible rfl
    try simp only [Act.put, List.setIfInBounds_toArray, List.set_cons_zero, List.set_cons_succ]
    refine ext_take (i := 51) (v := ?_) rfl (by kernel_rfl) (by kernel_rfl) (by kernel_rfl) (fun _ _ _ h => h) (by rfl) ?_ ?_
    rotate_left
    · intro W hW; have hW0 := Ext.trans Ew27.out hW; clear hW; go_simp <;> with_reducible rfl
    try simp only [Act.put, List.setIfInBounds_toArray, List.set_cons_zero, List.set_cons_succ]
    refine ext_call (i := 52) rfl (by kernel_rfl) (by rfl) (fun K' hK => ?_)
    go_simp
    (go_at_call 42; (with_reducible refine (HT0.out _ (Ext.trans HX20.out Ew27.out)).mono ?_); rintro e w28 ⟨rfl, hx⟩; refine hK _ _ hx ?_; clear hK)
    have Ew28 := Lib.hid (Ext.trans Ew27.out hx)
    clear hx
    try simp only [Act.put, List.setIfInBounds_toArray, List.set_cons_zero, List.set_cons_succ]
    refine ext_take (i := 53) (v := ?_) rfl (by kernel_rfl) (by kernel_rfl) (by kernel_rfl) (fun _ _ _ h => h) (by rfl) ?_ ?_
    rotate_left
    · intro W hW; have hW0 := Ext.trans Ew28.out hW; clear hW; go_simp <;> with_reducible rfl
    try simp only [Act.put, List.setIfInBounds_toArray, List.set_cons_zero, List.set_cons_succ]
    refine ext_take (i := 54) (v := ?_) rfl (by kernel_rfl) (by kernel_rfl) (by kernel_rfl) (fun _ _ _ h => h) (by rfl) ?_ ?_
    rotate_left
    · intro W hW; have hW0 := Ext.trans Ew28.out hW; clear hW; go_simp <;> with_reducible rfl
    try simp only [Act.put, List.setIfInBounds_toArray, List.set_cons_zero, List.set_cons_succ]
    refine ext_take (i := 55) (v := ?_) rfl (by kernel_rfl) (by kernel_rfl) (by kernel_rfl) (fun _ _ _ h => h) (by rfl) ?_ ?_
    rotate_left
    · intro W hW; have hW0 := Ext.trans Ew28.out hW; clear hW; go_simp <;> with_reducible rfl
    try simp only [Act.put, List.setIfInBounds_toArray, List.set_cons_zero, List.set_cons_succ]
    refine wpAnyH_done (by kernel_rfl) ?_ _
    go_wp2
    try go_ret
    exact hD.out _ _ ⟨rfl, Ext.trans HB0.out (Ext.trans HE10.out (Ext.trans HX20.out Ew28.out))⟩
  obtain ⟨j, hj, hi, hje⟩ := idx_some HND.out hin
  have HPL2 : Hid (∀ W, Ext w10 W → Calls Try.prog 50 #[.agg #[.int .i64 ea, .slice (some ⟨b, o, none⟩) la.length c1], .int .i64 node] W fun e w' => e = .returned (.int .i64 j) ∧ Ext W w') := fun W h => by have := HPL1.out W h; rwa [hi] at this
  have HHA1 : Hid (∀ W, Ext w10 W → Calls Try.prog 39 #[.agg #[.int .i64 ea, .slice (some ⟨b, o, none⟩) la.length c1], .int .i64 node] W fun e w' => e = .returned (.bool true) ∧ Ext W w') := fun W h => by have := HHA.out W h; rwa [decide_eq_true hin] at this
  clear HPL1 HHA hin hje
  by_cases hz : j = 0
  case pos =>
    by_cases hy : j = m
    case pos =>
      have HAB1 : Hid (∀ W, Ext w10 W → Calls Try.prog 38 #[.agg #[.int .i64 ea, .slice (some ⟨b, o, none⟩) la.length c1], .int .i64 node] W fun e w' => e = .returned (.int .i64 (-1)) ∧ Ext W w') := fun W h => by have := HAB.out W h; rwa [beside_out (-1) (by omega)] at this
      have u1 : ¬ (0 : Int) < (j : Int) := by omega
      have HBE1 : Hid (∀ W, Ext w10 W → Calls Try.prog 52 #[.agg #[.int .i64 ea, .slice (some ⟨b, o, none⟩) la.length c1], .int .i64 node] W fun e w' => e = .returned (.int .i64 (-1)) ∧ Ext W w') := fun W h => by have := HBE.out W h; rwa [beside_out 1 (by omega)] at this
      have v1 : ¬ (j : Int) < (m : Int) := by omega
      have w0_ : (0 : Int) ≤ (j : Int) := by omega
      have hnm := HNM.out
      clear hi hz hy HAB HBE  
      go_wp2_with (first
        | (go_at_call 44; (with_reducible refine HMA.out.mono ?_); rintro e w11 ⟨rfl, hx⟩; have h11 : Ext w10 w11 := hx; have s0 := fa0 _ h11; have s1 := fa1 _ h11; clear hx)
        | (go_at_call 50; (with_reducible refine (HPL2.out _ h11).mono ?_); rintro e w20 ⟨rfl, hx⟩; have h20 : Ext w10 w20 := Ext.trans h11 hx; have s0 := fa0 _ h20; have s1 := fa1 _ h20; clear hx))
      have HX20 := Lib.hid h20
      have E20 : Hid (Ext w20 w20) := Ext.refl _
      have ga0 : ∀ W, Ext w20 W → W.cell? ⟨w.heap.size, 0, none⟩ = some (.int .i64 ea) := fun W h => fa0 W (Ext.trans HX20.out h)
      have ga1 : ∀ W, Ext w20 W → W.cell? ⟨w.heap.size, 1, none⟩ = some (.slice (some ⟨b, o, none⟩) la.length c1) := fun W h => fa1 W (Ext.trans HX20.out h)
      have g0 : ∀ W, Ext w20 W → W.cell? ⟨b, o, none⟩ = some (.int .i64 x0) := fun W h => f0 W (Ext.trans HX20.out h)
      have gm : ∀ W, Ext w20 W → W.cell? ⟨b, o + m, none⟩ = some (.int .i64 xm) := fun W h => fm W (Ext.trans HX20.out h)
      have hwr := HWR.out
      have hwr2 := HWR2.out
      clear fa0 fa1 f0 fm fz h11 h20 s0 s1
      refine ext_begin (by kernel_rfl) ?_
      have E20d := Lib.hid (Ext.drewR E20.out)
      refine ext_call (i := 0) rfl (by kernel_rfl) (by rfl) (fun K' hK => ?_)
      go_simp
      (go_at_call 45; (with_reducible refine (HTO1.out _ (Ext.trans HX20.out E20d.out)).mono ?_); rintro e w21 ⟨rfl, hx⟩; refine hK _ _ hx ?_; clear hK)
      have Ew21 := Lib.hid (Ext.trans E20d.out hx)
      clear hx
      try simp only [Act.put, List.setIfInBounds_toArray, List.set_cons_zero, List.set_cons_succ]
      refine ext_take (i := 1) (v := ?_) rfl (by kernel_rfl) (by kernel_rfl) (by kernel_rfl) (fun _ _ _ h => h) (by rfl) ?_ ?_
      rotate_left
      · intro W hW; have hW0 := Ext.trans Ew21.out hW; clear hW; go_simp <;> with_reducible rfl
      try simp only [Act.put, List.setIfInBounds_toArray, List.set_cons_zero, List.set_cons_succ]
      refine ext_take (i := 2) (v := ?_) rfl (by kernel_rfl) (by kernel_rfl) (by kernel_rfl) (fun _ _ _ h => h) (by rfl) ?_ ?_
      rotate_left
      · intro W hW; have hW0 := Ext.trans Ew21.out hW; clear hW; go_simp <;> with_reducible rfl
      try simp only [Act.put, List.setIfInBounds_toArray, List.set_cons_zero, List.set_cons_succ]
      refine ext_take (i := 3) (v := ?_) rfl (by kernel_rfl) (by kernel_rfl) (by kernel_rfl) (fun _ _ _ h => h) (by rfl) ?_ ?_
      rotate_left
      · intro W hW; have hW0 := Ext.trans Ew21.out hW; clear hW; go_simp <;> with_reducible rfl
      try simp only [Act.put, List.setIfInBounds_toArray, List.set_cons_zero, List.set_cons_succ]
      refine ext_take (i := 5) (v := ?_) rfl (by kernel_rfl) (by kernel_rfl) (by kernel_rfl) (fun _ _ _ h => h) (by rfl) ?_ ?_
      rotate_left
      · intro W hW; have hW0 := Ext.trans Ew21.out hW; clear hW; go_simp <;> with_reducible rfl
      try simp only [Act.put, List.setIfInBounds_toArray, List.set_cons_zero, List.set_cons_succ]
      refine ext_take (i := 6) (v := .bool true) rfl (by kernel_rfl) (by kernel_rfl) (by kernel_rfl) (fun _ _ _ h => h) (by rfl) ?_ ?_
      · intro W hW; have hW0 := Ext.trans Ew21.out hW; clear hW; go_simp; all_goals (first | (simp; done) | omega)
      try simp only [Act.put, List.setIfInBounds_toArray, List.set_cons_zero, List.set_cons_succ]
      refine ext_call (i := 4) rfl (by kernel_rfl) (by rfl) (fun K' hK => ?_)
      go_simp
      (go_at_call 39; (with_reducible refine (HHA1.out _ (Ext.trans HX20.out Ew21.out)).mono ?_); rintro e w22 ⟨rfl, hx⟩; refine hK _ _ hx ?_; clear hK)
      have Ew22 := Lib.hid (Ext.trans Ew21.out hx)
      clear hx
      try simp only [Act.put, List.setIfInBounds_toArray, List.set_cons_zero, List.set_cons_succ]
      refine ext_take (i := 7) (v := .bool true) rfl (by kernel_rfl) (by kernel_rfl) (by kernel_rfl) (fun _ _ _ h => h) (by rfl) ?_ ?_
      · intro W hW; have hW0 := Ext.trans Ew22.out hW; clear hW; go_simp; all_goals (first | (simp; done) | omega)
      try simp only [Act.put, List.setIfInBounds_toArray, List.set_cons_zero, List.set_cons_succ]
      refine ext_take (i := 8) (v := ?_) rfl (by kernel_rfl) (by kernel_rfl) (by kernel_rfl) (fun _ _ _ h => h) (by rfl) ?_ ?_
      rotate_left
      · intro W hW; have hW0 := Ext.trans Ew22.out hW; clear hW; go_simp <;> with_reducible rfl
      try simp only [Act.put, List.setIfInBounds_toArray, List.set_cons_zero, List.set_cons_succ]
      refine ext_take (i := 9) (v := ?_) rfl (by kernel_rfl) (by kernel_rfl) (by kernel_rfl) (fun _ _ _ h => h) (by rfl) ?_ ?_
      rotate_left
      · intro W hW; have hW0 := Ext.trans Ew22.out hW; clear hW; go_simp <;> with_reducible rfl
      try simp only [Act.put, List.setIfInBounds_toArray, List.set_cons_zero, List.set_cons_succ]
      refine ext_take (i := 10) (v := ?_) rfl (by kernel_rfl) (by kernel_rfl) (by kernel_rfl) (fun _ _ _ h => h) (by rfl) ?_ ?_
      rotate_left
      · intro W hW; have hW0 := Ext.trans Ew22.out hW; clear hW; go_simp <;> with_reducible rfl
      try simp only [Act.put, List.setIfInBounds_toArray, List.set_cons_zero, List.set_cons_succ]
      refine ext_take (i := 12) (v := ?_) rfl (by kernel_rfl) (by kernel_rfl) (by kernel_rfl) (fun _ _ _ h => h) (by rfl) ?_ ?_
      rotate_left
      · intro W hW; have hW0 := Ext.trans Ew22.out hW; clear hW; go_simp <;> with_reducible rfl
      try simp only [Act.put, List.setIfInBounds_toArray, List.set_cons_zero, List.set_cons_succ]
      refine ext_take (i := 13) (v := ?_) rfl (by kernel_rfl) (by kernel_rfl) (by kernel_rfl) (fun _ _ _ h => h) (by rfl) ?_ ?_
      rotate_left
      · intro W hW; have hW0 := Ext.trans Ew22.out hW; clear hW; go_simp <;> with_reducible rfl
      try simp only [Act.put, List.setIfInBounds_toArray, List.set_cons_zero, List.set_cons_succ]
      refine ext_take (i := 14) (v := ?_) rfl (by kernel_rfl) (by kernel_rfl) (by kernel_rfl) (fun _ _ _ h => h) (by rfl) ?_ ?_
      rotate_left
      · intro W hW; have hW0 := Ext.trans Ew22.out hW; clear hW; go_simp <;> with_reducible rfl
      try simp only [Act.put, List.setIfInBounds_toArray, List.set_cons_zero, List.set_cons_succ]
      refine ext_take (i := 15) (v := ?_) rfl (by kernel_rfl) (by kernel_rfl) (by kernel_rfl) (fun _ _ _ h => h) (by rfl) ?_ ?_
      rotate_left
      · intro W hW; have hW0 := Ext.trans Ew22.out hW; clear hW; go_simp <;> with_reducible rfl
      try simp only [Act.put, List.setIfInBounds_toArray, List.set_cons_zero, List.set_cons_succ]
      refine ext_call (i := 11) rfl (by kernel_rfl) (by rfl) (fun K' hK => ?_)
      go_simp
      (go_at_call 51; (with_reducible refine (HHD.out _ (Ext.trans HX20.out Ew22.out)).mono ?_); rintro e w23 ⟨rfl, hx⟩; refine hK _ _ hx ?_; clear hK)
      have Ew23 := Lib.hid (Ext.trans Ew22.out hx)
      clear hx
      try simp only [Act.put, List.setIfInBounds_toArray, List.set_cons_zero, List.set_cons_succ]
      refine ext_take (i := 16) (v := .bool true) rfl (by kernel_rfl) (by kernel_rfl) (by kernel_rfl) (fun _ _ _ h => h) (by rfl) ?_ ?_
      · intro W hW; have hW0 := Ext.trans Ew23.out hW; clear hW; go_simp; all_goals (first | (simp; done) | omega)
      try simp only [Act.put, List.setIfInBounds_toArray, List.set_cons_zero, List.set_cons_succ]
      refine ext_take (i := 17) (v := ?_) rfl (by kernel_rfl) (by kernel_rfl) (by kernel_rfl) (fun _ _ _ h => h) (by rfl) ?_ ?_
      rotate_left
      · intro W hW; have hW0 := Ext.trans Ew23.out hW; clear hW; go_simp <;> with_reducible rfl
      try simp only [Act.put, List.setIfInBounds_toArray, List.set_cons_zero, List.set_cons_succ]
      refine ext_take (i := 18) (v := ?_) rfl (by kernel_rfl) (by kernel_rfl) (by kernel_rfl) (fun _ _ _ h => h) (by rfl) ?_ ?_
      rotate_left
      · intro W hW; have hW0 := Ext.trans Ew23.out hW; clear hW; go_simp <;> with_reducible rfl
      try simp only [Act.put, List.setIfInBounds_toArray, List.set_cons_zero, List.set_cons_succ]
      refine ext_take (i := 19) (v := ?_) rfl (by kernel_rfl) (by kernel_rfl) (by kernel_rfl) (fun _ _ _ h => h) (by rfl) ?_ ?_
      rotate_left
      · intro W hW; have hW0 := Ext.trans Ew23.out hW; clear hW; go_simp <;> with_reducible rfl
      try simp only [Act.put, List.setIfInBounds_toArray, List.set_cons_zero, List.set_cons_succ]
      refine ext_take (i := 21) (v := ?_) rfl (by kernel_rfl) (by kernel_rfl) (by kernel_rfl) (fun _ _ _ h => h) (by rfl) ?_ ?_
      rotate_left
      · intro W hW; have hW0 := Ext.trans Ew23.out hW; clear hW; go_simp <;> with_reducible rfl
      try simp only [Act.put, List.setIfInBounds_toArray, List.set_cons_zero, List.set_cons_succ]
      refine ext_take (i := 22) (v := ?_) rfl (by kernel_rfl) (by kernel_rfl) (by kernel_rfl) (fun _ _ _ h => h) (by rfl) ?_ ?_
      rotate_left
      · intro W hW; have hW0 := Ext.trans Ew23.out hW; clear hW; go_simp <;> with_reducible rfl
      try simp only [Act.put, List.setIfInBounds_toArray, List.set_cons_zero, List.set_cons_succ]
      refine ext_take (i := 23) (v := ?_) rfl (by kernel_rfl) (by kernel_rfl) (by kernel_rfl) (fun _ _ _ h => h) (by rfl) ?_ ?_
      rotate_left
      · intro W hW; have hW0 := Ext.trans Ew23.out hW; clear hW; go_simp <;> with_reducible rfl
      try simp only [Act.put, List.setIfInBounds_toArray, List.set_cons_zero, List.set_cons_succ]
      refine ext_take (i := 24) (v := ?_) rfl (by kernel_rfl) (by kernel_rfl) (by kernel_rfl) (fun _ _ _ h => h) (by rfl) ?_ ?_
      rotate_left
      · intro W hW; have hW0 := Ext.trans Ew23.out hW; clear hW; go_simp <;> with_reducible rfl
      try simp only [Act.put, List.setIfInBounds_toArray, List.set_cons_zero, List.set_cons_succ]
      refine ext_take (i := 25) (v := ?_) rfl (by kernel_rfl) (by kernel_rfl) (by kernel_rfl) (fun _ _ _ h => h) (by rfl) ?_ ?_
      rotate_left
      · intro W hW; have hW0 := Ext.trans Ew23.out hW; clear hW; go_simp <;> with_reducible rfl
      try simp only [Act.put, List.setIfInBounds_toArray, List.set_cons_zero, List.set_cons_succ]
      refine ext_take (i := 26) (v := ?_) rfl (by kernel_rfl) (by kernel_rfl) (by kernel_rfl) (fun _ _ _ h => h) (by rfl) ?_ ?_
      rotate_left
      · intro W hW; have hW0 := Ext.trans Ew23.out hW; clear hW; go_simp <;> with_reducible rfl
      try simp only [Act.put, List.setIfInBounds_toArray, List.set_cons_zero, List.set_cons_succ]
      refine ext_take (i := 27) (v := ?_) rfl (by kernel_rfl) (by kernel_rfl) (by kernel_rfl) (fun _ _ _ h => h) (by rfl) ?_ ?_
      rotate_left
      · intro W hW; have hW0 := Ext.trans Ew23.out hW; clear hW; go_simp <;> with_reducible rfl
      try simp only [Act.put, List.setIfInBounds_toArray, List.set_cons_zero, List.set_cons_succ]
      refine ext_take (i := 28) (v := ?_) rfl (by kernel_rfl) (by kernel_rfl) (by kernel_rfl) (fun _ _ _ h => h) (by rfl) ?_ ?_
      rotate_left
      · intro W hW; have hW0 := Ext.trans Ew23.out hW; clear hW; go_simp <;> with_reducible rfl
      try simp only [Act.put, List.setIfInBounds_toArray, List.set_cons_zero, List.set_cons_succ]
      refine ext_call (i := 20) rfl (by kernel_rfl) (by rfl) (fun K' hK => ?_)
      go_simp
      (go_at_call 42; (with_reducible refine (HTL.out _ (Ext.trans HX20.out Ew23.out)).mono ?_); rintro e w24 ⟨rfl, hx⟩; refine hK _ _ hx ?_; clear hK)
      have Ew24 := Lib.hid (Ext.trans Ew23.out hx)
      clear hx
      try simp only [Act.put, List.setIfInBounds_toArray, List.set_cons_zero, List.set_cons_succ]
      refine ext_take (i := 29) (v := .bool true) rfl (by kernel_rfl) (by kernel_rfl) (by kernel_rfl) (fun _ _ _ h => h) (by rfl) ?_ ?_
      · intro W hW; have hW0 := Ext.trans Ew24.out hW; clear hW; go_simp; all_goals (first | (simp; done) | omega)
      try simp only [Act.put, List.setIfInBounds_toArray, List.set_cons_zero, List.set_cons_succ]
      refine ext_take (i := 30) (v := ?_) rfl (by kernel_rfl) (by kernel_rfl) (by kernel_rfl) (fun _ _ _ h => h) (by rfl) ?_ ?_
      rotate_left
      · intro W hW; have hW0 := Ext.trans Ew24.out hW; clear hW; go_simp <;> with_reducible rfl
      try simp only [Act.put, List.setIfInBounds_toArray, List.set_cons_zero, List.set_cons_succ]
      refine ext_take (i := 31) (v := ?_) rfl (by kernel_rfl) (by kernel_rfl) (by kernel_rfl) (fun _ _ _ h => h) (by rfl) ?_ ?_
      rotate_left
      · intro W hW; have hW0 := Ext.trans Ew24.out hW; clear hW; go_simp <;> with_reducible rfl
      try simp only [Act.put, List.setIfInBounds_toArray, List.set_cons_zero, List.set_cons_succ]
      refine ext_take (i := 32) (v := ?_) rfl (by kernel_rfl) (by kernel_rfl) (by kernel_rfl) (fun _ _ _ h => h) (by rfl) ?_ ?_
      rotate_left
      · intro W hW; have hW0 := Ext.trans Ew24.out hW; clear hW; go_simp <;> with_reducible rfl
      try simp only [Act.put, List.setIfInBounds_toArray, List.set_cons_zero, List.set_cons_succ]
      refine ext_take (i := 33) (v := ?_) rfl (by kernel_rfl) (by kernel_rfl) (by kernel_rfl) (fun _ _ _ h => h) (by rfl) ?_ ?_
      rotate_left
      · intro W hW; have hW0 := Ext.trans Ew24.out hW; clear hW; go_simp <;> with_reducible rfl
      try simp only [Act.put, List.setIfInBounds_toArray, List.set_cons_zero, List.set_cons_succ]
      refine ext_take (i := 35) (v := ?_) rfl (by kernel_rfl) (by kernel_rfl) (by kernel_rfl) (fun _ _ _ h => h) (by rfl) ?_ ?_
      rotate_left
      · intro W hW; have hW0 := Ext.trans Ew24.out hW; clear hW; go_simp <;> with_reducible rfl
      try simp only [Act.put, List.setIfInBounds_toArray, List.set_cons_zero, List.set_cons_succ]
      refine ext_call (i := 34) rfl (by kernel_rfl) (by rfl) (fun K' hK => ?_)
      go_simp
      (go_at_call 38; (with_reducible refine (HAB1.out _ (Ext.trans HX20.out Ew24.out)).mono ?_); rintro e w25 ⟨rfl, hx⟩; refine hK _ _ hx ?_; clear hK)
      have Ew25 := Lib.hid (Ext.trans Ew24.out hx)
      clear hx
      try simp only [Act.put, List.setIfInBounds_toArray, List.set_cons_zero, List.set_cons_succ]
      refine ext_take (i := 36) (v := .bool true) rfl (by kernel_rfl) (by kernel_rfl) (by kernel_rfl) (fun _ _ _ h => h) (by rfl) ?_ ?_
      · intro W hW; have hW0 := Ext.trans Ew25.out hW; clear hW; go_simp; all_goals (first | (simp; done) | omega)
      try simp only [Act.put, List.setIfInBounds_toArray, List.set_cons_zero, List.set_cons_succ]
      refine ext_take (i := 37) (v := ?_) rfl (by kernel_rfl) (by kernel_rfl) (by kernel_rfl) (fun _ _ _ h => h) (by rfl) ?_ ?_
      rotate_left
      · intro W hW; have hW0 := Ext.trans Ew25.out hW; clear hW; go_simp <;> with_reducible rfl
      try simp only [Act.put, List.setIfInBounds_toArray, List.set_cons_zero, List.set_cons_succ]
      refine ext_take (i := 38) (v := ?_) rfl (by kernel_rfl) (by kernel_rfl) (by kernel_rfl) (fun _ _ _ h => h) (by rfl) ?_ ?_
      rotate_left
      · intro W hW; have hW0 := Ext.trans Ew25.out hW; clear hW; go_simp <;> with_reducible rfl
      try simp only [Act.put, List.setIfInBounds_toArray, List.set_cons_zero, List.set_cons_succ]
      refine ext_take (i := 39) (v := ?_) rfl (by kernel_rfl) (by kernel_rfl) (by kernel_rfl) (fun _ _ _ h => h) (by rfl) ?_ ?_
      rotate_left
      · intro W hW; have hW0 := Ext.trans Ew25.out hW; clear hW; go_simp <;> with_reducible rfl
      try simp only [Act.put, List.setIfInBounds_toArray, List.set_cons_zero, List.set_cons_succ]
      refine ext_take (i := 40) (v := ?_) rfl (by kernel_rfl) (by kernel_rfl) (by kernel_rfl) (fun _ _ _ h => h) (by rfl) ?_ ?_
      rotate_left
      · intro W hW; have hW0 := Ext.trans Ew25.out hW; clear hW; go_simp <;> with_reducible rfl
      try simp only [Act.put, List.setIfInBounds_toArray, List.set_cons_zero, List.set_cons_succ]
      refine ext_take (i := 42) (v := ?_) rfl (by kernel_rfl) (by kernel_rfl) (by kernel_rfl) (fun _ _ _ h => h) (by rfl) ?_ ?_
      rotate_left
      · intro W hW; have hW0 := Ext.trans Ew25.out hW; clear hW; go_simp <;> with_reducible rfl
      try simp only [Act.put, List.setIfInBounds_toArray, List.set_cons_zero, List.set_cons_succ]
      refine ext_call (i := 41) rfl (by kernel_rfl) (by rfl) (fun K' hK => ?_)
      go_simp
      (go_at_call 52; (with_reducible refine (HBE1.out _ (Ext.trans HX20.out Ew25.out)).mono ?_); rintro e w26 ⟨rfl, hx⟩; refine hK _ _ hx ?_; clear hK)
      have Ew26 := Lib.hid (Ext.trans Ew25.out hx)
      clear hx
      try simp only [Act.put, List.setIfInBounds_toArray, List.set_cons_zero, List.set_cons_succ]
      refine ext_take (i := 43) (v := .bool true) rfl (by kernel_rfl) (by kernel_rfl) (by kernel_rfl) (fun _ _ _ h => h) (by rfl) ?_ ?_
      · intro W hW; have hW0 := Ext.trans Ew26.out hW; clear hW; go_simp; all_goals (first | (simp; done) | omega)
      try simp only [Act.put, List.setIfInBounds_toArray, List.set_cons_zero, List.set_cons_succ]
      refine ext_take (i := 44) (v := ?_) rfl (by kernel_rfl) (by kernel_rfl) (by kernel_rfl) (fun _ _ _ h => h) (by rfl) ?_ ?_
      rotate_left
      · intro W hW; have hW0 := Ext.trans Ew26.out hW; clear hW; go_simp <;> with_reducible rfl
      try simp only [Act.put, List.setIfInBounds_toArray, List.set_cons_zero, List.set_cons_succ]
      refine ext_take (i := 45) (v := ?_) rfl (by kernel_rfl) (by kernel_rfl) (by kernel_rfl) (fun _ _ _ h => h) (by rfl) ?_ ?_
      rotate_left
      · intro W hW; have hW0 := Ext.trans Ew26.out hW; clear hW; go_simp <;> with_reducible rfl
      try simp only [Act.put, List.setIfInBounds_toArray, List.set_cons_zero, List.set_cons_succ]
      refine ext_take (i := 46) (v := ?_) rfl (by kernel_rfl) (by kernel_rfl) (by kernel_rfl) (fun _ _ _ h => h) (by rfl) ?_ ?_
      rotate_left
      · intro W hW; have hW0 := Ext.trans Ew26.out hW; clear hW; go_simp <;> with_reducible rfl
      try simp only [Act.put, List.setIfInBounds_toArray, List.set_cons_zero, List.set_cons_succ]
      refine ext_call (i := 47) rfl (by kernel_rfl) (by rfl) (fun K' hK => ?_)
      go_simp
      (go_at_call 51; (with_reducible refine (HH0.out _ (Ext.trans HX20.out Ew26.out)).mono ?_); rintro e w27 ⟨rfl, hx⟩; refine hK _ _ hx ?_; clear hK)
      have Ew27 := Lib.hid (Ext.trans Ew26.out hx)
      clear hx
      try simp only [Act.put, List.setIfInBounds_toArray, List.set_cons_zero, List.set_cons_succ]
      refine ext_take (i := 48) (v := ?_) rfl (by kernel_rfl) (by kernel_rfl) (by kernel_rfl) (fun _ _ _ h => h) (by rfl) ?_ ?_
      rotate_left
      · intro W hW; have hW0 := Ext.trans Ew27.out hW; clear hW; go_simp <;> with_reducible rfl
      try simp only [Act.put, List.setIfInBounds_toArray, List.set_cons_zero, List.set_cons_succ]
      refine ext_take (i := 49) (v := ?_) rfl (by kernel_rfl) (by kernel_rfl) (by kernel_rfl) (fun _ _ _ h => h) (by rfl) ?_ ?_
      rotate_left
      · intro W hW; have hW0 := Ext.trans Ew27.out hW; clear hW; go_simp <;> with_reducible rfl
      try simp only [Act.put, List.setIfInBounds_toArray, List.set_cons_zero, List.set_cons_succ]
      refine ext_take (i := 50) (v := ?_) rfl (by kernel_rfl) (by kernel_rfl) (by kernel_rfl) (fun _ _ _ h => h) (by rfl) ?_ ?_
      rotate_left
      · intro W hW; have hW0 := Ext.trans Ew27.out hW; clear hW; go_simp <;> with_reducible rfl
      try simp only [Act.put, List.setIfInBounds_toArray, List.set_cons_zero, List.set_cons_succ]
      refine ext_take (i := 51) (v := ?_) rfl (by kernel_rfl) (by kernel_rfl) (by kernel_rfl) (fun _ _ _ h => h) (by rfl) ?_ ?_
      rotate_left
      · intro W hW; have hW0 := Ext.trans Ew27.out hW; clear hW; go_simp <;> with_reducible rfl
      try simp only [Act.put, List.setIfInBounds_toArray, List.set_cons_zero, List.set_cons_succ]
      refine ext_call (i := 52) rfl (by kernel_rfl) (by rfl) (fun K' hK => ?_)
      go_simp
      (go_at_call 42; (with_reducible refine (HT0.out _ (Ext.trans HX20.out Ew27.out)).mono ?_); rintro e w28 ⟨rfl, hx⟩; refine hK _ _ hx ?_; clear hK)
      have Ew28 := Lib.hid (Ext.trans Ew27.out hx)
      clear hx
      try simp only [Act.put, List.setIfInBounds_toArray, List.set_cons_zero, List.set_cons_succ]
      refine ext_take (i := 53) (v := ?_) rfl (by kernel_rfl) (by kernel_rfl) (by kernel_rfl) (fun _ _ _ h => h) (by rfl) ?_ ?_
      rotate_left
      · intro W hW; have hW0 := Ext.trans Ew28.out hW; clear hW; go_simp <;> with_reducible rfl
      try simp only [Act.put, List.setIfInBounds_toArray, List.set_cons_zero, List.set_cons_succ]
      refine ext_take (i := 54) (v := ?_) rfl (by kernel_rfl) (by kernel_rfl) (by kernel_rfl) (fun _ _ _ h => h) (by rfl) ?_ ?_
      rotate_left
      · intro W hW; have hW0 := Ext.trans Ew28.out hW; clear hW; go_simp <;> with_reducible rfl
      try simp only [Act.put, List.setIfInBounds_toArray, List.set_cons_zero, List.set_cons_succ]
      refine ext_take (i := 55) (v := ?_) rfl (by kernel_rfl) (by kernel_rfl) (by kernel_rfl) (fun _ _ _ h => h) (by rfl) ?_ ?_
      rotate_left
      · intro W hW; have hW0 := Ext.trans Ew28.out hW; clear hW; go_simp <;> with_reducible rfl
      try simp only [Act.put, List.setIfInBounds_toArray, List.set_cons_zero, List.set_cons_succ]
      refine wpAnyH_done (by kernel_rfl) ?_ _
      go_wp2
      try go_ret
      exact hD.out _ _ ⟨rfl, Ext.trans HB0.out (Ext.trans HE10.out (Ext.trans HX20.out Ew28.out))⟩
    have HAB1 : Hid (∀ W, Ext w10 W → Calls Try.prog 38 #[.agg #[.int .i64 ea, .slice (some ⟨b, o, none⟩) la.length c1], .int .i64 node] W fun e w' => e = .returned (.int .i64 (-1)) ∧ Ext W w') := fun W h => by have := HAB.out W h; rwa [beside_out (-1) (by omega)] at this
    have u1 : ¬ (0 : Int) < (j : Int) := by omega
    obtain ⟨jq, hjq⟩ : ∃ jq : Nat, (j : Int) + 1 = (jq : Int) := ⟨j + 1, by omega⟩
    obtain ⟨xq, hxq⟩ : ∃ xq, xq = la[jq]'(by omega) := ⟨_, rfl⟩
    have HBE1 : Hid (∀ W, Ext w10 W → Calls Try.prog 52 #[.agg #[.int .i64 ea, .slice (some ⟨b, o, none⟩) la.length c1], .int .i64 node] W fun e w' => e = .returned (.int .i64 xq) ∧ Ext W w') := fun W h => by have := HBE.out W h; rwa [beside_in 1 hi jq (by omega) (by omega), ← hxq] at this
    have v1 : (j : Int) < (m : Int) := by omega
    have fq : ∀ W, Ext w10 W → W.cell? ⟨b, o + jq, none⟩ = some (.int .i64 xq) := fun W h => by rw [hxq]; exact HCELL.out jq (by omega) W h
    have v2 : jq < la.length := by omega
    have v3 : (jq : Int) < (la.length : Int) := by omega
    have v4 : (0 : Int) ≤ (jq : Int) := by omega
    have w0_ : (0 : Int) ≤ (j : Int) := by omega
    have hnm := HNM.out
    clear hi hz hy HAB HBE  hxq
    go_wp2_with (first
      | (go_at_call 44; (with_reducible refine HMA.out.mono ?_); rintro e w11 ⟨rfl, hx⟩; have h11 : Ext w10 w11 := hx; have s0 := fa0 _ h11; have s1 := fa1 _ h11; clear hx)
      | (go_at_call 50; (with_reducible refine (HPL2.out _ h11).mono ?_); rintro e w20 ⟨rfl, hx⟩; have h20 : Ext w10 w20 := Ext.trans h11 hx; have s0 := fa0 _ h20; have s1 := fa1 _ h20; clear hx))
    have HX20 := Lib.hid h20
    have E20 : Hid (Ext w20 w20) := Ext.refl _
    have ga0 : ∀ W, Ext w20 W → W.cell? ⟨w.heap.size, 0, none⟩ = some (.int .i64 ea) := fun W h => fa0 W (Ext.trans HX20.out h)
    have ga1 : ∀ W, Ext w20 W → W.cell? ⟨w.heap.size, 1, none⟩ = some (.slice (some ⟨b, o, none⟩) la.length c1) := fun W h => fa1 W (Ext.trans HX20.out h)
    have g0 : ∀ W, Ext w20 W → W.cell? ⟨b, o, none⟩ = some (.int .i64 x0) := fun W h => f0 W (Ext.trans HX20.out h)
    have gm : ∀ W, Ext w20 W → W.cell? ⟨b, o + m, none⟩ = some (.int .i64 xm) := fun W h => fm W (Ext.trans HX20.out h)
    have hwr := HWR.out
    have hwr2 := HWR2.out
    clear fa0 fa1 f0 fm fz h11 h20 s0 s1
    refine ext_begin (by kernel_rfl) ?_
    have E20d := Lib.hid (Ext.drewR E20.out)
    refine ext_call (i := 0) rfl (by kernel_rfl) (by rfl) (fun K' hK => ?_)
    go_simp
    (go_at_call 45; (with_reducible refine (HTO1.out _ (Ext.trans HX20.out E20d.out)).mono ?_); rintro e w21 ⟨rfl, hx⟩; refine hK _ _ hx ?_; clear hK)
    have Ew21 := Lib.hid (Ext.trans E20d.out hx)
    clear hx
    try simp only [Act.put, List.setIfInBounds_toArray, List.set_cons_zero, List.set_cons_succ]
    refine ext_take (i := 1) (v := ?_) rfl (by kernel_rfl) (by kernel_rfl) (by kernel_rfl) (fun _ _ _ h => h) (by rfl) ?_ ?_
    rotate_left
    · intro W hW; have hW0 := Ext.trans Ew21.out hW; clear hW; go_simp <;> with_reducible rfl
    try simp only [Act.put, List.setIfInBounds_toArray, List.set_cons_zero, List.set_cons_succ]
    refine ext_take (i := 2) (v := ?_) rfl (by kernel_rfl) (by kernel_rfl) (by kernel_rfl) (fun _ _ _ h => h) (by rfl) ?_ ?_
    rotate_left
    · intro W hW; have hW0 := Ext.trans Ew21.out hW; clear hW; go_simp <;> with_reducible rfl
    try simp only [Act.put, List.setIfInBounds_toArray, List.set_cons_zero, List.set_cons_succ]
    refine ext_take (i := 3) (v := ?_) rfl (by kernel_rfl) (by kernel_rfl) (by kernel_rfl) (fun _ _ _ h => h) (by rfl) ?_ ?_
    rotate_left
    · intro W hW; have hW0 := Ext.trans Ew21.out hW; clear hW; go_simp <;> with_reducible rfl
    try simp only [Act.put, List.setIfInBounds_toArray, List.set_cons_zero, List.set_cons_succ]
    refine ext_take (i := 5) (v := ?_) rfl (by kernel_rfl) (by kernel_rfl) (by kernel_rfl) (fun _ _ _ h => h) (by rfl) ?_ ?_
    rotate_left
    · intro W hW; have hW0 := Ext.trans Ew21.out hW; clear hW; go_simp <;> with_reducible rfl
    try simp only [Act.put, List.setIfInBounds_toArray, List.set_cons_zero, List.set_cons_succ]
    refine ext_take (i := 6) (v := .bool true) rfl (by kernel_rfl) (by kernel_rfl) (by kernel_rfl) (fun _ _ _ h => h) (by rfl) ?_ ?_
    · intro W hW; have hW0 := Ext.trans Ew21.out hW; clear hW; go_simp; all_goals (first | (simp; done) | omega)
    try simp only [Act.put, List.setIfInBounds_toArray, List.set_cons_zero, List.set_cons_succ]
    refine ext_call (i := 4) rfl (by kernel_rfl) (by rfl) (fun K' hK => ?_)
    go_simp
    (go_at_call 39; (with_reducible refine (HHA1.out _ (Ext.trans HX20.out Ew21.out)).mono ?_); rintro e w22 ⟨rfl, hx⟩; refine hK _ _ hx ?_; clear hK)
    have Ew22 := Lib.hid (Ext.trans Ew21.out hx)
    clear hx
    try simp only [Act.put, List.setIfInBounds_toArray, List.set_cons_zero, List.set_cons_succ]
    refine ext_take (i := 7) (v := .bool true) rfl (by kernel_rfl) (by kernel_rfl) (by kernel_rfl) (fun _ _ _ h => h) (by rfl) ?_ ?_
    · intro W hW; have hW0 := Ext.trans Ew22.out hW; clear hW; go_simp; all_goals (first | (simp; done) | omega)
    try simp only [Act.put, List.setIfInBounds_toArray, List.set_cons_zero, List.set_cons_succ]
    refine ext_take (i := 8) (v := ?_) rfl (by kernel_rfl) (by kernel_rfl) (by kernel_rfl) (fun _ _ _ h => h) (by rfl) ?_ ?_
    rotate_left
    · intro W hW; have hW0 := Ext.trans Ew22.out hW; clear hW; go_simp <;> with_reducible rfl
    try simp only [Act.put, List.setIfInBounds_toArray, List.set_cons_zero, List.set_cons_succ]
    refine ext_take (i := 9) (v := ?_) rfl (by kernel_rfl) (by kernel_rfl) (by kernel_rfl) (fun _ _ _ h => h) (by rfl) ?_ ?_
    rotate_left
    · intro W hW; have hW0 := Ext.trans Ew22.out hW; clear hW; go_simp <;> with_reducible rfl
    try simp only [Act.put, List.setIfInBounds_toArray, List.set_cons_zero, List.set_cons_succ]
    refine ext_take (i := 10) (v := ?_) rfl (by kernel_rfl) (by kernel_rfl) (by kernel_rfl) (fun _ _ _ h => h) (by rfl) ?_ ?_
    rotate_left
    · intro W hW; have hW0 := Ext.trans Ew22.out hW; clear hW; go_simp <;> with_reducible rfl
    try simp only [Act.put, List.setIfInBounds_toArray, List.set_cons_zero, List.set_cons_succ]
    refine ext_take (i := 12) (v := ?_) rfl (by kernel_rfl) (by kernel_rfl) (by kernel_rfl) (fun _ _ _ h => h) (by rfl) ?_ ?_
    rotate_left
    · intro W hW; have hW0 := Ext.trans Ew22.out hW; clear hW; go_simp <;> with_reducible rfl
    try simp only [Act.put, List.setIfInBounds_toArray, List.set_cons_zero, List.set_cons_succ]
    refine ext_take (i := 13) (v := ?_) rfl (by kernel_rfl) (by kernel_rfl) (by kernel_rfl) (fun _ _ _ h => h) (by rfl) ?_ ?_
    rotate_left
    · intro W hW; have hW0 := Ext.trans Ew22.out hW; clear hW; go_simp <;> with_reducible rfl
    try simp only [Act.put, List.setIfInBounds_toArray, List.set_cons_zero, List.set_cons_succ]
    refine ext_take (i := 14) (v := ?_) rfl (by kernel_rfl) (by kernel_rfl) (by kernel_rfl) (fun _ _ _ h => h) (by rfl) ?_ ?_
    rotate_left
    · intro W hW; have hW0 := Ext.trans Ew22.out hW; clear hW; go_simp <;> with_reducible rfl
    try simp only [Act.put, List.setIfInBounds_toArray, List.set_cons_zero, List.set_cons_succ]
    refine ext_take (i := 15) (v := ?_) rfl (by kernel_rfl) (by kernel_rfl) (by kernel_rfl) (fun _ _ _ h => h) (by rfl) ?_ ?_
    rotate_left
    · intro W hW; have hW0 := Ext.trans Ew22.out hW; clear hW; go_simp <;> with_reducible rfl
    try simp only [Act.put, List.setIfInBounds_toArray, List.set_cons_zero, List.set_cons_succ]
    refine ext_call (i := 11) rfl (by kernel_rfl) (by rfl) (fun K' hK => ?_)
    go_simp
    (go_at_call 51; (with_reducible refine (HHD.out _ (Ext.trans HX20.out Ew22.out)).mono ?_); rintro e w23 ⟨rfl, hx⟩; refine hK _ _ hx ?_; clear hK)
    have Ew23 := Lib.hid (Ext.trans Ew22.out hx)
    clear hx
    try simp only [Act.put, List.setIfInBounds_toArray, List.set_cons_zero, List.set_cons_succ]
    refine ext_take (i := 16) (v := .bool true) rfl (by kernel_rfl) (by kernel_rfl) (by kernel_rfl) (fun _ _ _ h => h) (by rfl) ?_ ?_
    · intro W hW; have hW0 := Ext.trans Ew23.out hW; clear hW; go_simp; all_goals (first | (simp; done) | omega)
    try simp only [Act.put, List.setIfInBounds_toArray, List.set_cons_zero, List.set_cons_succ]
    refine ext_take (i := 17) (v := ?_) rfl (by kernel_rfl) (by kernel_rfl) (by kernel_rfl) (fun _ _ _ h => h) (by rfl) ?_ ?_
    rotate_left
    · intro W hW; have hW0 := Ext.trans Ew23.out hW; clear hW; go_simp <;> with_reducible rfl
    try simp only [Act.put, List.setIfInBounds_toArray, List.set_cons_zero, List.set_cons_succ]
    refine ext_take (i := 18) (v := ?_) rfl (by kernel_rfl) (by kernel_rfl) (by kernel_rfl) (fun _ _ _ h => h) (by rfl) ?_ ?_
    rotate_left
    · intro W hW; have hW0 := Ext.trans Ew23.out hW; clear hW; go_simp <;> with_reducible rfl
    try simp only [Act.put, List.setIfInBounds_toArray, List.set_cons_zero, List.set_cons_succ]
    refine ext_take (i := 19) (v := ?_) rfl (by kernel_rfl) (by kernel_rfl) (by kernel_rfl) (fun _ _ _ h => h) (by rfl) ?_ ?_
    rotate_left
    · intro W hW; have hW0 := Ext.trans Ew23.out hW; clear hW; go_simp <;> with_reducible rfl
    try simp only [Act.put, List.setIfInBounds_toArray, List.set_cons_zero, List.set_cons_succ]
    refine ext_take (i := 21) (v := ?_) rfl (by kernel_rfl) (by kernel_rfl) (by kernel_rfl) (fun _ _ _ h => h) (by rfl) ?_ ?_
    rotate_left
    · intro W hW; have hW0 := Ext.trans Ew23.out hW; clear hW; go_simp <;> with_reducible rfl
    try simp only [Act.put, List.setIfInBounds_toArray, List.set_cons_zero, List.set_cons_succ]
    refine ext_take (i := 22) (v := ?_) rfl (by kernel_rfl) (by kernel_rfl) (by kernel_rfl) (fun _ _ _ h => h) (by rfl) ?_ ?_
    rotate_left
    · intro W hW; have hW0 := Ext.trans Ew23.out hW; clear hW; go_simp <;> with_reducible rfl
    try simp only [Act.put, List.setIfInBounds_toArray, List.set_cons_zero, List.set_cons_succ]
    refine ext_take (i := 23) (v := ?_) rfl (by kernel_rfl) (by kernel_rfl) (by kernel_rfl) (fun _ _ _ h => h) (by rfl) ?_ ?_
    rotate_left
    · intro W hW; have hW0 := Ext.trans Ew23.out hW; clear hW; go_simp <;> with_reducible rfl
    try simp only [Act.put, List.setIfInBounds_toArray, List.set_cons_zero, List.set_cons_succ]
    refine ext_take (i := 24) (v := ?_) rfl (by kernel_rfl) (by kernel_rfl) (by kernel_rfl) (fun _ _ _ h => h) (by rfl) ?_ ?_
    rotate_left
    · intro W hW; have hW0 := Ext.trans Ew23.out hW; clear hW; go_simp <;> with_reducible rfl
    try simp only [Act.put, List.setIfInBounds_toArray, List.set_cons_zero, List.set_cons_succ]
    refine ext_take (i := 25) (v := ?_) rfl (by kernel_rfl) (by kernel_rfl) (by kernel_rfl) (fun _ _ _ h => h) (by rfl) ?_ ?_
    rotate_left
    · intro W hW; have hW0 := Ext.trans Ew23.out hW; clear hW; go_simp <;> with_reducible rfl
    try simp only [Act.put, List.setIfInBounds_toArray, List.set_cons_zero, List.set_cons_succ]
    refine ext_take (i := 26) (v := ?_) rfl (by kernel_rfl) (by kernel_rfl) (by kernel_rfl) (fun _ _ _ h => h) (by rfl) ?_ ?_
    rotate_left
    · intro W hW; have hW0 := Ext.trans Ew23.out hW; clear hW; go_simp <;> with_reducible rfl
    try simp only [Act.put, List.setIfInBounds_toArray, List.set_cons_zero, List.set_cons_succ]
    refine ext_take (i := 27) (v := ?_) rfl (by kernel_rfl) (by kernel_rfl) (by kernel_rfl) (fun _ _ _ h => h) (by rfl) ?_ ?_
    rotate_left
    · intro W hW; have hW0 := Ext.trans Ew23.out hW; clear hW; go_simp <;> with_reducible rfl
    try simp only [Act.put, List.setIfInBounds_toArray, List.set_cons_zero, List.set_cons_succ]
    refine ext_take (i := 28) (v := ?_) rfl (by kernel_rfl) (by kernel_rfl) (by kernel_rfl) (fun _ _ _ h => h) (by rfl) ?_ ?_
    rotate_left
    · intro W hW; have hW0 := Ext.trans Ew23.out hW; clear hW; go_simp <;> with_reducible rfl
    try simp only [Act.put, List.setIfInBounds_toArray, List.set_cons_zero, List.set_cons_succ]
    refine ext_call (i := 20) rfl (by kernel_rfl) (by rfl) (fun K' hK => ?_)
    go_simp
    (go_at_call 42; (with_reducible refine (HTL.out _ (Ext.trans HX20.out Ew23.out)).mono ?_); rintro e w24 ⟨rfl, hx⟩; refine hK _ _ hx ?_; clear hK)
    have Ew24 := Lib.hid (Ext.trans Ew23.out hx)
    clear hx
    try simp only [Act.put, List.setIfInBounds_toArray, List.set_cons_zero, List.set_cons_succ]
    refine ext_take (i := 29) (v := .bool true) rfl (by kernel_rfl) (by kernel_rfl) (by kernel_rfl) (fun _ _ _ h => h) (by rfl) ?_ ?_
    · intro W hW; have hW0 := Ext.trans Ew24.out hW; clear hW; go_simp; all_goals (first | (simp; done) | omega)
    try simp only [Act.put, List.setIfInBounds_toArray, List.set_cons_zero, List.set_cons_succ]
    refine ext_take (i := 30) (v := ?_) rfl (by kernel_rfl) (by kernel_rfl) (by kernel_rfl) (fun _ _ _ h => h) (by rfl) ?_ ?_
    rotate_left
    · intro W hW; have hW0 := Ext.trans Ew24.out hW; clear hW; go_simp <;> with_reducible rfl
    try simp only [Act.put, List.setIfInBounds_toArray, List.set_cons_zero, List.set_cons_succ]
    refine ext_take (i := 31) (v := ?_) rfl (by kernel_rfl) (by kernel_rfl) (by kernel_rfl) (fun _ _ _ h => h) (by rfl) ?_ ?_
    rotate_left
    · intro W hW; have hW0 := Ext.trans Ew24.out hW; clear hW; go_simp <;> with_reducible rfl
    try simp only [Act.put, List.setIfInBounds_toArray, List.set_cons_zero, List.set_cons_succ]
    refine ext_take (i := 32) (v := ?_) rfl (by kernel_rfl) (by kernel_rfl) (by kernel_rfl) (fun _ _ _ h => h) (by rfl) ?_ ?_
    rotate_left
    · intro W hW; have hW0 := Ext.trans Ew24.out hW; clear hW; go_simp <;> with_reducible rfl
    try simp only [Act.put, List.setIfInBounds_toArray, List.set_cons_zero, List.set_cons_succ]
    refine ext_take (i := 33) (v := ?_) rfl (by kernel_rfl) (by kernel_rfl) (by kernel_rfl) (fun _ _ _ h => h) (by rfl) ?_ ?_
    rotate_left
    · intro W hW; have hW0 := Ext.trans Ew24.out hW; clear hW; go_simp <;> with_reducible rfl
    try simp only [Act.put, List.setIfInBounds_toArray, List.set_cons_zero, List.set_cons_succ]
    refine ext_take (i := 35) (v := ?_) rfl (by kernel_rfl) (by kernel_rfl) (by kernel_rfl) (fun _ _ _ h => h) (by rfl) ?_ ?_
    rotate_left
    · intro W hW; have hW0 := Ext.trans Ew24.out hW; clear hW; go_simp <;> with_reducible rfl
    try simp only [Act.put, List.setIfInBounds_toArray, List.set_cons_zero, List.set_cons_succ]
    refine ext_call (i := 34) rfl (by kernel_rfl) (by rfl) (fun K' hK => ?_)
    go_simp
    (go_at_call 38; (with_reducible refine (HAB1.out _ (Ext.trans HX20.out Ew24.out)).mono ?_); rintro e w25 ⟨rfl, hx⟩; refine hK _ _ hx ?_; clear hK)
    have Ew25 := Lib.hid (Ext.trans Ew24.out hx)
    clear hx
    try simp only [Act.put, List.setIfInBounds_toArray, List.set_cons_zero, List.set_cons_succ]
    refine ext_take (i := 36) (v := .bool true) rfl (by kernel_rfl) (by kernel_rfl) (by kernel_rfl) (fun _ _ _ h => h) (by rfl) ?_ ?_
    · intro W hW; have hW0 := Ext.trans Ew25.out hW; clear hW; go_simp; all_goals (first | (simp; done) | omega)
    try simp only [Act.put, List.setIfInBounds_toArray, List.set_cons_zero, List.set_cons_succ]
    refine ext_take (i := 37) (v := ?_) rfl (by kernel_rfl) (by kernel_rfl) (by kernel_rfl) (fun _ _ _ h => h) (by rfl) ?_ ?_
    rotate_left
    · intro W hW; have hW0 := Ext.trans Ew25.out hW; clear hW; go_simp <;> with_reducible rfl
    try simp only [Act.put, List.setIfInBounds_toArray, List.set_cons_zero, List.set_cons_succ]
    refine ext_take (i := 38) (v := ?_) rfl (by kernel_rfl) (by kernel_rfl) (by kernel_rfl) (fun _ _ _ h => h) (by rfl) ?_ ?_
    rotate_left
    · intro W hW; have hW0 := Ext.trans Ew25.out hW; clear hW; go_simp <;> with_reducible rfl
    try simp only [Act.put, List.setIfInBounds_toArray, List.set_cons_zero, List.set_cons_succ]
    refine ext_take (i := 39) (v := ?_) rfl (by kernel_rfl) (by kernel_rfl) (by kernel_rfl) (fun _ _ _ h => h) (by rfl) ?_ ?_
    rotate_left
    · intro W hW; have hW0 := Ext.trans Ew25.out hW; clear hW; go_simp <;> with_reducible rfl
    try simp only [Act.put, List.setIfInBounds_toArray, List.set_cons_zero, List.set_cons_succ]
    refine ext_take (i := 40) (v := ?_) rfl (by kernel_rfl) (by kernel_rfl) (by kernel_rfl) (fun _ _ _ h => h) (by rfl) ?_ ?_
    rotate_left
    · intro W hW; have hW0 := Ext.trans Ew25.out hW; clear hW; go_simp <;> with_reducible rfl
    try simp only [Act.put, List.setIfInBounds_toArray, List.set_cons_zero, List.set_cons_succ]
    refine ext_take (i := 42) (v := ?_) rfl (by kernel_rfl) (by kernel_rfl) (by kernel_rfl) (fun _ _ _ h => h) (by rfl) ?_ ?_
    rotate_left
    · intro W hW; have hW0 := Ext.trans Ew25.out hW; clear hW; go_simp <;> with_reducible rfl
    try simp only [Act.put, List.setIfInBounds_toArray, List.set_cons_zero, List.set_cons_succ]
    refine ext_call (i := 41) rfl (by kernel_rfl) (by rfl) (fun K' hK => ?_)
    go_simp
    (go_at_call 52; (with_reducible refine (HBE1.out _ (Ext.trans HX20.out Ew25.out)).mono ?_); rintro e w26 ⟨rfl, hx⟩; refine hK _ _ hx ?_; clear hK)
    have Ew26 := Lib.hid (Ext.trans Ew25.out hx)
    clear hx
    try simp only [Act.put, List.setIfInBounds_toArray, List.set_cons_zero, List.set_cons_succ]
    refine ext_take (i := 43) (v := .bool true) rfl (by kernel_rfl) (by kernel_rfl) (by kernel_rfl) (fun _ _ _ h => h) (by rfl) ?_ ?_
    · intro W hW; have hW0 := Ext.trans Ew26.out hW; clear hW; go_simp; all_goals (first | (simp; done) | omega)
    try simp only [Act.put, List.setIfInBounds_toArray, List.set_cons_zero, List.set_cons_succ]
    refine ext_take (i := 44) (v := ?_) rfl (by kernel_rfl) (by kernel_rfl) (by kernel_rfl) (fun _ _ _ h => h) (by rfl) ?_ ?_
    rotate_left
    · intro W hW; have hW0 := Ext.trans Ew26.out hW; clear hW; go_simp <;> with_reducible rfl
    try simp only [Act.put, List.setIfInBounds_toArray, List.set_cons_zero, List.set_cons_succ]
    refine ext_take (i := 45) (v := ?_) rfl (by kernel_rfl) (by kernel_rfl) (by kernel_rfl) (fun _ _ _ h => h) (by rfl) ?_ ?_
    rotate_left
    · intro W hW; have hW0 := Ext.trans Ew26.out hW; clear hW; go_simp <;> with_reducible rfl
    try simp only [Act.put, List.setIfInBounds_toArray, List.set_cons_zero, List.set_cons_succ]
    refine ext_take (i := 46) (v := ?_) rfl (by kernel_rfl) (by kernel_rfl) (by kernel_rfl) (fun _ _ _ h => h) (by rfl) ?_ ?_
    rotate_left
    · intro W hW; have hW0 := Ext.trans Ew26.out hW; clear hW; go_simp <;> with_reducible rfl
    try simp only [Act.put, List.setIfInBounds_toArray, List.set_cons_zero, List.set_cons_succ]
    refine ext_call (i := 47) rfl (by kernel_rfl) (by rfl) (fun K' hK => ?_)
    go_simp
    (go_at_call 51; (with_reducible refine (HH0.out _ (Ext.trans HX20.out Ew26.out)).mono ?_); rintro e w27 ⟨rfl, hx⟩; refine hK _ _ hx ?_; clear hK)
    have Ew27 := Lib.hid (Ext.trans Ew26.out hx)
    clear hx
    try simp only [Act.put, List.setIfInBounds_toArray, List.set_cons_zero, List.set_cons_succ]
    refine ext_take (i := 48) (v := ?_) rfl (by kernel_rfl) (by kernel_rfl) (by kernel_rfl) (fun _ _ _ h => h) (by rfl) ?_ ?_
    rotate_left
    · intro W hW; have hW0 := Ext.trans Ew27.out hW; clear hW; go_simp <;> with_reducible rfl
    try simp only [Act.put, List.setIfInBounds_toArray, List.set_cons_zero, List.set_cons_succ]
    refine ext_take (i := 49) (v := ?_) rfl (by kernel_rfl) (by kernel_rfl) (by kernel_rfl) (fun _ _ _ h => h) (by rfl) ?_ ?_
    rotate_left
    · intro W hW; have hW0 := Ext.trans Ew27.out hW; clear hW; go_simp <;> with_reducible rfl
    try simp only [Act.put, List.setIfInBounds_toArray, List.set_cons_zero, List.set_cons_succ]
    refine ext_take (i := 50) (v := ?_) rfl (by kernel_rfl) (by kernel_rfl) (by kernel_rfl) (fun _ _ _ h => h) (by rfl) ?_ ?_
    rotate_left
    · intro W hW; have hW0 := Ext.trans Ew27.out hW; clear hW; go_simp <;> with_reducible rfl
    try simp only [Act.put, List.setIfInBounds_toArray, List.set_cons_zero, List.set_cons_succ]
    refine ext_take (i := 51) (v := ?_) rfl (by kernel_rfl) (by kernel_rfl) (by kernel_rfl) (fun _ _ _ h => h) (by rfl) ?_ ?_
    rotate_left
    · intro W hW; have hW0 := Ext.trans Ew27.out hW; clear hW; go_simp <;> with_reducible rfl
    try simp only [Act.put, List.setIfInBounds_toArray, List.set_cons_zero, List.set_cons_succ]
    refine ext_call (i := 52) rfl (by kernel_rfl) (by rfl) (fun K' hK => ?_)
    go_simp
    (go_at_call 42; (with_reducible refine (HT0.out _ (Ext.trans HX20.out Ew27.out)).mono ?_); rintro e w28 ⟨rfl, hx⟩; refine hK _ _ hx ?_; clear hK)
    have Ew28 := Lib.hid (Ext.trans Ew27.out hx)
    clear hx
    try simp only [Act.put, List.setIfInBounds_toArray, List.set_cons_zero, List.set_cons_succ]
    refine ext_take (i := 53) (v := ?_) rfl (by kernel_rfl) (by kernel_rfl) (by kernel_rfl) (fun _ _ _ h => h) (by rfl) ?_ ?_
    rotate_left
    · intro W hW; have hW0 := Ext.trans Ew28.out hW; clear hW; go_simp <;> with_reducible rfl
    try simp only [Act.put, List.setIfInBounds_toArray, List.set_cons_zero, List.set_cons_succ]
    refine ext_take (i := 54) (v := ?_) rfl (by kernel_rfl) (by kernel_rfl) (by kernel_rfl) (fun _ _ _ h => h) (by rfl) ?_ ?_
    rotate_left
    · intro W hW; have hW0 := Ext.trans Ew28.out hW; clear hW; go_simp <;> with_reducible rfl
    try simp only [Act.put, List.setIfInBounds_toArray, List.set_cons_zero, List.set_cons_succ]
    refine ext_take (i := 55) (v := ?_) rfl (by kernel_rfl) (by kernel_rfl) (by kernel_rfl) (fun _ _ _ h => h) (by rfl) ?_ ?_
    rotate_left
    · intro W hW; have hW0 := Ext.trans Ew28.out hW; clear hW; go_simp <;> with_reducible rfl
    try simp only [Act.put, List.setIfInBounds_toArray, List.set_cons_zero, List.set_cons_succ]
    refine wpAnyH_done (by kernel_rfl) ?_ _
    go_wp2
    try go_ret
    exact hD.out _ _ ⟨rfl, Ext.trans HB0.out (Ext.trans HE10.out (Ext.trans HX20.out Ew28.out))⟩
  by_cases hy : j = m
  case pos =>
    obtain ⟨jp, hjp⟩ : ∃ jp : Nat, (j : Int) - 1 = (jp : Int) := ⟨j - 1, by omega⟩
    obtain ⟨xp, hxp⟩ : ∃ xp, xp = la[jp]'(by omega) := ⟨_, rfl⟩
    have HAB1 : Hid (∀ W, Ext w10 W → Calls Try.prog 38 #[.agg #[.int .i64 ea, .slice (some ⟨b, o, none⟩) la.length c1], .int .i64 node] W fun e w' => e = .returned (.int .i64 xp) ∧ Ext W w') := fun W h => by have := HAB.out W h; rwa [beside_in (-1) hi jp (by omega) (by omega), ← hxp] at this
    have u1 : (0 : Int) < (j : Int) := by omega
    have fp : ∀ W, Ext w10 W → W.cell? ⟨b, o + jp, none⟩ = some (.int .i64 xp) := fun W h => by rw [hxp]; exact HCELL.out jp (by omega) W h
    have u2 : jp < la.length := by omega
    have u3 : (jp : Int) < (la.length : Int) := by omega
    have u4 : (0 : Int) ≤ (jp : Int) := by omega
    have HBE1 : Hid (∀ W, Ext w10 W → Calls Try.prog 52 #[.agg #[.int .i64 ea, .slice (some ⟨b, o, none⟩) la.length c1], .int .i64 node] W fun e w' => e = .returned (.int .i64 (-1)) ∧ Ext W w') := fun W h => by have := HBE.out W h; rwa [beside_out 1 (by omega)] at this
    have v1 : ¬ (j : Int) < (m : Int) := by omega
    have w0_ : (0 : Int) ≤ (j : Int) := by omega
    have hnm := HNM.out
    clear hi hz hy HAB HBE hxp 
    go_wp2_with (first
      | (go_at_call 44; (with_reducible refine HMA.out.mono ?_); rintro e w11 ⟨rfl, hx⟩; have h11 : Ext w10 w11 := hx; have s0 := fa0 _ h11; have s1 := fa1 _ h11; clear hx)
      | (go_at_call 50; (with_reducible refine (HPL2.out _ h11).mono ?_); rintro e w20 ⟨rfl, hx⟩; have h20 : Ext w10 w20 := Ext.trans h11 hx; have s0 := fa0 _ h20; have s1 := fa1 _ h20; clear hx))
    have HX20 := Lib.hid h20
    have E20 : Hid (Ext w20 w20) := Ext.refl _
    have ga0 : ∀ W, Ext w20 W → W.cell? ⟨w.heap.size, 0, none⟩ = some (.int .i64 ea) := fun W h => fa0 W (Ext.trans HX20.out h)
    have ga1 : ∀ W, Ext w20 W → W.cell? ⟨w.heap.size, 1, none⟩ = some (.slice (some ⟨b, o, none⟩) la.length c1) := fun W h => fa1 W (Ext.trans HX20.out h)
    have g0 : ∀ W, Ext w20 W → W.cell? ⟨b, o, none⟩ = some (.int .i64 x0) := fun W h => f0 W (Ext.trans HX20.out h)
    have gm : ∀ W, Ext w20 W → W.cell? ⟨b, o + m, none⟩ = some (.int .i64 xm) := fun W h => fm W (Ext.trans HX20.out h)
    have hwr := HWR.out
    have hwr2 := HWR2.out
    clear fa0 fa1 f0 fm fz h11 h20 s0 s1
    refine ext_begin (by kernel_rfl) ?_
    have E20d := Lib.hid (Ext.drewR E20.out)
    refine ext_call (i := 0) rfl (by kernel_rfl) (by rfl) (fun K' hK => ?_)
    go_simp
    (go_at_call 45; (with_reducible refine (HTO1.out _ (Ext.trans HX20.out E20d.out)).mono ?_); rintro e w21 ⟨rfl, hx⟩; refine hK _ _ hx ?_; clear hK)
    have Ew21 := Lib.hid (Ext.trans E20d.out hx)
    clear hx
    try simp only [Act.put, List.setIfInBounds_toArray, List.set_cons_zero, List.set_cons_succ]
    refine ext_take (i := 1) (v := ?_) rfl (by kernel_rfl) (by kernel_rfl) (by kernel_rfl) (fun _ _ _ h => h) (by rfl) ?_ ?_
    rotate_left
    · intro W hW; have hW0 := Ext.trans Ew21.out hW; clear hW; go_simp <;> with_reducible rfl
    try simp only [Act.put, List.setIfInBounds_toArray, List.set_cons_zero, List.set_cons_succ]
    refine ext_take (i := 2) (v := ?_) rfl (by kernel_rfl) (by kernel_rfl) (by kernel_rfl) (fun _ _ _ h => h) (by rfl) ?_ ?_
    rotate_left
    · intro W hW; have hW0 := Ext.trans Ew21.out hW; clear hW; go_simp <;> with_reducible rfl
    try simp only [Act.put, List.setIfInBounds_toArray, List.set_cons_zero, List.set_cons_succ]
    refine ext_take (i := 3) (v := ?_) rfl (by kernel_rfl) (by kernel_rfl) (by kernel_rfl) (fun _ _ _ h => h) (by rfl) ?_ ?_
    rotate_left
    · intro W hW; have hW0 := Ext.trans Ew21.out hW; clear hW; go_simp <;> with_reducible rfl
    try simp only [Act.put, List.setIfInBounds_toArray, List.set_cons_zero, List.set_cons_succ]
    refine ext_take (i := 5) (v := ?_) rfl (by kernel_rfl) (by kernel_rfl) (by kernel_rfl) (fun _ _ _ h => h) (by rfl) ?_ ?_
    rotate_left
    · intro W hW; have hW0 := Ext.trans Ew21.out hW; clear hW; go_simp <;> with_reducible rfl
    try simp only [Act.put, List.setIfInBounds_toArray, List.set_cons_zero, List.set_cons_succ]
    refine ext_take (i := 6) (v := .bool true) rfl (by kernel_rfl) (by kernel_rfl) (by kernel_rfl) (fun _ _ _ h => h) (by rfl) ?_ ?_
    · intro W hW; have hW0 := Ext.trans Ew21.out hW; clear hW; go_simp; all_goals (first | (simp; done) | omega)
    try simp only [Act.put, List.setIfInBounds_toArray, List.set_cons_zero, List.set_cons_succ]
    refine ext_call (i := 4) rfl (by kernel_rfl) (by rfl) (fun K' hK => ?_)
    go_simp
    (go_at_call 39; (with_reducible refine (HHA1.out _ (Ext.trans HX20.out Ew21.out)).mono ?_); rintro e w22 ⟨rfl, hx⟩; refine hK _ _ hx ?_; clear hK)
    have Ew22 := Lib.hid (Ext.trans Ew21.out hx)
    clear hx
    try simp only [Act.put, List.setIfInBounds_toArray, List.set_cons_zero, List.set_cons_succ]
    refine ext_take (i := 7) (v := .bool true) rfl (by kernel_rfl) (by kernel_rfl) (by kernel_rfl) (fun _ _ _ h => h) (by rfl) ?_ ?_
    · intro W hW; have hW0 := Ext.trans Ew22.out hW; clear hW; go_simp; all_goals (first | (simp; done) | omega)
    try simp only [Act.put, List.setIfInBounds_toArray, List.set_cons_zero, List.set_cons_succ]
    refine ext_take (i := 8) (v := ?_) rfl (by kernel_rfl) (by kernel_rfl) (by kernel_rfl) (fun _ _ _ h => h) (by rfl) ?_ ?_
    rotate_left
    · intro W hW; have hW0 := Ext.trans Ew22.out hW; clear hW; go_simp <;> with_reducible rfl
    try simp only [Act.put, List.setIfInBounds_toArray, List.set_cons_zero, List.set_cons_succ]
    refine ext_take (i := 9) (v := ?_) rfl (by kernel_rfl) (by kernel_rfl) (by kernel_rfl) (fun _ _ _ h => h) (by rfl) ?_ ?_
    rotate_left
    · intro W hW; have hW0 := Ext.trans Ew22.out hW; clear hW; go_simp <;> with_reducible rfl
    try simp only [Act.put, List.setIfInBounds_toArray, List.set_cons_zero, List.set_cons_succ]
    refine ext_take (i := 10) (v := ?_) rfl (by kernel_rfl) (by kernel_rfl) (by kernel_rfl) (fun _ _ _ h => h) (by rfl) ?_ ?_
    rotate_left
    · intro W hW; have hW0 := Ext.trans Ew22.out hW; clear hW; go_simp <;> with_reducible rfl
    try simp only [Act.put, List.setIfInBounds_toArray, List.set_cons_zero, List.set_cons_succ]
    refine ext_take (i := 12) (v := ?_) rfl (by kernel_rfl) (by kernel_rfl) (by kernel_rfl) (fun _ _ _ h => h) (by rfl) ?_ ?_
    rotate_left
    · intro W hW; have hW0 := Ext.trans Ew22.out hW; clear hW; go_simp <;> with_reducible rfl
    try simp only [Act.put, List.setIfInBounds_toArray, List.set_cons_zero, List.set_cons_succ]
    refine ext_take (i := 13) (v := ?_) rfl (by kernel_rfl) (by kernel_rfl) (by kernel_rfl) (fun _ _ _ h => h) (by rfl) ?_ ?_
    rotate_left
    · intro W hW; have hW0 := Ext.trans Ew22.out hW; clear hW; go_simp <;> with_reducible rfl
    try simp only [Act.put, List.setIfInBounds_toArray, List.set_cons_zero, List.set_cons_succ]
    refine ext_take (i := 14) (v := ?_) rfl (by kernel_rfl) (by kernel_rfl) (by kernel_rfl) (fun _ _ _ h => h) (by rfl) ?_ ?_
    rotate_left
    · intro W hW; have hW0 := Ext.trans Ew22.out hW; clear hW; go_simp <;> with_reducible rfl
    try simp only [Act.put, List.setIfInBounds_toArray, List.set_cons_zero, List.set_cons_succ]
    refine ext_take (i := 15) (v := ?_) rfl (by kernel_rfl) (by kernel_rfl) (by kernel_rfl) (fun _ _ _ h => h) (by rfl) ?_ ?_
    rotate_left
    · intro W hW; have hW0 := Ext.trans Ew22.out hW; clear hW; go_simp <;> with_reducible rfl
    try simp only [Act.put, List.setIfInBounds_toArray, List.set_cons_zero, List.set_cons_succ]
    refine ext_call (i := 11) rfl (by kernel_rfl) (by rfl) (fun K' hK => ?_)
    go_simp
    (go_at_call 51; (with_reducible refine (HHD.out _ (Ext.trans HX20.out Ew22.out)).mono ?_); rintro e w23 ⟨rfl, hx⟩; refine hK _ _ hx ?_; clear hK)
    have Ew23 := Lib.hid (Ext.trans Ew22.out hx)
    clear hx
    try simp only [Act.put, List.setIfInBounds_toArray, List.set_cons_zero, List.set_cons_succ]
    refine ext_take (i := 16) (v := .bool true) rfl (by kernel_rfl) (by kernel_rfl) (by kernel_rfl) (fun _ _ _ h => h) (by rfl) ?_ ?_
    · intro W hW; have hW0 := Ext.trans Ew23.out hW; clear hW; go_simp; all_goals (first | (simp; done) | omega)
    try simp only [Act.put, List.setIfInBounds_toArray, List.set_cons_zero, List.set_cons_succ]
    refine ext_take (i := 17) (v := ?_) rfl (by kernel_rfl) (by kernel_rfl) (by kernel_rfl) (fun _ _ _ h => h) (by rfl) ?_ ?_
    rotate_left
    · intro W hW; have hW0 := Ext.trans Ew23.out hW; clear hW; go_simp <;> with_reducible rfl
    try simp only [Act.put, List.setIfInBounds_toArray, List.set_cons_zero, List.set_cons_succ]
    refine ext_take (i := 18) (v := ?_) rfl (by kernel_rfl) (by kernel_rfl) (by kernel_rfl) (fun _ _ _ h => h) (by rfl) ?_ ?_
    rotate_left
    · intro W hW; have hW0 := Ext.trans Ew23.out hW; clear hW; go_simp <;> with_reducible rfl
    try simp only [Act.put, List.setIfInBounds_toArray, List.set_cons_zero, List.set_cons_succ]
    refine ext_take (i := 19) (v := ?_) rfl (by kernel_rfl) (by kernel_rfl) (by kernel_rfl) (fun _ _ _ h => h) (by rfl) ?_ ?_
    rotate_left
    · intro W hW; have hW0 := Ext.trans Ew23.out hW; clear hW; go_simp <;> with_reducible rfl
    try simp only [Act.put, List.setIfInBounds_toArray, List.set_cons_zero, List.set_cons_succ]
    refine ext_take (i := 21) (v := ?_) rfl (by kernel_rfl) (by kernel_rfl) (by kernel_rfl) (fun _ _ _ h => h) (by rfl) ?_ ?_
    rotate_left
    · intro W hW; have hW0 := Ext.trans Ew23.out hW; clear hW; go_simp <;> with_reducible rfl
    try simp only [Act.put, List.setIfInBounds_toArray, List.set_cons_zero, List.set_cons_succ]
    refine ext_take (i := 22) (v := ?_) rfl (by kernel_rfl) (by kernel_rfl) (by kernel_rfl) (fun _ _ _ h => h) (by rfl) ?_ ?_
    rotate_left
    · intro W hW; have hW0 := Ext.trans Ew23.out hW; clear hW; go_simp <;> with_reducible rfl
    try simp only [Act.put, List.setIfInBounds_toArray, List.set_cons_zero, List.set_cons_succ]
    refine ext_take (i := 23) (v := ?_) rfl (by kernel_rfl) (by kernel_rfl) (by kernel_rfl) (fun _ _ _ h => h) (by rfl) ?_ ?_
    rotate_left
    · intro W hW; have hW0 := Ext.trans Ew23.out hW; clear hW; go_simp <;> with_reducible rfl
    try simp only [Act.put, List.setIfInBounds_toArray, List.set_cons_zero, List.set_cons_succ]
    refine ext_take (i := 24) (v := ?_) rfl (by kernel_rfl) (by kernel_rfl) (by kernel_rfl) (fun _ _ _ h => h) (by rfl) ?_ ?_
    rotate_left
    · intro W hW; have hW0 := Ext.trans Ew23.out hW; clear hW; go_simp <;> with_reducible rfl
    try simp only [Act.put, List.setIfInBounds_toArray, List.set_cons_zero, List.set_cons_succ]
    refine ext_take (i := 25) (v := ?_) rfl (by kernel_rfl) (by kernel_rfl) (by kernel_rfl) (fun _ _ _ h => h) (by rfl) ?_ ?_
    rotate_left
    · intro W hW; have hW0 := Ext.trans Ew23.out hW; clear hW; go_simp <;> with_reducible rfl
    try simp only [Act.put, List.setIfInBounds_toArray, List.set_cons_zero, List.set_cons_succ]
    refine ext_take (i := 26) (v := ?_) rfl (by kernel_rfl) (by kernel_rfl) (by kernel_rfl) (fun _ _ _ h => h) (by rfl) ?_ ?_
    rotate_left
    · intro W hW; have hW0 := Ext.trans Ew23.out hW; clear hW; go_simp <;> with_reducible rfl
    try simp only [Act.put, List.setIfInBounds_toArray, List.set_cons_zero, List.set_cons_succ]
    refine ext_take (i := 27) (v := ?_) rfl (by kernel_rfl) (by kernel_rfl) (by kernel_rfl) (fun _ _ _ h => h) (by rfl) ?_ ?_
    rotate_left
    · intro W hW; have hW0 := Ext.trans Ew23.out hW; clear hW; go_simp <;> with_reducible rfl
    try simp only [Act.put, List.setIfInBounds_toArray, List.set_cons_zero, List.set_cons_succ]
    refine ext_take (i := 28) (v := ?_) rfl (by kernel_rfl) (by kernel_rfl) (by kernel_rfl) (fun _ _ _ h => h) (by rfl) ?_ ?_
    rotate_left
    · intro W hW; have hW0 := Ext.trans Ew23.out hW; clear hW; go_simp <;> with_reducible rfl
    try simp only [Act.put, List.setIfInBounds_toArray, List.set_cons_zero, List.set_cons_succ]
    refine ext_call (i := 20) rfl (by kernel_rfl) (by rfl) (fun K' hK => ?_)
    go_simp
    (go_at_call 42; (with_reducible refine (HTL.out _ (Ext.trans HX20.out Ew23.out)).mono ?_); rintro e w24 ⟨rfl, hx⟩; refine hK _ _ hx ?_; clear hK)
    have Ew24 := Lib.hid (Ext.trans Ew23.out hx)
    clear hx
    try simp only [Act.put, List.setIfInBounds_toArray, List.set_cons_zero, List.set_cons_succ]
    refine ext_take (i := 29) (v := .bool true) rfl (by kernel_rfl) (by kernel_rfl) (by kernel_rfl) (fun _ _ _ h => h) (by rfl) ?_ ?_
    · intro W hW; have hW0 := Ext.trans Ew24.out hW; clear hW; go_simp; all_goals (first | (simp; done) | omega)
    try simp only [Act.put, List.setIfInBounds_toArray, List.set_cons_zero, List.set_cons_succ]
    refine ext_take (i := 30) (v := ?_) rfl (by kernel_rfl) (by kernel_rfl) (by kernel_rfl) (fun _ _ _ h => h) (by rfl) ?_ ?_
    rotate_left
    · intro W hW; have hW0 := Ext.trans Ew24.out hW; clear hW; go_simp <;> with_reducible rfl
    try simp only [Act.put, List.setIfInBounds_toArray, List.set_cons_zero, List.set_cons_succ]
    refine ext_take (i := 31) (v := ?_) rfl (by kernel_rfl) (by kernel_rfl) (by kernel_rfl) (fun _ _ _ h => h) (by rfl) ?_ ?_
    rotate_left
    · intro W hW; have hW0 := Ext.trans Ew24.out hW; clear hW; go_simp <;> with_reducible rfl
    try simp only [Act.put, List.setIfInBounds_toArray, List.set_cons_zero, List.set_cons_succ]
    refine ext_take (i := 32) (v := ?_) rfl (by kernel_rfl) (by kernel_rfl) (by kernel_rfl) (fun _ _ _ h => h) (by rfl) ?_ ?_
    rotate_left
    · intro W hW; have hW0 := Ext.trans Ew24.out hW; clear hW; go_simp <;> with_reducible rfl
    try simp only [Act.put, List.setIfInBounds_toArray, List.set_cons_zero, List.set_cons_succ]
    refine ext_take (i := 33) (v := ?_) rfl (by kernel_rfl) (by kernel_rfl) (by kernel_rfl) (fun _ _ _ h => h) (by rfl) ?_ ?_
    rotate_left
    · intro W hW; have hW0 := Ext.trans Ew24.out hW; clear hW; go_simp <;> with_reducible rfl
    try simp only [Act.put, List.setIfInBounds_toArray, List.set_cons_zero, List.set_cons_succ]
    refine ext_take (i := 35) (v := ?_) rfl (by kernel_rfl) (by kernel_rfl) (by kernel_rfl) (fun _ _ _ h => h) (by rfl) ?_ ?_
    rotate_left
    · intro W hW; have hW0 := Ext.trans Ew24.out hW; clear hW; go_simp <;> with_reducible rfl
    try simp only [Act.put, List.setIfInBounds_toArray, List.set_cons_zero, List.set_cons_succ]
    refine ext_call (i := 34) rfl (by kernel_rfl) (by rfl) (fun K' hK => ?_)
    go_simp
    (go_at_call 38; (with_reducible refine (HAB1.out _ (Ext.trans HX20.out Ew24.out)).mono ?_); rintro e w25 ⟨rfl, hx⟩; refine hK _ _ hx ?_; clear hK)
    have Ew25 := Lib.hid (Ext.trans Ew24.out hx)
    clear hx
    try simp only [Act.put, List.setIfInBounds_toArray, List.set_cons_zero, List.set_cons_succ]
    refine ext_take (i := 36) (v := .bool true) rfl (by kernel_rfl) (by kernel_rfl) (by kernel_rfl) (fun _ _ _ h => h) (by rfl) ?_ ?_
    · intro W hW; have hW0 := Ext.trans Ew25.out hW; clear hW; go_simp; all_goals (first | (simp; done) | omega)
    try simp only [Act.put, List.setIfInBounds_toArray, List.set_cons_zero, List.set_cons_succ]
    refine ext_take (i := 37) (v := ?_) rfl (by kernel_rfl) (by kernel_rfl) (by kernel_rfl) (fun _ _ _ h => h) (by rfl) ?_ ?_
    rotate_left
    · intro W hW; have hW0 := Ext.trans Ew25.out hW; clear hW; go_simp <;> with_reducible rfl
    try simp only [Act.put, List.setIfInBounds_toArray, List.set_cons_zero, List.set_cons_succ]
    refine ext_take (i := 38) (v := ?_) rfl (by kernel_rfl) (by kernel_rfl) (by kernel_rfl) (fun _ _ _ h => h) (by rfl) ?_ ?_
    rotate_left
    · intro W hW; have hW0 := Ext.trans Ew25.out hW; clear hW; go_simp <;> with_reducible rfl
    try simp only [Act.put, List.setIfInBounds_toArray, List.set_cons_zero, List.set_cons_succ]
    refine ext_take (i := 39) (v := ?_) rfl (by kernel_rfl) (by kernel_rfl) (by kernel_rfl) (fun _ _ _ h => h) (by rfl) ?_ ?_
    rotate_left
    · intro W hW; have hW0 := Ext.trans Ew25.out hW; clear hW; go_simp <;> with_reducible rfl
    try simp only [Act.put, List.setIfInBounds_toArray, List.set_cons_zero, List.set_cons_succ]
    refine ext_take (i := 40) (v := ?_) rfl (by kernel_rfl) (by kernel_rfl) (by kernel_rfl) (fun _ _ _ h => h) (by rfl) ?_ ?_
    rotate_left
    · intro W hW; have hW0 := Ext.trans Ew25.out hW; clear hW; go_simp <;> with_reducible rfl
    try simp only [Act.put, List.setIfInBounds_toArray, List.set_cons_zero, List.set_cons_succ]
    refine ext_take (i := 42) (v := ?_) rfl (by kernel_rfl) (by kernel_rfl) (by kernel_rfl) (fun _ _ _ h => h) (by rfl) ?_ ?_
    rotate_left
    · intro W hW; have hW0 := Ext.trans Ew25.out hW; clear hW; go_simp <;> with_reducible rfl
    try simp only [Act.put, List.setIfInBounds_toArray, List.set_cons_zero, List.set_cons_succ]
    refine ext_call (i := 41) rfl (by kernel_rfl) (by rfl) (fun K' hK => ?_)
    go_simp
    (go_at_call 52; (with_reducible refine (HBE1.out _ (Ext.trans HX20.out Ew25.out)).mono ?_); rintro e w26 ⟨rfl, hx⟩; refine hK _ _ hx ?_; clear hK)
    have Ew26 := Lib.hid (Ext.trans Ew25.out hx)
    clear hx
    try simp only [Act.put, List.setIfInBounds_toArray, List.set_cons_zero, List.set_cons_succ]
    refine ext_take (i := 43) (v := .bool true) rfl (by kernel_rfl) (by kernel_rfl) (by kernel_rfl) (fun _ _ _ h => h) (by rfl) ?_ ?_
    · intro W hW; have hW0 := Ext.trans Ew26.out hW; clear hW; go_simp; all_goals (first | (simp; done) | omega)
    try simp only [Act.put, List.setIfInBounds_toArray, List.set_cons_zero, List.set_cons_succ]
    refine ext_take (i := 44) (v := ?_) rfl (by kernel_rfl) (by kernel_rfl) (by kernel_rfl) (fun _ _ _ h => h) (by rfl) ?_ ?_
    rotate_left
    · intro W hW; have hW0 := Ext.trans Ew26.out hW; clear hW; go_simp <;> with_reducible rfl
    try simp only [Act.put, List.setIfInBounds_toArray, List.set_cons_zero, List.set_cons_succ]
    refine ext_take (i := 45) (v := ?_) rfl (by kernel_rfl) (by kernel_rfl) (by kernel_rfl) (fun _ _ _ h => h) (by rfl) ?_ ?_
    rotate_left
    · intro W hW; have hW0 := Ext.trans Ew26.out hW; clear hW; go_simp <;> with_reducible rfl
    try simp only [Act.put, List.setIfInBounds_toArray, List.set_cons_zero, List.set_cons_succ]
    refine ext_take (i := 46) (v := ?_) rfl (by kernel_rfl) (by kernel_rfl) (by kernel_rfl) (fun _ _ _ h => h) (by rfl) ?_ ?_
    rotate_left
    · intro W hW; have hW0 := Ext.trans Ew26.out hW; clear hW; go_simp <;> with_reducible rfl
    try simp only [Act.put, List.setIfInBounds_toArray, List.set_cons_zero, List.set_cons_succ]
    refine ext_call (i := 47) rfl (by kernel_rfl) (by rfl) (fun K' hK => ?_)
    go_simp
    (go_at_call 51; (with_reducible refine (HH0.out _ (Ext.trans HX20.out Ew26.out)).mono ?_); rintro e w27 ⟨rfl, hx⟩; refine hK _ _ hx ?_; clear hK)
    have Ew27 := Lib.hid (Ext.trans Ew26.out hx)
    clear hx
    try simp only [Act.put, List.setIfInBounds_toArray, List.set_cons_zero, List.set_cons_succ]
    refine ext_take (i := 48) (v := ?_) rfl (by kernel_rfl) (by kernel_rfl) (by kernel_rfl) (fun _ _ _ h => h) (by rfl) ?_ ?_
    rotate_left
    · intro W hW; have hW0 := Ext.trans Ew27.out hW; clear hW; go_simp <;> with_reducible rfl
    try simp only [Act.put, List.setIfInBounds_toArray, List.set_cons_zero, List.set_cons_succ]
    refine ext_take (i := 49) (v := ?_) rfl (by kernel_rfl) (by kernel_rfl) (by kernel_rfl) (fun _ _ _ h => h) (by rfl) ?_ ?_
    rotate_left
    · intro W hW; have hW0 := Ext.trans Ew27.out hW; clear hW; go_simp <;> with_reducible rfl
    try simp only [Act.put, List.setIfInBounds_toArray, List.set_cons_zero, List.set_cons_succ]
    refine ext_take (i := 50) (v := ?_) rfl (by kernel_rfl) (by kernel_rfl) (by kernel_rfl) (fun _ _ _ h => h) (by rfl) ?_ ?_
    rotate_left
    · intro W hW; have hW0 := Ext.trans Ew27.out hW; clear hW; go_simp <;> with_reducible rfl
    try simp only [Act.put, List.setIfInBounds_toArray, List.set_cons_zero, List.set_cons_succ]
    refine ext_take (i := 51) (v := ?_) rfl (by kernel_rfl) (by kernel_rfl) (by kernel_rfl) (fun _ _ _ h => h) (by rfl) ?_ ?_
    rotate_left
    · intro W hW; have hW0 := Ext.trans Ew27.out hW; clear hW; go_simp <;> with_reducible rfl
    try simp only [Act.put, List.setIfInBounds_toArray, List.set_cons_zero, List.set_cons_succ]
    refine ext_call (i := 52) rfl (by kernel_rfl) (by rfl) (fun K' hK => ?_)
    go_simp
    (go_at_call 42; (with_reducible refine (HT0.out _ (Ext.trans HX20.out Ew27.out)).mono ?_); rintro e w28 ⟨rfl, hx⟩; refine hK _ _ hx ?_; clear hK)
    have Ew28 := Lib.hid (Ext.trans Ew27.out hx)
    clear hx
    try simp only [Act.put, List.setIfInBounds_toArray, List.set_cons_zero, List.set_cons_succ]
    refine ext_take (i := 53) (v := ?_) rfl (by kernel_rfl) (by kernel_rfl) (by kernel_rfl) (fun _ _ _ h => h) (by rfl) ?_ ?_
    rotate_left
    · intro W hW; have hW0 := Ext.trans Ew28.out hW; clear hW; go_simp <;> with_reducible rfl
    try simp only [Act.put, List.setIfInBounds_toArray, List.set_cons_zero, List.set_cons_succ]
    refine ext_take (i := 54) (v := ?_) rfl (by kernel_rfl) (by kernel_rfl) (by kernel_rfl) (fun _ _ _ h => h) (by rfl) ?_ ?_
    rotate_left
    · intro W hW; have hW0 := Ext.trans Ew28.out hW; clear hW; go_simp <;> with_reducible rfl
    try simp only [Act.put, List.setIfInBounds_toArray, List.set_cons_zero, List.set_cons_succ]
    refine ext_take (i := 55) (v := ?_) rfl (by kernel_rfl) (by kernel_rfl) (by kernel_rfl) (fun _ _ _ h => h) (by rfl) ?_ ?_
    rotate_left
    · intro W hW; have hW0 := Ext.trans Ew28.out hW; clear hW; go_simp <;> with_reducible rfl
    try simp only [Act.put, List.setIfInBounds_toArray, List.set_cons_zero, List.set_cons_succ]
    refine wpAnyH_done (by kernel_rfl) ?_ _
    go_wp2
    try go_ret
    exact hD.out _ _ ⟨rfl, Ext.trans HB0.out (Ext.trans HE10.out (Ext.trans HX20.out Ew28.out))⟩
  obtain ⟨jp, hjp⟩ : ∃ jp : Nat, (j : Int) - 1 = (jp : Int) := ⟨j - 1, by omega⟩
  obtain ⟨xp, hxp⟩ : ∃ xp, xp = la[jp]'(by omega) := ⟨_, rfl⟩
  have HAB1 : Hid (∀ W, Ext w10 W → Calls Try.prog 38 #[.agg #[.int .i64 ea, .slice (some ⟨b, o, none⟩) la.length c1], .int .i64 node] W fun e w' => e = .returned (.int .i64 xp) ∧ Ext W w') := fun W h => by have := HAB.out W h; rwa [beside_in (-1) hi jp (by omega) (by omega), ← hxp] at this
  have u1 : (0 : Int) < (j : Int) := by omega
  have fp : ∀ W, Ext w10 W → W.cell? ⟨b, o + jp, none⟩ = some (.int .i64 xp) := fun W h => by rw [hxp]; exact HCELL.out jp (by omega) W h
  have u2 : jp < la.length := by omega
  have u3 : (jp : Int) < (la.length : Int) := by omega
  have u4 : (0 : Int) ≤ (jp : Int) := by omega
  obtain ⟨jq, hjq⟩ : ∃ jq : Nat, (j : Int) + 1 = (jq : Int) := ⟨j + 1, by omega⟩
  obtain ⟨xq, hxq⟩ : ∃ xq, xq = la[jq]'(by omega) := ⟨_, rfl⟩
  have HBE1 : Hid (∀ W, Ext w10 W → Calls Try.prog 52 #[.agg #[.int .i64 ea, .slice (some ⟨b, o, none⟩) la.length c1], .int .i64 node] W fun e w' => e = .returned (.int .i64 xq) ∧ Ext W w') := fun W h => by have := HBE.out W h; rwa [beside_in 1 hi jq (by omega) (by omega), ← hxq] at this
  have v1 : (j : Int) < (m : Int) := by omega
  have fq : ∀ W, Ext w10 W → W.cell? ⟨b, o + jq, none⟩ = some (.int .i64 xq) := fun W h => by rw [hxq]; exact HCELL.out jq (by omega) W h
  have v2 : jq < la.length := by omega
  have v3 : (jq : Int) < (la.length : Int) := by omega
  have v4 : (0 : Int) ≤ (jq : Int) := by omega
  have w0_ : (0 : Int) ≤ (j : Int) := by omega
  have hnm := HNM.out
  clear hi hz hy HAB HBE hxp hxq
  go_wp2_with (first
    | (go_at_call 44; (with_reducible refine HMA.out.mono ?_); rintro e w11 ⟨rfl, hx⟩; have h11 : Ext w10 w11 := hx; have s0 := fa0 _ h11; have s1 := fa1 _ h11; clear hx)
    | (go_at_call 50; (with_reducible refine (HPL2.out _ h11).mono ?_); rintro e w20 ⟨rfl, hx⟩; have h20 : Ext w10 w20 := Ext.trans h11 hx; have s0 := fa0 _ h20; have s1 := fa1 _ h20; clear hx))
  have HX20 := Lib.hid h20
  have E20 : Hid (Ext w20 w20) := Ext.refl _
  have ga0 : ∀ W, Ext w20 W → W.cell? ⟨w.heap.size, 0, none⟩ = some (.int .i64 ea) := fun W h => fa0 W (Ext.trans HX20.out h)
  have ga1 : ∀ W, Ext w20 W → W.cell? ⟨w.heap.size, 1, none⟩ = some (.slice (some ⟨b, o, none⟩) la.length c1) := fun W h => fa1 W (Ext.trans HX20.out h)
  have g0 : ∀ W, Ext w20 W → W.cell? ⟨b, o, none⟩ = some (.int .i64 x0) := fun W h => f0 W (Ext.trans HX20.out h)
  have gm : ∀ W, Ext w20 W → W.cell? ⟨b, o + m, none⟩ = some (.int .i64 xm) := fun W h => fm W (Ext.trans HX20.out h)
  have hwr := HWR.out
  have hwr2 := HWR2.out
  clear fa0 fa1 f0 fm fz h11 h20 s0 s1
  refine ext_begin (by kernel_rfl) ?_
  have E20d := Lib.hid (Ext.drewR E20.out)
  refine ext_call (i := 0) rfl (by kernel_rfl) (by rfl) (fun K' hK => ?_)
  go_simp
  (go_at_call 45; (with_reducible refine (HTO1.out _ (Ext.trans HX20.out E20d.out)).mono ?_); rintro e w21 ⟨rfl, hx⟩; refine hK _ _ hx ?_; clear hK)
  have Ew21 := Lib.hid (Ext.trans E20d.out hx)
  clear hx
  try simp only [Act.put, List.setIfInBounds_toArray, List.set_cons_zero, List.set_cons_succ]
  refine ext_take (i := 1) (v := ?_) rfl (by kernel_rfl) (by kernel_rfl) (by kernel_rfl) (fun _ _ _ h => h) (by rfl) ?_ ?_
  rotate_left
  · intro W hW; have hW0 := Ext.trans Ew21.out hW; clear hW; go_simp <;> with_reducible rfl
  try simp only [Act.put, List.setIfInBounds_toArray, List.set_cons_zero, List.set_cons_succ]
  refine ext_take (i := 2) (v := ?_) rfl (by kernel_rfl) (by kernel_rfl) (by kernel_rfl) (fun _ _ _ h => h) (by rfl) ?_ ?_
  rotate_left
  · intro W hW; have hW0 := Ext.trans Ew21.out hW; clear hW; go_simp <;> with_reducible rfl
  try simp only [Act.put, List.setIfInBounds_toArray, List.set_cons_zero, List.set_cons_succ]
  refine ext_take (i := 3) (v := ?_) rfl (by kernel_rfl) (by kernel_rfl) (by kernel_rfl) (fun _ _ _ h => h) (by rfl) ?_ ?_
  rotate_left
  · intro W hW; have hW0 := Ext.trans Ew21.out hW; clear hW; go_simp <;> with_reducible rfl
  try simp only [Act.put, List.setIfInBounds_toArray, List.set_cons_zero, List.set_cons_succ]
  refine ext_take (i := 5) (v := ?_) rfl (by kernel_rfl) (by kernel_rfl) (by kernel_rfl) (fun _ _ _ h => h) (by rfl) ?_ ?_
  rotate_left
  · intro W hW; have hW0 := Ext.trans Ew21.out hW; clear hW; go_simp <;> with_reducible rfl
  try simp only [Act.put, List.setIfInBounds_toArray, List.set_cons_zero, List.set_cons_succ]
  refine ext_take (i := 6) (v := .bool true) rfl (by kernel_rfl) (by kernel_rfl) (by kernel_rfl) (fun _ _ _ h => h) (by rfl) ?_ ?_
  · intro W hW; have hW0 := Ext.trans Ew21.out hW; clear hW; go_simp; all_goals (first | (simp; done) | omega)
  try simp only [Act.put, List.setIfInBounds_toArray, List.set_cons_zero, List.set_cons_succ]
  refine ext_call (i := 4) rfl (by kernel_rfl) (by rfl) (fun K' hK => ?_)
  go_simp
  (go_at_call 39; (with_reducible refine (HHA1.out _ (Ext.trans HX20.out Ew21.out)).mono ?_); rintro e w22 ⟨rfl, hx⟩; refine hK _ _ hx ?_; clear hK)
  have Ew22 := Lib.hid (Ext.trans Ew21.out hx)
  clear hx
  try simp only [Act.put, List.setIfInBounds_toArray, List.set_cons_zero, List.set_cons_succ]
  refine ext_take (i := 7) (v := .bool true) rfl (by kernel_rfl) (by kernel_rfl) (by kernel_rfl) (fun _ _ _ h => h) (by rfl) ?_ ?_
  · intro W hW; have hW0 := Ext.trans Ew22.out hW; clear hW; go_simp; all_goals (first | (simp; done) | omega)
  try simp only [Act.put, List.setIfInBounds_toArray, List.set_cons_zero, List.set_cons_succ]
  refine ext_take (i := 8) (v := ?_) rfl (by kernel_rfl) (by kernel_rfl) (by kernel_rfl) (fun _ _ _ h => h) (by rfl) ?_ ?_
  rotate_left
  · intro W hW; have hW0 := Ext.trans Ew22.out hW; clear hW; go_simp <;> with_reducible rfl
  try simp only [Act.put, List.setIfInBounds_toArray, List.set_cons_zero, List.set_cons_succ]
  refine ext_take (i := 9) (v := ?_) rfl (by kernel_rfl) (by kernel_rfl) (by kernel_rfl) (fun _ _ _ h => h) (by rfl) ?_ ?_
  rotate_left
  · intro W hW; have hW0 := Ext.trans Ew22.out hW; clear hW; go_simp <;> with_reducible rfl
  try simp only [Act.put, List.setIfInBounds_toArray, List.set_cons_zero, List.set_cons_succ]
  refine ext_take (i := 10) (v := ?_) rfl (by kernel_rfl) (by kernel_rfl) (by kernel_rfl) (fun _ _ _ h => h) (by rfl) ?_ ?_
  rotate_left
  · intro W hW; have hW0 := Ext.trans Ew22.out hW; clear hW; go_simp <;> with_reducible rfl
  try simp only [Act.put, List.setIfInBounds_toArray, List.set_cons_zero, List.set_cons_succ]
  refine ext_take (i := 12) (v := ?_) rfl (by kernel_rfl) (by kernel_rfl) (by kernel_rfl) (fun _ _ _ h => h) (by rfl) ?_ ?_
  rotate_left
  · intro W hW; have hW0 := Ext.trans Ew22.out hW; clear hW; go_simp <;> with_reducible rfl
  try simp only [Act.put, List.setIfInBounds_toArray, List.set_cons_zero, List.set_cons_succ]
  refine ext_take (i := 13) (v := ?_) rfl (by kernel_rfl) (by kernel_rfl) (by kernel_rfl) (fun _ _ _ h => h) (by rfl) ?_ ?_
  rotate_left
  · intro W hW; have hW0 := Ext.trans Ew22.out hW; clear hW; go_simp <;> with_reducible rfl
  try simp only [Act.put, List.setIfInBounds_toArray, List.set_cons_zero, List.set_cons_succ]
  refine ext_take (i := 14) (v := ?_) rfl (by kernel_rfl) (by kernel_rfl) (by kernel_rfl) (fun _ _ _ h => h) (by rfl) ?_ ?_
  rotate_left
  · intro W hW; have hW0 := Ext.trans Ew22.out hW; clear hW; go_simp <;> with_reducible rfl
  try simp only [Act.put, List.setIfInBounds_toArray, List.set_cons_zero, List.set_cons_succ]
  refine ext_take (i := 15) (v := ?_) rfl (by kernel_rfl) (by kernel_rfl) (by kernel_rfl) (fun _ _ _ h => h) (by rfl) ?_ ?_
  rotate_left
  · intro W hW; have hW0 := Ext.trans Ew22.out hW; clear hW; go_simp <;> with_reducible rfl
  try simp only [Act.put, List.setIfInBounds_toArray, List.set_cons_zero, List.set_cons_succ]
  refine ext_call (i := 11) rfl (by kernel_rfl) (by rfl) (fun K' hK => ?_)
  go_simp
  (go_at_call 51; (with_reducible refine (HHD.out _ (Ext.trans HX20.out Ew22.out)).mono ?_); rintro e w23 ⟨rfl, hx⟩; refine hK _ _ hx ?_; clear hK)
  have Ew23 := Lib.hid (Ext.trans Ew22.out hx)
  clear hx
  try simp only [Act.put, List.setIfInBounds_toArray, List.set_cons_zero, List.set_cons_succ]
  refine ext_take (i := 16) (v := .bool true) rfl (by kernel_rfl) (by kernel_rfl) (by kernel_rfl) (fun _ _ _ h => h) (by rfl) ?_ ?_
  · intro W hW; have hW0 := Ext.trans Ew23.out hW; clear hW; go_simp; all_goals (first | (simp; done) | omega)
  try simp only [Act.put, List.setIfInBounds_toArray, List.set_cons_zero, List.set_cons_succ]
  refine ext_take (i := 17) (v := ?_) rfl (by kernel_rfl) (by kernel_rfl) (by kernel_rfl) (fun _ _ _ h => h) (by rfl) ?_ ?_
  rotate_left
  · intro W hW; have hW0 := Ext.trans Ew23.out hW; clear hW; go_simp <;> with_reducible rfl
  try simp only [Act.put, List.setIfInBounds_toArray, List.set_cons_zero, List.set_cons_succ]
  refine ext_take (i := 18) (v := ?_) rfl (by kernel_rfl) (by kernel_rfl) (by kernel_rfl) (fun _ _ _ h => h) (by rfl) ?_ ?_
  rotate_left
  · intro W hW; have hW0 := Ext.trans Ew23.out hW; clear hW; go_simp <;> with_reducible rfl
  try simp only [Act.put, List.setIfInBounds_toArray, List.set_cons_zero, List.set_cons_succ]
  refine ext_take (i := 19) (v := ?_) rfl (by kernel_rfl) (by kernel_rfl) (by kernel_rfl) (fun _ _ _ h => h) (by rfl) ?_ ?_
  rotate_left
  · intro W hW; have hW0 := Ext.trans Ew23.out hW; clear hW; go_simp <;> with_reducible rfl
  try simp only [Act.put, List.setIfInBounds_toArray, List.set_cons_zero, List.set_cons_succ]
  refine ext_take (i := 21) (v := ?_) rfl (by kernel_rfl) (by kernel_rfl) (by kernel_rfl) (fun _ _ _ h => h) (by rfl) ?_ ?_
  rotate_left
  · intro W hW; have hW0 := Ext.trans Ew23.out hW; clear hW; go_simp <;> with_reducible rfl
  try simp only [Act.put, List.setIfInBounds_toArray, List.set_cons_zero, List.set_cons_succ]
  refine ext_take (i := 22) (v := ?_) rfl (by kernel_rfl) (by kernel_rfl) (by kernel_rfl) (fun _ _ _ h => h) (by rfl) ?_ ?_
  rotate_left
  · intro W hW; have hW0 := Ext.trans Ew23.out hW; clear hW; go_simp <;> with_reducible rfl
  try simp only [Act.put, List.setIfInBounds_toArray, List.set_cons_zero, List.set_cons_succ]
  refine ext_take (i := 23) (v := ?_) rfl (by kernel_rfl) (by kernel_rfl) (by kernel_rfl) (fun _ _ _ h => h) (by rfl) ?_ ?_
  rotate_left
  · intro W hW; have hW0 := Ext.trans Ew23.out hW; clear hW; go_simp <;> with_reducible rfl
  try simp only [Act.put, List.setIfInBounds_toArray, List.set_cons_zero, List.set_cons_succ]
  refine ext_take (i := 24) (v := ?_) rfl (by kernel_rfl) (by kernel_rfl) (by kernel_rfl) (fun _ _ _ h => h) (by rfl) ?_ ?_
  rotate_left
  · intro W hW; have hW0 := Ext.trans Ew23.out hW; clear hW; go_simp <;> with_reducible rfl
  try simp only [Act.put, List.setIfInBounds_toArray, List.set_cons_zero, List.set_cons_succ]
  refine ext_take (i := 25) (v := ?_) rfl (by kernel_rfl) (by kernel_rfl) (by kernel_rfl) (fun _ _ _ h => h) (by rfl) ?_ ?_
  rotate_left
  · intro W hW; have hW0 := Ext.trans Ew23.out hW; clear hW; go_simp <;> with_reducible rfl
  try simp only [Act.put, List.setIfInBounds_toArray, List.set_cons_zero, List.set_cons_succ]
  refine ext_take (i := 26) (v := ?_) rfl (by kernel_rfl) (by kernel_rfl) (by kernel_rfl) (fun _ _ _ h => h) (by rfl) ?_ ?_
  rotate_left
  · intro W hW; have hW0 := Ext.trans Ew23.out hW; clear hW; go_simp <;> with_reducible rfl
  try simp only [Act.put, List.setIfInBounds_toArray, List.set_cons_zero, List.set_cons_succ]
  refine ext_take (i := 27) (v := ?_) rfl (by kernel_rfl) (by kernel_rfl) (by kernel_rfl) (fun _ _ _ h => h) (by rfl) ?_ ?_
  rotate_left
  · intro W hW; have hW0 := Ext.trans Ew23.out hW; clear hW; go_simp <;> with_reducible rfl
  try simp only [Act.put, List.setIfInBounds_toArray, List.set_cons_zero, List.set_cons_succ]
  refine ext_take (i := 28) (v := ?_) rfl (by kernel_rfl) (by kernel_rfl) (by kernel_rfl) (fun _ _ _ h => h) (by rfl) ?_ ?_
  rotate_left
  · intro W hW; have hW0 := Ext.trans Ew23.out hW; clear hW; go_simp <;> with_reducible rfl
  try simp only [Act.put, List.setIfInBounds_toArray, List.set_cons_zero, List.set_cons_succ]
  refine ext_call (i := 20) rfl (by kernel_rfl) (by rfl) (fun K' hK => ?_)
  go_simp
  (go_at_call 42; (with_reducible refine (HTL.out _ (Ext.trans HX20.out Ew23.out)).mono ?_); rintro e w24 ⟨rfl, hx⟩; refine hK _ _ hx ?_; clear hK)
  have Ew24 := Lib.hid (Ext.trans Ew23.out hx)
  clear hx
  try simp only [Act.put, List.setIfInBounds_toArray, List.set_cons_zero, List.set_cons_succ]
  refine ext_take (i := 29) (v := .bool true) rfl (by kernel_rfl) (by kernel_rfl) (by kernel_rfl) (fun _ _ _ h => h) (by rfl) ?_ ?_
  · intro W hW; have hW0 := Ext.trans Ew24.out hW; clear hW; go_simp; all_goals (first | (simp; done) | omega)
  try simp only [Act.put, List.setIfInBounds_toArray, List.set_cons_zero, List.set_cons_succ]
  refine ext_take (i := 30) (v := ?_) rfl (by kernel_rfl) (by kernel_rfl) (by kernel_rfl) (fun _ _ _ h => h) (by rfl) ?_ ?_
  rotate_left
  · intro W hW; have hW0 := Ext.trans Ew24.out hW; clear hW; go_simp <;> with_reducible rfl
  try simp only [Act.put, List.setIfInBounds_toArray, List.set_cons_zero, List.set_cons_succ]
  refine ext_take (i := 31) (v := ?_) rfl (by kernel_rfl) (by kernel_rfl) (by kernel_rfl) (fun _ _ _ h => h) (by rfl) ?_ ?_
  rotate_left
  · intro W hW; have hW0 := Ext.trans Ew24.out hW; clear hW; go_simp <;> with_reducible rfl
  try simp only [Act.put, List.setIfInBounds_toArray, List.set_cons_zero, List.set_cons_succ]
  refine ext_take (i := 32) (v := ?_) rfl (by kernel_rfl) (by kernel_rfl) (by kernel_rfl) (fun _ _ _ h => h) (by rfl) ?_ ?_
  rotate_left
  · intro W hW; have hW0 := Ext.trans Ew24.out hW; clear hW; go_simp <;> with_reducible rfl
  try simp only [Act.put, List.setIfInBounds_toArray, List.set_cons_zero, List.set_cons_succ]
  refine ext_take (i := 33) (v := ?_) rfl (by kernel_rfl) (by kernel_rfl) (by kernel_rfl) (fun _ _ _ h => h) (by rfl) ?_ ?_
  rotate_left
  · intro W hW; have hW0 := Ext.trans Ew24.out hW; clear hW; go_simp <;> with_reducible rfl
  try simp only [Act.put, List.setIfInBounds_toArray, List.set_cons_zero, List.set_cons_succ]
  refine ext_take (i := 35) (v := ?_) rfl (by kernel_rfl) (by kernel_rfl) (by kernel_rfl) (fun _ _ _ h => h) (by rfl) ?_ ?_
  rotate_left
  · intro W hW; have hW0 := Ext.trans Ew24.out hW; clear hW; go_simp <;> with_reducible rfl
  try simp only [Act.put, List.setIfInBounds_toArray, List.set_cons_zero, List.set_cons_succ]
  refine ext_call (i := 34) rfl (by kernel_rfl) (by rfl) (fun K' hK => ?_)
  go_simp
  (go_at_call 38; (with_reducible refine (HAB1.out _ (Ext.trans HX20.out Ew24.out)).mono ?_); rintro e w25 ⟨rfl, hx⟩; refine hK _ _ hx ?_; clear hK)
  have Ew25 := Lib.hid (Ext.trans Ew24.out hx)
  clear hx
  try simp only [Act.put, List.setIfInBounds_toArray, List.set_cons_zero, List.set_cons_succ]
  refine ext_take (i := 36) (v := .bool true) rfl (by kernel_rfl) (by kernel_rfl) (by kernel_rfl) (fun _ _ _ h => h) (by rfl) ?_ ?_
  · intro W hW; have hW0 := Ext.trans Ew25.out hW; clear hW; go_simp; all_goals (first | (simp; done) | omega)
  try simp only [Act.put, List.setIfInBounds_toArray, List.set_cons_zero, List.set_cons_succ]
  refine ext_take (i := 37) (v := ?_) rfl (by kernel_rfl) (by kernel_rfl) (by kernel_rfl) (fun _ _ _ h => h) (by rfl) ?_ ?_
  rotate_left
  · intro W hW; have hW0 := Ext.trans Ew25.out hW; clear hW; go_simp <;> with_reducible rfl
  try simp only [Act.put, List.setIfInBounds_toArray, List.set_cons_zero, List.set_cons_succ]
  refine ext_take (i := 38) (v := ?_) rfl (by kernel_rfl) (by kernel_rfl) (by kernel_rfl) (fun _ _ _ h => h) (by rfl) ?_ ?_
  rotate_left
  · intro W hW; have hW0 := Ext.trans Ew25.out hW; clear hW; go_simp <;> with_reducible rfl
  try simp only [Act.put, List.setIfInBounds_toArray, List.set_cons_zero, List.set_cons_succ]
  refine ext_take (i := 39) (v := ?_) rfl (by kernel_rfl) (by kernel_rfl) (by kernel_rfl) (fun _ _ _ h => h) (by rfl) ?_ ?_
  rotate_left
  · intro W hW; have hW0 := Ext.trans Ew25.out hW; clear hW; go_simp <;> with_reducible rfl
  try simp only [Act.put, List.setIfInBounds_toArray, List.set_cons_zero, List.set_cons_succ]
  refine ext_take (i := 40) (v := ?_) rfl (by kernel_rfl) (by kernel_rfl) (by kernel_rfl) (fun _ _ _ h => h) (by rfl) ?_ ?_
  rotate_left
  · intro W hW; have hW0 := Ext.trans Ew25.out hW; clear hW; go_simp <;> with_reducible rfl
  try simp only [Act.put, List.setIfInBounds_toArray, List.set_cons_zero, List.set_cons_succ]
  refine ext_take (i := 42) (v := ?_) rfl (by kernel_rfl) (by kernel_rfl) (by kernel_rfl) (fun _ _ _ h => h) (by rfl) ?_ ?_
  rotate_left
  · intro W hW; have hW0 := Ext.trans Ew25.out hW; clear hW; go_simp <;> with_reducible rfl
  try simp only [Act.put, List.setIfInBounds_toArray, List.set_cons_zero, List.set_cons_succ]
  refine ext_call (i := 41) rfl (by kernel_rfl) (by rfl) (fun K' hK => ?_)
  go_simp
  (go_at_call 52; (with_reducible refine (HBE1.out _ (Ext.trans HX20.out Ew25.out)).mono ?_); rintro e w26 ⟨rfl, hx⟩; refine hK _ _ hx ?_; clear hK)
  have Ew26 := Lib.hid (Ext.trans Ew25.out hx)
  clear hx
  try simp only [Act.put, List.setIfInBounds_toArray, List.set_cons_zero, List.set_cons_succ]
  refine ext_take (i := 43) (v := .bool true) rfl (by kernel_rfl) (by kernel_rfl) (by kernel_rfl) (fun _ _ _ h => h) (by rfl) ?_ ?_
  · intro W hW; have hW0 := Ext.trans Ew26.out hW; clear hW; go_simp; all_goals (first | (simp; done) | omega)
  try simp only [Act.put, List.setIfInBounds_toArray, List.set_cons_zero, List.set_cons_succ]
  refine ext_take (i := 44) (v := ?_) rfl (by kernel_rfl) (by kernel_rfl) (by kernel_rfl) (fun _ _ _ h => h) (by rfl) ?_ ?_
  rotate_left
  · intro W hW; have hW0 := Ext.trans Ew26.out hW; clear hW; go_simp <;> with_reducible rfl
  try simp only [Act.put, List.setIfInBounds_toArray, List.set_cons_zero, List.set_cons_succ]
  refine ext_take (i := 45) (v := ?_) rfl (by kernel_rfl) (by kernel_rfl) (by kernel_rfl) (fun _ _ _ h => h) (by rfl) ?_ ?_
  rotate_left
  · intro W hW; have hW0 := Ext.trans Ew26.out hW; clear hW; go_simp <;> with_reducible rfl
  try simp only [Act.put, List.setIfInBounds_toArray, List.set_cons_zero, List.set_cons_succ]
  refine ext_take (i := 46) (v := ?_) rfl (by kernel_rfl) (by kernel_rfl) (by kernel_rfl) (fun _ _ _ h => h) (by rfl) ?_ ?_
  rotate_left
  · intro W hW; have hW0 := Ext.trans Ew26.out hW; clear hW; go_simp <;> with_reducible rfl
  try simp only [Act.put, List.setIfInBounds_toArray, List.set_cons_zero, List.set_cons_succ]
  refine ext_call (i := 47) rfl (by kernel_rfl) (by rfl) (fun K' hK => ?_)
  go_simp
  (go_at_call 51; (with_reducible refine (HH0.out _ (Ext.trans HX20.out Ew26.out)).mono ?_); rintro e w27 ⟨rfl, hx⟩; refine hK _ _ hx ?_; clear hK)
  have Ew27 := Lib.hid (Ext.trans Ew26.out hx)
  clear hx
  try simp only [Act.put, List.setIfInBounds_toArray, List.set_cons_zero, List.set_cons_succ]
  refine ext_take (i := 48) (v := ?_) rfl (by kernel_rfl) (by kernel_rfl) (by kernel_rfl) (fun _ _ _ h => h) (by rfl) ?_ ?_
  rotate_left
  · intro W hW; have hW0 := Ext.trans Ew27.out hW; clear hW; go_simp <;> with_reducible rfl
  try simp only [Act.put, List.setIfInBounds_toArray, List.set_cons_zero, List.set_cons_succ]
  refine ext_take (i := 49) (v := ?_) rfl (by kernel_rfl) (by kernel_rfl) (by kernel_rfl) (fun _ _ _ h => h) (by rfl) ?_ ?_
  rotate_left
  · intro W hW; have hW0 := Ext.trans Ew27.out hW; clear hW; go_simp <;> with_reducible rfl
  try simp only [Act.put, List.setIfInBounds_toArray, List.set_cons_zero, List.set_cons_succ]
  refine ext_take (i := 50) (v := ?_) rfl (by kernel_rfl) (by kernel_rfl) (by kernel_rfl) (fun _ _ _ h => h) (by rfl) ?_ ?_
  rotate_left
  · intro W hW; have hW0 := Ext.trans Ew27.out hW; clear hW; go_simp <;> with_reducible rfl
  try simp only [Act.put, List.setIfInBounds_toArray, List.set_cons_zero, List.set_cons_succ]
  refine ext_take (i := 51) (v := ?_) rfl (by kernel_rfl) (by kernel_rfl) (by kernel_rfl) (fun _ _ _ h => h) (by rfl) ?_ ?_
  rotate_left
  · intro W hW; have hW0 := Ext.trans Ew27.out hW; clear hW; go_simp <;> with_reducible rfl
  try simp only [Act.put, List.setIfInBounds_toArray, List.set_cons_zero, List.set_cons_succ]
  refine ext_call (i := 52) rfl (by kernel_rfl) (by rfl) (fun K' hK => ?_)
  go_simp
  (go_at_call 42; (with_reducible refine (HT0.out _ (Ext.trans HX20.out Ew27.out)).mono ?_); rintro e w28 ⟨rfl, hx⟩; refine hK _ _ hx ?_; clear hK)
  have Ew28 := Lib.hid (Ext.trans Ew27.out hx)
  clear hx
  try simp only [Act.put, List.setIfInBounds_toArray, List.set_cons_zero, List.set_cons_succ]
  refine ext_take (i := 53) (v := ?_) rfl (by kernel_rfl) (by kernel_rfl) (by kernel_rfl) (fun _ _ _ h => h) (by rfl) ?_ ?_
  rotate_left
  · intro W hW; have hW0 := Ext.trans Ew28.out hW; clear hW; go_simp <;> with_reducible rfl
  try simp only [Act.put, List.setIfInBounds_toArray, List.set_cons_zero, List.set_cons_succ]
  refine ext_take (i := 54) (v := ?_) rfl (by kernel_rfl) (by kernel_rfl) (by kernel_rfl) (fun _ _ _ h => h) (by rfl) ?_ ?_
  rotate_left
  · intro W hW; have hW0 := Ext.trans Ew28.out hW; clear hW; go_simp <;> with_reducible rfl
  try simp only [Act.put, List.setIfInBounds_toArray, List.set_cons_zero, List.set_cons_succ]
  refine ext_take (i := 55) (v := ?_) rfl (by kernel_rfl) (by kernel_rfl) (by kernel_rfl) (fun _ _ _ h => h) (by rfl) ?_ ?_
  rotate_left
  · intro W hW; have hW0 := Ext.trans Ew28.out hW; clear hW; go_simp <;> with_reducible rfl
  try simp only [Act.put, List.setIfInBounds_toArray, List.set_cons_zero, List.set_cons_succ]
  refine wpAnyH_done (by kernel_rfl) ?_ _
  go_wp2
  try go_ret
  exact hD.out _ _ ⟨rfl, Ext.trans HB0.out (Ext.trans HE10.out (Ext.trans HX20.out Ew28.out))⟩

theorem law_chainAsks {H : Type} {enc : TypeId × Value → H} (W : World) (base : Nat) (args : Array Value) (ds : List (DataW H)) (p : List MemPlace)
    (hval : ∀ (j : Nat) t v, Try.f11.params[j]? = some t → args[j]? = some v → Value.okWide Try.prog W .any base t v)
    (hA : DataW.TrodAll enc Try.prog W 0 (fun _ => true) true Try.f11.params.toList args.toList ds p) :
    Calls Try.prog 11 args W fun e W' => e = .returned (.bool true) ∧ Below W.heap.size W W' := by
  rw [Try.params11] at hA hval
  obtain ⟨v0, vs0, d0, ds0, p0, q0, hargs, rfl, rfl, h0, r0⟩ := trodAll_cons hA
  obtain ⟨v1, vs1, d1, ds1, p1, q1, rfl, rfl, rfl, h1, r1⟩ := trodAll_cons r0
  obtain ⟨v2, vs2, d2, ds2, p2, q2, rfl, rfl, rfl, h2, r2⟩ := trodAll_cons r1
  obtain ⟨v3, vs3, d3, ds3, p3, q3, rfl, rfl, rfl, h3, r3⟩ := trodAll_cons r2
  obtain ⟨rfl, rfl, rfl⟩ := trodAll_nil r3
  obtain rfl : args = #[v0, v1, v2, v3] := by cases args; simp_all
  obtain ⟨ep0, A0, c0, l0, rfl, w0, x0, y0, z0, g0⟩ := open_chain (hval 0 50 v0 rfl rfl) h0
  obtain ⟨ep1, A1, c1, l1, rfl, w1, x1, y1, z1, g1⟩ := open_chain (hval 1 50 v1 rfl rfl) h1
  obtain ⟨a2, rfl, rfl, rfl, w2⟩ := open_int Try.underlying3 (hval 2 3 v2 rfl rfl) h2
  obtain ⟨a3, rfl, rfl, rfl, w3⟩ := open_int Try.underlying3 (hval 3 3 v3 rfl rfl) h3
  exact walk_chainAsks ep0 A0 c0 l0 ep1 A1 c1 l1 a2 a3 W (Nat.le_trans x0 y0) (Nat.le_trans x1 y1) x0 x1 z0 z1

end Go.Proofs.Ytdjkopdgapifpaa
