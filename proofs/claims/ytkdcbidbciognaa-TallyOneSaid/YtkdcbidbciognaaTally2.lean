/-
  Walks of package tally, further: a new count, what is proposed.
-/
import Derived.Test.YtkdcbidbciognaaTally
namespace Go.Proofs.Ytkdcbidbciognaa
set_option linter.unusedVariables false
set_option linter.unusedSimpArgs false
open Go.RowKit

set_option maxHeartbeats 4000000 in
theorem new_ok (n br bn ep : Int) (A : Option Addr) (cap : Nat) (l : List Int) (w : World) (hn : 1 ≤ n ∧ n ≤ 5) (hb : mayBal br bn = true) (hc : mayChainB ep l = true) (hl : l.length ≤ 1000000) (hcap : l.length ≤ cap) (hs : Sl i64 w A l) :
    Calls Try.prog 12 #[.int .i64 n, .agg #[.int .i64 br, .int .i64 bn], .agg #[.int .i64 ep, .slice A l.length cap]] w fun e w' => ∃ P, e = .returned (.tuple #[.pointer (some ⟨P, 0, none⟩), .int .i64 0]) ∧ Below w.heap.size w w' ∧
      TAt w' w.heap.size P (fun k => k < w.heap.size) ⟨n, br, bn, ep, l, [], [], false, 0, 0, 0, []⟩ := by
  refine hide_post fun D hD => ?_
  obtain ⟨w0, hw0⟩ : ∃ w0, w0 = (w.alloc (.cells #[.int .i64 br, .int .i64 bn] 23)).alloc (.cells #[.int .i64 ep, .slice A l.length cap] 26) := ⟨_, rfl⟩
  have hb0 : Ext w w0 := by rw [hw0]; exact ((Below.refl _ _).alloc (Nat.le_refl _) _).alloc (by simp) _
  have K0 : Hid (Blk w0 w.heap.size 23 #[.int .i64 br, .int .i64 bn]) := by show Blk _ _ _ _; rw [hw0]; exact (Blk.new _ _ _).alloc _
  have K1 : Hid (Blk w0 (w.heap.size + 1) 26 #[.int .i64 ep, .slice A l.length cap]) := by show Blk _ _ _ _; rw [hw0]; exact Blk.new' _ _ _ _ (by simp)
  have HM : Hid (∀ W, Calls Try.prog 44 #[.agg #[.int .i64 br, .int .i64 bn]] W fun e w' => e = .returned (.bool true) ∧ Ext W w') := fun W => by rw [← hb]; exact mayBal_any br bn W
  have HC : Hid (∀ W, Ext w0 W → Calls Try.prog 45 #[.agg #[.int .i64 ep, .slice A l.length cap]] W fun e w' => e = .returned (.bool true) ∧ Ext W w') := fun W h => by rw [← hc]; exact mayChain_any ep A cap l W (by omega) hcap (hs.stay (Ext.trans hb0 h))
  have HP : Hid (∀ W, Ext w0 W → Calls Try.prog 46 #[.agg #[.int .i64 ep, .slice A l.length cap]] W fun e w' => ∃ v, e = .returned (.agg #[.int .i64 ep, v]) ∧ Ext W w' ∧ w'.ownsRow W.heap.size 3 1 v l.length (l.map i64)) := fun W h => (copied_any ep A cap l W (by omega) (hs.stay (Ext.trans hb0 h))).mono fun _ _ ⟨v, he, h1, h2⟩ => ⟨v, he, h2, h1⟩
  have HB0 := Lib.hid hb0
  have HW0 := Lib.hid hw0
  obtain ⟨n0, n1⟩ := hn
  clear hw0 hb0 hb hc hs
  go_enter Try.func12, Try.ntmps12
  go_wp2_with (first
    | (go_at_call 44; rw [← HW0.out]; (with_reducible refine (HM.out _).mono ?_); rintro e w1 ⟨rfl, hx⟩; have a0 := (K1.out.stay hx).cell 0; have a1 := (K1.out.stay hx).cell 1; have X1 := Lib.hid hx; clear hx)
    | (go_at_call 45; (with_reducible refine (HC.out _ X1.out).mono ?_); rintro e w2 ⟨rfl, hx⟩; have X2 : Hid (Ext w0 w2) := Ext.trans X1.out hx; clear hx))
  clear a0 a1
  have fb0 : ∀ W, Ext w0 W → W.cell? ⟨w.heap.size, 0, none⟩ = some (.int .i64 br) := fun W h => (K0.out.stay h).cell 0
  have fb1 : ∀ W, Ext w0 W → W.cell? ⟨w.heap.size, 1, none⟩ = some (.int .i64 bn) := fun W h => (K0.out.stay h).cell 1
  have fc0 : ∀ W, Ext w0 W → W.cell? ⟨w.heap.size + 1, 0, none⟩ = some (.int .i64 ep) := fun W h => (K1.out.stay h).cell 0
  have fc1 : ∀ W, Ext w0 W → W.cell? ⟨w.heap.size + 1, 1, none⟩ = some (.slice A l.length cap) := fun W h => (K1.out.stay h).cell 1
  refine ext_begin (by kernel_rfl) ?_
  have X2d := Lib.hid (Ext.drewR X2.out)
  refine ext_take (i := 0) (v := ?_) rfl (by kernel_rfl) (by kernel_rfl) (by kernel_rfl) (fun _ _ _ h => h) (by rfl) ?_ ?_
  rotate_left
  · intro W hW; have hW0 := Ext.trans X2d.out hW; clear hW; go_simp <;> with_reducible rfl
  try simp only [Act.put, List.setIfInBounds_toArray, List.set_cons_zero, List.set_cons_succ]
  refine ext_take (i := 1) (v := ?_) rfl (by kernel_rfl) (by kernel_rfl) (by kernel_rfl) (fun _ _ _ h => h) (by rfl) ?_ ?_
  rotate_left
  · intro W hW; have hW0 := Ext.trans X2d.out hW; clear hW; go_simp <;> with_reducible rfl
  try simp only [Act.put, List.setIfInBounds_toArray, List.set_cons_zero, List.set_cons_succ]
  refine ext_take (i := 2) (v := ?_) rfl (by kernel_rfl) (by kernel_rfl) (by kernel_rfl) (fun _ _ _ h => h) (by rfl) ?_ ?_
  rotate_left
  · intro W hW; have hW0 := Ext.trans X2d.out hW; clear hW; go_simp <;> with_reducible rfl
  try simp only [Act.put, List.setIfInBounds_toArray, List.set_cons_zero, List.set_cons_succ]
  refine ext_call (i := 3) rfl (by kernel_rfl) (by rfl) (fun K hK => ?_)
  go_simp
  (go_at_call 46; (with_reducible refine (HP.out _ X2d.out).mono ?_); rintro e w3 ⟨v, rfl, hx, ho⟩; refine hK _ _ hx ?_; clear hK)
  have Ew3 := Lib.hid (Ext.trans X2d.out hx)
  obtain ⟨A', c', rfl⟩ := own_shape ho; have HO := Lib.hid ho; clear ho
  clear hx
  try simp only [Act.put, List.setIfInBounds_toArray, List.set_cons_zero, List.set_cons_succ]
  refine ext_take (i := 4) (v := ?_) rfl (by kernel_rfl) (by kernel_rfl) (by kernel_rfl) (fun _ _ _ h => h) (by rfl) ?_ ?_
  rotate_left
  · intro W hW; have hW0 := Ext.trans Ew3.out hW; clear hW; go_simp <;> with_reducible rfl
  try simp only [Act.put, List.setIfInBounds_toArray, List.set_cons_zero, List.set_cons_succ]
  refine ext_call (i := 5) rfl (by kernel_rfl) (by rfl) (fun K hK => ?_)
  go_simp
  refine hK _ _ (Ext.alloc _ _) ?_; clear hK
  have Ea := Lib.hid (Ext.trans Ew3.out (Ext.alloc _ (Obj.cells (tcells ⟨n, br, bn, ep, l, [], [], false, 0, 0, 0, []⟩ (.slice A' l.length c') (.slice none 0 0) (.slice none 0 0) (.slice none 0 0)) 89)))
  try simp only [Act.put, List.setIfInBounds_toArray, List.set_cons_zero, List.set_cons_succ]
  refine ext_take (i := 6) (v := ?_) rfl (by kernel_rfl) (by kernel_rfl) (by kernel_rfl) (fun _ _ _ h => h) (by rfl) ?_ ?_
  rotate_left
  · intro W hW; have hW0 := Ext.trans Ea.out hW; clear hW; go_simp <;> with_reducible rfl
  try simp only [Act.put, List.setIfInBounds_toArray, List.set_cons_zero, List.set_cons_succ]
  refine ext_take (i := 7) (v := ?_) rfl (by kernel_rfl) (by kernel_rfl) (by kernel_rfl) (fun _ _ _ h => h) (by rfl) ?_ ?_
  rotate_left
  · intro W hW; have hW0 := Ext.trans Ea.out hW; clear hW; go_simp <;> with_reducible rfl
  try simp only [Act.put, List.setIfInBounds_toArray, List.set_cons_zero, List.set_cons_succ]
  refine wpAnyH_done (by kernel_rfl) ?_ _
  go_wp2
  have hx := Ext.trans HB0.out Ew3.out
  have hz : w.heap.size ≤ w2.heap.size := (Ext.trans HB0.out X2.out).size
  refine hD.out _ _ ⟨w3.heap.size, rfl, Ext.trans hx (Ext.alloc _ _), hx.size, .slice A' l.length c', .slice none 0 0, .slice none 0 0, .slice none 0 0, Blk.new _ _ _, (own_base (base' := w.heap.size) HO.out (fun k hk => by have h1 := (HO.out.lt k hk).1; have h2 : w2.drew.heap.size = w2.heap.size := rfl; omega)).alloc _, World.ownsRow_nil _ _ _ _, World.ownsRow_nil _ _ _ _, World.ownsRow_nil _ _ _ _, fun k hk => (by cases hk), fun k hk => (by cases hk), fun k hk => ⟨?_, ?_, (by intro h; cases h), (by intro h; cases h), (fun e => by have h1 := (HO.out.lt k e).1; have h2 : w2.drew.heap.size = w2.heap.size := rfl; omega), (by intro h; cases h)⟩⟩
  · have := hx.size; simp; omega
  · have := hx.size; omega

set_option maxHeartbeats 4000000 in
theorem chain_any (base P : Nat) (K : Nat → Prop) (v : TV) (w : World) (H : TAt w base P K v) (hl1 : v.cl.length ≤ 1000000) (hl2 : v.xl.length ≤ 1000000) (ep : Int) (l : List Int) (he : ep = if v.has then v.xep else v.ep) (hl : l = if v.has then v.xl else v.cl) :
    Calls Try.prog 24 #[.pointer (some ⟨P, 0, none⟩)] w fun e w' => ∃ u, e = .returned (.agg #[.int .i64 ep, u]) ∧ w'.ownsRow w.heap.size 3 1 u l.length (l.map i64) ∧ Below w.heap.size w w' := by
  refine hide_post fun D hD => ?_
  obtain ⟨hP, c, p, s, x, h1, h2, h3, h4, h5, h6, h7, h8⟩ := H
  obtain ⟨n, br, bn, ep1, cl, pl, sl, has, xr, xn, xep, xl⟩ := v
  obtain ⟨A1, k1, rfl, s1⟩ := own_view h2
  obtain ⟨A2, k2, rfl, s2⟩ := own_view h5
  have hlt := h1.lt
  have c3 : w.cell? ⟨P, 3, none⟩ = some (.int .i64 ep1) := h1.cell 3
  have c4 : w.cell? ⟨P, 4, none⟩ = some (.slice A1 cl.length k1) := h1.cell 4
  have c7 : w.cell? ⟨P, 7, none⟩ = some (.bool has) := h1.cell 7
  have c10 : w.cell? ⟨P, 10, none⟩ = some (.int .i64 xep) := h1.cell 10
  have c11 : w.cell? ⟨P, 11, none⟩ = some (.slice A2 xl.length k2) := h1.cell 11
  have hb0 : Ext w (w.alloc (.cells #[.int .i64 0, .slice none 0 0] 26)) := Ext.alloc _ _
  simp only at he hl hl1 hl2
  have HK : Hid (Blk (w.alloc (.cells #[.int .i64 0, .slice none 0 0] 26)) w.heap.size 26 #[.int .i64 0, .slice none 0 0]) := Blk.new _ _ _
  cases has
  · simp only [Bool.false_eq_true, if_false] at he hl
    subst he hl
    have HP : Hid (Calls Try.prog 46 #[.agg #[.int .i64 ep, .slice A1 l.length k1]] (w.alloc (.cells #[.int .i64 0, .slice none 0 0] 26)) fun e w' => ∃ v, e = .returned (.agg #[.int .i64 ep, v]) ∧ Ext (w.alloc (.cells #[.int .i64 0, .slice none 0 0] 26)) w' ∧ w'.ownsRow (w.heap.size + 1) 3 1 v l.length (l.map i64)) := (copied_any ep A1 k1 l _ (by omega) (s1.stay hb0)).mono fun _ _ ⟨v, he, h1, h2⟩ => ⟨v, he, h2, by simpa using h1⟩
    clear h1 h2 h3 h4 h5 h6 h7 h8 s1 s2 hb0
    go_enter Try.func24, Try.ntmps24
    go_wp2_with (go_at_call 46; (with_reducible refine HP.out.mono ?_); rintro e w1 ⟨v, rfl, hx, ho⟩; obtain ⟨A', c', rfl⟩ := own_shape ho; have d0 := (HK.out.stay hx).cell 0; have d1 := (HK.out.stay hx).cell 1; have g0 := (HK.out.stay hx).frozen 0; have g1 := (HK.out.stay hx).frozen 1; have HO := Lib.hid ho; have HX := Lib.hid hx; clear ho hx)
    have KA := Lib.hid (((HK.out.stay HX.out).set 0 (.int .i64 ep)).set 1 (.slice A' l.length c'))
    have HF : Hid (Frm (fun k => k = w.heap.size) w1 ((w1.setCell ⟨w.heap.size, 0, none⟩ (.int .i64 ep)).setCell ⟨w.heap.size, 1, none⟩ (.slice A' l.length c'))) := Frm.tr (Frm.of_set _ _ _ rfl) (Frm.of_set _ _ _ rfl)
    have hcA := KA.out.cell 0
    have hcB := KA.out.cell 1
    have hbw : Ext w w1 := Ext.trans (Ext.alloc _ _) HX.out
    have hE := hD.out (.returned (.agg #[.int .i64 ep, .slice A' l.length c'])) _ ⟨_, rfl, own_base (base' := w.heap.size) (own_frm HO.out HF.out (fun k hk e => by have := (HO.out.lt k hk).1; omega)) (fun k hk => by have := (HO.out.lt k hk).1; omega), Frm.step hbw HF.out hbw.size (by rintro k e; omega)⟩
    exact bodyPost_ret (v := .agg #[.int .i64 ep, .slice A' l.length c']) (by simp [results, Try.results24, go_sem, hcA, hcB]) rfl hE
  · simp only [if_true] at he hl
    subst he hl
    have HP : Hid (Calls Try.prog 46 #[.agg #[.int .i64 ep, .slice A2 l.length k2]] (w.alloc (.cells #[.int .i64 0, .slice none 0 0] 26)) fun e w' => ∃ v, e = .returned (.agg #[.int .i64 ep, v]) ∧ Ext (w.alloc (.cells #[.int .i64 0, .slice none 0 0] 26)) w' ∧ w'.ownsRow (w.heap.size + 1) 3 1 v l.length (l.map i64)) := (copied_any ep A2 k2 l _ (by omega) (s2.stay hb0)).mono fun _ _ ⟨v, he, h1, h2⟩ => ⟨v, he, h2, by simpa using h1⟩
    clear h1 h2 h3 h4 h5 h6 h7 h8 s1 s2 hb0
    go_enter Try.func24, Try.ntmps24
    go_wp2_with (go_at_call 46; (with_reducible refine HP.out.mono ?_); rintro e w1 ⟨v, rfl, hx, ho⟩; obtain ⟨A', c', rfl⟩ := own_shape ho; have d0 := (HK.out.stay hx).cell 0; have d1 := (HK.out.stay hx).cell 1; have g0 := (HK.out.stay hx).frozen 0; have g1 := (HK.out.stay hx).frozen 1; have HO := Lib.hid ho; have HX := Lib.hid hx; clear ho hx)
    have KA := Lib.hid (((HK.out.stay HX.out).set 0 (.int .i64 ep)).set 1 (.slice A' l.length c'))
    have HF : Hid (Frm (fun k => k = w.heap.size) w1 ((w1.setCell ⟨w.heap.size, 0, none⟩ (.int .i64 ep)).setCell ⟨w.heap.size, 1, none⟩ (.slice A' l.length c'))) := Frm.tr (Frm.of_set _ _ _ rfl) (Frm.of_set _ _ _ rfl)
    have hcA := KA.out.cell 0
    have hcB := KA.out.cell 1
    have hbw : Ext w w1 := Ext.trans (Ext.alloc _ _) HX.out
    have hE := hD.out (.returned (.agg #[.int .i64 ep, .slice A' l.length c'])) _ ⟨_, rfl, own_base (base' := w.heap.size) (own_frm HO.out HF.out (fun k hk e => by have := (HO.out.lt k hk).1; omega)) (fun k hk => by have := (HO.out.lt k hk).1; omega), Frm.step hbw HF.out hbw.size (by rintro k e; omega)⟩
    exact bodyPost_ret (v := .agg #[.int .i64 ep, .slice A' l.length c']) (by simp [results, Try.results24, go_sem, hcA, hcB]) rfl hE

set_option maxHeartbeats 4000000 in
theorem yes_no (base P : Nat) (K : Nat → Prop) (v : TV) (node : Int) (w : World) (H : TAt w base P K v) (hn : 0 ≤ v.n ∧ v.n ≤ 5) (hm : mostI v.n ≤ v.pl.length) (h0 : 0 ≤ node) (h1 : node < v.n) (hi : node ∈ v.sl) (hl : v.sl.length ≤ 1000000) :
    Calls Try.prog 19 #[.pointer (some ⟨P, 0, none⟩), .int .i64 node] w fun e w' => e = .returned (.bool false) ∧ Below w.heap.size w w' := by
  have HR : Hid (Calls Try.prog 21 #[.pointer (some ⟨P, 0, none⟩)] w fun e w' => e = .returned (.bool true) ∧ Ext w w') := by have := ready_any base P K v w H hn; rw [decide_eq_true hm] at this; exact this
  have HA : Hid (∀ W, Ext w W → (∃ A cap, W.cell? ⟨P, 6, none⟩ = some (.slice A v.sl.length cap) ∧ W.cell? ⟨P, 0, none⟩ = some (.int .i64 v.n)) ∧ Calls Try.prog 47 #[.pointer (some ⟨P, 6, none⟩), .int .i64 node] W fun e w' => e = .returned (.bool false) ∧ Ext W w') := fun W hW => by
    obtain ⟨hP, c, p, s, x, h1, h2, h3, h4, h5, h6, h7, h8⟩ := H.stay hW
    obtain ⟨A, cap, rfl, hs⟩ := own_view h4
    exact ⟨⟨A, cap, h1.cell 6, h1.cell 0⟩, (add_no P 6 A cap v.sl node W (by omega) (h1.cell 6) hs hi).mono fun _ _ ⟨he, hw⟩ => ⟨he, hw ▸ Ext.refl _⟩⟩
  clear H hm hi
  obtain ⟨n, br, bn, ep, cl, pl, sl, has, xr, xn, xep, xl⟩ := v
  simp only at *
  generalize sl.length = m at *
  refine hide_post fun D hD => ?_
  go_enter Try.func19, Try.ntmps19
  go_wp2_with (first
    | (go_at_call 21; (with_reducible refine HR.out.mono ?_); rintro e w1 ⟨rfl, hx⟩; obtain ⟨⟨A, cap, q6, q0⟩, ha⟩ := HA.out _ hx; have HA1 := Lib.hid ha; have X1 := Lib.hid hx; clear hx ha)
    | (go_at_call 47; (with_reducible refine HA1.out.mono ?_); rintro e w2 ⟨rfl, hx⟩; have X2 := Lib.hid hx; clear hx))
  try go_ret
  exact hD.out _ _ ⟨rfl, Ext.trans X1.out X2.out⟩

/-- a count with one more in a list -/
theorem TAt.put6 {w w' : World} {base P : Nat} {K : Nat → Prop} {v : TV} {node : Int} {c p s x s' : Value} (hP : base ≤ P) (h1 : Blk w P 89 (tcells v c p s x)) (h2 : w.ownsRow base 3 1 c v.cl.length (v.cl.map i64)) (h3 : w.ownsRow base 3 1 p v.pl.length (v.pl.map i64)) (h4 : w.ownsRow base 3 1 s v.sl.length (v.sl.map i64)) (h5 : w.ownsRow base 3 1 x v.xl.length (v.xl.map i64))
    (h6 : ∀ k, p.ownBlock = some k → c.ownBlock ≠ some k ∧ s.ownBlock ≠ some k ∧ x.ownBlock ≠ some k) (h7 : ∀ k, s.ownBlock = some k → c.ownBlock ≠ some k ∧ x.ownBlock ≠ some k) (h8 : ∀ k, K k → k < w.heap.size ∧ k ≠ P ∧ p.ownBlock ≠ some k ∧ s.ownBlock ≠ some k ∧ c.ownBlock ≠ some k ∧ x.ownBlock ≠ some k)
    (q1 : Blk w' P 89 ((tcells v c p s x).setIfInBounds 6 s')) (q2 : w'.ownsRow base 3 1 s' (v.sl ++ [node]).length ((v.sl ++ [node]).map i64)) (q3 : Frm (fun k => k = P ∨ some k = s.ownBlock) w w') (q4 : s'.ownBlock = s.ownBlock ∨ ∃ k, s'.ownBlock = some k ∧ w.heap.size ≤ k) :
    TAt w' base P K { v with sl := v.sl ++ [node] } ∧ Keep K w w' ∧ Below base w w' := by
  have nP : ∀ u : Value, ∀ n xs, w.ownsRow base 3 1 u n xs → u.ownBlock ≠ some P := fun u n xs hu e => own_type hu h1 (by decide) P e rfl
  have lt : ∀ u : Value, ∀ n xs, w.ownsRow base 3 1 u n xs → ∀ k, u.ownBlock = some k → k < w.heap.size := fun u n xs hu k hk => (hu.lt k hk).2
  have ks : ∀ u : Value, ∀ n (l : List Int), w.ownsRow base 3 1 u n (l.map i64) → (∀ k, s.ownBlock = some k → u.ownBlock ≠ some k) → w'.ownsRow base 3 1 u n (l.map i64) := fun u n l hu hs => own_frm hu q3 (fun k hk => by
    rintro (e | e)
    · exact nP u _ _ hu (e ▸ hk)
    · exact hs k e.symm hk)
  refine ⟨⟨hP, c, p, s', x, q1, ks c _ _ h2 (fun k hk => (h7 k hk).1), ks p _ _ h3 (fun k hk e => (h6 k e).2.1 hk), q2, ks x _ _ h5 (fun k hk => (h7 k hk).2), ?_, ?_, ?_⟩, ?_, ?_⟩
  · intro k hk
    refine ⟨(h6 k hk).1, ?_, (h6 k hk).2.2⟩
    rcases q4 with e | ⟨k', e, hk'⟩
    · rw [e]; exact (h6 k hk).2.1
    · rw [e]; intro e2; injection e2 with e2; have := lt p _ _ h3 k hk; omega
  · intro k hk
    rcases q4 with e | ⟨k', e, hk'⟩
    · exact h7 k (e ▸ hk)
    · rw [e] at hk; injection hk with hk
      exact ⟨fun e2 => by have := lt c _ _ h2 k e2; omega, fun e2 => by have := lt x _ _ h5 k e2; omega⟩
  · intro k hk
    obtain ⟨a1, a2, a3, a4⟩ := h8 k hk
    refine ⟨Nat.lt_of_lt_of_le a1 q3.size, a2, a3, ?_, a4.2⟩
    rcases q4 with e | ⟨k', e, hk'⟩
    · rw [e]; exact a4.1
    · rw [e]; intro e2; injection e2 with e2; omega
  · intro k hk
    obtain ⟨a1, a2, a3, a4⟩ := h8 k hk
    exact q3.block k a1 (by rintro (e | e); exact a2 e; exact a4.1 e.symm)
  · exact q3.below (Nat.le_trans hP (Nat.le_of_lt h1.lt)) (by
      rintro k (rfl | e)
      · exact hP
      · exact (h4.lt k e.symm).1)
end Go.Proofs.Ytkdcbidbciognaa
