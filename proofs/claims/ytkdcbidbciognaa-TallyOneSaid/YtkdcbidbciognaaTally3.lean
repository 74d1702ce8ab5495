/-
  Walks of package tally, further: who accepted, who promised.
-/
import Derived.Test.YtkdcbidbciognaaTally2
namespace Go.Proofs.Ytkdcbidbciognaa
set_option linter.unusedVariables false
set_option linter.unusedSimpArgs false
open Go.RowKit

theorem Keep.of_below {w w' : World} {base P : Nat} {K : Nat → Prop} {v : TV} (H : TAt w base P K v) (h : Below w.heap.size w w') : Keep K w w' := fun k hk => h.block k (by obtain ⟨hP, c, p, s, x, h1, h2, h3, h4, h5, h6, h7, h8⟩ := H; exact (h8 k hk).1)

set_option maxHeartbeats 4000000 in
theorem yes_ok (base P : Nat) (K : Nat → Prop) (v : TV) (node : Int) (w : World) (H : TAt w base P K v) (hn : 0 ≤ v.n ∧ v.n ≤ 5) (hm : mostI v.n ≤ v.pl.length) (h0 : 0 ≤ node) (h1 : node < v.n) (hi : ¬ node ∈ v.sl) (hl : v.sl.length ≤ 1000000) :
    Calls Try.prog 19 #[.pointer (some ⟨P, 0, none⟩), .int .i64 node] w fun e w' => e = .returned (.bool true) ∧ TAt w' base P K { v with sl := v.sl ++ [node] } ∧ Keep K w w' ∧ Below base w w' := by
  have HR : Hid (Calls Try.prog 21 #[.pointer (some ⟨P, 0, none⟩)] w fun e w' => e = .returned (.bool true) ∧ Ext w w') := by have := ready_any base P K v w H hn; rw [decide_eq_true hm] at this; exact this
  have HA : Hid (∀ W, Ext w W → (∃ A cap, W.cell? ⟨P, 6, none⟩ = some (.slice A v.sl.length cap) ∧ W.cell? ⟨P, 0, none⟩ = some (.int .i64 v.n)) ∧ Calls Try.prog 47 #[.pointer (some ⟨P, 6, none⟩), .int .i64 node] W fun e w' => e = .returned (.bool true) ∧ TAt w' base P K { v with sl := v.sl ++ [node] } ∧ Keep K W w' ∧ Below base W w') := fun W hW => by
    obtain ⟨hP, c, p, s, x, h1, h2, h3, h4, h5, h6, h7, h8⟩ := H.stay hW
    obtain ⟨A, cap, rfl, hs⟩ := own_view h4
    refine ⟨⟨A, cap, h1.cell 6, h1.cell 0⟩, (add_yes base P 6 _ _ _ v.sl node W h1 rfl h4 (fun e => own_type h4 h1 (by decide) P e.symm rfl) hi hl (Nat.le_trans hP (Nat.le_of_lt h1.lt))).mono fun _ _ ⟨he, s', q1, q2, q3, q4⟩ => ⟨he, TAt.put6 hP h1 h2 h3 h4 h5 h6 h7 h8 q1 q2 q3 q4⟩⟩
  have HK := Lib.hid fun (w' : World) (h : Ext w w') => Keep.of_below H h
  have HP : Hid (base ≤ w.heap.size) := Nat.le_trans H.1 (Nat.le_of_lt H.lt)
  clear H hm hi
  obtain ⟨n, br, bn, ep, cl, pl, sl, has, xr, xn, xep, xl⟩ := v
  simp only at *
  generalize sl.length = m at *
  refine hide_post fun D hD => ?_
  go_enter Try.func19, Try.ntmps19
  go_wp2_with (first
    | (go_at_call 21; (with_reducible refine HR.out.mono ?_); rintro e w1 ⟨rfl, hx⟩; obtain ⟨⟨A, cap, q6, q0⟩, ha⟩ := HA.out _ hx; have HA1 := Lib.hid ha; have X1 := Lib.hid hx; clear hx ha)
    | (go_at_call 47; (with_reducible refine HA1.out.mono ?_); rintro e w2 ⟨rfl, ht, hk, hb⟩; have X2 := Lib.hid ht; have X3 := Lib.hid hk; have X4 := Lib.hid hb; clear ht hk hb))
  try go_ret
  exact hD.out _ _ ⟨rfl, X2.out, (HK.out _ X1.out).trans X3.out, ((X1.out).mono HP.out).trans X4.out⟩

theorem Sl.keepA {α : Type} {f : α → Value} {w w' : World} {A : Option Addr} {l : List α} {K : Nat → Prop} (h : Sl f w A l) (hk : Keep K w w') (hA : ∀ a, A = some a → K a.block) : Sl f w' A l := fun j v hj => by
  obtain ⟨b, o, e, hc⟩ := h j v hj
  exact ⟨b, o, e, (World.cell?_of_block (hk b (hA _ e))).trans hc⟩

theorem TAt.putx {w w' : World} {base P : Nat} {K : Nat → Prop} {v : TV} {xr xn xep : Int} {xl : List Int} {c p s x u : Value} (hP : base ≤ P) (h1 : Blk w P 89 (tcells v c p s x)) (h2 : w.ownsRow base 3 1 c v.cl.length (v.cl.map i64)) (h3 : w.ownsRow base 3 1 p v.pl.length (v.pl.map i64)) (h4 : w.ownsRow base 3 1 s v.sl.length (v.sl.map i64))
    (h6 : ∀ k, p.ownBlock = some k → c.ownBlock ≠ some k ∧ s.ownBlock ≠ some k) (h7 : ∀ k, s.ownBlock = some k → c.ownBlock ≠ some k) (h8 : ∀ k, K k → k < w.heap.size ∧ k ≠ P ∧ p.ownBlock ≠ some k ∧ s.ownBlock ≠ some k ∧ c.ownBlock ≠ some k ∧ x.ownBlock ≠ some k)
    (hf : Frm (fun k => k = P) w w') (q1 : Blk w' P 89 (tcells { v with has := true, xr := xr, xn := xn, xep := xep, xl := xl } c p s u)) (q2 : w'.ownsRow base 3 1 u xl.length (xl.map i64)) (q3 : ∀ k, u.ownBlock = some k → w.heap.size ≤ k) :
    TAt w' base P K { v with has := true, xr := xr, xn := xn, xep := xep, xl := xl } ∧ Keep K w w' ∧ Below base w w' := by
  have nP : ∀ u : Value, ∀ n xs, w.ownsRow base 3 1 u n xs → u.ownBlock ≠ some P := fun u n xs hu e => own_type hu h1 (by decide) P e rfl
  have ks : ∀ u : Value, ∀ n (l : List Int), w.ownsRow base 3 1 u n (l.map i64) → w'.ownsRow base 3 1 u n (l.map i64) := fun u n l hu => own_frm hu hf (fun k hk e => nP u _ _ hu (e ▸ hk))
  refine ⟨⟨hP, c, p, s, u, q1, ks c _ _ h2, ks p _ _ h3, ks s _ _ h4, q2, ?_, ?_, ?_⟩, ?_, ?_⟩
  · intro k hk
    exact ⟨(h6 k hk).1, (h6 k hk).2, fun e => by have := q3 k e; have := (h3.lt k hk).2; omega⟩
  · intro k hk
    exact ⟨h7 k hk, fun e => by have := q3 k e; have := (h4.lt k hk).2; omega⟩
  · intro k hk
    obtain ⟨a1, a2, a3, a4, a5, a6⟩ := h8 k hk
    exact ⟨Nat.lt_of_lt_of_le a1 hf.size, a2, a3, a4, a5, fun e => by have := q3 k e; omega⟩
  · intro k hk
    exact hf.block k (h8 k hk).1 (fun e => (h8 k hk).2.1 e)
  · exact hf.below (Nat.le_trans hP (Nat.le_of_lt h1.lt)) (by rintro k rfl; exact hP)

/-- what a promise leaves -/
def promV (v : TV) (node ar an cep : Int) (h : Bool) (l : List Int) : TV :=
  if h = true ∧ (v.has = false ∨ 0 < cmpBal ar an v.xr v.xn) then { v with pl := v.pl ++ [node], has := true, xr := ar, xn := an, xep := cep, xl := l } else { v with pl := v.pl ++ [node] }

theorem TAt.put5 {w w' : World} {base P : Nat} {K : Nat → Prop} {v : TV} {node : Int} {c p s x p' : Value} (hP : base ≤ P) (h1 : Blk w P 89 (tcells v c p s x)) (h2 : w.ownsRow base 3 1 c v.cl.length (v.cl.map i64)) (h3 : w.ownsRow base 3 1 p v.pl.length (v.pl.map i64)) (h4 : w.ownsRow base 3 1 s v.sl.length (v.sl.map i64)) (h5 : w.ownsRow base 3 1 x v.xl.length (v.xl.map i64))
    (h6 : ∀ k, p.ownBlock = some k → c.ownBlock ≠ some k ∧ s.ownBlock ≠ some k ∧ x.ownBlock ≠ some k) (h7 : ∀ k, s.ownBlock = some k → c.ownBlock ≠ some k ∧ x.ownBlock ≠ some k) (h8 : ∀ k, K k → k < w.heap.size ∧ k ≠ P ∧ p.ownBlock ≠ some k ∧ s.ownBlock ≠ some k ∧ c.ownBlock ≠ some k ∧ x.ownBlock ≠ some k)
    (q1 : Blk w' P 89 ((tcells v c p s x).setIfInBounds 5 p')) (q2 : w'.ownsRow base 3 1 p' (v.pl ++ [node]).length ((v.pl ++ [node]).map i64)) (q3 : Frm (fun k => k = P ∨ some k = p.ownBlock) w w') (q4 : p'.ownBlock = p.ownBlock ∨ ∃ k, p'.ownBlock = some k ∧ w.heap.size ≤ k) :
    TAt w' base P K { v with pl := v.pl ++ [node] } ∧ Keep K w w' ∧ Below base w w' := by
  have nP : ∀ u : Value, ∀ n xs, w.ownsRow base 3 1 u n xs → u.ownBlock ≠ some P := fun u n xs hu e => own_type hu h1 (by decide) P e rfl
  have lt : ∀ u : Value, ∀ n xs, w.ownsRow base 3 1 u n xs → ∀ k, u.ownBlock = some k → k < w.heap.size := fun u n xs hu k hk => (hu.lt k hk).2
  have ks : ∀ u : Value, ∀ n (l : List Int), w.ownsRow base 3 1 u n (l.map i64) → (∀ k, p.ownBlock = some k → u.ownBlock ≠ some k) → w'.ownsRow base 3 1 u n (l.map i64) := fun u n l hu hs => own_frm hu q3 (fun k hk => by
    rintro (e | e)
    · exact nP u _ _ hu (e ▸ hk)
    · exact hs k e.symm hk)
  refine ⟨⟨hP, c, p', s, x, q1, ks c _ _ h2 (fun k hk => (h6 k hk).1), q2, ks s _ _ h4 (fun k hk => (h6 k hk).2.1), ks x _ _ h5 (fun k hk => (h6 k hk).2.2), ?_, h7, ?_⟩, ?_, ?_⟩
  · intro k hk
    rcases q4 with e | ⟨k', e, hk'⟩
    · exact h6 k (e ▸ hk)
    · rw [e] at hk; injection hk with hk
      exact ⟨fun e2 => by have := lt c _ _ h2 k e2; omega, fun e2 => by have := lt s _ _ h4 k e2; omega, fun e2 => by have := lt x _ _ h5 k e2; omega⟩
  · intro k hk
    obtain ⟨a1, a2, a3, a4⟩ := h8 k hk
    refine ⟨Nat.lt_of_lt_of_le a1 q3.size, a2, ?_, a4⟩
    rcases q4 with e | ⟨k', e, hk'⟩
    · rw [e]; exact a3
    · rw [e]; intro e2; injection e2 with e2; omega
  · intro k hk
    obtain ⟨a1, a2, a3, a4⟩ := h8 k hk
    exact q3.block k a1 (by rintro (e | e); exact a2 e; exact a3 e.symm)
  · exact q3.below (Nat.le_trans hP (Nat.le_of_lt h1.lt)) (by
      rintro k (rfl | e)
      · exact hP
      · exact (h3.lt k e.symm).1)

set_option maxHeartbeats 16000000 in
theorem prom_ff (base P : Nat) (K : Nat → Prop) (n br bn ep : Int) (cl pl sl : List Int) (xr xn xep : Int) (xl : List Int) (node ar an cep : Int) (A : Option Addr) (cap : Nat) (l : List Int) (w : World) (H : TAt w base P K ⟨n, br, bn, ep, cl, pl, sl, false, xr, xn, xep, xl⟩) (h0 : 0 ≤ node) (h1 : node < n) (hi : ¬ node ∈ pl) (hpl : pl.length ≤ 1000000) :
    Calls Try.prog 17 #[.pointer (some ⟨P, 0, none⟩), .int .i64 node, .agg #[.int .i64 br, .int .i64 bn, .int .i64 ar, .int .i64 an, .bool false, .int .i64 cep, .slice A l.length cap]] w fun e w' => e = .returned (.bool true) ∧ TAt w' base P K ⟨n, br, bn, ep, cl, pl ++ [node], sl, false, xr, xn, xep, xl⟩ ∧ Keep K w w' ∧ Below base w w' := by
  refine hide_post fun D hD => ?_
  
  obtain ⟨w0, hw0⟩ : ∃ w0, w0 = w.alloc (.cells #[.int .i64 br, .int .i64 bn, .int .i64 ar, .int .i64 an, .bool false, .int .i64 cep, .slice A l.length cap] 40) := ⟨_, rfl⟩
  have hb0 : Ext w w0 := by rw [hw0]; exact Ext.alloc _ _
  have K0 : Hid (Blk w0 w.heap.size 40 #[.int .i64 br, .int .i64 bn, .int .i64 ar, .int .i64 an, .bool false, .int .i64 cep, .slice A l.length cap]) := by show Blk _ _ _ _; rw [hw0]; exact Blk.new _ _ _
  have T0 := H.stay hb0
  have HT := Lib.hid T0
  have HW0 := Lib.hid hw0
  have HB0 := Lib.hid hb0
  have HKP := Lib.hid (Keep.of_below H hb0)
  have HBS : Hid (base ≤ w.heap.size) := Nat.le_trans H.1 (Nat.le_of_lt H.lt)
  have hPw : P < w.heap.size := H.lt
  have FV : Hid (∀ W, Ext w0 W → Blk W w.heap.size 40 #[.int .i64 br, .int .i64 bn, .int .i64 ar, .int .i64 an, .bool false, .int .i64 cep, .slice A l.length cap]) := fun W h => K0.out.stay h
  have FT : Hid (∀ W, Ext w0 W → W.cell? ⟨P, 0, none⟩ = some (.int .i64 n) ∧ W.cell? ⟨P, 1, none⟩ = some (.int .i64 br) ∧ W.cell? ⟨P, 2, none⟩ = some (.int .i64 bn) ∧ W.cell? ⟨P, 3, none⟩ = some (.int .i64 ep)) := fun W h => by
    obtain ⟨hP, c, p, s, x, h1, _⟩ := T0.stay h
    exact ⟨h1.cell 0, h1.cell 1, h1.cell 2, h1.cell 3⟩
  have fv0 : ∀ W, Ext w0 W → W.cell? ⟨w.heap.size, 0, none⟩ = some (.int .i64 br) := fun W h => (FV.out W h).cell 0
  have fv1 : ∀ W, Ext w0 W → W.cell? ⟨w.heap.size, 1, none⟩ = some (.int .i64 bn) := fun W h => (FV.out W h).cell 1
  have fv2 : ∀ W, Ext w0 W → W.cell? ⟨w.heap.size, 2, none⟩ = some (.int .i64 ar) := fun W h => (FV.out W h).cell 2
  have fv3 : ∀ W, Ext w0 W → W.cell? ⟨w.heap.size, 3, none⟩ = some (.int .i64 an) := fun W h => (FV.out W h).cell 3
  have fv4 : ∀ W, Ext w0 W → W.cell? ⟨w.heap.size, 4, none⟩ = some (.bool false) := fun W h => (FV.out W h).cell 4
  have fv5 : ∀ W, Ext w0 W → W.cell? ⟨w.heap.size, 5, none⟩ = some (.int .i64 cep) := fun W h => (FV.out W h).cell 5
  have fv6 : ∀ W, Ext w0 W → W.cell? ⟨w.heap.size, 6, none⟩ = some (.slice A l.length cap) := fun W h => (FV.out W h).cell 6
  have ft0 : ∀ W, Ext w0 W → W.cell? ⟨P, 0, none⟩ = some (.int .i64 n) := fun W h => (FT.out W h).1
  have ft1 : ∀ W, Ext w0 W → W.cell? ⟨P, 1, none⟩ = some (.int .i64 br) := fun W h => (FT.out W h).2.1
  have ft2 : ∀ W, Ext w0 W → W.cell? ⟨P, 2, none⟩ = some (.int .i64 bn) := fun W h => (FT.out W h).2.2.1
  have ft3 : ∀ W, Ext w0 W → W.cell? ⟨P, 3, none⟩ = some (.int .i64 ep) := fun W h => (FT.out W h).2.2.2
  have hg1 : ¬ n ≤ node := by omega
  have hg0 : ¬ node < 0 := by omega
  have HAD : Hid (∀ W, Ext w0 W → Calls Try.prog 47 #[.pointer (some ⟨P, 5, none⟩), .int .i64 node] W fun e w' => e = .returned (.bool true) ∧ TAt w' base P (fun k => K k ∨ k = w.heap.size) ⟨n, br, bn, ep, cl, pl ++ [node], sl, false, xr, xn, xep, xl⟩ ∧ Keep (fun k => K k ∨ k = w.heap.size) W w' ∧ Below base W w') := fun W hW => by
    have hm := (H.more (Ext.trans hb0 hW)).weak (K' := fun k => K k ∨ k = w.heap.size) (fun k hk => by
      rcases hk with hk | rfl
      · exact .inl hk
      · exact .inr ⟨Nat.le_refl _, by have := hW.size; have : w0.heap.size = w.heap.size + 1 := (by rw [hw0]; simp); omega⟩)
    obtain ⟨hP, c, p, s, x, h1, h2, h3, h4, h5, h6, h7, h8⟩ := hm
    exact (add_yes base P 5 _ _ _ pl node W h1 rfl h3 (fun e => own_type h3 h1 (by decide) P e.symm rfl) hi hpl (Nat.le_trans hP (Nat.le_of_lt h1.lt))).mono fun _ _ ⟨he, s', q1, q2, q3, q4⟩ => ⟨he, TAt.put5 hP h1 h2 h3 h4 h5 h6 h7 h8 q1 q2 q3 q4⟩
  have E0 : Hid (Ext w0 w0) := Ext.refl _
  clear H T0 hw0 hb0 hi
  go_enter Try.func17, Try.ntmps17
  go_wp2_with fail
  rw [← HW0.out]
  refine ext_begin (by kernel_rfl) ?_
  have E0d := Lib.hid (Ext.drewR E0.out)
  refine ext_take (i := 0) (v := ?_) rfl (by kernel_rfl) (by kernel_rfl) (by kernel_rfl) (fun _ _ _ h => h) (by rfl) ?_ ?_
  rotate_left
  · intro W hW; have hW0 := Ext.trans E0d.out hW; clear hW; go_simp <;> with_reducible rfl
  try simp only [Act.put, List.setIfInBounds_toArray, List.set_cons_zero, List.set_cons_succ]
  refine ext_take (i := 1) (v := ?_) rfl (by kernel_rfl) (by kernel_rfl) (by kernel_rfl) (fun _ _ _ h => h) (by rfl) ?_ ?_
  rotate_left
  · intro W hW; have hW0 := Ext.trans E0d.out hW; clear hW; go_simp <;> with_reducible rfl
  try simp only [Act.put, List.setIfInBounds_toArray, List.set_cons_zero, List.set_cons_succ]
  refine ext_take (i := 2) (v := ?_) rfl (by kernel_rfl) (by kernel_rfl) (by kernel_rfl) (fun _ _ _ h => h) (by rfl) ?_ ?_
  rotate_left
  · intro W hW; have hW0 := Ext.trans E0d.out hW; clear hW; go_simp <;> with_reducible rfl
  try simp only [Act.put, List.setIfInBounds_toArray, List.set_cons_zero, List.set_cons_succ]
  refine ext_take (i := 3) (v := ?_) rfl (by kernel_rfl) (by kernel_rfl) (by kernel_rfl) (fun _ _ _ h => h) (by rfl) ?_ ?_
  rotate_left
  · intro W hW; have hW0 := Ext.trans E0d.out hW; clear hW; go_simp <;> with_reducible rfl
  try simp only [Act.put, List.setIfInBounds_toArray, List.set_cons_zero, List.set_cons_succ]
  refine ext_take (i := 4) (v := .bool false) rfl (by kernel_rfl) (by kernel_rfl) (by kernel_rfl) (fun _ _ _ h => h) (by rfl) ?_ ?_
  · intro W hW; have hW0 := Ext.trans E0d.out hW; clear hW; go_simp
  try simp only [Act.put, List.setIfInBounds_toArray, List.set_cons_zero, List.set_cons_succ]
  refine ext_take (i := 5) (v := ?_) rfl (by kernel_rfl) (by kernel_rfl) (by kernel_rfl) (fun _ _ _ h => h) (by rfl) ?_ ?_
  rotate_left
  · intro W hW; have hW0 := Ext.trans E0d.out hW; clear hW; go_simp <;> with_reducible rfl
  try simp only [Act.put, List.setIfInBounds_toArray, List.set_cons_zero, List.set_cons_succ]
  refine ext_take (i := 6) (v := ?_) rfl (by kernel_rfl) (by kernel_rfl) (by kernel_rfl) (fun _ _ _ h => h) (by rfl) ?_ ?_
  rotate_left
  · intro W hW; have hW0 := Ext.trans E0d.out hW; clear hW; go_simp <;> with_reducible rfl
  try simp only [Act.put, List.setIfInBounds_toArray, List.set_cons_zero, List.set_cons_succ]
  refine ext_take (i := 7) (v := ?_) rfl (by kernel_rfl) (by kernel_rfl) (by kernel_rfl) (fun _ _ _ h => h) (by rfl) ?_ ?_
  rotate_left
  · intro W hW; have hW0 := Ext.trans E0d.out hW; clear hW; go_simp <;> with_reducible rfl
  try simp only [Act.put, List.setIfInBounds_toArray, List.set_cons_zero, List.set_cons_succ]
  refine ext_take (i := 8) (v := ?_) rfl (by kernel_rfl) (by kernel_rfl) (by kernel_rfl) (fun _ _ _ h => h) (by rfl) ?_ ?_
  rotate_left
  · intro W hW; have hW0 := Ext.trans E0d.out hW; clear hW; go_simp <;> with_reducible rfl
  try simp only [Act.put, List.setIfInBounds_toArray, List.set_cons_zero, List.set_cons_succ]
  refine ext_take (i := 9) (v := ?_) rfl (by kernel_rfl) (by kernel_rfl) (by kernel_rfl) (fun _ _ _ h => h) (by rfl) ?_ ?_
  rotate_left
  · intro W hW; have hW0 := Ext.trans E0d.out hW; clear hW; go_simp <;> with_reducible rfl
  try simp only [Act.put, List.setIfInBounds_toArray, List.set_cons_zero, List.set_cons_succ]
  refine ext_take (i := 10) (v := ?_) rfl (by kernel_rfl) (by kernel_rfl) (by kernel_rfl) (fun _ _ _ h => h) (by rfl) ?_ ?_
  rotate_left
  · intro W hW; have hW0 := Ext.trans E0d.out hW; clear hW; go_simp <;> with_reducible rfl
  try simp only [Act.put, List.setIfInBounds_toArray, List.set_cons_zero, List.set_cons_succ]
  refine ext_take (i := 11) (v := ?_) rfl (by kernel_rfl) (by kernel_rfl) (by kernel_rfl) (fun _ _ _ h => h) (by rfl) ?_ ?_
  rotate_left
  · intro W hW; have hW0 := Ext.trans E0d.out hW; clear hW; go_simp <;> with_reducible rfl
  try simp only [Act.put, List.setIfInBounds_toArray, List.set_cons_zero, List.set_cons_succ]
  refine ext_take (i := 12) (v := .bool false) rfl (by kernel_rfl) (by kernel_rfl) (by kernel_rfl) (fun _ _ _ h => h) (by rfl) ?_ ?_
  · intro W hW; have hW0 := Ext.trans E0d.out hW; clear hW; go_simp
  try simp only [Act.put, List.setIfInBounds_toArray, List.set_cons_zero, List.set_cons_succ]
  refine ext_take (i := 13) (v := ?_) rfl (by kernel_rfl) (by kernel_rfl) (by kernel_rfl) (fun _ _ _ h => h) (by rfl) ?_ ?_
  rotate_left
  · intro W hW; have hW0 := Ext.trans E0d.out hW; clear hW; go_simp <;> with_reducible rfl
  try simp only [Act.put, List.setIfInBounds_toArray, List.set_cons_zero, List.set_cons_succ]
  refine ext_take (i := 14) (v := ?_) rfl (by kernel_rfl) (by kernel_rfl) (by kernel_rfl) (fun _ _ _ h => h) (by rfl) ?_ ?_
  rotate_left
  · intro W hW; have hW0 := Ext.trans E0d.out hW; clear hW; go_simp <;> with_reducible rfl
  try simp only [Act.put, List.setIfInBounds_toArray, List.set_cons_zero, List.set_cons_succ]
  refine ext_take (i := 15) (v := ?_) rfl (by kernel_rfl) (by kernel_rfl) (by kernel_rfl) (fun _ _ _ h => h) (by rfl) ?_ ?_
  rotate_left
  · intro W hW; have hW0 := Ext.trans E0d.out hW; clear hW; go_simp <;> with_reducible rfl
  try simp only [Act.put, List.setIfInBounds_toArray, List.set_cons_zero, List.set_cons_succ]
  refine ext_take (i := 16) (v := ?_) rfl (by kernel_rfl) (by kernel_rfl) (by kernel_rfl) (fun _ _ _ h => h) (by rfl) ?_ ?_
  rotate_left
  · intro W hW; have hW0 := Ext.trans E0d.out hW; clear hW; go_simp <;> with_reducible rfl
  try simp only [Act.put, List.setIfInBounds_toArray, List.set_cons_zero, List.set_cons_succ]
  refine ext_take (i := 17) (v := ?_) rfl (by kernel_rfl) (by kernel_rfl) (by kernel_rfl) (fun _ _ _ h => h) (by rfl) ?_ ?_
  rotate_left
  · intro W hW; have hW0 := Ext.trans E0d.out hW; clear hW; go_simp <;> with_reducible rfl
  try simp only [Act.put, List.setIfInBounds_toArray, List.set_cons_zero, List.set_cons_succ]
  refine ext_take (i := 18) (v := ?_) rfl (by kernel_rfl) (by kernel_rfl) (by kernel_rfl) (fun _ _ _ h => h) (by rfl) ?_ ?_
  rotate_left
  · intro W hW; have hW0 := Ext.trans E0d.out hW; clear hW; go_simp <;> with_reducible rfl
  try simp only [Act.put, List.setIfInBounds_toArray, List.set_cons_zero, List.set_cons_succ]
  refine ext_take (i := 19) (v := ?_) rfl (by kernel_rfl) (by kernel_rfl) (by kernel_rfl) (fun _ _ _ h => h) (by rfl) ?_ ?_
  rotate_left
  · intro W hW; have hW0 := Ext.trans E0d.out hW; clear hW; go_simp <;> with_reducible rfl
  try simp only [Act.put, List.setIfInBounds_toArray, List.set_cons_zero, List.set_cons_succ]
  refine ext_take (i := 20) (v := ?_) rfl (by kernel_rfl) (by kernel_rfl) (by kernel_rfl) (fun _ _ _ h => h) (by rfl) ?_ ?_
  rotate_left
  · intro W hW; have hW0 := Ext.trans E0d.out hW; clear hW; go_simp <;> with_reducible rfl
  try simp only [Act.put, List.setIfInBounds_toArray, List.set_cons_zero, List.set_cons_succ]
  refine ext_take (i := 21) (v := ?_) rfl (by kernel_rfl) (by kernel_rfl) (by kernel_rfl) (fun _ _ _ h => h) (by rfl) ?_ ?_
  rotate_left
  · intro W hW; have hW0 := Ext.trans E0d.out hW; clear hW; go_simp <;> with_reducible rfl
  try simp only [Act.put, List.setIfInBounds_toArray, List.set_cons_zero, List.set_cons_succ]
  refine ext_take (i := 22) (v := ?_) rfl (by kernel_rfl) (by kernel_rfl) (by kernel_rfl) (fun _ _ _ h => h) (by rfl) ?_ ?_
  rotate_left
  · intro W hW; have hW0 := Ext.trans E0d.out hW; clear hW; go_simp <;> with_reducible rfl
  try simp only [Act.put, List.setIfInBounds_toArray, List.set_cons_zero, List.set_cons_succ]
  refine ext_take (i := 23) (v := ?_) rfl (by kernel_rfl) (by kernel_rfl) (by kernel_rfl) (fun _ _ _ h => h) (by rfl) ?_ ?_
  rotate_left
  · intro W hW; have hW0 := Ext.trans E0d.out hW; clear hW; go_simp <;> with_reducible rfl
  try simp only [Act.put, List.setIfInBounds_toArray, List.set_cons_zero, List.set_cons_succ]
  refine ext_take (i := 24) (v := ?_) rfl (by kernel_rfl) (by kernel_rfl) (by kernel_rfl) (fun _ _ _ h => h) (by rfl) ?_ ?_
  rotate_left
  · intro W hW; have hW0 := Ext.trans E0d.out hW; clear hW; go_simp <;> with_reducible rfl
  try simp only [Act.put, List.setIfInBounds_toArray, List.set_cons_zero, List.set_cons_succ]
  refine ext_take (i := 25) (v := ?_) rfl (by kernel_rfl) (by kernel_rfl) (by kernel_rfl) (fun _ _ _ h => h) (by rfl) ?_ ?_
  rotate_left
  · intro W hW; have hW0 := Ext.trans E0d.out hW; clear hW; go_simp <;> with_reducible rfl
  try simp only [Act.put, List.setIfInBounds_toArray, List.set_cons_zero, List.set_cons_succ]
  refine ext_take (i := 26) (v := ?_) rfl (by kernel_rfl) (by kernel_rfl) (by kernel_rfl) (fun _ _ _ h => h) (by rfl) ?_ ?_
  rotate_left
  · intro W hW; have hW0 := Ext.trans E0d.out hW; clear hW; go_simp <;> with_reducible rfl
  try simp only [Act.put, List.setIfInBounds_toArray, List.set_cons_zero, List.set_cons_succ]
  refine ext_skip (i := 27) rfl (by kernel_rfl) (by kernel_rfl) (by kernel_rfl) (fun _ _ _ h => h) (by rfl) ?_
  try simp only [Act.put, List.setIfInBounds_toArray, List.set_cons_zero, List.set_cons_succ]
  refine ext_skip (i := 28) rfl (by kernel_rfl) (by kernel_rfl) (by kernel_rfl) (fun _ _ _ h => h) (by rfl) ?_
  try simp only [Act.put, List.setIfInBounds_toArray, List.set_cons_zero, List.set_cons_succ]
  refine ext_skip (i := 29) rfl (by kernel_rfl) (by kernel_rfl) (by kernel_rfl) (fun _ _ _ h => h) (by rfl) ?_
  try simp only [Act.put, List.setIfInBounds_toArray, List.set_cons_zero, List.set_cons_succ]
  refine ext_skip (i := 30) rfl (by kernel_rfl) (by kernel_rfl) (by kernel_rfl) (fun _ _ _ h => h) (by rfl) ?_
  try simp only [Act.put, List.setIfInBounds_toArray, List.set_cons_zero, List.set_cons_succ]
  refine ext_skip (i := 31) rfl (by kernel_rfl) (by kernel_rfl) (by kernel_rfl) (fun _ _ _ h => h) (by rfl) ?_
  try simp only [Act.put, List.setIfInBounds_toArray, List.set_cons_zero, List.set_cons_succ]
  refine ext_skip (i := 32) rfl (by kernel_rfl) (by kernel_rfl) (by kernel_rfl) (fun _ _ _ h => h) (by rfl) ?_
  try simp only [Act.put, List.setIfInBounds_toArray, List.set_cons_zero, List.set_cons_succ]
  refine ext_skip (i := 33) rfl (by kernel_rfl) (by kernel_rfl) (by kernel_rfl) (fun _ _ _ h => h) (by rfl) ?_
  try simp only [Act.put, List.setIfInBounds_toArray, List.set_cons_zero, List.set_cons_succ]
  refine ext_skip (i := 34) rfl (by kernel_rfl) (by kernel_rfl) (by kernel_rfl) (fun _ _ _ h => h) (by rfl) ?_
  try simp only [Act.put, List.setIfInBounds_toArray, List.set_cons_zero, List.set_cons_succ]
  refine ext_skip (i := 35) rfl (by kernel_rfl) (by kernel_rfl) (by kernel_rfl) (fun _ _ _ h => h) (by rfl) ?_
  try simp only [Act.put, List.setIfInBounds_toArray, List.set_cons_zero, List.set_cons_succ]
  refine ext_skip (i := 36) rfl (by kernel_rfl) (by kernel_rfl) (by kernel_rfl) (fun _ _ _ h => h) (by rfl) ?_
  try simp only [Act.put, List.setIfInBounds_toArray, List.set_cons_zero, List.set_cons_succ]
  refine ext_skip (i := 37) rfl (by kernel_rfl) (by kernel_rfl) (by kernel_rfl) (fun _ _ _ h => h) (by rfl) ?_
  try simp only [Act.put, List.setIfInBounds_toArray, List.set_cons_zero, List.set_cons_succ]
  refine ext_skip (i := 38) rfl (by kernel_rfl) (by kernel_rfl) (by kernel_rfl) (fun _ _ _ h => h) (by rfl) ?_
  try simp only [Act.put, List.setIfInBounds_toArray, List.set_cons_zero, List.set_cons_succ]
  refine ext_skip (i := 39) rfl (by kernel_rfl) (by kernel_rfl) (by kernel_rfl) (fun _ _ _ h => h) (by rfl) ?_
  try simp only [Act.put, List.setIfInBounds_toArray, List.set_cons_zero, List.set_cons_succ]
  refine ext_skip (i := 40) rfl (by kernel_rfl) (by kernel_rfl) (by kernel_rfl) (fun _ _ _ h => h) (by rfl) ?_
  try simp only [Act.put, List.setIfInBounds_toArray, List.set_cons_zero, List.set_cons_succ]
  refine ext_skip (i := 41) rfl (by kernel_rfl) (by kernel_rfl) (by kernel_rfl) (fun _ _ _ h => h) (by rfl) ?_
  try simp only [Act.put, List.setIfInBounds_toArray, List.set_cons_zero, List.set_cons_succ]
  refine ext_skip (i := 42) rfl (by kernel_rfl) (by kernel_rfl) (by kernel_rfl) (fun _ _ _ h => h) (by rfl) ?_
  try simp only [Act.put, List.setIfInBounds_toArray, List.set_cons_zero, List.set_cons_succ]
  refine ext_skip (i := 43) rfl (by kernel_rfl) (by kernel_rfl) (by kernel_rfl) (fun _ _ _ h => h) (by rfl) ?_
  try simp only [Act.put, List.setIfInBounds_toArray, List.set_cons_zero, List.set_cons_succ]
  refine ext_skip (i := 44) rfl (by kernel_rfl) (by kernel_rfl) (by kernel_rfl) (fun _ _ _ h => h) (by rfl) ?_
  try simp only [Act.put, List.setIfInBounds_toArray, List.set_cons_zero, List.set_cons_succ]
  refine ext_skip (i := 45) rfl (by kernel_rfl) (by kernel_rfl) (by kernel_rfl) (fun _ _ _ h => h) (by rfl) ?_
  try simp only [Act.put, List.setIfInBounds_toArray, List.set_cons_zero, List.set_cons_succ]
  refine ext_skip (i := 46) rfl (by kernel_rfl) (by kernel_rfl) (by kernel_rfl) (fun _ _ _ h => h) (by rfl) ?_
  try simp only [Act.put, List.setIfInBounds_toArray, List.set_cons_zero, List.set_cons_succ]
  refine ext_skip (i := 47) rfl (by kernel_rfl) (by kernel_rfl) (by kernel_rfl) (fun _ _ _ h => h) (by rfl) ?_
  try simp only [Act.put, List.setIfInBounds_toArray, List.set_cons_zero, List.set_cons_succ]
  refine ext_take (i := 48) (v := ?_) rfl (by kernel_rfl) (by kernel_rfl) (by kernel_rfl) (fun _ _ _ h => h) (by rfl) ?_ ?_
  rotate_left
  · intro W hW; have hW0 := Ext.trans E0d.out hW; clear hW; go_simp <;> with_reducible rfl
  try simp only [Act.put, List.setIfInBounds_toArray, List.set_cons_zero, List.set_cons_succ]
  refine ext_take (i := 49) (v := ?_) rfl (by kernel_rfl) (by kernel_rfl) (by kernel_rfl) (fun _ _ _ h => h) (by rfl) ?_ ?_
  rotate_left
  · intro W hW; have hW0 := Ext.trans E0d.out hW; clear hW; go_simp <;> with_reducible rfl
  try simp only [Act.put, List.setIfInBounds_toArray, List.set_cons_zero, List.set_cons_succ]
  refine wpAnyH_done (by kernel_rfl) ?_ _
  go_wp2_with (go_at_call 47; (with_reducible refine (HAD.out _ E0d.out).mono ?_); rintro e w3 ⟨rfl, ht, hk, hb⟩; have T3 := Lib.hid ht; have KP3 : Hid (Keep K w w3) := HKP.out.trans ((Keep.of_below HT.out E0d.out).trans (fun k hk' => hk k (Or.inl hk'))); have B3 : Hid (Below base w w3) := (HB0.out.mono HBS.out).trans (((E0d.out).mono (Nat.le_trans HBS.out HB0.out.size)).trans hb); have KV3 := Lib.hid ((FV.out _ E0d.out).keep hk (Or.inr rfl)); clear ht hk hb)
  have X3 : Hid (Ext w3 w3) := Ext.refl _
  have FT3 : Hid (∀ W, Ext w3 W → W.cell? ⟨P, 7, none⟩ = some (.bool false) ∧ W.cell? ⟨P, 8, none⟩ = some (.int .i64 xr) ∧ W.cell? ⟨P, 9, none⟩ = some (.int .i64 xn)) := fun W h => by
    obtain ⟨hP, c, p, s, x, h1, _⟩ := T3.out.stay h
    exact ⟨h1.cell 7, h1.cell 8, h1.cell 9⟩
  clear fv0 fv1 fv2 fv3 fv4 fv5 fv6 ft0 ft1 ft2 ft3
  have fv0 : ∀ W, Ext w3 W → W.cell? ⟨w.heap.size, 0, none⟩ = some (.int .i64 br) := fun W h => (KV3.out.stay h).cell 0
  have fv1 : ∀ W, Ext w3 W → W.cell? ⟨w.heap.size, 1, none⟩ = some (.int .i64 bn) := fun W h => (KV3.out.stay h).cell 1
  have fv2 : ∀ W, Ext w3 W → W.cell? ⟨w.heap.size, 2, none⟩ = some (.int .i64 ar) := fun W h => (KV3.out.stay h).cell 2
  have fv3 : ∀ W, Ext w3 W → W.cell? ⟨w.heap.size, 3, none⟩ = some (.int .i64 an) := fun W h => (KV3.out.stay h).cell 3
  have fv4 : ∀ W, Ext w3 W → W.cell? ⟨w.heap.size, 4, none⟩ = some (.bool false) := fun W h => (KV3.out.stay h).cell 4
  have fv5 : ∀ W, Ext w3 W → W.cell? ⟨w.heap.size, 5, none⟩ = some (.int .i64 cep) := fun W h => (KV3.out.stay h).cell 5
  have fv6 : ∀ W, Ext w3 W → W.cell? ⟨w.heap.size, 6, none⟩ = some (.slice A l.length cap) := fun W h => (KV3.out.stay h).cell 6
  have ft7 : ∀ W, Ext w3 W → W.cell? ⟨P, 7, none⟩ = some (.bool false) := fun W h => (FT3.out W h).1
  have ft8 : ∀ W, Ext w3 W → W.cell? ⟨P, 8, none⟩ = some (.int .i64 xr) := fun W h => (FT3.out W h).2.1
  have ft9 : ∀ W, Ext w3 W → W.cell? ⟨P, 9, none⟩ = some (.int .i64 xn) := fun W h => (FT3.out W h).2.2
  refine ext_begin (by kernel_rfl) ?_
  have X3d := Lib.hid (Ext.drewR X3.out)
  refine ext_take (i := 0) (v := ?_) rfl (by kernel_rfl) (by kernel_rfl) (by kernel_rfl) (fun _ _ _ h => h) (by rfl) ?_ ?_
  rotate_left
  · intro W hW; have hW0 := Ext.trans X3d.out hW; clear hW; go_simp <;> with_reducible rfl
  try simp only [Act.put, List.setIfInBounds_toArray, List.set_cons_zero, List.set_cons_succ]
  refine ext_take (i := 1) (v := ?_) rfl (by kernel_rfl) (by kernel_rfl) (by kernel_rfl) (fun _ _ _ h => h) (by rfl) ?_ ?_
  rotate_left
  · intro W hW; have hW0 := Ext.trans X3d.out hW; clear hW; go_simp <;> with_reducible rfl
  try simp only [Act.put, List.setIfInBounds_toArray, List.set_cons_zero, List.set_cons_succ]
  refine ext_take (i := 2) (v := ?_) rfl (by kernel_rfl) (by kernel_rfl) (by kernel_rfl) (fun _ _ _ h => h) (by rfl) ?_ ?_
  rotate_left
  · intro W hW; have hW0 := Ext.trans X3d.out hW; clear hW; go_simp <;> with_reducible rfl
  try simp only [Act.put, List.setIfInBounds_toArray, List.set_cons_zero, List.set_cons_succ]
  refine ext_skip (i := 3) rfl (by kernel_rfl) (by kernel_rfl) (by kernel_rfl) (fun _ _ _ h => h) (by rfl) ?_
  try simp only [Act.put, List.setIfInBounds_toArray, List.set_cons_zero, List.set_cons_succ]
  refine ext_skip (i := 4) rfl (by kernel_rfl) (by kernel_rfl) (by kernel_rfl) (fun _ _ _ h => h) (by rfl) ?_
  try simp only [Act.put, List.setIfInBounds_toArray, List.set_cons_zero, List.set_cons_succ]
  refine ext_skip (i := 5) rfl (by kernel_rfl) (by kernel_rfl) (by kernel_rfl) (fun _ _ _ h => h) (by rfl) ?_
  try simp only [Act.put, List.setIfInBounds_toArray, List.set_cons_zero, List.set_cons_succ]
  refine ext_skip (i := 6) rfl (by kernel_rfl) (by kernel_rfl) (by kernel_rfl) (fun _ _ _ h => h) (by rfl) ?_
  try simp only [Act.put, List.setIfInBounds_toArray, List.set_cons_zero, List.set_cons_succ]
  refine ext_skip (i := 7) rfl (by kernel_rfl) (by kernel_rfl) (by kernel_rfl) (fun _ _ _ h => h) (by rfl) ?_
  try simp only [Act.put, List.setIfInBounds_toArray, List.set_cons_zero, List.set_cons_succ]
  refine ext_skip (i := 8) rfl (by kernel_rfl) (by kernel_rfl) (by kernel_rfl) (fun _ _ _ h => h) (by rfl) ?_
  try simp only [Act.put, List.setIfInBounds_toArray, List.set_cons_zero, List.set_cons_succ]
  refine ext_skip (i := 9) rfl (by kernel_rfl) (by kernel_rfl) (by kernel_rfl) (fun _ _ _ h => h) (by rfl) ?_
  try simp only [Act.put, List.setIfInBounds_toArray, List.set_cons_zero, List.set_cons_succ]
  refine ext_skip (i := 10) rfl (by kernel_rfl) (by kernel_rfl) (by kernel_rfl) (fun _ _ _ h => h) (by rfl) ?_
  try simp only [Act.put, List.setIfInBounds_toArray, List.set_cons_zero, List.set_cons_succ]
  refine ext_skip (i := 11) rfl (by kernel_rfl) (by kernel_rfl) (by kernel_rfl) (fun _ _ _ h => h) (by rfl) ?_
  try simp only [Act.put, List.setIfInBounds_toArray, List.set_cons_zero, List.set_cons_succ]
  refine ext_skip (i := 12) rfl (by kernel_rfl) (by kernel_rfl) (by kernel_rfl) (fun _ _ _ h => h) (by rfl) ?_
  try simp only [Act.put, List.setIfInBounds_toArray, List.set_cons_zero, List.set_cons_succ]
  refine ext_skip (i := 13) rfl (by kernel_rfl) (by kernel_rfl) (by kernel_rfl) (fun _ _ _ h => h) (by rfl) ?_
  try simp only [Act.put, List.setIfInBounds_toArray, List.set_cons_zero, List.set_cons_succ]
  refine ext_skip (i := 14) rfl (by kernel_rfl) (by kernel_rfl) (by kernel_rfl) (fun _ _ _ h => h) (by rfl) ?_
  try simp only [Act.put, List.setIfInBounds_toArray, List.set_cons_zero, List.set_cons_succ]
  refine ext_skip (i := 15) rfl (by kernel_rfl) (by kernel_rfl) (by kernel_rfl) (fun _ _ _ h => h) (by rfl) ?_
  try simp only [Act.put, List.setIfInBounds_toArray, List.set_cons_zero, List.set_cons_succ]
  refine ext_skip (i := 16) rfl (by kernel_rfl) (by kernel_rfl) (by kernel_rfl) (fun _ _ _ h => h) (by rfl) ?_
  try simp only [Act.put, List.setIfInBounds_toArray, List.set_cons_zero, List.set_cons_succ]
  refine ext_skip (i := 17) rfl (by kernel_rfl) (by kernel_rfl) (by kernel_rfl) (fun _ _ _ h => h) (by rfl) ?_
  try simp only [Act.put, List.setIfInBounds_toArray, List.set_cons_zero, List.set_cons_succ]
  refine ext_take (i := 18) (v := ?_) rfl (by kernel_rfl) (by kernel_rfl) (by kernel_rfl) (fun _ _ _ h => h) (by rfl) ?_ ?_
  rotate_left
  · intro W hW; have hW0 := Ext.trans X3d.out hW; clear hW; go_simp <;> with_reducible rfl
  try simp only [Act.put, List.setIfInBounds_toArray, List.set_cons_zero, List.set_cons_succ]
  refine wpAnyH_done (by kernel_rfl) ?_ _
  go_wp2
  try go_ret
  exact hD.out _ _ ⟨rfl, (T3.out.weak (fun k hk => Or.inl hk)).stay X3d.out, KP3.out.trans (Keep.of_below (T3.out.weak (fun k hk => Or.inl hk)) X3d.out), B3.out.trans (X3d.out.mono (Nat.le_trans HBS.out B3.out.size))⟩

set_option maxHeartbeats 16000000 in
theorem prom_tf (base P : Nat) (K : Nat → Prop) (n br bn ep : Int) (cl pl sl : List Int) (xr xn xep : Int) (xl : List Int) (node ar an cep : Int) (A : Option Addr) (cap : Nat) (l : List Int) (w : World) (H : TAt w base P K ⟨n, br, bn, ep, cl, pl, sl, false, xr, xn, xep, xl⟩) (h0 : 0 ≤ node) (h1 : node < n) (hi : ¬ node ∈ pl) (hpl : pl.length ≤ 1000000) (hv1 : mayBal ar an = true) (hv2 : mayChainB ep l = true) (hl : l.length ≤ 1000000) (hcap : l.length ≤ cap) (hs : Sl i64 w A l) (hA : ∀ a, A = some a → K a.block) (hce : cep = ep) :
    Calls Try.prog 17 #[.pointer (some ⟨P, 0, none⟩), .int .i64 node, .agg #[.int .i64 br, .int .i64 bn, .int .i64 ar, .int .i64 an, .bool true, .int .i64 cep, .slice A l.length cap]] w fun e w' => e = .returned (.bool true) ∧ TAt w' base P K ⟨n, br, bn, ep, cl, pl ++ [node], sl, true, ar, an, ep, l⟩ ∧ Keep K w w' ∧ Below base w w' := by
  refine hide_post fun D hD => ?_
  subst hce
  obtain ⟨w0, hw0⟩ : ∃ w0, w0 = w.alloc (.cells #[.int .i64 br, .int .i64 bn, .int .i64 ar, .int .i64 an, .bool true, .int .i64 cep, .slice A l.length cap] 40) := ⟨_, rfl⟩
  have hb0 : Ext w w0 := by rw [hw0]; exact Ext.alloc _ _
  have K0 : Hid (Blk w0 w.heap.size 40 #[.int .i64 br, .int .i64 bn, .int .i64 ar, .int .i64 an, .bool true, .int .i64 cep, .slice A l.length cap]) := by show Blk _ _ _ _; rw [hw0]; exact Blk.new _ _ _
  have T0 := H.stay hb0
  have HT := Lib.hid T0
  have HW0 := Lib.hid hw0
  have HB0 := Lib.hid hb0
  have HKP := Lib.hid (Keep.of_below H hb0)
  have HBS : Hid (base ≤ w.heap.size) := Nat.le_trans H.1 (Nat.le_of_lt H.lt)
  have hPw : P < w.heap.size := H.lt
  have FV : Hid (∀ W, Ext w0 W → Blk W w.heap.size 40 #[.int .i64 br, .int .i64 bn, .int .i64 ar, .int .i64 an, .bool true, .int .i64 cep, .slice A l.length cap]) := fun W h => K0.out.stay h
  have FT : Hid (∀ W, Ext w0 W → W.cell? ⟨P, 0, none⟩ = some (.int .i64 n) ∧ W.cell? ⟨P, 1, none⟩ = some (.int .i64 br) ∧ W.cell? ⟨P, 2, none⟩ = some (.int .i64 bn) ∧ W.cell? ⟨P, 3, none⟩ = some (.int .i64 cep)) := fun W h => by
    obtain ⟨hP, c, p, s, x, h1, _⟩ := T0.stay h
    exact ⟨h1.cell 0, h1.cell 1, h1.cell 2, h1.cell 3⟩
  have fv0 : ∀ W, Ext w0 W → W.cell? ⟨w.heap.size, 0, none⟩ = some (.int .i64 br) := fun W h => (FV.out W h).cell 0
  have fv1 : ∀ W, Ext w0 W → W.cell? ⟨w.heap.size, 1, none⟩ = some (.int .i64 bn) := fun W h => (FV.out W h).cell 1
  have fv2 : ∀ W, Ext w0 W → W.cell? ⟨w.heap.size, 2, none⟩ = some (.int .i64 ar) := fun W h => (FV.out W h).cell 2
  have fv3 : ∀ W, Ext w0 W → W.cell? ⟨w.heap.size, 3, none⟩ = some (.int .i64 an) := fun W h => (FV.out W h).cell 3
  have fv4 : ∀ W, Ext w0 W → W.cell? ⟨w.heap.size, 4, none⟩ = some (.bool true) := fun W h => (FV.out W h).cell 4
  have fv5 : ∀ W, Ext w0 W → W.cell? ⟨w.heap.size, 5, none⟩ = some (.int .i64 cep) := fun W h => (FV.out W h).cell 5
  have fv6 : ∀ W, Ext w0 W → W.cell? ⟨w.heap.size, 6, none⟩ = some (.slice A l.length cap) := fun W h => (FV.out W h).cell 6
  have ft0 : ∀ W, Ext w0 W → W.cell? ⟨P, 0, none⟩ = some (.int .i64 n) := fun W h => (FT.out W h).1
  have ft1 : ∀ W, Ext w0 W → W.cell? ⟨P, 1, none⟩ = some (.int .i64 br) := fun W h => (FT.out W h).2.1
  have ft2 : ∀ W, Ext w0 W → W.cell? ⟨P, 2, none⟩ = some (.int .i64 bn) := fun W h => (FT.out W h).2.2.1
  have ft3 : ∀ W, Ext w0 W → W.cell? ⟨P, 3, none⟩ = some (.int .i64 cep) := fun W h => (FT.out W h).2.2.2
  have hg1 : ¬ n ≤ node := by omega
  have hg0 : ¬ node < 0 := by omega
  have HM : Hid (∀ W, Calls Try.prog 44 #[.agg #[.int .i64 ar, .int .i64 an]] W fun e w' => e = .returned (.bool true) ∧ Ext W w') := fun W => by rw [← hv1]; exact mayBal_any ar an W
  have HMC : Hid (∀ W, Ext w0 W → Calls Try.prog 45 #[.agg #[.int .i64 cep, .slice A l.length cap]] W fun e w' => e = .returned (.bool true) ∧ Ext W w') := fun W hW => by rw [← hv2]; exact mayChain_any cep A cap l W (by omega) hcap (hs.stay (Ext.trans hb0 hW))
  have HSL := Lib.hid (hs.stay hb0)
  have HAK := Lib.hid hA
  have HAD : Hid (∀ W, Ext w0 W → Calls Try.prog 47 #[.pointer (some ⟨P, 5, none⟩), .int .i64 node] W fun e w' => e = .returned (.bool true) ∧ TAt w' base P (fun k => K k ∨ k = w.heap.size) ⟨n, br, bn, cep, cl, pl ++ [node], sl, false, xr, xn, xep, xl⟩ ∧ Keep (fun k => K k ∨ k = w.heap.size) W w' ∧ Below base W w') := fun W hW => by
    have hm := (H.more (Ext.trans hb0 hW)).weak (K' := fun k => K k ∨ k = w.heap.size) (fun k hk => by
      rcases hk with hk | rfl
      · exact .inl hk
      · exact .inr ⟨Nat.le_refl _, by have := hW.size; have : w0.heap.size = w.heap.size + 1 := (by rw [hw0]; simp); omega⟩)
    obtain ⟨hP, c, p, s, x, h1, h2, h3, h4, h5, h6, h7, h8⟩ := hm
    exact (add_yes base P 5 _ _ _ pl node W h1 rfl h3 (fun e => own_type h3 h1 (by decide) P e.symm rfl) hi hpl (Nat.le_trans hP (Nat.le_of_lt h1.lt))).mono fun _ _ ⟨he, s', q1, q2, q3, q4⟩ => ⟨he, TAt.put5 hP h1 h2 h3 h4 h5 h6 h7 h8 q1 q2 q3 q4⟩
  have E0 : Hid (Ext w0 w0) := Ext.refl _
  clear H T0 hw0 hb0 hi hv1 hv2 hs hA
  go_enter Try.func17, Try.ntmps17
  go_wp2_with fail
  rw [← HW0.out]
  refine ext_begin (by kernel_rfl) ?_
  have E0d := Lib.hid (Ext.drewR E0.out)
  refine ext_take (i := 0) (v := ?_) rfl (by kernel_rfl) (by kernel_rfl) (by kernel_rfl) (fun _ _ _ h => h) (by rfl) ?_ ?_
  rotate_left
  · intro W hW; have hW0 := Ext.trans E0d.out hW; clear hW; go_simp <;> with_reducible rfl
  try simp only [Act.put, List.setIfInBounds_toArray, List.set_cons_zero, List.set_cons_succ]
  refine ext_take (i := 1) (v := ?_) rfl (by kernel_rfl) (by kernel_rfl) (by kernel_rfl) (fun _ _ _ h => h) (by rfl) ?_ ?_
  rotate_left
  · intro W hW; have hW0 := Ext.trans E0d.out hW; clear hW; go_simp <;> with_reducible rfl
  try simp only [Act.put, List.setIfInBounds_toArray, List.set_cons_zero, List.set_cons_succ]
  refine ext_take (i := 2) (v := ?_) rfl (by kernel_rfl) (by kernel_rfl) (by kernel_rfl) (fun _ _ _ h => h) (by rfl) ?_ ?_
  rotate_left
  · intro W hW; have hW0 := Ext.trans E0d.out hW; clear hW; go_simp <;> with_reducible rfl
  try simp only [Act.put, List.setIfInBounds_toArray, List.set_cons_zero, List.set_cons_succ]
  refine ext_take (i := 3) (v := ?_) rfl (by kernel_rfl) (by kernel_rfl) (by kernel_rfl) (fun _ _ _ h => h) (by rfl) ?_ ?_
  rotate_left
  · intro W hW; have hW0 := Ext.trans E0d.out hW; clear hW; go_simp <;> with_reducible rfl
  try simp only [Act.put, List.setIfInBounds_toArray, List.set_cons_zero, List.set_cons_succ]
  refine ext_take (i := 4) (v := .bool false) rfl (by kernel_rfl) (by kernel_rfl) (by kernel_rfl) (fun _ _ _ h => h) (by rfl) ?_ ?_
  · intro W hW; have hW0 := Ext.trans E0d.out hW; clear hW; go_simp
  try simp only [Act.put, List.setIfInBounds_toArray, List.set_cons_zero, List.set_cons_succ]
  refine ext_take (i := 5) (v := ?_) rfl (by kernel_rfl) (by kernel_rfl) (by kernel_rfl) (fun _ _ _ h => h) (by rfl) ?_ ?_
  rotate_left
  · intro W hW; have hW0 := Ext.trans E0d.out hW; clear hW; go_simp <;> with_reducible rfl
  try simp only [Act.put, List.setIfInBounds_toArray, List.set_cons_zero, List.set_cons_succ]
  refine ext_take (i := 6) (v := ?_) rfl (by kernel_rfl) (by kernel_rfl) (by kernel_rfl) (fun _ _ _ h => h) (by rfl) ?_ ?_
  rotate_left
  · intro W hW; have hW0 := Ext.trans E0d.out hW; clear hW; go_simp <;> with_reducible rfl
  try simp only [Act.put, List.setIfInBounds_toArray, List.set_cons_zero, List.set_cons_succ]
  refine ext_take (i := 7) (v := ?_) rfl (by kernel_rfl) (by kernel_rfl) (by kernel_rfl) (fun _ _ _ h => h) (by rfl) ?_ ?_
  rotate_left
  · intro W hW; have hW0 := Ext.trans E0d.out hW; clear hW; go_simp <;> with_reducible rfl
  try simp only [Act.put, List.setIfInBounds_toArray, List.set_cons_zero, List.set_cons_succ]
  refine ext_take (i := 8) (v := ?_) rfl (by kernel_rfl) (by kernel_rfl) (by kernel_rfl) (fun _ _ _ h => h) (by rfl) ?_ ?_
  rotate_left
  · intro W hW; have hW0 := Ext.trans E0d.out hW; clear hW; go_simp <;> with_reducible rfl
  try simp only [Act.put, List.setIfInBounds_toArray, List.set_cons_zero, List.set_cons_succ]
  refine ext_take (i := 9) (v := ?_) rfl (by kernel_rfl) (by kernel_rfl) (by kernel_rfl) (fun _ _ _ h => h) (by rfl) ?_ ?_
  rotate_left
  · intro W hW; have hW0 := Ext.trans E0d.out hW; clear hW; go_simp <;> with_reducible rfl
  try simp only [Act.put, List.setIfInBounds_toArray, List.set_cons_zero, List.set_cons_succ]
  refine ext_take (i := 10) (v := ?_) rfl (by kernel_rfl) (by kernel_rfl) (by kernel_rfl) (fun _ _ _ h => h) (by rfl) ?_ ?_
  rotate_left
  · intro W hW; have hW0 := Ext.trans E0d.out hW; clear hW; go_simp <;> with_reducible rfl
  try simp only [Act.put, List.setIfInBounds_toArray, List.set_cons_zero, List.set_cons_succ]
  refine ext_take (i := 11) (v := ?_) rfl (by kernel_rfl) (by kernel_rfl) (by kernel_rfl) (fun _ _ _ h => h) (by rfl) ?_ ?_
  rotate_left
  · intro W hW; have hW0 := Ext.trans E0d.out hW; clear hW; go_simp <;> with_reducible rfl
  try simp only [Act.put, List.setIfInBounds_toArray, List.set_cons_zero, List.set_cons_succ]
  refine ext_take (i := 12) (v := .bool false) rfl (by kernel_rfl) (by kernel_rfl) (by kernel_rfl) (fun _ _ _ h => h) (by rfl) ?_ ?_
  · intro W hW; have hW0 := Ext.trans E0d.out hW; clear hW; go_simp
  try simp only [Act.put, List.setIfInBounds_toArray, List.set_cons_zero, List.set_cons_succ]
  refine ext_take (i := 13) (v := ?_) rfl (by kernel_rfl) (by kernel_rfl) (by kernel_rfl) (fun _ _ _ h => h) (by rfl) ?_ ?_
  rotate_left
  · intro W hW; have hW0 := Ext.trans E0d.out hW; clear hW; go_simp <;> with_reducible rfl
  try simp only [Act.put, List.setIfInBounds_toArray, List.set_cons_zero, List.set_cons_succ]
  refine ext_take (i := 14) (v := ?_) rfl (by kernel_rfl) (by kernel_rfl) (by kernel_rfl) (fun _ _ _ h => h) (by rfl) ?_ ?_
  rotate_left
  · intro W hW; have hW0 := Ext.trans E0d.out hW; clear hW; go_simp <;> with_reducible rfl
  try simp only [Act.put, List.setIfInBounds_toArray, List.set_cons_zero, List.set_cons_succ]
  refine ext_take (i := 15) (v := ?_) rfl (by kernel_rfl) (by kernel_rfl) (by kernel_rfl) (fun _ _ _ h => h) (by rfl) ?_ ?_
  rotate_left
  · intro W hW; have hW0 := Ext.trans E0d.out hW; clear hW; go_simp <;> with_reducible rfl
  try simp only [Act.put, List.setIfInBounds_toArray, List.set_cons_zero, List.set_cons_succ]
  refine ext_take (i := 16) (v := ?_) rfl (by kernel_rfl) (by kernel_rfl) (by kernel_rfl) (fun _ _ _ h => h) (by rfl) ?_ ?_
  rotate_left
  · intro W hW; have hW0 := Ext.trans E0d.out hW; clear hW; go_simp <;> with_reducible rfl
  try simp only [Act.put, List.setIfInBounds_toArray, List.set_cons_zero, List.set_cons_succ]
  refine ext_take (i := 17) (v := ?_) rfl (by kernel_rfl) (by kernel_rfl) (by kernel_rfl) (fun _ _ _ h => h) (by rfl) ?_ ?_
  rotate_left
  · intro W hW; have hW0 := Ext.trans E0d.out hW; clear hW; go_simp <;> with_reducible rfl
  try simp only [Act.put, List.setIfInBounds_toArray, List.set_cons_zero, List.set_cons_succ]
  refine ext_take (i := 18) (v := ?_) rfl (by kernel_rfl) (by kernel_rfl) (by kernel_rfl) (fun _ _ _ h => h) (by rfl) ?_ ?_
  rotate_left
  · intro W hW; have hW0 := Ext.trans E0d.out hW; clear hW; go_simp <;> with_reducible rfl
  try simp only [Act.put, List.setIfInBounds_toArray, List.set_cons_zero, List.set_cons_succ]
  refine ext_take (i := 19) (v := ?_) rfl (by kernel_rfl) (by kernel_rfl) (by kernel_rfl) (fun _ _ _ h => h) (by rfl) ?_ ?_
  rotate_left
  · intro W hW; have hW0 := Ext.trans E0d.out hW; clear hW; go_simp <;> with_reducible rfl
  try simp only [Act.put, List.setIfInBounds_toArray, List.set_cons_zero, List.set_cons_succ]
  refine ext_take (i := 20) (v := ?_) rfl (by kernel_rfl) (by kernel_rfl) (by kernel_rfl) (fun _ _ _ h => h) (by rfl) ?_ ?_
  rotate_left
  · intro W hW; have hW0 := Ext.trans E0d.out hW; clear hW; go_simp <;> with_reducible rfl
  try simp only [Act.put, List.setIfInBounds_toArray, List.set_cons_zero, List.set_cons_succ]
  refine ext_take (i := 21) (v := ?_) rfl (by kernel_rfl) (by kernel_rfl) (by kernel_rfl) (fun _ _ _ h => h) (by rfl) ?_ ?_
  rotate_left
  · intro W hW; have hW0 := Ext.trans E0d.out hW; clear hW; go_simp <;> with_reducible rfl
  try simp only [Act.put, List.setIfInBounds_toArray, List.set_cons_zero, List.set_cons_succ]
  refine ext_take (i := 22) (v := ?_) rfl (by kernel_rfl) (by kernel_rfl) (by kernel_rfl) (fun _ _ _ h => h) (by rfl) ?_ ?_
  rotate_left
  · intro W hW; have hW0 := Ext.trans E0d.out hW; clear hW; go_simp <;> with_reducible rfl
  try simp only [Act.put, List.setIfInBounds_toArray, List.set_cons_zero, List.set_cons_succ]
  refine ext_take (i := 23) (v := ?_) rfl (by kernel_rfl) (by kernel_rfl) (by kernel_rfl) (fun _ _ _ h => h) (by rfl) ?_ ?_
  rotate_left
  · intro W hW; have hW0 := Ext.trans E0d.out hW; clear hW; go_simp <;> with_reducible rfl
  try simp only [Act.put, List.setIfInBounds_toArray, List.set_cons_zero, List.set_cons_succ]
  refine ext_take (i := 24) (v := ?_) rfl (by kernel_rfl) (by kernel_rfl) (by kernel_rfl) (fun _ _ _ h => h) (by rfl) ?_ ?_
  rotate_left
  · intro W hW; have hW0 := Ext.trans E0d.out hW; clear hW; go_simp <;> with_reducible rfl
  try simp only [Act.put, List.setIfInBounds_toArray, List.set_cons_zero, List.set_cons_succ]
  refine ext_take (i := 25) (v := ?_) rfl (by kernel_rfl) (by kernel_rfl) (by kernel_rfl) (fun _ _ _ h => h) (by rfl) ?_ ?_
  rotate_left
  · intro W hW; have hW0 := Ext.trans E0d.out hW; clear hW; go_simp <;> with_reducible rfl
  try simp only [Act.put, List.setIfInBounds_toArray, List.set_cons_zero, List.set_cons_succ]
  refine ext_take (i := 26) (v := ?_) rfl (by kernel_rfl) (by kernel_rfl) (by kernel_rfl) (fun _ _ _ h => h) (by rfl) ?_ ?_
  rotate_left
  · intro W hW; have hW0 := Ext.trans E0d.out hW; clear hW; go_simp <;> with_reducible rfl
  try simp only [Act.put, List.setIfInBounds_toArray, List.set_cons_zero, List.set_cons_succ]
  refine ext_take (i := 27) (v := ?_) rfl (by kernel_rfl) (by kernel_rfl) (by kernel_rfl) (fun _ _ _ h => h) (by rfl) ?_ ?_
  rotate_left
  · intro W hW; have hW0 := Ext.trans E0d.out hW; clear hW; go_simp <;> with_reducible rfl
  try simp only [Act.put, List.setIfInBounds_toArray, List.set_cons_zero, List.set_cons_succ]
  refine ext_take (i := 28) (v := ?_) rfl (by kernel_rfl) (by kernel_rfl) (by kernel_rfl) (fun _ _ _ h => h) (by rfl) ?_ ?_
  rotate_left
  · intro W hW; have hW0 := Ext.trans E0d.out hW; clear hW; go_simp <;> with_reducible rfl
  try simp only [Act.put, List.setIfInBounds_toArray, List.set_cons_zero, List.set_cons_succ]
  refine ext_call (i := 29) rfl (by kernel_rfl) (by rfl) (fun K' hK => ?_)
  go_simp
  (go_at_call 44; (with_reducible refine (HM.out _).mono ?_); rintro e w1 ⟨rfl, hx⟩; refine hK _ _ hx ?_; clear hK)
  have Ew1 := Lib.hid (Ext.trans E0d.out hx)
  clear hx
  try simp only [Act.put, List.setIfInBounds_toArray, List.set_cons_zero, List.set_cons_succ]
  refine ext_take (i := 30) (v := ?_) rfl (by kernel_rfl) (by kernel_rfl) (by kernel_rfl) (fun _ _ _ h => h) (by rfl) ?_ ?_
  rotate_left
  · intro W hW; have hW0 := Ext.trans Ew1.out hW; clear hW; go_simp <;> with_reducible rfl
  try simp only [Act.put, List.setIfInBounds_toArray, List.set_cons_zero, List.set_cons_succ]
  refine ext_take (i := 31) (v := ?_) rfl (by kernel_rfl) (by kernel_rfl) (by kernel_rfl) (fun _ _ _ h => h) (by rfl) ?_ ?_
  rotate_left
  · intro W hW; have hW0 := Ext.trans Ew1.out hW; clear hW; go_simp <;> with_reducible rfl
  try simp only [Act.put, List.setIfInBounds_toArray, List.set_cons_zero, List.set_cons_succ]
  refine ext_take (i := 32) (v := ?_) rfl (by kernel_rfl) (by kernel_rfl) (by kernel_rfl) (fun _ _ _ h => h) (by rfl) ?_ ?_
  rotate_left
  · intro W hW; have hW0 := Ext.trans Ew1.out hW; clear hW; go_simp <;> with_reducible rfl
  try simp only [Act.put, List.setIfInBounds_toArray, List.set_cons_zero, List.set_cons_succ]
  refine ext_take (i := 33) (v := ?_) rfl (by kernel_rfl) (by kernel_rfl) (by kernel_rfl) (fun _ _ _ h => h) (by rfl) ?_ ?_
  rotate_left
  · intro W hW; have hW0 := Ext.trans Ew1.out hW; clear hW; go_simp <;> with_reducible rfl
  try simp only [Act.put, List.setIfInBounds_toArray, List.set_cons_zero, List.set_cons_succ]
  refine ext_call (i := 34) rfl (by kernel_rfl) (by rfl) (fun K' hK => ?_)
  go_simp
  (go_at_call 45; (with_reducible refine (HMC.out _ Ew1.out).mono ?_); rintro e w2 ⟨rfl, hx⟩; refine hK _ _ hx ?_; clear hK)
  have Ew2 := Lib.hid (Ext.trans Ew1.out hx)
  clear hx
  try simp only [Act.put, List.setIfInBounds_toArray, List.set_cons_zero, List.set_cons_succ]
  refine ext_take (i := 35) (v := ?_) rfl (by kernel_rfl) (by kernel_rfl) (by kernel_rfl) (fun _ _ _ h => h) (by rfl) ?_ ?_
  rotate_left
  · intro W hW; have hW0 := Ext.trans Ew2.out hW; clear hW; go_simp <;> with_reducible rfl
  try simp only [Act.put, List.setIfInBounds_toArray, List.set_cons_zero, List.set_cons_succ]
  refine ext_take (i := 36) (v := ?_) rfl (by kernel_rfl) (by kernel_rfl) (by kernel_rfl) (fun _ _ _ h => h) (by rfl) ?_ ?_
  rotate_left
  · intro W hW; have hW0 := Ext.trans Ew2.out hW; clear hW; go_simp <;> with_reducible rfl
  try simp only [Act.put, List.setIfInBounds_toArray, List.set_cons_zero, List.set_cons_succ]
  refine ext_take (i := 37) (v := ?_) rfl (by kernel_rfl) (by kernel_rfl) (by kernel_rfl) (fun _ _ _ h => h) (by rfl) ?_ ?_
  rotate_left
  · intro W hW; have hW0 := Ext.trans Ew2.out hW; clear hW; go_simp <;> with_reducible rfl
  try simp only [Act.put, List.setIfInBounds_toArray, List.set_cons_zero, List.set_cons_succ]
  refine ext_take (i := 38) (v := ?_) rfl (by kernel_rfl) (by kernel_rfl) (by kernel_rfl) (fun _ _ _ h => h) (by rfl) ?_ ?_
  rotate_left
  · intro W hW; have hW0 := Ext.trans Ew2.out hW; clear hW; go_simp <;> with_reducible rfl
  try simp only [Act.put, List.setIfInBounds_toArray, List.set_cons_zero, List.set_cons_succ]
  refine ext_take (i := 39) (v := ?_) rfl (by kernel_rfl) (by kernel_rfl) (by kernel_rfl) (fun _ _ _ h => h) (by rfl) ?_ ?_
  rotate_left
  · intro W hW; have hW0 := Ext.trans Ew2.out hW; clear hW; go_simp <;> with_reducible rfl
  try simp only [Act.put, List.setIfInBounds_toArray, List.set_cons_zero, List.set_cons_succ]
  refine ext_take (i := 40) (v := ?_) rfl (by kernel_rfl) (by kernel_rfl) (by kernel_rfl) (fun _ _ _ h => h) (by rfl) ?_ ?_
  rotate_left
  · intro W hW; have hW0 := Ext.trans Ew2.out hW; clear hW; go_simp <;> with_reducible rfl
  try simp only [Act.put, List.setIfInBounds_toArray, List.set_cons_zero, List.set_cons_succ]
  refine ext_take (i := 41) (v := ?_) rfl (by kernel_rfl) (by kernel_rfl) (by kernel_rfl) (fun _ _ _ h => h) (by rfl) ?_ ?_
  rotate_left
  · intro W hW; have hW0 := Ext.trans Ew2.out hW; clear hW; go_simp <;> with_reducible rfl
  try simp only [Act.put, List.setIfInBounds_toArray, List.set_cons_zero, List.set_cons_succ]
  refine ext_take (i := 42) (v := ?_) rfl (by kernel_rfl) (by kernel_rfl) (by kernel_rfl) (fun _ _ _ h => h) (by rfl) ?_ ?_
  rotate_left
  · intro W hW; have hW0 := Ext.trans Ew2.out hW; clear hW; go_simp <;> with_reducible rfl
  try simp only [Act.put, List.setIfInBounds_toArray, List.set_cons_zero, List.set_cons_succ]
  refine ext_take (i := 43) (v := ?_) rfl (by kernel_rfl) (by kernel_rfl) (by kernel_rfl) (fun _ _ _ h => h) (by rfl) ?_ ?_
  rotate_left
  · intro W hW; have hW0 := Ext.trans Ew2.out hW; clear hW; go_simp <;> with_reducible rfl
  try simp only [Act.put, List.setIfInBounds_toArray, List.set_cons_zero, List.set_cons_succ]
  refine ext_take (i := 44) (v := ?_) rfl (by kernel_rfl) (by kernel_rfl) (by kernel_rfl) (fun _ _ _ h => h) (by rfl) ?_ ?_
  rotate_left
  · intro W hW; have hW0 := Ext.trans Ew2.out hW; clear hW; go_simp <;> with_reducible rfl
  try simp only [Act.put, List.setIfInBounds_toArray, List.set_cons_zero, List.set_cons_succ]
  refine ext_take (i := 45) (v := ?_) rfl (by kernel_rfl) (by kernel_rfl) (by kernel_rfl) (fun _ _ _ h => h) (by rfl) ?_ ?_
  rotate_left
  · intro W hW; have hW0 := Ext.trans Ew2.out hW; clear hW; go_simp <;> with_reducible rfl
  try simp only [Act.put, List.setIfInBounds_toArray, List.set_cons_zero, List.set_cons_succ]
  refine ext_take (i := 46) (v := ?_) rfl (by kernel_rfl) (by kernel_rfl) (by kernel_rfl) (fun _ _ _ h => h) (by rfl) ?_ ?_
  rotate_left
  · intro W hW; have hW0 := Ext.trans Ew2.out hW; clear hW; go_simp <;> with_reducible rfl
  try simp only [Act.put, List.setIfInBounds_toArray, List.set_cons_zero, List.set_cons_succ]
  refine ext_take (i := 47) (v := ?_) rfl (by kernel_rfl) (by kernel_rfl) (by kernel_rfl) (fun _ _ _ h => h) (by rfl) ?_ ?_
  rotate_left
  · intro W hW; have hW0 := Ext.trans Ew2.out hW; clear hW; go_simp <;> with_reducible rfl
  try simp only [Act.put, List.setIfInBounds_toArray, List.set_cons_zero, List.set_cons_succ]
  refine ext_take (i := 48) (v := ?_) rfl (by kernel_rfl) (by kernel_rfl) (by kernel_rfl) (fun _ _ _ h => h) (by rfl) ?_ ?_
  rotate_left
  · intro W hW; have hW0 := Ext.trans Ew2.out hW; clear hW; go_simp <;> with_reducible rfl
  try simp only [Act.put, List.setIfInBounds_toArray, List.set_cons_zero, List.set_cons_succ]
  refine ext_take (i := 49) (v := ?_) rfl (by kernel_rfl) (by kernel_rfl) (by kernel_rfl) (fun _ _ _ h => h) (by rfl) ?_ ?_
  rotate_left
  · intro W hW; have hW0 := Ext.trans Ew2.out hW; clear hW; go_simp <;> with_reducible rfl
  try simp only [Act.put, List.setIfInBounds_toArray, List.set_cons_zero, List.set_cons_succ]
  refine wpAnyH_done (by kernel_rfl) ?_ _
  go_wp2_with (go_at_call 47; (with_reducible refine (HAD.out _ Ew2.out).mono ?_); rintro e w3 ⟨rfl, ht, hk, hb⟩; have T3 := Lib.hid ht; have KP3 : Hid (Keep K w w3) := HKP.out.trans ((Keep.of_below HT.out Ew2.out).trans (fun k hk' => hk k (Or.inl hk'))); have B3 : Hid (Below base w w3) := (HB0.out.mono HBS.out).trans (((Ew2.out).mono (Nat.le_trans HBS.out HB0.out.size)).trans hb); have KV3 := Lib.hid ((FV.out _ Ew2.out).keep hk (Or.inr rfl)); have SL3 := Lib.hid (((HSL.out.stay Ew2.out).keepA hk (fun a ha => Or.inl (HAK.out a ha)))); clear ht hk hb)
  have X3 : Hid (Ext w3 w3) := Ext.refl _
  have FT3 : Hid (∀ W, Ext w3 W → W.cell? ⟨P, 7, none⟩ = some (.bool false) ∧ W.cell? ⟨P, 8, none⟩ = some (.int .i64 xr) ∧ W.cell? ⟨P, 9, none⟩ = some (.int .i64 xn)) := fun W h => by
    obtain ⟨hP, c, p, s, x, h1, _⟩ := T3.out.stay h
    exact ⟨h1.cell 7, h1.cell 8, h1.cell 9⟩
  clear fv0 fv1 fv2 fv3 fv4 fv5 fv6 ft0 ft1 ft2 ft3
  have fv0 : ∀ W, Ext w3 W → W.cell? ⟨w.heap.size, 0, none⟩ = some (.int .i64 br) := fun W h => (KV3.out.stay h).cell 0
  have fv1 : ∀ W, Ext w3 W → W.cell? ⟨w.heap.size, 1, none⟩ = some (.int .i64 bn) := fun W h => (KV3.out.stay h).cell 1
  have fv2 : ∀ W, Ext w3 W → W.cell? ⟨w.heap.size, 2, none⟩ = some (.int .i64 ar) := fun W h => (KV3.out.stay h).cell 2
  have fv3 : ∀ W, Ext w3 W → W.cell? ⟨w.heap.size, 3, none⟩ = some (.int .i64 an) := fun W h => (KV3.out.stay h).cell 3
  have fv4 : ∀ W, Ext w3 W → W.cell? ⟨w.heap.size, 4, none⟩ = some (.bool true) := fun W h => (KV3.out.stay h).cell 4
  have fv5 : ∀ W, Ext w3 W → W.cell? ⟨w.heap.size, 5, none⟩ = some (.int .i64 cep) := fun W h => (KV3.out.stay h).cell 5
  have fv6 : ∀ W, Ext w3 W → W.cell? ⟨w.heap.size, 6, none⟩ = some (.slice A l.length cap) := fun W h => (KV3.out.stay h).cell 6
  have ft7 : ∀ W, Ext w3 W → W.cell? ⟨P, 7, none⟩ = some (.bool false) := fun W h => (FT3.out W h).1
  have ft8 : ∀ W, Ext w3 W → W.cell? ⟨P, 8, none⟩ = some (.int .i64 xr) := fun W h => (FT3.out W h).2.1
  have ft9 : ∀ W, Ext w3 W → W.cell? ⟨P, 9, none⟩ = some (.int .i64 xn) := fun W h => (FT3.out W h).2.2
  refine ext_begin (by kernel_rfl) ?_
  have X3d := Lib.hid (Ext.drewR X3.out)
  refine ext_take (i := 0) (v := ?_) rfl (by kernel_rfl) (by kernel_rfl) (by kernel_rfl) (fun _ _ _ h => h) (by rfl) ?_ ?_
  rotate_left
  · intro W hW; have hW0 := Ext.trans X3d.out hW; clear hW; go_simp <;> with_reducible rfl
  try simp only [Act.put, List.setIfInBounds_toArray, List.set_cons_zero, List.set_cons_succ]
  refine ext_take (i := 1) (v := ?_) rfl (by kernel_rfl) (by kernel_rfl) (by kernel_rfl) (fun _ _ _ h => h) (by rfl) ?_ ?_
  rotate_left
  · intro W hW; have hW0 := Ext.trans X3d.out hW; clear hW; go_simp <;> with_reducible rfl
  try simp only [Act.put, List.setIfInBounds_toArray, List.set_cons_zero, List.set_cons_succ]
  refine ext_take (i := 2) (v := ?_) rfl (by kernel_rfl) (by kernel_rfl) (by kernel_rfl) (fun _ _ _ h => h) (by rfl) ?_ ?_
  rotate_left
  · intro W hW; have hW0 := Ext.trans X3d.out hW; clear hW; go_simp <;> with_reducible rfl
  try simp only [Act.put, List.setIfInBounds_toArray, List.set_cons_zero, List.set_cons_succ]
  refine ext_take (i := 3) (v := ?_) rfl (by kernel_rfl) (by kernel_rfl) (by kernel_rfl) (fun _ _ _ h => h) (by rfl) ?_ ?_
  rotate_left
  · intro W hW; have hW0 := Ext.trans X3d.out hW; clear hW; go_simp <;> with_reducible rfl
  try simp only [Act.put, List.setIfInBounds_toArray, List.set_cons_zero, List.set_cons_succ]
  refine ext_take (i := 4) (v := ?_) rfl (by kernel_rfl) (by kernel_rfl) (by kernel_rfl) (fun _ _ _ h => h) (by rfl) ?_ ?_
  rotate_left
  · intro W hW; have hW0 := Ext.trans X3d.out hW; clear hW; go_simp <;> with_reducible rfl
  try simp only [Act.put, List.setIfInBounds_toArray, List.set_cons_zero, List.set_cons_succ]
  refine ext_take (i := 5) (v := ?_) rfl (by kernel_rfl) (by kernel_rfl) (by kernel_rfl) (fun _ _ _ h => h) (by rfl) ?_ ?_
  rotate_left
  · intro W hW; have hW0 := Ext.trans X3d.out hW; clear hW; go_simp <;> with_reducible rfl
  try simp only [Act.put, List.setIfInBounds_toArray, List.set_cons_zero, List.set_cons_succ]
  refine ext_take (i := 6) (v := ?_) rfl (by kernel_rfl) (by kernel_rfl) (by kernel_rfl) (fun _ _ _ h => h) (by rfl) ?_ ?_
  rotate_left
  · intro W hW; have hW0 := Ext.trans X3d.out hW; clear hW; go_simp <;> with_reducible rfl
  try simp only [Act.put, List.setIfInBounds_toArray, List.set_cons_zero, List.set_cons_succ]
  refine ext_take (i := 7) (v := ?_) rfl (by kernel_rfl) (by kernel_rfl) (by kernel_rfl) (fun _ _ _ h => h) (by rfl) ?_ ?_
  rotate_left
  · intro W hW; have hW0 := Ext.trans X3d.out hW; clear hW; go_simp <;> with_reducible rfl
  try simp only [Act.put, List.setIfInBounds_toArray, List.set_cons_zero, List.set_cons_succ]
  refine ext_take (i := 8) (v := ?_) rfl (by kernel_rfl) (by kernel_rfl) (by kernel_rfl) (fun _ _ _ h => h) (by rfl) ?_ ?_
  rotate_left
  · intro W hW; have hW0 := Ext.trans X3d.out hW; clear hW; go_simp <;> with_reducible rfl
  try simp only [Act.put, List.setIfInBounds_toArray, List.set_cons_zero, List.set_cons_succ]
  refine ext_skip (i := 9) rfl (by kernel_rfl) (by kernel_rfl) (by kernel_rfl) (fun _ _ _ h => h) (by rfl) ?_
  try simp only [Act.put, List.setIfInBounds_toArray, List.set_cons_zero, List.set_cons_succ]
  refine ext_skip (i := 10) rfl (by kernel_rfl) (by kernel_rfl) (by kernel_rfl) (fun _ _ _ h => h) (by rfl) ?_
  try simp only [Act.put, List.setIfInBounds_toArray, List.set_cons_zero, List.set_cons_succ]
  refine ext_skip (i := 11) rfl (by kernel_rfl) (by kernel_rfl) (by kernel_rfl) (fun _ _ _ h => h) (by rfl) ?_
  try simp only [Act.put, List.setIfInBounds_toArray, List.set_cons_zero, List.set_cons_succ]
  refine ext_skip (i := 12) rfl (by kernel_rfl) (by kernel_rfl) (by kernel_rfl) (fun _ _ _ h => h) (by rfl) ?_
  try simp only [Act.put, List.setIfInBounds_toArray, List.set_cons_zero, List.set_cons_succ]
  refine ext_skip (i := 13) rfl (by kernel_rfl) (by kernel_rfl) (by kernel_rfl) (fun _ _ _ h => h) (by rfl) ?_
  try simp only [Act.put, List.setIfInBounds_toArray, List.set_cons_zero, List.set_cons_succ]
  refine ext_skip (i := 14) rfl (by kernel_rfl) (by kernel_rfl) (by kernel_rfl) (fun _ _ _ h => h) (by rfl) ?_
  try simp only [Act.put, List.setIfInBounds_toArray, List.set_cons_zero, List.set_cons_succ]
  refine ext_skip (i := 15) rfl (by kernel_rfl) (by kernel_rfl) (by kernel_rfl) (fun _ _ _ h => h) (by rfl) ?_
  try simp only [Act.put, List.setIfInBounds_toArray, List.set_cons_zero, List.set_cons_succ]
  refine ext_skip (i := 16) rfl (by kernel_rfl) (by kernel_rfl) (by kernel_rfl) (fun _ _ _ h => h) (by rfl) ?_
  try simp only [Act.put, List.setIfInBounds_toArray, List.set_cons_zero, List.set_cons_succ]
  refine ext_take (i := 17) (v := ?_) rfl (by kernel_rfl) (by kernel_rfl) (by kernel_rfl) (fun _ _ _ h => h) (by rfl) ?_ ?_
  rotate_left
  · intro W hW; have hW0 := Ext.trans X3d.out hW; clear hW; go_simp <;> with_reducible rfl
  try simp only [Act.put, List.setIfInBounds_toArray, List.set_cons_zero, List.set_cons_succ]
  refine ext_take (i := 18) (v := ?_) rfl (by kernel_rfl) (by kernel_rfl) (by kernel_rfl) (fun _ _ _ h => h) (by rfl) ?_ ?_
  rotate_left
  · intro W hW; have hW0 := Ext.trans X3d.out hW; clear hW; go_simp <;> with_reducible rfl
  try simp only [Act.put, List.setIfInBounds_toArray, List.set_cons_zero, List.set_cons_succ]
  refine wpAnyH_done (by kernel_rfl) ?_ _
  go_wp2_with fail
  obtain ⟨w5, hw5⟩ : ∃ w5, w5 = w3.drew := ⟨_, rfl⟩
  rw [← hw5]
  have X5 : Hid (Ext w3 w5) := by show Ext _ _; rw [hw5]; exact X3d.out
  clear hw5
  obtain ⟨hP5, c, p, s, x, t1, t2, t3, t4, t5, t6, t7, t8⟩ := T3.out.stay X5.out
  have hne : w.heap.size ≠ P := by omega
  have T1 := Lib.hid t1
  have T2 := Lib.hid t2
  have T3' := Lib.hid t3
  have T4 := Lib.hid t4
  have T6 := Lib.hid t6
  have T7 := Lib.hid t7
  have T8 := Lib.hid t8
  have SL5 := Lib.hid (SL3.out.stay X5.out)
  have KV5 := Lib.hid (KV3.out.stay X5.out)
  clear t1 t2 t3 t4 t5 t6 t7 t8 fv0 fv1 fv2 fv3 fv4 fv5 fv6 ft7 ft8 ft9
  have fv0 : ∀ W, Frm (fun k => k = P) w5 W → W.cell? ⟨w.heap.size, 0, none⟩ = some (.int .i64 br) := fun W h => (KV5.out.frm h hne).cell 0
  have fv1 : ∀ W, Frm (fun k => k = P) w5 W → W.cell? ⟨w.heap.size, 1, none⟩ = some (.int .i64 bn) := fun W h => (KV5.out.frm h hne).cell 1
  have fv2 : ∀ W, Frm (fun k => k = P) w5 W → W.cell? ⟨w.heap.size, 2, none⟩ = some (.int .i64 ar) := fun W h => (KV5.out.frm h hne).cell 2
  have fv3 : ∀ W, Frm (fun k => k = P) w5 W → W.cell? ⟨w.heap.size, 3, none⟩ = some (.int .i64 an) := fun W h => (KV5.out.frm h hne).cell 3
  have fv4 : ∀ W, Frm (fun k => k = P) w5 W → W.cell? ⟨w.heap.size, 4, none⟩ = some (.bool true) := fun W h => (KV5.out.frm h hne).cell 4
  have fv5 : ∀ W, Frm (fun k => k = P) w5 W → W.cell? ⟨w.heap.size, 5, none⟩ = some (.int .i64 cep) := fun W h => (KV5.out.frm h hne).cell 5
  have fv6 : ∀ W, Frm (fun k => k = P) w5 W → W.cell? ⟨w.heap.size, 6, none⟩ = some (.slice A l.length cap) := fun W h => (KV5.out.frm h hne).cell 6
  have HCO : Hid (∀ W, Ext w5 W → Calls Try.prog 46 #[.agg #[.int .i64 cep, .slice A l.length cap]] W fun e w' => ∃ u, e = .returned (.agg #[.int .i64 cep, u]) ∧ Frm (fun k => k = P) W w' ∧ Ext W w' ∧ w'.ownsRow W.heap.size 3 1 u l.length (l.map i64)) := fun W hW => (copied_any cep A cap l W (by omega) (SL5.out.stay hW)).mono fun _ _ ⟨u, he, h1, h2⟩ => ⟨u, he, Frm.of_below h2 _, h2, h1⟩
  have E5 : Hid (Frm (fun k => k = P) w5 w5) := Frm.refl _ _
  refine rx_begin (fun k => k = P) (by kernel_rfl) ?_
  have E5d := Lib.hid (Frm.drew E5.out)
  refine rx_take (i := 0) (v := ?_) rfl (by kernel_rfl) (by kernel_rfl) (by kernel_rfl) (fun _ _ _ h => h) (by rfl) ?_ ?_
  rotate_left
  · intro W hW; have hW0 := Frm.tr E5d.out hW; clear hW; go_simp <;> with_reducible rfl
  try simp only [Act.put, List.setIfInBounds_toArray, List.set_cons_zero, List.set_cons_succ]
  refine rx_take (i := 1) (v := ?_) rfl (by kernel_rfl) (by kernel_rfl) (by kernel_rfl) (fun _ _ _ h => h) (by rfl) ?_ ?_
  rotate_left
  · intro W hW; have hW0 := Frm.tr E5d.out hW; clear hW; go_simp <;> with_reducible rfl
  try simp only [Act.put, List.setIfInBounds_toArray, List.set_cons_zero, List.set_cons_succ]
  refine rx_take (i := 2) (v := ?_) rfl (by kernel_rfl) (by kernel_rfl) (by kernel_rfl) (fun _ _ _ h => h) (by rfl) ?_ ?_
  rotate_left
  · intro W hW; have hW0 := Frm.tr E5d.out hW; clear hW; go_simp <;> with_reducible rfl
  try simp only [Act.put, List.setIfInBounds_toArray, List.set_cons_zero, List.set_cons_succ]
  refine rx_take (i := 3) (v := ?_) rfl (by kernel_rfl) (by kernel_rfl) (by kernel_rfl) (fun _ _ _ h => h) (by rfl) ?_ ?_
  rotate_left
  · intro W hW; have hW0 := Frm.tr E5d.out hW; clear hW; go_simp <;> with_reducible rfl
  try simp only [Act.put, List.setIfInBounds_toArray, List.set_cons_zero, List.set_cons_succ]
  refine rx_take (i := 4) (v := ?_) rfl (by kernel_rfl) (by kernel_rfl) (by kernel_rfl) (fun _ _ _ h => h) (by rfl) ?_ ?_
  rotate_left
  · intro W hW; have hW0 := Frm.tr E5d.out hW; clear hW; go_simp <;> with_reducible rfl
  try simp only [Act.put, List.setIfInBounds_toArray, List.set_cons_zero, List.set_cons_succ]
  refine rx_take (i := 5) (v := ?_) rfl (by kernel_rfl) (by kernel_rfl) (by kernel_rfl) (fun _ _ _ h => h) (by rfl) ?_ ?_
  rotate_left
  · intro W hW; have hW0 := Frm.tr E5d.out hW; clear hW; go_simp <;> with_reducible rfl
  try simp only [Act.put, List.setIfInBounds_toArray, List.set_cons_zero, List.set_cons_succ]
  refine rx_take (i := 6) (v := ?_) rfl (by kernel_rfl) (by kernel_rfl) (by kernel_rfl) (fun _ _ _ h => h) (by rfl) ?_ ?_
  rotate_left
  · intro W hW; have hW0 := Frm.tr E5d.out hW; clear hW; go_simp <;> with_reducible rfl
  try simp only [Act.put, List.setIfInBounds_toArray, List.set_cons_zero, List.set_cons_succ]
  refine rx_call (i := 7) rfl (by kernel_rfl) (by rfl) (fun K' hK => ?_)
  go_simp
  (go_at_call 46; (with_reducible refine (HCO.out _ (Ext.drewR (Ext.refl _))).mono ?_); rintro e w6 ⟨u, rfl, hx, hxe, ho⟩; refine hK _ _ hx ?_; clear hK)
  have Ew6 := Lib.hid (Frm.tr E5d.out hx)
  obtain ⟨A', c', rfl⟩ := own_shape ho; have HO := Lib.hid ho; have X6 : Hid (Ext w5 w6) := Ext.trans (Ext.drewR (Ext.refl _)) hxe; have B6 := Lib.hid (T1.out.stay X6.out); have b7 := B6.out.cell 7; have g7 := B6.out.frozen 7; clear ho hxe
  clear hx
  try simp only [Act.put, List.setIfInBounds_toArray, List.set_cons_zero, List.set_cons_succ]
  refine rx_take (i := 8) (v := ?_) rfl (by kernel_rfl) (by kernel_rfl) (by kernel_rfl) (fun _ _ _ h => h) (by rfl) ?_ ?_
  rotate_left
  · intro W hW; have hW0 := Frm.tr Ew6.out hW; clear hW; go_simp <;> with_reducible rfl
  try simp only [Act.put, List.setIfInBounds_toArray, List.set_cons_zero, List.set_cons_succ]
  refine rx_take (i := 9) (v := ?_) rfl (by kernel_rfl) (by kernel_rfl) (by kernel_rfl) (fun _ _ _ h => h) (by rfl) ?_ ?_
  rotate_left
  · intro W hW; have hW0 := Frm.tr Ew6.out hW; clear hW; go_simp <;> with_reducible rfl
  try simp only [Act.put, List.setIfInBounds_toArray, List.set_cons_zero, List.set_cons_succ]
  refine rx_call (i := 10) rfl (by kernel_rfl) (by rfl) (fun K' hK => ?_)
  go_simp
  refine hK _ _ (Frm.of_set _ _ _ rfl) ?_; clear hK
  have B7 := Lib.hid (B6.out.set 7 (.bool true)); have b8 := B7.out.cell 8; have b9 := B7.out.cell 9; have g8 := B7.out.frozen 8; have g9 := B7.out.frozen 9
  try simp only [Act.put, List.setIfInBounds_toArray, List.set_cons_zero, List.set_cons_succ]
  refine rx_take (i := 11) (v := ?_) rfl (by kernel_rfl) (by kernel_rfl) (by kernel_rfl) (fun _ _ _ h => h) (by rfl) ?_ ?_
  rotate_left
  · intro W hW; go_simp <;> with_reducible rfl
  try simp only [Act.put, List.setIfInBounds_toArray, List.set_cons_zero, List.set_cons_succ]
  refine rx_take (i := 12) (v := ?_) rfl (by kernel_rfl) (by kernel_rfl) (by kernel_rfl) (fun _ _ _ h => h) (by rfl) ?_ ?_
  rotate_left
  · intro W hW; go_simp <;> with_reducible rfl
  try simp only [Act.put, List.setIfInBounds_toArray, List.set_cons_zero, List.set_cons_succ]
  refine rx_call (i := 13) rfl (by kernel_rfl) (by rfl) (fun K' hK => ?_)
  go_simp
  refine hK _ _ (Frm.tr (Frm.of_set _ _ _ rfl) (Frm.of_set _ _ _ rfl)) ?_; clear hK
  have B8 := Lib.hid ((B7.out.set 8 (.int .i64 ar)).set 9 (.int .i64 an)); have b10 := B8.out.cell 10; have b11 := B8.out.cell 11; have g10 := B8.out.frozen 10; have g11 := B8.out.frozen 11
  try simp only [Act.put, List.setIfInBounds_toArray, List.set_cons_zero, List.set_cons_succ]
  refine rx_take (i := 14) (v := ?_) rfl (by kernel_rfl) (by kernel_rfl) (by kernel_rfl) (fun _ _ _ h => h) (by rfl) ?_ ?_
  rotate_left
  · intro W hW; go_simp <;> with_reducible rfl
  try simp only [Act.put, List.setIfInBounds_toArray, List.set_cons_zero, List.set_cons_succ]
  refine rx_take (i := 15) (v := ?_) rfl (by kernel_rfl) (by kernel_rfl) (by kernel_rfl) (fun _ _ _ h => h) (by rfl) ?_ ?_
  rotate_left
  · intro W hW; go_simp <;> with_reducible rfl
  try simp only [Act.put, List.setIfInBounds_toArray, List.set_cons_zero, List.set_cons_succ]
  refine rx_call (i := 16) rfl (by kernel_rfl) (by rfl) (fun K' hK => ?_)
  go_simp
  refine hK _ _ (Frm.tr (Frm.of_set _ _ _ rfl) (Frm.of_set _ _ _ rfl)) ?_; clear hK
  try simp only [Act.put, List.setIfInBounds_toArray, List.set_cons_zero, List.set_cons_succ]
  refine wpAnyH_done (by kernel_rfl) ?_ _
  have B9 := Lib.hid ((B8.out.set 10 (.int .i64 cep)).set 11 (.slice A' l.length c'))
  go_wp2
  try go_ret
  have hF : Frm (fun k => k = P) w6 (((((w6.setCell ⟨P, 7, none⟩ (.bool true)).setCell ⟨P, 8, none⟩ (.int .i64 ar)).setCell ⟨P, 9, none⟩ (.int .i64 an)).setCell ⟨P, 10, none⟩ (.int .i64 cep)).setCell ⟨P, 11, none⟩ (.slice A' l.length c')) := Frm.tr (Frm.tr (Frm.tr (Frm.tr (Frm.of_set _ _ _ rfl) (Frm.of_set _ _ _ rfl)) (Frm.of_set _ _ _ rfl)) (Frm.of_set _ _ _ rfl)) (Frm.of_set _ _ _ rfl)
  have hz5 : w5.drew.heap.size = w5.heap.size := rfl
  have ho6 : w6.ownsRow base 3 1 (.slice A' l.length c') l.length (l.map i64) := own_base (base' := base) HO.out (fun k hk => by have q1 := (HO.out.lt k hk).1; have q2 := T1.out.lt; omega)
  obtain ⟨r1, r2, r3⟩ := TAt.putx (K := K) (xr := ar) (xn := an) (xep := cep) (xl := l) hP5 T1.out T2.out T3'.out T4.out (fun k hk => ⟨(T6.out k hk).1, (T6.out k hk).2.1⟩) (fun k hk => (T7.out k hk).1) (fun k hk => T8.out k (Or.inl hk)) (Frm.tr (Frm.of_below X6.out _) hF) B9.out (own_frm ho6 hF (fun k hk e => own_type ho6 B6.out (by decide) k hk e)) (fun k hk => by have q1 := (HO.out.lt k hk).1; omega)
  exact hD.out _ _ ⟨rfl, r1, (KP3.out.trans (Keep.of_below (T3.out.weak (fun k hk => Or.inl hk)) X5.out)).trans r2, (B3.out.trans (X5.out.mono (Nat.le_trans HBS.out B3.out.size))).trans r3⟩
end Go.Proofs.Ytkdcbidbciognaa
