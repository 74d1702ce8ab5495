/-
  The document's count: Yes and Promise that count.
-/
import Derived.Test.YtkdcbidbciognaaRefTally2
namespace Go.Proofs.Ytkdcbidbciognaa
set_option linter.unusedVariables false
set_option linter.unusedSimpArgs false
open Go.RowKit

theorem own_frmX {s : Nat → Prop} {w w' : World} {base n size : Nat} {e : TypeId} {v : Value} {xs : List Value} (h : w.ownsRow base e size v n xs) (hf : Frm s w w') (hg : ∀ k, v.ownBlock = some k → ¬ s k) : w'.ownsRow base e size v n xs := by
  refine ⟨h.1, ?_⟩
  rcases h.2 with hn | ⟨g, cap, cur, rfl, hb, hgg, r⟩
  · exact .inl hn
  · exact .inr ⟨g, cap, cur, rfl, hb, (hf.block g (Array.getElem?_eq_some_iff.1 hgg).1 (hg g rfl)).trans hgg, r⟩
theorem own_blkX {w : World} {base n size k : Nat} {e : TypeId} {v : Value} {xs : List Value} (h : w.ownsRow base e size v n xs) (hk : v.ownBlock = some k) : ∃ cs, Blk w k e cs := by
  rcases h.2 with ⟨rfl, _⟩ | ⟨g, cap, cur, rfl, _, hg, _⟩
  · cases hk
  · injection hk with hk
    subst hk
    exact ⟨_, hg⟩
theorem own_apX {w : World} {base base' n n' size size' : Nat} {e e' : TypeId} {v v' : Value} {xs xs' : List Value} (h : w.ownsRow base e size v n xs) (h' : w.ownsRow base' e' size' v' n' xs') (hne : e ≠ e') : ∀ k, v.ownBlock = some k → ¬ v'.ownBlock = some k := fun k hk hk' => by
  obtain ⟨cs, hc⟩ := own_blkX h hk
  obtain ⟨cs', hc'⟩ := own_blkX h' hk'
  exact Blk.apart hc hc' hne rfl
theorem own_apB {w : World} {base n size g : Nat} {e t : TypeId} {v : Value} {xs : List Value} {cs : Array Value} (h : w.ownsRow base e size v n xs) (hb : Blk w g t cs) (hne : e ≠ t) : ¬ v.ownBlock = some g := fun hk => by
  obtain ⟨cs', hc⟩ := own_blkX h hk
  exact Blk.apart hc hb hne rfl
theorem slA_frm {α : Type} {f : α → Value} {s : Nat → Prop} {w w' : World} {A : Option Addr} {l : List α} (h : Sl f w A l) (hf : Frm s w w') (hA : l ≠ [] → ∀ a, A = some a → ¬ s a.block) : Sl f w' A l := fun j v hj => by
  have hne : l ≠ [] := fun e => by rw [e] at hj; simp at hj
  obtain ⟨b, o, e, hc⟩ := h j v hj
  have hlt := World.block_lt_of_cell? w _ hc
  exact ⟨b, o, e, (World.cell?_of_block (hf.block b hlt (by have := hA hne _ e; exact this))).trans hc⟩
theorem XAt.stay {w w' : World} {base P : Nat} {s : Nat → Prop} {v : TV} {L : List Vt} (H : XAt w base P s v L) (h : Ext w w') : XAt w' base P s v L := by
  obtain ⟨hP, cA, ccap, V, F, S, kP, hV, hF, hS, hne, ⟨hcs, hcb⟩, hLs, hsel⟩ := H
  exact ⟨hP, cA, ccap, V, F, S, kP.stay h, own_frmX hV (Frm.of_below h (fun _ => False)) (fun _ _ h => h), own_frm hF (Frm.of_below h (fun _ => False)) (fun _ _ h => h), own_frm hS (Frm.of_below h (fun _ => False)) (fun _ _ h => h), hne, ⟨hcs.stay h, hcb⟩, fun t ht => ⟨(hLs t ht).1.stay h, (hLs t ht).2⟩, hsel⟩

set_option maxHeartbeats 8000000 in
theorem ryes_ok (base P : Nat) (s : Nat → Prop) (v : TV) (L : List Vt) (node : Int) (w : World) (H : XAt w base P s v L) (hn : 1 ≤ v.n ∧ v.n ≤ 5) (hl : v.sl.length ≤ 1000000) (hpl : v.pl.length ≤ 1000000) (hm : mostI v.n ≤ v.pl.length) (h0 : ¬ node < 0) (h1 : ¬ v.n ≤ node) (hi : ¬ node ∈ v.sl) :
    Calls Try.prog 20 #[.pointer (some ⟨P, 0, none⟩), .int .i64 node] w fun e w' => e = .returned (.bool true) ∧ ∃ s', XAt w' base P s' { v with sl := v.sl ++ [node] } L ∧ Frm s w w' ∧ ∀ k, s' k → s k ∨ w.heap.size ≤ k := by
  refine hide_post fun D hD => ?_
  have HX := Lib.hid H
  obtain ⟨hP, cA, ccap, V, F, S, kP, hV, hF, hS, hne, ⟨hcs, hcb⟩, hLs, hsel⟩ := H
  obtain ⟨FA, Fcap, rfl, sF⟩ := own_view hF
  obtain ⟨SA, Scap, rfl, sS⟩ := own_view hS
  obtain ⟨n, br, bn, ep, cl, pl, sl, has, xr, xn, xep, xl⟩ := v
  simp only at *
  have KT := Lib.hid kP
  have HbP : Hid (base ≤ P) := hP
  have hPlt := kP.lt
  have CM : Hid (∀ W, Calls Try.prog 16 #[.int .i64 n] W fun e w' => e = .returned (.int .i64 (mostI n)) ∧ Ext W w') := fun W => (refMost_any n W (by omega) (by omega)).mono fun e w' h => ⟨h.1, h.2 ▸ Ext.refl _⟩
  have CH : Hid (∀ W, Ext w W → Calls Try.prog 49 #[.slice SA sl.length Scap, .int .i64 node] W fun e w' => e = .returned (.bool false) ∧ Ext W w') := fun W h => by
    have h7 := has11_any SA Scap sl node W hl (sS.stay h)
    rw [decide_eq_false hi] at h7
    exact h7
  have ft0 : ∀ W, Ext w W → W.cell? ⟨P, 0, none⟩ = some (.int .i64 n) := fun W h => (KT.out.stay h).cell 0
  have ft6 : ∀ W, Ext w W → W.cell? ⟨P, 6, none⟩ = some (.slice FA pl.length Fcap) := fun W h => (KT.out.stay h).cell 6
  have ft7 : ∀ W, Ext w W → W.cell? ⟨P, 7, none⟩ = some (.slice SA sl.length Scap) := fun W h => (KT.out.stay h).cell 7
  have E0 : Hid (Ext w w) := Ext.refl _
  have HV := Lib.hid hV
  have HF := Lib.hid hF
  have HS := Lib.hid hS
  have HNE := Lib.hid hne
  have HCS := Lib.hid hcs
  have HCB := Lib.hid hcb
  have HLS := Lib.hid hLs
  have HSEL := Lib.hid hsel
  have HSB : Hid (some P ≠ (Value.slice SA sl.length Scap).ownBlock) := fun e => own_apB hS kP (by decide) e.symm
  clear hV hF hS hne hcs hcb hLs hsel kP sF sS hi
  generalize hmm : mostI n = m at *
  clear hmm
  go_enter Try.func20, Try.ntmps20
  go_wp2_with fail
  refine ext_begin (by kernel_rfl) ?_
  have E0d := Lib.hid (Ext.drewR E0.out)
  refine ext_take (i := 0) (v := ?_) rfl (by kernel_rfl) (by kernel_rfl) (by kernel_rfl) (fun _ _ _ h => h) (by rfl) ?_ ?_
  rotate_left
  · intro W hW; have hW0 := Ext.trans E0d.out hW; clear hW; go_simp <;> with_reducible rfl
  try simp only [Act.put, List.setIfInBounds_toArray, List.set_cons_zero, List.set_cons_succ]
  refine ext_take (i := 1) (v := ?_) rfl (by kernel_rfl) (by kernel_rfl) (by kernel_rfl) (fun _ _ _ h => h) (by rfl) ?_ ?_
  rotate_left
  · intro W hW; have hW0 := Ext.trans E0d.out hW; clear hW; go_simp <;> with_reducible rfl
  try simp only [Act.put, List.setIfInBounds_toArray, List.set_cons_zero, List.set_cons_succ]
  refine ext_take (i := 2) (v := ?_) rfl (by kernel_rfl) (by kernel_rfl) (by kernel_rfl) (fun _ _ _ h => h) (by rfl) ?_ ?_
  rotate_left
  · intro W hW; have hW0 := Ext.trans E0d.out hW; clear hW; go_simp <;> with_reducible rfl
  try simp only [Act.put, List.setIfInBounds_toArray, List.set_cons_zero, List.set_cons_succ]
  refine ext_take (i := 3) (v := ?_) rfl (by kernel_rfl) (by kernel_rfl) (by kernel_rfl) (fun _ _ _ h => h) (by rfl) ?_ ?_
  rotate_left
  · intro W hW; have hW0 := Ext.trans E0d.out hW; clear hW; go_simp <;> with_reducible rfl
  try simp only [Act.put, List.setIfInBounds_toArray, List.set_cons_zero, List.set_cons_succ]
  refine ext_take (i := 4) (v := ?_) rfl (by kernel_rfl) (by kernel_rfl) (by kernel_rfl) (fun _ _ _ h => h) (by rfl) ?_ ?_
  rotate_left
  · intro W hW; have hW0 := Ext.trans E0d.out hW; clear hW; go_simp <;> with_reducible rfl
  try simp only [Act.put, List.setIfInBounds_toArray, List.set_cons_zero, List.set_cons_succ]
  refine ext_take (i := 5) (v := ?_) rfl (by kernel_rfl) (by kernel_rfl) (by kernel_rfl) (fun _ _ _ h => h) (by rfl) ?_ ?_
  rotate_left
  · intro W hW; have hW0 := Ext.trans E0d.out hW; clear hW; go_simp <;> with_reducible rfl
  try simp only [Act.put, List.setIfInBounds_toArray, List.set_cons_zero, List.set_cons_succ]
  refine ext_take (i := 6) (v := ?_) rfl (by kernel_rfl) (by kernel_rfl) (by kernel_rfl) (fun _ _ _ h => h) (by rfl) ?_ ?_
  rotate_left
  · intro W hW; have hW0 := Ext.trans E0d.out hW; clear hW; go_simp <;> with_reducible rfl
  try simp only [Act.put, List.setIfInBounds_toArray, List.set_cons_zero, List.set_cons_succ]
  refine ext_take (i := 7) (v := ?_) rfl (by kernel_rfl) (by kernel_rfl) (by kernel_rfl) (fun _ _ _ h => h) (by rfl) ?_ ?_
  rotate_left
  · intro W hW; have hW0 := Ext.trans E0d.out hW; clear hW; go_simp <;> with_reducible rfl
  try simp only [Act.put, List.setIfInBounds_toArray, List.set_cons_zero, List.set_cons_succ]
  refine ext_take (i := 8) (v := ?_) rfl (by kernel_rfl) (by kernel_rfl) (by kernel_rfl) (fun _ _ _ h => h) (by rfl) ?_ ?_
  rotate_left
  · intro W hW; have hW0 := Ext.trans E0d.out hW; clear hW; go_simp <;> with_reducible rfl
  try simp only [Act.put, List.setIfInBounds_toArray, List.set_cons_zero, List.set_cons_succ]
  refine ext_call (i := 9) rfl (by kernel_rfl) (by rfl) (fun K' hK => ?_)
  go_simp
  (go_at_call 16; (with_reducible refine (CM.out _).mono ?_); rintro e w1 ⟨rfl, hx⟩; refine hK _ _ hx ?_; clear hK)
  have Ew1 := Lib.hid (Ext.trans E0d.out hx)
  clear hx
  try simp only [Act.put, List.setIfInBounds_toArray, List.set_cons_zero, List.set_cons_succ]
  refine ext_take (i := 10) (v := .bool false) rfl (by kernel_rfl) (by kernel_rfl) (by kernel_rfl) (fun _ _ _ h => h) (by rfl) ?_ ?_
  · intro W hW; have hW0 := Ext.trans Ew1.out hW; clear hW; go_simp; all_goals (first | done | omega | (simp; omega))
  try simp only [Act.put, List.setIfInBounds_toArray, List.set_cons_zero, List.set_cons_succ]
  refine ext_take (i := 11) (v := ?_) rfl (by kernel_rfl) (by kernel_rfl) (by kernel_rfl) (fun _ _ _ h => h) (by rfl) ?_ ?_
  rotate_left
  · intro W hW; have hW0 := Ext.trans Ew1.out hW; clear hW; go_simp <;> with_reducible rfl
  try simp only [Act.put, List.setIfInBounds_toArray, List.set_cons_zero, List.set_cons_succ]
  refine ext_take (i := 12) (v := ?_) rfl (by kernel_rfl) (by kernel_rfl) (by kernel_rfl) (fun _ _ _ h => h) (by rfl) ?_ ?_
  rotate_left
  · intro W hW; have hW0 := Ext.trans Ew1.out hW; clear hW; go_simp <;> with_reducible rfl
  try simp only [Act.put, List.setIfInBounds_toArray, List.set_cons_zero, List.set_cons_succ]
  refine ext_take (i := 13) (v := .bool false) rfl (by kernel_rfl) (by kernel_rfl) (by kernel_rfl) (fun _ _ _ h => h) (by rfl) ?_ ?_
  · intro W hW; have hW0 := Ext.trans Ew1.out hW; clear hW; go_simp; all_goals (first | done | rfl | (simp [h0]; done))
  try simp only [Act.put, List.setIfInBounds_toArray, List.set_cons_zero, List.set_cons_succ]
  refine ext_take (i := 14) (v := ?_) rfl (by kernel_rfl) (by kernel_rfl) (by kernel_rfl) (fun _ _ _ h => h) (by rfl) ?_ ?_
  rotate_left
  · intro W hW; have hW0 := Ext.trans Ew1.out hW; clear hW; go_simp <;> with_reducible rfl
  try simp only [Act.put, List.setIfInBounds_toArray, List.set_cons_zero, List.set_cons_succ]
  refine ext_take (i := 15) (v := ?_) rfl (by kernel_rfl) (by kernel_rfl) (by kernel_rfl) (fun _ _ _ h => h) (by rfl) ?_ ?_
  rotate_left
  · intro W hW; have hW0 := Ext.trans Ew1.out hW; clear hW; go_simp <;> with_reducible rfl
  try simp only [Act.put, List.setIfInBounds_toArray, List.set_cons_zero, List.set_cons_succ]
  refine ext_take (i := 16) (v := ?_) rfl (by kernel_rfl) (by kernel_rfl) (by kernel_rfl) (fun _ _ _ h => h) (by rfl) ?_ ?_
  rotate_left
  · intro W hW; have hW0 := Ext.trans Ew1.out hW; clear hW; go_simp <;> with_reducible rfl
  try simp only [Act.put, List.setIfInBounds_toArray, List.set_cons_zero, List.set_cons_succ]
  refine ext_take (i := 17) (v := ?_) rfl (by kernel_rfl) (by kernel_rfl) (by kernel_rfl) (fun _ _ _ h => h) (by rfl) ?_ ?_
  rotate_left
  · intro W hW; have hW0 := Ext.trans Ew1.out hW; clear hW; go_simp <;> with_reducible rfl
  try simp only [Act.put, List.setIfInBounds_toArray, List.set_cons_zero, List.set_cons_succ]
  refine ext_take (i := 18) (v := ?_) rfl (by kernel_rfl) (by kernel_rfl) (by kernel_rfl) (fun _ _ _ h => h) (by rfl) ?_ ?_
  rotate_left
  · intro W hW; have hW0 := Ext.trans Ew1.out hW; clear hW; go_simp <;> with_reducible rfl
  try simp only [Act.put, List.setIfInBounds_toArray, List.set_cons_zero, List.set_cons_succ]
  refine ext_take (i := 19) (v := ?_) rfl (by kernel_rfl) (by kernel_rfl) (by kernel_rfl) (fun _ _ _ h => h) (by rfl) ?_ ?_
  rotate_left
  · intro W hW; have hW0 := Ext.trans Ew1.out hW; clear hW; go_simp <;> with_reducible rfl
  try simp only [Act.put, List.setIfInBounds_toArray, List.set_cons_zero, List.set_cons_succ]
  refine ext_take (i := 20) (v := ?_) rfl (by kernel_rfl) (by kernel_rfl) (by kernel_rfl) (fun _ _ _ h => h) (by rfl) ?_ ?_
  rotate_left
  · intro W hW; have hW0 := Ext.trans Ew1.out hW; clear hW; go_simp <;> with_reducible rfl
  try simp only [Act.put, List.setIfInBounds_toArray, List.set_cons_zero, List.set_cons_succ]
  refine ext_take (i := 21) (v := .bool false) rfl (by kernel_rfl) (by kernel_rfl) (by kernel_rfl) (fun _ _ _ h => h) (by rfl) ?_ ?_
  · intro W hW; have hW0 := Ext.trans Ew1.out hW; clear hW; go_simp; all_goals (first | done | rfl | (simp [h1]; done))
  try simp only [Act.put, List.setIfInBounds_toArray, List.set_cons_zero, List.set_cons_succ]
  refine ext_take (i := 22) (v := ?_) rfl (by kernel_rfl) (by kernel_rfl) (by kernel_rfl) (fun _ _ _ h => h) (by rfl) ?_ ?_
  rotate_left
  · intro W hW; have hW0 := Ext.trans Ew1.out hW; clear hW; go_simp <;> with_reducible rfl
  try simp only [Act.put, List.setIfInBounds_toArray, List.set_cons_zero, List.set_cons_succ]
  refine ext_take (i := 23) (v := ?_) rfl (by kernel_rfl) (by kernel_rfl) (by kernel_rfl) (fun _ _ _ h => h) (by rfl) ?_ ?_
  rotate_left
  · intro W hW; have hW0 := Ext.trans Ew1.out hW; clear hW; go_simp <;> with_reducible rfl
  try simp only [Act.put, List.setIfInBounds_toArray, List.set_cons_zero, List.set_cons_succ]
  refine ext_take (i := 24) (v := ?_) rfl (by kernel_rfl) (by kernel_rfl) (by kernel_rfl) (fun _ _ _ h => h) (by rfl) ?_ ?_
  rotate_left
  · intro W hW; have hW0 := Ext.trans Ew1.out hW; clear hW; go_simp <;> with_reducible rfl
  try simp only [Act.put, List.setIfInBounds_toArray, List.set_cons_zero, List.set_cons_succ]
  refine ext_take (i := 25) (v := ?_) rfl (by kernel_rfl) (by kernel_rfl) (by kernel_rfl) (fun _ _ _ h => h) (by rfl) ?_ ?_
  rotate_left
  · intro W hW; have hW0 := Ext.trans Ew1.out hW; clear hW; go_simp <;> with_reducible rfl
  try simp only [Act.put, List.setIfInBounds_toArray, List.set_cons_zero, List.set_cons_succ]
  refine ext_take (i := 26) (v := ?_) rfl (by kernel_rfl) (by kernel_rfl) (by kernel_rfl) (fun _ _ _ h => h) (by rfl) ?_ ?_
  rotate_left
  · intro W hW; have hW0 := Ext.trans Ew1.out hW; clear hW; go_simp <;> with_reducible rfl
  try simp only [Act.put, List.setIfInBounds_toArray, List.set_cons_zero, List.set_cons_succ]
  refine ext_take (i := 27) (v := ?_) rfl (by kernel_rfl) (by kernel_rfl) (by kernel_rfl) (fun _ _ _ h => h) (by rfl) ?_ ?_
  rotate_left
  · intro W hW; have hW0 := Ext.trans Ew1.out hW; clear hW; go_simp <;> with_reducible rfl
  try simp only [Act.put, List.setIfInBounds_toArray, List.set_cons_zero, List.set_cons_succ]
  refine ext_take (i := 28) (v := ?_) rfl (by kernel_rfl) (by kernel_rfl) (by kernel_rfl) (fun _ _ _ h => h) (by rfl) ?_ ?_
  rotate_left
  · intro W hW; have hW0 := Ext.trans Ew1.out hW; clear hW; go_simp <;> with_reducible rfl
  try simp only [Act.put, List.setIfInBounds_toArray, List.set_cons_zero, List.set_cons_succ]
  refine ext_call (i := 29) rfl (by kernel_rfl) (by rfl) (fun K' hK => ?_)
  go_simp
  (go_at_call 49; (with_reducible refine (CH.out _ Ew1.out).mono ?_); rintro e w2 ⟨rfl, hx⟩; refine hK _ _ hx ?_; clear hK)
  have Ew2 := Lib.hid (Ext.trans Ew1.out hx)
  clear hx
  try simp only [Act.put, List.setIfInBounds_toArray, List.set_cons_zero, List.set_cons_succ]
  refine ext_take (i := 30) (v := ?_) rfl (by kernel_rfl) (by kernel_rfl) (by kernel_rfl) (fun _ _ _ h => h) (by rfl) ?_ ?_
  rotate_left
  · intro W hW; have hW0 := Ext.trans Ew2.out hW; clear hW; go_simp <;> with_reducible rfl
  try simp only [Act.put, List.setIfInBounds_toArray, List.set_cons_zero, List.set_cons_succ]
  refine wpAnyH_done (by kernel_rfl) ?_ _
  have q7 := ft7 _ Ew2.out
  have hb2 : base ≤ w2.heap.size := by have h1 := Ew2.out.size; have h2 := HbP.out; omega
  clear ft0 ft6 ft7
  have HS2 : Hid (w2.ownsRow base 3 1 (.slice SA sl.length Scap) sl.length (sl.map i64)) := own_frm HS.out (Frm.of_below Ew2.out (fun _ => False)) (fun _ _ h => h)
  have KT2 := Lib.hid (KT.out.stay Ew2.out)
  go_wp2_with (at_builtin; refine wpList_append_list rfl _ _ 24 rfl base 3 (.int .i64 0) 8 Try.underlying24 info_int rfl (by omega) (.slice SA sl.length Scap) sl.length (sl.map i64) rfl (HS2.out.alloc _) i64 (some ⟨w2.heap.size, 0, none⟩) [node] 1 1 rfl rfl (Sl.of_blk (Blk.new w2 3 #[.int .i64 node]) (fun j v hj => by match j, hj with | 0, hj => (simp at hj; subst hj; rfl))) (fun _ => rfl) (by simp; omega) (by simp; omega) ?_; intro v' w' h1 h2 h3; obtain ⟨A', c', rfl⟩ := own_shape h1; have KT3 := Lib.hid ((KT2.out.alloc (.cells #[.int .i64 node] 3)).grown h2 HSB.out); have q0 := KT3.out.cell 7; have q1 := KT3.out.frozen 7; (simp at q0); have H1 := Lib.hid h1; have H2 := Lib.hid h2; have H3 := Lib.hid h3; clear h1 h2 h3)
  try go_ret
  have k1 : w'.ownsRow base 3 1 (.slice A' (sl.length + 1) c') (sl ++ [node]).length ((sl ++ [node]).map i64) := by simpa using H1.out
  have kk : ∀ k, Value.ownBlock (.slice A' (sl.length + 1) c') = some k → ¬ k = P := fun k hk e => by
    subst e
    exact own_apB k1 KT3.out (by decide) hk
  have FA0 : Frm s w w' := by
    refine Frm.tr (Frm.of_below (Ext.trans Ew2.out (Ext.alloc _ _)) _) (Frm.of_grown H2.out (fun k hk => (HSEL.out k).2 (.inr (.inr (.inr hk.symm)))))
  have FP : Frm (fun k => k = P) w' (w'.setCell ⟨P, 7, none⟩ (.slice A' (sl.length + 1) c')) := Frm.of_set _ _ _ rfl
  have FA1 : Frm s w (w'.setCell ⟨P, 7, none⟩ (.slice A' (sl.length + 1) c')) := Frm.tr FA0 (FP.mono (fun k hk => (HSEL.out k).2 (.inl hk)))
  have FS : Frm (fun k => (Value.slice SA sl.length Scap).ownBlock = some k) w w' := Frm.tr (Frm.of_below (Ext.trans Ew2.out (Ext.alloc _ _)) _) (Frm.of_grown H2.out (fun k hk => hk.symm))
  have hF2 : w'.ownsRow base 3 1 (.slice FA pl.length Fcap) pl.length (pl.map i64) := own_frm HF.out FS (fun k hk e => HNE.out k hk e)
  have hV2 : w'.ownsRow base 40 7 V L.length (flatV L) := own_frmX HV.out FS (fun k hk e => own_apX HV.out HS.out (by decide) k hk e)
  have hbase : ∀ k, s k → base ≤ k := fun k hk => by
    rcases (HSEL.out k).1 hk with rfl | hk | hk | hk
    · exact HbP.out
    · exact (HV.out.lt k hk).1
    · exact (HF.out.lt k hk).1
    · exact (HS.out.lt k hk).1
  have hin : ∀ (A : Option Addr) (l : List Int), Sl i64 w A l → (l ≠ [] → ∀ a, A = some a → a.block < base) → Sl i64 (w'.setCell ⟨P, 7, none⟩ (.slice A' (sl.length + 1) c')) A l := fun A l h hA => slA_frm h FA1 (fun hne a ha hs => by have := hbase _ hs; have := hA hne a ha; omega)
  have KF := KT3.out.set 7 (.slice A' (sl.length + 1) c')
  refine hD.out _ _ ⟨rfl, fun k => k = P ∨ V.ownBlock = some k ∨ (Value.slice FA pl.length Fcap).ownBlock = some k ∨ (Value.slice A' (sl.length + 1) c').ownBlock = some k, ⟨HbP.out, cA, ccap, V, _, .slice A' (sl.length + 1) c', by simpa using KF, own_frmX hV2 FP (fun k hk e => by subst e; exact own_apB hV2 KT3.out (by decide) hk), own_frm hF2 FP (fun k hk e => by subst e; exact own_apB hF2 KT3.out (by decide) hk), own_frm k1 FP kk, ?_, ⟨hin _ _ HCS.out (fun _ => HCB.out), HCB.out⟩, fun t ht => ⟨hin _ _ (HLS.out t ht).1 (HLS.out t ht).2, (HLS.out t ht).2⟩, fun k => Iff.rfl⟩, FA1, ?_⟩
  · intro k hk e
    rcases H3.out with h | ⟨k', h, hk'⟩
    · exact HNE.out k hk (h.symm.trans e)
    · have := (HF.out.lt k hk).2
      have h : (Value.slice A' (sl.length + 1) c').ownBlock = some k' := h
      rw [h] at e
      injection e with e
      subst e
      have h9 := Ew2.out.size
      simp at hk'
      omega
  · rintro k (hk | hk | hk | hk)
    · exact .inl ((HSEL.out k).2 (.inl hk))
    · exact .inl ((HSEL.out k).2 (.inr (.inl hk)))
    · exact .inl ((HSEL.out k).2 (.inr (.inr (.inl hk))))
    · rcases H3.out with h | ⟨k', h, hk'⟩
      · exact .inl ((HSEL.out k).2 (.inr (.inr (.inr (h.symm.trans hk)))))
      · have h : (Value.slice A' (sl.length + 1) c').ownBlock = some k' := h
        rw [h] at hk
        injection hk with hk
        subst hk
        have h9 := Ew2.out.size
        simp at hk'
        exact .inr (by omega)

theorem info_vote : (Try.prog.info? 40).map (fun i => (i.zero, i.size, i.bytes)) = some (some (.agg #[.int .i64 0, .int .i64 0, .int .i64 0, .int .i64 0, .bool false, .int .i64 0, .slice none 0 0]), 7, 72) := by kernel_rfl
theorem putFV {w W : World} {base P : Nat} {s : Nat → Prop} {node n br bn ep : Int} {cl pl sl : List Int} {has : Bool} {xr xn xep : Int} {xl : List Int} {cA : Option Addr} {ccap : Nat} {V F S F' V' : Value} {L : List Vt} {t : Vt} (hP : base ≤ P) (kP : Blk w P 38 #[.int .i64 n, .int .i64 br, .int .i64 bn, .int .i64 ep, .slice cA cl.length ccap, V, F, S]) (hV : w.ownsRow base 40 7 V L.length (flatV L)) (hF : w.ownsRow base 3 1 F pl.length (pl.map i64)) (hS : w.ownsRow base 3 1 S sl.length (sl.map i64)) (hne : ∀ k, F.ownBlock = some k → S.ownBlock ≠ some k)
    (hcs : Sl i64 w cA cl) (hcb : ∀ a, cA = some a → a.block < base) (hLs : ∀ t ∈ L, Sl i64 w t.A t.l ∧ (t.l ≠ [] → ∀ a, t.A = some a → a.block < base)) (hsel : ∀ k, s k ↔ k = P ∨ V.ownBlock = some k ∨ F.ownBlock = some k ∨ S.ownBlock = some k)
    (FR : Frm (fun k => w.heap.size ≤ k ∨ F.ownBlock = some k ∨ V.ownBlock = some k) w W) (oF : W.ownsRow base 3 1 F' (pl ++ [node]).length ((pl ++ [node]).map i64)) (oV : W.ownsRow base 40 7 V' (L ++ [t]).length (flatV (L ++ [t]))) (dF : F'.ownBlock = F.ownBlock ∨ ∃ k, F'.ownBlock = some k ∧ w.heap.size ≤ k) (dV : V'.ownBlock = V.ownBlock ∨ ∃ k, V'.ownBlock = some k ∧ w.heap.size ≤ k)
    (ht : Sl i64 w t.A t.l ∧ (t.l ≠ [] → ∀ a, t.A = some a → a.block < base)) :
    ∃ s', XAt ((W.setCell ⟨P, 6, none⟩ F').setCell ⟨P, 5, none⟩ V') base P s' ⟨n, br, bn, ep, cl, pl ++ [node], sl, has, xr, xn, xep, xl⟩ (L ++ [t]) ∧ Frm s w ((W.setCell ⟨P, 6, none⟩ F').setCell ⟨P, 5, none⟩ V') ∧ ∀ k, s' k → s k ∨ w.heap.size ≤ k := by
  have hPlt := kP.lt
  have kW : Blk W P 38 #[.int .i64 n, .int .i64 br, .int .i64 bn, .int .i64 ep, .slice cA cl.length ccap, V, F, S] := kP.frm FR (by
    rintro (h | h | h)
    · omega
    · exact own_apB hF kP (by decide) h
    · exact own_apB hV kP (by decide) h)
  have hSW : W.ownsRow base 3 1 S sl.length (sl.map i64) := own_frm hS FR (fun k hk => by
    rintro (h | h | h)
    · have := (hS.lt k hk).2; omega
    · exact hne k h hk
    · exact own_apX hV hS (by decide) k h hk)
  have FP : Frm (fun k => k = P) W ((W.setCell ⟨P, 6, none⟩ F').setCell ⟨P, 5, none⟩ V') := Frm.tr (Frm.of_set _ _ _ rfl) (Frm.of_set _ _ _ rfl)
  have KF := (kW.set 6 F').set 5 V'
  have FA : Frm (fun k => w.heap.size ≤ k ∨ s k) w ((W.setCell ⟨P, 6, none⟩ F').setCell ⟨P, 5, none⟩ V') := Frm.tr (FR.mono (fun k hk => by
    rcases hk with h | h | h
    · exact .inl h
    · exact .inr ((hsel k).2 (.inr (.inr (.inl h))))
    · exact .inr ((hsel k).2 (.inr (.inl h))))) (FP.mono (fun k hk => .inr ((hsel k).2 (.inl hk))))
  have FA1 : Frm s w ((W.setCell ⟨P, 6, none⟩ F').setCell ⟨P, 5, none⟩ V') := ⟨FA.os, FA.tape, FA.output, FA.size, fun k hk hn => FA.block k hk (by rintro (h | h); omega; exact hn h)⟩
  have hbase : ∀ k, s k → base ≤ k := fun k hk => by
    rcases (hsel k).1 hk with rfl | hk | hk | hk
    · exact hP
    · exact (hV.lt k hk).1
    · exact (hF.lt k hk).1
    · exact (hS.lt k hk).1
  have hin : ∀ (A : Option Addr) (l : List Int), Sl i64 w A l → (l ≠ [] → ∀ a, A = some a → a.block < base) → Sl i64 ((W.setCell ⟨P, 6, none⟩ F').setCell ⟨P, 5, none⟩ V') A l := fun A l h hA => slA_frm h FA1 (fun hne a ha hs => by have := hbase _ hs; have := hA hne a ha; omega)
  refine ⟨fun k => k = P ∨ V'.ownBlock = some k ∨ F'.ownBlock = some k ∨ S.ownBlock = some k, ⟨hP, cA, ccap, V', F', S, by simpa using KF, own_frmX oV FP (fun k hk e => by subst e; exact own_apB oV kW (by decide) hk), own_frm oF FP (fun k hk e => by subst e; exact own_apB oF kW (by decide) hk), own_frm hSW FP (fun k hk e => by subst e; exact own_apB hSW kW (by decide) hk), ?_, ⟨hin _ _ hcs (fun _ => hcb), hcb⟩, ?_, fun k => Iff.rfl⟩, FA1, ?_⟩
  · intro k hk e
    rcases dF with h | ⟨k', h, hk'⟩
    · exact hne k (h.symm.trans hk) e
    · have := (hS.lt k e).2
      rw [h] at hk
      injection hk with hk
      omega
  · intro u hu
    rcases List.mem_append.1 hu with hu | hu
    · exact ⟨hin _ _ (hLs u hu).1 (hLs u hu).2, (hLs u hu).2⟩
    · rw [List.mem_singleton] at hu
      subst hu
      exact ⟨hin _ _ ht.1 ht.2, ht.2⟩
  · rintro k (hk | hk | hk | hk)
    · exact .inl ((hsel k).2 (.inl hk))
    · rcases dV with h | ⟨k', h, hk'⟩
      · exact .inl ((hsel k).2 (.inr (.inl (h.symm.trans hk))))
      · rw [h] at hk; injection hk with hk; exact .inr (by omega)
    · rcases dF with h | ⟨k', h, hk'⟩
      · exact .inl ((hsel k).2 (.inr (.inr (.inl (h.symm.trans hk)))))
      · rw [h] at hk; injection hk with hk; exact .inr (by omega)
    · exact .inl ((hsel k).2 (.inr (.inr (.inr hk))))

section
variable {P : Program} {w : World} {o : Oper} {a : Act} {Q : Exit → Act → World → Prop}
/-- append of one element of several cells onto a slice of the call's own -/
theorem wp_append_v {K : Act → World → Prop} (s x : Operand) (t : TypeId)
    (ho : o.op = .call { callee := .builtin .append, args := #[s, x], argTypes := #[t, t] })
    (base : Nat) (e : TypeId) (z : Value) (size bytes : Nat) (ht : P.underlying t = some (.slice e)) (hinfo : (P.info? e).map (fun i => (i.zero, i.size, i.bytes)) = some (some z, size, bytes))
    (hzs : z.cells.size = size) (hsz : 0 < size) (hby : bytes ≤ 1000) (v : Value) (n : Nat) (xs : List Value) (hs : a.eval s = v) (hown : w.ownsRow base e size v n xs)
    (g : Nat) (u : List Value) (hu : u.length = size) (hx : a.eval x = .slice (some ⟨g, 0, none⟩) 1 1) (hB : Blk w g e u.toArray) (h1 : ∀ y ∈ u, y.oneCell' = true)
    (hn : n ≤ 1000000000) (hbase : base ≤ w.heap.size)
    (h : ∀ v' w', w'.ownsRow base e size v' (n + 1) (xs ++ u) → w.grownBy w' v.ownBlock → (v'.ownBlock = v.ownBlock ∨ v'.ownBlock = some w.heap.size) → K (a.put o.dst v') w') : o.wp P a w K Q := by
  obtain ⟨i0, hi, hz0, hz1, hz2⟩ := info_parts hinfo
  obtain ⟨v', w', hr, h2, h3, _, h5⟩ := run_append_own_at (P := P) w base t o.type e i0 z size bytes ht hi hz0 hz1 hz2 hzs hsz v n xs hown ⟨g, 0, none⟩ 1 1 u (by rw [hu]; omega) (fun j y hj => by
      rw [Go.WideShapes.add_plain, Nat.zero_add, hB.cell j, List.getElem?_toArray]
      exact hj) h1 (by unfold maxLen; omega) (by
      calc (n + 1) * bytes ≤ 1000000001 * 1000 := Nat.mul_le_mul (by omega) hby
        _ ≤ 140737488355328 := by omega) hbase
  unfold Oper.wp execOp
  simp only [ho, resolve, invoke, builtin, Sem.run_bind, Sem.run_pure, Result.andThen_ok, List.map_toArray, List.map_cons, List.map_nil, hs, hx, hr]
  exact h v' w' h2 h3 h5
end

set_option maxHeartbeats 16000000 in
theorem rprom_f (base P : Nat) (s : Nat → Prop) (n br bn ep : Int) (cl pl sl : List Int) (has : Bool) (xr xn xep : Int) (xl : List Int) (L : List Vt) (node ar an cep : Int) (A : Option Addr) (cap : Nat) (l : List Int) (w : World) (H : XAt w base P s ⟨n, br, bn, ep, cl, pl, sl, has, xr, xn, xep, xl⟩ L) (hpl : pl.length ≤ 1000000) (hLl : L.length ≤ 1000000) (hs : Sl i64 w A l) (hA : l ≠ [] → ∀ a, A = some a → a.block < base) (h0 : ¬ node < 0) (h1 : ¬ n ≤ node) (hi : ¬ node ∈ pl) :
    Calls Try.prog 18 #[.pointer (some ⟨P, 0, none⟩), .int .i64 node, .agg #[.int .i64 br, .int .i64 bn, .int .i64 ar, .int .i64 an, .bool false, .int .i64 cep, .slice A l.length cap]] w fun e w' => e = .returned (.bool true) ∧ ∃ s', XAt w' base P s' ⟨n, br, bn, ep, cl, pl ++ [node], sl, has, xr, xn, xep, xl⟩ (L ++ [⟨br, bn, ar, an, false, cep, A, cap, l⟩]) ∧ Frm s w w' ∧ ∀ k, s' k → s k ∨ w.heap.size ≤ k := by
  refine hide_post fun D hD => ?_
  obtain ⟨hP, cA, ccap, V, F, S, kP, hV, hF, hS, hne, ⟨hcs, hcb⟩, hLs, hsel⟩ := H
  simp only at *
  obtain ⟨FA, Fcap, hFe, sF⟩ := own_view hF
  obtain ⟨w0, hw0⟩ : ∃ w0, w0 = w.alloc (.cells #[.int .i64 br, .int .i64 bn, .int .i64 ar, .int .i64 an, .bool false, .int .i64 cep, .slice A l.length cap] 40) := ⟨_, rfl⟩
  have hb0 : Ext w w0 := by rw [hw0]; exact Ext.alloc _ _
  have KTW := Lib.hid kP
  have KT := Lib.hid (kP.stay hb0)
  have HbP : Hid (base ≤ P) := hP
  have HPLT : Hid (P < w.heap.size) := kP.lt
  have KV : Hid (Blk w0 w.heap.size 40 #[.int .i64 br, .int .i64 bn, .int .i64 ar, .int .i64 an, .bool false, .int .i64 cep, .slice A l.length cap]) := by show Blk _ _ _ _; rw [hw0]; exact Blk.new _ _ _
  have CH : Hid (∀ W, Ext w0 W → Calls Try.prog 49 #[F, .int .i64 node] W fun e w' => e = .returned (.bool false) ∧ Ext W w') := fun W hW => by
    rw [hFe]
    have h7 := has11_any FA Fcap pl node W hpl (sF.stay (Ext.trans hb0 hW))
    rw [decide_eq_false hi] at h7
    exact h7
  have HT : Hid (Sl i64 w A l ∧ (l ≠ [] → ∀ a, A = some a → a.block < base)) := ⟨hs, hA⟩
  have HV := Lib.hid hV
  have HF := Lib.hid hF
  have HS := Lib.hid hS
  have HNE := Lib.hid hne
  have HCS := Lib.hid hcs
  have HCB := Lib.hid hcb
  have HLS := Lib.hid hLs
  have HSEL := Lib.hid hsel
  have ft0 : ∀ W, Ext w0 W → W.cell? ⟨P, 0, none⟩ = some (.int .i64 n) := fun W h => (KT.out.stay h).cell 0
  have ft1 : ∀ W, Ext w0 W → W.cell? ⟨P, 1, none⟩ = some (.int .i64 br) := fun W h => (KT.out.stay h).cell 1
  have ft2 : ∀ W, Ext w0 W → W.cell? ⟨P, 2, none⟩ = some (.int .i64 bn) := fun W h => (KT.out.stay h).cell 2
  have ft3 : ∀ W, Ext w0 W → W.cell? ⟨P, 3, none⟩ = some (.int .i64 ep) := fun W h => (KT.out.stay h).cell 3
  have ft6 : ∀ W, Ext w0 W → W.cell? ⟨P, 6, none⟩ = some (F) := fun W h => (KT.out.stay h).cell 6
  have fv0 : ∀ W, Ext w0 W → W.cell? ⟨w.heap.size, 0, none⟩ = some (.int .i64 br) := fun W h => (KV.out.stay h).cell 0
  have fv1 : ∀ W, Ext w0 W → W.cell? ⟨w.heap.size, 1, none⟩ = some (.int .i64 bn) := fun W h => (KV.out.stay h).cell 1
  have fv2 : ∀ W, Ext w0 W → W.cell? ⟨w.heap.size, 2, none⟩ = some (.int .i64 ar) := fun W h => (KV.out.stay h).cell 2
  have fv3 : ∀ W, Ext w0 W → W.cell? ⟨w.heap.size, 3, none⟩ = some (.int .i64 an) := fun W h => (KV.out.stay h).cell 3
  have fv4 : ∀ W, Ext w0 W → W.cell? ⟨w.heap.size, 4, none⟩ = some (.bool false) := fun W h => (KV.out.stay h).cell 4
  have fv5 : ∀ W, Ext w0 W → W.cell? ⟨w.heap.size, 5, none⟩ = some (.int .i64 cep) := fun W h => (KV.out.stay h).cell 5
  have fv6 : ∀ W, Ext w0 W → W.cell? ⟨w.heap.size, 6, none⟩ = some (.slice A l.length cap) := fun W h => (KV.out.stay h).cell 6
  have HW0 := Lib.hid hw0
  have HB0 := Lib.hid hb0
  have E0 : Hid (Ext w0 w0) := Ext.refl _
  clear hV hF hS hne hcs hcb hLs hsel kP sF hw0 hb0 hFe hi hs hA hP
  go_enter Try.func18, Try.ntmps18
  go_wp2_with fail
  rw [← HW0.out]
  refine ext_begin (by kernel_rfl) ?_
  have E0d := Lib.hid (Ext.drewR E0.out)
  refine ext_take (i := 0) (v := ?_) rfl (by kernel_rfl) (by kernel_rfl) (by kernel_rfl) (fun _ _ _ h => h) (by rfl) ?_ ?_
  rotate_left
  · intro W hW; have hW0 := Ext.trans E0d.out hW; clear hW; go_simp <;> with_reducible rfl
  try simp only [Act.put, List.setIfInBounds_toArray, List.set_cons_zero, List.set_cons_succ]
  refine ext_take (i := 1) (v := .bool false) rfl (by kernel_rfl) (by kernel_rfl) (by kernel_rfl) (fun _ _ _ h => h) (by rfl) ?_ ?_
  · intro W hW; have hW0 := Ext.trans E0d.out hW; clear hW; go_simp; all_goals (first | done | rfl | (simp [h0]; done))
  try simp only [Act.put, List.setIfInBounds_toArray, List.set_cons_zero, List.set_cons_succ]
  refine ext_take (i := 2) (v := ?_) rfl (by kernel_rfl) (by kernel_rfl) (by kernel_rfl) (fun _ _ _ h => h) (by rfl) ?_ ?_
  rotate_left
  · intro W hW; have hW0 := Ext.trans E0d.out hW; clear hW; go_simp <;> with_reducible rfl
  try simp only [Act.put, List.setIfInBounds_toArray, List.set_cons_zero, List.set_cons_succ]
  refine ext_take (i := 3) (v := ?_) rfl (by kernel_rfl) (by kernel_rfl) (by kernel_rfl) (fun _ _ _ h => h) (by rfl) ?_ ?_
  rotate_left
  · intro W hW; have hW0 := Ext.trans E0d.out hW; clear hW; go_simp <;> with_reducible rfl
  try simp only [Act.put, List.setIfInBounds_toArray, List.set_cons_zero, List.set_cons_succ]
  refine ext_take (i := 4) (v := ?_) rfl (by kernel_rfl) (by kernel_rfl) (by kernel_rfl) (fun _ _ _ h => h) (by rfl) ?_ ?_
  rotate_left
  · intro W hW; have hW0 := Ext.trans E0d.out hW; clear hW; go_simp <;> with_reducible rfl
  try simp only [Act.put, List.setIfInBounds_toArray, List.set_cons_zero, List.set_cons_succ]
  refine ext_take (i := 5) (v := ?_) rfl (by kernel_rfl) (by kernel_rfl) (by kernel_rfl) (fun _ _ _ h => h) (by rfl) ?_ ?_
  rotate_left
  · intro W hW; have hW0 := Ext.trans E0d.out hW; clear hW; go_simp <;> with_reducible rfl
  try simp only [Act.put, List.setIfInBounds_toArray, List.set_cons_zero, List.set_cons_succ]
  refine ext_take (i := 6) (v := ?_) rfl (by kernel_rfl) (by kernel_rfl) (by kernel_rfl) (fun _ _ _ h => h) (by rfl) ?_ ?_
  rotate_left
  · intro W hW; have hW0 := Ext.trans E0d.out hW; clear hW; go_simp <;> with_reducible rfl
  try simp only [Act.put, List.setIfInBounds_toArray, List.set_cons_zero, List.set_cons_succ]
  refine ext_take (i := 7) (v := ?_) rfl (by kernel_rfl) (by kernel_rfl) (by kernel_rfl) (fun _ _ _ h => h) (by rfl) ?_ ?_
  rotate_left
  · intro W hW; have hW0 := Ext.trans E0d.out hW; clear hW; go_simp <;> with_reducible rfl
  try simp only [Act.put, List.setIfInBounds_toArray, List.set_cons_zero, List.set_cons_succ]
  refine ext_take (i := 8) (v := .bool false) rfl (by kernel_rfl) (by kernel_rfl) (by kernel_rfl) (fun _ _ _ h => h) (by rfl) ?_ ?_
  · intro W hW; have hW0 := Ext.trans E0d.out hW; clear hW; go_simp; all_goals (first | done | rfl | (simp [h1]; done))
  try simp only [Act.put, List.setIfInBounds_toArray, List.set_cons_zero, List.set_cons_succ]
  refine ext_take (i := 9) (v := ?_) rfl (by kernel_rfl) (by kernel_rfl) (by kernel_rfl) (fun _ _ _ h => h) (by rfl) ?_ ?_
  rotate_left
  · intro W hW; have hW0 := Ext.trans E0d.out hW; clear hW; go_simp <;> with_reducible rfl
  try simp only [Act.put, List.setIfInBounds_toArray, List.set_cons_zero, List.set_cons_succ]
  refine ext_take (i := 10) (v := ?_) rfl (by kernel_rfl) (by kernel_rfl) (by kernel_rfl) (fun _ _ _ h => h) (by rfl) ?_ ?_
  rotate_left
  · intro W hW; have hW0 := Ext.trans E0d.out hW; clear hW; go_simp <;> with_reducible rfl
  try simp only [Act.put, List.setIfInBounds_toArray, List.set_cons_zero, List.set_cons_succ]
  refine ext_take (i := 11) (v := ?_) rfl (by kernel_rfl) (by kernel_rfl) (by kernel_rfl) (fun _ _ _ h => h) (by rfl) ?_ ?_
  rotate_left
  · intro W hW; have hW0 := Ext.trans E0d.out hW; clear hW; go_simp <;> with_reducible rfl
  try simp only [Act.put, List.setIfInBounds_toArray, List.set_cons_zero, List.set_cons_succ]
  refine ext_take (i := 12) (v := ?_) rfl (by kernel_rfl) (by kernel_rfl) (by kernel_rfl) (fun _ _ _ h => h) (by rfl) ?_ ?_
  rotate_left
  · intro W hW; have hW0 := Ext.trans E0d.out hW; clear hW; go_simp <;> with_reducible rfl
  try simp only [Act.put, List.setIfInBounds_toArray, List.set_cons_zero, List.set_cons_succ]
  refine ext_take (i := 13) (v := ?_) rfl (by kernel_rfl) (by kernel_rfl) (by kernel_rfl) (fun _ _ _ h => h) (by rfl) ?_ ?_
  rotate_left
  · intro W hW; have hW0 := Ext.trans E0d.out hW; clear hW; go_simp <;> with_reducible rfl
  try simp only [Act.put, List.setIfInBounds_toArray, List.set_cons_zero, List.set_cons_succ]
  refine ext_take (i := 14) (v := ?_) rfl (by kernel_rfl) (by kernel_rfl) (by kernel_rfl) (fun _ _ _ h => h) (by rfl) ?_ ?_
  rotate_left
  · intro W hW; have hW0 := Ext.trans E0d.out hW; clear hW; go_simp <;> with_reducible rfl
  try simp only [Act.put, List.setIfInBounds_toArray, List.set_cons_zero, List.set_cons_succ]
  refine ext_take (i := 15) (v := ?_) rfl (by kernel_rfl) (by kernel_rfl) (by kernel_rfl) (fun _ _ _ h => h) (by rfl) ?_ ?_
  rotate_left
  · intro W hW; have hW0 := Ext.trans E0d.out hW; clear hW; go_simp <;> with_reducible rfl
  try simp only [Act.put, List.setIfInBounds_toArray, List.set_cons_zero, List.set_cons_succ]
  refine ext_call (i := 16) rfl (by kernel_rfl) (by rfl) (fun K' hK => ?_)
  go_simp
  (go_at_call 49; (with_reducible refine (CH.out _ E0d.out).mono ?_); rintro e w1 ⟨rfl, hx⟩; refine hK _ _ hx ?_; clear hK)
  have Ew1 := Lib.hid (Ext.trans E0d.out hx)
  clear hx
  try simp only [Act.put, List.setIfInBounds_toArray, List.set_cons_zero, List.set_cons_succ]
  refine ext_take (i := 17) (v := ?_) rfl (by kernel_rfl) (by kernel_rfl) (by kernel_rfl) (fun _ _ _ h => h) (by rfl) ?_ ?_
  rotate_left
  · intro W hW; have hW0 := Ext.trans Ew1.out hW; clear hW; go_simp <;> with_reducible rfl
  try simp only [Act.put, List.setIfInBounds_toArray, List.set_cons_zero, List.set_cons_succ]
  refine ext_take (i := 18) (v := ?_) rfl (by kernel_rfl) (by kernel_rfl) (by kernel_rfl) (fun _ _ _ h => h) (by rfl) ?_ ?_
  rotate_left
  · intro W hW; have hW0 := Ext.trans Ew1.out hW; clear hW; go_simp <;> with_reducible rfl
  try simp only [Act.put, List.setIfInBounds_toArray, List.set_cons_zero, List.set_cons_succ]
  refine ext_take (i := 19) (v := ?_) rfl (by kernel_rfl) (by kernel_rfl) (by kernel_rfl) (fun _ _ _ h => h) (by rfl) ?_ ?_
  rotate_left
  · intro W hW; have hW0 := Ext.trans Ew1.out hW; clear hW; go_simp <;> with_reducible rfl
  try simp only [Act.put, List.setIfInBounds_toArray, List.set_cons_zero, List.set_cons_succ]
  refine ext_take (i := 20) (v := ?_) rfl (by kernel_rfl) (by kernel_rfl) (by kernel_rfl) (fun _ _ _ h => h) (by rfl) ?_ ?_
  rotate_left
  · intro W hW; have hW0 := Ext.trans Ew1.out hW; clear hW; go_simp <;> with_reducible rfl
  try simp only [Act.put, List.setIfInBounds_toArray, List.set_cons_zero, List.set_cons_succ]
  refine ext_take (i := 21) (v := ?_) rfl (by kernel_rfl) (by kernel_rfl) (by kernel_rfl) (fun _ _ _ h => h) (by rfl) ?_ ?_
  rotate_left
  · intro W hW; have hW0 := Ext.trans Ew1.out hW; clear hW; go_simp <;> with_reducible rfl
  try simp only [Act.put, List.setIfInBounds_toArray, List.set_cons_zero, List.set_cons_succ]
  refine ext_take (i := 22) (v := ?_) rfl (by kernel_rfl) (by kernel_rfl) (by kernel_rfl) (fun _ _ _ h => h) (by rfl) ?_ ?_
  rotate_left
  · intro W hW; have hW0 := Ext.trans Ew1.out hW; clear hW; go_simp <;> with_reducible rfl
  try simp only [Act.put, List.setIfInBounds_toArray, List.set_cons_zero, List.set_cons_succ]
  refine ext_take (i := 23) (v := ?_) rfl (by kernel_rfl) (by kernel_rfl) (by kernel_rfl) (fun _ _ _ h => h) (by rfl) ?_ ?_
  rotate_left
  · intro W hW; have hW0 := Ext.trans Ew1.out hW; clear hW; go_simp <;> with_reducible rfl
  try simp only [Act.put, List.setIfInBounds_toArray, List.set_cons_zero, List.set_cons_succ]
  refine ext_take (i := 24) (v := ?_) rfl (by kernel_rfl) (by kernel_rfl) (by kernel_rfl) (fun _ _ _ h => h) (by rfl) ?_ ?_
  rotate_left
  · intro W hW; have hW0 := Ext.trans Ew1.out hW; clear hW; go_simp <;> with_reducible rfl
  try simp only [Act.put, List.setIfInBounds_toArray, List.set_cons_zero, List.set_cons_succ]
  refine ext_take (i := 25) (v := .bool false) rfl (by kernel_rfl) (by kernel_rfl) (by kernel_rfl) (fun _ _ _ h => h) (by rfl) ?_ ?_
  · intro W hW; have hW0 := Ext.trans Ew1.out hW; clear hW; go_simp; all_goals (first | done | rfl | (simp [h0]; done))
  try simp only [Act.put, List.setIfInBounds_toArray, List.set_cons_zero, List.set_cons_succ]
  refine ext_take (i := 26) (v := ?_) rfl (by kernel_rfl) (by kernel_rfl) (by kernel_rfl) (fun _ _ _ h => h) (by rfl) ?_ ?_
  rotate_left
  · intro W hW; have hW0 := Ext.trans Ew1.out hW; clear hW; go_simp <;> with_reducible rfl
  try simp only [Act.put, List.setIfInBounds_toArray, List.set_cons_zero, List.set_cons_succ]
  refine ext_take (i := 27) (v := ?_) rfl (by kernel_rfl) (by kernel_rfl) (by kernel_rfl) (fun _ _ _ h => h) (by rfl) ?_ ?_
  rotate_left
  · intro W hW; have hW0 := Ext.trans Ew1.out hW; clear hW; go_simp <;> with_reducible rfl
  try simp only [Act.put, List.setIfInBounds_toArray, List.set_cons_zero, List.set_cons_succ]
  refine ext_take (i := 28) (v := ?_) rfl (by kernel_rfl) (by kernel_rfl) (by kernel_rfl) (fun _ _ _ h => h) (by rfl) ?_ ?_
  rotate_left
  · intro W hW; have hW0 := Ext.trans Ew1.out hW; clear hW; go_simp <;> with_reducible rfl
  try simp only [Act.put, List.setIfInBounds_toArray, List.set_cons_zero, List.set_cons_succ]
  refine ext_take (i := 29) (v := ?_) rfl (by kernel_rfl) (by kernel_rfl) (by kernel_rfl) (fun _ _ _ h => h) (by rfl) ?_ ?_
  rotate_left
  · intro W hW; have hW0 := Ext.trans Ew1.out hW; clear hW; go_simp <;> with_reducible rfl
  try simp only [Act.put, List.setIfInBounds_toArray, List.set_cons_zero, List.set_cons_succ]
  refine ext_take (i := 30) (v := ?_) rfl (by kernel_rfl) (by kernel_rfl) (by kernel_rfl) (fun _ _ _ h => h) (by rfl) ?_ ?_
  rotate_left
  · intro W hW; have hW0 := Ext.trans Ew1.out hW; clear hW; go_simp <;> with_reducible rfl
  try simp only [Act.put, List.setIfInBounds_toArray, List.set_cons_zero, List.set_cons_succ]
  refine ext_skip (i := 31) rfl (by kernel_rfl) (by kernel_rfl) (by kernel_rfl) (fun _ _ _ h => h) (by rfl) ?_
  try simp only [Act.put, List.setIfInBounds_toArray, List.set_cons_zero, List.set_cons_succ]
  refine ext_skip (i := 32) rfl (by kernel_rfl) (by kernel_rfl) (by kernel_rfl) (fun _ _ _ h => h) (by rfl) ?_
  try simp only [Act.put, List.setIfInBounds_toArray, List.set_cons_zero, List.set_cons_succ]
  refine ext_skip (i := 33) rfl (by kernel_rfl) (by kernel_rfl) (by kernel_rfl) (fun _ _ _ h => h) (by rfl) ?_
  try simp only [Act.put, List.setIfInBounds_toArray, List.set_cons_zero, List.set_cons_succ]
  refine ext_skip (i := 34) rfl (by kernel_rfl) (by kernel_rfl) (by kernel_rfl) (fun _ _ _ h => h) (by rfl) ?_
  try simp only [Act.put, List.setIfInBounds_toArray, List.set_cons_zero, List.set_cons_succ]
  refine ext_skip (i := 35) rfl (by kernel_rfl) (by kernel_rfl) (by kernel_rfl) (fun _ _ _ h => h) (by rfl) ?_
  try simp only [Act.put, List.setIfInBounds_toArray, List.set_cons_zero, List.set_cons_succ]
  refine ext_skip (i := 36) rfl (by kernel_rfl) (by kernel_rfl) (by kernel_rfl) (fun _ _ _ h => h) (by rfl) ?_
  try simp only [Act.put, List.setIfInBounds_toArray, List.set_cons_zero, List.set_cons_succ]
  refine ext_skip (i := 37) rfl (by kernel_rfl) (by kernel_rfl) (by kernel_rfl) (fun _ _ _ h => h) (by rfl) ?_
  try simp only [Act.put, List.setIfInBounds_toArray, List.set_cons_zero, List.set_cons_succ]
  refine ext_skip (i := 38) rfl (by kernel_rfl) (by kernel_rfl) (by kernel_rfl) (fun _ _ _ h => h) (by rfl) ?_
  try simp only [Act.put, List.setIfInBounds_toArray, List.set_cons_zero, List.set_cons_succ]
  refine ext_skip (i := 39) rfl (by kernel_rfl) (by kernel_rfl) (by kernel_rfl) (fun _ _ _ h => h) (by rfl) ?_
  try simp only [Act.put, List.setIfInBounds_toArray, List.set_cons_zero, List.set_cons_succ]
  refine ext_skip (i := 40) rfl (by kernel_rfl) (by kernel_rfl) (by kernel_rfl) (fun _ _ _ h => h) (by rfl) ?_
  try simp only [Act.put, List.setIfInBounds_toArray, List.set_cons_zero, List.set_cons_succ]
  refine ext_skip (i := 41) rfl (by kernel_rfl) (by kernel_rfl) (by kernel_rfl) (fun _ _ _ h => h) (by rfl) ?_
  try simp only [Act.put, List.setIfInBounds_toArray, List.set_cons_zero, List.set_cons_succ]
  refine ext_skip (i := 42) rfl (by kernel_rfl) (by kernel_rfl) (by kernel_rfl) (fun _ _ _ h => h) (by rfl) ?_
  try simp only [Act.put, List.setIfInBounds_toArray, List.set_cons_zero, List.set_cons_succ]
  refine ext_skip (i := 43) rfl (by kernel_rfl) (by kernel_rfl) (by kernel_rfl) (fun _ _ _ h => h) (by rfl) ?_
  try simp only [Act.put, List.setIfInBounds_toArray, List.set_cons_zero, List.set_cons_succ]
  refine ext_skip (i := 44) rfl (by kernel_rfl) (by kernel_rfl) (by kernel_rfl) (fun _ _ _ h => h) (by rfl) ?_
  try simp only [Act.put, List.setIfInBounds_toArray, List.set_cons_zero, List.set_cons_succ]
  refine ext_skip (i := 45) rfl (by kernel_rfl) (by kernel_rfl) (by kernel_rfl) (fun _ _ _ h => h) (by rfl) ?_
  try simp only [Act.put, List.setIfInBounds_toArray, List.set_cons_zero, List.set_cons_succ]
  refine ext_skip (i := 46) rfl (by kernel_rfl) (by kernel_rfl) (by kernel_rfl) (fun _ _ _ h => h) (by rfl) ?_
  try simp only [Act.put, List.setIfInBounds_toArray, List.set_cons_zero, List.set_cons_succ]
  refine ext_skip (i := 47) rfl (by kernel_rfl) (by kernel_rfl) (by kernel_rfl) (fun _ _ _ h => h) (by rfl) ?_
  try simp only [Act.put, List.setIfInBounds_toArray, List.set_cons_zero, List.set_cons_succ]
  refine ext_skip (i := 48) rfl (by kernel_rfl) (by kernel_rfl) (by kernel_rfl) (fun _ _ _ h => h) (by rfl) ?_
  try simp only [Act.put, List.setIfInBounds_toArray, List.set_cons_zero, List.set_cons_succ]
  refine ext_skip (i := 49) rfl (by kernel_rfl) (by kernel_rfl) (by kernel_rfl) (fun _ _ _ h => h) (by rfl) ?_
  try simp only [Act.put, List.setIfInBounds_toArray, List.set_cons_zero, List.set_cons_succ]
  refine ext_skip (i := 50) rfl (by kernel_rfl) (by kernel_rfl) (by kernel_rfl) (fun _ _ _ h => h) (by rfl) ?_
  try simp only [Act.put, List.setIfInBounds_toArray, List.set_cons_zero, List.set_cons_succ]
  refine ext_skip (i := 51) rfl (by kernel_rfl) (by kernel_rfl) (by kernel_rfl) (fun _ _ _ h => h) (by rfl) ?_
  try simp only [Act.put, List.setIfInBounds_toArray, List.set_cons_zero, List.set_cons_succ]
  refine ext_take (i := 52) (v := ?_) rfl (by kernel_rfl) (by kernel_rfl) (by kernel_rfl) (fun _ _ _ h => h) (by rfl) ?_ ?_
  rotate_left
  · intro W hW; have hW0 := Ext.trans Ew1.out hW; clear hW; go_simp <;> with_reducible rfl
  try simp only [Act.put, List.setIfInBounds_toArray, List.set_cons_zero, List.set_cons_succ]
  refine ext_take (i := 53) (v := ?_) rfl (by kernel_rfl) (by kernel_rfl) (by kernel_rfl) (fun _ _ _ h => h) (by rfl) ?_ ?_
  rotate_left
  · intro W hW; have hW0 := Ext.trans Ew1.out hW; clear hW; go_simp <;> with_reducible rfl
  try simp only [Act.put, List.setIfInBounds_toArray, List.set_cons_zero, List.set_cons_succ]
  refine wpAnyH_done (by kernel_rfl) ?_ _
  clear ft0 ft1 ft2 ft3 ft6 fv0 fv1 fv2 fv3 fv4 fv5 fv6
  go_wp2
  obtain ⟨w9, hw9⟩ : ∃ z, z = w1 := ⟨_, rfl⟩
  subst hw9
  obtain ⟨n0, hn0⟩ : ∃ z, z = w9.heap.size := ⟨_, rfl⟩
  have HN9 := Lib.hid hn0
  clear hn0
  refine rz_begin (fun k => n0 ≤ k ∨ F.ownBlock = some k ∨ V.ownBlock = some k) [18, 21] (by kernel_rfl) ?_
  obtain ⟨w3, hw3⟩ : ∃ z, z = w9.drew := ⟨_, rfl⟩
  rw [← hw3]
  have HN3 : Hid (n0 = w3.heap.size) := by (show _ = _); rw [hw3]; exact HN9.out
  have HX3 : Hid (Ext w w3) := by show Ext _ _; rw [hw3]; exact Ext.drewR (Ext.trans HB0.out Ew1.out)
  have E3 : Hid (Frm (fun k => n0 ≤ k ∨ F.ownBlock = some k ∨ V.ownBlock = some k) w3 w3) := Frm.refl _ _
  have KT3 := Lib.hid (KTW.out.stay HX3.out)
  have HV3 := Lib.hid (own_frmX HV.out (Frm.of_below HX3.out (fun _ => False)) (fun _ _ h => h))
  have HF3 := Lib.hid (own_frm HF.out (Frm.of_below HX3.out (fun _ => False)) (fun _ _ h => h))
  have HS3 := Lib.hid (own_frm HS.out (Frm.of_below HX3.out (fun _ => False)) (fun _ _ h => h))
  have HCS3 := Lib.hid (HCS.out.stay HX3.out)
  have HLS3 : Hid (∀ t ∈ L, Sl i64 w3 t.A t.l ∧ (t.l ≠ [] → ∀ a, t.A = some a → a.block < base)) := fun t ht => ⟨(HLS.out t ht).1.stay HX3.out, (HLS.out t ht).2⟩
  have HT3 : Hid (Sl i64 w3 A l ∧ (l ≠ [] → ∀ a, A = some a → a.block < base)) := ⟨HT.out.1.stay HX3.out, HT.out.2⟩
  have HB3 : Hid (base ≤ w3.heap.size) := by have h1 := HX3.out.size; have h2 := HbP.out; have h3 := HPLT.out; (show _ ≤ _); omega
  have HPS : Hid (¬ (n0 ≤ P ∨ F.ownBlock = some P ∨ V.ownBlock = some P)) := by
    rintro (h | h | h)
    · have h1 := HPLT.out; have h2 := HX3.out.size; have h3 := HN3.out; omega
    · exact own_apB HF3.out KT3.out (by decide) h
    · exact own_apB HV3.out KT3.out (by decide) h
  have KV3 := Lib.hid (KV.out.stay (by rw [hw3]; exact Ext.drewR Ew1.out : Ext w0 w3))
  have fa5 : ∀ W, Frm (fun k => n0 ≤ k ∨ F.ownBlock = some k ∨ V.ownBlock = some k) w3 W → W.cell? ⟨P, 5, none⟩ = some V := fun W h => (KT3.out.frm h HPS.out).cell 5
  have fa6 : ∀ W, Frm (fun k => n0 ≤ k ∨ F.ownBlock = some k ∨ V.ownBlock = some k) w3 W → W.cell? ⟨P, 6, none⟩ = some F := fun W h => (KT3.out.frm h HPS.out).cell 6
  have HVS : Hid (¬ (n0 ≤ w.heap.size ∨ F.ownBlock = some w.heap.size ∨ V.ownBlock = some w.heap.size)) := by
    rintro (h | h | h)
    · have h1 := KV3.out.lt; have h3 := HN3.out; omega
    · exact own_apB HF3.out KV3.out (by decide) h
    · have := (HV.out.lt _ h).2; omega
  have fw0 : ∀ W, Frm (fun k => n0 ≤ k ∨ F.ownBlock = some k ∨ V.ownBlock = some k) w3 W → W.cell? ⟨w.heap.size, 0, none⟩ = some (.int .i64 br) := fun W h => (KV3.out.frm h HVS.out).cell 0
  have fw1 : ∀ W, Frm (fun k => n0 ≤ k ∨ F.ownBlock = some k ∨ V.ownBlock = some k) w3 W → W.cell? ⟨w.heap.size, 1, none⟩ = some (.int .i64 bn) := fun W h => (KV3.out.frm h HVS.out).cell 1
  have fw2 : ∀ W, Frm (fun k => n0 ≤ k ∨ F.ownBlock = some k ∨ V.ownBlock = some k) w3 W → W.cell? ⟨w.heap.size, 2, none⟩ = some (.int .i64 ar) := fun W h => (KV3.out.frm h HVS.out).cell 2
  have fw3 : ∀ W, Frm (fun k => n0 ≤ k ∨ F.ownBlock = some k ∨ V.ownBlock = some k) w3 W → W.cell? ⟨w.heap.size, 3, none⟩ = some (.int .i64 an) := fun W h => (KV3.out.frm h HVS.out).cell 3
  have fw4 : ∀ W, Frm (fun k => n0 ≤ k ∨ F.ownBlock = some k ∨ V.ownBlock = some k) w3 W → W.cell? ⟨w.heap.size, 4, none⟩ = some (.bool false) := fun W h => (KV3.out.frm h HVS.out).cell 4
  have fw5 : ∀ W, Frm (fun k => n0 ≤ k ∨ F.ownBlock = some k ∨ V.ownBlock = some k) w3 W → W.cell? ⟨w.heap.size, 5, none⟩ = some (.int .i64 cep) := fun W h => (KV3.out.frm h HVS.out).cell 5
  have fw6 : ∀ W, Frm (fun k => n0 ≤ k ∨ F.ownBlock = some k ∨ V.ownBlock = some k) w3 W → W.cell? ⟨w.heap.size, 6, none⟩ = some (.slice A l.length cap) := fun W h => (KV3.out.frm h HVS.out).cell 6
  clear hw3
  refine rz_take [16, 17, 18, 19, 20, 21] (i := 0) (v := ?_) rfl (by kernel_rfl) (by kernel_rfl) (by kernel_rfl) (by kernel_rfl) (by kernel_rfl) (by kernel_rfl) (fun _ _ _ h => h) (by rfl) ?_ ?_
  rotate_left
  · intro W hW; have hW0 := Frm.tr E3.out hW; clear hW; go_simp <;> with_reducible rfl
  try simp only [Act.put, List.setIfInBounds_toArray, List.set_cons_zero, List.set_cons_succ]
  refine rz_takew (i := 1) (v := ?_) rfl (by kernel_rfl) (by kernel_rfl) (by kernel_rfl) (fun _ _ _ h => h) (by rfl) ?_ ?_
  rotate_left
  · intro W; go_simp <;> with_reducible rfl
  try simp only [Act.put, List.setIfInBounds_toArray, List.set_cons_zero, List.set_cons_succ]
  refine rz_take [3, 4, 5, 8, 15, 16, 17, 18, 19, 20, 21] (i := 2) (v := ?_) rfl (by kernel_rfl) (by kernel_rfl) (by kernel_rfl) (by kernel_rfl) (by kernel_rfl) (by kernel_rfl) (fun _ _ _ h => h) (by rfl) ?_ ?_
  rotate_left
  · intro W hW; have hW0 := Frm.tr E3.out hW; clear hW; go_simp <;> with_reducible rfl
  try simp only [Act.put, List.setIfInBounds_toArray, List.set_cons_zero, List.set_cons_succ]
  refine rz_take [4, 5, 8, 15, 16, 17, 18, 19, 20, 21] (i := 3) (v := ?_) rfl (by kernel_rfl) (by kernel_rfl) (by kernel_rfl) (by kernel_rfl) (by kernel_rfl) (by kernel_rfl) (fun _ _ _ h => h) (by rfl) ?_ ?_
  rotate_left
  · intro W hW; have hW0 := Frm.tr E3.out hW; clear hW; go_simp <;> with_reducible rfl
  try simp only [Act.put, List.setIfInBounds_toArray, List.set_cons_zero, List.set_cons_succ]
  refine rz_take [5, 8, 15, 16, 17, 18, 19, 20, 21] (i := 4) (v := ?_) rfl (by kernel_rfl) (by kernel_rfl) (by kernel_rfl) (by kernel_rfl) (by kernel_rfl) (by kernel_rfl) (fun _ _ _ h => h) (by rfl) ?_ ?_
  rotate_left
  · intro W hW; have hW0 := Frm.tr E3.out hW; clear hW; go_simp <;> with_reducible rfl
  try simp only [Act.put, List.setIfInBounds_toArray, List.set_cons_zero, List.set_cons_succ]
  refine rz_take [8, 15, 16, 17, 18, 19, 20, 21] (i := 5) (v := ?_) rfl (by kernel_rfl) (by kernel_rfl) (by kernel_rfl) (by kernel_rfl) (by kernel_rfl) (by kernel_rfl) (fun _ _ _ h => h) (by rfl) ?_ ?_
  rotate_left
  · intro W hW; have hW0 := Frm.tr E3.out hW; clear hW; go_simp <;> with_reducible rfl
  try simp only [Act.put, List.setIfInBounds_toArray, List.set_cons_zero, List.set_cons_succ]
  refine rz_take [7, 8, 15, 16, 17, 18, 19, 20, 21] (i := 6) (v := ?_) rfl (by kernel_rfl) (by kernel_rfl) (by kernel_rfl) (by kernel_rfl) (by kernel_rfl) (by kernel_rfl) (fun _ _ _ h => h) (by rfl) ?_ ?_
  rotate_left
  · intro W hW; have hW0 := Frm.tr E3.out hW; clear hW; go_simp <;> with_reducible rfl
  try simp only [Act.put, List.setIfInBounds_toArray, List.set_cons_zero, List.set_cons_succ]
  refine rz_take [10, 11, 12, 15, 16, 17, 18, 19, 20, 21] (i := 9) (v := ?_) rfl (by kernel_rfl) (by kernel_rfl) (by kernel_rfl) (by kernel_rfl) (by kernel_rfl) (by kernel_rfl) (fun _ _ _ h => h) (by rfl) ?_ ?_
  rotate_left
  · intro W hW; have hW0 := Frm.tr E3.out hW; clear hW; go_simp <;> with_reducible rfl
  try simp only [Act.put, List.setIfInBounds_toArray, List.set_cons_zero, List.set_cons_succ]
  refine rz_take [11, 12, 15, 16, 17, 18, 19, 20, 21] (i := 10) (v := ?_) rfl (by kernel_rfl) (by kernel_rfl) (by kernel_rfl) (by kernel_rfl) (by kernel_rfl) (by kernel_rfl) (fun _ _ _ h => h) (by rfl) ?_ ?_
  rotate_left
  · intro W hW; have hW0 := Frm.tr E3.out hW; clear hW; go_simp <;> with_reducible rfl
  try simp only [Act.put, List.setIfInBounds_toArray, List.set_cons_zero, List.set_cons_succ]
  refine rz_take [12, 15, 16, 17, 18, 19, 20, 21] (i := 11) (v := ?_) rfl (by kernel_rfl) (by kernel_rfl) (by kernel_rfl) (by kernel_rfl) (by kernel_rfl) (by kernel_rfl) (fun _ _ _ h => h) (by rfl) ?_ ?_
  rotate_left
  · intro W hW; have hW0 := Frm.tr E3.out hW; clear hW; go_simp <;> with_reducible rfl
  try simp only [Act.put, List.setIfInBounds_toArray, List.set_cons_zero, List.set_cons_succ]
  refine rz_take [15, 16, 17, 18, 19, 20, 21] (i := 12) (v := ?_) rfl (by kernel_rfl) (by kernel_rfl) (by kernel_rfl) (by kernel_rfl) (by kernel_rfl) (by kernel_rfl) (fun _ _ _ h => h) (by rfl) ?_ ?_
  rotate_left
  · intro W hW; have hW0 := Frm.tr E3.out hW; clear hW; go_simp <;> with_reducible rfl
  try simp only [Act.put, List.setIfInBounds_toArray, List.set_cons_zero, List.set_cons_succ]
  refine rz_take [14, 15, 16, 17, 18, 19, 20, 21] (i := 13) (v := ?_) rfl (by kernel_rfl) (by kernel_rfl) (by kernel_rfl) (by kernel_rfl) (by kernel_rfl) (by kernel_rfl) (fun _ _ _ h => h) (by rfl) ?_ ?_
  rotate_left
  · intro W hW; have hW0 := Frm.tr E3.out hW; clear hW; go_simp <;> with_reducible rfl
  try simp only [Act.put, List.setIfInBounds_toArray, List.set_cons_zero, List.set_cons_succ]
  refine rz_two (i := 7) (j := 14) rfl rfl (by kernel_rfl) (by rfl) (by rfl) (fun K hK => ?_) (fun K hK => ?_)
  · go_simp
    refine hK _ _ (Frm.of_alloc _ _ _) ?_; clear hK K
    obtain ⟨W1, hW1⟩ : ∃ z, z = w3.alloc (.cells #[.int .i64 node] 3) := ⟨_, rfl⟩
    obtain ⟨g1, hg1⟩ : ∃ z, z = w3.heap.size := ⟨_, rfl⟩
    have B1 : Hid (Blk W1 g1 3 #[.int .i64 node]) := by (show Blk _ _ _ _); rw [hW1, hg1]; exact Blk.new _ _ _
    have X1 : Hid (Ext w3 W1) := by (show Ext _ _); rw [hW1]; exact Ext.alloc _ _
    have E1 : Hid (Frm (fun k => n0 ≤ k ∨ F.ownBlock = some k ∨ V.ownBlock = some k) w3 W1) := Frm.tr E3.out (Frm.of_below X1.out _)
    have OF1 := Lib.hid (own_frm HF3.out (Frm.of_below X1.out (fun _ => False)) (fun _ _ h => h))
    have OV1 := Lib.hid (own_frmX HV3.out (Frm.of_below X1.out (fun _ => False)) (fun _ _ h => h))
    rw [← hW1, ← hg1]
    clear hW1 hg1
    try simp only [Act.put, List.setIfInBounds_toArray, List.set_cons_zero, List.set_cons_succ]
    refine rz_two (i := 8) (j := 14) rfl rfl (by kernel_rfl) (by rfl) (by rfl) (fun K hK => ?_) (fun K hK => ?_)
    · refine wp_append_list (.tmp 66) (.tmp 68) 24 rfl base 3 (.int .i64 0) 8 Try.underlying24 info_int rfl (by omega) F pl.length (pl.map i64) (by rfl) OF1.out i64 (some ⟨g1, 0, none⟩) [node] 1 1 rfl (by rfl) (Sl.of_blk B1.out (fun j v hj => by match j, hj with | 0, hj => (simp at hj; subst hj; rfl))) (fun _ => rfl) (by simp; omega) (Nat.le_trans HB3.out E1.out.size) ?_
      intro F2 W2 oo gg bb
      have oo : W2.ownsRow base 3 1 F2 (pl.length + 1) (pl.map i64 ++ [node].map i64) := oo
      obtain ⟨FA2, FC2, hFe2⟩ := own_shape oo
      subst hFe2
      refine hK _ _ (Frm.of_grown gg (fun k hk => .inr (.inl hk.symm))) ?_; clear hK K
      have G2 : Hid (Frm (fun k => F.ownBlock = some k) W1 W2) := Frm.of_grown gg (fun k hk => hk.symm)
      have E2 : Hid (Frm (fun k => n0 ≤ k ∨ F.ownBlock = some k ∨ V.ownBlock = some k) w3 W2) := Frm.tr E1.out (G2.out.mono (fun k hk => .inr (.inl hk)))
      have OF2 : Hid (W2.ownsRow base 3 1 (.slice FA2 (pl.length + 1) FC2) (pl ++ [node]).length ((pl ++ [node]).map i64)) := by (show World.ownsRow _ _ _ _ _ _ _); simpa using oo
      have DF : Hid ((Value.slice FA2 (pl.length + 1) FC2).ownBlock = F.ownBlock ∨ ∃ k, (Value.slice FA2 (pl.length + 1) FC2).ownBlock = some k ∧ w3.heap.size ≤ k) := bb.imp id (fun ⟨k, h, hk⟩ => ⟨k, h, Nat.le_trans E1.out.size hk⟩)
      have OV2 := Lib.hid (own_frmX OV1.out G2.out (fun k hk e => own_apX OV1.out OF1.out (by decide) k hk e))
      clear oo gg bb
      try simp only [Act.put, List.setIfInBounds_toArray, List.set_cons_zero, List.set_cons_succ]
      refine rz_call (i := 14) rfl (by kernel_rfl) (by rfl) (fun K hK => ?_)
      go_simp
      refine hK _ _ (Frm.of_alloc _ _ _) ?_; clear hK K
      obtain ⟨W3, hW3⟩ : ∃ z, z = W2.alloc (.cells #[.int .i64 br, .int .i64 bn, .int .i64 ar, .int .i64 an, .bool false, .int .i64 cep, .slice A l.length cap] 40) := ⟨_, rfl⟩
      obtain ⟨g3, hg3⟩ : ∃ z, z = W2.heap.size := ⟨_, rfl⟩
      have B3 : Hid (Blk W3 g3 40 #[.int .i64 br, .int .i64 bn, .int .i64 ar, .int .i64 an, .bool false, .int .i64 cep, .slice A l.length cap]) := by (show Blk _ _ _ _); rw [hW3, hg3]; exact Blk.new _ _ _
      have X3 : Hid (Ext W2 W3) := by (show Ext _ _); rw [hW3]; exact Ext.alloc _ _
      have E3 : Hid (Frm (fun k => n0 ≤ k ∨ F.ownBlock = some k ∨ V.ownBlock = some k) w3 W3) := Frm.tr E2.out (Frm.of_below X3.out _)
      have OF3 := Lib.hid (own_frm OF2.out (Frm.of_below X3.out (fun _ => False)) (fun _ _ h => h))
      have OV3 := Lib.hid (own_frmX OV2.out (Frm.of_below X3.out (fun _ => False)) (fun _ _ h => h))
      rw [← hW3, ← hg3]
      clear hW3 hg3
      try simp only [Act.put, List.setIfInBounds_toArray, List.set_cons_zero, List.set_cons_succ]
      refine rz_call (i := 15) rfl (by kernel_rfl) (by rfl) (fun K hK => ?_)
      refine wp_append_v (.tmp 73) (.tmp 75) 36 rfl base 40 _ 7 72 Try.underlying36 info_vote rfl (by decide) (by decide) V L.length (flatV L) (by rfl) OV3.out g3 [.int .i64 br, .int .i64 bn, .int .i64 ar, .int .i64 an, .bool false, .int .i64 cep, .slice A l.length cap] rfl (by rfl) B3.out (by intro y hy; simp at hy; rcases hy with rfl | rfl | rfl | rfl | rfl | rfl | rfl <;> rfl) (by omega) (Nat.le_trans HB3.out E3.out.size) ?_
      intro V4 W4 oo gg bb
      obtain ⟨VA4, VC4, hVe4⟩ := own_shape oo
      subst hVe4
      refine hK _ _ (Frm.of_grown gg (fun k hk => .inr (.inr hk.symm))) ?_; clear hK K
      have G4 : Hid (Frm (fun k => V.ownBlock = some k) W3 W4) := Frm.of_grown gg (fun k hk => hk.symm)
      have E4 : Hid (Frm (fun k => n0 ≤ k ∨ F.ownBlock = some k ∨ V.ownBlock = some k) w3 W4) := Frm.tr E3.out (G4.out.mono (fun k hk => .inr (.inr hk)))
      have OV4 : Hid (W4.ownsRow base 40 7 (.slice VA4 (L.length + 1) VC4) (L ++ [(⟨br, bn, ar, an, false, cep, A, cap, l⟩ : Vt)]).length (flatV (L ++ [(⟨br, bn, ar, an, false, cep, A, cap, l⟩ : Vt)]))) := by
        show World.ownsRow _ _ _ _ _ _ _
        rw [flatV_append, List.length_append]
        simpa [flatV, vtRow] using oo
      have DV : Hid ((Value.slice VA4 (L.length + 1) VC4).ownBlock = V.ownBlock ∨ ∃ k, (Value.slice VA4 (L.length + 1) VC4).ownBlock = some k ∧ w3.heap.size ≤ k) := bb.imp id (fun h => ⟨_, h, E3.out.size⟩)
      have OF4 := Lib.hid (own_frm OF3.out G4.out (fun k hk e => own_apX OF3.out OV3.out (by decide) k hk e))
      clear oo gg bb
      try simp only [Act.put, List.setIfInBounds_toArray, List.set_cons_zero, List.set_cons_succ]
      refine rz_take [17, 18, 19, 20, 21] (i := 16) (v := ?_) rfl (by kernel_rfl) (by kernel_rfl) (by kernel_rfl) (by kernel_rfl) (by kernel_rfl) (by kernel_rfl) (fun _ _ _ h => h) (by rfl) ?_ ?_
      rotate_left
      · intro W hW; have hW0 := Frm.tr E4.out hW; clear hW; go_simp <;> with_reducible rfl
      try simp only [Act.put, List.setIfInBounds_toArray, List.set_cons_zero, List.set_cons_succ]
      refine rz_take [18, 19, 20, 21] (i := 17) (v := ?_) rfl (by kernel_rfl) (by kernel_rfl) (by kernel_rfl) (by kernel_rfl) (by kernel_rfl) (by kernel_rfl) (fun _ _ _ h => h) (by rfl) ?_ ?_
      rotate_left
      · intro W hW; have hW0 := Frm.tr E4.out hW; clear hW; go_simp <;> with_reducible rfl
      try simp only [Act.put, List.setIfInBounds_toArray, List.set_cons_zero, List.set_cons_succ]
      refine rz_last (i := 18) rfl (by kernel_rfl) (by rfl) (by rfl) (fun K hK => ?_)
      have KT5 := Lib.hid (KT3.out.frm E4.out HPS.out)
      have q1 := KT5.out.frozen 6
      have r1 := KT5.out.cell 6
      simp at r1
      go_simp
      refine hK _ _ ?_; clear hK K q1 r1
      try simp only [Act.put, List.setIfInBounds_toArray, List.set_cons_zero, List.set_cons_succ]
      refine rz_takew (i := 19) (v := ?_) rfl (by kernel_rfl) (by kernel_rfl) (by kernel_rfl) (fun _ _ _ h => h) (by rfl) ?_ ?_
      rotate_left
      · intro W; go_simp <;> with_reducible rfl
      try simp only [Act.put, List.setIfInBounds_toArray, List.set_cons_zero, List.set_cons_succ]
      refine rz_takew (i := 20) (v := ?_) rfl (by kernel_rfl) (by kernel_rfl) (by kernel_rfl) (fun _ _ _ h => h) (by rfl) ?_ ?_
      rotate_left
      · intro W; go_simp <;> with_reducible rfl
      try simp only [Act.put, List.setIfInBounds_toArray, List.set_cons_zero, List.set_cons_succ]
      refine rz_last (i := 21) rfl (by kernel_rfl) (by rfl) (by rfl) (fun K hK => ?_)
      have KU6 := Lib.hid (KT5.out.set 6 (.slice FA2 (pl.length + 1) FC2))
      have q1 := KU6.out.frozen 5
      have r1 := KU6.out.cell 5
      simp at r1
      go_simp
      refine hK _ _ ?_; clear hK K q1 r1
      try simp only [Act.put, List.setIfInBounds_toArray, List.set_cons_zero, List.set_cons_succ]
      refine rz_done (by kernel_rfl) ?_ _
      go_wp2
      try go_ret
      obtain ⟨s', h1, h2, h3⟩ := putFV (t := ⟨br, bn, ar, an, false, cep, A, cap, l⟩) (node := node) (has := has) (xr := xr) (xn := xn) (xep := xep) (xl := xl) HbP.out KT3.out HV3.out HF3.out HS3.out HNE.out HCS3.out HCB.out HLS3.out HSEL.out (by have h9 := E4.out; rw [HN3.out] at h9; exact h9) OF4.out OV4.out DF.out DV.out HT3.out
      exact hD.out _ _ ⟨rfl, s', h1, Frm.tr (Frm.of_below HX3.out _) h2, fun k hk => (h3 k hk).imp id (fun h => Nat.le_trans HX3.out.size h)⟩
    · go_simp
      refine hK _ _ (Frm.of_alloc _ _ _) ?_; clear hK K
      obtain ⟨W7, hW7⟩ : ∃ z, z = W1.alloc (.cells #[.int .i64 br, .int .i64 bn, .int .i64 ar, .int .i64 an, .bool false, .int .i64 cep, .slice A l.length cap] 40) := ⟨_, rfl⟩
      obtain ⟨g7, hg7⟩ : ∃ z, z = W1.heap.size := ⟨_, rfl⟩
      have B7 : Hid (Blk W7 g7 40 #[.int .i64 br, .int .i64 bn, .int .i64 ar, .int .i64 an, .bool false, .int .i64 cep, .slice A l.length cap]) := by (show Blk _ _ _ _); rw [hW7, hg7]; exact Blk.new _ _ _
      have X7 : Hid (Ext W1 W7) := by (show Ext _ _); rw [hW7]; exact Ext.alloc _ _
      have E7 : Hid (Frm (fun k => n0 ≤ k ∨ F.ownBlock = some k ∨ V.ownBlock = some k) w3 W7) := Frm.tr E1.out (Frm.of_below X7.out _)
      have OF7 := Lib.hid (own_frm OF1.out (Frm.of_below X7.out (fun _ => False)) (fun _ _ h => h))
      have OV7 := Lib.hid (own_frmX OV1.out (Frm.of_below X7.out (fun _ => False)) (fun _ _ h => h))
      have BX7 := Lib.hid (B1.out.stay X7.out)
      rw [← hW7, ← hg7]
      clear hW7 hg7
      try simp only [Act.put, List.setIfInBounds_toArray, List.set_cons_zero, List.set_cons_succ]
      refine rz_call (i := 8) rfl (by kernel_rfl) (by rfl) (fun K hK => ?_)
      refine wp_append_list (.tmp 66) (.tmp 68) 24 rfl base 3 (.int .i64 0) 8 Try.underlying24 info_int rfl (by omega) F pl.length (pl.map i64) (by rfl) OF7.out i64 (some ⟨g1, 0, none⟩) [node] 1 1 rfl (by rfl) (Sl.of_blk BX7.out (fun j v hj => by match j, hj with | 0, hj => (simp at hj; subst hj; rfl))) (fun _ => rfl) (by simp; omega) (Nat.le_trans HB3.out E7.out.size) ?_
      intro F8 W8 oo gg bb
      have oo : W8.ownsRow base 3 1 F8 (pl.length + 1) (pl.map i64 ++ [node].map i64) := oo
      obtain ⟨FA8, FC8, hFe8⟩ := own_shape oo
      subst hFe8
      refine hK _ _ (Frm.of_grown gg (fun k hk => .inr (.inl hk.symm))) ?_; clear hK K
      have G8 : Hid (Frm (fun k => F.ownBlock = some k) W7 W8) := Frm.of_grown gg (fun k hk => hk.symm)
      have E8 : Hid (Frm (fun k => n0 ≤ k ∨ F.ownBlock = some k ∨ V.ownBlock = some k) w3 W8) := Frm.tr E7.out (G8.out.mono (fun k hk => .inr (.inl hk)))
      have OF8 : Hid (W8.ownsRow base 3 1 (.slice FA8 (pl.length + 1) FC8) (pl ++ [node]).length ((pl ++ [node]).map i64)) := by (show World.ownsRow _ _ _ _ _ _ _); simpa using oo
      have DF : Hid ((Value.slice FA8 (pl.length + 1) FC8).ownBlock = F.ownBlock ∨ ∃ k, (Value.slice FA8 (pl.length + 1) FC8).ownBlock = some k ∧ w3.heap.size ≤ k) := bb.imp id (fun ⟨k, h, hk⟩ => ⟨k, h, Nat.le_trans E7.out.size hk⟩)
      have OV8 := Lib.hid (own_frmX OV7.out G8.out (fun k hk e => own_apX OV7.out OF7.out (by decide) k hk e))
      have BV8 := Lib.hid (B7.out.frm G8.out (fun e => own_apB OF7.out B7.out (by decide) e))
      clear oo gg bb
      try simp only [Act.put, List.setIfInBounds_toArray, List.set_cons_zero, List.set_cons_succ]
      refine rz_call (i := 15) rfl (by kernel_rfl) (by rfl) (fun K hK => ?_)
      refine wp_append_v (.tmp 73) (.tmp 75) 36 rfl base 40 _ 7 72 Try.underlying36 info_vote rfl (by decide) (by decide) V L.length (flatV L) (by rfl) OV8.out g7 [.int .i64 br, .int .i64 bn, .int .i64 ar, .int .i64 an, .bool false, .int .i64 cep, .slice A l.length cap] rfl (by rfl) BV8.out (by intro y hy; simp at hy; rcases hy with rfl | rfl | rfl | rfl | rfl | rfl | rfl <;> rfl) (by omega) (Nat.le_trans HB3.out E8.out.size) ?_
      intro V9 W9 oo gg bb
      obtain ⟨VA9, VC9, hVe9⟩ := own_shape oo
      subst hVe9
      refine hK _ _ (Frm.of_grown gg (fun k hk => .inr (.inr hk.symm))) ?_; clear hK K
      have G9 : Hid (Frm (fun k => V.ownBlock = some k) W8 W9) := Frm.of_grown gg (fun k hk => hk.symm)
      have E9 : Hid (Frm (fun k => n0 ≤ k ∨ F.ownBlock = some k ∨ V.ownBlock = some k) w3 W9) := Frm.tr E8.out (G9.out.mono (fun k hk => .inr (.inr hk)))
      have OV9 : Hid (W9.ownsRow base 40 7 (.slice VA9 (L.length + 1) VC9) (L ++ [(⟨br, bn, ar, an, false, cep, A, cap, l⟩ : Vt)]).length (flatV (L ++ [(⟨br, bn, ar, an, false, cep, A, cap, l⟩ : Vt)]))) := by
        show World.ownsRow _ _ _ _ _ _ _
        rw [flatV_append, List.length_append]
        simpa [flatV, vtRow] using oo
      have DV : Hid ((Value.slice VA9 (L.length + 1) VC9).ownBlock = V.ownBlock ∨ ∃ k, (Value.slice VA9 (L.length + 1) VC9).ownBlock = some k ∧ w3.heap.size ≤ k) := bb.imp id (fun h => ⟨_, h, E8.out.size⟩)
      have OF9 := Lib.hid (own_frm OF8.out G9.out (fun k hk e => own_apX OF8.out OV8.out (by decide) k hk e))
      clear oo gg bb
      try simp only [Act.put, List.setIfInBounds_toArray, List.set_cons_zero, List.set_cons_succ]
      refine rz_take [17, 18, 19, 20, 21] (i := 16) (v := ?_) rfl (by kernel_rfl) (by kernel_rfl) (by kernel_rfl) (by kernel_rfl) (by kernel_rfl) (by kernel_rfl) (fun _ _ _ h => h) (by rfl) ?_ ?_
      rotate_left
      · intro W hW; have hW0 := Frm.tr E9.out hW; clear hW; go_simp <;> with_reducible rfl
      try simp only [Act.put, List.setIfInBounds_toArray, List.set_cons_zero, List.set_cons_succ]
      refine rz_take [18, 19, 20, 21] (i := 17) (v := ?_) rfl (by kernel_rfl) (by kernel_rfl) (by kernel_rfl) (by kernel_rfl) (by kernel_rfl) (by kernel_rfl) (fun _ _ _ h => h) (by rfl) ?_ ?_
      rotate_left
      · intro W hW; have hW0 := Frm.tr E9.out hW; clear hW; go_simp <;> with_reducible rfl
      try simp only [Act.put, List.setIfInBounds_toArray, List.set_cons_zero, List.set_cons_succ]
      refine rz_last (i := 18) rfl (by kernel_rfl) (by rfl) (by rfl) (fun K hK => ?_)
      have KT10 := Lib.hid (KT3.out.frm E9.out HPS.out)
      have q1 := KT10.out.frozen 6
      have r1 := KT10.out.cell 6
      simp at r1
      go_simp
      refine hK _ _ ?_; clear hK K q1 r1
      try simp only [Act.put, List.setIfInBounds_toArray, List.set_cons_zero, List.set_cons_succ]
      refine rz_takew (i := 19) (v := ?_) rfl (by kernel_rfl) (by kernel_rfl) (by kernel_rfl) (fun _ _ _ h => h) (by rfl) ?_ ?_
      rotate_left
      · intro W; go_simp <;> with_reducible rfl
      try simp only [Act.put, List.setIfInBounds_toArray, List.set_cons_zero, List.set_cons_succ]
      refine rz_takew (i := 20) (v := ?_) rfl (by kernel_rfl) (by kernel_rfl) (by kernel_rfl) (fun _ _ _ h => h) (by rfl) ?_ ?_
      rotate_left
      · intro W; go_simp <;> with_reducible rfl
      try simp only [Act.put, List.setIfInBounds_toArray, List.set_cons_zero, List.set_cons_succ]
      refine rz_last (i := 21) rfl (by kernel_rfl) (by rfl) (by rfl) (fun K hK => ?_)
      have KU11 := Lib.hid (KT10.out.set 6 (.slice FA8 (pl.length + 1) FC8))
      have q1 := KU11.out.frozen 5
      have r1 := KU11.out.cell 5
      simp at r1
      go_simp
      refine hK _ _ ?_; clear hK K q1 r1
      try simp only [Act.put, List.setIfInBounds_toArray, List.set_cons_zero, List.set_cons_succ]
      refine rz_done (by kernel_rfl) ?_ _
      go_wp2
      try go_ret
      obtain ⟨s', h1, h2, h3⟩ := putFV (t := ⟨br, bn, ar, an, false, cep, A, cap, l⟩) (node := node) (has := has) (xr := xr) (xn := xn) (xep := xep) (xl := xl) HbP.out KT3.out HV3.out HF3.out HS3.out HNE.out HCS3.out HCB.out HLS3.out HSEL.out (by have h9 := E9.out; rw [HN3.out] at h9; exact h9) OF9.out OV9.out DF.out DV.out HT3.out
      exact hD.out _ _ ⟨rfl, s', h1, Frm.tr (Frm.of_below HX3.out _) h2, fun k hk => (h3 k hk).imp id (fun h => Nat.le_trans HX3.out.size h)⟩
  · go_simp
    refine hK _ _ (Frm.of_alloc _ _ _) ?_; clear hK K
    obtain ⟨W12, hW12⟩ : ∃ z, z = w3.alloc (.cells #[.int .i64 br, .int .i64 bn, .int .i64 ar, .int .i64 an, .bool false, .int .i64 cep, .slice A l.length cap] 40) := ⟨_, rfl⟩
    obtain ⟨g12, hg12⟩ : ∃ z, z = w3.heap.size := ⟨_, rfl⟩
    have B12 : Hid (Blk W12 g12 40 #[.int .i64 br, .int .i64 bn, .int .i64 ar, .int .i64 an, .bool false, .int .i64 cep, .slice A l.length cap]) := by (show Blk _ _ _ _); rw [hW12, hg12]; exact Blk.new _ _ _
    have X12 : Hid (Ext w3 W12) := by (show Ext _ _); rw [hW12]; exact Ext.alloc _ _
    have E12 : Hid (Frm (fun k => n0 ≤ k ∨ F.ownBlock = some k ∨ V.ownBlock = some k) w3 W12) := Frm.tr E3.out (Frm.of_below X12.out _)
    have OF12 := Lib.hid (own_frm HF3.out (Frm.of_below X12.out (fun _ => False)) (fun _ _ h => h))
    have OV12 := Lib.hid (own_frmX HV3.out (Frm.of_below X12.out (fun _ => False)) (fun _ _ h => h))
    rw [← hW12, ← hg12]
    clear hW12 hg12
    try simp only [Act.put, List.setIfInBounds_toArray, List.set_cons_zero, List.set_cons_succ]
    refine rz_call (i := 7) rfl (by kernel_rfl) (by rfl) (fun K hK => ?_)
    go_simp
    refine hK _ _ (Frm.of_alloc _ _ _) ?_; clear hK K
    obtain ⟨W13, hW13⟩ : ∃ z, z = W12.alloc (.cells #[.int .i64 node] 3) := ⟨_, rfl⟩
    obtain ⟨g13, hg13⟩ : ∃ z, z = W12.heap.size := ⟨_, rfl⟩
    have B13 : Hid (Blk W13 g13 3 #[.int .i64 node]) := by (show Blk _ _ _ _); rw [hW13, hg13]; exact Blk.new _ _ _
    have X13 : Hid (Ext W12 W13) := by (show Ext _ _); rw [hW13]; exact Ext.alloc _ _
    have E13 : Hid (Frm (fun k => n0 ≤ k ∨ F.ownBlock = some k ∨ V.ownBlock = some k) w3 W13) := Frm.tr E12.out (Frm.of_below X13.out _)
    have OF13 := Lib.hid (own_frm OF12.out (Frm.of_below X13.out (fun _ => False)) (fun _ _ h => h))
    have OV13 := Lib.hid (own_frmX OV12.out (Frm.of_below X13.out (fun _ => False)) (fun _ _ h => h))
    have BV13 := Lib.hid (B12.out.stay X13.out)
    rw [← hW13, ← hg13]
    clear hW13 hg13
    try simp only [Act.put, List.setIfInBounds_toArray, List.set_cons_zero, List.set_cons_succ]
    refine rz_call (i := 8) rfl (by kernel_rfl) (by rfl) (fun K hK => ?_)
    refine wp_append_list (.tmp 66) (.tmp 68) 24 rfl base 3 (.int .i64 0) 8 Try.underlying24 info_int rfl (by omega) F pl.length (pl.map i64) (by rfl) OF13.out i64 (some ⟨g13, 0, none⟩) [node] 1 1 rfl (by rfl) (Sl.of_blk B13.out (fun j v hj => by match j, hj with | 0, hj => (simp at hj; subst hj; rfl))) (fun _ => rfl) (by simp; omega) (Nat.le_trans HB3.out E13.out.size) ?_
    intro F14 W14 oo gg bb
    have oo : W14.ownsRow base 3 1 F14 (pl.length + 1) (pl.map i64 ++ [node].map i64) := oo
    obtain ⟨FA14, FC14, hFe14⟩ := own_shape oo
    subst hFe14
    refine hK _ _ (Frm.of_grown gg (fun k hk => .inr (.inl hk.symm))) ?_; clear hK K
    have G14 : Hid (Frm (fun k => F.ownBlock = some k) W13 W14) := Frm.of_grown gg (fun k hk => hk.symm)
    have E14 : Hid (Frm (fun k => n0 ≤ k ∨ F.ownBlock = some k ∨ V.ownBlock = some k) w3 W14) := Frm.tr E13.out (G14.out.mono (fun k hk => .inr (.inl hk)))
    have OF14 : Hid (W14.ownsRow base 3 1 (.slice FA14 (pl.length + 1) FC14) (pl ++ [node]).length ((pl ++ [node]).map i64)) := by (show World.ownsRow _ _ _ _ _ _ _); simpa using oo
    have DF : Hid ((Value.slice FA14 (pl.length + 1) FC14).ownBlock = F.ownBlock ∨ ∃ k, (Value.slice FA14 (pl.length + 1) FC14).ownBlock = some k ∧ w3.heap.size ≤ k) := bb.imp id (fun ⟨k, h, hk⟩ => ⟨k, h, Nat.le_trans E13.out.size hk⟩)
    have OV14 := Lib.hid (own_frmX OV13.out G14.out (fun k hk e => own_apX OV13.out OF13.out (by decide) k hk e))
    have BV14 := Lib.hid (BV13.out.frm G14.out (fun e => own_apB OF13.out BV13.out (by decide) e))
    clear oo gg bb
    try simp only [Act.put, List.setIfInBounds_toArray, List.set_cons_zero, List.set_cons_succ]
    refine rz_call (i := 15) rfl (by kernel_rfl) (by rfl) (fun K hK => ?_)
    refine wp_append_v (.tmp 73) (.tmp 75) 36 rfl base 40 _ 7 72 Try.underlying36 info_vote rfl (by decide) (by decide) V L.length (flatV L) (by rfl) OV14.out g12 [.int .i64 br, .int .i64 bn, .int .i64 ar, .int .i64 an, .bool false, .int .i64 cep, .slice A l.length cap] rfl (by rfl) BV14.out (by intro y hy; simp at hy; rcases hy with rfl | rfl | rfl | rfl | rfl | rfl | rfl <;> rfl) (by omega) (Nat.le_trans HB3.out E14.out.size) ?_
    intro V15 W15 oo gg bb
    obtain ⟨VA15, VC15, hVe15⟩ := own_shape oo
    subst hVe15
    refine hK _ _ (Frm.of_grown gg (fun k hk => .inr (.inr hk.symm))) ?_; clear hK K
    have G15 : Hid (Frm (fun k => V.ownBlock = some k) W14 W15) := Frm.of_grown gg (fun k hk => hk.symm)
    have E15 : Hid (Frm (fun k => n0 ≤ k ∨ F.ownBlock = some k ∨ V.ownBlock = some k) w3 W15) := Frm.tr E14.out (G15.out.mono (fun k hk => .inr (.inr hk)))
    have OV15 : Hid (W15.ownsRow base 40 7 (.slice VA15 (L.length + 1) VC15) (L ++ [(⟨br, bn, ar, an, false, cep, A, cap, l⟩ : Vt)]).length (flatV (L ++ [(⟨br, bn, ar, an, false, cep, A, cap, l⟩ : Vt)]))) := by
      show World.ownsRow _ _ _ _ _ _ _
      rw [flatV_append, List.length_append]
      simpa [flatV, vtRow] using oo
    have DV : Hid ((Value.slice VA15 (L.length + 1) VC15).ownBlock = V.ownBlock ∨ ∃ k, (Value.slice VA15 (L.length + 1) VC15).ownBlock = some k ∧ w3.heap.size ≤ k) := bb.imp id (fun h => ⟨_, h, E14.out.size⟩)
    have OF15 := Lib.hid (own_frm OF14.out G15.out (fun k hk e => own_apX OF14.out OV14.out (by decide) k hk e))
    clear oo gg bb
    try simp only [Act.put, List.setIfInBounds_toArray, List.set_cons_zero, List.set_cons_succ]
    refine rz_take [17, 18, 19, 20, 21] (i := 16) (v := ?_) rfl (by kernel_rfl) (by kernel_rfl) (by kernel_rfl) (by kernel_rfl) (by kernel_rfl) (by kernel_rfl) (fun _ _ _ h => h) (by rfl) ?_ ?_
    rotate_left
    · intro W hW; have hW0 := Frm.tr E15.out hW; clear hW; go_simp <;> with_reducible rfl
    try simp only [Act.put, List.setIfInBounds_toArray, List.set_cons_zero, List.set_cons_succ]
    refine rz_take [18, 19, 20, 21] (i := 17) (v := ?_) rfl (by kernel_rfl) (by kernel_rfl) (by kernel_rfl) (by kernel_rfl) (by kernel_rfl) (by kernel_rfl) (fun _ _ _ h => h) (by rfl) ?_ ?_
    rotate_left
    · intro W hW; have hW0 := Frm.tr E15.out hW; clear hW; go_simp <;> with_reducible rfl
    try simp only [Act.put, List.setIfInBounds_toArray, List.set_cons_zero, List.set_cons_succ]
    refine rz_last (i := 18) rfl (by kernel_rfl) (by rfl) (by rfl) (fun K hK => ?_)
    have KT16 := Lib.hid (KT3.out.frm E15.out HPS.out)
    have q1 := KT16.out.frozen 6
    have r1 := KT16.out.cell 6
    simp at r1
    go_simp
    refine hK _ _ ?_; clear hK K q1 r1
    try simp only [Act.put, List.setIfInBounds_toArray, List.set_cons_zero, List.set_cons_succ]
    refine rz_takew (i := 19) (v := ?_) rfl (by kernel_rfl) (by kernel_rfl) (by kernel_rfl) (fun _ _ _ h => h) (by rfl) ?_ ?_
    rotate_left
    · intro W; go_simp <;> with_reducible rfl
    try simp only [Act.put, List.setIfInBounds_toArray, List.set_cons_zero, List.set_cons_succ]
    refine rz_takew (i := 20) (v := ?_) rfl (by kernel_rfl) (by kernel_rfl) (by kernel_rfl) (fun _ _ _ h => h) (by rfl) ?_ ?_
    rotate_left
    · intro W; go_simp <;> with_reducible rfl
    try simp only [Act.put, List.setIfInBounds_toArray, List.set_cons_zero, List.set_cons_succ]
    refine rz_last (i := 21) rfl (by kernel_rfl) (by rfl) (by rfl) (fun K hK => ?_)
    have KU17 := Lib.hid (KT16.out.set 6 (.slice FA14 (pl.length + 1) FC14))
    have q1 := KU17.out.frozen 5
    have r1 := KU17.out.cell 5
    simp at r1
    go_simp
    refine hK _ _ ?_; clear hK K q1 r1
    try simp only [Act.put, List.setIfInBounds_toArray, List.set_cons_zero, List.set_cons_succ]
    refine rz_done (by kernel_rfl) ?_ _
    go_wp2
    try go_ret
    obtain ⟨s', h1, h2, h3⟩ := putFV (t := ⟨br, bn, ar, an, false, cep, A, cap, l⟩) (node := node) (has := has) (xr := xr) (xn := xn) (xep := xep) (xl := xl) HbP.out KT3.out HV3.out HF3.out HS3.out HNE.out HCS3.out HCB.out HLS3.out HSEL.out (by have h9 := E15.out; rw [HN3.out] at h9; exact h9) OF15.out OV15.out DF.out DV.out HT3.out
    exact hD.out _ _ ⟨rfl, s', h1, Frm.tr (Frm.of_below HX3.out _) h2, fun k hk => (h3 k hk).imp id (fun h => Nat.le_trans HX3.out.size h)⟩

set_option maxHeartbeats 16000000 in
theorem rprom_t (base P : Nat) (s : Nat → Prop) (n br bn ep : Int) (cl pl sl : List Int) (has : Bool) (xr xn xep : Int) (xl : List Int) (L : List Vt) (node ar an cep : Int) (A : Option Addr) (cap : Nat) (l : List Int) (w : World) (H : XAt w base P s ⟨n, br, bn, ep, cl, pl, sl, has, xr, xn, xep, xl⟩ L) (hpl : pl.length ≤ 1000000) (hLl : L.length ≤ 1000000) (hs : Sl i64 w A l) (hA : l ≠ [] → ∀ a, A = some a → a.block < base) (h0 : ¬ node < 0) (h1 : ¬ n ≤ node) (hi : ¬ node ∈ pl) (hm : mayBal ar an = true) (hc : mayChainB cep l = true) (hce : cep = ep) (hll : l.length ≤ 1000000000) :
    Calls Try.prog 18 #[.pointer (some ⟨P, 0, none⟩), .int .i64 node, .agg #[.int .i64 br, .int .i64 bn, .int .i64 ar, .int .i64 an, .bool true, .int .i64 cep, .slice A l.length cap]] w fun e w' => e = .returned (.bool true) ∧ ∃ s', XAt w' base P s' ⟨n, br, bn, ep, cl, pl ++ [node], sl, has, xr, xn, xep, xl⟩ (L ++ [⟨br, bn, ar, an, true, cep, A, cap, l⟩]) ∧ Frm s w w' ∧ ∀ k, s' k → s k ∨ w.heap.size ≤ k := by
  refine hide_post fun D hD => ?_
  obtain ⟨hP, cA, ccap, V, F, S, kP, hV, hF, hS, hne, ⟨hcs, hcb⟩, hLs, hsel⟩ := H
  simp only at *
  obtain ⟨FA, Fcap, hFe, sF⟩ := own_view hF
  obtain ⟨w0, hw0⟩ : ∃ w0, w0 = w.alloc (.cells #[.int .i64 br, .int .i64 bn, .int .i64 ar, .int .i64 an, .bool true, .int .i64 cep, .slice A l.length cap] 40) := ⟨_, rfl⟩
  have hb0 : Ext w w0 := by rw [hw0]; exact Ext.alloc _ _
  have KTW := Lib.hid kP
  have KT := Lib.hid (kP.stay hb0)
  have HbP : Hid (base ≤ P) := hP
  have HPLT : Hid (P < w.heap.size) := kP.lt
  have KV : Hid (Blk w0 w.heap.size 40 #[.int .i64 br, .int .i64 bn, .int .i64 ar, .int .i64 an, .bool true, .int .i64 cep, .slice A l.length cap]) := by show Blk _ _ _ _; rw [hw0]; exact Blk.new _ _ _
  have CH : Hid (∀ W, Ext w0 W → Calls Try.prog 49 #[F, .int .i64 node] W fun e w' => e = .returned (.bool false) ∧ Ext W w') := fun W hW => by
    rw [hFe]
    have h7 := has11_any FA Fcap pl node W hpl (sF.stay (Ext.trans hb0 hW))
    rw [decide_eq_false hi] at h7
    exact h7
  have HT : Hid (Sl i64 w A l ∧ (l ≠ [] → ∀ a, A = some a → a.block < base)) := ⟨hs, hA⟩
  have HV := Lib.hid hV
  have HF := Lib.hid hF
  have HS := Lib.hid hS
  have HNE := Lib.hid hne
  have HCS := Lib.hid hcs
  have HCB := Lib.hid hcb
  have HLS := Lib.hid hLs
  have HSEL := Lib.hid hsel
  have ft0 : ∀ W, Ext w0 W → W.cell? ⟨P, 0, none⟩ = some (.int .i64 n) := fun W h => (KT.out.stay h).cell 0
  have ft1 : ∀ W, Ext w0 W → W.cell? ⟨P, 1, none⟩ = some (.int .i64 br) := fun W h => (KT.out.stay h).cell 1
  have ft2 : ∀ W, Ext w0 W → W.cell? ⟨P, 2, none⟩ = some (.int .i64 bn) := fun W h => (KT.out.stay h).cell 2
  have ft3 : ∀ W, Ext w0 W → W.cell? ⟨P, 3, none⟩ = some (.int .i64 ep) := fun W h => (KT.out.stay h).cell 3
  have ft6 : ∀ W, Ext w0 W → W.cell? ⟨P, 6, none⟩ = some (F) := fun W h => (KT.out.stay h).cell 6
  have fv0 : ∀ W, Ext w0 W → W.cell? ⟨w.heap.size, 0, none⟩ = some (.int .i64 br) := fun W h => (KV.out.stay h).cell 0
  have fv1 : ∀ W, Ext w0 W → W.cell? ⟨w.heap.size, 1, none⟩ = some (.int .i64 bn) := fun W h => (KV.out.stay h).cell 1
  have fv2 : ∀ W, Ext w0 W → W.cell? ⟨w.heap.size, 2, none⟩ = some (.int .i64 ar) := fun W h => (KV.out.stay h).cell 2
  have fv3 : ∀ W, Ext w0 W → W.cell? ⟨w.heap.size, 3, none⟩ = some (.int .i64 an) := fun W h => (KV.out.stay h).cell 3
  have fv4 : ∀ W, Ext w0 W → W.cell? ⟨w.heap.size, 4, none⟩ = some (.bool true) := fun W h => (KV.out.stay h).cell 4
  have fv5 : ∀ W, Ext w0 W → W.cell? ⟨w.heap.size, 5, none⟩ = some (.int .i64 cep) := fun W h => (KV.out.stay h).cell 5
  have fv6 : ∀ W, Ext w0 W → W.cell? ⟨w.heap.size, 6, none⟩ = some (.slice A l.length cap) := fun W h => (KV.out.stay h).cell 6
  have HW0 := Lib.hid hw0
  have HB0 := Lib.hid hb0
  have E0 : Hid (Ext w0 w0) := Ext.refl _
  have CMB : Hid (∀ W, Calls Try.prog 13 #[.agg #[.int .i64 ar, .int .i64 an]] W fun e w' => e = .returned (.bool true) ∧ Ext W w') := fun W => by rw [← hm]; exact refMayBal_any ar an W
  have CC : Hid (∀ W, Ext w0 W → Calls Try.prog 14 #[.agg #[.int .i64 cep, .slice A l.length cap]] W fun e w' => e = .returned (.bool true) ∧ Ext W w') := fun W h => by rw [← hc]; exact refMayChain_any cep A cap l W (by omega) (hs.stay (Ext.trans hb0 h))
  subst hce
  clear hm hc
  clear hV hF hS hne hcs hcb hLs hsel kP sF hw0 hb0 hFe hi hs hA hP
  go_enter Try.func18, Try.ntmps18
  go_wp2_with fail
  rw [← HW0.out]
  refine ext_begin (by kernel_rfl) ?_
  have E0d := Lib.hid (Ext.drewR E0.out)
  refine ext_take (i := 0) (v := ?_) rfl (by kernel_rfl) (by kernel_rfl) (by kernel_rfl) (fun _ _ _ h => h) (by rfl) ?_ ?_
  rotate_left
  · intro W hW; have hW0 := Ext.trans E0d.out hW; clear hW; go_simp <;> with_reducible rfl
  try simp only [Act.put, List.setIfInBounds_toArray, List.set_cons_zero, List.set_cons_succ]
  refine ext_take (i := 1) (v := .bool false) rfl (by kernel_rfl) (by kernel_rfl) (by kernel_rfl) (fun _ _ _ h => h) (by rfl) ?_ ?_
  · intro W hW; have hW0 := Ext.trans E0d.out hW; clear hW; go_simp; all_goals (first | done | rfl | (simp [h0]; done))
  try simp only [Act.put, List.setIfInBounds_toArray, List.set_cons_zero, List.set_cons_succ]
  refine ext_take (i := 2) (v := ?_) rfl (by kernel_rfl) (by kernel_rfl) (by kernel_rfl) (fun _ _ _ h => h) (by rfl) ?_ ?_
  rotate_left
  · intro W hW; have hW0 := Ext.trans E0d.out hW; clear hW; go_simp <;> with_reducible rfl
  try simp only [Act.put, List.setIfInBounds_toArray, List.set_cons_zero, List.set_cons_succ]
  refine ext_take (i := 3) (v := ?_) rfl (by kernel_rfl) (by kernel_rfl) (by kernel_rfl) (fun _ _ _ h => h) (by rfl) ?_ ?_
  rotate_left
  · intro W hW; have hW0 := Ext.trans E0d.out hW; clear hW; go_simp <;> with_reducible rfl
  try simp only [Act.put, List.setIfInBounds_toArray, List.set_cons_zero, List.set_cons_succ]
  refine ext_take (i := 4) (v := ?_) rfl (by kernel_rfl) (by kernel_rfl) (by kernel_rfl) (fun _ _ _ h => h) (by rfl) ?_ ?_
  rotate_left
  · intro W hW; have hW0 := Ext.trans E0d.out hW; clear hW; go_simp <;> with_reducible rfl
  try simp only [Act.put, List.setIfInBounds_toArray, List.set_cons_zero, List.set_cons_succ]
  refine ext_take (i := 5) (v := ?_) rfl (by kernel_rfl) (by kernel_rfl) (by kernel_rfl) (fun _ _ _ h => h) (by rfl) ?_ ?_
  rotate_left
  · intro W hW; have hW0 := Ext.trans E0d.out hW; clear hW; go_simp <;> with_reducible rfl
  try simp only [Act.put, List.setIfInBounds_toArray, List.set_cons_zero, List.set_cons_succ]
  refine ext_take (i := 6) (v := ?_) rfl (by kernel_rfl) (by kernel_rfl) (by kernel_rfl) (fun _ _ _ h => h) (by rfl) ?_ ?_
  rotate_left
  · intro W hW; have hW0 := Ext.trans E0d.out hW; clear hW; go_simp <;> with_reducible rfl
  try simp only [Act.put, List.setIfInBounds_toArray, List.set_cons_zero, List.set_cons_succ]
  refine ext_take (i := 7) (v := ?_) rfl (by kernel_rfl) (by kernel_rfl) (by kernel_rfl) (fun _ _ _ h => h) (by rfl) ?_ ?_
  rotate_left
  · intro W hW; have hW0 := Ext.trans E0d.out hW; clear hW; go_simp <;> with_reducible rfl
  try simp only [Act.put, List.setIfInBounds_toArray, List.set_cons_zero, List.set_cons_succ]
  refine ext_take (i := 8) (v := .bool false) rfl (by kernel_rfl) (by kernel_rfl) (by kernel_rfl) (fun _ _ _ h => h) (by rfl) ?_ ?_
  · intro W hW; have hW0 := Ext.trans E0d.out hW; clear hW; go_simp; all_goals (first | done | rfl | (simp [h1]; done))
  try simp only [Act.put, List.setIfInBounds_toArray, List.set_cons_zero, List.set_cons_succ]
  refine ext_take (i := 9) (v := ?_) rfl (by kernel_rfl) (by kernel_rfl) (by kernel_rfl) (fun _ _ _ h => h) (by rfl) ?_ ?_
  rotate_left
  · intro W hW; have hW0 := Ext.trans E0d.out hW; clear hW; go_simp <;> with_reducible rfl
  try simp only [Act.put, List.setIfInBounds_toArray, List.set_cons_zero, List.set_cons_succ]
  refine ext_take (i := 10) (v := ?_) rfl (by kernel_rfl) (by kernel_rfl) (by kernel_rfl) (fun _ _ _ h => h) (by rfl) ?_ ?_
  rotate_left
  · intro W hW; have hW0 := Ext.trans E0d.out hW; clear hW; go_simp <;> with_reducible rfl
  try simp only [Act.put, List.setIfInBounds_toArray, List.set_cons_zero, List.set_cons_succ]
  refine ext_take (i := 11) (v := ?_) rfl (by kernel_rfl) (by kernel_rfl) (by kernel_rfl) (fun _ _ _ h => h) (by rfl) ?_ ?_
  rotate_left
  · intro W hW; have hW0 := Ext.trans E0d.out hW; clear hW; go_simp <;> with_reducible rfl
  try simp only [Act.put, List.setIfInBounds_toArray, List.set_cons_zero, List.set_cons_succ]
  refine ext_take (i := 12) (v := ?_) rfl (by kernel_rfl) (by kernel_rfl) (by kernel_rfl) (fun _ _ _ h => h) (by rfl) ?_ ?_
  rotate_left
  · intro W hW; have hW0 := Ext.trans E0d.out hW; clear hW; go_simp <;> with_reducible rfl
  try simp only [Act.put, List.setIfInBounds_toArray, List.set_cons_zero, List.set_cons_succ]
  refine ext_take (i := 13) (v := ?_) rfl (by kernel_rfl) (by kernel_rfl) (by kernel_rfl) (fun _ _ _ h => h) (by rfl) ?_ ?_
  rotate_left
  · intro W hW; have hW0 := Ext.trans E0d.out hW; clear hW; go_simp <;> with_reducible rfl
  try simp only [Act.put, List.setIfInBounds_toArray, List.set_cons_zero, List.set_cons_succ]
  refine ext_take (i := 14) (v := ?_) rfl (by kernel_rfl) (by kernel_rfl) (by kernel_rfl) (fun _ _ _ h => h) (by rfl) ?_ ?_
  rotate_left
  · intro W hW; have hW0 := Ext.trans E0d.out hW; clear hW; go_simp <;> with_reducible rfl
  try simp only [Act.put, List.setIfInBounds_toArray, List.set_cons_zero, List.set_cons_succ]
  refine ext_take (i := 15) (v := ?_) rfl (by kernel_rfl) (by kernel_rfl) (by kernel_rfl) (fun _ _ _ h => h) (by rfl) ?_ ?_
  rotate_left
  · intro W hW; have hW0 := Ext.trans E0d.out hW; clear hW; go_simp <;> with_reducible rfl
  try simp only [Act.put, List.setIfInBounds_toArray, List.set_cons_zero, List.set_cons_succ]
  refine ext_call (i := 16) rfl (by kernel_rfl) (by rfl) (fun K' hK => ?_)
  go_simp
  (go_at_call 49; (with_reducible refine (CH.out _ E0d.out).mono ?_); rintro e w1 ⟨rfl, hx⟩; refine hK _ _ hx ?_; clear hK)
  have Ew1 := Lib.hid (Ext.trans E0d.out hx)
  clear hx
  try simp only [Act.put, List.setIfInBounds_toArray, List.set_cons_zero, List.set_cons_succ]
  refine ext_take (i := 17) (v := ?_) rfl (by kernel_rfl) (by kernel_rfl) (by kernel_rfl) (fun _ _ _ h => h) (by rfl) ?_ ?_
  rotate_left
  · intro W hW; have hW0 := Ext.trans Ew1.out hW; clear hW; go_simp <;> with_reducible rfl
  try simp only [Act.put, List.setIfInBounds_toArray, List.set_cons_zero, List.set_cons_succ]
  refine ext_take (i := 18) (v := ?_) rfl (by kernel_rfl) (by kernel_rfl) (by kernel_rfl) (fun _ _ _ h => h) (by rfl) ?_ ?_
  rotate_left
  · intro W hW; have hW0 := Ext.trans Ew1.out hW; clear hW; go_simp <;> with_reducible rfl
  try simp only [Act.put, List.setIfInBounds_toArray, List.set_cons_zero, List.set_cons_succ]
  refine ext_take (i := 19) (v := ?_) rfl (by kernel_rfl) (by kernel_rfl) (by kernel_rfl) (fun _ _ _ h => h) (by rfl) ?_ ?_
  rotate_left
  · intro W hW; have hW0 := Ext.trans Ew1.out hW; clear hW; go_simp <;> with_reducible rfl
  try simp only [Act.put, List.setIfInBounds_toArray, List.set_cons_zero, List.set_cons_succ]
  refine ext_take (i := 20) (v := ?_) rfl (by kernel_rfl) (by kernel_rfl) (by kernel_rfl) (fun _ _ _ h => h) (by rfl) ?_ ?_
  rotate_left
  · intro W hW; have hW0 := Ext.trans Ew1.out hW; clear hW; go_simp <;> with_reducible rfl
  try simp only [Act.put, List.setIfInBounds_toArray, List.set_cons_zero, List.set_cons_succ]
  refine ext_take (i := 21) (v := ?_) rfl (by kernel_rfl) (by kernel_rfl) (by kernel_rfl) (fun _ _ _ h => h) (by rfl) ?_ ?_
  rotate_left
  · intro W hW; have hW0 := Ext.trans Ew1.out hW; clear hW; go_simp <;> with_reducible rfl
  try simp only [Act.put, List.setIfInBounds_toArray, List.set_cons_zero, List.set_cons_succ]
  refine ext_take (i := 22) (v := ?_) rfl (by kernel_rfl) (by kernel_rfl) (by kernel_rfl) (fun _ _ _ h => h) (by rfl) ?_ ?_
  rotate_left
  · intro W hW; have hW0 := Ext.trans Ew1.out hW; clear hW; go_simp <;> with_reducible rfl
  try simp only [Act.put, List.setIfInBounds_toArray, List.set_cons_zero, List.set_cons_succ]
  refine ext_take (i := 23) (v := ?_) rfl (by kernel_rfl) (by kernel_rfl) (by kernel_rfl) (fun _ _ _ h => h) (by rfl) ?_ ?_
  rotate_left
  · intro W hW; have hW0 := Ext.trans Ew1.out hW; clear hW; go_simp <;> with_reducible rfl
  try simp only [Act.put, List.setIfInBounds_toArray, List.set_cons_zero, List.set_cons_succ]
  refine ext_take (i := 24) (v := ?_) rfl (by kernel_rfl) (by kernel_rfl) (by kernel_rfl) (fun _ _ _ h => h) (by rfl) ?_ ?_
  rotate_left
  · intro W hW; have hW0 := Ext.trans Ew1.out hW; clear hW; go_simp <;> with_reducible rfl
  try simp only [Act.put, List.setIfInBounds_toArray, List.set_cons_zero, List.set_cons_succ]
  refine ext_take (i := 25) (v := .bool false) rfl (by kernel_rfl) (by kernel_rfl) (by kernel_rfl) (fun _ _ _ h => h) (by rfl) ?_ ?_
  · intro W hW; have hW0 := Ext.trans Ew1.out hW; clear hW; go_simp; all_goals (first | done | rfl | (simp [h0]; done))
  try simp only [Act.put, List.setIfInBounds_toArray, List.set_cons_zero, List.set_cons_succ]
  refine ext_take (i := 26) (v := ?_) rfl (by kernel_rfl) (by kernel_rfl) (by kernel_rfl) (fun _ _ _ h => h) (by rfl) ?_ ?_
  rotate_left
  · intro W hW; have hW0 := Ext.trans Ew1.out hW; clear hW; go_simp <;> with_reducible rfl
  try simp only [Act.put, List.setIfInBounds_toArray, List.set_cons_zero, List.set_cons_succ]
  refine ext_take (i := 27) (v := ?_) rfl (by kernel_rfl) (by kernel_rfl) (by kernel_rfl) (fun _ _ _ h => h) (by rfl) ?_ ?_
  rotate_left
  · intro W hW; have hW0 := Ext.trans Ew1.out hW; clear hW; go_simp <;> with_reducible rfl
  try simp only [Act.put, List.setIfInBounds_toArray, List.set_cons_zero, List.set_cons_succ]
  refine ext_take (i := 28) (v := ?_) rfl (by kernel_rfl) (by kernel_rfl) (by kernel_rfl) (fun _ _ _ h => h) (by rfl) ?_ ?_
  rotate_left
  · intro W hW; have hW0 := Ext.trans Ew1.out hW; clear hW; go_simp <;> with_reducible rfl
  try simp only [Act.put, List.setIfInBounds_toArray, List.set_cons_zero, List.set_cons_succ]
  refine ext_take (i := 29) (v := ?_) rfl (by kernel_rfl) (by kernel_rfl) (by kernel_rfl) (fun _ _ _ h => h) (by rfl) ?_ ?_
  rotate_left
  · intro W hW; have hW0 := Ext.trans Ew1.out hW; clear hW; go_simp <;> with_reducible rfl
  try simp only [Act.put, List.setIfInBounds_toArray, List.set_cons_zero, List.set_cons_succ]
  refine ext_take (i := 30) (v := ?_) rfl (by kernel_rfl) (by kernel_rfl) (by kernel_rfl) (fun _ _ _ h => h) (by rfl) ?_ ?_
  rotate_left
  · intro W hW; have hW0 := Ext.trans Ew1.out hW; clear hW; go_simp <;> with_reducible rfl
  try simp only [Act.put, List.setIfInBounds_toArray, List.set_cons_zero, List.set_cons_succ]
  refine ext_take (i := 31) (v := ?_) rfl (by kernel_rfl) (by kernel_rfl) (by kernel_rfl) (fun _ _ _ h => h) (by rfl) ?_ ?_
  rotate_left
  · intro W hW; have hW0 := Ext.trans Ew1.out hW; clear hW; go_simp <;> with_reducible rfl
  try simp only [Act.put, List.setIfInBounds_toArray, List.set_cons_zero, List.set_cons_succ]
  refine ext_take (i := 32) (v := ?_) rfl (by kernel_rfl) (by kernel_rfl) (by kernel_rfl) (fun _ _ _ h => h) (by rfl) ?_ ?_
  rotate_left
  · intro W hW; have hW0 := Ext.trans Ew1.out hW; clear hW; go_simp <;> with_reducible rfl
  try simp only [Act.put, List.setIfInBounds_toArray, List.set_cons_zero, List.set_cons_succ]
  refine ext_call (i := 33) rfl (by kernel_rfl) (by rfl) (fun K' hK => ?_)
  go_simp
  (go_at_call 13; (with_reducible refine (CMB.out _).mono ?_); rintro e w2 ⟨rfl, hx⟩; refine hK _ _ hx ?_; clear hK)
  have Ew2 := Lib.hid (Ext.trans Ew1.out hx)
  clear hx
  try simp only [Act.put, List.setIfInBounds_toArray, List.set_cons_zero, List.set_cons_succ]
  refine ext_take (i := 34) (v := ?_) rfl (by kernel_rfl) (by kernel_rfl) (by kernel_rfl) (fun _ _ _ h => h) (by rfl) ?_ ?_
  rotate_left
  · intro W hW; have hW0 := Ext.trans Ew2.out hW; clear hW; go_simp <;> with_reducible rfl
  try simp only [Act.put, List.setIfInBounds_toArray, List.set_cons_zero, List.set_cons_succ]
  refine ext_take (i := 35) (v := ?_) rfl (by kernel_rfl) (by kernel_rfl) (by kernel_rfl) (fun _ _ _ h => h) (by rfl) ?_ ?_
  rotate_left
  · intro W hW; have hW0 := Ext.trans Ew2.out hW; clear hW; go_simp <;> with_reducible rfl
  try simp only [Act.put, List.setIfInBounds_toArray, List.set_cons_zero, List.set_cons_succ]
  refine ext_take (i := 36) (v := ?_) rfl (by kernel_rfl) (by kernel_rfl) (by kernel_rfl) (fun _ _ _ h => h) (by rfl) ?_ ?_
  rotate_left
  · intro W hW; have hW0 := Ext.trans Ew2.out hW; clear hW; go_simp <;> with_reducible rfl
  try simp only [Act.put, List.setIfInBounds_toArray, List.set_cons_zero, List.set_cons_succ]
  refine ext_take (i := 37) (v := ?_) rfl (by kernel_rfl) (by kernel_rfl) (by kernel_rfl) (fun _ _ _ h => h) (by rfl) ?_ ?_
  rotate_left
  · intro W hW; have hW0 := Ext.trans Ew2.out hW; clear hW; go_simp <;> with_reducible rfl
  try simp only [Act.put, List.setIfInBounds_toArray, List.set_cons_zero, List.set_cons_succ]
  refine ext_call (i := 38) rfl (by kernel_rfl) (by rfl) (fun K' hK => ?_)
  go_simp
  (go_at_call 14; (with_reducible refine (CC.out _ Ew2.out).mono ?_); rintro e w4 ⟨rfl, hx⟩; refine hK _ _ hx ?_; clear hK)
  have Ew4 := Lib.hid (Ext.trans Ew2.out hx)
  clear hx
  try simp only [Act.put, List.setIfInBounds_toArray, List.set_cons_zero, List.set_cons_succ]
  refine ext_take (i := 39) (v := ?_) rfl (by kernel_rfl) (by kernel_rfl) (by kernel_rfl) (fun _ _ _ h => h) (by rfl) ?_ ?_
  rotate_left
  · intro W hW; have hW0 := Ext.trans Ew4.out hW; clear hW; go_simp <;> with_reducible rfl
  try simp only [Act.put, List.setIfInBounds_toArray, List.set_cons_zero, List.set_cons_succ]
  refine ext_take (i := 40) (v := ?_) rfl (by kernel_rfl) (by kernel_rfl) (by kernel_rfl) (fun _ _ _ h => h) (by rfl) ?_ ?_
  rotate_left
  · intro W hW; have hW0 := Ext.trans Ew4.out hW; clear hW; go_simp <;> with_reducible rfl
  try simp only [Act.put, List.setIfInBounds_toArray, List.set_cons_zero, List.set_cons_succ]
  refine ext_take (i := 41) (v := ?_) rfl (by kernel_rfl) (by kernel_rfl) (by kernel_rfl) (fun _ _ _ h => h) (by rfl) ?_ ?_
  rotate_left
  · intro W hW; have hW0 := Ext.trans Ew4.out hW; clear hW; go_simp <;> with_reducible rfl
  try simp only [Act.put, List.setIfInBounds_toArray, List.set_cons_zero, List.set_cons_succ]
  refine ext_take (i := 42) (v := ?_) rfl (by kernel_rfl) (by kernel_rfl) (by kernel_rfl) (fun _ _ _ h => h) (by rfl) ?_ ?_
  rotate_left
  · intro W hW; have hW0 := Ext.trans Ew4.out hW; clear hW; go_simp <;> with_reducible rfl
  try simp only [Act.put, List.setIfInBounds_toArray, List.set_cons_zero, List.set_cons_succ]
  refine ext_take (i := 43) (v := ?_) rfl (by kernel_rfl) (by kernel_rfl) (by kernel_rfl) (fun _ _ _ h => h) (by rfl) ?_ ?_
  rotate_left
  · intro W hW; have hW0 := Ext.trans Ew4.out hW; clear hW; go_simp <;> with_reducible rfl
  try simp only [Act.put, List.setIfInBounds_toArray, List.set_cons_zero, List.set_cons_succ]
  refine ext_take (i := 44) (v := ?_) rfl (by kernel_rfl) (by kernel_rfl) (by kernel_rfl) (fun _ _ _ h => h) (by rfl) ?_ ?_
  rotate_left
  · intro W hW; have hW0 := Ext.trans Ew4.out hW; clear hW; go_simp <;> with_reducible rfl
  try simp only [Act.put, List.setIfInBounds_toArray, List.set_cons_zero, List.set_cons_succ]
  refine ext_take (i := 45) (v := ?_) rfl (by kernel_rfl) (by kernel_rfl) (by kernel_rfl) (fun _ _ _ h => h) (by rfl) ?_ ?_
  rotate_left
  · intro W hW; have hW0 := Ext.trans Ew4.out hW; clear hW; go_simp <;> with_reducible rfl
  try simp only [Act.put, List.setIfInBounds_toArray, List.set_cons_zero, List.set_cons_succ]
  refine ext_take (i := 46) (v := ?_) rfl (by kernel_rfl) (by kernel_rfl) (by kernel_rfl) (fun _ _ _ h => h) (by rfl) ?_ ?_
  rotate_left
  · intro W hW; have hW0 := Ext.trans Ew4.out hW; clear hW; go_simp <;> with_reducible rfl
  try simp only [Act.put, List.setIfInBounds_toArray, List.set_cons_zero, List.set_cons_succ]
  refine ext_take (i := 47) (v := ?_) rfl (by kernel_rfl) (by kernel_rfl) (by kernel_rfl) (fun _ _ _ h => h) (by rfl) ?_ ?_
  rotate_left
  · intro W hW; have hW0 := Ext.trans Ew4.out hW; clear hW; go_simp <;> with_reducible rfl
  try simp only [Act.put, List.setIfInBounds_toArray, List.set_cons_zero, List.set_cons_succ]
  refine ext_take (i := 48) (v := ?_) rfl (by kernel_rfl) (by kernel_rfl) (by kernel_rfl) (fun _ _ _ h => h) (by rfl) ?_ ?_
  rotate_left
  · intro W hW; have hW0 := Ext.trans Ew4.out hW; clear hW; go_simp <;> with_reducible rfl
  try simp only [Act.put, List.setIfInBounds_toArray, List.set_cons_zero, List.set_cons_succ]
  refine ext_take (i := 49) (v := ?_) rfl (by kernel_rfl) (by kernel_rfl) (by kernel_rfl) (fun _ _ _ h => h) (by rfl) ?_ ?_
  rotate_left
  · intro W hW; have hW0 := Ext.trans Ew4.out hW; clear hW; go_simp <;> with_reducible rfl
  try simp only [Act.put, List.setIfInBounds_toArray, List.set_cons_zero, List.set_cons_succ]
  refine ext_take (i := 50) (v := .bool false) rfl (by kernel_rfl) (by kernel_rfl) (by kernel_rfl) (fun _ _ _ h => h) (by rfl) ?_ ?_
  · intro W hW; have hW0 := Ext.trans Ew4.out hW; clear hW; go_simp; all_goals (first | done | rfl | (simp [h0]; done))
  try simp only [Act.put, List.setIfInBounds_toArray, List.set_cons_zero, List.set_cons_succ]
  refine ext_take (i := 51) (v := ?_) rfl (by kernel_rfl) (by kernel_rfl) (by kernel_rfl) (fun _ _ _ h => h) (by rfl) ?_ ?_
  rotate_left
  · intro W hW; have hW0 := Ext.trans Ew4.out hW; clear hW; go_simp <;> with_reducible rfl
  try simp only [Act.put, List.setIfInBounds_toArray, List.set_cons_zero, List.set_cons_succ]
  refine ext_take (i := 52) (v := ?_) rfl (by kernel_rfl) (by kernel_rfl) (by kernel_rfl) (fun _ _ _ h => h) (by rfl) ?_ ?_
  rotate_left
  · intro W hW; have hW0 := Ext.trans Ew4.out hW; clear hW; go_simp <;> with_reducible rfl
  try simp only [Act.put, List.setIfInBounds_toArray, List.set_cons_zero, List.set_cons_succ]
  refine ext_take (i := 53) (v := ?_) rfl (by kernel_rfl) (by kernel_rfl) (by kernel_rfl) (fun _ _ _ h => h) (by rfl) ?_ ?_
  rotate_left
  · intro W hW; have hW0 := Ext.trans Ew4.out hW; clear hW; go_simp <;> with_reducible rfl
  try simp only [Act.put, List.setIfInBounds_toArray, List.set_cons_zero, List.set_cons_succ]
  refine wpAnyH_done (by kernel_rfl) ?_ _
  clear ft0 ft1 ft2 ft3 ft6 fv0 fv1 fv2 fv3 fv4 fv5 fv6
  go_wp2
  obtain ⟨w9, hw9⟩ : ∃ z, z = w4 := ⟨_, rfl⟩
  subst hw9
  obtain ⟨n0, hn0⟩ : ∃ z, z = w9.heap.size := ⟨_, rfl⟩
  have HN9 := Lib.hid hn0
  clear hn0
  refine rz_begin (fun k => n0 ≤ k ∨ F.ownBlock = some k ∨ V.ownBlock = some k) [18, 21] (by kernel_rfl) ?_
  obtain ⟨w3, hw3⟩ : ∃ z, z = w9.drew := ⟨_, rfl⟩
  rw [← hw3]
  have HN3 : Hid (n0 = w3.heap.size) := by (show _ = _); rw [hw3]; exact HN9.out
  have HX3 : Hid (Ext w w3) := by show Ext _ _; rw [hw3]; exact Ext.drewR (Ext.trans HB0.out Ew4.out)
  have E3 : Hid (Frm (fun k => n0 ≤ k ∨ F.ownBlock = some k ∨ V.ownBlock = some k) w3 w3) := Frm.refl _ _
  have KT3 := Lib.hid (KTW.out.stay HX3.out)
  have HV3 := Lib.hid (own_frmX HV.out (Frm.of_below HX3.out (fun _ => False)) (fun _ _ h => h))
  have HF3 := Lib.hid (own_frm HF.out (Frm.of_below HX3.out (fun _ => False)) (fun _ _ h => h))
  have HS3 := Lib.hid (own_frm HS.out (Frm.of_below HX3.out (fun _ => False)) (fun _ _ h => h))
  have HCS3 := Lib.hid (HCS.out.stay HX3.out)
  have HLS3 : Hid (∀ t ∈ L, Sl i64 w3 t.A t.l ∧ (t.l ≠ [] → ∀ a, t.A = some a → a.block < base)) := fun t ht => ⟨(HLS.out t ht).1.stay HX3.out, (HLS.out t ht).2⟩
  have HT3 : Hid (Sl i64 w3 A l ∧ (l ≠ [] → ∀ a, A = some a → a.block < base)) := ⟨HT.out.1.stay HX3.out, HT.out.2⟩
  have HB3 : Hid (base ≤ w3.heap.size) := by have h1 := HX3.out.size; have h2 := HbP.out; have h3 := HPLT.out; (show _ ≤ _); omega
  have HPS : Hid (¬ (n0 ≤ P ∨ F.ownBlock = some P ∨ V.ownBlock = some P)) := by
    rintro (h | h | h)
    · have h1 := HPLT.out; have h2 := HX3.out.size; have h3 := HN3.out; omega
    · exact own_apB HF3.out KT3.out (by decide) h
    · exact own_apB HV3.out KT3.out (by decide) h
  have KV3 := Lib.hid (KV.out.stay (by rw [hw3]; exact Ext.drewR Ew4.out : Ext w0 w3))
  have fa5 : ∀ W, Frm (fun k => n0 ≤ k ∨ F.ownBlock = some k ∨ V.ownBlock = some k) w3 W → W.cell? ⟨P, 5, none⟩ = some V := fun W h => (KT3.out.frm h HPS.out).cell 5
  have fa6 : ∀ W, Frm (fun k => n0 ≤ k ∨ F.ownBlock = some k ∨ V.ownBlock = some k) w3 W → W.cell? ⟨P, 6, none⟩ = some F := fun W h => (KT3.out.frm h HPS.out).cell 6
  have HVS : Hid (¬ (n0 ≤ w.heap.size ∨ F.ownBlock = some w.heap.size ∨ V.ownBlock = some w.heap.size)) := by
    rintro (h | h | h)
    · have h1 := KV3.out.lt; have h3 := HN3.out; omega
    · exact own_apB HF3.out KV3.out (by decide) h
    · have := (HV.out.lt _ h).2; omega
  have fw0 : ∀ W, Frm (fun k => n0 ≤ k ∨ F.ownBlock = some k ∨ V.ownBlock = some k) w3 W → W.cell? ⟨w.heap.size, 0, none⟩ = some (.int .i64 br) := fun W h => (KV3.out.frm h HVS.out).cell 0
  have fw1 : ∀ W, Frm (fun k => n0 ≤ k ∨ F.ownBlock = some k ∨ V.ownBlock = some k) w3 W → W.cell? ⟨w.heap.size, 1, none⟩ = some (.int .i64 bn) := fun W h => (KV3.out.frm h HVS.out).cell 1
  have fw2 : ∀ W, Frm (fun k => n0 ≤ k ∨ F.ownBlock = some k ∨ V.ownBlock = some k) w3 W → W.cell? ⟨w.heap.size, 2, none⟩ = some (.int .i64 ar) := fun W h => (KV3.out.frm h HVS.out).cell 2
  have fw3 : ∀ W, Frm (fun k => n0 ≤ k ∨ F.ownBlock = some k ∨ V.ownBlock = some k) w3 W → W.cell? ⟨w.heap.size, 3, none⟩ = some (.int .i64 an) := fun W h => (KV3.out.frm h HVS.out).cell 3
  have fw4 : ∀ W, Frm (fun k => n0 ≤ k ∨ F.ownBlock = some k ∨ V.ownBlock = some k) w3 W → W.cell? ⟨w.heap.size, 4, none⟩ = some (.bool true) := fun W h => (KV3.out.frm h HVS.out).cell 4
  have fw5 : ∀ W, Frm (fun k => n0 ≤ k ∨ F.ownBlock = some k ∨ V.ownBlock = some k) w3 W → W.cell? ⟨w.heap.size, 5, none⟩ = some (.int .i64 cep) := fun W h => (KV3.out.frm h HVS.out).cell 5
  have fw6 : ∀ W, Frm (fun k => n0 ≤ k ∨ F.ownBlock = some k ∨ V.ownBlock = some k) w3 W → W.cell? ⟨w.heap.size, 6, none⟩ = some (.slice A l.length cap) := fun W h => (KV3.out.frm h HVS.out).cell 6
  clear hw3
  refine rz_take [16, 17, 18, 19, 20, 21] (i := 0) (v := ?_) rfl (by kernel_rfl) (by kernel_rfl) (by kernel_rfl) (by kernel_rfl) (by kernel_rfl) (by kernel_rfl) (fun _ _ _ h => h) (by rfl) ?_ ?_
  rotate_left
  · intro W hW; have hW0 := Frm.tr E3.out hW; clear hW; go_simp <;> with_reducible rfl
  try simp only [Act.put, List.setIfInBounds_toArray, List.set_cons_zero, List.set_cons_succ]
  refine rz_takew (i := 1) (v := ?_) rfl (by kernel_rfl) (by kernel_rfl) (by kernel_rfl) (fun _ _ _ h => h) (by rfl) ?_ ?_
  rotate_left
  · intro W; go_simp <;> with_reducible rfl
  try simp only [Act.put, List.setIfInBounds_toArray, List.set_cons_zero, List.set_cons_succ]
  refine rz_take [3, 4, 5, 8, 15, 16, 17, 18, 19, 20, 21] (i := 2) (v := ?_) rfl (by kernel_rfl) (by kernel_rfl) (by kernel_rfl) (by kernel_rfl) (by kernel_rfl) (by kernel_rfl) (fun _ _ _ h => h) (by rfl) ?_ ?_
  rotate_left
  · intro W hW; have hW0 := Frm.tr E3.out hW; clear hW; go_simp <;> with_reducible rfl
  try simp only [Act.put, List.setIfInBounds_toArray, List.set_cons_zero, List.set_cons_succ]
  refine rz_take [4, 5, 8, 15, 16, 17, 18, 19, 20, 21] (i := 3) (v := ?_) rfl (by kernel_rfl) (by kernel_rfl) (by kernel_rfl) (by kernel_rfl) (by kernel_rfl) (by kernel_rfl) (fun _ _ _ h => h) (by rfl) ?_ ?_
  rotate_left
  · intro W hW; have hW0 := Frm.tr E3.out hW; clear hW; go_simp <;> with_reducible rfl
  try simp only [Act.put, List.setIfInBounds_toArray, List.set_cons_zero, List.set_cons_succ]
  refine rz_take [5, 8, 15, 16, 17, 18, 19, 20, 21] (i := 4) (v := ?_) rfl (by kernel_rfl) (by kernel_rfl) (by kernel_rfl) (by kernel_rfl) (by kernel_rfl) (by kernel_rfl) (fun _ _ _ h => h) (by rfl) ?_ ?_
  rotate_left
  · intro W hW; have hW0 := Frm.tr E3.out hW; clear hW; go_simp <;> with_reducible rfl
  try simp only [Act.put, List.setIfInBounds_toArray, List.set_cons_zero, List.set_cons_succ]
  refine rz_take [8, 15, 16, 17, 18, 19, 20, 21] (i := 5) (v := ?_) rfl (by kernel_rfl) (by kernel_rfl) (by kernel_rfl) (by kernel_rfl) (by kernel_rfl) (by kernel_rfl) (fun _ _ _ h => h) (by rfl) ?_ ?_
  rotate_left
  · intro W hW; have hW0 := Frm.tr E3.out hW; clear hW; go_simp <;> with_reducible rfl
  try simp only [Act.put, List.setIfInBounds_toArray, List.set_cons_zero, List.set_cons_succ]
  refine rz_take [7, 8, 15, 16, 17, 18, 19, 20, 21] (i := 6) (v := ?_) rfl (by kernel_rfl) (by kernel_rfl) (by kernel_rfl) (by kernel_rfl) (by kernel_rfl) (by kernel_rfl) (fun _ _ _ h => h) (by rfl) ?_ ?_
  rotate_left
  · intro W hW; have hW0 := Frm.tr E3.out hW; clear hW; go_simp <;> with_reducible rfl
  try simp only [Act.put, List.setIfInBounds_toArray, List.set_cons_zero, List.set_cons_succ]
  refine rz_take [10, 11, 12, 15, 16, 17, 18, 19, 20, 21] (i := 9) (v := ?_) rfl (by kernel_rfl) (by kernel_rfl) (by kernel_rfl) (by kernel_rfl) (by kernel_rfl) (by kernel_rfl) (fun _ _ _ h => h) (by rfl) ?_ ?_
  rotate_left
  · intro W hW; have hW0 := Frm.tr E3.out hW; clear hW; go_simp <;> with_reducible rfl
  try simp only [Act.put, List.setIfInBounds_toArray, List.set_cons_zero, List.set_cons_succ]
  refine rz_take [11, 12, 15, 16, 17, 18, 19, 20, 21] (i := 10) (v := ?_) rfl (by kernel_rfl) (by kernel_rfl) (by kernel_rfl) (by kernel_rfl) (by kernel_rfl) (by kernel_rfl) (fun _ _ _ h => h) (by rfl) ?_ ?_
  rotate_left
  · intro W hW; have hW0 := Frm.tr E3.out hW; clear hW; go_simp <;> with_reducible rfl
  try simp only [Act.put, List.setIfInBounds_toArray, List.set_cons_zero, List.set_cons_succ]
  refine rz_take [12, 15, 16, 17, 18, 19, 20, 21] (i := 11) (v := ?_) rfl (by kernel_rfl) (by kernel_rfl) (by kernel_rfl) (by kernel_rfl) (by kernel_rfl) (by kernel_rfl) (fun _ _ _ h => h) (by rfl) ?_ ?_
  rotate_left
  · intro W hW; have hW0 := Frm.tr E3.out hW; clear hW; go_simp <;> with_reducible rfl
  try simp only [Act.put, List.setIfInBounds_toArray, List.set_cons_zero, List.set_cons_succ]
  refine rz_take [15, 16, 17, 18, 19, 20, 21] (i := 12) (v := ?_) rfl (by kernel_rfl) (by kernel_rfl) (by kernel_rfl) (by kernel_rfl) (by kernel_rfl) (by kernel_rfl) (fun _ _ _ h => h) (by rfl) ?_ ?_
  rotate_left
  · intro W hW; have hW0 := Frm.tr E3.out hW; clear hW; go_simp <;> with_reducible rfl
  try simp only [Act.put, List.setIfInBounds_toArray, List.set_cons_zero, List.set_cons_succ]
  refine rz_take [14, 15, 16, 17, 18, 19, 20, 21] (i := 13) (v := ?_) rfl (by kernel_rfl) (by kernel_rfl) (by kernel_rfl) (by kernel_rfl) (by kernel_rfl) (by kernel_rfl) (fun _ _ _ h => h) (by rfl) ?_ ?_
  rotate_left
  · intro W hW; have hW0 := Frm.tr E3.out hW; clear hW; go_simp <;> with_reducible rfl
  try simp only [Act.put, List.setIfInBounds_toArray, List.set_cons_zero, List.set_cons_succ]
  refine rz_two (i := 7) (j := 14) rfl rfl (by kernel_rfl) (by rfl) (by rfl) (fun K hK => ?_) (fun K hK => ?_)
  · go_simp
    refine hK _ _ (Frm.of_alloc _ _ _) ?_; clear hK K
    obtain ⟨W18, hW18⟩ : ∃ z, z = w3.alloc (.cells #[.int .i64 node] 3) := ⟨_, rfl⟩
    obtain ⟨g18, hg18⟩ : ∃ z, z = w3.heap.size := ⟨_, rfl⟩
    have B18 : Hid (Blk W18 g18 3 #[.int .i64 node]) := by (show Blk _ _ _ _); rw [hW18, hg18]; exact Blk.new _ _ _
    have X18 : Hid (Ext w3 W18) := by (show Ext _ _); rw [hW18]; exact Ext.alloc _ _
    have E18 : Hid (Frm (fun k => n0 ≤ k ∨ F.ownBlock = some k ∨ V.ownBlock = some k) w3 W18) := Frm.tr E3.out (Frm.of_below X18.out _)
    have OF18 := Lib.hid (own_frm HF3.out (Frm.of_below X18.out (fun _ => False)) (fun _ _ h => h))
    have OV18 := Lib.hid (own_frmX HV3.out (Frm.of_below X18.out (fun _ => False)) (fun _ _ h => h))
    rw [← hW18, ← hg18]
    clear hW18 hg18
    try simp only [Act.put, List.setIfInBounds_toArray, List.set_cons_zero, List.set_cons_succ]
    refine rz_two (i := 8) (j := 14) rfl rfl (by kernel_rfl) (by rfl) (by rfl) (fun K hK => ?_) (fun K hK => ?_)
    · refine wp_append_list (.tmp 66) (.tmp 68) 24 rfl base 3 (.int .i64 0) 8 Try.underlying24 info_int rfl (by omega) F pl.length (pl.map i64) (by rfl) OF18.out i64 (some ⟨g18, 0, none⟩) [node] 1 1 rfl (by rfl) (Sl.of_blk B18.out (fun j v hj => by match j, hj with | 0, hj => (simp at hj; subst hj; rfl))) (fun _ => rfl) (by simp; omega) (Nat.le_trans HB3.out E18.out.size) ?_
      intro F19 W19 oo gg bb
      have oo : W19.ownsRow base 3 1 F19 (pl.length + 1) (pl.map i64 ++ [node].map i64) := oo
      obtain ⟨FA19, FC19, hFe19⟩ := own_shape oo
      subst hFe19
      refine hK _ _ (Frm.of_grown gg (fun k hk => .inr (.inl hk.symm))) ?_; clear hK K
      have G19 : Hid (Frm (fun k => F.ownBlock = some k) W18 W19) := Frm.of_grown gg (fun k hk => hk.symm)
      have E19 : Hid (Frm (fun k => n0 ≤ k ∨ F.ownBlock = some k ∨ V.ownBlock = some k) w3 W19) := Frm.tr E18.out (G19.out.mono (fun k hk => .inr (.inl hk)))
      have OF19 : Hid (W19.ownsRow base 3 1 (.slice FA19 (pl.length + 1) FC19) (pl ++ [node]).length ((pl ++ [node]).map i64)) := by (show World.ownsRow _ _ _ _ _ _ _); simpa using oo
      have DF : Hid ((Value.slice FA19 (pl.length + 1) FC19).ownBlock = F.ownBlock ∨ ∃ k, (Value.slice FA19 (pl.length + 1) FC19).ownBlock = some k ∧ w3.heap.size ≤ k) := bb.imp id (fun ⟨k, h, hk⟩ => ⟨k, h, Nat.le_trans E18.out.size hk⟩)
      have OV19 := Lib.hid (own_frmX OV18.out G19.out (fun k hk e => own_apX OV18.out OF18.out (by decide) k hk e))
      clear oo gg bb
      try simp only [Act.put, List.setIfInBounds_toArray, List.set_cons_zero, List.set_cons_succ]
      refine rz_call (i := 14) rfl (by kernel_rfl) (by rfl) (fun K hK => ?_)
      go_simp
      refine hK _ _ (Frm.of_alloc _ _ _) ?_; clear hK K
      obtain ⟨W20, hW20⟩ : ∃ z, z = W19.alloc (.cells #[.int .i64 br, .int .i64 bn, .int .i64 ar, .int .i64 an, .bool true, .int .i64 cep, .slice A l.length cap] 40) := ⟨_, rfl⟩
      obtain ⟨g20, hg20⟩ : ∃ z, z = W19.heap.size := ⟨_, rfl⟩
      have B20 : Hid (Blk W20 g20 40 #[.int .i64 br, .int .i64 bn, .int .i64 ar, .int .i64 an, .bool true, .int .i64 cep, .slice A l.length cap]) := by (show Blk _ _ _ _); rw [hW20, hg20]; exact Blk.new _ _ _
      have X20 : Hid (Ext W19 W20) := by (show Ext _ _); rw [hW20]; exact Ext.alloc _ _
      have E20 : Hid (Frm (fun k => n0 ≤ k ∨ F.ownBlock = some k ∨ V.ownBlock = some k) w3 W20) := Frm.tr E19.out (Frm.of_below X20.out _)
      have OF20 := Lib.hid (own_frm OF19.out (Frm.of_below X20.out (fun _ => False)) (fun _ _ h => h))
      have OV20 := Lib.hid (own_frmX OV19.out (Frm.of_below X20.out (fun _ => False)) (fun _ _ h => h))
      rw [← hW20, ← hg20]
      clear hW20 hg20
      try simp only [Act.put, List.setIfInBounds_toArray, List.set_cons_zero, List.set_cons_succ]
      refine rz_call (i := 15) rfl (by kernel_rfl) (by rfl) (fun K hK => ?_)
      refine wp_append_v (.tmp 73) (.tmp 75) 36 rfl base 40 _ 7 72 Try.underlying36 info_vote rfl (by decide) (by decide) V L.length (flatV L) (by rfl) OV20.out g20 [.int .i64 br, .int .i64 bn, .int .i64 ar, .int .i64 an, .bool true, .int .i64 cep, .slice A l.length cap] rfl (by rfl) B20.out (by intro y hy; simp at hy; rcases hy with rfl | rfl | rfl | rfl | rfl | rfl | rfl <;> rfl) (by omega) (Nat.le_trans HB3.out E20.out.size) ?_
      intro V21 W21 oo gg bb
      obtain ⟨VA21, VC21, hVe21⟩ := own_shape oo
      subst hVe21
      refine hK _ _ (Frm.of_grown gg (fun k hk => .inr (.inr hk.symm))) ?_; clear hK K
      have G21 : Hid (Frm (fun k => V.ownBlock = some k) W20 W21) := Frm.of_grown gg (fun k hk => hk.symm)
      have E21 : Hid (Frm (fun k => n0 ≤ k ∨ F.ownBlock = some k ∨ V.ownBlock = some k) w3 W21) := Frm.tr E20.out (G21.out.mono (fun k hk => .inr (.inr hk)))
      have OV21 : Hid (W21.ownsRow base 40 7 (.slice VA21 (L.length + 1) VC21) (L ++ [(⟨br, bn, ar, an, true, cep, A, cap, l⟩ : Vt)]).length (flatV (L ++ [(⟨br, bn, ar, an, true, cep, A, cap, l⟩ : Vt)]))) := by
        show World.ownsRow _ _ _ _ _ _ _
        rw [flatV_append, List.length_append]
        simpa [flatV, vtRow] using oo
      have DV : Hid ((Value.slice VA21 (L.length + 1) VC21).ownBlock = V.ownBlock ∨ ∃ k, (Value.slice VA21 (L.length + 1) VC21).ownBlock = some k ∧ w3.heap.size ≤ k) := bb.imp id (fun h => ⟨_, h, E20.out.size⟩)
      have OF21 := Lib.hid (own_frm OF20.out G21.out (fun k hk e => own_apX OF20.out OV20.out (by decide) k hk e))
      clear oo gg bb
      try simp only [Act.put, List.setIfInBounds_toArray, List.set_cons_zero, List.set_cons_succ]
      refine rz_take [17, 18, 19, 20, 21] (i := 16) (v := ?_) rfl (by kernel_rfl) (by kernel_rfl) (by kernel_rfl) (by kernel_rfl) (by kernel_rfl) (by kernel_rfl) (fun _ _ _ h => h) (by rfl) ?_ ?_
      rotate_left
      · intro W hW; have hW0 := Frm.tr E21.out hW; clear hW; go_simp <;> with_reducible rfl
      try simp only [Act.put, List.setIfInBounds_toArray, List.set_cons_zero, List.set_cons_succ]
      refine rz_take [18, 19, 20, 21] (i := 17) (v := ?_) rfl (by kernel_rfl) (by kernel_rfl) (by kernel_rfl) (by kernel_rfl) (by kernel_rfl) (by kernel_rfl) (fun _ _ _ h => h) (by rfl) ?_ ?_
      rotate_left
      · intro W hW; have hW0 := Frm.tr E21.out hW; clear hW; go_simp <;> with_reducible rfl
      try simp only [Act.put, List.setIfInBounds_toArray, List.set_cons_zero, List.set_cons_succ]
      refine rz_last (i := 18) rfl (by kernel_rfl) (by rfl) (by rfl) (fun K hK => ?_)
      have KT22 := Lib.hid (KT3.out.frm E21.out HPS.out)
      have q1 := KT22.out.frozen 6
      have r1 := KT22.out.cell 6
      simp at r1
      go_simp
      refine hK _ _ ?_; clear hK K q1 r1
      try simp only [Act.put, List.setIfInBounds_toArray, List.set_cons_zero, List.set_cons_succ]
      refine rz_takew (i := 19) (v := ?_) rfl (by kernel_rfl) (by kernel_rfl) (by kernel_rfl) (fun _ _ _ h => h) (by rfl) ?_ ?_
      rotate_left
      · intro W; go_simp <;> with_reducible rfl
      try simp only [Act.put, List.setIfInBounds_toArray, List.set_cons_zero, List.set_cons_succ]
      refine rz_takew (i := 20) (v := ?_) rfl (by kernel_rfl) (by kernel_rfl) (by kernel_rfl) (fun _ _ _ h => h) (by rfl) ?_ ?_
      rotate_left
      · intro W; go_simp <;> with_reducible rfl
      try simp only [Act.put, List.setIfInBounds_toArray, List.set_cons_zero, List.set_cons_succ]
      refine rz_last (i := 21) rfl (by kernel_rfl) (by rfl) (by rfl) (fun K hK => ?_)
      have KU23 := Lib.hid (KT22.out.set 6 (.slice FA19 (pl.length + 1) FC19))
      have q1 := KU23.out.frozen 5
      have r1 := KU23.out.cell 5
      simp at r1
      go_simp
      refine hK _ _ ?_; clear hK K q1 r1
      try simp only [Act.put, List.setIfInBounds_toArray, List.set_cons_zero, List.set_cons_succ]
      refine rz_done (by kernel_rfl) ?_ _
      go_wp2
      try go_ret
      obtain ⟨s', h1, h2, h3⟩ := putFV (t := ⟨br, bn, ar, an, true, cep, A, cap, l⟩) (node := node) (has := has) (xr := xr) (xn := xn) (xep := xep) (xl := xl) HbP.out KT3.out HV3.out HF3.out HS3.out HNE.out HCS3.out HCB.out HLS3.out HSEL.out (by have h9 := E21.out; rw [HN3.out] at h9; exact h9) OF21.out OV21.out DF.out DV.out HT3.out
      exact hD.out _ _ ⟨rfl, s', h1, Frm.tr (Frm.of_below HX3.out _) h2, fun k hk => (h3 k hk).imp id (fun h => Nat.le_trans HX3.out.size h)⟩
    · go_simp
      refine hK _ _ (Frm.of_alloc _ _ _) ?_; clear hK K
      obtain ⟨W24, hW24⟩ : ∃ z, z = W18.alloc (.cells #[.int .i64 br, .int .i64 bn, .int .i64 ar, .int .i64 an, .bool true, .int .i64 cep, .slice A l.length cap] 40) := ⟨_, rfl⟩
      obtain ⟨g24, hg24⟩ : ∃ z, z = W18.heap.size := ⟨_, rfl⟩
      have B24 : Hid (Blk W24 g24 40 #[.int .i64 br, .int .i64 bn, .int .i64 ar, .int .i64 an, .bool true, .int .i64 cep, .slice A l.length cap]) := by (show Blk _ _ _ _); rw [hW24, hg24]; exact Blk.new _ _ _
      have X24 : Hid (Ext W18 W24) := by (show Ext _ _); rw [hW24]; exact Ext.alloc _ _
      have E24 : Hid (Frm (fun k => n0 ≤ k ∨ F.ownBlock = some k ∨ V.ownBlock = some k) w3 W24) := Frm.tr E18.out (Frm.of_below X24.out _)
      have OF24 := Lib.hid (own_frm OF18.out (Frm.of_below X24.out (fun _ => False)) (fun _ _ h => h))
      have OV24 := Lib.hid (own_frmX OV18.out (Frm.of_below X24.out (fun _ => False)) (fun _ _ h => h))
      have BX24 := Lib.hid (B18.out.stay X24.out)
      rw [← hW24, ← hg24]
      clear hW24 hg24
      try simp only [Act.put, List.setIfInBounds_toArray, List.set_cons_zero, List.set_cons_succ]
      refine rz_call (i := 8) rfl (by kernel_rfl) (by rfl) (fun K hK => ?_)
      refine wp_append_list (.tmp 66) (.tmp 68) 24 rfl base 3 (.int .i64 0) 8 Try.underlying24 info_int rfl (by omega) F pl.length (pl.map i64) (by rfl) OF24.out i64 (some ⟨g18, 0, none⟩) [node] 1 1 rfl (by rfl) (Sl.of_blk BX24.out (fun j v hj => by match j, hj with | 0, hj => (simp at hj; subst hj; rfl))) (fun _ => rfl) (by simp; omega) (Nat.le_trans HB3.out E24.out.size) ?_
      intro F25 W25 oo gg bb
      have oo : W25.ownsRow base 3 1 F25 (pl.length + 1) (pl.map i64 ++ [node].map i64) := oo
      obtain ⟨FA25, FC25, hFe25⟩ := own_shape oo
      subst hFe25
      refine hK _ _ (Frm.of_grown gg (fun k hk => .inr (.inl hk.symm))) ?_; clear hK K
      have G25 : Hid (Frm (fun k => F.ownBlock = some k) W24 W25) := Frm.of_grown gg (fun k hk => hk.symm)
      have E25 : Hid (Frm (fun k => n0 ≤ k ∨ F.ownBlock = some k ∨ V.ownBlock = some k) w3 W25) := Frm.tr E24.out (G25.out.mono (fun k hk => .inr (.inl hk)))
      have OF25 : Hid (W25.ownsRow base 3 1 (.slice FA25 (pl.length + 1) FC25) (pl ++ [node]).length ((pl ++ [node]).map i64)) := by (show World.ownsRow _ _ _ _ _ _ _); simpa using oo
      have DF : Hid ((Value.slice FA25 (pl.length + 1) FC25).ownBlock = F.ownBlock ∨ ∃ k, (Value.slice FA25 (pl.length + 1) FC25).ownBlock = some k ∧ w3.heap.size ≤ k) := bb.imp id (fun ⟨k, h, hk⟩ => ⟨k, h, Nat.le_trans E24.out.size hk⟩)
      have OV25 := Lib.hid (own_frmX OV24.out G25.out (fun k hk e => own_apX OV24.out OF24.out (by decide) k hk e))
      have BV25 := Lib.hid (B24.out.frm G25.out (fun e => own_apB OF24.out B24.out (by decide) e))
      clear oo gg bb
      try simp only [Act.put, List.setIfInBounds_toArray, List.set_cons_zero, List.set_cons_succ]
      refine rz_call (i := 15) rfl (by kernel_rfl) (by rfl) (fun K hK => ?_)
      refine wp_append_v (.tmp 73) (.tmp 75) 36 rfl base 40 _ 7 72 Try.underlying36 info_vote rfl (by decide) (by decide) V L.length (flatV L) (by rfl) OV25.out g24 [.int .i64 br, .int .i64 bn, .int .i64 ar, .int .i64 an, .bool true, .int .i64 cep, .slice A l.length cap] rfl (by rfl) BV25.out (by intro y hy; simp at hy; rcases hy with rfl | rfl | rfl | rfl | rfl | rfl | rfl <;> rfl) (by omega) (Nat.le_trans HB3.out E25.out.size) ?_
      intro V26 W26 oo gg bb
      obtain ⟨VA26, VC26, hVe26⟩ := own_shape oo
      subst hVe26
      refine hK _ _ (Frm.of_grown gg (fun k hk => .inr (.inr hk.symm))) ?_; clear hK K
      have G26 : Hid (Frm (fun k => V.ownBlock = some k) W25 W26) := Frm.of_grown gg (fun k hk => hk.symm)
      have E26 : Hid (Frm (fun k => n0 ≤ k ∨ F.ownBlock = some k ∨ V.ownBlock = some k) w3 W26) := Frm.tr E25.out (G26.out.mono (fun k hk => .inr (.inr hk)))
      have OV26 : Hid (W26.ownsRow base 40 7 (.slice VA26 (L.length + 1) VC26) (L ++ [(⟨br, bn, ar, an, true, cep, A, cap, l⟩ : Vt)]).length (flatV (L ++ [(⟨br, bn, ar, an, true, cep, A, cap, l⟩ : Vt)]))) := by
        show World.ownsRow _ _ _ _ _ _ _
        rw [flatV_append, List.length_append]
        simpa [flatV, vtRow] using oo
      have DV : Hid ((Value.slice VA26 (L.length + 1) VC26).ownBlock = V.ownBlock ∨ ∃ k, (Value.slice VA26 (L.length + 1) VC26).ownBlock = some k ∧ w3.heap.size ≤ k) := bb.imp id (fun h => ⟨_, h, E25.out.size⟩)
      have OF26 := Lib.hid (own_frm OF25.out G26.out (fun k hk e => own_apX OF25.out OV25.out (by decide) k hk e))
      clear oo gg bb
      try simp only [Act.put, List.setIfInBounds_toArray, List.set_cons_zero, List.set_cons_succ]
      refine rz_take [17, 18, 19, 20, 21] (i := 16) (v := ?_) rfl (by kernel_rfl) (by kernel_rfl) (by kernel_rfl) (by kernel_rfl) (by kernel_rfl) (by kernel_rfl) (fun _ _ _ h => h) (by rfl) ?_ ?_
      rotate_left
      · intro W hW; have hW0 := Frm.tr E26.out hW; clear hW; go_simp <;> with_reducible rfl
      try simp only [Act.put, List.setIfInBounds_toArray, List.set_cons_zero, List.set_cons_succ]
      refine rz_take [18, 19, 20, 21] (i := 17) (v := ?_) rfl (by kernel_rfl) (by kernel_rfl) (by kernel_rfl) (by kernel_rfl) (by kernel_rfl) (by kernel_rfl) (fun _ _ _ h => h) (by rfl) ?_ ?_
      rotate_left
      · intro W hW; have hW0 := Frm.tr E26.out hW; clear hW; go_simp <;> with_reducible rfl
      try simp only [Act.put, List.setIfInBounds_toArray, List.set_cons_zero, List.set_cons_succ]
      refine rz_last (i := 18) rfl (by kernel_rfl) (by rfl) (by rfl) (fun K hK => ?_)
      have KT27 := Lib.hid (KT3.out.frm E26.out HPS.out)
      have q1 := KT27.out.frozen 6
      have r1 := KT27.out.cell 6
      simp at r1
      go_simp
      refine hK _ _ ?_; clear hK K q1 r1
      try simp only [Act.put, List.setIfInBounds_toArray, List.set_cons_zero, List.set_cons_succ]
      refine rz_takew (i := 19) (v := ?_) rfl (by kernel_rfl) (by kernel_rfl) (by kernel_rfl) (fun _ _ _ h => h) (by rfl) ?_ ?_
      rotate_left
      · intro W; go_simp <;> with_reducible rfl
      try simp only [Act.put, List.setIfInBounds_toArray, List.set_cons_zero, List.set_cons_succ]
      refine rz_takew (i := 20) (v := ?_) rfl (by kernel_rfl) (by kernel_rfl) (by kernel_rfl) (fun _ _ _ h => h) (by rfl) ?_ ?_
      rotate_left
      · intro W; go_simp <;> with_reducible rfl
      try simp only [Act.put, List.setIfInBounds_toArray, List.set_cons_zero, List.set_cons_succ]
      refine rz_last (i := 21) rfl (by kernel_rfl) (by rfl) (by rfl) (fun K hK => ?_)
      have KU28 := Lib.hid (KT27.out.set 6 (.slice FA25 (pl.length + 1) FC25))
      have q1 := KU28.out.frozen 5
      have r1 := KU28.out.cell 5
      simp at r1
      go_simp
      refine hK _ _ ?_; clear hK K q1 r1
      try simp only [Act.put, List.setIfInBounds_toArray, List.set_cons_zero, List.set_cons_succ]
      refine rz_done (by kernel_rfl) ?_ _
      go_wp2
      try go_ret
      obtain ⟨s', h1, h2, h3⟩ := putFV (t := ⟨br, bn, ar, an, true, cep, A, cap, l⟩) (node := node) (has := has) (xr := xr) (xn := xn) (xep := xep) (xl := xl) HbP.out KT3.out HV3.out HF3.out HS3.out HNE.out HCS3.out HCB.out HLS3.out HSEL.out (by have h9 := E26.out; rw [HN3.out] at h9; exact h9) OF26.out OV26.out DF.out DV.out HT3.out
      exact hD.out _ _ ⟨rfl, s', h1, Frm.tr (Frm.of_below HX3.out _) h2, fun k hk => (h3 k hk).imp id (fun h => Nat.le_trans HX3.out.size h)⟩
  · go_simp
    refine hK _ _ (Frm.of_alloc _ _ _) ?_; clear hK K
    obtain ⟨W29, hW29⟩ : ∃ z, z = w3.alloc (.cells #[.int .i64 br, .int .i64 bn, .int .i64 ar, .int .i64 an, .bool true, .int .i64 cep, .slice A l.length cap] 40) := ⟨_, rfl⟩
    obtain ⟨g29, hg29⟩ : ∃ z, z = w3.heap.size := ⟨_, rfl⟩
    have B29 : Hid (Blk W29 g29 40 #[.int .i64 br, .int .i64 bn, .int .i64 ar, .int .i64 an, .bool true, .int .i64 cep, .slice A l.length cap]) := by (show Blk _ _ _ _); rw [hW29, hg29]; exact Blk.new _ _ _
    have X29 : Hid (Ext w3 W29) := by (show Ext _ _); rw [hW29]; exact Ext.alloc _ _
    have E29 : Hid (Frm (fun k => n0 ≤ k ∨ F.ownBlock = some k ∨ V.ownBlock = some k) w3 W29) := Frm.tr E3.out (Frm.of_below X29.out _)
    have OF29 := Lib.hid (own_frm HF3.out (Frm.of_below X29.out (fun _ => False)) (fun _ _ h => h))
    have OV29 := Lib.hid (own_frmX HV3.out (Frm.of_below X29.out (fun _ => False)) (fun _ _ h => h))
    rw [← hW29, ← hg29]
    clear hW29 hg29
    try simp only [Act.put, List.setIfInBounds_toArray, List.set_cons_zero, List.set_cons_succ]
    refine rz_call (i := 7) rfl (by kernel_rfl) (by rfl) (fun K hK => ?_)
    go_simp
    refine hK _ _ (Frm.of_alloc _ _ _) ?_; clear hK K
    obtain ⟨W30, hW30⟩ : ∃ z, z = W29.alloc (.cells #[.int .i64 node] 3) := ⟨_, rfl⟩
    obtain ⟨g30, hg30⟩ : ∃ z, z = W29.heap.size := ⟨_, rfl⟩
    have B30 : Hid (Blk W30 g30 3 #[.int .i64 node]) := by (show Blk _ _ _ _); rw [hW30, hg30]; exact Blk.new _ _ _
    have X30 : Hid (Ext W29 W30) := by (show Ext _ _); rw [hW30]; exact Ext.alloc _ _
    have E30 : Hid (Frm (fun k => n0 ≤ k ∨ F.ownBlock = some k ∨ V.ownBlock = some k) w3 W30) := Frm.tr E29.out (Frm.of_below X30.out _)
    have OF30 := Lib.hid (own_frm OF29.out (Frm.of_below X30.out (fun _ => False)) (fun _ _ h => h))
    have OV30 := Lib.hid (own_frmX OV29.out (Frm.of_below X30.out (fun _ => False)) (fun _ _ h => h))
    have BV30 := Lib.hid (B29.out.stay X30.out)
    rw [← hW30, ← hg30]
    clear hW30 hg30
    try simp only [Act.put, List.setIfInBounds_toArray, List.set_cons_zero, List.set_cons_succ]
    refine rz_call (i := 8) rfl (by kernel_rfl) (by rfl) (fun K hK => ?_)
    refine wp_append_list (.tmp 66) (.tmp 68) 24 rfl base 3 (.int .i64 0) 8 Try.underlying24 info_int rfl (by omega) F pl.length (pl.map i64) (by rfl) OF30.out i64 (some ⟨g30, 0, none⟩) [node] 1 1 rfl (by rfl) (Sl.of_blk B30.out (fun j v hj => by match j, hj with | 0, hj => (simp at hj; subst hj; rfl))) (fun _ => rfl) (by simp; omega) (Nat.le_trans HB3.out E30.out.size) ?_
    intro F31 W31 oo gg bb
    have oo : W31.ownsRow base 3 1 F31 (pl.length + 1) (pl.map i64 ++ [node].map i64) := oo
    obtain ⟨FA31, FC31, hFe31⟩ := own_shape oo
    subst hFe31
    refine hK _ _ (Frm.of_grown gg (fun k hk => .inr (.inl hk.symm))) ?_; clear hK K
    have G31 : Hid (Frm (fun k => F.ownBlock = some k) W30 W31) := Frm.of_grown gg (fun k hk => hk.symm)
    have E31 : Hid (Frm (fun k => n0 ≤ k ∨ F.ownBlock = some k ∨ V.ownBlock = some k) w3 W31) := Frm.tr E30.out (G31.out.mono (fun k hk => .inr (.inl hk)))
    have OF31 : Hid (W31.ownsRow base 3 1 (.slice FA31 (pl.length + 1) FC31) (pl ++ [node]).length ((pl ++ [node]).map i64)) := by (show World.ownsRow _ _ _ _ _ _ _); simpa using oo
    have DF : Hid ((Value.slice FA31 (pl.length + 1) FC31).ownBlock = F.ownBlock ∨ ∃ k, (Value.slice FA31 (pl.length + 1) FC31).ownBlock = some k ∧ w3.heap.size ≤ k) := bb.imp id (fun ⟨k, h, hk⟩ => ⟨k, h, Nat.le_trans E30.out.size hk⟩)
    have OV31 := Lib.hid (own_frmX OV30.out G31.out (fun k hk e => own_apX OV30.out OF30.out (by decide) k hk e))
    have BV31 := Lib.hid (BV30.out.frm G31.out (fun e => own_apB OF30.out BV30.out (by decide) e))
    clear oo gg bb
    try simp only [Act.put, List.setIfInBounds_toArray, List.set_cons_zero, List.set_cons_succ]
    refine rz_call (i := 15) rfl (by kernel_rfl) (by rfl) (fun K hK => ?_)
    refine wp_append_v (.tmp 73) (.tmp 75) 36 rfl base 40 _ 7 72 Try.underlying36 info_vote rfl (by decide) (by decide) V L.length (flatV L) (by rfl) OV31.out g29 [.int .i64 br, .int .i64 bn, .int .i64 ar, .int .i64 an, .bool true, .int .i64 cep, .slice A l.length cap] rfl (by rfl) BV31.out (by intro y hy; simp at hy; rcases hy with rfl | rfl | rfl | rfl | rfl | rfl | rfl <;> rfl) (by omega) (Nat.le_trans HB3.out E31.out.size) ?_
    intro V32 W32 oo gg bb
    obtain ⟨VA32, VC32, hVe32⟩ := own_shape oo
    subst hVe32
    refine hK _ _ (Frm.of_grown gg (fun k hk => .inr (.inr hk.symm))) ?_; clear hK K
    have G32 : Hid (Frm (fun k => V.ownBlock = some k) W31 W32) := Frm.of_grown gg (fun k hk => hk.symm)
    have E32 : Hid (Frm (fun k => n0 ≤ k ∨ F.ownBlock = some k ∨ V.ownBlock = some k) w3 W32) := Frm.tr E31.out (G32.out.mono (fun k hk => .inr (.inr hk)))
    have OV32 : Hid (W32.ownsRow base 40 7 (.slice VA32 (L.length + 1) VC32) (L ++ [(⟨br, bn, ar, an, true, cep, A, cap, l⟩ : Vt)]).length (flatV (L ++ [(⟨br, bn, ar, an, true, cep, A, cap, l⟩ : Vt)]))) := by
      show World.ownsRow _ _ _ _ _ _ _
      rw [flatV_append, List.length_append]
      simpa [flatV, vtRow] using oo
    have DV : Hid ((Value.slice VA32 (L.length + 1) VC32).ownBlock = V.ownBlock ∨ ∃ k, (Value.slice VA32 (L.length + 1) VC32).ownBlock = some k ∧ w3.heap.size ≤ k) := bb.imp id (fun h => ⟨_, h, E31.out.size⟩)
    have OF32 := Lib.hid (own_frm OF31.out G32.out (fun k hk e => own_apX OF31.out OV31.out (by decide) k hk e))
    clear oo gg bb
    try simp only [Act.put, List.setIfInBounds_toArray, List.set_cons_zero, List.set_cons_succ]
    refine rz_take [17, 18, 19, 20, 21] (i := 16) (v := ?_) rfl (by kernel_rfl) (by kernel_rfl) (by kernel_rfl) (by kernel_rfl) (by kernel_rfl) (by kernel_rfl) (fun _ _ _ h => h) (by rfl) ?_ ?_
    rotate_left
    · intro W hW; have hW0 := Frm.tr E32.out hW; clear hW; go_simp <;> with_reducible rfl
    try simp only [Act.put, List.setIfInBounds_toArray, List.set_cons_zero, List.set_cons_succ]
    refine rz_take [18, 19, 20, 21] (i := 17) (v := ?_) rfl (by kernel_rfl) (by kernel_rfl) (by kernel_rfl) (by kernel_rfl) (by kernel_rfl) (by kernel_rfl) (fun _ _ _ h => h) (by rfl) ?_ ?_
    rotate_left
    · intro W hW; have hW0 := Frm.tr E32.out hW; clear hW; go_simp <;> with_reducible rfl
    try simp only [Act.put, List.setIfInBounds_toArray, List.set_cons_zero, List.set_cons_succ]
    refine rz_last (i := 18) rfl (by kernel_rfl) (by rfl) (by rfl) (fun K hK => ?_)
    have KT33 := Lib.hid (KT3.out.frm E32.out HPS.out)
    have q1 := KT33.out.frozen 6
    have r1 := KT33.out.cell 6
    simp at r1
    go_simp
    refine hK _ _ ?_; clear hK K q1 r1
    try simp only [Act.put, List.setIfInBounds_toArray, List.set_cons_zero, List.set_cons_succ]
    refine rz_takew (i := 19) (v := ?_) rfl (by kernel_rfl) (by kernel_rfl) (by kernel_rfl) (fun _ _ _ h => h) (by rfl) ?_ ?_
    rotate_left
    · intro W; go_simp <;> with_reducible rfl
    try simp only [Act.put, List.setIfInBounds_toArray, List.set_cons_zero, List.set_cons_succ]
    refine rz_takew (i := 20) (v := ?_) rfl (by kernel_rfl) (by kernel_rfl) (by kernel_rfl) (fun _ _ _ h => h) (by rfl) ?_ ?_
    rotate_left
    · intro W; go_simp <;> with_reducible rfl
    try simp only [Act.put, List.setIfInBounds_toArray, List.set_cons_zero, List.set_cons_succ]
    refine rz_last (i := 21) rfl (by kernel_rfl) (by rfl) (by rfl) (fun K hK => ?_)
    have KU34 := Lib.hid (KT33.out.set 6 (.slice FA31 (pl.length + 1) FC31))
    have q1 := KU34.out.frozen 5
    have r1 := KU34.out.cell 5
    simp at r1
    go_simp
    refine hK _ _ ?_; clear hK K q1 r1
    try simp only [Act.put, List.setIfInBounds_toArray, List.set_cons_zero, List.set_cons_succ]
    refine rz_done (by kernel_rfl) ?_ _
    go_wp2
    try go_ret
    obtain ⟨s', h1, h2, h3⟩ := putFV (t := ⟨br, bn, ar, an, true, cep, A, cap, l⟩) (node := node) (has := has) (xr := xr) (xn := xn) (xep := xep) (xl := xl) HbP.out KT3.out HV3.out HF3.out HS3.out HNE.out HCS3.out HCB.out HLS3.out HSEL.out (by have h9 := E32.out; rw [HN3.out] at h9; exact h9) OF32.out OV32.out DF.out DV.out HT3.out
    exact hD.out _ _ ⟨rfl, s', h1, Frm.tr (Frm.of_below HX3.out _) h2, fun k hk => (h3 k hk).imp id (fun h => Nat.le_trans HX3.out.size h)⟩
end Go.Proofs.Ytkdcbidbciognaa
