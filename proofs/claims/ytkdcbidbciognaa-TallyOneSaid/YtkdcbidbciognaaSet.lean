/-
  slices.Clone of ints; a copy of a chain; a set of ints that grows.
-/
import Derived.Test.YtkdcbidbciognaaFrm
import Derived.Test.YtkdcbidbciognaaMayChain
import Derived.Test.YtkdcbidbciognaaHeldR
namespace Go.Proofs.Ytkdcbidbciognaa
set_option linter.unusedVariables false
set_option linter.unusedSimpArgs false
open Go.RowKit

/-- slices.Clone of ints: a slice of the call's own -/
theorem cloneI_any (A : Option Addr) (cap : Nat) (l : List Int) (w : World) (hl : l.length ≤ 1000000000000) (hs : Sl i64 w A l) :
    Calls Try.prog 84 #[.slice A l.length cap] w fun e w' => ∃ v, e = .returned v ∧ w'.ownsRow w.heap.size 3 1 v l.length (l.map i64) ∧ Below w.heap.size w w' := by
  refine hide_post fun D hD => ?_
  rcases A with _ | ad
  · have hl0 : l = [] := by
      cases l with
      | nil => rfl
      | cons x r => obtain ⟨b, o, e, _⟩ := hs 0 x rfl; cases e
    subst hl0
    have hq : ∀ w, (binOp .eql 24 (.slice none 0 cap) (.slice none 0 0)).run Try.prog w = .ok (.bool true) w := fun w => Lib.run_eql_slice_nil (P := Try.prog) w 24 3 none 0 cap 0 0 Try.underlying24
    clear hs
    go_enter Try.func84, Try.ntmps84
    go_wp2
    try go_ret
    exact hD.out _ _ ⟨.slice none 0 0, rfl, World.ownsRow_nil _ _ _ _, Below.refl _ _⟩
  · have hq : ∀ w, (binOp .eql 24 (.slice (some ad) l.length cap) (.slice none 0 0)).run Try.prog w = .ok (.bool false) w := fun w => Lib.run_eql_slice_nil (P := Try.prog) w 24 3 (some ad) l.length cap 0 0 Try.underlying24
    have HS : Hid (∀ W, Below w.heap.size w W → Sl i64 W (some ad) l) := fun W h => hs.stay h
    have hm := Lib.hid (World.ownsRow_made (base := w.heap.size) (e := 3) (size := 1) w #[] 0 (Nat.le_refl _) (Nat.zero_le _) rfl)
    have hD' : Hid (∀ v w', w'.ownsRow w.heap.size 3 1 v (0 + l.length) ([] ++ l.map i64) → (w.alloc (.cells #[] 3)).grownBy w' (some w.heap.size) → D (.returned v) w') := fun v w' h1 h2 =>
      hD.out _ _ ⟨v, rfl, by simpa using h1, (((Below.refl _ _).alloc (Nat.le_refl _) _).grown h2 (by simp) (fun k hk => by injection hk with hk; omega))⟩
    obtain ⟨n, hn⟩ : ∃ n, n = l.length := ⟨_, rfl⟩
    have HN := Lib.hid hn
    rw [← hn] at hq ⊢
    have hl' := hl
    rw [← hn] at hl'
    clear hs hn hD
    go_enter Try.func84, Try.ntmps84
    go_wp2_with (at_builtin; refine wpList_append_list rfl _ _ 24 rfl w.heap.size 3 (.int .i64 0) 8 Try.underlying24 info_int rfl (by omega) (.slice (some ⟨w.heap.size, 0, none⟩) 0 0) 0 [] rfl hm.out i64 (some ad) l n cap HN.out rfl (HS.out _ ((Below.refl _ _).alloc (Nat.le_refl _) _)) (fun _ => rfl) (by omega) (by simp) ?_; intro v' w' h1 h2 h3; have H1 := Lib.hid h1; have H2 := Lib.hid h2; clear h1 h2 h3)
    try go_ret
    exact hD'.out _ _ H1.out H2.out


set_option maxHeartbeats 2000000 in
/-- a copy of a chain: nodes of its own -/
theorem copied_any (ep : Int) (A : Option Addr) (cap : Nat) (l : List Int) (w : World) (hl : l.length ≤ 1000000000000) (hs : Sl i64 w A l) :
    Calls Try.prog 46 #[.agg #[.int .i64 ep, .slice A l.length cap]] w fun e w' => ∃ v, e = .returned (.agg #[.int .i64 ep, v]) ∧ w'.ownsRow w.heap.size 3 1 v l.length (l.map i64) ∧ Below w.heap.size w w' := by
  refine hide_post fun D hD => ?_
  obtain ⟨w0, hw0⟩ : ∃ w0, w0 = (w.alloc (.cells #[.int .i64 ep, .slice A l.length cap] 26)).alloc (.cells #[.int .i64 0, .slice none 0 0] 26) := ⟨_, rfl⟩
  have hb0 : Ext w w0 := by rw [hw0]; exact ((Below.refl _ _).alloc (Nat.le_refl _) _).alloc (by simp) _
  have K0 : Hid (Blk w0 w.heap.size 26 #[.int .i64 ep, .slice A l.length cap]) := by show Blk _ _ _ _; rw [hw0]; exact (Blk.new _ _ _).alloc _
  have K1 : Hid (Blk w0 (w.heap.size + 1) 26 #[.int .i64 0, .slice none 0 0]) := by show Blk _ _ _ _; rw [hw0]; exact Blk.new' _ _ _ _ (by simp)
  have HC : Hid (Calls Try.prog 84 #[.slice A l.length cap] w0 fun e w' => ∃ v, e = .returned v ∧ w'.ownsRow w0.heap.size 3 1 v l.length (l.map i64) ∧ Ext w0 w') := cloneI_any A cap l w0 hl (hs.stay hb0)
  have HB := Lib.hid hb0
  have HW := Lib.hid hw0
  clear hb0 hw0 hs
  go_enter Try.func46, Try.ntmps46
  go_wp2_with (go_at_call 84; rw [← HW.out]; (with_reducible refine HC.out.mono ?_); rintro e w1 ⟨v, rfl, ho, hx⟩; obtain ⟨A', c', rfl⟩ := own_shape ho; have c0 := (K0.out.stay hx).cell 0; have c1 := (K0.out.stay hx).cell 1; have f1 := (K0.out.stay hx).frozen 1; have d0 := (K1.out.stay hx).cell 0; have d1 := (K1.out.stay hx).cell 1; have g0 := (K1.out.stay hx).frozen 0; have g1 := (K1.out.stay hx).frozen 1; have HO := Lib.hid ho; have HX := Lib.hid hx; clear ho hx)
  have hlt : w0.heap.size = w.heap.size + 1 + 1 := by have h1 := HW.out; rw [h1]; simp
  have KA := Lib.hid ((((K1.out.stay HX.out).far (p := ⟨w.heap.size, 1, none⟩) (show w.heap.size + 1 ≠ w.heap.size by omega) (.slice A' l.length c')).set 0 (.int .i64 ep)).set 1 (.slice A' l.length c'))
  have HF : Hid (Frm (fun k => k = w.heap.size ∨ k = w.heap.size + 1) w1 (((w1.setCell ⟨w.heap.size, 1, none⟩ (.slice A' l.length c')).setCell ⟨w.heap.size + 1, 0, none⟩ (.int .i64 ep)).setCell ⟨w.heap.size + 1, 1, none⟩ (.slice A' l.length c'))) := Frm.tr (Frm.tr (Frm.of_set _ _ _ (Or.inl rfl)) (Frm.of_set _ _ _ (Or.inr rfl))) (Frm.of_set _ _ _ (Or.inr rfl))
  have hcA := KA.out.cell 0
  have hcB := KA.out.cell 1
  have hE := hD.out (.returned (.agg #[.int .i64 ep, .slice A' l.length c'])) _ ⟨_, rfl, own_base (base' := w.heap.size) (own_frm HO.out HF.out (fun k hk => by have := (HO.out.lt k hk).1; rintro (e | e) <;> omega)) (fun k hk => by have := (HO.out.lt k hk).1; omega), Frm.step (Ext.trans HB.out HX.out) HF.out (Ext.trans HB.out HX.out).size (by rintro k (e | e) <;> omega)⟩
  exact bodyPost_ret (v := .agg #[.int .i64 ep, .slice A' l.length c']) (by simp [results, Try.results46, go_sem, hcA, hcB]) rfl hE

theorem add_no (P j : Nat) (A : Option Addr) (cap : Nat) (l : List Int) (x : Int) (w : World) (hl : l.length ≤ 1000000000000) (hv : w.cell? ⟨P, j, none⟩ = some (.slice A l.length cap)) (hs : Sl i64 w A l) (hx : x ∈ l) :
    Calls Try.prog 47 #[.pointer (some ⟨P, j, none⟩), .int .i64 x] w fun e w' => e = .returned (.bool false) ∧ w = w' := by
  have HC : Hid (Calls Try.prog 83 #[.slice A l.length cap, .int .i64 x] w fun e w' => e = .returned (.bool true) ∧ w = w') := by
    have := contains_any A cap l x w (by omega) hs
    rw [decide_eq_true hx] at this
    exact this
  clear hs hx
  generalize l.length = n at *
  go_enter Try.func47, Try.ntmps47
  go_wp2_with (go_at_call 83; (with_reducible refine HC.out.mono ?_); rintro e w1 ⟨rfl, rfl⟩)
  go_ret
  exact ⟨rfl, rfl⟩

set_option maxHeartbeats 2000000 in
theorem add_yes (base P j : Nat) (t : TypeId) (cs : Array Value) (v : Value) (l : List Int) (x : Int) (w : World) (hB : Blk w P t cs) (hj : cs[j]? = some v) (ho : w.ownsRow base 3 1 v l.length (l.map i64)) (hne : some P ≠ v.ownBlock) (hx : ¬ x ∈ l) (hl : l.length ≤ 1000000) (hb : base ≤ w.heap.size) :
    Calls Try.prog 47 #[.pointer (some ⟨P, j, none⟩), .int .i64 x] w fun e w' => e = .returned (.bool true) ∧ ∃ v', Blk w' P t (cs.setIfInBounds j v') ∧ w'.ownsRow base 3 1 v' (l ++ [x]).length ((l ++ [x]).map i64) ∧
      Frm (fun k => k = P ∨ some k = v.ownBlock) w w' ∧ (v'.ownBlock = v.ownBlock ∨ ∃ k, v'.ownBlock = some k ∧ w.heap.size ≤ k) := by
  refine hide_post fun D hD => ?_
  obtain ⟨A, cap, rfl, hs⟩ := own_view ho
  have hc : w.cell? ⟨P, j, none⟩ = some (.slice A l.length cap) := (hB.cell j).trans hj
  have HC : Hid (Calls Try.prog 83 #[.slice A l.length cap, .int .i64 x] w fun e w' => e = .returned (.bool false) ∧ w = w') := by
    have := contains_any A cap l x w (by omega) hs
    rw [decide_eq_false hx] at this
    exact this
  have hlt : P < w.heap.size := hB.lt
  have HB := Lib.hid hB
  have HJ := Lib.hid hj
  have HO := Lib.hid ho
  have HNE := Lib.hid hne
  clear hs hx hB hj ho hne
  have HN : Hid (l.length = l.length) := rfl
  go_enter Try.func47, Try.ntmps47
  go_wp2_with (first
    | (go_at_call 83; (with_reducible refine HC.out.mono ?_); rintro e w1 ⟨rfl, rfl⟩)
    | (at_builtin; refine wpList_append_list rfl _ _ 24 rfl base 3 (.int .i64 0) 8 Try.underlying24 info_int rfl (by omega) (.slice A l.length cap) l.length (l.map i64) rfl (HO.out.alloc _) i64 (some ⟨w.heap.size, 0, none⟩) [x] 1 1 rfl rfl (Sl.of_blk (Blk.new w 3 #[.int .i64 x]) (fun j v hj => by match j, hj with | 0, hj => (simp at hj; subst hj; rfl))) (fun _ => rfl) (by simp; omega) (by simp; omega) ?_; intro v' w' h1 h2 h3; obtain ⟨A', c', rfl⟩ := own_shape h1; have q0 := ((HB.out.alloc (.cells #[.int .i64 x] 3)).grown h2 HNE.out).cell j; (rw [HJ.out] at q0); have q1 := ((HB.out.alloc (.cells #[.int .i64 x] 3)).grown h2 HNE.out).frozen j; have H1 := Lib.hid h1; have H2 := Lib.hid h2; have H3 := Lib.hid h3; clear h1 h2 h3))
  try go_ret
  have k1 : w'.ownsRow base 3 1 (.slice A' (l.length + 1) c') (l ++ [x]).length ((l ++ [x]).map i64) := by simpa using H1.out
  have kk : ∀ k, Value.ownBlock (.slice A' (l.length + 1) c') = some k → ¬ k = P := fun k hk e => by
    subst e
    rcases H3.out with h | ⟨k', h, hk'⟩
    · exact HNE.out (hk.symm.trans h)
    · have h5 := hk.symm.trans h; injection h5 with h5; subst h5; simp at hk'; omega
  have hB2 := ((HB.out.alloc (.cells #[.int .i64 x] 3)).grown H2.out HNE.out).set j (.slice A' (l.length + 1) c')
  refine hD.out _ _ ⟨rfl, .slice A' (l.length + 1) c', hB2, own_frm k1 (Frm.of_set (s := fun k => k = P) _ _ _ rfl) kk, ?_, ?_⟩
  · exact Frm.tr (Frm.tr (Frm.of_alloc _ _ _) (Frm.of_grown H2.out (fun k hk => Or.inr hk))) (Frm.of_set _ _ _ (Or.inl rfl))
  · rcases H3.out with h | ⟨k', h, hk'⟩
    · exact Or.inl h
    · exact Or.inr ⟨k', h, by simp at hk'; omega⟩
end Go.Proofs.Ytkdcbidbciognaa
