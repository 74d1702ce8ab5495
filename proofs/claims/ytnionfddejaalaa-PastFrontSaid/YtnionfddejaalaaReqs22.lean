/-
  Lists of requests that are the same (law 22).
-/
import Derived.Test.YtnionfddejaalaaPastPend
import Derived.Test.YtnionfddejaalaaHeld
namespace Go.Proofs.Ytnionfddejaalaa
set_option linter.unusedVariables false
set_option linter.unusedSimpArgs false
open Go.RowKit

theorem flatQ_length (a : List Rqv) : (flatQ a).length = a.length * 6 := by
  induction a with
  | nil => rfl
  | cons x r ih => simp [flatQ, qcells, ih]; omega
theorem flatQ_at (l : List Rqv) : ∀ (j : Nat) (t : Rqv), l[j]? = some t → ∀ k, k < 6 → (flatQ l)[j * 6 + k]? = (qcells t)[k]? := by
  induction l with
  | nil => intro j x h; simp at h
  | cons y r ih =>
    intro j t h k hk
    have hl : (qcells y).toList.length = 6 := rfl
    cases j with
    | zero =>
      simp at h
      subst h
      rw [flatQ, List.getElem?_append_left (by omega)]
      simp
    | succ j =>
      rw [flatQ, List.getElem?_append_right (by omega), hl, show (j + 1) * 6 + k - 6 = j * 6 + k by omega]
      exact ih j t (by simpa using h) k hk
/-- a slice of requests reads as the list -/
def Rqs (w : World) (A : Option Addr) (L : List Rqv) : Prop :=
  ∀ (j : Nat) (t : Rqv), L[j]? = some t → ∃ b o, A = some ⟨b, o, none⟩ ∧ (∀ k, k < 6 → w.cell? ⟨b, o + j * 6 + k, none⟩ = (qcells t)[k]?)
theorem Rqs.stay {w w' : World} {A : Option Addr} {L : List Rqv} (h : Rqs w A L) (hb : Ext w w') : Rqs w' A L := fun j t hj => by
  obtain ⟨b, o, e, hc⟩ := h j t hj
  refine ⟨b, o, e, fun k hk => ?_⟩
  have h1 := hc k hk
  have h2 : ∃ v, (qcells t)[k]? = some v := ⟨(qcells t)[k]'(by show k < 6; exact hk), Array.getElem?_eq_getElem (by show k < 6; exact hk)⟩
  obtain ⟨v, hv⟩ := h2
  rw [hv] at h1 ⊢
  exact cell_stay hb h1
theorem ownQ_view {w : World} {base n : Nat} {v : Value} {L : List Rqv} (h : w.ownsRow base 29 6 v n (flatQ L)) : n = L.length ∧ ∃ A cap, v = .slice A n cap ∧ n ≤ cap ∧ Rqs w A L := by
  have h1 := h.1
  rw [flatQ_length] at h1
  have hn : n = L.length := by omega
  refine ⟨hn, ?_⟩
  rcases h.2 with ⟨rfl, hn0⟩ | ⟨g, cap, cur, rfl, _, hg, hc1, hc2, hcs, htake⟩
  · have : L = [] := List.eq_nil_of_length_eq_zero (by omega)
    subst this
    exact ⟨none, 0, by rw [hn0], by omega, fun j x hj => by simp at hj⟩
  · refine ⟨_, cap, rfl, by omega, fun j t hj => ⟨g, 0, rfl, fun k hk => ?_⟩⟩
    have hlt : j < L.length := (List.getElem?_eq_some_iff.1 hj).1
    have q := flatQ_at L j t hj k hk
    rw [← htake, List.getElem?_take, if_pos (by omega)] at q
    rw [Nat.zero_add, cell_of_row w g _ cur _ (0, 0) hg]
    simpa using q

set_option maxRecDepth 8000 in
set_option maxHeartbeats 8000000 in
theorem reqs_eq (A B : Option Addr) (c1 c2 : Nat) (l : List Rqv) (w : World) (hl : l.length ≤ 1000000) (hA : Rqs w A l) (hB : Rqs w B l) :
    Calls Try.prog 15 #[.slice A l.length c1, .slice B l.length c2] w fun e w' => e = .returned (.bool true) ∧ Ext w w' := by
  refine hide_post fun D hD => ?_
  obtain ⟨n, hn⟩ : ∃ n, n = l.length := ⟨_, rfl⟩
  rw [← hn] at hl ⊢
  have HN := Lib.hid hn
  have HA := Lib.hid hA
  have HB := Lib.hid hB
  clear hA hB hn
  go_enter Try.func15, Try.ntmps15
  go_wp2
  go_loopw [5] (fun i wr => ∃ (j : Nat), j ≤ n ∧ i = .int .i64 j ∧ Hid (Ext w wr)) (fun i _ => n - (intOf i).toNat)
  case atStart => exact ⟨0, by omega, rfl, Ext.refl _⟩
  case round =>
    obtain ⟨j, hj, rfl, HX⟩ := hrel
    by_cases hlt : j < n
    · obtain ⟨q, hq⟩ : ∃ q, l[j]? = some q := ⟨_, List.getElem?_eq_getElem (by rw [← HN.out]; exact hlt)⟩
      obtain ⟨b, o, rfl, hc⟩ := HA.out j q hq
      obtain ⟨b', o', rfl, hc'⟩ := HB.out j q hq
      obtain ⟨qc, qs, qk, qi, qm, qd⟩ := q
      have q0 := hc 0 (by decide)
      have p0 := hc' 0 (by decide)
      have q1 := hc 1 (by decide)
      have p1 := hc' 1 (by decide)
      have q2 := hc 2 (by decide)
      have p2 := hc' 2 (by decide)
      have q3 := hc 3 (by decide)
      have p3 := hc' 3 (by decide)
      have q4 := hc 4 (by decide)
      have p4 := hc' 4 (by decide)
      have q5 := hc 5 (by decide)
      have p5 := hc' 5 (by decide)
      simp [qcells] at q0 q1 q2 q3 q4 q5 p0 p1 p2 p3 p4 p5
      have y0 : ∀ W, Ext w W → W.cell? _ = _ := fun W h => cell_stay h q0
      have x0 : ∀ W, Ext w W → W.cell? _ = _ := fun W h => cell_stay h p0
      have y1 : ∀ W, Ext w W → W.cell? _ = _ := fun W h => cell_stay h q1
      have x1 : ∀ W, Ext w W → W.cell? _ = _ := fun W h => cell_stay h p1
      have y2 : ∀ W, Ext w W → W.cell? _ = _ := fun W h => cell_stay h q2
      have x2 : ∀ W, Ext w W → W.cell? _ = _ := fun W h => cell_stay h p2
      have y3 : ∀ W, Ext w W → W.cell? _ = _ := fun W h => cell_stay h q3
      have x3 : ∀ W, Ext w W → W.cell? _ = _ := fun W h => cell_stay h p3
      have y4 : ∀ W, Ext w W → W.cell? _ = _ := fun W h => cell_stay h q4
      have x4 : ∀ W, Ext w W → W.cell? _ = _ := fun W h => cell_stay h p4
      have y5 : ∀ W, Ext w W → W.cell? _ = _ := fun W h => cell_stay h q5
      have x5 : ∀ W, Ext w W → W.cell? _ = _ := fun W h => cell_stay h p5
      clear hc hc' hq q0 q1 q2 q3 q4 q5 p0 p1 p2 p3 p4 p5
      have hj1 : (j : Int) < (n : Int) := by omega
      have hj0 : (0 : Int) ≤ (j : Int) := by omega
      go_wp2
      refine ext_begin (by kernel_rfl) ?_
      have HXd := Lib.hid (Ext.drewR HX.out)
      refine ext_take (i := 0) (v := ?_) rfl (by kernel_rfl) (by kernel_rfl) (by kernel_rfl) (fun _ _ _ h => h) (by rfl) ?_ ?_
      rotate_left
      · intro W hW; have hW0 := Ext.trans HXd.out hW; clear hW; go_simp <;> with_reducible rfl
      try simp only [Act.put, List.setIfInBounds_toArray, List.set_cons_zero, List.set_cons_succ]
      refine ext_take (i := 1) (v := ?_) rfl (by kernel_rfl) (by kernel_rfl) (by kernel_rfl) (fun _ _ _ h => h) (by rfl) ?_ ?_
      rotate_left
      · intro W hW; have hW0 := Ext.trans HXd.out hW; clear hW; go_simp <;> with_reducible rfl
      try simp only [Act.put, List.setIfInBounds_toArray, List.set_cons_zero, List.set_cons_succ]
      refine ext_take (i := 2) (v := ?_) rfl (by kernel_rfl) (by kernel_rfl) (by kernel_rfl) (fun _ _ _ h => h) (by rfl) ?_ ?_
      rotate_left
      · intro W hW; have hW0 := Ext.trans HXd.out hW; clear hW; go_simp <;> with_reducible rfl
      try simp only [Act.put, List.setIfInBounds_toArray, List.set_cons_zero, List.set_cons_succ]
      refine ext_take (i := 3) (v := ?_) rfl (by kernel_rfl) (by kernel_rfl) (by kernel_rfl) (fun _ _ _ h => h) (by rfl) ?_ ?_
      rotate_left
      · intro W hW; have hW0 := Ext.trans HXd.out hW; clear hW; go_simp <;> with_reducible rfl
      try simp only [Act.put, List.setIfInBounds_toArray, List.set_cons_zero, List.set_cons_succ]
      refine ext_take (i := 4) (v := ?_) rfl (by kernel_rfl) (by kernel_rfl) (by kernel_rfl) (fun _ _ _ h => h) (by rfl) ?_ ?_
      rotate_left
      · intro W hW; have hW0 := Ext.trans HXd.out hW; clear hW; go_simp <;> with_reducible rfl
      try simp only [Act.put, List.setIfInBounds_toArray, List.set_cons_zero, List.set_cons_succ]
      refine ext_take (i := 5) (v := ?_) rfl (by kernel_rfl) (by kernel_rfl) (by kernel_rfl) (fun _ _ _ h => h) (by rfl) ?_ ?_
      rotate_left
      · intro W hW; have hW0 := Ext.trans HXd.out hW; clear hW; go_simp <;> with_reducible rfl
      try simp only [Act.put, List.setIfInBounds_toArray, List.set_cons_zero, List.set_cons_succ]
      refine ext_take (i := 6) (v := ?_) rfl (by kernel_rfl) (by kernel_rfl) (by kernel_rfl) (fun _ _ _ h => h) (by rfl) ?_ ?_
      rotate_left
      · intro W hW; have hW0 := Ext.trans HXd.out hW; clear hW; go_simp <;> with_reducible rfl
      try simp only [Act.put, List.setIfInBounds_toArray, List.set_cons_zero, List.set_cons_succ]
      refine ext_take (i := 7) (v := ?_) rfl (by kernel_rfl) (by kernel_rfl) (by kernel_rfl) (fun _ _ _ h => h) (by rfl) ?_ ?_
      rotate_left
      · intro W hW; have hW0 := Ext.trans HXd.out hW; clear hW; go_simp <;> with_reducible rfl
      try simp only [Act.put, List.setIfInBounds_toArray, List.set_cons_zero, List.set_cons_succ]
      refine ext_take (i := 8) (v := .bool false) rfl (by kernel_rfl) (by kernel_rfl) (by kernel_rfl) (fun _ _ _ h => h) (by rfl) ?_ ?_
      · intro W hW; have hW0 := Ext.trans HXd.out hW; clear hW; go_simp; all_goals (first | done | rfl)
      try simp only [Act.put, List.setIfInBounds_toArray, List.set_cons_zero, List.set_cons_succ]
      refine wpAnyH_done (by kernel_rfl) ?_ _
      clear y0 y1 y2 y3 y4 y5 x0 x1 x2 x3 x4 x5
      go_wp2
      go_roundw
      case rel => exact ⟨j + 1, by omega, by go_num, HXd⟩
      case measure => simp [intOf]; omega
    · have h3 : ¬ (j : Int) < (n : Int) := by omega
      go_wp2
      try go_ret
      exact hD.out _ _ ⟨rfl, HX.out⟩

end Go.Proofs.Ytnionfddejaalaa
