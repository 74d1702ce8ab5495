/-
  Lists of acts that are the same (law 22).
-/
import Derived.Test.YtnionfddejaalaaPastSame
import Derived.Test.YtnionfddejaalaaHeld
namespace Go.Proofs.Ytnionfddejaalaa
set_option linter.unusedVariables false
set_option linter.unusedSimpArgs false
open Go.RowKit

set_option maxRecDepth 8000 in
set_option maxHeartbeats 16000000 in
theorem acts_eq (A B : Option Addr) (c1 c2 : Nat) (L M : List At) (w : World) (hl : L.length ≤ 1000000) (hr : ∀ t ∈ L, t.x.r.l.length ≤ 9223372036854775807) (hLM : L.map At.x = M.map At.x) (hA : Acs w A L) (hB : Acs w B M) :
    Calls Try.prog 18 #[.slice A L.length c1, .slice B M.length c2] w fun e w' => e = .returned (.bool true) ∧ Ext w w' := by
  refine hide_post fun D hD => ?_
  have hlen : M.length = L.length := by have := congrArg List.length hLM; simpa using this.symm
  rw [hlen]
  obtain ⟨n, hn⟩ : ∃ n, n = L.length := ⟨_, rfl⟩
  rw [← hn] at hl ⊢
  have HN := Lib.hid hn
  have HA := Lib.hid hA
  have HB := Lib.hid hB
  have HLM := Lib.hid hLM
  have HR := Lib.hid hr
  have HLN := Lib.hid hlen
  clear hA hB hn hLM hr hlen
  go_enter Try.func18, Try.ntmps18
  go_wp2
  go_loopw [5] (fun i wr => ∃ (j : Nat), j ≤ n ∧ i = .int .i64 j ∧ Hid (Ext w wr)) (fun i _ => n - (intOf i).toNat)
  case atStart => exact ⟨0, by omega, rfl, Ext.refl _⟩
  case round =>
    obtain ⟨j, hj, rfl, HX⟩ := hrel
    by_cases hlt : j < n
    · obtain ⟨t, ht⟩ : ∃ t, L[j]? = some t := ⟨_, List.getElem?_eq_getElem (by rw [← HN.out]; exact hlt)⟩
      obtain ⟨u, hu⟩ : ∃ u, M[j]? = some u := ⟨_, List.getElem?_eq_getElem (by rw [HLN.out, ← HN.out]; exact hlt)⟩
      have hx : t.x = u.x := by
        have h1 := congrArg (fun l => l[j]?) HLM.out
        simp only [List.getElem?_map, ht, hu, Option.map_some, Option.some.injEq] at h1
        exact h1
      obtain ⟨b, o, rfl, hc, hsa⟩ := HA.out j t ht
      obtain ⟨b', o', rfl, hc', hsb⟩ := HB.out j u hu
      have hrl := HR.out t (List.mem_of_getElem? ht)
      obtain ⟨tx, tA, tc⟩ := t
      obtain ⟨ux, uA, uc⟩ := u
      simp only at hx hc hc' hsa hsb hrl
      subst hx
      obtain ⟨cl, sq, ans, ⟨qc, qs, qk, qi, qm, qd⟩, ⟨rc, rv, rd, rl⟩, at9⟩ := tx
      simp only at hsa hsb hrl
      obtain ⟨rn, hrn⟩ : ∃ r, r = rl.length := ⟨_, rfl⟩
      have CS : Hid (∀ V, Ext w V → Calls Try.prog 39 #[.agg #[.int .i64 cl, .int .i64 sq, .bool ans, .int .i64 qc, .int .i64 qs, .int .i64 qk, .int .i64 qi, .int .i64 qm, .string qd, .int .i64 rc, .int .i64 rv, .string rd, .slice tA rn tc, .int .i64 at9], .agg #[.int .i64 cl, .int .i64 sq, .bool ans, .int .i64 qc, .int .i64 qs, .int .i64 qk, .int .i64 qi, .int .i64 qm, .string qd, .int .i64 rc, .int .i64 rv, .string rd, .slice uA rn uc, .int .i64 at9]] V fun e w' => e = .returned (.bool true) ∧ Ext V w') := fun V h => by
        have h7 := refSame_any cl sq ans qc qs qk qi qm qd rc rv rd rl at9 cl sq ans qc qs qk qi qm qd rc rv rd rl at9 tA uA tc uc V hrl hrl (hsa.stay h) (hsb.stay h)
        rw [(sameAc_iff _ _).2 rfl, ← hrn] at h7
        exact h7
      have q0 : w.cell? _ = some (.int .i64 cl) := hc 0 (by decide)
      have p0 : w.cell? _ = some (.int .i64 cl) := hc' 0 (by decide)
      have q1 : w.cell? _ = some (.int .i64 sq) := hc 1 (by decide)
      have p1 : w.cell? _ = some (.int .i64 sq) := hc' 1 (by decide)
      have q2 : w.cell? _ = some (.bool ans) := hc 2 (by decide)
      have p2 : w.cell? _ = some (.bool ans) := hc' 2 (by decide)
      have q3 : w.cell? _ = some (.int .i64 qc) := hc 3 (by decide)
      have p3 : w.cell? _ = some (.int .i64 qc) := hc' 3 (by decide)
      have q4 : w.cell? _ = some (.int .i64 qs) := hc 4 (by decide)
      have p4 : w.cell? _ = some (.int .i64 qs) := hc' 4 (by decide)
      have q5 : w.cell? _ = some (.int .i64 qk) := hc 5 (by decide)
      have p5 : w.cell? _ = some (.int .i64 qk) := hc' 5 (by decide)
      have q6 : w.cell? _ = some (.int .i64 qi) := hc 6 (by decide)
      have p6 : w.cell? _ = some (.int .i64 qi) := hc' 6 (by decide)
      have q7 : w.cell? _ = some (.int .i64 qm) := hc 7 (by decide)
      have p7 : w.cell? _ = some (.int .i64 qm) := hc' 7 (by decide)
      have q8 : w.cell? _ = some (.string qd) := hc 8 (by decide)
      have p8 : w.cell? _ = some (.string qd) := hc' 8 (by decide)
      have q9 : w.cell? _ = some (.int .i64 rc) := hc 9 (by decide)
      have p9 : w.cell? _ = some (.int .i64 rc) := hc' 9 (by decide)
      have q10 : w.cell? _ = some (.int .i64 rv) := hc 10 (by decide)
      have p10 : w.cell? _ = some (.int .i64 rv) := hc' 10 (by decide)
      have q11 : w.cell? _ = some (.string rd) := hc 11 (by decide)
      have p11 : w.cell? _ = some (.string rd) := hc' 11 (by decide)
      have q12 : w.cell? _ = some (.slice tA rl.length tc) := hc 12 (by decide)
      have p12 : w.cell? _ = some (.slice uA rl.length uc) := hc' 12 (by decide)
      have q13 : w.cell? _ = some (.int .i64 at9) := hc 13 (by decide)
      have p13 : w.cell? _ = some (.int .i64 at9) := hc' 13 (by decide)
      rw [← hrn] at q12 p12
      simp only [Nat.add_zero] at q0 p0
      have y0 : ∀ W, Ext w W → W.cell? _ = _ := fun W h => cell_stay h q0
      have x0 : ∀ W, Ext w W → W.cell? _ = _ := fun W h => cell_stay h p0
      have y1 : ∀ W, Ext w W → W.cell? _ = _ := fun W h => cell_stay h q1
      have x1 : ∀ W, Ext w W → W.cell? _ = _ := fun W h => cell_stay h p1
      have y2 : ∀ W, Ext w W → W.cell? _ = _ := fun W h => cell_stay h q2
      have x2 : ∀ W, Ext w W → W.cell? _ = _ := fun W h => cell_stay h p2
      have y3 : ∀ W, Ext w W → W.cell? _ = _ := fun W h => cell_stay h q3
      have x3 : ∀ W, Ext w W → W.cell? _ = _ := fun W h => cell_stay h p3
      have y4 : ∀ W, Ext w W → W.cell? _ = _ := fun W h => cell_stay h q4
      have x4 : ∀ W, Ext w W → W.cell? _ = _ := fun W h => cell_stay h p4
      have y5 : ∀ W, Ext w W → W.cell? _ = _ := fun W h => cell_stay h q5
      have x5 : ∀ W, Ext w W → W.cell? _ = _ := fun W h => cell_stay h p5
      have y6 : ∀ W, Ext w W → W.cell? _ = _ := fun W h => cell_stay h q6
      have x6 : ∀ W, Ext w W → W.cell? _ = _ := fun W h => cell_stay h p6
      have y7 : ∀ W, Ext w W → W.cell? _ = _ := fun W h => cell_stay h q7
      have x7 : ∀ W, Ext w W → W.cell? _ = _ := fun W h => cell_stay h p7
      have y8 : ∀ W, Ext w W → W.cell? _ = _ := fun W h => cell_stay h q8
      have x8 : ∀ W, Ext w W → W.cell? _ = _ := fun W h => cell_stay h p8
      have y9 : ∀ W, Ext w W → W.cell? _ = _ := fun W h => cell_stay h q9
      have x9 : ∀ W, Ext w W → W.cell? _ = _ := fun W h => cell_stay h p9
      have y10 : ∀ W, Ext w W → W.cell? _ = _ := fun W h => cell_stay h q10
      have x10 : ∀ W, Ext w W → W.cell? _ = _ := fun W h => cell_stay h p10
      have y11 : ∀ W, Ext w W → W.cell? _ = _ := fun W h => cell_stay h q11
      have x11 : ∀ W, Ext w W → W.cell? _ = _ := fun W h => cell_stay h p11
      have y12 : ∀ W, Ext w W → W.cell? _ = _ := fun W h => cell_stay h q12
      have x12 : ∀ W, Ext w W → W.cell? _ = _ := fun W h => cell_stay h p12
      have y13 : ∀ W, Ext w W → W.cell? _ = _ := fun W h => cell_stay h q13
      have x13 : ∀ W, Ext w W → W.cell? _ = _ := fun W h => cell_stay h p13
      clear hc hc' ht hu hsa hsb hrl hrn q0 p0 q1 p1 q2 p2 q3 p3 q4 p4 q5 p5 q6 p6 q7 p7 q8 p8 q9 p9 q10 p10 q11 p11 q12 p12 q13 p13
      have hj1 : (j : Int) < (n : Int) := by omega
      have hj0 : (0 : Int) ≤ (j : Int) := by omega
      go_wp2
      refine ext_begin (by kernel_rfl) ?_
      have HXd := Lib.hid (Ext.drewR HX.out)
      refine ext_take (i := 0) (v := ?_) rfl (by kernel_rfl) (by kernel_rfl) (by kernel_rfl) (fun _ _ _ h => h) (by rfl) ?_ ?_
      rotate_left
      · intro W hW; have hW0 := Ext.trans HXd.out hW; clear hW; go_simp <;> with_reducible rfl
      try simp only [Act.put, List.setIfInBounds_toArray, List.set_cons_zero, List.set_cons_succ]
      refine ext_take (i := 1) (v := ?_) rfl (by kernel_rfl) (by kernel_rfl) (by kernel_rfl) (fun _ _ _ h => h) (by rfl) ?_ ?_
      rotate_left
      · intro W hW; have hW0 := Ext.trans HXd.out hW; clear hW; go_simp <;> with_reducible rfl
      try simp only [Act.put, List.setIfInBounds_toArray, List.set_cons_zero, List.set_cons_succ]
      refine ext_take (i := 2) (v := ?_) rfl (by kernel_rfl) (by kernel_rfl) (by kernel_rfl) (fun _ _ _ h => h) (by rfl) ?_ ?_
      rotate_left
      · intro W hW; have hW0 := Ext.trans HXd.out hW; clear hW; go_simp <;> with_reducible rfl
      try simp only [Act.put, List.setIfInBounds_toArray, List.set_cons_zero, List.set_cons_succ]
      refine ext_take (i := 3) (v := ?_) rfl (by kernel_rfl) (by kernel_rfl) (by kernel_rfl) (fun _ _ _ h => h) (by rfl) ?_ ?_
      rotate_left
      · intro W hW; have hW0 := Ext.trans HXd.out hW; clear hW; go_simp <;> with_reducible rfl
      try simp only [Act.put, List.setIfInBounds_toArray, List.set_cons_zero, List.set_cons_succ]
      refine ext_take (i := 4) (v := ?_) rfl (by kernel_rfl) (by kernel_rfl) (by kernel_rfl) (fun _ _ _ h => h) (by rfl) ?_ ?_
      rotate_left
      · intro W hW; have hW0 := Ext.trans HXd.out hW; clear hW; go_simp <;> with_reducible rfl
      try simp only [Act.put, List.setIfInBounds_toArray, List.set_cons_zero, List.set_cons_succ]
      refine ext_take (i := 5) (v := ?_) rfl (by kernel_rfl) (by kernel_rfl) (by kernel_rfl) (fun _ _ _ h => h) (by rfl) ?_ ?_
      rotate_left
      · intro W hW; have hW0 := Ext.trans HXd.out hW; clear hW; go_simp <;> with_reducible rfl
      try simp only [Act.put, List.setIfInBounds_toArray, List.set_cons_zero, List.set_cons_succ]
      refine ext_take (i := 6) (v := ?_) rfl (by kernel_rfl) (by kernel_rfl) (by kernel_rfl) (fun _ _ _ h => h) (by rfl) ?_ ?_
      rotate_left
      · intro W hW; have hW0 := Ext.trans HXd.out hW; clear hW; go_simp <;> with_reducible rfl
      try simp only [Act.put, List.setIfInBounds_toArray, List.set_cons_zero, List.set_cons_succ]
      refine ext_take (i := 7) (v := ?_) rfl (by kernel_rfl) (by kernel_rfl) (by kernel_rfl) (fun _ _ _ h => h) (by rfl) ?_ ?_
      rotate_left
      · intro W hW; have hW0 := Ext.trans HXd.out hW; clear hW; go_simp <;> with_reducible rfl
      try simp only [Act.put, List.setIfInBounds_toArray, List.set_cons_zero, List.set_cons_succ]
      refine ext_call (i := 8) rfl (by kernel_rfl) (by rfl) (fun K' hK => ?_)
      go_simp
      (go_at_call 39; (with_reducible refine (CS.out _ HXd.out).mono ?_); rintro e w1 ⟨rfl, hx⟩; refine hK _ _ hx ?_; clear hK)
      have Ew1 := Lib.hid (Ext.trans HXd.out hx)
      clear hx
      try simp only [Act.put, List.setIfInBounds_toArray, List.set_cons_zero, List.set_cons_succ]
      refine ext_take (i := 9) (v := ?_) rfl (by kernel_rfl) (by kernel_rfl) (by kernel_rfl) (fun _ _ _ h => h) (by rfl) ?_ ?_
      rotate_left
      · intro W hW; have hW0 := Ext.trans Ew1.out hW; clear hW; go_simp <;> with_reducible rfl
      try simp only [Act.put, List.setIfInBounds_toArray, List.set_cons_zero, List.set_cons_succ]
      refine wpAnyH_done (by kernel_rfl) ?_ _
      clear y0 x0 y1 x1 y2 x2 y3 x3 y4 x4 y5 x5 y6 x6 y7 x7 y8 x8 y9 x9 y10 x10 y11 x11 y12 x12 y13 x13
      go_wp2
      go_roundw
      case rel => exact ⟨j + 1, by omega, by go_num, Ew1⟩
      case measure => simp [intOf]; omega
    · have h3 : ¬ (j : Int) < (n : Int) := by omega
      go_wp2
      try go_ret
      exact hD.out _ _ ⟨rfl, HX.out⟩

end Go.Proofs.Ytnionfddejaalaa
