/-
  The walk of the law PastNobody.
-/
import Derived.Test.YtnionfddejaalaaTold22
import Derived.Test.YtnionfddejaalaaActReach
namespace Go.Proofs.Ytnionfddejaalaa
set_option linter.unusedVariables false
set_option linter.unusedSimpArgs false
open Go.RowKit Go.ChangeShapes Go.WideShapes Go.Joins Go.Deep

/-- acts that came in, as acts with their lists -/
def OpAct.at_' (x : OpAct) : At := ⟨⟨x.cl, x.sq, x.ans, ⟨x.qc, x.qs, x.qk, x.qi, x.qm, x.qd⟩, ⟨x.rc, x.rv, x.rd, x.rl⟩, x.at_⟩, x.rA, x.rcap⟩
theorem SoAct.acs {w : World} {A : Option Addr} {l : List OpAct} (h : SoAct w A l) : Acs w A (l.map OpAct.at_') := fun j t hj => by
  rw [List.getElem?_map] at hj
  obtain ⟨x, hx, rfl⟩ := Option.map_eq_some_iff.1 hj
  obtain ⟨b, o, e, hc, hs, _⟩ := h j x hx
  refine ⟨b, o, e, fun k hk => ?_, hs⟩
  rw [hc k hk, ← Array.getElem?_toList]
  rfl
theorem SoAct.oks {w : World} {A : Option Addr} {l : List OpAct} (h : SoAct w A l) : ∀ t ∈ l.map OpAct.at_', t.x.q.d.size ≤ maxLen := fun t ht => by
  obtain ⟨x, hx, rfl⟩ := List.mem_map.1 ht
  obtain ⟨j, hj⟩ := List.getElem?_of_mem hx
  obtain ⟨_, _, _, _, _, hok⟩ := h j x hj
  exact hok.2.2.2.2.2.2.2.1

open Classical in
set_option maxRecDepth 8000 in
set_option maxHeartbeats 8000000 in
theorem walk_pastNobody (A : Option Addr) (l : List OpAct) (cap : Nat) (w : World) (hcap : l.length ≤ cap) (hc63 : l.length ≤ 9223372036854775807) (hS : SoAct w A l) (hR : ∀ t ∈ l, t.rl.length ≤ 17592186043904) :
    Calls Try.prog 6 #[.slice A l.length cap] w fun e w' => e = .returned (.bool true) ∧ Below w.heap.size w w' := by
  refine hide_post fun D hD => ?_
  have CT : Hid (∀ V, Calls Try.prog 10 #[] V fun e w' => e = .returned (.bool true) ∧ Ext V w') := fun V => told22_any V
  have CN : Hid (∀ V, Calls Try.prog 8 #[] V fun e w' => e = .returned (.pointer (some ⟨V.heap.size, 0, none⟩)) ∧ PAt w' V.heap.size V.heap.size none .init ∧ Ext V w') := fun V => pastNew_any V.heap.size V (Nat.le_refl _)
  have CA : Hid (∀ b P V, PAt V b P none .init → Calls Try.prog 19 #[.pointer (some ⟨P, 0, none⟩)] V fun e w' => ∃ A c, e = .returned (.slice A 0 c) ∧ Ext V w') := fun b P V h => by
    refine (acts_any b P none .init V h (by decide) (fun a ha => by cases ha)).mono ?_
    rintro e w' ⟨A, c, L, he, hL, _, _, hx⟩
    have h0 : L.length = 0 := by have := congrArg List.length hL; rw [List.length_map] at this; exact this
    rw [h0] at he
    exact ⟨A, c, he, hx⟩
  have CP : Hid (∀ b P V, PAt V b P none .init → Calls Try.prog 16 #[.pointer (some ⟨P, 0, none⟩)] V fun e w' => ∃ A c, e = .returned (.slice A 0 c) ∧ Ext V w') := fun b P V h => by
    refine (pend_any b P none .init V h).mono ?_
    rintro e w' ⟨A, c, he, _, hx⟩
    have h0 : pendL Ps.init.wait 4 = [] := by kernel_rfl
    rw [h0] at he
    exact ⟨A, c, he, hx⟩
  have CM0 : Hid (∀ V, Calls Try.prog 20 #[.slice none 0 0] V fun e w' => e = .returned (.bool true) ∧ Ext V w') := fun V => by
    have h7 := may_any none 0 [] V (by decide) (fun t ht => by cases ht) (fun t ht => by cases ht) (fun j t hj => by simp at hj)
    rw [decide_eq_true (show mayF ([].map At.x) from ⟨_, rfl⟩)] at h7
    exact h7
  have CM : Hid (l.length ≤ 40 → ∀ V, Ext w V → Calls Try.prog 20 #[.slice A l.length cap] V fun e w' => e = .returned (.bool (decide (mayF ((l.map OpAct.at_').map At.x)))) ∧ Ext V w') := fun h V hV => by
    have h7 := may_any A cap (l.map OpAct.at_') V (by simp; omega) (fun t ht => by
      obtain ⟨x, hx, rfl⟩ := List.mem_map.1 ht
      exact hR x hx) hS.oks (hS.acs.stay hV)
    rw [List.length_map] at h7
    exact h7
  have HF : Hid (∀ x, l[0]? = some x → decide (mayF ((l.map OpAct.at_').map At.x)) = true → x.ans = false) := fun x hx hm => by
    rw [decide_eq_true_eq] at hm
    cases l with
    | nil => simp at hx
    | cons y l =>
      simp at hx
      subst hx
      exact may_first hm
  have HS := Lib.hid hS
  have HX0 : Hid (Ext w w) := Ext.refl _
  obtain ⟨n, hn⟩ : ∃ n, n = l.length := ⟨_, rfl⟩
  rw [← hn] at hcap hc63 CM ⊢
  have HN := Lib.hid hn
  clear hS hR hn
  by_cases h40 : 40 < n
  · have i40 : (40 : Int) < (n : Int) := by omega
    go_enter Try.func6, Try.ntmps6
    go_wp2_with (go_at_call 10; (with_reducible refine (CT.out _).mono ?_); rintro e w1 ⟨rfl, hx⟩; have X1 := Lib.hid hx; clear hx)
    try go_ret
    exact hD.out _ _ ⟨rfl, X1.out⟩
  have CM := Lib.hid (CM.out (by omega))
  have i40 : ¬ (40 : Int) < (n : Int) := by omega
  by_cases hn0 : n = 0
  · subst hn0
    go_enter Try.func6, Try.ntmps6
    go_wp2_with (first
      | (go_at_call 8; (with_reducible refine (CN.out _).mono ?_); rintro e w1 ⟨rfl, hp, hx⟩; have X1 := Lib.hid hx; have HP1 := Lib.hid hp; clear hx hp)
      | (go_at_call 10; (with_reducible refine (CT.out _).mono ?_); rintro e w2 ⟨rfl, hx⟩; have X2 := Lib.hid (Ext.trans X1.out hx); have HP2 := Lib.hid (HP1.out.stay hx); clear hx)
      | (go_at_call 19; (with_reducible refine (CA.out _ _ _ HP2.out).mono ?_); rintro e w3 ⟨A3, c3, rfl, hx⟩; have X3 := Lib.hid (Ext.trans X2.out hx); have HP3 := Lib.hid (HP2.out.stay hx); clear hx)
      | (go_at_call 16; (with_reducible refine (CP.out _ _ _ HP3.out).mono ?_); rintro e w4 ⟨A4, c4, rfl, hx⟩; have X4 := Lib.hid (Ext.trans X3.out hx); clear hx)
      | (go_at_call 20; (with_reducible refine (CM0.out _).mono ?_); rintro e w5 ⟨rfl, hx⟩; have X5 := Lib.hid (Ext.trans X4.out hx); clear hx))
    try go_ret
    exact hD.out _ _ ⟨rfl, X5.out⟩
  · obtain ⟨x, hx⟩ : ∃ x, l[0]? = some x := ⟨_, List.getElem?_eq_getElem (by rw [← HN.out]; omega)⟩
    obtain ⟨b, o, rfl, hc, _⟩ := HS.out 0 x hx
    have c2 : ∀ V, Ext w V → V.cell? ⟨b, o + 2, none⟩ = some (.bool x.ans) := fun V h => by
      have h1 := hc 2 (by decide)
      rw [Nat.zero_mul, Nat.add_zero] at h1
      exact cell_stay h h1
    have HF := Lib.hid (HF.out x hx)
    have hb0 : (((n : Int)) == 0) = false := by simp; omega
    have hpos : (0 : Int) < (n : Int) := by omega
    clear hx hc
    generalize hq : decide (mayF ((l.map OpAct.at_').map At.x)) = q at *
    clear hq
    cases q with
    | false =>
      go_enter Try.func6, Try.ntmps6
      go_wp2_with (first
        | (go_at_call 8; (with_reducible refine (CN.out _).mono ?_); rintro e w1 ⟨rfl, hp, hx⟩; have X1 := Lib.hid hx; have HP1 := Lib.hid hp; clear hx hp)
        | (go_at_call 10; (with_reducible refine (CT.out _).mono ?_); rintro e w2 ⟨rfl, hx⟩; have X2 := Lib.hid (Ext.trans X1.out hx); have HP2 := Lib.hid (HP1.out.stay hx); clear hx)
        | (go_at_call 19; (with_reducible refine (CA.out _ _ _ HP2.out).mono ?_); rintro e w3 ⟨A3, c3, rfl, hx⟩; have X3 := Lib.hid (Ext.trans X2.out hx); have HP3 := Lib.hid (HP2.out.stay hx); clear hx)
        | (go_at_call 16; (with_reducible refine (CP.out _ _ _ HP3.out).mono ?_); rintro e w4 ⟨A4, c4, rfl, hx⟩; have X4 := Lib.hid (Ext.trans X3.out hx); clear hx)
        | (go_at_call 20; (with_reducible refine (CM0.out _).mono ?_); rintro e w5 ⟨rfl, hx⟩; have X5 := Lib.hid (Ext.trans X4.out hx); clear hx)
        | (go_at_call 20; (with_reducible refine (CM.out _ X5.out).mono ?_); rintro e w6 ⟨rfl, hx⟩; have X6 := Lib.hid (Ext.trans X5.out hx); clear hx))
      try go_ret
      exact hD.out _ _ ⟨rfl, X6.out⟩
    | true =>
      have hxa : x.ans = false := HF.out rfl
      rw [hxa] at c2
      go_enter Try.func6, Try.ntmps6
      go_wp2_with (first
        | (go_at_call 8; (with_reducible refine (CN.out _).mono ?_); rintro e w1 ⟨rfl, hp, hx⟩; have X1 := Lib.hid hx; have HP1 := Lib.hid hp; clear hx hp)
        | (go_at_call 10; (with_reducible refine (CT.out _).mono ?_); rintro e w2 ⟨rfl, hx⟩; have X2 := Lib.hid (Ext.trans X1.out hx); have HP2 := Lib.hid (HP1.out.stay hx); clear hx)
        | (go_at_call 19; (with_reducible refine (CA.out _ _ _ HP2.out).mono ?_); rintro e w3 ⟨A3, c3, rfl, hx⟩; have X3 := Lib.hid (Ext.trans X2.out hx); have HP3 := Lib.hid (HP2.out.stay hx); clear hx)
        | (go_at_call 16; (with_reducible refine (CP.out _ _ _ HP3.out).mono ?_); rintro e w4 ⟨A4, c4, rfl, hx⟩; have X4 := Lib.hid (Ext.trans X3.out hx); clear hx)
        | (go_at_call 20; (with_reducible refine (CM0.out _).mono ?_); rintro e w5 ⟨rfl, hx⟩; have X5 := Lib.hid (Ext.trans X4.out hx); clear hx)
        | (go_at_call 20; (with_reducible refine (CM.out _ X5.out).mono ?_); rintro e w6 ⟨rfl, hx⟩; have X6 := Lib.hid (Ext.trans X5.out hx); have d2 := c2 _ X6.out; clear hx))
      try go_ret
      exact hD.out _ _ ⟨rfl, X6.out⟩

set_option maxRecDepth 100000 in
theorem law_pastNobody {H : Type} {enc : TypeId × Value → H} (W : World) (base : Nat) (args : Array Value) (ds : List (DataW H)) (p : List MemPlace)
    (hval : ∀ (j : Nat) t v, Try.f6.params[j]? = some t → args[j]? = some v → Value.okWide Try.prog W .any base t v)
    (hA : DataW.TrodAll enc Try.prog W 0 (fun _ => true) true Try.f6.params.toList args.toList ds p)
    (hsz : (DataW.weightsEach Try.prog Try.f6.params.toList ds).all (· ≤ reachBytes) = true) :
    Calls Try.prog 6 args W fun e W' => e = .returned (.bool true) ∧ Below W.heap.size W W' := by
  rw [Try.params6] at hA hval hsz
  obtain ⟨v0, vs0, d0, ds0, p0, q0, hargs, rfl, rfl, h0, r0⟩ := trodAll_cons hA
  obtain ⟨rfl, rfl, rfl⟩ := trodAll_nil r0
  obtain rfl : args = #[v0] := by cases args; simp_all
  obtain ⟨A0, n0, c0, rfl⟩ := okWide_slice Try.underlying26 (hval 0 26 v0 rfl rfl)
  obtain ⟨fuel0, hf0⟩ := h0
  obtain ⟨B0, l0, e0, hcs0, x0, y0, z0⟩ := open_opsAct hf0
  simp only [Value.cells, List.cons.injEq, Value.slice.injEq, and_true] at hcs0
  obtain ⟨rfl, rfl, rfl⟩ := hcs0
  have hw : ∀ n ∈ d0.weights Try.prog 26, n ≤ reachBytes := fun n hn => by
    have := List.all_eq_true.1 hsz _ (DataW.weights_mem_each (j := 0) (t := 26) rfl rfl n hn)
    exact of_decide_eq_true this
  exact walk_pastNobody A0 l0 c0 W x0 (Nat.le_trans x0 y0) z0 (acts_len hf0 hw z0)
end Go.Proofs.Ytnionfddejaalaa
