/-
  The walk of the law PastMay.
-/
import Derived.Test.YtnionfddejaalaaPastNobodyWalk
import Derived.Test.YtnionfddejaalaaRefMay22
namespace Go.Proofs.Ytnionfddejaalaa
set_option linter.unusedVariables false
set_option linter.unusedSimpArgs false
open Go.RowKit Go.ChangeShapes Go.WideShapes Go.Joins Go.Deep

def smallA (x : OpAct) : Prop := x.qd.size ≤ 100 ∧ x.rd.size ≤ 200 ∧ x.rl.length ≤ 60

open Classical in
set_option maxRecDepth 8000 in
set_option maxHeartbeats 8000000 in
theorem walk_pastMay (A : Option Addr) (l : List OpAct) (cap : Nat) (w : World) (hcap : l.length ≤ cap) (hc63 : l.length ≤ 9223372036854775807) (hS : SoAct w A l) :
    Calls Try.prog 4 #[.slice A l.length cap] w fun e w' => e = .returned (.bool true) ∧ Below w.heap.size w w' := by
  refine hide_post fun D hD => ?_
  have CT : Hid (∀ V, Calls Try.prog 10 #[] V fun e w' => e = .returned (.bool true) ∧ Ext V w') := fun V => told22_any V
  have CM : Hid (l.length ≤ 60 → (∀ x ∈ l, smallA x) → ∀ V, Ext w V → Calls Try.prog 20 #[.slice A l.length cap] V fun e w' => e = .returned (.bool (decide (mayF ((l.map OpAct.at_').map At.x)))) ∧ Ext V w') := fun h hR V hV => by
    have h7 := may_any A cap (l.map OpAct.at_') V (by simp; omega) (fun t ht => by
      obtain ⟨x, hx, rfl⟩ := List.mem_map.1 ht
      exact Nat.le_trans (hR x hx).2.2 (by decide)) hS.oks (hS.acs.stay hV)
    rw [List.length_map] at h7
    exact h7
  have CR : Hid (l.length ≤ 60 → (∀ x ∈ l, smallA x) → ∀ V, Ext w V → Calls Try.prog 21 #[.slice A l.length cap] V fun e w' => e = .returned (.bool (decide (mayF ((l.map OpAct.at_').map At.x)))) ∧ Ext V w') := fun h hR V hV => by
    have h7 := rmay_any A cap (l.map OpAct.at_') V (by simp; omega) (fun t ht => by
      obtain ⟨x, hx, rfl⟩ := List.mem_map.1 ht
      exact Nat.le_trans (hR x hx).2.2 (by decide)) hS.oks (hS.acs.stay hV)
    rw [List.length_map] at h7
    exact h7
  have HS := Lib.hid hS
  obtain ⟨n, hn⟩ : ∃ n, n = l.length := ⟨_, rfl⟩
  rw [← hn] at hcap hc63 CM CR ⊢
  have HN := Lib.hid hn
  clear hS hn
  by_cases h60 : 60 < n
  · have i60 : (60 : Int) < (n : Int) := by omega
    go_enter Try.func4, Try.ntmps4
    go_wp2_with (go_at_call 10; (with_reducible refine (CT.out _).mono ?_); rintro e w1 ⟨rfl, hx⟩; have X1 := Lib.hid hx; clear hx)
    try go_ret
    exact hD.out _ _ ⟨rfl, X1.out⟩
  have CM := Lib.hid (CM.out (by omega))
  have CR := Lib.hid (CR.out (by omega))
  have i60 : ¬ (60 : Int) < (n : Int) := by omega
  generalize hq : decide (mayF ((l.map OpAct.at_').map At.x)) = q at *
  clear hq
  go_enter Try.func4, Try.ntmps4
  go_wp2
  go_loopw [3] (fun i wr => ∃ (j : Nat), j ≤ n ∧ i = .int .i64 j ∧ Hid (∀ x ∈ l.take j, smallA x) ∧ Hid (Ext w wr)) (fun i _ => n - (intOf i).toNat)
  case atStart => exact ⟨0, by omega, rfl, fun x hx => (by simp at hx), Ext.refl _⟩
  case round =>
    obtain ⟨j, hj, rfl, HSM, HX⟩ := hrel
    by_cases hlt : j < n
    · obtain ⟨x, hx⟩ : ∃ x, l[j]? = some x := ⟨_, List.getElem?_eq_getElem (by rw [← HN.out]; exact hlt)⟩
      obtain ⟨b, o, rfl, hc, _, hok⟩ := HS.out j x hx
      have HT : Hid (smallA x → ∀ y ∈ l.take (j + 1), smallA y) := fun hs y hy => by
        rw [List.take_add_one, hx] at hy
        rcases List.mem_append.1 hy with hy | hy
        · exact HSM.out y hy
        · simp at hy; subst hy; exact hs
      have c8 : wr.cell? ⟨b, o + j * 14 + 8, none⟩ = some (.string x.qd) := cell_stay HX.out (hc 8 (by decide))
      have c11 : wr.cell? ⟨b, o + j * 14 + 11, none⟩ = some (.string x.rd) := cell_stay HX.out (hc 11 (by decide))
      have c12 : wr.cell? ⟨b, o + j * 14 + 12, none⟩ = some (.slice x.rA x.rl.length x.rcap) := cell_stay HX.out (hc 12 (by decide))
      have hj1 : (j : Int) < (n : Int) := by omega
      have hj0 : (0 : Int) ≤ (j : Int) := by omega
      clear hc hx hok
      obtain ⟨xcl, xsq, xans, xqc, xqs, xqk, xqi, xqm, xqd, xrc, xrv, xrd, xrA, xrcap, xrl, xat⟩ := x
      simp only at c8 c11 c12
      unfold smallA at HT
      simp only at HT
      generalize xrl.length = rn at *
      by_cases h1 : 100 < xqd.size
      · have i1 : (100 : Int) < (xqd.size : Int) := by omega
        clear HT c11 c12
        go_wp2_with (go_at_call 10; (with_reducible refine (CT.out _).mono ?_); rintro e w1 ⟨rfl, hx⟩; have X1 := Lib.hid hx; clear hx)
        try go_ret
        exact hD.out _ _ ⟨rfl, Ext.trans HX.out X1.out⟩
      have i1 : ¬ (100 : Int) < (xqd.size : Int) := by omega
      by_cases h2 : 200 < xrd.size
      · have i2 : (200 : Int) < (xrd.size : Int) := by omega
        clear HT c12
        go_wp2_with (go_at_call 10; (with_reducible refine (CT.out _).mono ?_); rintro e w1 ⟨rfl, hx⟩; have X1 := Lib.hid hx; clear hx)
        try go_ret
        exact hD.out _ _ ⟨rfl, Ext.trans HX.out X1.out⟩
      have i2 : ¬ (200 : Int) < (xrd.size : Int) := by omega
      by_cases h3 : 60 < rn
      · have i3 : (60 : Int) < (rn : Int) := by omega
        clear HT
        go_wp2_with (go_at_call 10; (with_reducible refine (CT.out _).mono ?_); rintro e w1 ⟨rfl, hx⟩; have X1 := Lib.hid hx; clear hx)
        try go_ret
        exact hD.out _ _ ⟨rfl, Ext.trans HX.out X1.out⟩
      have i3 : ¬ (60 : Int) < (rn : Int) := by omega
      have HT := Lib.hid (HT.out ⟨by omega, by omega, by omega⟩)
      go_wp2
      go_roundw
      case rel => exact ⟨j + 1, by omega, by go_num, HT.out, HX.out⟩
      case measure => simp [intOf]; omega
    · have h3 : ¬ (j : Int) < (n : Int) := by omega
      have HA : Hid (∀ x ∈ l, smallA x) := fun x hx => HSM.out x (by rw [List.take_of_length_le (by rw [← HN.out]; omega)]; exact hx)
      have CM := Lib.hid (CM.out HA.out)
      have CR := Lib.hid (CR.out HA.out)
      have hqq : (q == q) = true := by simp
      go_wp2_with (first
        | (go_at_call 10; (with_reducible refine (CT.out _).mono ?_); rintro e w1 ⟨rfl, hx⟩; have X1 := Lib.hid (Ext.trans HX.out hx); clear hx)
        | (go_at_call 20; (with_reducible refine (CM.out _ X1.out).mono ?_); rintro e w2 ⟨rfl, hx⟩; have X2 := Lib.hid (Ext.trans X1.out hx); clear hx)
        | (go_at_call 21; (with_reducible refine (CR.out _ X2.out).mono ?_); rintro e w3 ⟨rfl, hx⟩; have X3 := Lib.hid (Ext.trans X2.out hx); clear hx))
      try go_ret
      exact hD.out _ _ ⟨by first | rfl | simp, X3.out⟩

set_option maxRecDepth 100000 in
theorem law_pastMay {H : Type} {enc : TypeId × Value → H} (W : World) (base : Nat) (args : Array Value) (ds : List (DataW H)) (p : List MemPlace)
    (hval : ∀ (j : Nat) t v, Try.f4.params[j]? = some t → args[j]? = some v → Value.okWide Try.prog W .any base t v)
    (hA : DataW.TrodAll enc Try.prog W 0 (fun _ => true) true Try.f4.params.toList args.toList ds p) :
    Calls Try.prog 4 args W fun e W' => e = .returned (.bool true) ∧ Below W.heap.size W W' := by
  rw [Try.params4] at hA hval
  obtain ⟨v0, vs0, d0, ds0, p0, q0, hargs, rfl, rfl, h0, r0⟩ := trodAll_cons hA
  obtain ⟨rfl, rfl, rfl⟩ := trodAll_nil r0
  obtain rfl : args = #[v0] := by cases args; simp_all
  obtain ⟨A0, n0, c0, rfl⟩ := okWide_slice Try.underlying26 (hval 0 26 v0 rfl rfl)
  obtain ⟨fuel0, hf0⟩ := h0
  obtain ⟨B0, l0, e0, hcs0, x0, y0, z0⟩ := open_opsAct hf0
  simp only [Value.cells, List.cons.injEq, Value.slice.injEq, and_true] at hcs0
  obtain ⟨rfl, rfl, rfl⟩ := hcs0
  exact walk_pastMay A0 l0 c0 W x0 (Nat.le_trans x0 y0) z0
end Go.Proofs.Ytnionfddejaalaa
