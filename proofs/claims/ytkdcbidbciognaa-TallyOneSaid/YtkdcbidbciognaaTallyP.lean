/-
  The program's count, step by step, with no document's beside it.
-/
import Derived.Test.YtkdcbidbciognaaTally5
import Derived.Test.YtkdcbidbciognaaTold14
namespace Go.Proofs.Ytkdcbidbciognaa
set_option linter.unusedVariables false
set_option linter.unusedSimpArgs false
open Go.RowKit

structure Vt where
  pr : Int
  pn : Int
  ar : Int
  an : Int
  has : Bool
  cep : Int
  A : Option Addr
  cap : Nat
  l : List Int
def vOk (v : TV) (node : Int) (t : Vt) : Bool := decide (0 ≤ node ∧ node < v.n ∧ ¬ node ∈ v.pl ∧ (t.pr = v.br ∧ t.pn = v.bn) ∧ (t.has = true → mayBal t.ar t.an = true ∧ mayChainB t.cep t.l = true ∧ t.cep = v.ep))
def vPut (v : TV) (node : Int) (t : Vt) : TV := if t.has = true ∧ (v.has = false ∨ 0 < cmpBal t.ar t.an v.xr v.xn) then { v with pl := v.pl ++ [node], has := true, xr := t.ar, xn := t.an, xep := t.cep, xl := t.l } else { v with pl := v.pl ++ [node] }
def vNext (v : TV) (node : Int) (t : Vt) : TV := if vOk v node t = true then vPut v node t else v
def yOk (v : TV) (node : Int) : Bool := decide (mostI v.n ≤ v.pl.length ∧ 0 ≤ node ∧ node < v.n ∧ ¬ node ∈ v.sl)
def yNext (v : TV) (node : Int) : TV := if yOk v node = true then { v with sl := v.sl ++ [node] } else v

theorem TAt.ble {w : World} {base P : Nat} {v : TV} {K : Nat → Prop} (H : TAt w base P K v) : base ≤ w.heap.size := Nat.le_trans H.1 (Nat.le_of_lt H.lt)
theorem tprom_any (base P : Nat) (K : Nat → Prop) (v : TV) (node : Int) (t : Vt) (w : World) (H : TAt w base P K v) (hpl : v.pl.length ≤ 1000000) (hl : t.l.length ≤ 1000000) (hcap : t.l.length ≤ t.cap) (hs : Sl i64 w t.A t.l) (hA : t.l ≠ [] → ∀ a, t.A = some a → K a.block) :
    Calls Try.prog 17 #[.pointer (some ⟨P, 0, none⟩), .int .i64 node, .agg #[.int .i64 t.pr, .int .i64 t.pn, .int .i64 t.ar, .int .i64 t.an, .bool t.has, .int .i64 t.cep, .slice t.A t.l.length t.cap]] w fun e w' => e = .returned (.bool (vOk v node t)) ∧ TAt w' base P K (vNext v node t) ∧ Keep K w w' ∧ Below base w w' := by
  obtain ⟨pr, pn, ar, an, has, cep, A, cap, l⟩ := t
  obtain ⟨n, br, bn, ep, cl, pl, sl, hv, xr, xn, xep, xl⟩ := v
  simp only at *
  have no : vOk ⟨n, br, bn, ep, cl, pl, sl, hv, xr, xn, xep, xl⟩ node ⟨pr, pn, ar, an, has, cep, A, cap, l⟩ = false → Calls Try.prog 17 #[.pointer (some ⟨P, 0, none⟩), .int .i64 node, .agg #[.int .i64 pr, .int .i64 pn, .int .i64 ar, .int .i64 an, .bool has, .int .i64 cep, .slice A l.length cap]] w (fun e w' => e = .returned (.bool false) ∧ Ext w w') → Calls Try.prog 17 #[.pointer (some ⟨P, 0, none⟩), .int .i64 node, .agg #[.int .i64 pr, .int .i64 pn, .int .i64 ar, .int .i64 an, .bool has, .int .i64 cep, .slice A l.length cap]] w fun e w' => e = .returned (.bool (vOk ⟨n, br, bn, ep, cl, pl, sl, hv, xr, xn, xep, xl⟩ node ⟨pr, pn, ar, an, has, cep, A, cap, l⟩)) ∧ TAt w' base P K (vNext ⟨n, br, bn, ep, cl, pl, sl, hv, xr, xn, xep, xl⟩ node ⟨pr, pn, ar, an, has, cep, A, cap, l⟩) ∧ Keep K w w' ∧ Below base w w' := fun h hc => by
    have hN : vNext ⟨n, br, bn, ep, cl, pl, sl, hv, xr, xn, xep, xl⟩ node ⟨pr, pn, ar, an, has, cep, A, cap, l⟩ = ⟨n, br, bn, ep, cl, pl, sl, hv, xr, xn, xep, xl⟩ := by unfold vNext; rw [h]; rfl
    rw [hN, h]
    exact hc.mono fun e w' ⟨h1, h2⟩ => ⟨h1, H.stay h2, Keep.of_below H h2, h2.mono H.ble⟩
  by_cases h0 : node < 0
  · exact no (by unfold vOk; exact decide_eq_false (by simp only; omega)) (prom_n1 base P K n br bn ep cl pl sl hv xr xn xep xl node pr pn ar an has cep A cap l w H h0)
  by_cases h1 : n ≤ node
  · exact no (by unfold vOk; exact decide_eq_false (by simp only; omega)) (prom_n2 base P K n br bn ep cl pl sl hv xr xn xep xl node pr pn ar an has cep A cap l w H h0 h1)
  by_cases hb : pr = br ∧ pn = bn
  rotate_left
  · exact no (by unfold vOk; exact decide_eq_false (fun h => hb h.2.2.2.1)) (prom_n3 base P K n br bn ep cl pl sl hv xr xn xep xl node pr pn ar an has cep A cap l w H h0 h1 hb)
  obtain ⟨rfl, rfl⟩ := hb
  cases has with
  | true =>
    cases hm : mayBal ar an with
    | false => exact no (by unfold vOk; exact decide_eq_false (fun h => by have := (h.2.2.2.2 rfl).1; simp only at this; rw [hm] at this; cases this)) (prom_n4 base P K n pr pn ep cl pl sl hv xr xn xep xl node ar an cep A cap l w H h0 h1 hm)
    | true =>
      cases hc : mayChainB cep l with
      | false => exact no (by unfold vOk; exact decide_eq_false (fun h => by have := (h.2.2.2.2 rfl).2.1; simp only at this; rw [hc] at this; cases this)) (prom_n5 base P K n pr pn ep cl pl sl hv xr xn xep xl node ar an cep A cap l w H h0 h1 hm hc (by omega) hcap hs)
      | true =>
        have hA := hA (fun e => by rw [e] at hc; simp [mayChainB] at hc)
        by_cases hce : cep = ep
        rotate_left
        · exact no (by unfold vOk; exact decide_eq_false (fun h => hce (h.2.2.2.2 rfl).2.2)) (prom_n6 base P K n pr pn ep cl pl sl hv xr xn xep xl node ar an cep A cap l w H h0 h1 hm hc hce (by omega) hcap hs)
        subst hce
        by_cases hi : node ∈ pl
        · exact no (by unfold vOk; exact decide_eq_false (fun h => h.2.2.1 hi)) (prom_in_t base P K n pr pn cep cl pl sl hv xr xn xep xl node ar an cep A cap l w H (by omega) (by omega) hi hpl hm hc hl hcap hs hA rfl)
        · have hok : vOk ⟨n, pr, pn, cep, cl, pl, sl, hv, xr, xn, xep, xl⟩ node ⟨pr, pn, ar, an, true, cep, A, cap, l⟩ = true := by unfold vOk; exact decide_eq_true ⟨by omega, by simp only; omega, hi, ⟨rfl, rfl⟩, fun _ => ⟨hm, hc, rfl⟩⟩
          unfold vNext
          rw [if_pos hok, hok]
          unfold vPut
          cases hv with
          | false =>
            rw [if_pos ⟨rfl, .inl rfl⟩]
            exact prom_tf base P K n pr pn cep cl pl sl xr xn xep xl node ar an cep A cap l w H (by omega) (by omega) hi hpl hm hc hl hcap hs hA rfl
          | true =>
            by_cases hcm : 0 < cmpBal ar an xr xn
            · rw [if_pos ⟨rfl, .inr hcm⟩]
              exact prom_ttg base P K n pr pn cep cl pl sl xr xn xep xl node ar an cep A cap l w H (by omega) (by omega) hi hpl hm hc hl hcap hs hA hcm rfl
            · rw [if_neg (by rintro ⟨_, h | h⟩; cases h; exact hcm h)]
              exact prom_ttl base P K n pr pn cep cl pl sl xr xn xep xl node ar an cep A cap l w H (by omega) (by omega) hi hpl hm hc hl hcap hs hA (by omega) rfl
  | false =>
    by_cases hi : node ∈ pl
    · exact no (by unfold vOk; exact decide_eq_false (fun h => h.2.2.1 hi)) (prom_in_f base P K n pr pn ep cl pl sl hv xr xn xep xl node ar an cep A cap l w H (by omega) (by omega) hi hpl)
    · have hok : vOk ⟨n, pr, pn, ep, cl, pl, sl, hv, xr, xn, xep, xl⟩ node ⟨pr, pn, ar, an, false, cep, A, cap, l⟩ = true := by unfold vOk; exact decide_eq_true ⟨by omega, by simp only; omega, hi, ⟨rfl, rfl⟩, fun h => by cases h⟩
      unfold vNext
      rw [if_pos hok, hok]
      unfold vPut
      rw [if_neg (by rintro ⟨h, _⟩; cases h)]
      cases hv with
      | false => exact prom_ff base P K n pr pn ep cl pl sl xr xn xep xl node ar an cep A cap l w H (by omega) (by omega) hi hpl
      | true => exact prom_ft base P K n pr pn ep cl pl sl xr xn xep xl node ar an cep A cap l w H (by omega) (by omega) hi hpl

theorem tyes_any (base P : Nat) (K : Nat → Prop) (v : TV) (node : Int) (w : World) (H : TAt w base P K v) (hn : 0 ≤ v.n ∧ v.n ≤ 5) (hl : v.sl.length ≤ 1000000) :
    Calls Try.prog 19 #[.pointer (some ⟨P, 0, none⟩), .int .i64 node] w fun e w' => e = .returned (.bool (yOk v node)) ∧ TAt w' base P K (yNext v node) ∧ Keep K w w' ∧ Below base w w' := by
  have no : yOk v node = false → Calls Try.prog 19 #[.pointer (some ⟨P, 0, none⟩), .int .i64 node] w (fun e w' => e = .returned (.bool false) ∧ Ext w w') → Calls Try.prog 19 #[.pointer (some ⟨P, 0, none⟩), .int .i64 node] w fun e w' => e = .returned (.bool (yOk v node)) ∧ TAt w' base P K (yNext v node) ∧ Keep K w w' ∧ Below base w w' := fun h hc => by
    have hN : yNext v node = v := by unfold yNext; rw [h]; rfl
    rw [hN, h]
    exact hc.mono fun e w' ⟨h1, h2⟩ => ⟨h1, H.stay h2, Keep.of_below H h2, h2.mono H.ble⟩
  by_cases hm : mostI v.n ≤ v.pl.length
  rotate_left
  · exact no (by unfold yOk; exact decide_eq_false (fun h => hm h.1)) (yes_nr base P K v node w H hn hm)
  by_cases h0 : 0 ≤ node
  rotate_left
  · exact no (by unfold yOk; exact decide_eq_false (fun h => h0 h.2.1)) (yes_n1 base P K v node w H hn hm (by omega))
  by_cases h1 : node < v.n
  rotate_left
  · exact no (by unfold yOk; exact decide_eq_false (fun h => h1 h.2.2.1)) (yes_n2 base P K v node w H hn hm h0 h1)
  by_cases hi : node ∈ v.sl
  · exact no (by unfold yOk; exact decide_eq_false (fun h => h.2.2.2 hi)) (yes_no base P K v node w H hn hm h0 h1 hi hl)
  · have hok : yOk v node = true := by unfold yOk; exact decide_eq_true ⟨hm, h0, h1, hi⟩
    unfold yNext
    rw [if_pos hok, hok]
    exact yes_ok base P K v node w H hn hm h0 h1 hi hl

theorem TAt.frmK {w w' : World} {base P : Nat} {K s : Nat → Prop} {v : TV} (H : TAt w base P K v) (hf : Frm s w w') (hs : ∀ k, s k → K k) : TAt w' base P (fun k => K k ∨ (w.heap.size ≤ k ∧ k < w'.heap.size)) v := by
  obtain ⟨hP, c, p, s', x, h1, h2, h3, h4, h5, h6, h7, h8⟩ := H
  refine ⟨hP, c, p, s', x, h1.frm hf (fun h => (h8 _ (hs _ h)).2.1 rfl), own_frm h2 hf (fun k hk h => (h8 _ (hs _ h)).2.2.2.2.1 hk), own_frm h3 hf (fun k hk h => (h8 _ (hs _ h)).2.2.1 hk), own_frm h4 hf (fun k hk h => (h8 _ (hs _ h)).2.2.2.1 hk), own_frm h5 hf (fun k hk h => (h8 _ (hs _ h)).2.2.2.2.2 hk), h6, h7, fun k hk => ?_⟩
  rcases hk with hk | ⟨k1, k2⟩
  · exact ⟨Nat.lt_of_lt_of_le (h8 k hk).1 hf.size, (h8 k hk).2⟩
  · refine ⟨k2, ?_, ?_, ?_, ?_, ?_⟩
    · have := h1.lt; omega
    · intro e; have := (h3.lt k e).2; omega
    · intro e; have := (h4.lt k e).2; omega
    · intro e; have := (h2.lt k e).2; omega
    · intro e; have := (h5.lt k e).2; omega

end Go.Proofs.Ytkdcbidbciognaa
