/-
  Acts of package past (law 22): its iterator, act by act, each with a list of versions of its own.
-/
import Derived.Test.YtnionfddejaalaaPastPend
import Derived.Test.YtnionfddejaalaaSet
import Derived.RangeFuncNested
import Derived.RangeFuncBound
import Derived.RangeFuncCalls
import Derived.RangeFuncLeaves
import Derived.Shelf.Abstract
import Derived.Shelf.RegionOpen
import Derived.OwnWalkIn
import Derived.Maps.OwnIn
import Derived.TacticsInMore
import Derived.LoopNIn
import Derived.LoopIn
namespace Go.Proofs.Ytnionfddejaalaa
set_option linter.unusedVariables false
set_option linter.unusedSimpArgs false
open Go.RowKit Go.Shelf
attribute [local go_sem] Oper.semAt_some

theorem all_any (P : Nat) (w : World) :
    Calls Try.prog 40 #[.pointer (some ⟨P, 0, none⟩)] w fun e w' => e = .returned (.func (.func 52) #[] #[.pointer (some ⟨w.heap.size, 0, none⟩)]) ∧
      w.alloc (.cells #[.pointer (some ⟨P, 0, none⟩)] 23) = w' := by
  go_enter Try.func40, Try.ntmps40
  go_wp2
  go_ret
  exact ⟨rfl, rfl⟩

def actV (t : At) : Value := .agg (acRow t.x t.A t.cap).toArray

set_option maxRecDepth 100000 in
set_option maxHeartbeats 16000000 in
theorem all_in (n : Nat) (hn : 1 ≤ n) (s : Nat → Prop) (y Bb P : Nat) (A : Option Addr) (cap : Nat) (L : List At) (hl : L.length ≤ 1000000) (hr : ∀ t ∈ L, t.x.r.l.length ≤ 1000000) (J : List At → World → Prop) (W : World)
    (HB : Hid (∀ W', Frm s W W' → W'.cell? ⟨Bb, 0, none⟩ = some (.pointer (some ⟨P, 0, none⟩)))) (HP : Hid (∀ W', Frm s W W' → W'.cell? ⟨P, 0, none⟩ = some (.slice A L.length cap)))
    (HA : Hid (∀ W', Frm s W W' → Acs W' A L))
    (HJ : Hid (∀ pre V V', J pre V → Below V.heap.size V V' → J pre V'))
    (hY : Hid (∀ pre x W1, J pre W1 → pre.length < L.length → In W1 x.A x.cap x.x.r.l → YieldAt Fence.wide (n - 1) Try.prog y #[actV x] W1 fun e W' => e = .returned (.bool true) ∧ J (pre ++ [x]) W' ∧ Frm s W1 W'))
    (h0 : J [] W) :
    CallsIn Fence.wide n Try.prog 52 #[.func (.yield y) #[] #[], .pointer (some ⟨Bb, 0, none⟩)] W fun e W' => (∃ v, e = .returned v) ∧ ∃ ys : List At, ys.map At.x = L.map At.x ∧ J ys W' := by
  obtain ⟨N, hN⟩ : ∃ N, N = L.length := ⟨_, rfl⟩
  have HN := Lib.hid hN
  rw [← hN] at hl
  have HR := Lib.hid hr
  have HJ0 := Lib.hid h0
  have HP' : Hid (∀ W', Frm s W W' → W'.cell? ⟨P, 0, none⟩ = some (.slice A N cap)) := fun W' h => by rw [hN]; exact HP.out W' h
  have b0 := HB.out W (Frm.refl _ _)
  have p0 := HP'.out W (Frm.refl _ _)
  clear hN h0 HP hr
  refine callsIn_of_wp Try.func52 rfl trivial ?_ rfl
  simp only [Try.ntmps52, List.size_toArray, List.length_cons, List.length_nil, Nat.reduceAdd, Nat.reduceSub, Array.replicate_succ, Array.replicate_zero, List.push_toArray, List.append_toArray, List.nil_append, List.cons_append]
  gi_wp2
  gi_loopw [12] (fun i wr => ∃ (k : Nat) (pre : List At), k ≤ N ∧ i = .int .i64 k ∧ Hid (pre.map At.x = (L.take k).map At.x) ∧ Hid (J pre wr) ∧ Hid (Frm s W wr))
    (fun i _ => N - (intOf i).toNat)
  case atStart => exact ⟨0, [], Nat.zero_le _, rfl, rfl, HJ0.out, Frm.refl _ _⟩
  case round =>
    obtain ⟨k, pre, hk, rfl, HE, HJs, HF⟩ := hrel
    clear b0 p0
    by_cases hlt : k < N
    · obtain ⟨t, ht⟩ : ∃ t, L[k]? = some t := ⟨_, List.getElem?_eq_getElem (by rw [← HN.out]; exact hlt)⟩
      have hT : (L.take (k + 1)).map At.x = (L.take k).map At.x ++ [t.x] := by rw [List.take_add_one, ht]; simp
      have hrl := HR.out t (List.mem_of_getElem? ht)
      obtain ⟨b, o, rfl, hc, hsl⟩ := HA.out wr HF.out k t ht
      have hplen : pre.length < L.length := by have h1 := congrArg List.length HE.out; simp only [List.length_map, List.length_take] at h1; have h2 := HN.out; omega
      obtain ⟨tx, tA, tc⟩ := t
      obtain ⟨cl, sq, ans, ⟨qc, qs, qk, qi, qm, qd⟩, ⟨rc, rv, rd, rl⟩, at9⟩ := tx
      simp only at hc hsl hrl hT
      obtain ⟨rn, hrn⟩ : ∃ r, r = rl.length := ⟨_, rfl⟩
      have HRN := Lib.hid hrn
      have c0 : wr.cell? _ = some (.int .i64 cl) := hc 0 (by decide)
      have c1 : wr.cell? _ = some (.int .i64 sq) := hc 1 (by decide)
      have c2 : wr.cell? _ = some (.bool ans) := hc 2 (by decide)
      have c3 : wr.cell? _ = some (.int .i64 qc) := hc 3 (by decide)
      have c4 : wr.cell? _ = some (.int .i64 qs) := hc 4 (by decide)
      have c5 : wr.cell? _ = some (.int .i64 qk) := hc 5 (by decide)
      have c6 : wr.cell? _ = some (.int .i64 qi) := hc 6 (by decide)
      have c7 : wr.cell? _ = some (.int .i64 qm) := hc 7 (by decide)
      have c8 : wr.cell? _ = some (.string qd) := hc 8 (by decide)
      have c9 : wr.cell? _ = some (.int .i64 rc) := hc 9 (by decide)
      have c10 : wr.cell? _ = some (.int .i64 rv) := hc 10 (by decide)
      have c11 : wr.cell? _ = some (.string rd) := hc 11 (by decide)
      have c12 : wr.cell? _ = some (.slice tA rl.length tc) := hc 12 (by decide)
      have c13 : wr.cell? _ = some (.int .i64 at9) := hc 13 (by decide)
      rw [← hrn] at c12
      simp only [Nat.add_zero] at c0
      obtain ⟨w0, hw0⟩ : ∃ w0, w0 = wr.alloc (.cells #[.int .i64 cl, .int .i64 sq, .bool ans, .int .i64 qc, .int .i64 qs, .int .i64 qk, .int .i64 qi, .int .i64 qm, .string qd, .int .i64 rc, .int .i64 rv, .string rd, .slice tA rn tc, .int .i64 at9] 50) := ⟨_, rfl⟩
      obtain ⟨g, hg⟩ : ∃ g, g = wr.heap.size := ⟨_, rfl⟩
      have HG := Lib.hid hg
      have hb0 : Ext wr w0 := by rw [hw0]; exact Ext.alloc _ _
      have KR : Hid (Blk w0 g 50 #[.int .i64 cl, .int .i64 sq, .bool ans, .int .i64 qc, .int .i64 qs, .int .i64 qk, .int .i64 qi, .int .i64 qm, .string qd, .int .i64 rc, .int .i64 rv, .string rd, .slice tA rn tc, .int .i64 at9]) := by show Blk _ _ _ _; rw [hw0, hg]; exact Blk.new _ _ _
      have CC : Hid (Calls Try.prog 38 #[.slice tA rn tc] w0 fun e w' => ∃ A c, e = .returned (.slice A rn c) ∧ In w' A c rl ∧ Ext w0 w') := by
        have h6 := cloneI_any tA tc rl w0 (by omega) (hsl.stay hb0)
        rw [← hrn] at h6
        refine h6.mono ?_
        rintro e w' ⟨v, he, ho, hx⟩
        rw [hrn] at ho
        obtain ⟨A, c, rfl, hin⟩ := In.own ho
        rw [← hrn] at he
        exact ⟨A, c, he, hin, hx⟩
      have YY : Hid (∀ A2 c2 w1, In w1 A2 c2 rl → Ext w0 w1 → YieldAt Fence.wide (n - 1) Try.prog y #[.agg #[.int .i64 cl, .int .i64 sq, .bool ans, .int .i64 qc, .int .i64 qs, .int .i64 qk, .int .i64 qi, .int .i64 qm, .string qd, .int .i64 rc, .int .i64 rv, .string rd, .slice A2 rn c2, .int .i64 at9]] (w1.setCell ⟨g, 12, none⟩ (.slice A2 rn c2)) fun e W' => e = .returned (.bool true) ∧ J (pre ++ [⟨⟨cl, sq, ans, ⟨qc, qs, qk, qi, qm, qd⟩, ⟨rc, rv, rd, rl⟩, at9⟩, A2, c2⟩]) W' ∧ Frm s (w1.setCell ⟨g, 12, none⟩ (.slice A2 rn c2)) W') := fun A2 c2 w1 hin hx => by
        have hB1 := KR.out.stay hx
        have hfs : Frm (fun k => k = g) w1 (w1.setCell ⟨g, 12, none⟩ (.slice A2 rn c2)) := Frm.of_set _ _ _ rfl
        have hx2 : Ext wr (w1.setCell ⟨g, 12, none⟩ (.slice A2 rn c2)) := Frm.step (Ext.trans hb0 hx) hfs (Ext.trans hb0 hx).size (by rintro k rfl; rw [hg]; exact Nat.le_refl _)
        have h7 := hY.out pre ⟨⟨cl, sq, ans, ⟨qc, qs, qk, qi, qm, qd⟩, ⟨rc, rv, rd, rl⟩, at9⟩, A2, c2⟩ _ (HJ.out _ _ _ HJs.out hx2) hplen (hin.of (fun k cs h => h.frm hfs (Blk.apart h hB1 (by decide))))
        unfold actV acRow at h7
        simp only at h7
        rw [← hrn] at h7
        exact h7
      have XF : Hid (∀ A2 c2 w1, Ext w0 w1 → Frm s W (w1.setCell ⟨g, 12, none⟩ (.slice A2 rn c2))) := fun A2 c2 w1 hx => by
        have hfs : Frm (fun k => k = g) w1 (w1.setCell ⟨g, 12, none⟩ (.slice A2 rn c2)) := Frm.of_set _ _ _ rfl
        have hx2 : Ext wr (w1.setCell ⟨g, 12, none⟩ (.slice A2 rn c2)) := Frm.step (Ext.trans hb0 hx) hfs (Ext.trans hb0 hx).size (by rintro k rfl; rw [hg]; exact Nat.le_refl _)
        exact Frm.tr HF.out (Frm.of_below hx2 _)
      have HW := Lib.hid hw0
      have HT := Lib.hid hT
      have r12 : ∀ (o : Array Value) (u : Value), o[12]? = some u → (wr.alloc (.cells o 50)).cell? ⟨wr.heap.size, 12, none⟩ = some u := fun o u h => by rw [← h]; exact (Blk.new wr _ _).cell 12
      have hk0 : (0 : Int) ≤ (k : Int) := by omega
      have hkN : (k : Int) < (N : Int) := by omega
      clear hc hsl ht hrl hrn hb0 hw0 hT hplen hg
      gi_wp2_with (refine ⟨trivial, ?_⟩; gi_at_call 38; rw [← HW.out]; refine (callsIn_wide.2 CC.out).mono ?_; rintro e w1 ⟨A2, c2, rfl, hin, hx⟩; rw [← HG.out]; obtain ⟨fn, tmps, assign, body, hy, hR⟩ := YY.out A2 c2 w1 hin hx; have HR1 := Lib.hid hR; have XF1 := Lib.hid (XF.out A2 c2 w1 hx); have KB := KR.out.stay hx; have q0 := KB.cell 0; have q1 := KB.cell 1; have q2 := KB.cell 2; have q3 := KB.cell 3; have q4 := KB.cell 4; have q5 := KB.cell 5; have q6 := KB.cell 6; have q7 := KB.cell 7; have q8 := KB.cell 8; have q9 := KB.cell 9; have q10 := KB.cell 10; have q11 := KB.cell 11; have q12 := KB.cell 12; have q13 := KB.cell 13; have f12 := KB.frozen 12; simp at q0 q1 q2 q3 q4 q5 q6 q7 q8 q9 q10 q11 q12 q13; clear hin hx hR KB)
      refine HR1.out.mono ?_
      rintro e W3 ⟨rfl, hJ3, hk3⟩
      have HJ3 := Lib.hid hJ3
      have HK3 := Lib.hid (Frm.tr XF1.out hk3)
      clear hJ3 hk3 q0 q1 q2 q3 q4 q5 q6 q7 q8 q9 q10 q11 q12 q13 f12
      gi_wp2
      go_roundw
      case rel => exact ⟨k + 1, _, by omega, by go_num, by (show _ = _); rw [HT.out, List.map_append, HE.out]; rfl, HJ3.out, HK3.out⟩
      case measure => simp [intOf]; omega
    · gi_wp2
      go_end0
      exact ⟨⟨_, rfl⟩, pre, by rw [HE.out, List.take_of_length_le (by have := HN.out; omega)], HJs.out⟩

section
variable {n : Nat} {P : Program}
/-- a loop over a function, where the contract of the iterator is given at the loop's own record -/
theorem range_go {g : Operand} {ps : Array Tmp} {assign body : Code} {Q : Exit → Act → World → Prop} {a : Act} {w : World} {gf : Nat} {lb : Array Value} (hg : a.eval g = .func (.func gf) #[] lb) (eg : ∀ args w, (callFunc gf args).run P w = .ok (.enter gf args) w)
    (h : ∀ r : Loop, Fence.wide.fn r.fn → r.state = .ready → r.pending = none → r.tmps = a.tmps → r.params = ps → r.assign = assign → r.body = body → CallsIn Fence.wide n P gf (#[.func (.yield (w.heap.size + 1)) #[] #[]] ++ lb) ((w.alloc (.deferred (some []))).alloc (.loop r))
      (rangePost Fence.wide (n + 1) P (w.heap.size + 1) Q { a with defers := { target := .collected w.heap.size, args := #[] } :: a.defers })) :
    (Code.rangeFunc g ps assign body).wpIn Fence.wide (n + 1) P Q a w := by
  refine wpIn_rangeFunc ?_
  intro fn hfn
  rw [show Fence.wide.round = none from rfl]
  obtain ⟨r, hr⟩ : ∃ r : Loop, r = { state := .ready, pending := none, fn := fn, tmps := a.tmps, params := ps, assign := assign, body := body, defers := w.heap.size } := ⟨_, rfl⟩
  have h9 := h r (by rw [hr]; exact hfn) (by rw [hr]) (by rw [hr]) (by rw [hr]) (by rw [hr]) (by rw [hr]) (by rw [hr])
  refine ⟨w.heap.size + 1, [{ target := .collected w.heap.size, args := #[] }], (w.alloc (.deferred (some []))).alloc (.loop r), { target := .fn (.func gf) lb, args := #[.func (.yield (w.heap.size + 1)) #[] #[]] }, (w.alloc (.deferred (some []))).alloc (.loop r), gf, #[.func (.yield (w.heap.size + 1)) #[] #[]] ++ lb, (w.alloc (.deferred (some []))).alloc (.loop r), ?_, ?_, ?_, ?_, ?_, ?_⟩
  · rw [hr]; exact run_enterLoop_outer fn _ _ _ _
  · simp only [resolve, hg]
    simp [go_sem]
  · intro f' hf'
    exact trivial
  · simp [invoke, go_sem, eg]
  · exact fun _ => Nat.le_add_left _ _
  · rw [Nat.add_sub_cancel]; exact h9
/-- one round: the assignments, the body, and the record as it stood -/
theorem round_go {r : Loop} {l : Nat} {V : World} {R : Ending → World → Prop} {args : Array Value} (hl : V.heap[l]? = some (.loop r)) (hs : args.size = r.params.size) (hst : r.state = .ready) (hF : Fence.wide.fn r.fn)
    (h : r.assign.wpIn (Fence.wide.inRound l) n P (Exit.then (fun a₁ w₁ => w₁.heap[l]? = some (.loop r) ∧ r.body.wpIn (Fence.wide.inRound l) n P (fun e _ w => match e with
      | .normal => ∃ r', w.heap[l]? = some (.loop r') ∧ R (.returned (.bool true)) (w.putObj l (.loop { r' with state := .ready, pending := none }))
      | _ => False) a₁ (w₁.putObj l (.loop { r with state := .busy }))) (fun _ _ _ => False)) { tmps := (r.params.zip args).foldl (fun t (p, v) => t.setIfInBounds p v) r.tmps, defers := [] } V) :
    YieldAt Fence.wide n P l args V R := by
  refine ⟨_, _, _, _, run_yield hl hs, roundIn_of_wpIn hF (wpIn_mono h ?_)⟩
  rintro e a w h1
  cases e with
  | normal =>
    obtain ⟨h2, h3⟩ := h1
    refine ⟨_, run_beginRound h2 hst, wpIn_mono h3 ?_⟩
    rintro e a w h4
    cases e with
    | normal =>
      obtain ⟨r', h5, h6⟩ := h4
      exact ⟨_, _, run_endRound none h5, h6⟩
    | _ => exact h4.elim
  | _ => exact h1.elim
end

/-- what stands while the acts are handed on: the list that grows, its block, the loop's record -/
structure GrowA (g0 : Nat) (wz : World) (r : Loop) (pre : List At) (V : World) : Prop where
  frm : Frm (fun k => k = g0 ∨ g0 + 2 ≤ k) wz V
  big : g0 + 4 ≤ V.heap.size
  row : ∃ v, Blk V g0 26 #[v] ∧ V.ownsRow (g0 + 4) 50 14 v pre.length (flatA pre)
  ins : ∀ t ∈ pre, In V t.A t.cap t.x.r.l
  rec_ : V.heap[g0 + 3]? = some (.loop r)
  dfr : V.heap[g0 + 2]? = some (.deferred (some []))
theorem GrowA.ext {g0 : Nat} {wz : World} {r : Loop} {pre : List At} {V V' : World} (h : GrowA g0 wz r pre V) (hx : Ext V V') : GrowA g0 wz r pre V' := by
  obtain ⟨h1, h2, ⟨v, h3, h3'⟩, h4, h5, h6⟩ := h
  exact ⟨Frm.tr h1 (Frm.of_below hx _), Nat.le_trans h2 hx.size, ⟨v, h3.stay hx, own_frmN h3' (Frm.of_below hx (fun _ => False)) (fun _ _ h => h)⟩, fun t ht => (h4 t ht).stay hx,
    (hx.block _ (by omega)).trans h5, (hx.block _ (by omega)).trans h6⟩
/-- the record alone has turned -/
theorem GrowA.turn {g0 : Nat} {wz : World} {r r' : Loop} {pre : List At} {V : World} (h : GrowA g0 wz r pre V) : GrowA g0 wz r' pre (V.putObj (g0 + 3) (.loop r')) := by
  obtain ⟨h1, h2, ⟨v, h3, h3'⟩, h4, h5, h6⟩ := h
  have hf : Frm (fun k => k = g0 + 3) V (V.putObj (g0 + 3) (.loop r')) := Frm.of_grown (grownBy_putObj' V (g0 + 3) (.loop r')) (fun k hk => by injection hk)
  have hlt : g0 + 3 < V.heap.size := by omega
  have hno : ∀ g e cs, Blk V g e cs → ¬ g = g0 + 3 := fun g e cs hb e' => by
    subst e'
    have hb' : V.heap[g0 + 3]? = some (.cells cs e) := hb
    rw [h5] at hb'
    cases hb'
  refine ⟨Frm.tr h1 (hf.mono (fun k hk => .inr (by omega))), Nat.le_trans h2 hf.size, ⟨v, h3.frm hf (hno _ _ _ h3), own_frmN h3' hf (fun k hk => ?_)⟩, fun t ht => (h4 t ht).of (fun g cs hb => hb.frm hf (hno _ _ _ hb)), World.putObj_heap_same hlt, (World.putObj_heap_other (by omega)).trans h6⟩
  obtain ⟨cs, hc⟩ := own_blk h3' hk
  exact hno _ _ _ hc
theorem GrowA.push {g0 : Nat} {wz : World} {r : Loop} {pre : List At} {V V2 : World} {v v' : Value} {x : At} (h1 : Frm (fun k => k = g0 ∨ g0 + 2 ≤ k) wz V) (h2 : g0 + 4 ≤ V.heap.size) (h3 : Blk V g0 26 #[v]) (h3' : V.ownsRow (g0 + 4) 50 14 v pre.length (flatA pre))
    (h4 : ∀ t ∈ pre, In V t.A t.cap t.x.r.l) (hx : In V x.A x.cap x.x.r.l) (h5 : V.heap[g0 + 3]? = some (.loop r)) (h6 : V.heap[g0 + 2]? = some (.deferred (some [])))
    (hg : V.grownBy V2 v.ownBlock) (ho : V2.ownsRow (g0 + 4) 50 14 v' (pre.length + 1) (flatA pre ++ acRow x.x x.A x.cap)) :
    GrowA g0 wz r (pre ++ [x]) (V2.setCell ⟨g0, 0, none⟩ v') := by
  have hlow : ∀ k, v.ownBlock = some k → g0 + 4 ≤ k := fun k hk => (h3'.lt k hk).1
  have hF1 : Frm (fun k => some k = v.ownBlock) V V2 := Frm.of_grown hg (fun k hk => hk)
  have hB2 : Blk V2 g0 26 #[v] := h3.frm hF1 (fun e => by have := hlow g0 e.symm; omega)
  have hF2 : Frm (fun k => k = g0) V2 (V2.setCell ⟨g0, 0, none⟩ v') := Frm.of_set _ _ _ rfl
  have hin : ∀ A c l, In V A c l → In (V2.setCell ⟨g0, 0, none⟩ v') A c l := fun A c l h => h.of fun g cs hb => by
    have hb2 : Blk V2 g 3 cs := hb.frm hF1 (fun e => by
      obtain ⟨cs', hc⟩ := own_blk h3' e.symm
      exact Blk.apart hc hb (by decide) rfl)
    exact hb2.frm hF2 (Blk.apart hb2 hB2 (by decide))
  have hobj : ∀ (k : Nat) (o : Obj), V.heap[k]? = some o → o.isCells = false → (V2.setCell ⟨g0, 0, none⟩ v').heap[k]? = some o := fun k o hk ho => by
    have hlt : k < V.heap.size := (Array.getElem?_eq_some_iff.1 hk).1
    have hk2 : V2.heap[k]? = some o := (hF1.block k hlt (fun e => by
      obtain ⟨cs', hc⟩ := own_blk h3' e.symm
      have hc' : V.heap[k]? = some (.cells cs' 50) := hc
      rw [hk] at hc'
      injection hc' with hc'
      subst hc'
      cases ho)).trans hk
    refine (hF2.block k (Array.getElem?_eq_some_iff.1 hk2).1 (fun e => ?_)).trans hk2
    subst e
    have hb2 : V2.heap[k]? = some (.cells #[v] 26) := hB2
    rw [hk2] at hb2
    injection hb2 with hb2
    subst hb2
    cases ho
  refine ⟨Frm.tr (Frm.tr h1 (hF1.mono (fun k hk => .inr (by have := hlow k hk.symm; omega)))) (hF2.mono (fun k hk => .inl hk)), Nat.le_trans h2 (Nat.le_trans hF1.size hF2.size), ⟨v', by simpa using hB2.set 0 v', ?_⟩, ?_, hobj _ _ h5 rfl, hobj _ _ h6 rfl⟩
  · have := own_frmN ho hF2 (fun k hk e => by have := (ho.lt k hk).1; omega)
    rw [flatA_append, List.length_append]
    simpa [flatA] using this
  · intro t ht
    rcases List.mem_append.1 ht with ht | ht
    · exact hin _ _ _ (h4 t ht)
    · rw [List.mem_singleton] at ht
      subst ht
      exact hin _ _ _ hx

/-- when all is done: the list reads as the acts, behind the record's end too -/
theorem GrowA.fin {g0 : Nat} {wz : World} {r : Loop} {pre : List At} {V : World} (h : GrowA g0 wz r pre V) : ∃ A c, Blk V g0 26 #[.slice A pre.length c] ∧ pre.length ≤ c ∧ Acs (V.putObj (g0 + 2) (.deferred none)) A pre ∧ Frm (fun k => k = g0 ∨ g0 + 2 ≤ k) wz (V.putObj (g0 + 2) (.deferred none)) := by
  obtain ⟨h1, h2, ⟨v, h3, h3'⟩, h4, h5, h6⟩ := h
  have hf : Frm (fun k => k = g0 + 2) V (V.putObj (g0 + 2) (.deferred none)) := Frm.of_grown (grownBy_putObj' V (g0 + 2) (.deferred none)) (fun k hk => by injection hk)
  have hno : ∀ g e cs, Blk V g e cs → ¬ g = g0 + 2 := fun g e cs hb e' => by
    subst e'
    have hb' : V.heap[g0 + 2]? = some (.cells cs e) := hb
    rw [h6] at hb'
    cases hb'
  have h3'' := own_frmN h3' hf (fun k hk => by
    obtain ⟨cs, hc⟩ := own_blk h3' hk
    exact hno _ _ _ hc)
  obtain ⟨_, A, c, rfl, hc, ha⟩ := ownA_view h3'' (fun t ht => ((h4 t ht).of (fun g cs hb => hb.frm hf (hno _ _ _ hb))).sl)
  exact ⟨A, c, h3, hc, ha, Frm.tr h1 (hf.mono (fun k hk => .inr (by omega)))⟩

set_option maxRecDepth 100000 in
set_option maxHeartbeats 16000000 in
theorem acts_any (base P : Nat) (G : Option Nat) (st : Ps) (w : World) (H : PAt w base P G st) (hn : st.acts.length ≤ 1000000) (hr : ∀ a ∈ st.acts, a.r.l.length ≤ 1000000) :
    Calls Try.prog 19 #[.pointer (some ⟨P, 0, none⟩)] w fun e w' => ∃ A c L, e = .returned (.slice A (List.length L) c) ∧ L.map At.x = st.acts ∧ L.length ≤ c ∧ Acs w' A L ∧ Ext w w' := by
  refine hide_post fun D' hD' => ?_
  obtain ⟨hbP, v, l0, l1, l2, l3, p0, p1, p2, p3, o0, o1, o2, o3, L, kP, hl, hw, hwt, hown, hG, hL, hin⟩ := H
  obtain ⟨_, A, cap, rfl, hcap, hacs⟩ := ownA_view hown (fun t ht => (hin t ht).sl)
  obtain ⟨g0, hg0⟩ : ∃ g0, g0 = w.heap.size := ⟨_, rfl⟩
  have HG0 := Lib.hid hg0
  have hLn : L.length ≤ 1000000 := by have h5 := congrArg List.length hL; rw [List.length_map] at h5; omega
  have hLr : ∀ t ∈ L, t.x.r.l.length ≤ 1000000 := fun t ht => hr t.x (by rw [← hL]; exact List.mem_map_of_mem ht)
  have hPlt : P < g0 := by rw [hg0]; exact kP.lt
  have hvlt : ∀ k, (Value.slice A L.length cap).ownBlock = some k → k < g0 := fun k hk => by
    rw [hg0]
    obtain ⟨cs, hc⟩ := own_blk hown hk
    exact hc.lt
  have HPK := Lib.hid kP
  have HOW := Lib.hid hown
  have HINS := Lib.hid hin
  have HL := Lib.hid hL
  clear hl hw hwt hG hcap hacs hbP kP hown hin hL hr hn
  refine (callsIn_wide (n := 6)).1 ?_
  refine callsIn_of_wp_marks Try.func19 rfl trivial ?_ rfl
  simp only [Try.ntmps19, List.size_toArray, List.length_cons, List.length_nil, Nat.reduceAdd, Nat.reduceSub, Array.replicate_succ, Array.replicate_zero, List.push_toArray, List.append_toArray, List.nil_append, List.cons_append]
  gi_wp2_with (refine ⟨trivial, ?_⟩; gi_at_call 40; refine (callsIn_wide.2 (all_any _ _)).mono ?_; rintro e w2 ⟨rfl, rfl⟩)
  obtain ⟨wz, hwz⟩ : ∃ wz, wz = ((w.alloc (.cells #[.slice none 0 0] 26)).alloc (.cells #[.pointer (some ⟨P, 0, none⟩)] 23)) := ⟨_, rfl⟩
  rw [← hwz]
  rw [← hg0]
  refine range_go (n := 5) rfl (enters_of Try.func52 (by kernel_rfl) rfl) ?_
  intro r hF hst hpe htm hps has hbo
  have hzs : wz.heap.size = g0 + 2 := by rw [hwz, hg0]; simp
  rw [hzs]
  obtain ⟨W1, hW1⟩ : ∃ W1, W1 = (wz.alloc (.deferred (some []))).alloc (.loop r) := ⟨_, rfl⟩
  rw [← hW1]
  have HACS : Acs w A L := by
    obtain ⟨_, A', c', e, _, h⟩ := ownA_view HOW.out (fun t ht => (HINS.out t ht).sl)
    injection e with e1 e2 e3
    rw [e1]
    exact h
  have hxz : Ext w wz := by rw [hwz]; exact Ext.trans (Ext.alloc _ _) (Ext.alloc _ _)
  have hx1 : Ext wz W1 := by rw [hW1]; exact Ext.trans (Ext.alloc _ _) (Ext.alloc _ _)
  have HBb : Blk wz (g0 + 1) 23 #[.pointer (some ⟨P, 0, none⟩)] := by rw [hwz]; exact Blk.new' _ _ _ _ (by simp [hg0])
  have HBo : Blk wz g0 26 #[.slice none 0 0] := by rw [hwz, hg0]; exact (Blk.new w _ _).alloc _
  have hJ0 : GrowA g0 wz r [] W1 := ⟨Frm.of_below hx1 _, by rw [hW1]; simp; omega, ⟨_, HBo.stay hx1, World.ownsRow_nil _ _ _ _⟩, fun t ht => (by cases ht), by rw [hW1]; have := World.alloc_heap_new (wz.alloc (.deferred (some []))) (.loop r); rwa [World.size_alloc, hzs] at this, by
    rw [hW1]
    have h1 := World.alloc_heap_new wz (.deferred (some []))
    rw [hzs] at h1
    exact (Below.heap_alloc _ _ _ (by simp; omega)).trans h1⟩
  have hIns := HINS.out
  clear HOW hwz HBo hvlt
  have hEx : ∀ W', Frm (fun k => k = g0 ∨ g0 + 2 ≤ k) W1 W' → Ext w W' := fun W' hf => Frm.step (Ext.trans hxz hx1) hf (Ext.trans hxz hx1).size (by intro k hk; rw [← HG0.out]; omega)
  clear hg0
  refine (all_in 5 (by omega) (fun k => k = g0 ∨ g0 + 2 ≤ k) (g0 + 3) (g0 + 1) P A cap L hLn hLr (GrowA g0 wz r) W1
    (fun W' hf => ((HBb.stay hx1).frm hf (by omega)).cell 0) (fun W' hf => (HPK.out.stay (hEx W' hf)).cell 0)
    (fun W' hf => HACS.stay (hEx W' hf)) (fun pre V V' h hx => h.ext hx) ?round hJ0).mono ?fin
  case round =>
    rintro pre x V hJ hlt hx
    have hsz := hJ.big
    obtain ⟨⟨cl, sq, ans, ⟨qc, qs, qk, qi, qm, qd⟩, ⟨rc, rv, rd, rl⟩, at9⟩, xA, xc⟩ := x
    simp only at hx
    obtain ⟨rn, hrn⟩ : ∃ r, r = rl.length := ⟨_, rfl⟩
    have hact : actV ⟨⟨cl, sq, ans, ⟨qc, qs, qk, qi, qm, qd⟩, ⟨rc, rv, rd, rl⟩, at9⟩, xA, xc⟩ = .agg #[.int .i64 cl, .int .i64 sq, .bool ans, .int .i64 qc, .int .i64 qs, .int .i64 qk, .int .i64 qi, .int .i64 qm, .string qd, .int .i64 rc, .int .i64 rv, .string rd, .slice xA rn xc, .int .i64 at9] := by rw [hrn]; rfl
    rw [hact]
    refine round_go (r := r) hJ.rec_ (by rw [hps]; rfl) hst hF ?_
    obtain ⟨V1, hV1⟩ : ∃ V1, V1 = V.alloc (.cells #[.int .i64 cl, .int .i64 sq, .bool ans, .int .i64 qc, .int .i64 qs, .int .i64 qk, .int .i64 qi, .int .i64 qm, .string qd, .int .i64 rc, .int .i64 rv, .string rd, .slice xA rn xc, .int .i64 at9] 50) := ⟨_, rfl⟩
    obtain ⟨rb, hrb⟩ : ∃ rb : Loop, rb = { r with state := .busy } := ⟨_, rfl⟩
    obtain ⟨V2, hV2⟩ : ∃ V2, V2 = V1.putObj (g0 + 3) (.loop rb) := ⟨_, rfl⟩
    obtain ⟨z, hz⟩ : ∃ z, z = V.heap.size := ⟨_, rfl⟩
    have hv1 : Ext V V1 := by rw [hV1]; exact Ext.alloc _ _
    have hJ1 := hJ.ext hv1
    have hJ2 : GrowA g0 wz rb pre V2 := by rw [hV2]; exact hJ1.turn
    have hfv : Frm (fun k => k = g0 + 3) V1 V2 := by rw [hV2]; exact Frm.of_grown (grownBy_putObj' V1 (g0 + 3) (.loop rb)) (fun k hk => by injection hk)
    have hzl : g0 + 4 ≤ z := by rw [hz]; exact hsz
    have HBX : Blk V2 z 50 #[.int .i64 cl, .int .i64 sq, .bool ans, .int .i64 qc, .int .i64 qs, .int .i64 qk, .int .i64 qi, .int .i64 qm, .string qd, .int .i64 rc, .int .i64 rv, .string rd, .slice xA rn xc, .int .i64 at9] := by
      have : Blk V1 z 50 #[.int .i64 cl, .int .i64 sq, .bool ans, .int .i64 qc, .int .i64 qs, .int .i64 qk, .int .i64 qi, .int .i64 qm, .string qd, .int .i64 rc, .int .i64 rv, .string rd, .slice xA rn xc, .int .i64 at9] := by rw [hV1, hz]; exact Blk.new _ _ _
      exact this.frm hfv (by omega)
    have hx2 : In V2 xA xc rl := (hx.stay hv1).of (fun g cs hb => hb.frm hfv (fun e => by
      have hb' : V1.heap[g]? = some (.cells cs 3) := hb
      rw [e, hJ1.rec_] at hb'
      cases hb'))
    have hFV2 : Frm (fun k => k = g0 ∨ g0 + 2 ≤ k) V V2 := Frm.tr (Frm.of_below hv1 _) (hfv.mono (fun k hk => .inr (by omega)))
    have h1rec := Lib.hid hJ1.rec_
    have HV1 := Lib.hid hV1
    have HV2 := Lib.hid hV2
    have hrbr : { rb with state := .ready, pending := none } = r := by rw [hrb]; obtain ⟨a1, a2, a3, a4, a5, a6, a7, a8⟩ := r; simp only at hst hpe; subst hst hpe; rfl
    have HRBR := Lib.hid hrbr
    rw [htm, hps, has, hbo] at hrb
    have HRB := Lib.hid hrb
    have HZ := Lib.hid hz
    obtain ⟨hfrm, hbig, ⟨vv, hbo2, hrow⟩, hins, hrec2, hdfr⟩ := hJ2
    obtain ⟨vA, vc, rfl⟩ := own_shape hrow
    rw [has, hbo, htm, hps]
    have hb0 := hbo2.cell 0
    have hf0 := hbo2.frozen 0
    simp at hb0
    have x0 := HBX.cell 0
    have x1 := HBX.cell 1
    have x2 := HBX.cell 2
    have x3 := HBX.cell 3
    have x4 := HBX.cell 4
    have x5 := HBX.cell 5
    have x6 := HBX.cell 6
    have x7 := HBX.cell 7
    have x8 := HBX.cell 8
    have x9 := HBX.cell 9
    have x10 := HBX.cell 10
    have x11 := HBX.cell 11
    have x12 := HBX.cell 12
    have x13 := HBX.cell 13
    simp at x0 x1 x2 x3 x4 x5 x6 x7 x8 x9 x10 x11 x12 x13
    have hGrow : Hid (GrowA g0 wz rb pre V2) := ⟨hfrm, hbig, ⟨_, hbo2, hrow⟩, hins, hrec2, hdfr⟩
    have HROW := Lib.hid hrow
    have HBO := Lib.hid hbo2
    have HX2 := Lib.hid hx2
    have HFV := Lib.hid hFV2
    have HRN := Lib.hid hrn
    have HNE : Hid (some g0 ≠ (Value.slice vA pre.length vc).ownBlock) := fun e => by
      have := (HROW.out.lt g0 e.symm).1
      omega
    obtain ⟨i0, hi, hz0, hz1, hz2⟩ := info_parts info_act
    have HNW : Hid (∀ (j : Nat) (u : Value), #[.int .i64 cl, .int .i64 sq, .bool ans, .int .i64 qc, .int .i64 qs, .int .i64 qk, .int .i64 qi, .int .i64 qm, .string qd, .int .i64 rc, .int .i64 rv, .string rd, .slice xA rn xc, .int .i64 at9].toList[j]? = some u → (V2.alloc (.cells #[.int .i64 cl, .int .i64 sq, .bool ans, .int .i64 qc, .int .i64 qs, .int .i64 qk, .int .i64 qi, .int .i64 qm, .string qd, .int .i64 rc, .int .i64 rv, .string rd, .slice xA rn xc, .int .i64 at9] 50)).cell? (Addr.add ⟨V2.heap.size, 0, none⟩ j) = some u) := fun j u hj => by
      rw [Go.WideShapes.add_plain, Nat.zero_add, (Blk.new V2 _ _).cell j]
      simpa using hj
    clear hxz hx1 HBb hJ0 hEx HACS hact hJ hJ1 hfv hv1 hV1 hV2 hrb hfrm hbig hbo2 hrow hins hrec2 hdfr HBX hx hx2 hFV2 hz hsz hrn hzs htm hps has hbo hW1 hrbr hpe hst
    gi_wp2
    rw [← HV1.out]
    refine ⟨h1rec.out, ?_⟩
    rw [← HZ.out, ← HRB.out, ← HV2.out]
    gi_wp2_with (gi_at_builtin; refine wpListIn_append_own_at _ rfl _ _ 26 rfl (g0 + 4) 50 i0 _ 14 144 Try.underlying26 hi hz0 hz1 hz2 rfl (by decide) (.slice vA pre.length vc) pre.length (flatA pre) rfl (HROW.out.alloc _) ⟨V2.heap.size, 0, none⟩ 1 1 #[.int .i64 cl, .int .i64 sq, .bool ans, .int .i64 qc, .int .i64 qs, .int .i64 qk, .int .i64 qi, .int .i64 qm, .string qd, .int .i64 rc, .int .i64 rv, .string rd, .slice xA rn xc, .int .i64 at9].toList rfl rfl HNW.out (by simp [Value.oneCell']) (by unfold maxLen; omega) (by omega) (by have := hGrow.out.big; simp; omega) ?_; intro v' w3 h1 h2 h3 h4; obtain ⟨A3, c3, rfl⟩ := own_shape h1; have H1 := Lib.hid h1; have H2 := Lib.hid h2; have HB3 := (HBO.out.alloc _).grown h2 HNE.out; have q0 := HB3.cell 0; have f0 := HB3.frozen 0; simp at q0; clear h1 h2 h3 h4 HB3)
    have hE0 : ∀ o, Ext V2 (V2.alloc o) := fun o => Ext.alloc _ _
    have hg2 := hGrow.out.ext (hE0 (.cells #[.int .i64 cl, .int .i64 sq, .bool ans, .int .i64 qc, .int .i64 qs, .int .i64 qk, .int .i64 qi, .int .i64 qm, .string qd, .int .i64 rc, .int .i64 rv, .string rd, .slice xA rn xc, .int .i64 at9] 50))
    obtain ⟨hfrm, hbig, ⟨vv, hbo2, hrow⟩, hins, hrec2, hdfr⟩ := hg2
    have hvv : vv = .slice vA pre.length vc := by
      have h7 : Blk _ g0 _ _ := HBO.out.alloc (.cells #[.int .i64 cl, .int .i64 sq, .bool ans, .int .i64 qc, .int .i64 qs, .int .i64 qk, .int .i64 qi, .int .i64 qm, .string qd, .int .i64 rc, .int .i64 rv, .string rd, .slice xA rn xc, .int .i64 at9] 50)
      have h8 := hbo2.cell 0
      rw [h7.cell 0] at h8
      simpa using h8.symm
    subst hvv
    have hp := GrowA.push (x := ⟨⟨cl, sq, ans, ⟨qc, qs, qk, qi, qm, qd⟩, ⟨rc, rv, rd, rl⟩, at9⟩, xA, xc⟩) hfrm hbig hbo2 hrow hins (HX2.out.stay (hE0 _)) hrec2 hdfr H2.out (by rw [HRN.out] at H1; exact H1.out)
    refine ⟨rb, hp.rec_, ?_⟩
    rw [show ({ state := LoopState.ready, pending := none, fn := rb.fn, tmps := rb.tmps, params := rb.params, assign := rb.assign, body := rb.body, defers := rb.defers } : Loop) = r from HRBR.out]
    refine ⟨hp.turn, ?_⟩
    refine Frm.tr (Frm.tr HFV.out ((Frm.of_alloc _ _ _).trans (Frm.of_grown H2.out (fun k hk => ?_)) (fun _ _ h => h))) (Frm.tr (Frm.of_set _ _ _ (.inl rfl)) (Frm.of_grown (grownBy_putObj' _ (g0 + 3) (.loop r)) (fun k hk => ?_)))
    · have := (HROW.out.lt k hk.symm).1
      exact .inr (by omega)
    · injection hk with hk
      exact .inr (by omega)
  case fin =>
    rintro e W2 ⟨⟨v, rfl⟩, ys, hys, hJ⟩
    have hend := run_endLoop (P := Try.prog) hJ.rec_ (by rw [hst]; simp)
    rw [hpe] at hend
    refine ⟨none, _, hend, ?_⟩
    obtain ⟨re, hre⟩ : ∃ re : Loop, re = { r with state := .exhausted } := ⟨_, rfl⟩
    have hJ3 : GrowA g0 wz re ys (W2.putObj (g0 + 3) (.loop re)) := hJ.turn
    rw [hpe] at hre
    rw [← hre]
    obtain ⟨W3, hW3⟩ : ∃ W3, W3 = W2.putObj (g0 + 3) (.loop re) := ⟨_, rfl⟩
    rw [← hW3] at hJ3 ⊢
    obtain ⟨A3, c3, hb3, hc3, hacs3, hF3⟩ := hJ3.fin
    have hK3 := hJ3.dfr
    have q0 := hb3.cell 0
    simp at q0
    have HE : Hid (D' (.returned (.slice A3 ys.length c3)) (W3.putObj (g0 + 2) (.deferred none))) := hD'.out _ _ ⟨A3, c3, ys, rfl, by rw [hys]; exact HL.out, hc3, hacs3, Frm.step hxz hF3 hxz.size (by intro k hk; rw [← HG0.out]; omega)⟩
    clear hxz hx1 HBb hJ0 hEx HACS hJ hend hre hW3 hJ3 hb3 hc3 hacs3 hF3 htm hps has hbo hpe hst hys
    gi_wp2
    refine ⟨by simp, .inl ⟨_, _, rfl, run_takeDeferred hK3, ?_⟩⟩
    exact ⟨_, by simp [results, Try.results19, go_sem], HE.out⟩

end Go.Proofs.Ytnionfddejaalaa
