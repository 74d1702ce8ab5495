/-
  The walk of the law ReqSame.
-/
import Derived.Test.YtbjekbbokhjfmaaToldReq
import Derived.Test.YtbjekbbokhjfmaaRefMay
import Derived.Test.YtbjekbbokhjfmaaHeld
import Derived.Test.YtbjekbbokhjfmaaOpenReq
namespace Go.Proofs.Ytbjekbbokhjfmaa
set_option linter.unusedVariables false
set_option linter.unusedSimpArgs false
open Go.RowKit Go.ChangeShapes Go.WideShapes

theorem Ext.drewR {w w1 : World} (h : Ext w w1) : Ext w w1.drew := Below.drew h

theorem eql_if (c s k i m c' s' k' i' m' : Int) (d d' : ByteArray) (r : Bool) (hr : decide (c = c' ∧ s = s' ∧ k = k' ∧ i = i' ∧ m = m' ∧ d = d') = r) (W : World) :
    (if c = c' then if s = s' then if k = k' then if i = i' then if m = m' then if d.toList = d'.toList then Result.ok (Next.value (Value.bool true)) W else Result.ok (Next.value (Value.bool false)) W else Result.ok (Next.value (Value.bool false)) W else Result.ok (Next.value (Value.bool false)) W else Result.ok (Next.value (Value.bool false)) W
      else Result.ok (Next.value (Value.bool false)) W else Result.ok (Next.value (Value.bool false)) W) = Result.ok (Next.value (Value.bool r)) W := by
  have hl : d.toList = d'.toList ↔ d = d' := ⟨fun h => Go.WideShapes.bytes_inj (by rwa [ByteArray.toList_eq, ByteArray.toList_eq] at h), fun h => by rw [h]⟩
  subst hr
  repeat' split
  all_goals simp_all

set_option maxHeartbeats 8000000 in
theorem walk_reqSame (ac as_ ak ai am : Int) (ad : ByteArray) (bc bs bk bi bm : Int) (bd : ByteArray) (rc rv : Int) (rd : ByteArray) (RA : Option Addr) (rcap : Nat) (rl : List Int) (sc sv : Int) (sd : ByteArray) (SA : Option Addr) (scap : Nat) (sl : List Int) (n : Int) (w : World)
    (had : ad.size ≤ maxLen) (hbd : bd.size ≤ maxLen) (hr : rl.length ≤ 9223372036854775807) (hR : Sl i64 w RA rl) (hs : sl.length ≤ 9223372036854775807) (hS : Sl i64 w SA sl) :
    Calls Try.prog 5 #[reqV ac as_ ak ai am ad, reqV bc bs bk bi bm bd, repV rc rv rd RA rl.length rcap, repV sc sv sd SA sl.length scap, .int .i64 n] w fun e w' => e = .returned (.bool true) ∧ Below w.heap.size w w' := by
  unfold maxLen at had hbd
  obtain ⟨w0, hw0⟩ : ∃ w0, w0 = (((w.alloc (.cells #[.int .i64 ac, .int .i64 as_, .int .i64 ak, .int .i64 ai, .int .i64 am, .string ad] 35)).alloc (.cells #[.int .i64 bc, .int .i64 bs, .int .i64 bk, .int .i64 bi, .int .i64 bm, .string bd] 35)).alloc (.cells #[.int .i64 rc, .int .i64 rv, .string rd, .slice RA rl.length rcap] 37)).alloc (.cells #[.int .i64 sc, .int .i64 sv, .string sd, .slice SA sl.length scap] 37) := ⟨_, rfl⟩
  have hb0 : Below w.heap.size w w0 := by
    rw [hw0]
    exact ((((Below.refl _ _).alloc (Nat.le_refl _) _).alloc (by simp) _).alloc (by simp; omega) _).alloc (by simp; omega) _
  have k0 : Blk w0 w.heap.size 35 #[.int .i64 ac, .int .i64 as_, .int .i64 ak, .int .i64 ai, .int .i64 am, .string ad] := by rw [hw0]; exact ((((Blk.new _ _ _).alloc _).alloc _).alloc _)
  have k1 : Blk w0 (w.heap.size + 1) 35 #[.int .i64 bc, .int .i64 bs, .int .i64 bk, .int .i64 bi, .int .i64 bm, .string bd] := by rw [hw0]; exact (((Blk.new' _ _ _ _ (by simp)).alloc _).alloc _)
  have k2 : Blk w0 (w.heap.size + 1 + 1) 37 #[.int .i64 rc, .int .i64 rv, .string rd, .slice RA rl.length rcap] := by rw [hw0]; exact ((Blk.new' _ _ _ _ (by simp)).alloc _)
  have k3 : Blk w0 (w.heap.size + 1 + 1 + 1) 37 #[.int .i64 sc, .int .i64 sv, .string sd, .slice SA sl.length scap] := by rw [hw0]; exact Blk.new' _ _ _ _ (by simp)
  have fa0 : ∀ W, Ext w0 W → W.cell? ⟨w.heap.size, 0, none⟩ = some (.int .i64 ac) := fun W h => (k0.stay h).cell 0
  have fa1 : ∀ W, Ext w0 W → W.cell? ⟨w.heap.size, 1, none⟩ = some (.int .i64 as_) := fun W h => (k0.stay h).cell 1
  have fa2 : ∀ W, Ext w0 W → W.cell? ⟨w.heap.size, 2, none⟩ = some (.int .i64 ak) := fun W h => (k0.stay h).cell 2
  have fa3 : ∀ W, Ext w0 W → W.cell? ⟨w.heap.size, 3, none⟩ = some (.int .i64 ai) := fun W h => (k0.stay h).cell 3
  have fa4 : ∀ W, Ext w0 W → W.cell? ⟨w.heap.size, 4, none⟩ = some (.int .i64 am) := fun W h => (k0.stay h).cell 4
  have fa5 : ∀ W, Ext w0 W → W.cell? ⟨w.heap.size, 5, none⟩ = some (.string ad) := fun W h => (k0.stay h).cell 5
  have fb0 : ∀ W, Ext w0 W → W.cell? ⟨w.heap.size + 1, 0, none⟩ = some (.int .i64 bc) := fun W h => (k1.stay h).cell 0
  have fb1 : ∀ W, Ext w0 W → W.cell? ⟨w.heap.size + 1, 1, none⟩ = some (.int .i64 bs) := fun W h => (k1.stay h).cell 1
  have fb2 : ∀ W, Ext w0 W → W.cell? ⟨w.heap.size + 1, 2, none⟩ = some (.int .i64 bk) := fun W h => (k1.stay h).cell 2
  have fb3 : ∀ W, Ext w0 W → W.cell? ⟨w.heap.size + 1, 3, none⟩ = some (.int .i64 bi) := fun W h => (k1.stay h).cell 3
  have fb4 : ∀ W, Ext w0 W → W.cell? ⟨w.heap.size + 1, 4, none⟩ = some (.int .i64 bm) := fun W h => (k1.stay h).cell 4
  have fb5 : ∀ W, Ext w0 W → W.cell? ⟨w.heap.size + 1, 5, none⟩ = some (.string bd) := fun W h => (k1.stay h).cell 5
  have fr0 : ∀ W, Ext w0 W → W.cell? ⟨w.heap.size + 1 + 1, 0, none⟩ = some (.int .i64 rc) := fun W h => (k2.stay h).cell 0
  have fr1 : ∀ W, Ext w0 W → W.cell? ⟨w.heap.size + 1 + 1, 1, none⟩ = some (.int .i64 rv) := fun W h => (k2.stay h).cell 1
  have fr2 : ∀ W, Ext w0 W → W.cell? ⟨w.heap.size + 1 + 1, 2, none⟩ = some (.string rd) := fun W h => (k2.stay h).cell 2
  have fr3 : ∀ W, Ext w0 W → W.cell? ⟨w.heap.size + 1 + 1, 3, none⟩ = some (.slice RA rl.length rcap) := fun W h => (k2.stay h).cell 3
  have fs0 : ∀ W, Ext w0 W → W.cell? ⟨w.heap.size + 1 + 1 + 1, 0, none⟩ = some (.int .i64 sc) := fun W h => (k3.stay h).cell 0
  have fs1 : ∀ W, Ext w0 W → W.cell? ⟨w.heap.size + 1 + 1 + 1, 1, none⟩ = some (.int .i64 sv) := fun W h => (k3.stay h).cell 1
  have fs2 : ∀ W, Ext w0 W → W.cell? ⟨w.heap.size + 1 + 1 + 1, 2, none⟩ = some (.string sd) := fun W h => (k3.stay h).cell 2
  have fs3 : ∀ W, Ext w0 W → W.cell? ⟨w.heap.size + 1 + 1 + 1, 3, none⟩ = some (.slice SA sl.length scap) := fun W h => (k3.stay h).cell 3
  have HTO : Hid (∀ W, Ext w0 W → Calls Try.prog 19 #[] W fun e w' => e = .returned (.bool true) ∧ Ext W w') := fun W _ => told_req W
  have HMY : Hid (∀ W, Ext w0 W → Calls Try.prog 20 #[.agg #[.int .i64 ac, .int .i64 as_, .int .i64 ak, .int .i64 ai, .int .i64 am, .string ad]] W fun e w' => e = .returned (.bool (mayReqB ac as_ ak ai am ad.size)) ∧ Ext W w') := fun W _ => refMayReq_any ac as_ ak ai am ad W (by unfold maxLen; omega)
  obtain ⟨q, hq⟩ : ∃ q, decide (ac = bc ∧ as_ = bs ∧ ak = bk ∧ ai = bi ∧ am = bm ∧ ad = bd) = q := ⟨_, rfl⟩
  have HSA : Hid (∀ W, Ext w0 W → Calls Try.prog 21 #[.agg #[.int .i64 ac, .int .i64 as_, .int .i64 ak, .int .i64 ai, .int .i64 am, .string ad], .agg #[.int .i64 bc, .int .i64 bs, .int .i64 bk, .int .i64 bi, .int .i64 bm, .string bd]] W fun e w' => e = .returned (.bool q) ∧ Ext W w') := fun W _ => by have := same_any ac as_ ak ai am bc bs bk bi bm ad bd W; rw [hq] at this; exact this
  have HEQ := Lib.hid hq
  have HSS : Hid (∀ W, Ext w0 W → Calls Try.prog 21 #[.agg #[.int .i64 ac, .int .i64 as_, .int .i64 ak, .int .i64 ai, .int .i64 am, .string ad], .agg #[.int .i64 ac, .int .i64 as_, .int .i64 ak, .int .i64 ai, .int .i64 am, .string ad]] W fun e w' => e = .returned (.bool true) ∧ Ext W w') := fun W _ => by have := same_any ac as_ ak ai am ac as_ ak ai am ad ad W; rw [decide_eq_true (by simp)] at this; exact this
  obtain ⟨p, hp⟩ : ∃ p, decide (rc = sc ∧ rv = sv ∧ rd = sd ∧ rl = sl) = p := ⟨_, rfl⟩
  have HRS : Hid (∀ W, Ext w0 W → Calls Try.prog 22 #[.agg #[.int .i64 rc, .int .i64 rv, .string rd, .slice RA rl.length rcap], .agg #[.int .i64 sc, .int .i64 sv, .string sd, .slice SA sl.length scap]] W fun e w' => e = .returned (.bool p) ∧ Ext W w') := fun W h => by
    have := sameReply_any rc rv sc sv rd sd RA SA rl sl rcap scap W hr hs ((hR.stay hb0).stay h) ((hS.stay hb0).stay h)
    rw [hp] at this
    exact this
  have HRR : Hid (∀ W, Ext w0 W → Calls Try.prog 23 #[.agg #[.int .i64 rc, .int .i64 rv, .string rd, .slice RA rl.length rcap], .agg #[.int .i64 sc, .int .i64 sv, .string sd, .slice SA sl.length scap]] W fun e w' => e = .returned (.bool p) ∧ Ext W w') := fun W h => by
    have := refReply_any rc rv sc sv rd sd RA SA rl sl rcap scap W hr hs ((hR.stay hb0).stay h) ((hS.stay hb0).stay h)
    rw [hp] at this
    exact this
  have HRQ : Hid (∀ W, Ext w0 W → Calls Try.prog 22 #[.agg #[.int .i64 rc, .int .i64 rv, .string rd, .slice RA rl.length rcap], .agg #[.int .i64 rc, .int .i64 rv, .string rd, .slice RA rl.length rcap]] W fun e w' => e = .returned (.bool true) ∧ Ext W w') := fun W h => by
    have := sameReply_any rc rv rc rv rd rd RA RA rl rl rcap rcap W hr hr ((hR.stay hb0).stay h) ((hR.stay hb0).stay h)
    rw [decide_eq_true (by simp)] at this
    exact this
  have HKY : Hid (∀ W, Ext w0 W → Calls Try.prog 24 #[.agg #[.int .i64 ac, .int .i64 as_, .int .i64 ak, .int .i64 ai, .int .i64 am, .string ad]] W fun e w' => e = .returned (.int .i64 (if mayReqB ac as_ ak ai am ad.size then ai else -1)) ∧ Ext W w') := fun W _ => key_any ac as_ ak ai am ad W (by unfold maxLen; omega)
  have HNW : Hid (∀ W, Ext w0 W → Calls Try.prog 25 #[.agg #[.int .i64 ac, .int .i64 as_, .int .i64 ak, .int .i64 ai, .int .i64 am, .string ad], .int .i64 n] W fun e w' => e = .returned (.bool (mayReqB ac as_ ak ai am ad.size && decide (n < as_))) ∧ Ext W w') := fun W _ => newer_any ac as_ ak ai am ad n W (by unfold maxLen; omega)
  have E0 : Hid (Ext w0 w0) := Ext.refl w0
  have HB0 : Hid (Below w.heap.size w w0) := hb0
  generalize hmay : mayReqB ac as_ ak ai am ad.size = may at *
  clear hmay hq hp hb0 k0 k1 k2 k3 hR hS
  have HW0 : Hid (w0 = _) := hw0
  have G0 : Hid (∀ W, Ext w0 W → Below w.heap.size w W) := fun W h => Below.step HB0.out h
  clear hw0
  generalize rl.length = rn at *
  generalize sl.length = sn at *
  refine hide_post fun D hD => ?_
  by_cases hbig : 120 < rn ∨ (¬ 120 < rn ∧ 120 < sn) ∨ (¬ 120 < rn ∧ ¬ 120 < sn ∧ 300 < ad.size) ∨ (¬ 120 < rn ∧ ¬ 120 < sn ∧ ¬ 300 < ad.size ∧ 300 < bd.size)
  · rcases hbig with g1 | ⟨g1, g2⟩ | ⟨g1, g2, g3⟩ | ⟨g1, g2, g3, g4⟩
    all_goals
      clear HSA HSS HRS HRR HRQ HKY HNW HMY
      go_enter Try.func5, Try.ntmps5
      go_wp2_with (go_at_call 19; rw [← HW0.out]; (with_reducible refine (HTO.out _ E0.out).mono ?_); rintro e w1 ⟨rfl, hx⟩; have E1 := Lib.hid hx; clear hx)
      try go_ret
      exact hD.out _ _ ⟨rfl, G0.out _ E1.out⟩
  · have g1 : ¬ 120 < rn := by omega
    have g2 : ¬ 120 < sn := by omega
    have g3 : ¬ 300 < ad.size := by omega
    have g4 : ¬ 300 < bd.size := by omega
    clear hbig
    cases may
    all_goals
      simp only [Bool.false_eq_true, if_false, if_true, Bool.false_and, Bool.true_and] at HKY HNW
      go_enter Try.func5, Try.ntmps5
      go_wp2_with (go_at_call 20; rw [← HW0.out]; (with_reducible refine (HMY.out _ E0.out).mono ?_); rintro e w1 ⟨rfl, hx⟩; have E1 := Lib.hid hx; have ga := fa3 _ hx; clear hx)
    · refine ext_begin (by kernel_rfl) ?_
      have E1d := Lib.hid (Ext.drewR E1.out)
      refine ext_call (i := 0) rfl (by kernel_rfl) (by rfl) (fun K hK => ?_)
      go_simp
      (go_at_call 19; (with_reducible refine (HTO.out _ E1d.out).mono ?_); rintro e w2 ⟨rfl, hx⟩; refine hK _ _ hx ?_; clear hK)
      have Ew2 := Lib.hid (Ext.trans E1d.out hx)
      clear hx
      try simp only [Act.put, List.setIfInBounds_toArray, List.set_cons_zero, List.set_cons_succ]
      refine ext_take (i := 1) (v := ?_) rfl (by kernel_rfl) (by kernel_rfl) (by kernel_rfl) (fun _ _ _ h => h) (by rfl) ?_ ?_
      rotate_left
      · intro W hW; have hW0 := Ext.trans Ew2.out hW; clear hW; go_simp <;> with_reducible rfl
      try simp only [Act.put, List.setIfInBounds_toArray, List.set_cons_zero, List.set_cons_succ]
      refine ext_take (i := 2) (v := ?_) rfl (by kernel_rfl) (by kernel_rfl) (by kernel_rfl) (fun _ _ _ h => h) (by rfl) ?_ ?_
      rotate_left
      · intro W hW; have hW0 := Ext.trans Ew2.out hW; clear hW; go_simp <;> with_reducible rfl
      try simp only [Act.put, List.setIfInBounds_toArray, List.set_cons_zero, List.set_cons_succ]
      refine ext_take (i := 3) (v := ?_) rfl (by kernel_rfl) (by kernel_rfl) (by kernel_rfl) (fun _ _ _ h => h) (by rfl) ?_ ?_
      rotate_left
      · intro W hW; have hW0 := Ext.trans Ew2.out hW; clear hW; go_simp <;> with_reducible rfl
      try simp only [Act.put, List.setIfInBounds_toArray, List.set_cons_zero, List.set_cons_succ]
      refine ext_take (i := 5) (v := ?_) rfl (by kernel_rfl) (by kernel_rfl) (by kernel_rfl) (fun _ _ _ h => h) (by rfl) ?_ ?_
      rotate_left
      · intro W hW; have hW0 := Ext.trans Ew2.out hW; clear hW; go_simp <;> with_reducible rfl
      try simp only [Act.put, List.setIfInBounds_toArray, List.set_cons_zero, List.set_cons_succ]
      refine ext_take (i := 6) (v := ?_) rfl (by kernel_rfl) (by kernel_rfl) (by kernel_rfl) (fun _ _ _ h => h) (by rfl) ?_ ?_
      rotate_left
      · intro W hW; have hW0 := Ext.trans Ew2.out hW; clear hW; go_simp <;> with_reducible rfl
      try simp only [Act.put, List.setIfInBounds_toArray, List.set_cons_zero, List.set_cons_succ]
      refine ext_take (i := 7) (v := .bool q) rfl (by kernel_rfl) (by kernel_rfl) (by kernel_rfl) (fun _ _ _ h => h) (by rfl) ?_ ?_
      · intro W hW; have hW0 := Ext.trans Ew2.out hW; clear hW; (go_simp; exact eql_if _ _ _ _ _ _ _ _ _ _ _ _ q HEQ.out W)
      try simp only [Act.put, List.setIfInBounds_toArray, List.set_cons_zero, List.set_cons_succ]
      refine ext_call (i := 4) rfl (by kernel_rfl) (by rfl) (fun K hK => ?_)
      go_simp
      (go_at_call 21; (with_reducible refine (HSA.out _ Ew2.out).mono ?_); rintro e w3 ⟨rfl, hx⟩; refine hK _ _ hx ?_; clear hK)
      have Ew3 := Lib.hid (Ext.trans Ew2.out hx)
      clear hx
      try simp only [Act.put, List.setIfInBounds_toArray, List.set_cons_zero, List.set_cons_succ]
      refine ext_take (i := 8) (v := ?_) rfl (by kernel_rfl) (by kernel_rfl) (by kernel_rfl) (fun _ _ _ h => h) (by rfl) ?_ ?_
      rotate_left
      · intro W hW; have hW0 := Ext.trans Ew3.out hW; clear hW; go_simp <;> with_reducible rfl
      try simp only [Act.put, List.setIfInBounds_toArray, List.set_cons_zero, List.set_cons_succ]
      refine ext_take (i := 9) (v := ?_) rfl (by kernel_rfl) (by kernel_rfl) (by kernel_rfl) (fun _ _ _ h => h) (by rfl) ?_ ?_
      rotate_left
      · intro W hW; have hW0 := Ext.trans Ew3.out hW; clear hW; go_simp <;> with_reducible rfl
      try simp only [Act.put, List.setIfInBounds_toArray, List.set_cons_zero, List.set_cons_succ]
      refine ext_take (i := 10) (v := ?_) rfl (by kernel_rfl) (by kernel_rfl) (by kernel_rfl) (fun _ _ _ h => h) (by rfl) ?_ ?_
      rotate_left
      · intro W hW; have hW0 := Ext.trans Ew3.out hW; clear hW; go_simp <;> with_reducible rfl
      try simp only [Act.put, List.setIfInBounds_toArray, List.set_cons_zero, List.set_cons_succ]
      refine ext_take (i := 11) (v := ?_) rfl (by kernel_rfl) (by kernel_rfl) (by kernel_rfl) (fun _ _ _ h => h) (by rfl) ?_ ?_
      rotate_left
      · intro W hW; have hW0 := Ext.trans Ew3.out hW; clear hW; go_simp <;> with_reducible rfl
      try simp only [Act.put, List.setIfInBounds_toArray, List.set_cons_zero, List.set_cons_succ]
      refine ext_take (i := 12) (v := ?_) rfl (by kernel_rfl) (by kernel_rfl) (by kernel_rfl) (fun _ _ _ h => h) (by rfl) ?_ ?_
      rotate_left
      · intro W hW; have hW0 := Ext.trans Ew3.out hW; clear hW; go_simp <;> with_reducible rfl
      try simp only [Act.put, List.setIfInBounds_toArray, List.set_cons_zero, List.set_cons_succ]
      refine ext_call (i := 13) rfl (by kernel_rfl) (by rfl) (fun K hK => ?_)
      go_simp
      (go_at_call 21; (with_reducible refine (HSS.out _ Ew3.out).mono ?_); rintro e w4 ⟨rfl, hx⟩; refine hK _ _ hx ?_; clear hK)
      have Ew4 := Lib.hid (Ext.trans Ew3.out hx)
      clear hx
      try simp only [Act.put, List.setIfInBounds_toArray, List.set_cons_zero, List.set_cons_succ]
      refine ext_take (i := 14) (v := ?_) rfl (by kernel_rfl) (by kernel_rfl) (by kernel_rfl) (fun _ _ _ h => h) (by rfl) ?_ ?_
      rotate_left
      · intro W hW; have hW0 := Ext.trans Ew4.out hW; clear hW; go_simp <;> with_reducible rfl
      try simp only [Act.put, List.setIfInBounds_toArray, List.set_cons_zero, List.set_cons_succ]
      refine ext_take (i := 15) (v := ?_) rfl (by kernel_rfl) (by kernel_rfl) (by kernel_rfl) (fun _ _ _ h => h) (by rfl) ?_ ?_
      rotate_left
      · intro W hW; have hW0 := Ext.trans Ew4.out hW; clear hW; go_simp <;> with_reducible rfl
      try simp only [Act.put, List.setIfInBounds_toArray, List.set_cons_zero, List.set_cons_succ]
      refine ext_take (i := 16) (v := ?_) rfl (by kernel_rfl) (by kernel_rfl) (by kernel_rfl) (fun _ _ _ h => h) (by rfl) ?_ ?_
      rotate_left
      · intro W hW; have hW0 := Ext.trans Ew4.out hW; clear hW; go_simp <;> with_reducible rfl
      try simp only [Act.put, List.setIfInBounds_toArray, List.set_cons_zero, List.set_cons_succ]
      refine ext_take (i := 17) (v := ?_) rfl (by kernel_rfl) (by kernel_rfl) (by kernel_rfl) (fun _ _ _ h => h) (by rfl) ?_ ?_
      rotate_left
      · intro W hW; have hW0 := Ext.trans Ew4.out hW; clear hW; go_simp <;> with_reducible rfl
      try simp only [Act.put, List.setIfInBounds_toArray, List.set_cons_zero, List.set_cons_succ]
      refine ext_take (i := 19) (v := ?_) rfl (by kernel_rfl) (by kernel_rfl) (by kernel_rfl) (fun _ _ _ h => h) (by rfl) ?_ ?_
      rotate_left
      · intro W hW; have hW0 := Ext.trans Ew4.out hW; clear hW; go_simp <;> with_reducible rfl
      try simp only [Act.put, List.setIfInBounds_toArray, List.set_cons_zero, List.set_cons_succ]
      refine ext_take (i := 20) (v := ?_) rfl (by kernel_rfl) (by kernel_rfl) (by kernel_rfl) (fun _ _ _ h => h) (by rfl) ?_ ?_
      rotate_left
      · intro W hW; have hW0 := Ext.trans Ew4.out hW; clear hW; go_simp <;> with_reducible rfl
      try simp only [Act.put, List.setIfInBounds_toArray, List.set_cons_zero, List.set_cons_succ]
      refine ext_call (i := 18) rfl (by kernel_rfl) (by rfl) (fun K hK => ?_)
      go_simp
      (go_at_call 22; (with_reducible refine (HRS.out _ Ew4.out).mono ?_); rintro e w5 ⟨rfl, hx⟩; refine hK _ _ hx ?_; clear hK)
      have Ew5 := Lib.hid (Ext.trans Ew4.out hx)
      clear hx
      try simp only [Act.put, List.setIfInBounds_toArray, List.set_cons_zero, List.set_cons_succ]
      refine ext_call (i := 21) rfl (by kernel_rfl) (by rfl) (fun K hK => ?_)
      go_simp
      (go_at_call 23; (with_reducible refine (HRR.out _ Ew5.out).mono ?_); rintro e w6 ⟨rfl, hx⟩; refine hK _ _ hx ?_; clear hK)
      have Ew6 := Lib.hid (Ext.trans Ew5.out hx)
      clear hx
      try simp only [Act.put, List.setIfInBounds_toArray, List.set_cons_zero, List.set_cons_succ]
      refine ext_take (i := 22) (v := ?_) rfl (by kernel_rfl) (by kernel_rfl) (by kernel_rfl) (fun _ _ _ h => h) (by rfl) ?_ ?_
      rotate_left
      · intro W hW; have hW0 := Ext.trans Ew6.out hW; clear hW; go_simp <;> with_reducible rfl
      try simp only [Act.put, List.setIfInBounds_toArray, List.set_cons_zero, List.set_cons_succ]
      refine ext_take (i := 23) (v := ?_) rfl (by kernel_rfl) (by kernel_rfl) (by kernel_rfl) (fun _ _ _ h => h) (by rfl) ?_ ?_
      rotate_left
      · intro W hW; have hW0 := Ext.trans Ew6.out hW; clear hW; go_simp <;> with_reducible rfl
      try simp only [Act.put, List.setIfInBounds_toArray, List.set_cons_zero, List.set_cons_succ]
      refine ext_take (i := 24) (v := ?_) rfl (by kernel_rfl) (by kernel_rfl) (by kernel_rfl) (fun _ _ _ h => h) (by rfl) ?_ ?_
      rotate_left
      · intro W hW; have hW0 := Ext.trans Ew6.out hW; clear hW; go_simp <;> with_reducible rfl
      try simp only [Act.put, List.setIfInBounds_toArray, List.set_cons_zero, List.set_cons_succ]
      refine ext_take (i := 25) (v := ?_) rfl (by kernel_rfl) (by kernel_rfl) (by kernel_rfl) (fun _ _ _ h => h) (by rfl) ?_ ?_
      rotate_left
      · intro W hW; have hW0 := Ext.trans Ew6.out hW; clear hW; go_simp <;> with_reducible rfl
      try simp only [Act.put, List.setIfInBounds_toArray, List.set_cons_zero, List.set_cons_succ]
      refine ext_take (i := 26) (v := ?_) rfl (by kernel_rfl) (by kernel_rfl) (by kernel_rfl) (fun _ _ _ h => h) (by rfl) ?_ ?_
      rotate_left
      · intro W hW; have hW0 := Ext.trans Ew6.out hW; clear hW; go_simp <;> with_reducible rfl
      try simp only [Act.put, List.setIfInBounds_toArray, List.set_cons_zero, List.set_cons_succ]
      refine ext_call (i := 27) rfl (by kernel_rfl) (by rfl) (fun K hK => ?_)
      go_simp
      (go_at_call 22; (with_reducible refine (HRQ.out _ Ew6.out).mono ?_); rintro e w7 ⟨rfl, hx⟩; refine hK _ _ hx ?_; clear hK)
      have Ew7 := Lib.hid (Ext.trans Ew6.out hx)
      clear hx
      try simp only [Act.put, List.setIfInBounds_toArray, List.set_cons_zero, List.set_cons_succ]
      refine ext_take (i := 28) (v := ?_) rfl (by kernel_rfl) (by kernel_rfl) (by kernel_rfl) (fun _ _ _ h => h) (by rfl) ?_ ?_
      rotate_left
      · intro W hW; have hW0 := Ext.trans Ew7.out hW; clear hW; go_simp <;> with_reducible rfl
      try simp only [Act.put, List.setIfInBounds_toArray, List.set_cons_zero, List.set_cons_succ]
      refine ext_take (i := 29) (v := ?_) rfl (by kernel_rfl) (by kernel_rfl) (by kernel_rfl) (fun _ _ _ h => h) (by rfl) ?_ ?_
      rotate_left
      · intro W hW; have hW0 := Ext.trans Ew7.out hW; clear hW; go_simp <;> with_reducible rfl
      try simp only [Act.put, List.setIfInBounds_toArray, List.set_cons_zero, List.set_cons_succ]
      refine ext_take (i := 30) (v := ?_) rfl (by kernel_rfl) (by kernel_rfl) (by kernel_rfl) (fun _ _ _ h => h) (by rfl) ?_ ?_
      rotate_left
      · intro W hW; have hW0 := Ext.trans Ew7.out hW; clear hW; go_simp <;> with_reducible rfl
      try simp only [Act.put, List.setIfInBounds_toArray, List.set_cons_zero, List.set_cons_succ]
      refine ext_take (i := 32) (v := ?_) rfl (by kernel_rfl) (by kernel_rfl) (by kernel_rfl) (fun _ _ _ h => h) (by rfl) ?_ ?_
      rotate_left
      · intro W hW; have hW0 := Ext.trans Ew7.out hW; clear hW; go_simp <;> with_reducible rfl
      try simp only [Act.put, List.setIfInBounds_toArray, List.set_cons_zero, List.set_cons_succ]
      refine ext_call (i := 31) rfl (by kernel_rfl) (by rfl) (fun K hK => ?_)
      go_simp
      (go_at_call 24; (with_reducible refine (HKY.out _ Ew7.out).mono ?_); rintro e w8 ⟨rfl, hx⟩; refine hK _ _ hx ?_; clear hK)
      have Ew8 := Lib.hid (Ext.trans Ew7.out hx)
      clear hx
      try simp only [Act.put, List.setIfInBounds_toArray, List.set_cons_zero, List.set_cons_succ]
      refine ext_take (i := 33) (v := ?_) rfl (by kernel_rfl) (by kernel_rfl) (by kernel_rfl) (fun _ _ _ h => h) (by rfl) ?_ ?_
      rotate_left
      · intro W hW; have hW0 := Ext.trans Ew8.out hW; clear hW; go_simp <;> with_reducible rfl
      try simp only [Act.put, List.setIfInBounds_toArray, List.set_cons_zero, List.set_cons_succ]
      refine ext_take (i := 34) (v := ?_) rfl (by kernel_rfl) (by kernel_rfl) (by kernel_rfl) (fun _ _ _ h => h) (by rfl) ?_ ?_
      rotate_left
      · intro W hW; have hW0 := Ext.trans Ew8.out hW; clear hW; go_simp <;> with_reducible rfl
      try simp only [Act.put, List.setIfInBounds_toArray, List.set_cons_zero, List.set_cons_succ]
      refine ext_take (i := 35) (v := ?_) rfl (by kernel_rfl) (by kernel_rfl) (by kernel_rfl) (fun _ _ _ h => h) (by rfl) ?_ ?_
      rotate_left
      · intro W hW; have hW0 := Ext.trans Ew8.out hW; clear hW; go_simp <;> with_reducible rfl
      try simp only [Act.put, List.setIfInBounds_toArray, List.set_cons_zero, List.set_cons_succ]
      refine ext_take (i := 36) (v := ?_) rfl (by kernel_rfl) (by kernel_rfl) (by kernel_rfl) (fun _ _ _ h => h) (by rfl) ?_ ?_
      rotate_left
      · intro W hW; have hW0 := Ext.trans Ew8.out hW; clear hW; go_simp <;> with_reducible rfl
      try simp only [Act.put, List.setIfInBounds_toArray, List.set_cons_zero, List.set_cons_succ]
      refine ext_take (i := 37) (v := ?_) rfl (by kernel_rfl) (by kernel_rfl) (by kernel_rfl) (fun _ _ _ h => h) (by rfl) ?_ ?_
      rotate_left
      · intro W hW; have hW0 := Ext.trans Ew8.out hW; clear hW; go_simp <;> with_reducible rfl
      try simp only [Act.put, List.setIfInBounds_toArray, List.set_cons_zero, List.set_cons_succ]
      refine ext_take (i := 39) (v := ?_) rfl (by kernel_rfl) (by kernel_rfl) (by kernel_rfl) (fun _ _ _ h => h) (by rfl) ?_ ?_
      rotate_left
      · intro W hW; have hW0 := Ext.trans Ew8.out hW; clear hW; go_simp <;> with_reducible rfl
      try simp only [Act.put, List.setIfInBounds_toArray, List.set_cons_zero, List.set_cons_succ]
      refine ext_call (i := 38) rfl (by kernel_rfl) (by rfl) (fun K hK => ?_)
      go_simp
      (go_at_call 25; (with_reducible refine (HNW.out _ Ew8.out).mono ?_); rintro e w9 ⟨rfl, hx⟩; refine hK _ _ hx ?_; clear hK)
      have Ew9 := Lib.hid (Ext.trans Ew8.out hx)
      clear hx
      try simp only [Act.put, List.setIfInBounds_toArray, List.set_cons_zero, List.set_cons_succ]
      refine ext_take (i := 40) (v := ?_) rfl (by kernel_rfl) (by kernel_rfl) (by kernel_rfl) (fun _ _ _ h => h) (by rfl) ?_ ?_
      rotate_left
      · intro W hW; have hW0 := Ext.trans Ew9.out hW; clear hW; go_simp <;> with_reducible rfl
      try simp only [Act.put, List.setIfInBounds_toArray, List.set_cons_zero, List.set_cons_succ]
      refine ext_skip (i := 41) rfl (by kernel_rfl) (by kernel_rfl) (by kernel_rfl) (fun _ _ _ h => h) (by rfl) ?_
      try simp only [Act.put, List.setIfInBounds_toArray, List.set_cons_zero, List.set_cons_succ]
      refine ext_skip (i := 42) rfl (by kernel_rfl) (by kernel_rfl) (by kernel_rfl) (fun _ _ _ h => h) (by rfl) ?_
      try simp only [Act.put, List.setIfInBounds_toArray, List.set_cons_zero, List.set_cons_succ]
      refine ext_skip (i := 43) rfl (by kernel_rfl) (by kernel_rfl) (by kernel_rfl) (fun _ _ _ h => h) (by rfl) ?_
      try simp only [Act.put, List.setIfInBounds_toArray, List.set_cons_zero, List.set_cons_succ]
      refine ext_skip (i := 44) rfl (by kernel_rfl) (by kernel_rfl) (by kernel_rfl) (fun _ _ _ h => h) (by rfl) ?_
      try simp only [Act.put, List.setIfInBounds_toArray, List.set_cons_zero, List.set_cons_succ]
      refine ext_take (i := 45) (v := ?_) rfl (by kernel_rfl) (by kernel_rfl) (by kernel_rfl) (fun _ _ _ h => h) (by rfl) ?_ ?_
      rotate_left
      · intro W hW; have hW0 := Ext.trans Ew9.out hW; clear hW; go_simp <;> with_reducible rfl
      try simp only [Act.put, List.setIfInBounds_toArray, List.set_cons_zero, List.set_cons_succ]
      refine ext_take (i := 46) (v := ?_) rfl (by kernel_rfl) (by kernel_rfl) (by kernel_rfl) (fun _ _ _ h => h) (by rfl) ?_ ?_
      rotate_left
      · intro W hW; have hW0 := Ext.trans Ew9.out hW; clear hW; go_simp <;> with_reducible rfl
      try simp only [Act.put, List.setIfInBounds_toArray, List.set_cons_zero, List.set_cons_succ]
      refine ext_take (i := 47) (v := ?_) rfl (by kernel_rfl) (by kernel_rfl) (by kernel_rfl) (fun _ _ _ h => h) (by rfl) ?_ ?_
      rotate_left
      · intro W hW; have hW0 := Ext.trans Ew9.out hW; clear hW; go_simp <;> with_reducible rfl
      try simp only [Act.put, List.setIfInBounds_toArray, List.set_cons_zero, List.set_cons_succ]
      refine ext_take (i := 48) (v := ?_) rfl (by kernel_rfl) (by kernel_rfl) (by kernel_rfl) (fun _ _ _ h => h) (by rfl) ?_ ?_
      rotate_left
      · intro W hW; have hW0 := Ext.trans Ew9.out hW; clear hW; go_simp <;> with_reducible rfl
      try simp only [Act.put, List.setIfInBounds_toArray, List.set_cons_zero, List.set_cons_succ]
      refine wpAnyH_done (by kernel_rfl) ?_ _
      go_wp2
      try go_ret
      exact hD.out _ _ ⟨rfl, G0.out _ Ew9.out⟩
    · refine ext_begin (by kernel_rfl) ?_
      have E1d := Lib.hid (Ext.drewR E1.out)
      refine ext_call (i := 0) rfl (by kernel_rfl) (by rfl) (fun K hK => ?_)
      go_simp
      (go_at_call 19; (with_reducible refine (HTO.out _ E1d.out).mono ?_); rintro e w2 ⟨rfl, hx⟩; refine hK _ _ hx ?_; clear hK)
      have Ew2 := Lib.hid (Ext.trans E1d.out hx)
      clear hx
      try simp only [Act.put, List.setIfInBounds_toArray, List.set_cons_zero, List.set_cons_succ]
      refine ext_take (i := 1) (v := ?_) rfl (by kernel_rfl) (by kernel_rfl) (by kernel_rfl) (fun _ _ _ h => h) (by rfl) ?_ ?_
      rotate_left
      · intro W hW; have hW0 := Ext.trans Ew2.out hW; clear hW; go_simp <;> with_reducible rfl
      try simp only [Act.put, List.setIfInBounds_toArray, List.set_cons_zero, List.set_cons_succ]
      refine ext_take (i := 2) (v := ?_) rfl (by kernel_rfl) (by kernel_rfl) (by kernel_rfl) (fun _ _ _ h => h) (by rfl) ?_ ?_
      rotate_left
      · intro W hW; have hW0 := Ext.trans Ew2.out hW; clear hW; go_simp <;> with_reducible rfl
      try simp only [Act.put, List.setIfInBounds_toArray, List.set_cons_zero, List.set_cons_succ]
      refine ext_take (i := 3) (v := ?_) rfl (by kernel_rfl) (by kernel_rfl) (by kernel_rfl) (fun _ _ _ h => h) (by rfl) ?_ ?_
      rotate_left
      · intro W hW; have hW0 := Ext.trans Ew2.out hW; clear hW; go_simp <;> with_reducible rfl
      try simp only [Act.put, List.setIfInBounds_toArray, List.set_cons_zero, List.set_cons_succ]
      refine ext_take (i := 5) (v := ?_) rfl (by kernel_rfl) (by kernel_rfl) (by kernel_rfl) (fun _ _ _ h => h) (by rfl) ?_ ?_
      rotate_left
      · intro W hW; have hW0 := Ext.trans Ew2.out hW; clear hW; go_simp <;> with_reducible rfl
      try simp only [Act.put, List.setIfInBounds_toArray, List.set_cons_zero, List.set_cons_succ]
      refine ext_take (i := 6) (v := ?_) rfl (by kernel_rfl) (by kernel_rfl) (by kernel_rfl) (fun _ _ _ h => h) (by rfl) ?_ ?_
      rotate_left
      · intro W hW; have hW0 := Ext.trans Ew2.out hW; clear hW; go_simp <;> with_reducible rfl
      try simp only [Act.put, List.setIfInBounds_toArray, List.set_cons_zero, List.set_cons_succ]
      refine ext_take (i := 7) (v := .bool q) rfl (by kernel_rfl) (by kernel_rfl) (by kernel_rfl) (fun _ _ _ h => h) (by rfl) ?_ ?_
      · intro W hW; have hW0 := Ext.trans Ew2.out hW; clear hW; (go_simp; exact eql_if _ _ _ _ _ _ _ _ _ _ _ _ q HEQ.out W)
      try simp only [Act.put, List.setIfInBounds_toArray, List.set_cons_zero, List.set_cons_succ]
      refine ext_call (i := 4) rfl (by kernel_rfl) (by rfl) (fun K hK => ?_)
      go_simp
      (go_at_call 21; (with_reducible refine (HSA.out _ Ew2.out).mono ?_); rintro e w3 ⟨rfl, hx⟩; refine hK _ _ hx ?_; clear hK)
      have Ew3 := Lib.hid (Ext.trans Ew2.out hx)
      clear hx
      try simp only [Act.put, List.setIfInBounds_toArray, List.set_cons_zero, List.set_cons_succ]
      refine ext_take (i := 8) (v := ?_) rfl (by kernel_rfl) (by kernel_rfl) (by kernel_rfl) (fun _ _ _ h => h) (by rfl) ?_ ?_
      rotate_left
      · intro W hW; have hW0 := Ext.trans Ew3.out hW; clear hW; go_simp <;> with_reducible rfl
      try simp only [Act.put, List.setIfInBounds_toArray, List.set_cons_zero, List.set_cons_succ]
      refine ext_take (i := 9) (v := ?_) rfl (by kernel_rfl) (by kernel_rfl) (by kernel_rfl) (fun _ _ _ h => h) (by rfl) ?_ ?_
      rotate_left
      · intro W hW; have hW0 := Ext.trans Ew3.out hW; clear hW; go_simp <;> with_reducible rfl
      try simp only [Act.put, List.setIfInBounds_toArray, List.set_cons_zero, List.set_cons_succ]
      refine ext_take (i := 10) (v := ?_) rfl (by kernel_rfl) (by kernel_rfl) (by kernel_rfl) (fun _ _ _ h => h) (by rfl) ?_ ?_
      rotate_left
      · intro W hW; have hW0 := Ext.trans Ew3.out hW; clear hW; go_simp <;> with_reducible rfl
      try simp only [Act.put, List.setIfInBounds_toArray, List.set_cons_zero, List.set_cons_succ]
      refine ext_take (i := 11) (v := ?_) rfl (by kernel_rfl) (by kernel_rfl) (by kernel_rfl) (fun _ _ _ h => h) (by rfl) ?_ ?_
      rotate_left
      · intro W hW; have hW0 := Ext.trans Ew3.out hW; clear hW; go_simp <;> with_reducible rfl
      try simp only [Act.put, List.setIfInBounds_toArray, List.set_cons_zero, List.set_cons_succ]
      refine ext_take (i := 12) (v := ?_) rfl (by kernel_rfl) (by kernel_rfl) (by kernel_rfl) (fun _ _ _ h => h) (by rfl) ?_ ?_
      rotate_left
      · intro W hW; have hW0 := Ext.trans Ew3.out hW; clear hW; go_simp <;> with_reducible rfl
      try simp only [Act.put, List.setIfInBounds_toArray, List.set_cons_zero, List.set_cons_succ]
      refine ext_call (i := 13) rfl (by kernel_rfl) (by rfl) (fun K hK => ?_)
      go_simp
      (go_at_call 21; (with_reducible refine (HSS.out _ Ew3.out).mono ?_); rintro e w4 ⟨rfl, hx⟩; refine hK _ _ hx ?_; clear hK)
      have Ew4 := Lib.hid (Ext.trans Ew3.out hx)
      clear hx
      try simp only [Act.put, List.setIfInBounds_toArray, List.set_cons_zero, List.set_cons_succ]
      refine ext_take (i := 14) (v := ?_) rfl (by kernel_rfl) (by kernel_rfl) (by kernel_rfl) (fun _ _ _ h => h) (by rfl) ?_ ?_
      rotate_left
      · intro W hW; have hW0 := Ext.trans Ew4.out hW; clear hW; go_simp <;> with_reducible rfl
      try simp only [Act.put, List.setIfInBounds_toArray, List.set_cons_zero, List.set_cons_succ]
      refine ext_take (i := 15) (v := ?_) rfl (by kernel_rfl) (by kernel_rfl) (by kernel_rfl) (fun _ _ _ h => h) (by rfl) ?_ ?_
      rotate_left
      · intro W hW; have hW0 := Ext.trans Ew4.out hW; clear hW; go_simp <;> with_reducible rfl
      try simp only [Act.put, List.setIfInBounds_toArray, List.set_cons_zero, List.set_cons_succ]
      refine ext_take (i := 16) (v := ?_) rfl (by kernel_rfl) (by kernel_rfl) (by kernel_rfl) (fun _ _ _ h => h) (by rfl) ?_ ?_
      rotate_left
      · intro W hW; have hW0 := Ext.trans Ew4.out hW; clear hW; go_simp <;> with_reducible rfl
      try simp only [Act.put, List.setIfInBounds_toArray, List.set_cons_zero, List.set_cons_succ]
      refine ext_take (i := 17) (v := ?_) rfl (by kernel_rfl) (by kernel_rfl) (by kernel_rfl) (fun _ _ _ h => h) (by rfl) ?_ ?_
      rotate_left
      · intro W hW; have hW0 := Ext.trans Ew4.out hW; clear hW; go_simp <;> with_reducible rfl
      try simp only [Act.put, List.setIfInBounds_toArray, List.set_cons_zero, List.set_cons_succ]
      refine ext_take (i := 19) (v := ?_) rfl (by kernel_rfl) (by kernel_rfl) (by kernel_rfl) (fun _ _ _ h => h) (by rfl) ?_ ?_
      rotate_left
      · intro W hW; have hW0 := Ext.trans Ew4.out hW; clear hW; go_simp <;> with_reducible rfl
      try simp only [Act.put, List.setIfInBounds_toArray, List.set_cons_zero, List.set_cons_succ]
      refine ext_take (i := 20) (v := ?_) rfl (by kernel_rfl) (by kernel_rfl) (by kernel_rfl) (fun _ _ _ h => h) (by rfl) ?_ ?_
      rotate_left
      · intro W hW; have hW0 := Ext.trans Ew4.out hW; clear hW; go_simp <;> with_reducible rfl
      try simp only [Act.put, List.setIfInBounds_toArray, List.set_cons_zero, List.set_cons_succ]
      refine ext_call (i := 18) rfl (by kernel_rfl) (by rfl) (fun K hK => ?_)
      go_simp
      (go_at_call 22; (with_reducible refine (HRS.out _ Ew4.out).mono ?_); rintro e w5 ⟨rfl, hx⟩; refine hK _ _ hx ?_; clear hK)
      have Ew5 := Lib.hid (Ext.trans Ew4.out hx)
      clear hx
      try simp only [Act.put, List.setIfInBounds_toArray, List.set_cons_zero, List.set_cons_succ]
      refine ext_call (i := 21) rfl (by kernel_rfl) (by rfl) (fun K hK => ?_)
      go_simp
      (go_at_call 23; (with_reducible refine (HRR.out _ Ew5.out).mono ?_); rintro e w6 ⟨rfl, hx⟩; refine hK _ _ hx ?_; clear hK)
      have Ew6 := Lib.hid (Ext.trans Ew5.out hx)
      clear hx
      try simp only [Act.put, List.setIfInBounds_toArray, List.set_cons_zero, List.set_cons_succ]
      refine ext_take (i := 22) (v := ?_) rfl (by kernel_rfl) (by kernel_rfl) (by kernel_rfl) (fun _ _ _ h => h) (by rfl) ?_ ?_
      rotate_left
      · intro W hW; have hW0 := Ext.trans Ew6.out hW; clear hW; go_simp <;> with_reducible rfl
      try simp only [Act.put, List.setIfInBounds_toArray, List.set_cons_zero, List.set_cons_succ]
      refine ext_take (i := 23) (v := ?_) rfl (by kernel_rfl) (by kernel_rfl) (by kernel_rfl) (fun _ _ _ h => h) (by rfl) ?_ ?_
      rotate_left
      · intro W hW; have hW0 := Ext.trans Ew6.out hW; clear hW; go_simp <;> with_reducible rfl
      try simp only [Act.put, List.setIfInBounds_toArray, List.set_cons_zero, List.set_cons_succ]
      refine ext_take (i := 24) (v := ?_) rfl (by kernel_rfl) (by kernel_rfl) (by kernel_rfl) (fun _ _ _ h => h) (by rfl) ?_ ?_
      rotate_left
      · intro W hW; have hW0 := Ext.trans Ew6.out hW; clear hW; go_simp <;> with_reducible rfl
      try simp only [Act.put, List.setIfInBounds_toArray, List.set_cons_zero, List.set_cons_succ]
      refine ext_take (i := 25) (v := ?_) rfl (by kernel_rfl) (by kernel_rfl) (by kernel_rfl) (fun _ _ _ h => h) (by rfl) ?_ ?_
      rotate_left
      · intro W hW; have hW0 := Ext.trans Ew6.out hW; clear hW; go_simp <;> with_reducible rfl
      try simp only [Act.put, List.setIfInBounds_toArray, List.set_cons_zero, List.set_cons_succ]
      refine ext_take (i := 26) (v := ?_) rfl (by kernel_rfl) (by kernel_rfl) (by kernel_rfl) (fun _ _ _ h => h) (by rfl) ?_ ?_
      rotate_left
      · intro W hW; have hW0 := Ext.trans Ew6.out hW; clear hW; go_simp <;> with_reducible rfl
      try simp only [Act.put, List.setIfInBounds_toArray, List.set_cons_zero, List.set_cons_succ]
      refine ext_call (i := 27) rfl (by kernel_rfl) (by rfl) (fun K hK => ?_)
      go_simp
      (go_at_call 22; (with_reducible refine (HRQ.out _ Ew6.out).mono ?_); rintro e w7 ⟨rfl, hx⟩; refine hK _ _ hx ?_; clear hK)
      have Ew7 := Lib.hid (Ext.trans Ew6.out hx)
      clear hx
      try simp only [Act.put, List.setIfInBounds_toArray, List.set_cons_zero, List.set_cons_succ]
      refine ext_take (i := 28) (v := ?_) rfl (by kernel_rfl) (by kernel_rfl) (by kernel_rfl) (fun _ _ _ h => h) (by rfl) ?_ ?_
      rotate_left
      · intro W hW; have hW0 := Ext.trans Ew7.out hW; clear hW; go_simp <;> with_reducible rfl
      try simp only [Act.put, List.setIfInBounds_toArray, List.set_cons_zero, List.set_cons_succ]
      refine ext_take (i := 29) (v := ?_) rfl (by kernel_rfl) (by kernel_rfl) (by kernel_rfl) (fun _ _ _ h => h) (by rfl) ?_ ?_
      rotate_left
      · intro W hW; have hW0 := Ext.trans Ew7.out hW; clear hW; go_simp <;> with_reducible rfl
      try simp only [Act.put, List.setIfInBounds_toArray, List.set_cons_zero, List.set_cons_succ]
      refine ext_take (i := 30) (v := ?_) rfl (by kernel_rfl) (by kernel_rfl) (by kernel_rfl) (fun _ _ _ h => h) (by rfl) ?_ ?_
      rotate_left
      · intro W hW; have hW0 := Ext.trans Ew7.out hW; clear hW; go_simp <;> with_reducible rfl
      try simp only [Act.put, List.setIfInBounds_toArray, List.set_cons_zero, List.set_cons_succ]
      refine ext_take (i := 32) (v := ?_) rfl (by kernel_rfl) (by kernel_rfl) (by kernel_rfl) (fun _ _ _ h => h) (by rfl) ?_ ?_
      rotate_left
      · intro W hW; have hW0 := Ext.trans Ew7.out hW; clear hW; go_simp <;> with_reducible rfl
      try simp only [Act.put, List.setIfInBounds_toArray, List.set_cons_zero, List.set_cons_succ]
      refine ext_call (i := 31) rfl (by kernel_rfl) (by rfl) (fun K hK => ?_)
      go_simp
      (go_at_call 24; (with_reducible refine (HKY.out _ Ew7.out).mono ?_); rintro e w8 ⟨rfl, hx⟩; refine hK _ _ hx ?_; clear hK)
      have Ew8 := Lib.hid (Ext.trans Ew7.out hx)
      clear hx
      try simp only [Act.put, List.setIfInBounds_toArray, List.set_cons_zero, List.set_cons_succ]
      refine ext_take (i := 33) (v := ?_) rfl (by kernel_rfl) (by kernel_rfl) (by kernel_rfl) (fun _ _ _ h => h) (by rfl) ?_ ?_
      rotate_left
      · intro W hW; have hW0 := Ext.trans Ew8.out hW; clear hW; go_simp <;> with_reducible rfl
      try simp only [Act.put, List.setIfInBounds_toArray, List.set_cons_zero, List.set_cons_succ]
      refine ext_take (i := 34) (v := ?_) rfl (by kernel_rfl) (by kernel_rfl) (by kernel_rfl) (fun _ _ _ h => h) (by rfl) ?_ ?_
      rotate_left
      · intro W hW; have hW0 := Ext.trans Ew8.out hW; clear hW; go_simp <;> with_reducible rfl
      try simp only [Act.put, List.setIfInBounds_toArray, List.set_cons_zero, List.set_cons_succ]
      refine ext_take (i := 35) (v := ?_) rfl (by kernel_rfl) (by kernel_rfl) (by kernel_rfl) (fun _ _ _ h => h) (by rfl) ?_ ?_
      rotate_left
      · intro W hW; have hW0 := Ext.trans Ew8.out hW; clear hW; go_simp <;> with_reducible rfl
      try simp only [Act.put, List.setIfInBounds_toArray, List.set_cons_zero, List.set_cons_succ]
      refine ext_take (i := 36) (v := ?_) rfl (by kernel_rfl) (by kernel_rfl) (by kernel_rfl) (fun _ _ _ h => h) (by rfl) ?_ ?_
      rotate_left
      · intro W hW; have hW0 := Ext.trans Ew8.out hW; clear hW; go_simp <;> with_reducible rfl
      try simp only [Act.put, List.setIfInBounds_toArray, List.set_cons_zero, List.set_cons_succ]
      refine ext_take (i := 37) (v := ?_) rfl (by kernel_rfl) (by kernel_rfl) (by kernel_rfl) (fun _ _ _ h => h) (by rfl) ?_ ?_
      rotate_left
      · intro W hW; have hW0 := Ext.trans Ew8.out hW; clear hW; go_simp <;> with_reducible rfl
      try simp only [Act.put, List.setIfInBounds_toArray, List.set_cons_zero, List.set_cons_succ]
      refine ext_take (i := 39) (v := ?_) rfl (by kernel_rfl) (by kernel_rfl) (by kernel_rfl) (fun _ _ _ h => h) (by rfl) ?_ ?_
      rotate_left
      · intro W hW; have hW0 := Ext.trans Ew8.out hW; clear hW; go_simp <;> with_reducible rfl
      try simp only [Act.put, List.setIfInBounds_toArray, List.set_cons_zero, List.set_cons_succ]
      refine ext_call (i := 38) rfl (by kernel_rfl) (by rfl) (fun K hK => ?_)
      go_simp
      (go_at_call 25; (with_reducible refine (HNW.out _ Ew8.out).mono ?_); rintro e w9 ⟨rfl, hx⟩; refine hK _ _ hx ?_; clear hK)
      have Ew9 := Lib.hid (Ext.trans Ew8.out hx)
      clear hx
      try simp only [Act.put, List.setIfInBounds_toArray, List.set_cons_zero, List.set_cons_succ]
      refine ext_take (i := 40) (v := ?_) rfl (by kernel_rfl) (by kernel_rfl) (by kernel_rfl) (fun _ _ _ h => h) (by rfl) ?_ ?_
      rotate_left
      · intro W hW; have hW0 := Ext.trans Ew9.out hW; clear hW; go_simp <;> with_reducible rfl
      try simp only [Act.put, List.setIfInBounds_toArray, List.set_cons_zero, List.set_cons_succ]
      refine ext_take (i := 41) (v := ?_) rfl (by kernel_rfl) (by kernel_rfl) (by kernel_rfl) (fun _ _ _ h => h) (by rfl) ?_ ?_
      rotate_left
      · intro W hW; have hW0 := Ext.trans Ew9.out hW; clear hW; go_simp <;> with_reducible rfl
      try simp only [Act.put, List.setIfInBounds_toArray, List.set_cons_zero, List.set_cons_succ]
      refine ext_take (i := 42) (v := ?_) rfl (by kernel_rfl) (by kernel_rfl) (by kernel_rfl) (fun _ _ _ h => h) (by rfl) ?_ ?_
      rotate_left
      · intro W hW; have hW0 := Ext.trans Ew9.out hW; clear hW; go_simp <;> with_reducible rfl
      try simp only [Act.put, List.setIfInBounds_toArray, List.set_cons_zero, List.set_cons_succ]
      refine ext_take (i := 43) (v := ?_) rfl (by kernel_rfl) (by kernel_rfl) (by kernel_rfl) (fun _ _ _ h => h) (by rfl) ?_ ?_
      rotate_left
      · intro W hW; have hW0 := Ext.trans Ew9.out hW; clear hW; go_simp <;> with_reducible rfl
      try simp only [Act.put, List.setIfInBounds_toArray, List.set_cons_zero, List.set_cons_succ]
      refine ext_take (i := 44) (v := ?_) rfl (by kernel_rfl) (by kernel_rfl) (by kernel_rfl) (fun _ _ _ h => h) (by rfl) ?_ ?_
      rotate_left
      · intro W hW; have hW0 := Ext.trans Ew9.out hW; clear hW; go_simp <;> with_reducible rfl
      try simp only [Act.put, List.setIfInBounds_toArray, List.set_cons_zero, List.set_cons_succ]
      refine ext_take (i := 45) (v := ?_) rfl (by kernel_rfl) (by kernel_rfl) (by kernel_rfl) (fun _ _ _ h => h) (by rfl) ?_ ?_
      rotate_left
      · intro W hW; have hW0 := Ext.trans Ew9.out hW; clear hW; go_simp <;> with_reducible rfl
      try simp only [Act.put, List.setIfInBounds_toArray, List.set_cons_zero, List.set_cons_succ]
      refine ext_take (i := 46) (v := ?_) rfl (by kernel_rfl) (by kernel_rfl) (by kernel_rfl) (fun _ _ _ h => h) (by rfl) ?_ ?_
      rotate_left
      · intro W hW; have hW0 := Ext.trans Ew9.out hW; clear hW; go_simp <;> with_reducible rfl
      try simp only [Act.put, List.setIfInBounds_toArray, List.set_cons_zero, List.set_cons_succ]
      refine ext_take (i := 47) (v := ?_) rfl (by kernel_rfl) (by kernel_rfl) (by kernel_rfl) (fun _ _ _ h => h) (by rfl) ?_ ?_
      rotate_left
      · intro W hW; have hW0 := Ext.trans Ew9.out hW; clear hW; go_simp <;> with_reducible rfl
      try simp only [Act.put, List.setIfInBounds_toArray, List.set_cons_zero, List.set_cons_succ]
      refine ext_take (i := 48) (v := ?_) rfl (by kernel_rfl) (by kernel_rfl) (by kernel_rfl) (fun _ _ _ h => h) (by rfl) ?_ ?_
      rotate_left
      · intro W hW; have hW0 := Ext.trans Ew9.out hW; clear hW; go_simp <;> with_reducible rfl
      try simp only [Act.put, List.setIfInBounds_toArray, List.set_cons_zero, List.set_cons_succ]
      refine wpAnyH_done (by kernel_rfl) ?_ _
      go_wp2
      try go_ret
      exact hD.out _ _ ⟨rfl, G0.out _ Ew9.out⟩

theorem law_reqSame {H : Type} {enc : TypeId × Value → H} (W : World) (base : Nat) (args : Array Value) (ds : List (DataW H)) (p : List MemPlace)
    (hval : ∀ (j : Nat) t v, Try.f5.params[j]? = some t → args[j]? = some v → Value.okWide Try.prog W .any base t v)
    (hA : DataW.TrodAll enc Try.prog W 0 (fun _ => true) true Try.f5.params.toList args.toList ds p) :
    Calls Try.prog 5 args W fun e W' => e = .returned (.bool true) ∧ Below W.heap.size W W' := by
  rw [Try.params5] at hA hval
  obtain ⟨v0, vs0, d0, ds0, p0, q0, hargs, rfl, rfl, h0, r0⟩ := trodAll_cons hA
  obtain ⟨v1, vs1, d1, ds1, p1, q1, rfl, rfl, rfl, h1, r1⟩ := trodAll_cons r0
  obtain ⟨v2, vs2, d2, ds2, p2, q2, rfl, rfl, rfl, h2, r2⟩ := trodAll_cons r1
  obtain ⟨v3, vs3, d3, ds3, p3, q3, rfl, rfl, rfl, h3, r3⟩ := trodAll_cons r2
  obtain ⟨v4, vs4, d4, ds4, p4, q4, rfl, rfl, rfl, h4, r4⟩ := trodAll_cons r3
  obtain ⟨rfl, rfl, rfl⟩ := trodAll_nil r4
  obtain rfl : args = #[v0, v1, v2, v3, v4] := by cases args; simp_all
  obtain ⟨c0, s0, k0, i0, m0, x0, rfl, wc0, ws0, wk0, wi0, wm0, z0⟩ := open_req (hval 0 35 v0 rfl rfl) h0
  obtain ⟨c1, s1, k1, i1, m1, x1, rfl, wc1, ws1, wk1, wi1, wm1, z1⟩ := open_req (hval 1 35 v1 rfl rfl) h1
  obtain ⟨c2, n2, x2, A2, e2, l2, rfl, wc2, wn2, z2, y2, yy2, g2, gg2⟩ := open_reply (hval 2 37 v2 rfl rfl) h2
  obtain ⟨c3, n3, x3, A3, e3, l3, rfl, wc3, wn3, z3, y3, yy3, g3, gg3⟩ := open_reply (hval 3 37 v3 rfl rfl) h3
  obtain ⟨a4, rfl, rfl, rfl, w4⟩ := open_int Try.underlying3 (hval 4 3 v4 rfl rfl) h4
  exact walk_reqSame c0 s0 k0 i0 m0 x0 c1 s1 k1 i1 m1 x1 c2 n2 x2 A2 e2 l2 c3 n3 x3 A3 e3 l3 a4 W z0 z1 (Nat.le_trans y2 yy2) g2 (Nat.le_trans y3 yy3) g3
end Go.Proofs.Ytbjekbbokhjfmaa
