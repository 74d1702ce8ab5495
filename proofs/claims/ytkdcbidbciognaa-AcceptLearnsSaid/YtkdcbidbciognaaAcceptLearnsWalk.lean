/-
  The walk of the law AcceptLearns.
-/
import Derived.Test.YtkdcbidbciognaaAcceptRisesWalk
namespace Go.Proofs.Ytkdcbidbciognaa
set_option linter.unusedVariables false
set_option linter.unusedSimpArgs false
open Go.RowKit Go.ChangeShapes Go.WideShapes

theorem may_one {n r : Int} (h0 : 0 ≤ n) (h1 : n ≤ 999) (hr : 0 ≤ r ∧ r < 5) : mayChainB n [r] = true := by
  unfold mayChainB okNodes okNodes
  have e1 : decide (0 ≤ n ∧ n ≤ 1073741824) = true := decide_eq_true (by omega)
  have e2 : decide (0 ≤ r ∧ r ≤ 4) = true := decide_eq_true (by omega)
  rw [e1, e2]
  simp
theorem learn_one {v : AV} {n r : Int} (h0 : 0 ≤ n) (h1 : n ≤ 999) (hr : 0 ≤ r ∧ r < 5) (hn : v.n = 5) : learnE v n [r] = if n ≤ v.kep then 7 else 0 := by
  unfold learnE
  rw [may_one h0 h1 hr]
  have e : [r].any (badB v.n) = false := by
    rw [hn]
    simp only [List.any_cons, List.any_nil, Bool.or_false]
    unfold badB
    exact decide_eq_false (by omega)
  rw [e]
  by_cases h : n ≤ v.kep
  · rw [if_pos h]; simp [firstI, h]
  · rw [if_neg h]; simp [firstI, h]
theorem prep_late {v : AV} {ep br bn : Int} (hm : mayBal br bn = true) (h : ep ≤ v.kep) : prepE v ep br bn = 7 := by unfold prepE; simp [firstI, hm, h]
theorem prep_state {v : AV} {ep br bn : Int} (hm : mayBal br bn = true) (h : ¬ ep ≤ v.kep) (h2 : ¬ ep = v.kep + 1) : prepE v ep br bn = 4 := by unfold prepE; simp [firstI, hm, h, h2]
theorem and_one (j : Nat) (h : j < 20) : bits .and .i64 (j : Int) 1 = (((j % 2 : Nat)) : Int) := by
  have : ∀ j : Nat, j < 20 → bits .and .i64 (j : Int) 1 = (((j % 2 : Nat)) : Int) := by decide +kernel
  exact this j h
/-- an acceptor of five that knows epoch top -/
def LnI (w wr : World) (a : Nat) (top : Int) : Prop := ∃ v, AAt wr a v ∧ AOk v ∧ v.n = 5 ∧ v.kep = top ∧ Below w.heap.size w wr ∧ w.heap.size ≤ a
theorem LnI.drewN {w wr : World} {a N : Nat} {n : Int} (h : LnI w wr a n) : LnI w (wr.drewN N) a n := by
  obtain ⟨v, h1, h2, h3, h6, h4, h5⟩ := h
  have hx : Ext wr (wr.drewN N) := (Ext.refl _).drewN
  exact ⟨v, h1.stay hx, h2, h3, h6, Below.trans h4 (Below.mono hx h4.size), h5⟩
theorem eql_bal0 (w : World) : (binOp .neq 23 (.agg #[.int .i64 0, .int .i64 0]) (.agg #[.int .i64 0, .int .i64 0])).run Try.prog w = .ok (.bool false) w := by kernel_rfl

set_option maxRecDepth 8000 in
set_option maxHeartbeats 64000000 in
theorem walk_acceptLearns (A0 : Option Addr) (cap0 : Nat) (xs : List Int) (w : World) (hn : xs.length ≤ 9223372036854775807) (hS : Sl i64 w A0 xs) :
    Calls Try.prog 4 #[.slice A0 xs.length cap0] w fun e w' => e = .returned (.bool true) ∧ Below w.heap.size w w' := by
  refine hide_post fun D hD => ?_
  have CN : Hid (Calls Try.prog 26 #[.int .i64 5] w fun e w' => ∃ a, e = .returned (.tuple #[.pointer (some ⟨a, 0, none⟩), .int .i64 0]) ∧ AAt w' a ⟨5, 1, upTo 5, 0, 0, 0, 0, false, 0, []⟩ ∧ Ext w w' ∧ w.heap.size ≤ a) := new_yes 5 w (by decide) (by decide)
  have HTO : Hid (∀ V, Calls Try.prog 31 #[] V fun e w' => e = .returned (.bool true) ∧ Ext V w') := told13
  have HS := Lib.hid hS
  obtain ⟨nn, hnn⟩ : ∃ n, n = xs.length := ⟨_, rfl⟩
  rw [← hnn] at hn ⊢
  have HN := Lib.hid hnn
  clear hS hnn
  go_enter Try.func4, Try.ntmps4
  go_wp2_with (go_at_call 26; (with_reducible refine CN.out.mono ?_); rintro e w1 ⟨a, rfl, hA, hx, hba⟩; have HA1 := Lib.hid hA; have X1 := Lib.hid hx; have HBA : Hid (w.heap.size ≤ a) := hba; clear hA hx hba)
  have HI0 : Hid (LnI w w1 a 1) := ⟨_, HA1.out, ⟨by decide, by decide, by decide, by decide, by decide, fun _ => ⟨rfl, rfl, rfl, rfl⟩, fun h => by cases h⟩, rfl, rfl, X1.out, HBA.out⟩
  go_loopw [5, 6] (fun t i wr => ∃ (j : Nat) (top : Int), j ≤ nn ∧ j ≤ 20 ∧ i = .int .i64 j ∧ t = .int .i64 top ∧ 1 ≤ top ∧ top ≤ 999 ∧ Hid (LnI w wr a top)) (fun _ i _ => nn - (intOf i).toNat)
  case atStart => exact ⟨0, 1, Nat.zero_le _, by omega, rfl, rfl, by omega, by omega, HI0⟩
  case round =>
    obtain ⟨j, top, hj, hj8, rfl, rfl, ht1, ht9, HI⟩ := hrel
    by_cases hlt : j < nn ∧ j < 20
    · obtain ⟨v, hA, hok, hvn, hvk, hbw, hba⟩ := HI.out
      obtain ⟨b, o, rfl, hq⟩ := (HS.out.stay hbw).at_ (k := j) (by have := HN.out; omega)
      generalize xs[j]'(by have := HN.out; omega) = pa at *
      unfold i64 at hq
      obtain ⟨u0, u1⟩ := umod_bd pa 1000 (by omega) (by omega)
      obtain ⟨m, hm⟩ : ∃ m, m = wrap64 ((IntKind.u64.wrap pa).tmod 1000) := ⟨_, rfl⟩
      have hm' : wrap64 ((IntKind.u64.wrap pa).tmod 1000) = m := hm.symm
      have m0 : 0 ≤ m := by omega
      have m1 : m ≤ 999 := by omega
      obtain ⟨r, hr⟩ : ∃ r, r = m.tmod 5 := ⟨_, rfl⟩
      have hr5 : 0 ≤ r ∧ r < 5 := by rw [hr, Int.tmod_eq_emod_of_nonneg m0]; omega
      have hrw : wrap64 (m.tmod 5) = r := by rw [← hr]; unfold wrap64; omega
      have hrw2 : IntKind.i64.wrap (m.tmod 5) = r := by rw [← hr]; unfold IntKind.wrap; simp [IntKind.bits, IntKind.signed]; omega
      have hr' : m.tmod 5 = r := hr.symm
      have HR5 := Lib.hid hr5
      have HMB : Hid (0 ≤ m ∧ m ≤ 999) := ⟨m0, m1⟩
      have HA := Lib.hid hA
      have HOK := Lib.hid hok
      have HVN := Lib.hid hvn
      have HVK := Lib.hid hvk
      have HBW := Lib.hid hbw
      have HBA' : Hid (w.heap.size ≤ a) := hba
      have hj1 : (j : Int) < (nn : Int) := by omega
      have hj2 : (j : Int) < 20 := by omega
      have hj0 : (0 : Int) ≤ (j : Int) := by omega
      clear hA hok hvn hvk hbw hba HI u0 u1 hm hr hr5
      have OK2 : Hid (AOk ⟨5, m, [r], 0, 0, 0, 0, false, 0, []⟩) := ⟨show (1 : Int) ≤ 5 by decide, show (5 : Int) ≤ 5 by decide, may_one m0 m1 HR5.out, by simp only [List.any_cons, List.any_nil, Bool.or_false]; unfold badB; have := HR5.out; exact decide_eq_false (by omega), mayBal_zero, fun _ => ⟨rfl, rfl, rfl, rfl⟩, fun h => by cases h⟩
      have hbit : bits .and .i64 (j : Int) 1 = (((j % 2 : Nat)) : Int) := and_one j (by omega)
      obtain ⟨W0, hW0⟩ : ∃ W0, W0 = (wr.alloc (.cells #[.int .i64 r] 3)).alloc (.cells #[.int .i64 m, .slice (some ⟨wr.heap.size, 0, none⟩) 1 1] 26) := ⟨_, rfl⟩
      have hx0 : Ext wr W0 := by rw [hW0]; exact Ext.trans (ext_al _ _) (ext_al _ _)
      have KS : Hid (Blk W0 wr.heap.size 3 #[.int .i64 r]) := by show Blk _ _ _ _; rw [hW0]; exact (Blk.new _ _ _).alloc _
      have KC : Hid (Blk W0 (wr.heap.size + 1) 26 #[.int .i64 m, .slice (some ⟨wr.heap.size, 0, none⟩) 1 1]) := by show Blk _ _ _ _; rw [hW0]; exact Blk.new' _ _ _ _ (by simp)
      have X0 := Lib.hid hx0
      have HW0 := Lib.hid hW0
      have A0' := Lib.hid (HA.out.stay hx0)
      clear hx0 hW0
      by_cases hodd : j % 2 = 1
      · have hand : (j : Int) % 2 = 1 := by omega
        rw [hodd] at hbit
        have CP : Hid (∀ V, AAt V a v → Calls Try.prog 27 #[.pointer (some ⟨a, 0, none⟩), .int .i64 (top + 1), .agg #[.int .i64 (1 + (j : Int)), .int .i64 2]] V fun e w' => ∃ (R : AV) (A : Option Addr) (c : Nat), e = .returned (.tuple #[.agg #[.int .i64 R.pr, .int .i64 R.pn, .int .i64 R.ar, .int .i64 R.an, .bool R.has, .int .i64 R.vep, .slice A R.vns.length c], .int .i64 (prepE v (top + 1) (1 + (j : Int)) 2)]) ∧ AAt w' a (prepV v (top + 1) (1 + (j : Int)) 2) ∧ Frm (oneA a) V w') := fun V h => (prep_any a v (top + 1) (1 + (j : Int)) 2 V h HOK.out).mono fun e w' ⟨A, c, h1, _, h2, h3⟩ => ⟨prepR v (top + 1) (1 + (j : Int)) 2, A, c, h1, h2, h3⟩
        go_upto_region 12 with (go_at_call 27; rw [← HW0.out]; (with_reducible refine (CP.out _ A0'.out).mono ?_); rintro e wp ⟨R, A7, c7, rfl, hA, hf⟩; have Ap := Lib.hid hA; have Fp := Lib.hid hf; clear hA hf)
        have Okp : Hid (AOk (prepV v (top + 1) (1 + (j : Int)) 2)) := HOK.out.prep _ _ _
        have Np : Hid ((prepV v (top + 1) (1 + (j : Int)) 2).n = 5) := by (show _ = _); unfold prepV; split <;> exact HVN.out
        have Kp : Hid ((prepV v (top + 1) (1 + (j : Int)) 2).kep = top) := by (show _ = _); unfold prepV; split <;> exact HVK.out
        have hne : ∀ g t cs, Blk W0 g t cs → t ≠ 93 → ¬ g = a := fun g t cs h ht e => by obtain ⟨_, _, _, _, h3, _⟩ := A0'.out; subst e; exact Blk.apart h h3 ht rfl
        have KSp := Lib.hid (KS.out.frm Fp.out (hne _ _ _ KS.out (by decide)))
        have KCp := Lib.hid (KC.out.frm Fp.out (hne _ _ _ KC.out (by decide)))
        have Bp : Hid (Below w.heap.size w wp) := Frm.step (Below.trans HBW.out (Below.mono X0.out HBW.out.size)) Fp.out (Nat.le_trans HBW.out.size X0.out.size) (fun k hk => by rw [hk]; exact HBA.out)
        generalize prepE v (top + 1) (1 + (j : Int)) 2 = pe at *
        generalize prepV v (top + 1) (1 + (j : Int)) 2 = vp at *
        clear CP hne
        have HSL : Hid (Sl i64 wp (some ⟨wr.heap.size, 0, none⟩) [r]) := Sl.of_blk KSp.out (fun j v hj => by match j, hj with | 0, hj => (simp at hj; subst hj; rfl))
        have HNA : Hid ([r] ≠ [] → ∀ ad : Addr, (some ⟨wr.heap.size, 0, none⟩ : Option Addr) = some ad → ¬ ad.block = a) := fun _ ad e => by injection e with e; subst e; obtain ⟨_, _, _, _, h3, _⟩ := Ap.out; exact Blk.apart KSp.out h3 (by decide)
        have c0 := KCp.out.cell 0
        have c1 := KCp.out.cell 1
        simp at c0 c1
        by_cases hmt : m ≤ top
        · have hmt2 : ¬ top < m := by omega
          have CL : Hid (Calls Try.prog 28 #[.pointer (some ⟨a, 0, none⟩), .agg #[.int .i64 m, .slice (some ⟨wr.heap.size, 0, none⟩) 1 1]] wp fun e w' => e = .returned (.int .i64 7) ∧ Ext wp w') := learn_no a vp m (some ⟨wr.heap.size, 0, none⟩) 1 [r] 7 wp Ap.out (by simp) (by simp) HSL.out (by rw [learn_one HMB.out.1 HMB.out.2 HR5.out Np.out, Kp.out, if_pos hmt]) (by decide)
          go_wp2_with (go_at_call 28; (with_reducible refine CL.out.mono ?_); rintro e w5 ⟨rfl, hx⟩; have X5 := Lib.hid hx; clear hx)
          have hone : LnI w w5 a top := ⟨vp, Ap.out.stay X5.out, Okp.out, Np.out, Kp.out, Below.trans Bp.out (Below.mono X5.out Bp.out.size), HBA.out⟩
          go_roundw
          case rel => exact ⟨j + 1, top, by omega, by omega, by go_num, rfl, by omega, by omega, by first | exact hone | exact hone.drewN⟩
          case measure => simp [intOf]; omega
        · have hmt2 : top < m := by omega
          have CL : Hid (Calls Try.prog 28 #[.pointer (some ⟨a, 0, none⟩), .agg #[.int .i64 m, .slice (some ⟨wr.heap.size, 0, none⟩) 1 1]] wp fun e w' => e = .returned (.int .i64 0) ∧ AAt w' a ⟨5, m, [r], 0, 0, 0, 0, false, 0, []⟩ ∧ Frm (oneA a) wp w') := by
            have h0 : learnE vp m [r] = 0 := by rw [learn_one HMB.out.1 HMB.out.2 HR5.out Np.out, Kp.out, if_neg hmt]
            have hV : learnV vp m [r] = ⟨5, m, [r], 0, 0, 0, 0, false, 0, []⟩ := by unfold learnV; rw [if_pos h0, Np.out]
            have hq := learn_any a vp m (some ⟨wr.heap.size, 0, none⟩) 1 [r] wp Ap.out Okp.out (by simp) (by simp) HSL.out HNA.out
            rw [h0, hV] at hq
            exact hq
          have CV : Hid (∀ V, AAt V a ⟨5, m, [r], 0, 0, 0, 0, false, 0, []⟩ → Calls Try.prog 29 #[.pointer (some ⟨a, 0, none⟩)] V fun e w' => ∃ A c, e = .returned (.agg #[.int .i64 0, .int .i64 0, .int .i64 0, .int .i64 0, .bool false, .int .i64 0, .slice A 0 c]) ∧ Ext V w') := fun V H => (vote_any a _ V H (by simp)).mono fun e w' ⟨A, c, h1, _, h2⟩ => ⟨A, c, h1, h2⟩
          have CK : Hid (∀ V, AAt V a ⟨5, m, [r], 0, 0, 0, 0, false, 0, []⟩ → Calls Try.prog 30 #[.pointer (some ⟨a, 0, none⟩)] V fun e w' => ∃ A c, e = .returned (.agg #[.int .i64 m, .slice A 1 c]) ∧ In w' A c [r] ∧ Ext V w') := fun V H => known_any a _ V H (by simp)
          go_wp2_with (first
            | (go_at_call 28; (with_reducible refine CL.out.mono ?_); rintro e w5 ⟨rfl, hA, hf⟩; have A5 := Lib.hid hA; have F5 := Lib.hid hf; clear hA hf)
            | (go_at_call 29; (with_reducible refine (CV.out _ A5.out).mono ?_); rintro e w6 ⟨A8, c8, rfl, hx⟩; have X6 := Lib.hid hx; clear hx))
          obtain ⟨wz, hwz⟩ : ∃ wz, wz = w6.alloc (.cells #[.int .i64 0, .int .i64 0, .int .i64 0, .int .i64 0, .bool false, .int .i64 0, .slice A8 0 c8] 40) := ⟨_, rfl⟩
          have hxz : Ext w5 wz := by rw [hwz]; exact Ext.trans X6.out (ext_al _ _)
          have K10 : Hid (Blk wz w6.heap.size 40 #[.int .i64 0, .int .i64 0, .int .i64 0, .int .i64 0, .bool false, .int .i64 0, .slice A8 0 c8]) := by show Blk _ _ _ _; rw [hwz]; exact Blk.new _ _ _
          have Az := Lib.hid (A5.out.stay hxz)
          have Bz : Hid (Below w.heap.size w wz) := Below.trans (Frm.step Bp.out F5.out Bp.out.size (fun k hk => by rw [hk]; exact HBA.out)) (Below.mono hxz (Nat.le_trans Bp.out.size F5.out.size))
          have KCz : Hid (Blk wz (wr.heap.size + 1) 26 #[.int .i64 m, .slice (some ⟨wr.heap.size, 0, none⟩) 1 1]) := (KCp.out.frm F5.out (fun e => by obtain ⟨_, _, _, _, h3, _⟩ := Ap.out; have hb := KCp.out; rw [show wr.heap.size + 1 = a from e] at hb; exact Blk.apart hb h3 (by decide) rfl)).stay hxz
          have KSz : Hid (Blk wz wr.heap.size 3 #[.int .i64 r]) := (KSp.out.frm F5.out (fun e => by obtain ⟨_, _, _, _, h3, _⟩ := Ap.out; have hb := KSp.out; rw [show wr.heap.size = a from e] at hb; exact Blk.apart hb h3 (by decide) rfl)).stay hxz
          have HSZ : Hid (∀ V, Ext wz V → Sl i64 V (some ⟨wr.heap.size, 0, none⟩) [r]) := fun V h => Sl.of_blk (KSz.out.stay h) (fun j v hj => by match j, hj with | 0, hj => (simp at hj; subst hj; rfl))
          have CK' : Hid (∀ V, Ext wz V → Calls Try.prog 30 #[.pointer (some ⟨a, 0, none⟩)] V fun e w' => ∃ A c, e = .returned (.agg #[.int .i64 m, .slice A 1 c]) ∧ In w' A c [r] ∧ Ext V w') := fun V h => CK.out V (Az.out.stay h)
          have CS : Hid (∀ V A c, Ext wz V → In V A c [r] → Calls Try.prog 23 #[.agg #[.int .i64 m, .slice A 1 c], .agg #[.int .i64 m, .slice (some ⟨wr.heap.size, 0, none⟩) 1 1]] V fun e w' => e = .returned (.bool true) ∧ Ext V w') := fun V A c h hi => (sameRef_any m m A (some ⟨wr.heap.size, 0, none⟩) c 1 [r] [r] V (by simp) (by simp) hi.sl (HSZ.out V h)).mono fun e w' ⟨h1, h2⟩ => ⟨by rw [h1]; simp, h2⟩
          have y0 : ∀ V, Ext wz V → V.cell? ⟨w6.heap.size, 0, none⟩ = some (.int .i64 0) := fun V h => (K10.out.stay h).cell 0
          have y1 : ∀ V, Ext wz V → V.cell? ⟨w6.heap.size, 1, none⟩ = some (.int .i64 0) := fun V h => (K10.out.stay h).cell 1
          have y2 : ∀ V, Ext wz V → V.cell? ⟨w6.heap.size, 2, none⟩ = some (.int .i64 0) := fun V h => (K10.out.stay h).cell 2
          have y3 : ∀ V, Ext wz V → V.cell? ⟨w6.heap.size, 3, none⟩ = some (.int .i64 0) := fun V h => (K10.out.stay h).cell 3
          have y4 : ∀ V, Ext wz V → V.cell? ⟨w6.heap.size, 4, none⟩ = some (.bool false) := fun V h => (K10.out.stay h).cell 4
          have y5 : ∀ V, Ext wz V → V.cell? ⟨w6.heap.size, 5, none⟩ = some (.int .i64 0) := fun V h => (K10.out.stay h).cell 5
          have y6 : ∀ V, Ext wz V → V.cell? ⟨w6.heap.size, 6, none⟩ = some (.slice A8 0 c8) := fun V h => (K10.out.stay h).cell 6
          have x0 : ∀ V, Ext wz V → V.cell? ⟨wr.heap.size + 1, 0, none⟩ = some (.int .i64 m) := fun V h => (KCz.out.stay h).cell 0
          have x1 : ∀ V, Ext wz V → V.cell? ⟨wr.heap.size + 1, 1, none⟩ = some (.slice (some ⟨wr.heap.size, 0, none⟩) 1 1) := fun V h => (KCz.out.stay h).cell 1
          have E0 : Hid (Ext wz wz) := Ext.refl _
          have hb0 := eql_bal0
          try rw [← hwz]
          clear hwz hxz c0 c1
          refine ext_begin (by kernel_rfl) ?_
          have E0d := Lib.hid (Ext.drewR E0.out)
          refine ext_take (i := 0) (v := ?_) rfl (by kernel_rfl) (by kernel_rfl) (by kernel_rfl) (fun _ _ _ h => h) (by rfl) ?_ ?_
          rotate_left
          · intro W hW; have hW0 := Ext.trans E0d.out hW; clear hW; go_simp <;> with_reducible rfl
          try simp only [Act.put, List.setIfInBounds_toArray, List.set_cons_zero, List.set_cons_succ]
          refine ext_take (i := 1) (v := ?_) rfl (by kernel_rfl) (by kernel_rfl) (by kernel_rfl) (fun _ _ _ h => h) (by rfl) ?_ ?_
          rotate_left
          · intro W hW; have hW0 := Ext.trans E0d.out hW; clear hW; go_simp <;> with_reducible rfl
          try simp only [Act.put, List.setIfInBounds_toArray, List.set_cons_zero, List.set_cons_succ]
          refine ext_take (i := 2) (v := ?_) rfl (by kernel_rfl) (by kernel_rfl) (by kernel_rfl) (fun _ _ _ h => h) (by rfl) ?_ ?_
          rotate_left
          · intro W hW; have hW0 := Ext.trans E0d.out hW; clear hW; go_simp <;> with_reducible rfl
          try simp only [Act.put, List.setIfInBounds_toArray, List.set_cons_zero, List.set_cons_succ]
          refine ext_take (i := 3) (v := ?_) rfl (by kernel_rfl) (by kernel_rfl) (by kernel_rfl) (fun _ _ _ h => h) (by rfl) ?_ ?_
          rotate_left
          · intro W hW; have hW0 := Ext.trans E0d.out hW; clear hW; go_simp <;> with_reducible rfl
          try simp only [Act.put, List.setIfInBounds_toArray, List.set_cons_zero, List.set_cons_succ]
          refine ext_take (i := 4) (v := ?_) rfl (by kernel_rfl) (by kernel_rfl) (by kernel_rfl) (fun _ _ _ h => h) (by rfl) ?_ ?_
          rotate_left
          · intro W hW; have hW0 := Ext.trans E0d.out hW; clear hW; go_simp <;> with_reducible rfl
          try simp only [Act.put, List.setIfInBounds_toArray, List.set_cons_zero, List.set_cons_succ]
          refine ext_take (i := 5) (v := ?_) rfl (by kernel_rfl) (by kernel_rfl) (by kernel_rfl) (fun _ _ _ h => h) (by rfl) ?_ ?_
          rotate_left
          · intro W hW; have hW0 := Ext.trans E0d.out hW; clear hW; go_simp <;> with_reducible rfl
          try simp only [Act.put, List.setIfInBounds_toArray, List.set_cons_zero, List.set_cons_succ]
          refine ext_take (i := 6) (v := ?_) rfl (by kernel_rfl) (by kernel_rfl) (by kernel_rfl) (fun _ _ _ h => h) (by rfl) ?_ ?_
          rotate_left
          · intro W hW; have hW0 := Ext.trans E0d.out hW; clear hW; go_simp <;> with_reducible rfl
          try simp only [Act.put, List.setIfInBounds_toArray, List.set_cons_zero, List.set_cons_succ]
          refine ext_take (i := 7) (v := ?_) rfl (by kernel_rfl) (by kernel_rfl) (by kernel_rfl) (fun _ _ _ h => h) (by rfl) ?_ ?_
          rotate_left
          · intro W hW; have hW0 := Ext.trans E0d.out hW; clear hW; go_simp <;> with_reducible rfl
          try simp only [Act.put, List.setIfInBounds_toArray, List.set_cons_zero, List.set_cons_succ]
          refine ext_take (i := 8) (v := ?_) rfl (by kernel_rfl) (by kernel_rfl) (by kernel_rfl) (fun _ _ _ h => h) (by rfl) ?_ ?_
          rotate_left
          · intro W hW; have hW0 := Ext.trans E0d.out hW; clear hW; go_simp <;> with_reducible rfl
          try simp only [Act.put, List.setIfInBounds_toArray, List.set_cons_zero, List.set_cons_succ]
          refine ext_take (i := 9) (v := ?_) rfl (by kernel_rfl) (by kernel_rfl) (by kernel_rfl) (fun _ _ _ h => h) (by rfl) ?_ ?_
          rotate_left
          · intro W hW; have hW0 := Ext.trans E0d.out hW; clear hW; go_simp <;> with_reducible rfl
          try simp only [Act.put, List.setIfInBounds_toArray, List.set_cons_zero, List.set_cons_succ]
          refine ext_take (i := 11) (v := ?_) rfl (by kernel_rfl) (by kernel_rfl) (by kernel_rfl) (fun _ _ _ h => h) (by rfl) ?_ ?_
          rotate_left
          · intro W hW; have hW0 := Ext.trans E0d.out hW; clear hW; go_simp <;> with_reducible rfl
          try simp only [Act.put, List.setIfInBounds_toArray, List.set_cons_zero, List.set_cons_succ]
          refine ext_call (i := 10) rfl (by kernel_rfl) (by rfl) (fun K' hK => ?_)
          go_simp
          (go_at_call 30; (with_reducible refine (CK'.out _ E0d.out).mono ?_); rintro e w7 ⟨A9, c9, rfl, hin, hx⟩; refine hK _ _ hx ?_; clear hK)
          have Ew7 := Lib.hid (Ext.trans E0d.out hx)
          have I7 := Lib.hid hin; clear hin
          clear hx
          try simp only [Act.put, List.setIfInBounds_toArray, List.set_cons_zero, List.set_cons_succ]
          refine ext_call (i := 12) rfl (by kernel_rfl) (by rfl) (fun K' hK => ?_)
          go_simp
          (go_at_call 23; (with_reducible refine (CS.out _ _ _ Ew7.out I7.out).mono ?_); rintro e w8 ⟨rfl, hx⟩; refine hK _ _ hx ?_; clear hK)
          have Ew8 := Lib.hid (Ext.trans Ew7.out hx)
          clear hx
          try simp only [Act.put, List.setIfInBounds_toArray, List.set_cons_zero, List.set_cons_succ]
          refine ext_take (i := 13) (v := ?_) rfl (by kernel_rfl) (by kernel_rfl) (by kernel_rfl) (fun _ _ _ h => h) (by rfl) ?_ ?_
          rotate_left
          · intro W hW; have hW0 := Ext.trans Ew8.out hW; clear hW; go_simp <;> with_reducible rfl
          try simp only [Act.put, List.setIfInBounds_toArray, List.set_cons_zero, List.set_cons_succ]
          refine ext_take (i := 14) (v := ?_) rfl (by kernel_rfl) (by kernel_rfl) (by kernel_rfl) (fun _ _ _ h => h) (by rfl) ?_ ?_
          rotate_left
          · intro W hW; have hW0 := Ext.trans Ew8.out hW; clear hW; go_simp <;> with_reducible rfl
          try simp only [Act.put, List.setIfInBounds_toArray, List.set_cons_zero, List.set_cons_succ]
          refine wpAnyH_done (by kernel_rfl) ?_ _
          have EX := Lib.hid Ew8.out
          clear Ew7 Ew8 E0 E0d y0 y1 y2 y3 y4 y5 y6 x0 x1
          go_wp2_with fail
          have hone : LnI w w8 a m := ⟨⟨5, m, [r], 0, 0, 0, 0, false, 0, []⟩, Az.out.stay EX.out, OK2.out, rfl, rfl, Below.trans Bz.out (Below.mono EX.out Bz.out.size), HBA.out⟩
          go_roundw
          case rel => exact ⟨j + 1, m, by omega, by omega, by go_num, by first | rfl | rw [hm'], by omega, by omega, by first | exact hone | exact hone.drewN⟩
          case measure => simp [intOf]; omega
      · have hand : (j : Int) % 2 = 0 := by omega
        have hev : j % 2 = 0 := by omega
        rw [hev] at hbit
        go_upto_region 12 with fail
        rw [← HW0.out]
        have Ap := A0'
        have Okp := HOK
        have Np := HVN
        have Kp := HVK
        have KSp := KS
        have KCp := KC
        have Bp : Hid (Below w.heap.size w W0) := Below.trans HBW.out (Below.mono X0.out HBW.out.size)
        have HSL : Hid (Sl i64 W0 (some ⟨wr.heap.size, 0, none⟩) [r]) := Sl.of_blk KSp.out (fun j v hj => by match j, hj with | 0, hj => (simp at hj; subst hj; rfl))
        have HNA : Hid ([r] ≠ [] → ∀ ad : Addr, (some ⟨wr.heap.size, 0, none⟩ : Option Addr) = some ad → ¬ ad.block = a) := fun _ ad e => by injection e with e; subst e; obtain ⟨_, _, _, _, h3, _⟩ := Ap.out; exact Blk.apart KSp.out h3 (by decide)
        have c0 := KCp.out.cell 0
        have c1 := KCp.out.cell 1
        simp at c0 c1
        by_cases hmt : m ≤ top
        · have hmt2 : ¬ top < m := by omega
          have CL : Hid (Calls Try.prog 28 #[.pointer (some ⟨a, 0, none⟩), .agg #[.int .i64 m, .slice (some ⟨wr.heap.size, 0, none⟩) 1 1]] W0 fun e w' => e = .returned (.int .i64 7) ∧ Ext W0 w') := learn_no a v m (some ⟨wr.heap.size, 0, none⟩) 1 [r] 7 W0 Ap.out (by simp) (by simp) HSL.out (by rw [learn_one HMB.out.1 HMB.out.2 HR5.out Np.out, Kp.out, if_pos hmt]) (by decide)
          go_wp2_with (go_at_call 28; (with_reducible refine CL.out.mono ?_); rintro e w5 ⟨rfl, hx⟩; have X5 := Lib.hid hx; clear hx)
          have hone : LnI w w5 a top := ⟨v, Ap.out.stay X5.out, Okp.out, Np.out, Kp.out, Below.trans Bp.out (Below.mono X5.out Bp.out.size), HBA.out⟩
          go_roundw
          case rel => exact ⟨j + 1, top, by omega, by omega, by go_num, rfl, by omega, by omega, by first | exact hone | exact hone.drewN⟩
          case measure => simp [intOf]; omega
        · have hmt2 : top < m := by omega
          have CL : Hid (Calls Try.prog 28 #[.pointer (some ⟨a, 0, none⟩), .agg #[.int .i64 m, .slice (some ⟨wr.heap.size, 0, none⟩) 1 1]] W0 fun e w' => e = .returned (.int .i64 0) ∧ AAt w' a ⟨5, m, [r], 0, 0, 0, 0, false, 0, []⟩ ∧ Frm (oneA a) W0 w') := by
            have h0 : learnE v m [r] = 0 := by rw [learn_one HMB.out.1 HMB.out.2 HR5.out Np.out, Kp.out, if_neg hmt]
            have hV : learnV v m [r] = ⟨5, m, [r], 0, 0, 0, 0, false, 0, []⟩ := by unfold learnV; rw [if_pos h0, Np.out]
            have hq := learn_any a v m (some ⟨wr.heap.size, 0, none⟩) 1 [r] W0 Ap.out Okp.out (by simp) (by simp) HSL.out HNA.out
            rw [h0, hV] at hq
            exact hq
          have CV : Hid (∀ V, AAt V a ⟨5, m, [r], 0, 0, 0, 0, false, 0, []⟩ → Calls Try.prog 29 #[.pointer (some ⟨a, 0, none⟩)] V fun e w' => ∃ A c, e = .returned (.agg #[.int .i64 0, .int .i64 0, .int .i64 0, .int .i64 0, .bool false, .int .i64 0, .slice A 0 c]) ∧ Ext V w') := fun V H => (vote_any a _ V H (by simp)).mono fun e w' ⟨A, c, h1, _, h2⟩ => ⟨A, c, h1, h2⟩
          have CK : Hid (∀ V, AAt V a ⟨5, m, [r], 0, 0, 0, 0, false, 0, []⟩ → Calls Try.prog 30 #[.pointer (some ⟨a, 0, none⟩)] V fun e w' => ∃ A c, e = .returned (.agg #[.int .i64 m, .slice A 1 c]) ∧ In w' A c [r] ∧ Ext V w') := fun V H => known_any a _ V H (by simp)
          go_wp2_with (first
            | (go_at_call 28; (with_reducible refine CL.out.mono ?_); rintro e w5 ⟨rfl, hA, hf⟩; have A5 := Lib.hid hA; have F5 := Lib.hid hf; clear hA hf)
            | (go_at_call 29; (with_reducible refine (CV.out _ A5.out).mono ?_); rintro e w6 ⟨A8, c8, rfl, hx⟩; have X6 := Lib.hid hx; clear hx))
          obtain ⟨wz, hwz⟩ : ∃ wz, wz = w6.alloc (.cells #[.int .i64 0, .int .i64 0, .int .i64 0, .int .i64 0, .bool false, .int .i64 0, .slice A8 0 c8] 40) := ⟨_, rfl⟩
          have hxz : Ext w5 wz := by rw [hwz]; exact Ext.trans X6.out (ext_al _ _)
          have K10 : Hid (Blk wz w6.heap.size 40 #[.int .i64 0, .int .i64 0, .int .i64 0, .int .i64 0, .bool false, .int .i64 0, .slice A8 0 c8]) := by show Blk _ _ _ _; rw [hwz]; exact Blk.new _ _ _
          have Az := Lib.hid (A5.out.stay hxz)
          have Bz : Hid (Below w.heap.size w wz) := Below.trans (Frm.step Bp.out F5.out Bp.out.size (fun k hk => by rw [hk]; exact HBA.out)) (Below.mono hxz (Nat.le_trans Bp.out.size F5.out.size))
          have KCz : Hid (Blk wz (wr.heap.size + 1) 26 #[.int .i64 m, .slice (some ⟨wr.heap.size, 0, none⟩) 1 1]) := (KCp.out.frm F5.out (fun e => by obtain ⟨_, _, _, _, h3, _⟩ := Ap.out; have hb := KCp.out; rw [show wr.heap.size + 1 = a from e] at hb; exact Blk.apart hb h3 (by decide) rfl)).stay hxz
          have KSz : Hid (Blk wz wr.heap.size 3 #[.int .i64 r]) := (KSp.out.frm F5.out (fun e => by obtain ⟨_, _, _, _, h3, _⟩ := Ap.out; have hb := KSp.out; rw [show wr.heap.size = a from e] at hb; exact Blk.apart hb h3 (by decide) rfl)).stay hxz
          have HSZ : Hid (∀ V, Ext wz V → Sl i64 V (some ⟨wr.heap.size, 0, none⟩) [r]) := fun V h => Sl.of_blk (KSz.out.stay h) (fun j v hj => by match j, hj with | 0, hj => (simp at hj; subst hj; rfl))
          have CK' : Hid (∀ V, Ext wz V → Calls Try.prog 30 #[.pointer (some ⟨a, 0, none⟩)] V fun e w' => ∃ A c, e = .returned (.agg #[.int .i64 m, .slice A 1 c]) ∧ In w' A c [r] ∧ Ext V w') := fun V h => CK.out V (Az.out.stay h)
          have CS : Hid (∀ V A c, Ext wz V → In V A c [r] → Calls Try.prog 23 #[.agg #[.int .i64 m, .slice A 1 c], .agg #[.int .i64 m, .slice (some ⟨wr.heap.size, 0, none⟩) 1 1]] V fun e w' => e = .returned (.bool true) ∧ Ext V w') := fun V A c h hi => (sameRef_any m m A (some ⟨wr.heap.size, 0, none⟩) c 1 [r] [r] V (by simp) (by simp) hi.sl (HSZ.out V h)).mono fun e w' ⟨h1, h2⟩ => ⟨by rw [h1]; simp, h2⟩
          have y0 : ∀ V, Ext wz V → V.cell? ⟨w6.heap.size, 0, none⟩ = some (.int .i64 0) := fun V h => (K10.out.stay h).cell 0
          have y1 : ∀ V, Ext wz V → V.cell? ⟨w6.heap.size, 1, none⟩ = some (.int .i64 0) := fun V h => (K10.out.stay h).cell 1
          have y2 : ∀ V, Ext wz V → V.cell? ⟨w6.heap.size, 2, none⟩ = some (.int .i64 0) := fun V h => (K10.out.stay h).cell 2
          have y3 : ∀ V, Ext wz V → V.cell? ⟨w6.heap.size, 3, none⟩ = some (.int .i64 0) := fun V h => (K10.out.stay h).cell 3
          have y4 : ∀ V, Ext wz V → V.cell? ⟨w6.heap.size, 4, none⟩ = some (.bool false) := fun V h => (K10.out.stay h).cell 4
          have y5 : ∀ V, Ext wz V → V.cell? ⟨w6.heap.size, 5, none⟩ = some (.int .i64 0) := fun V h => (K10.out.stay h).cell 5
          have y6 : ∀ V, Ext wz V → V.cell? ⟨w6.heap.size, 6, none⟩ = some (.slice A8 0 c8) := fun V h => (K10.out.stay h).cell 6
          have x0 : ∀ V, Ext wz V → V.cell? ⟨wr.heap.size + 1, 0, none⟩ = some (.int .i64 m) := fun V h => (KCz.out.stay h).cell 0
          have x1 : ∀ V, Ext wz V → V.cell? ⟨wr.heap.size + 1, 1, none⟩ = some (.slice (some ⟨wr.heap.size, 0, none⟩) 1 1) := fun V h => (KCz.out.stay h).cell 1
          have E0 : Hid (Ext wz wz) := Ext.refl _
          have hb0 := eql_bal0
          try rw [← hwz]
          clear hwz hxz c0 c1
          refine ext_begin (by kernel_rfl) ?_
          have E0d := Lib.hid (Ext.drewR E0.out)
          refine ext_take (i := 0) (v := ?_) rfl (by kernel_rfl) (by kernel_rfl) (by kernel_rfl) (fun _ _ _ h => h) (by rfl) ?_ ?_
          rotate_left
          · intro W hW; have hW0 := Ext.trans E0d.out hW; clear hW; go_simp <;> with_reducible rfl
          try simp only [Act.put, List.setIfInBounds_toArray, List.set_cons_zero, List.set_cons_succ]
          refine ext_take (i := 1) (v := ?_) rfl (by kernel_rfl) (by kernel_rfl) (by kernel_rfl) (fun _ _ _ h => h) (by rfl) ?_ ?_
          rotate_left
          · intro W hW; have hW0 := Ext.trans E0d.out hW; clear hW; go_simp <;> with_reducible rfl
          try simp only [Act.put, List.setIfInBounds_toArray, List.set_cons_zero, List.set_cons_succ]
          refine ext_take (i := 2) (v := ?_) rfl (by kernel_rfl) (by kernel_rfl) (by kernel_rfl) (fun _ _ _ h => h) (by rfl) ?_ ?_
          rotate_left
          · intro W hW; have hW0 := Ext.trans E0d.out hW; clear hW; go_simp <;> with_reducible rfl
          try simp only [Act.put, List.setIfInBounds_toArray, List.set_cons_zero, List.set_cons_succ]
          refine ext_take (i := 3) (v := ?_) rfl (by kernel_rfl) (by kernel_rfl) (by kernel_rfl) (fun _ _ _ h => h) (by rfl) ?_ ?_
          rotate_left
          · intro W hW; have hW0 := Ext.trans E0d.out hW; clear hW; go_simp <;> with_reducible rfl
          try simp only [Act.put, List.setIfInBounds_toArray, List.set_cons_zero, List.set_cons_succ]
          refine ext_take (i := 4) (v := ?_) rfl (by kernel_rfl) (by kernel_rfl) (by kernel_rfl) (fun _ _ _ h => h) (by rfl) ?_ ?_
          rotate_left
          · intro W hW; have hW0 := Ext.trans E0d.out hW; clear hW; go_simp <;> with_reducible rfl
          try simp only [Act.put, List.setIfInBounds_toArray, List.set_cons_zero, List.set_cons_succ]
          refine ext_take (i := 5) (v := ?_) rfl (by kernel_rfl) (by kernel_rfl) (by kernel_rfl) (fun _ _ _ h => h) (by rfl) ?_ ?_
          rotate_left
          · intro W hW; have hW0 := Ext.trans E0d.out hW; clear hW; go_simp <;> with_reducible rfl
          try simp only [Act.put, List.setIfInBounds_toArray, List.set_cons_zero, List.set_cons_succ]
          refine ext_take (i := 6) (v := ?_) rfl (by kernel_rfl) (by kernel_rfl) (by kernel_rfl) (fun _ _ _ h => h) (by rfl) ?_ ?_
          rotate_left
          · intro W hW; have hW0 := Ext.trans E0d.out hW; clear hW; go_simp <;> with_reducible rfl
          try simp only [Act.put, List.setIfInBounds_toArray, List.set_cons_zero, List.set_cons_succ]
          refine ext_take (i := 7) (v := ?_) rfl (by kernel_rfl) (by kernel_rfl) (by kernel_rfl) (fun _ _ _ h => h) (by rfl) ?_ ?_
          rotate_left
          · intro W hW; have hW0 := Ext.trans E0d.out hW; clear hW; go_simp <;> with_reducible rfl
          try simp only [Act.put, List.setIfInBounds_toArray, List.set_cons_zero, List.set_cons_succ]
          refine ext_take (i := 8) (v := ?_) rfl (by kernel_rfl) (by kernel_rfl) (by kernel_rfl) (fun _ _ _ h => h) (by rfl) ?_ ?_
          rotate_left
          · intro W hW; have hW0 := Ext.trans E0d.out hW; clear hW; go_simp <;> with_reducible rfl
          try simp only [Act.put, List.setIfInBounds_toArray, List.set_cons_zero, List.set_cons_succ]
          refine ext_take (i := 9) (v := ?_) rfl (by kernel_rfl) (by kernel_rfl) (by kernel_rfl) (fun _ _ _ h => h) (by rfl) ?_ ?_
          rotate_left
          · intro W hW; have hW0 := Ext.trans E0d.out hW; clear hW; go_simp <;> with_reducible rfl
          try simp only [Act.put, List.setIfInBounds_toArray, List.set_cons_zero, List.set_cons_succ]
          refine ext_take (i := 11) (v := ?_) rfl (by kernel_rfl) (by kernel_rfl) (by kernel_rfl) (fun _ _ _ h => h) (by rfl) ?_ ?_
          rotate_left
          · intro W hW; have hW0 := Ext.trans E0d.out hW; clear hW; go_simp <;> with_reducible rfl
          try simp only [Act.put, List.setIfInBounds_toArray, List.set_cons_zero, List.set_cons_succ]
          refine ext_call (i := 10) rfl (by kernel_rfl) (by rfl) (fun K' hK => ?_)
          go_simp
          (go_at_call 30; (with_reducible refine (CK'.out _ E0d.out).mono ?_); rintro e w7 ⟨A9, c9, rfl, hin, hx⟩; refine hK _ _ hx ?_; clear hK)
          have Ew7 := Lib.hid (Ext.trans E0d.out hx)
          have I7 := Lib.hid hin; clear hin
          clear hx
          try simp only [Act.put, List.setIfInBounds_toArray, List.set_cons_zero, List.set_cons_succ]
          refine ext_call (i := 12) rfl (by kernel_rfl) (by rfl) (fun K' hK => ?_)
          go_simp
          (go_at_call 23; (with_reducible refine (CS.out _ _ _ Ew7.out I7.out).mono ?_); rintro e w8 ⟨rfl, hx⟩; refine hK _ _ hx ?_; clear hK)
          have Ew8 := Lib.hid (Ext.trans Ew7.out hx)
          clear hx
          try simp only [Act.put, List.setIfInBounds_toArray, List.set_cons_zero, List.set_cons_succ]
          refine ext_take (i := 13) (v := ?_) rfl (by kernel_rfl) (by kernel_rfl) (by kernel_rfl) (fun _ _ _ h => h) (by rfl) ?_ ?_
          rotate_left
          · intro W hW; have hW0 := Ext.trans Ew8.out hW; clear hW; go_simp <;> with_reducible rfl
          try simp only [Act.put, List.setIfInBounds_toArray, List.set_cons_zero, List.set_cons_succ]
          refine ext_take (i := 14) (v := ?_) rfl (by kernel_rfl) (by kernel_rfl) (by kernel_rfl) (fun _ _ _ h => h) (by rfl) ?_ ?_
          rotate_left
          · intro W hW; have hW0 := Ext.trans Ew8.out hW; clear hW; go_simp <;> with_reducible rfl
          try simp only [Act.put, List.setIfInBounds_toArray, List.set_cons_zero, List.set_cons_succ]
          refine wpAnyH_done (by kernel_rfl) ?_ _
          have EX := Lib.hid Ew8.out
          clear Ew7 Ew8 E0 E0d y0 y1 y2 y3 y4 y5 y6 x0 x1
          go_wp2_with fail
          have hone : LnI w w8 a m := ⟨⟨5, m, [r], 0, 0, 0, 0, false, 0, []⟩, Az.out.stay EX.out, OK2.out, rfl, rfl, Below.trans Bz.out (Below.mono EX.out Bz.out.size), HBA.out⟩
          go_roundw
          case rel => exact ⟨j + 1, m, by omega, by omega, by go_num, by first | rfl | rw [hm'], by omega, by omega, by first | exact hone | exact hone.drewN⟩
          case measure => simp [intOf]; omega
    · have HI' := HI
      obtain ⟨v, hA, hok, hvn, hvk, hbw, hba⟩ := HI.out
      have HA := Lib.hid hA
      have HOK := Lib.hid hok
      have HVK := Lib.hid hvk
      have HBW := Lib.hid hbw
      have HBA' : Hid (w.heap.size ≤ a) := hba
      clear hA hok hvn hvk hbw hba HI HI'
      have CP1 : Hid (∀ V, AAt V a v → Calls Try.prog 27 #[.pointer (some ⟨a, 0, none⟩), .int .i64 top, .agg #[.int .i64 5, .int .i64 0]] V fun e w' => e = .returned (.tuple #[.agg #[.int .i64 0, .int .i64 0, .int .i64 0, .int .i64 0, .bool false, .int .i64 0, .slice none 0 0], .int .i64 7]) ∧ Ext V w') := fun V h => prep_no a v top 5 0 7 V h HOK.out.kb (prep_late (by decide) (by have := HVK.out; omega)) (by decide)
      have CP2 : Hid (∀ V, AAt V a v → Calls Try.prog 27 #[.pointer (some ⟨a, 0, none⟩), .int .i64 (top + 2), .agg #[.int .i64 5, .int .i64 0]] V fun e w' => e = .returned (.tuple #[.agg #[.int .i64 0, .int .i64 0, .int .i64 0, .int .i64 0, .bool false, .int .i64 0, .slice none 0 0], .int .i64 4]) ∧ Ext V w') := fun V h => prep_no a v (top + 2) 5 0 4 V h HOK.out.kb (prep_state (by decide) (by have := HVK.out; omega) (by have := HVK.out; omega)) (by decide)
      have CK : Hid (∀ V, AAt V a v → Calls Try.prog 30 #[.pointer (some ⟨a, 0, none⟩)] V fun e w' => ∃ A c, e = .returned (.agg #[.int .i64 top, .slice A v.kns.length c]) ∧ Ext V w') := fun V h => (known_any a v V h HOK.out.kl).mono fun e w' ⟨A, c, h1, _, h2⟩ => ⟨A, c, by rw [h1, HVK.out], h2⟩
      have hf1 : ∀ A n c w, (Instr.field 26 (.agg #[.int .i64 top, .slice A n c]) 0).run Try.prog w = .ok (.int .i64 top) w := fun _ _ _ _ => by kernel_rfl
      have hcases : ¬ j < nn ∨ (j < nn ∧ ¬ j < 20) := by omega
      have HC := Lib.hid hcases
      clear hcases hlt
      rcases HC.out with hz | ⟨hz1, hz2⟩
      · have hz' : ¬ (j : Int) < (nn : Int) := by omega
        go_wp2_with (first
          | (go_at_call 27; (with_reducible refine (CP2.out _ (A2.out.stay (ext_al _ _))).mono ?_); rintro e w3 ⟨rfl, hx⟩; have hx3 := Ext.trans (ext_al w2 _) hx; have A3 := Lib.hid (A2.out.stay hx3); have X3 : Hid (Ext wr (w3.alloc (.cells #[.int .i64 0, .int .i64 0, .int .i64 0, .int .i64 0, .bool false, .int .i64 0, .slice none 0 0] 40))) := Ext.trans (Ext.trans X2.out hx3) (ext_al _ _); clear hx hx3)
          | (go_at_call 27; (with_reducible refine (CP1.out _ HA.out).mono ?_); rintro e w2 ⟨rfl, hx⟩; have A2 := Lib.hid (HA.out.stay hx); have X2 : Hid (Ext wr w2) := hx; clear hx)
          | (go_at_call 31; (with_reducible refine (HTO.out _).mono ?_); rintro e w4 ⟨rfl, hx⟩; have X4 : Hid (Ext wr w4) := Ext.trans X3.out hx; have A4 := Lib.hid (HA.out.stay X4.out); clear hx)
          | (go_at_call 30; (with_reducible refine (CK.out _ A4.out).mono ?_); rintro e w5 ⟨A5, c5, rfl, hx⟩; have X5 : Hid (Ext wr w5) := Ext.trans X4.out hx; clear hx))
        try go_ret
        exact hD.out _ _ ⟨rfl, Below.trans HBW.out (Below.mono X5.out HBW.out.size)⟩
      · have hz' : (j : Int) < (nn : Int) := by omega
        have hz'' : ¬ (j : Int) < 20 := by omega
        go_wp2_with (first
          | (go_at_call 27; (with_reducible refine (CP2.out _ (A2.out.stay (ext_al _ _))).mono ?_); rintro e w3 ⟨rfl, hx⟩; have hx3 := Ext.trans (ext_al w2 _) hx; have A3 := Lib.hid (A2.out.stay hx3); have X3 : Hid (Ext wr (w3.alloc (.cells #[.int .i64 0, .int .i64 0, .int .i64 0, .int .i64 0, .bool false, .int .i64 0, .slice none 0 0] 40))) := Ext.trans (Ext.trans X2.out hx3) (ext_al _ _); clear hx hx3)
          | (go_at_call 27; (with_reducible refine (CP1.out _ HA.out).mono ?_); rintro e w2 ⟨rfl, hx⟩; have A2 := Lib.hid (HA.out.stay hx); have X2 : Hid (Ext wr w2) := hx; clear hx)
          | (go_at_call 31; (with_reducible refine (HTO.out _).mono ?_); rintro e w4 ⟨rfl, hx⟩; have X4 : Hid (Ext wr w4) := Ext.trans X3.out hx; have A4 := Lib.hid (HA.out.stay X4.out); clear hx)
          | (go_at_call 30; (with_reducible refine (CK.out _ A4.out).mono ?_); rintro e w5 ⟨A5, c5, rfl, hx⟩; have X5 : Hid (Ext wr w5) := Ext.trans X4.out hx; clear hx))
        try go_ret
        exact hD.out _ _ ⟨rfl, Below.trans HBW.out (Below.mono X5.out HBW.out.size)⟩

set_option maxRecDepth 100000 in
theorem law_acceptLearns {H : Type} {enc : TypeId × Value → H} (W : World) (base : Nat) (args : Array Value) (ds : List (DataW H)) (p : List MemPlace)
    (hval : ∀ (j : Nat) t v, Try.f4.params[j]? = some t → args[j]? = some v → Value.okWide Try.prog W .any base t v)
    (hA : DataW.TrodAll enc Try.prog W 0 (fun _ => true) true Try.f4.params.toList args.toList ds p) :
    Calls Try.prog 4 args W fun e W' => e = .returned (.bool true) ∧ Below W.heap.size W W' := by
  rw [Try.params4] at hA hval
  obtain ⟨v0, vs0, d0, ds0, p0, q0, hargs, rfl, rfl, h0, r0⟩ := trodAll_cons hA
  obtain ⟨rfl, rfl, rfl⟩ := trodAll_nil r0
  obtain rfl : args = #[v0] := by cases args; simp_all
  obtain ⟨A0, n0, c0, rfl⟩ := okWide_slice Try.underlying24 (hval 0 24 v0 rfl rfl)
  obtain ⟨fuel0, hf0⟩ := h0
  obtain ⟨B0, e0, l0, hcs0, x0, y0, z0, g0⟩ := trod_ints_sl Try.underlying24 Try.underlying3 cells_int hf0
  simp only [Value.cells, List.cons.injEq, Value.slice.injEq, and_true] at hcs0
  obtain ⟨rfl, rfl, rfl⟩ := hcs0
  exact walk_acceptLearns A0 c0 l0 W (Nat.le_trans x0 y0) z0

end Go.Proofs.Ytkdcbidbciognaa
