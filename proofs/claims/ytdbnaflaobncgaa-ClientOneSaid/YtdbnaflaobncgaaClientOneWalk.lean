/-
  The walk of the law ClientOne.
-/
import Derived.Test.YtdbnaflaobncgaaTold21
import Derived.Test.YtdbnaflaobncgaaOpenOps21
namespace Go.Proofs.Ytdbnaflaobncgaa
set_option linter.unusedVariables false
set_option linter.unusedSimpArgs false
open Go.RowKit Go.ChangeShapes Go.WideShapes

theorem may_len {ep : Int} {l : List Int} (h : mayChainB ep l = true) : l.length ≤ 5 := by
  unfold mayChainB at h
  rw [Bool.and_eq_true, Bool.and_eq_true] at h
  have := of_decide_eq_true h.1.2
  omega
/-- the client as it stands at the loop's head -/
def One (w wr : World) (P : Nat) (sq : Int) (bv : Bool) (j : Nat) : Prop :=
  ∃ (ep : Int) (ns : List Int) (p : Option Pd), ClAt w.heap.size wr P ⟨0, 3, sq, ep, ns, p⟩ ∧ Kt w.heap.size w wr ∧ ns.length ≤ 5 ∧ 0 ≤ sq ∧ sq ≤ j ∧
    ((p = none ∧ bv = false) ∨ (∃ (k i m : Int) (d : ByteArray) (ak tr : Int), p = some ⟨0, sq, k, i, m, d, ak, tr⟩ ∧ bv = true ∧ (1 ≤ tr ∧ tr ≤ j) ∧ ak ≤ 9223372036854775807))
theorem One.drewN {w wr : World} {P : Nat} {sq : Int} {bv : Bool} {j n : Nat} (h : One w wr P sq bv j) : One w (wr.drewN n) P sq bv j := by
  obtain ⟨ep, ns, p, h1, h2, h3⟩ := h
  have hx : Ext wr (wr.drewN n) := (Ext.refl _).drewN
  exact ⟨ep, ns, p, h1.stay hx, h2.trans (Kt.ext hx h1.lt), h3⟩

set_option maxRecDepth 8000 in
set_option maxHeartbeats 64000000 in
theorem walk_clientOne (A0 : Option Addr) (xs : List Op21) (cap0 : Nat) (w : World) (hn : xs.length ≤ 9223372036854775807) (hS : So21 w A0 xs) :
    Calls Try.prog 6 #[.slice A0 xs.length cap0] w fun e w' => e = .returned (.bool true) ∧ Below w.heap.size w w' := by
  refine hide_post fun D hD => ?_
  have CN : Hid (Calls Try.prog 13 #[.int .i64 0, .int .i64 3] w fun e w' => ∃ P, e = .returned (.tuple #[.pointer (some ⟨P, 0, none⟩), .int .i64 0]) ∧ ClAt w.heap.size w' P ⟨0, 3, 0, 0, [], none⟩ ∧ Ext w w') := (new_yes 0 3 w (by decide) (by decide) (by decide) (by decide)).mono fun e w' h => ⟨_, h⟩
  have HTO : Hid (∀ V, Calls Try.prog 18 #[] V fun e w' => e = .returned (.bool true) ∧ Ext V w') := told21
  have HS := Lib.hid hS
  have HB0 : Hid (w.heap.size ≤ w.heap.size) := Nat.le_refl _
  obtain ⟨n, hnn⟩ : ∃ n, n = xs.length := ⟨_, rfl⟩
  rw [← hnn] at hn ⊢
  have HN := Lib.hid hnn
  clear hS hnn
  go_enter Try.func6, Try.ntmps6
  go_wp2_with (go_at_call 13; (with_reducible refine CN.out.mono ?_); rintro e w1 ⟨P, rfl, hc, hx⟩; have HC1 := Lib.hid hc; have X1 := Lib.hid hx; clear hc hx)
  go_loopw [5, 6, 7] (fun a b i wr => ∃ (j : Nat) (sq : Int) (bv : Bool), j ≤ n ∧ j ≤ 80 ∧ a = .int .i64 sq ∧ b = .bool bv ∧ i = .int .i64 j ∧ Hid (One w wr P sq bv j)) (fun _ _ i _ => n - (intOf i).toNat)
  case atStart => exact ⟨0, 0, false, Nat.zero_le _, by omega, rfl, rfl, rfl, 0, [], none, HC1.out, Kt.ext X1.out HB0.out, by simp, by omega, by omega, .inl ⟨rfl, rfl⟩⟩
  case round =>
    obtain ⟨j, sq, bv, hj, hj8, rfl, rfl, rfl, HI⟩ := hrel
    by_cases hlt : j < n ∧ j < 80
    · obtain ⟨x, hx⟩ : ∃ x, xs[j]? = some x := ⟨xs[j]'(by have := HN.out; omega), List.getElem?_eq_getElem _⟩
      obtain ⟨ep, ns, p, hcl, hkt, hns, hsq0, hsqj, hp⟩ := HI.out
      obtain ⟨b, o, rfl, hcells, hsl, hok⟩ := (HS.out.stay hkt.1) j x hx
      obtain ⟨kind, now, os, oc, oq, ok_, oi, om, od, oe, OA, ocap, ol⟩ := x
      obtain ⟨hnow, hod, hcap, hcap9⟩ := hok
      simp only at hnow hod hcap hcap9 hsl
      obtain ⟨nl, hnl⟩ : ∃ nl, nl = ol.length := ⟨_, rfl⟩
      have q0 := hcells 0 (by decide)
      have q1 := hcells 1 (by decide)
      have q2 := hcells 2 (by decide)
      have q3 := hcells 3 (by decide)
      have q4 := hcells 4 (by decide)
      have q5 := hcells 5 (by decide)
      have q6 := hcells 6 (by decide)
      have q7 := hcells 7 (by decide)
      have q8 := hcells 8 (by decide)
      have q9 := hcells 9 (by decide)
      have q10 := hcells 10 (by decide)
      simp [Op21.vals] at q0 q1 q2 q3 q4 q5 q6 q7 q8 q9 q10
      rw [← hnl] at q10
      have o0 := (Blk.new wr 48 #[.int .i64 kind, .int .i64 now, .int .i64 os, .int .i64 oc, .int .i64 oq, .int .i64 ok_, .int .i64 oi, .int .i64 om, .string od, .int .i64 oe, .slice OA nl ocap]).cell 0
      have o1 := (Blk.new wr 48 #[.int .i64 kind, .int .i64 now, .int .i64 os, .int .i64 oc, .int .i64 oq, .int .i64 ok_, .int .i64 oi, .int .i64 om, .string od, .int .i64 oe, .slice OA nl ocap]).cell 1
      have o2 := (Blk.new wr 48 #[.int .i64 kind, .int .i64 now, .int .i64 os, .int .i64 oc, .int .i64 oq, .int .i64 ok_, .int .i64 oi, .int .i64 om, .string od, .int .i64 oe, .slice OA nl ocap]).cell 2
      have o3 := (Blk.new wr 48 #[.int .i64 kind, .int .i64 now, .int .i64 os, .int .i64 oc, .int .i64 oq, .int .i64 ok_, .int .i64 oi, .int .i64 om, .string od, .int .i64 oe, .slice OA nl ocap]).cell 3
      have o4 := (Blk.new wr 48 #[.int .i64 kind, .int .i64 now, .int .i64 os, .int .i64 oc, .int .i64 oq, .int .i64 ok_, .int .i64 oi, .int .i64 om, .string od, .int .i64 oe, .slice OA nl ocap]).cell 4
      have o5 := (Blk.new wr 48 #[.int .i64 kind, .int .i64 now, .int .i64 os, .int .i64 oc, .int .i64 oq, .int .i64 ok_, .int .i64 oi, .int .i64 om, .string od, .int .i64 oe, .slice OA nl ocap]).cell 5
      have o6 := (Blk.new wr 48 #[.int .i64 kind, .int .i64 now, .int .i64 os, .int .i64 oc, .int .i64 oq, .int .i64 ok_, .int .i64 oi, .int .i64 om, .string od, .int .i64 oe, .slice OA nl ocap]).cell 6
      have o7 := (Blk.new wr 48 #[.int .i64 kind, .int .i64 now, .int .i64 os, .int .i64 oc, .int .i64 oq, .int .i64 ok_, .int .i64 oi, .int .i64 om, .string od, .int .i64 oe, .slice OA nl ocap]).cell 7
      have o8 := (Blk.new wr 48 #[.int .i64 kind, .int .i64 now, .int .i64 os, .int .i64 oc, .int .i64 oq, .int .i64 ok_, .int .i64 oi, .int .i64 om, .string od, .int .i64 oe, .slice OA nl ocap]).cell 8
      have o9 := (Blk.new wr 48 #[.int .i64 kind, .int .i64 now, .int .i64 os, .int .i64 oc, .int .i64 oq, .int .i64 ok_, .int .i64 oi, .int .i64 om, .string od, .int .i64 oe, .slice OA nl ocap]).cell 9
      have o10 := (Blk.new wr 48 #[.int .i64 kind, .int .i64 now, .int .i64 os, .int .i64 oc, .int .i64 oq, .int .i64 ok_, .int .i64 oi, .int .i64 om, .string od, .int .i64 oe, .slice OA nl ocap]).cell 10
      simp at o0 o1 o2 o3 o4 o5 o6 o7 o8 o9 o10
      have HCO : Hid (ClAt w.heap.size (wr.alloc (.cells #[.int .i64 kind, .int .i64 now, .int .i64 os, .int .i64 oc, .int .i64 oq, .int .i64 ok_, .int .i64 oi, .int .i64 om, .string od, .int .i64 oe, .slice OA nl ocap] 48)) P ⟨0, 3, sq, ep, ns, p⟩) := hcl.stay (Ext.alloc _ _)
      have KO : Hid (Kt w.heap.size w (wr.alloc (.cells #[.int .i64 kind, .int .i64 now, .int .i64 os, .int .i64 oc, .int .i64 oq, .int .i64 ok_, .int .i64 oi, .int .i64 om, .string od, .int .i64 oe, .slice OA nl ocap] 48))) := hkt.trans (Kt.ext (Ext.alloc _ _) hcl.lt)
      have HSLO : Hid (Sl i64 (wr.alloc (.cells #[.int .i64 kind, .int .i64 now, .int .i64 os, .int .i64 oc, .int .i64 oq, .int .i64 ok_, .int .i64 oi, .int .i64 om, .string od, .int .i64 oe, .slice OA nl ocap] 48)) OA ol) := hsl.stay (Ext.alloc _ _)
      have HNL0 := Lib.hid hnl
      have hod' := Lib.hid hod
      have hns' : Hid (ns.length ≤ 5) := hns
      have hcap' : Hid (ol.length ≤ ocap) := hcap
      have hnow' : Hid (now ≤ 9223372036854775807) := hnow
      have HSQ : Hid (0 ≤ sq ∧ sq ≤ j) := ⟨hsq0, hsqj⟩
      have hj1 : (j : Int) < (n : Int) := by omega
      have hj2 : (j : Int) < 80 := by omega
      have hj0 : (0 : Int) ≤ (j : Int) := by omega
      obtain ⟨s1, hs1⟩ : ∃ s1, s1 = sq + 1 := ⟨_, rfl⟩
      have hs1' : sq + 1 = s1 := hs1.symm
      have HS1 : Hid (0 ≤ s1 ∧ s1 ≤ ((j + 1 : Nat) : Int)) := by constructor <;> omega
      have hws : wrap64 (sq + 1) = s1 := by rw [hs1]; unfold wrap64; omega
      have hws2 : IntKind.i64.wrap (sq + 1) = s1 := by rw [hs1]; unfold IntKind.wrap; simp [IntKind.bits, IntKind.signed]; omega
      have HS1' := Lib.hid hs1'
      have HP := Lib.hid hp
      clear hcells hsl hcl hkt hx hnl hns hcap hnow hsq0 hsqj HI hs1 hs1' hp hod
      by_cases g1 : (100 : Int) < (od.size : Int)
      · clear HP
        go_wp2_with (go_at_call 18; (with_reducible refine (HTO.out _).mono ?_); rintro e wt ⟨rfl, hx⟩; have KT : Hid (Kt w.heap.size w wt) := KO.out.trans (Kt.ext hx HCO.out.lt); clear hx)
        try go_ret
        exact hD.out _ _ ⟨rfl, KT.out.1⟩
      by_cases g2 : (8 : Int) < (nl : Int)
      · clear HP
        go_wp2_with (go_at_call 18; (with_reducible refine (HTO.out _).mono ?_); rintro e wt ⟨rfl, hx⟩; have KT : Hid (Kt w.heap.size w wt) := KO.out.trans (Kt.ext hx HCO.out.lt); clear hx)
        try go_ret
        exact hD.out _ _ ⟨rfl, KT.out.1⟩
      have HNL : Hid (nl = ol.length ∧ ol.length ≤ 8) := ⟨HNL0.out, by have := HNL0.out; omega⟩
      have hod := hod'.out
      rcases HP.out with ⟨rfl, rfl⟩ | ⟨k, i, m, d, ak, tr, rfl, rfl, htr, hak⟩
      · clear HP
        by_cases k0 : kind = 0
        · subst k0
          go_wp2_with fail
          go_at_call 14
          with_reducible refine (ask_any w.heap.size P 0 3 sq ep ns none now oc oq ok_ oi om od _ HCO.out hod (by have := hns'.out; omega) HSQ.out.1 (by have := HSQ.out.2; omega)).mono ?_
          rintro e w3 ⟨a, f, rfl, hk, h⟩
          rcases h with ⟨h1, rfl, hc⟩ | ⟨hm, hn0, hn1, hp0, rfl, rfl, hc⟩
          · rcases h1 with ⟨_, rfl⟩ | ⟨_, _, _, hp0, rfl⟩
            · have HC3 := Lib.hid hc
              have K3 : Hid (Kt w.heap.size w w3) := KO.out.trans hk
              clear hc hk
              go_wp2_with (first
                | (go_at_call 26; (with_reducible refine (pend_n w.heap.size P 0 3 sq ep ns _ HC3.out).mono ?_); rintro e wp ⟨rfl, hx⟩; have HCp := Lib.hid ((HC3.out.stay hx).stay (Ext.alloc wp (.cells #[.int .i64 0, .int .i64 0, .int .i64 0, .int .i64 0, .int .i64 0, .string ⟨#[]⟩] 30))); have KP : Hid (Kt w.heap.size w (wp.alloc (.cells #[.int .i64 0, .int .i64 0, .int .i64 0, .int .i64 0, .int .i64 0, .string ⟨#[]⟩] 30))) := K3.out.trans (Kt.ext (Ext.trans hx (Ext.alloc _ _)) HC3.out.lt); have z0 := (Blk.new wp 30 #[.int .i64 0, .int .i64 0, .int .i64 0, .int .i64 0, .int .i64 0, .string ⟨#[]⟩]).cell 0; have z1 := (Blk.new wp 30 #[.int .i64 0, .int .i64 0, .int .i64 0, .int .i64 0, .int .i64 0, .string ⟨#[]⟩]).cell 1; clear hx)
                | (go_at_call 27; (with_reducible refine (seq_n w.heap.size P 0 3 sq ep ns _ HCp.out).mono ?_); rintro e wq ⟨rfl, hx⟩; have HCq := Lib.hid (HCp.out.stay hx); have KQ : Hid (Kt w.heap.size w wq) := KP.out.trans (Kt.ext hx HCp.out.lt); clear hx))
              go_roundw
              case rel =>
                have hone : One w wq P sq false (j + 1) := ⟨ep, ns, none, HCq.out, KQ.out, hns'.out, HSQ.out.1, by have := HSQ.out.2; omega, .inl ⟨rfl, rfl⟩⟩
                exact ⟨j + 1, sq, false, by omega, by omega, by first | rfl | go_num, rfl, by go_num, by first | exact hone | exact hone.drewN⟩
              case measure => simp [intOf]; omega
            · exact absurd rfl hp0
          · have HC3 := Lib.hid hc
            have K3 : Hid (Kt w.heap.size w w3) := KO.out.trans hk
            clear hc hk
            skip
            rw [HS1'.out] at HC3
            generalize targetF ns 3 1 (decide (ok_ = 1 ∨ ok_ = 2 ∨ ok_ = 3)) = aa at *
            go_wp2_with (first
              | (go_at_call 27; (with_reducible refine (seq_s w.heap.size P 0 3 s1 ep ns 0 s1 ok_ oi om od now 1 _ HC3.out).mono ?_); rintro e w4 ⟨rfl, hx⟩; have HC4 := Lib.hid (HC3.out.stay hx); have K4 : Hid (Kt w.heap.size w w4) := K3.out.trans (Kt.ext hx HC3.out.lt); clear hx)
              | (go_at_call 27; (with_reducible refine (seq_s w.heap.size P 0 3 s1 ep ns 0 s1 ok_ oi om od now 1 _ HC4.out).mono ?_); rintro e w5 ⟨rfl, hx⟩; have HC5 := Lib.hid (HC4.out.stay hx); have K5 : Hid (Kt w.heap.size w w5) := K4.out.trans (Kt.ext hx HC4.out.lt); clear hx)
              | (go_at_call 26; (with_reducible refine (pend_s w.heap.size P 0 3 s1 ep ns 0 s1 ok_ oi om od now 1 _ HC5.out).mono ?_); rintro e wp ⟨rfl, hx⟩; have HCp := Lib.hid ((HC5.out.stay hx).stay (Ext.alloc wp (.cells #[.int .i64 0, .int .i64 s1, .int .i64 ok_, .int .i64 oi, .int .i64 om, .string od] 30))); have KP : Hid (Kt w.heap.size w (wp.alloc (.cells #[.int .i64 0, .int .i64 s1, .int .i64 ok_, .int .i64 oi, .int .i64 om, .string od] 30))) := K5.out.trans (Kt.ext (Ext.trans hx (Ext.alloc _ _)) HC5.out.lt); have z0 := (Blk.new wp 30 #[.int .i64 0, .int .i64 s1, .int .i64 ok_, .int .i64 oi, .int .i64 om, .string od]).cell 0; have z1 := (Blk.new wp 30 #[.int .i64 0, .int .i64 s1, .int .i64 ok_, .int .i64 oi, .int .i64 om, .string od]).cell 1; clear hx)
              | (go_at_call 27; (with_reducible refine (seq_s w.heap.size P 0 3 s1 ep ns 0 s1 ok_ oi om od now 1 _ HCp.out).mono ?_); rintro e wq ⟨rfl, hx⟩; have HCq := Lib.hid (HCp.out.stay hx); have KQ : Hid (Kt w.heap.size w wq) := KP.out.trans (Kt.ext hx HCp.out.lt); clear hx))
            go_roundw
            case rel =>
              have hone : One w wq P s1 true (j + 1) := ⟨ep, ns, _, HCq.out, KQ.out, hns'.out, HS1.out.1, HS1.out.2, .inr ⟨ok_, oi, om, od, now, 1, rfl, rfl, ⟨by omega, by omega⟩, hnow'.out⟩⟩
              exact ⟨j + 1, s1, true, by omega, by omega, by first | rfl | go_num, rfl, by go_num, by first | exact hone | exact hone.drewN⟩
            case measure => simp [intOf]; omega
        by_cases k1 : kind = 1
        · subst k1
          go_wp2_with fail
          go_at_call 15
          with_reducible refine (tick_n w.heap.size P 0 3 sq ep ns now _ HCO.out).mono ?_
          rintro e w3 ⟨rfl, hx⟩
          have HC3 := Lib.hid (HCO.out.stay hx)
          have K3 : Hid (Kt w.heap.size w w3) := KO.out.trans (Kt.ext hx HCO.out.lt)
          clear hx
          go_wp2_with (first
            | (go_at_call 26; (with_reducible refine (pend_n w.heap.size P 0 3 sq ep ns _ HC3.out).mono ?_); rintro e wp ⟨rfl, hx⟩; have HCp := Lib.hid ((HC3.out.stay hx).stay (Ext.alloc wp (.cells #[.int .i64 0, .int .i64 0, .int .i64 0, .int .i64 0, .int .i64 0, .string ⟨#[]⟩] 30))); have KP : Hid (Kt w.heap.size w (wp.alloc (.cells #[.int .i64 0, .int .i64 0, .int .i64 0, .int .i64 0, .int .i64 0, .string ⟨#[]⟩] 30))) := K3.out.trans (Kt.ext (Ext.trans hx (Ext.alloc _ _)) HC3.out.lt); have z0 := (Blk.new wp 30 #[.int .i64 0, .int .i64 0, .int .i64 0, .int .i64 0, .int .i64 0, .string ⟨#[]⟩]).cell 0; have z1 := (Blk.new wp 30 #[.int .i64 0, .int .i64 0, .int .i64 0, .int .i64 0, .int .i64 0, .string ⟨#[]⟩]).cell 1; clear hx)
            | (go_at_call 27; (with_reducible refine (seq_n w.heap.size P 0 3 sq ep ns _ HCp.out).mono ?_); rintro e wq ⟨rfl, hx⟩; have HCq := Lib.hid (HCp.out.stay hx); have KQ : Hid (Kt w.heap.size w wq) := KP.out.trans (Kt.ext hx HCp.out.lt); clear hx))
          go_roundw
          case rel =>
            have hone : One w wq P sq false (j + 1) := ⟨ep, ns, none, HCq.out, KQ.out, hns'.out, HSQ.out.1, by have := HSQ.out.2; omega, .inl ⟨rfl, rfl⟩⟩
            exact ⟨j + 1, sq, false, by omega, by omega, by first | rfl | go_num, rfl, by go_num, by first | exact hone | exact hone.drewN⟩
          case measure => simp [intOf]; omega
        by_cases k2 : kind = 2
        · subst k2
          go_wp2_with fail
          have CT := told_n w.heap.size P 0 3 sq ep ns os oe OA ocap ol _ HCO.out (by have := HNL.out.2; omega) hcap'.out (HSLO.out)
          rw [← HNL.out.1] at CT
          go_at_call 20
          with_reducible refine (CT).mono ?_
          rintro e w3 ⟨rfl, hx⟩
          clear CT
          have HC3 := Lib.hid (HCO.out.stay hx)
          have K3 : Hid (Kt w.heap.size w w3) := KO.out.trans (Kt.ext hx HCO.out.lt)
          clear hx
          go_wp2_with (first
            | (go_at_call 26; (with_reducible refine (pend_n w.heap.size P 0 3 sq ep ns _ HC3.out).mono ?_); rintro e wp ⟨rfl, hx⟩; have HCp := Lib.hid ((HC3.out.stay hx).stay (Ext.alloc wp (.cells #[.int .i64 0, .int .i64 0, .int .i64 0, .int .i64 0, .int .i64 0, .string ⟨#[]⟩] 30))); have KP : Hid (Kt w.heap.size w (wp.alloc (.cells #[.int .i64 0, .int .i64 0, .int .i64 0, .int .i64 0, .int .i64 0, .string ⟨#[]⟩] 30))) := K3.out.trans (Kt.ext (Ext.trans hx (Ext.alloc _ _)) HC3.out.lt); have z0 := (Blk.new wp 30 #[.int .i64 0, .int .i64 0, .int .i64 0, .int .i64 0, .int .i64 0, .string ⟨#[]⟩]).cell 0; have z1 := (Blk.new wp 30 #[.int .i64 0, .int .i64 0, .int .i64 0, .int .i64 0, .int .i64 0, .string ⟨#[]⟩]).cell 1; clear hx)
            | (go_at_call 27; (with_reducible refine (seq_n w.heap.size P 0 3 sq ep ns _ HCp.out).mono ?_); rintro e wq ⟨rfl, hx⟩; have HCq := Lib.hid (HCp.out.stay hx); have KQ : Hid (Kt w.heap.size w wq) := KP.out.trans (Kt.ext hx HCp.out.lt); clear hx))
          go_roundw
          case rel =>
            have hone : One w wq P sq false (j + 1) := ⟨ep, ns, none, HCq.out, KQ.out, hns'.out, HSQ.out.1, by have := HSQ.out.2; omega, .inl ⟨rfl, rfl⟩⟩
            exact ⟨j + 1, sq, false, by omega, by omega, by first | rfl | go_num, rfl, by go_num, by first | exact hone | exact hone.drewN⟩
          case measure => simp [intOf]; omega
        go_wp2_with fail
        go_at_call 24
        with_reducible refine (answer_n w.heap.size P 0 3 sq ep ns os _ HCO.out).mono ?_
        rintro e w3 ⟨rfl, hx⟩
        have HC3 := Lib.hid (HCO.out.stay hx)
        have K3 : Hid (Kt w.heap.size w w3) := KO.out.trans (Kt.ext hx HCO.out.lt)
        clear hx
        go_wp2_with (first
          | (go_at_call 26; (with_reducible refine (pend_n w.heap.size P 0 3 sq ep ns _ HC3.out).mono ?_); rintro e wp ⟨rfl, hx⟩; have HCp := Lib.hid ((HC3.out.stay hx).stay (Ext.alloc wp (.cells #[.int .i64 0, .int .i64 0, .int .i64 0, .int .i64 0, .int .i64 0, .string ⟨#[]⟩] 30))); have KP : Hid (Kt w.heap.size w (wp.alloc (.cells #[.int .i64 0, .int .i64 0, .int .i64 0, .int .i64 0, .int .i64 0, .string ⟨#[]⟩] 30))) := K3.out.trans (Kt.ext (Ext.trans hx (Ext.alloc _ _)) HC3.out.lt); have z0 := (Blk.new wp 30 #[.int .i64 0, .int .i64 0, .int .i64 0, .int .i64 0, .int .i64 0, .string ⟨#[]⟩]).cell 0; have z1 := (Blk.new wp 30 #[.int .i64 0, .int .i64 0, .int .i64 0, .int .i64 0, .int .i64 0, .string ⟨#[]⟩]).cell 1; clear hx)
          | (go_at_call 27; (with_reducible refine (seq_n w.heap.size P 0 3 sq ep ns _ HCp.out).mono ?_); rintro e wq ⟨rfl, hx⟩; have HCq := Lib.hid (HCp.out.stay hx); have KQ : Hid (Kt w.heap.size w wq) := KP.out.trans (Kt.ext hx HCp.out.lt); clear hx))
        go_roundw
        case rel =>
          have hone : One w wq P sq false (j + 1) := ⟨ep, ns, none, HCq.out, KQ.out, hns'.out, HSQ.out.1, by have := HSQ.out.2; omega, .inl ⟨rfl, rfl⟩⟩
          exact ⟨j + 1, sq, false, by omega, by omega, by first | rfl | go_num, rfl, by go_num, by first | exact hone | exact hone.drewN⟩
        case measure => simp [intOf]; omega
      · have HTR : Hid (1 ≤ tr ∧ tr ≤ j) := htr
        have HAK : Hid (ak ≤ 9223372036854775807) := hak
        clear HP htr hak
        by_cases k0 : kind = 0
        · subst k0
          go_wp2_with fail
          go_at_call 14
          with_reducible refine (ask_any w.heap.size P 0 3 sq ep ns (some ⟨0, sq, k, i, m, d, ak, tr⟩) now oc oq ok_ oi om od _ HCO.out hod (by have := hns'.out; omega) HSQ.out.1 (by have := HSQ.out.2; omega)).mono ?_
          rintro e w3 ⟨a, f, rfl, hk, h⟩
          rcases h with ⟨h1, rfl, hc⟩ | ⟨hm, hn0, hn1, hp0, rfl, rfl, hc⟩
          · rcases h1 with ⟨_, rfl⟩ | ⟨_, _, _, hp0, rfl⟩
            · have HC3 := Lib.hid hc
              have K3 : Hid (Kt w.heap.size w w3) := KO.out.trans hk
              clear hc hk
              go_wp2_with (first
                | (go_at_call 26; (with_reducible refine (pend_s w.heap.size P 0 3 sq ep ns 0 sq k i m d ak tr _ HC3.out).mono ?_); rintro e wp ⟨rfl, hx⟩; have HCp := Lib.hid ((HC3.out.stay hx).stay (Ext.alloc wp (.cells #[.int .i64 0, .int .i64 sq, .int .i64 k, .int .i64 i, .int .i64 m, .string d] 30))); have KP : Hid (Kt w.heap.size w (wp.alloc (.cells #[.int .i64 0, .int .i64 sq, .int .i64 k, .int .i64 i, .int .i64 m, .string d] 30))) := K3.out.trans (Kt.ext (Ext.trans hx (Ext.alloc _ _)) HC3.out.lt); have z0 := (Blk.new wp 30 #[.int .i64 0, .int .i64 sq, .int .i64 k, .int .i64 i, .int .i64 m, .string d]).cell 0; have z1 := (Blk.new wp 30 #[.int .i64 0, .int .i64 sq, .int .i64 k, .int .i64 i, .int .i64 m, .string d]).cell 1; clear hx)
                | (go_at_call 27; (with_reducible refine (seq_s w.heap.size P 0 3 sq ep ns 0 sq k i m d ak tr _ HCp.out).mono ?_); rintro e wq ⟨rfl, hx⟩; have HCq := Lib.hid (HCp.out.stay hx); have KQ : Hid (Kt w.heap.size w wq) := KP.out.trans (Kt.ext hx HCp.out.lt); clear hx))
              go_roundw
              case rel =>
                have hone : One w wq P sq true (j + 1) := ⟨ep, ns, _, HCq.out, KQ.out, hns'.out, HSQ.out.1, by have := HSQ.out.2; omega, .inr ⟨k, i, m, d, ak, tr, rfl, rfl, ⟨HTR.out.1, by have := HTR.out.2; omega⟩, HAK.out⟩⟩
                exact ⟨j + 1, sq, true, by omega, by omega, by first | rfl | go_num, rfl, by go_num, by first | exact hone | exact hone.drewN⟩
              case measure => simp [intOf]; omega
            · have HC3 := Lib.hid hc
              have K3 : Hid (Kt w.heap.size w w3) := KO.out.trans hk
              clear hc hk
              go_wp2_with (first
                | (go_at_call 26; (with_reducible refine (pend_s w.heap.size P 0 3 sq ep ns 0 sq k i m d ak tr _ HC3.out).mono ?_); rintro e wp ⟨rfl, hx⟩; have HCp := Lib.hid ((HC3.out.stay hx).stay (Ext.alloc wp (.cells #[.int .i64 0, .int .i64 sq, .int .i64 k, .int .i64 i, .int .i64 m, .string d] 30))); have KP : Hid (Kt w.heap.size w (wp.alloc (.cells #[.int .i64 0, .int .i64 sq, .int .i64 k, .int .i64 i, .int .i64 m, .string d] 30))) := K3.out.trans (Kt.ext (Ext.trans hx (Ext.alloc _ _)) HC3.out.lt); have z0 := (Blk.new wp 30 #[.int .i64 0, .int .i64 sq, .int .i64 k, .int .i64 i, .int .i64 m, .string d]).cell 0; have z1 := (Blk.new wp 30 #[.int .i64 0, .int .i64 sq, .int .i64 k, .int .i64 i, .int .i64 m, .string d]).cell 1; clear hx)
                | (go_at_call 27; (with_reducible refine (seq_s w.heap.size P 0 3 sq ep ns 0 sq k i m d ak tr _ HCp.out).mono ?_); rintro e wq ⟨rfl, hx⟩; have HCq := Lib.hid (HCp.out.stay hx); have KQ : Hid (Kt w.heap.size w wq) := KP.out.trans (Kt.ext hx HCp.out.lt); clear hx))
              go_roundw
              case rel =>
                have hone : One w wq P sq true (j + 1) := ⟨ep, ns, _, HCq.out, KQ.out, hns'.out, HSQ.out.1, by have := HSQ.out.2; omega, .inr ⟨k, i, m, d, ak, tr, rfl, rfl, ⟨HTR.out.1, by have := HTR.out.2; omega⟩, HAK.out⟩⟩
                exact ⟨j + 1, sq, true, by omega, by omega, by first | rfl | go_num, rfl, by go_num, by first | exact hone | exact hone.drewN⟩
              case measure => simp [intOf]; omega
          · cases hp0
        by_cases k1 : kind = 1
        · subst k1
          go_wp2_with fail
          cases hdu : dueB now ak tr with
          | false =>
            go_at_call 15
            with_reducible refine (tick_o w.heap.size P 0 3 sq ep ns 0 sq k i m d ak tr now _ HCO.out hdu (by have := HTR.out.1; omega) (by have := HTR.out.2; omega) hnow'.out HAK.out).mono ?_
            rintro e w3 ⟨rfl, hx⟩
            have HC3 := Lib.hid (HCO.out.stay hx)
            have K3 : Hid (Kt w.heap.size w w3) := KO.out.trans (Kt.ext hx HCO.out.lt)
            clear hx
            go_wp2_with (first
              | (go_at_call 26; (with_reducible refine (pend_s w.heap.size P 0 3 sq ep ns 0 sq k i m d ak tr _ HC3.out).mono ?_); rintro e wp ⟨rfl, hx⟩; have HCp := Lib.hid ((HC3.out.stay hx).stay (Ext.alloc wp (.cells #[.int .i64 0, .int .i64 sq, .int .i64 k, .int .i64 i, .int .i64 m, .string d] 30))); have KP : Hid (Kt w.heap.size w (wp.alloc (.cells #[.int .i64 0, .int .i64 sq, .int .i64 k, .int .i64 i, .int .i64 m, .string d] 30))) := K3.out.trans (Kt.ext (Ext.trans hx (Ext.alloc _ _)) HC3.out.lt); have z0 := (Blk.new wp 30 #[.int .i64 0, .int .i64 sq, .int .i64 k, .int .i64 i, .int .i64 m, .string d]).cell 0; have z1 := (Blk.new wp 30 #[.int .i64 0, .int .i64 sq, .int .i64 k, .int .i64 i, .int .i64 m, .string d]).cell 1; clear hx)
              | (go_at_call 27; (with_reducible refine (seq_s w.heap.size P 0 3 sq ep ns 0 sq k i m d ak tr _ HCp.out).mono ?_); rintro e wq ⟨rfl, hx⟩; have HCq := Lib.hid (HCp.out.stay hx); have KQ : Hid (Kt w.heap.size w wq) := KP.out.trans (Kt.ext hx HCp.out.lt); clear hx))
            go_roundw
            case rel =>
              have hone : One w wq P sq true (j + 1) := ⟨ep, ns, _, HCq.out, KQ.out, hns'.out, HSQ.out.1, by have := HSQ.out.2; omega, .inr ⟨k, i, m, d, ak, tr, rfl, rfl, ⟨HTR.out.1, by have := HTR.out.2; omega⟩, HAK.out⟩⟩
              exact ⟨j + 1, sq, true, by omega, by omega, by first | rfl | go_num, rfl, by go_num, by first | exact hone | exact hone.drewN⟩
            case measure => simp [intOf]; omega
          | true =>
            go_at_call 15
            with_reducible refine (tick_y w.heap.size P 0 3 sq ep ns 0 sq k i m d ak tr now (tr + 1) _ HCO.out hdu (by have := hns'.out; omega) (by have := HTR.out.1; omega) rfl (by have := HTR.out.1; omega) (by have := HTR.out.2; omega) hnow'.out HAK.out).mono ?_
            rintro e w3 ⟨rfl, hc, hk⟩
            have HC3 := Lib.hid hc
            have K3 : Hid (Kt w.heap.size w w3) := KO.out.trans hk
            clear hc hk
            generalize targetF ns 3 (tr + 1) (decide (k = 1 ∨ k = 2 ∨ k = 3)) = aa at *
            go_wp2_with (first
              | (go_at_call 26; (with_reducible refine (pend_s w.heap.size P 0 3 sq ep ns 0 sq k i m d now (tr + 1) _ HC3.out).mono ?_); rintro e wp ⟨rfl, hx⟩; have HCp := Lib.hid ((HC3.out.stay hx).stay (Ext.alloc wp (.cells #[.int .i64 0, .int .i64 sq, .int .i64 k, .int .i64 i, .int .i64 m, .string d] 30))); have KP : Hid (Kt w.heap.size w (wp.alloc (.cells #[.int .i64 0, .int .i64 sq, .int .i64 k, .int .i64 i, .int .i64 m, .string d] 30))) := K3.out.trans (Kt.ext (Ext.trans hx (Ext.alloc _ _)) HC3.out.lt); have z0 := (Blk.new wp 30 #[.int .i64 0, .int .i64 sq, .int .i64 k, .int .i64 i, .int .i64 m, .string d]).cell 0; have z1 := (Blk.new wp 30 #[.int .i64 0, .int .i64 sq, .int .i64 k, .int .i64 i, .int .i64 m, .string d]).cell 1; clear hx)
              | (go_at_call 27; (with_reducible refine (seq_s w.heap.size P 0 3 sq ep ns 0 sq k i m d now (tr + 1) _ HCp.out).mono ?_); rintro e wq ⟨rfl, hx⟩; have HCq := Lib.hid (HCp.out.stay hx); have KQ : Hid (Kt w.heap.size w wq) := KP.out.trans (Kt.ext hx HCp.out.lt); clear hx))
            go_roundw
            case rel =>
              have hone : One w wq P sq true (j + 1) := ⟨ep, ns, _, HCq.out, KQ.out, hns'.out, HSQ.out.1, by have := HSQ.out.2; omega, .inr ⟨k, i, m, d, now, (tr + 1), rfl, rfl, ⟨by have := HTR.out.1; omega, by have := HTR.out.2; omega⟩, hnow'.out⟩⟩
              exact ⟨j + 1, sq, true, by omega, by omega, by first | rfl | go_num, rfl, by go_num, by first | exact hone | exact hone.drewN⟩
            case measure => simp [intOf]; omega
        by_cases k2 : kind = 2
        · subst k2
          go_wp2_with fail
          by_cases hx0 : sq = os
          · cases hmc : mayChainB oe ol with
            | false =>
              subst hx0
              have CT := told_b w.heap.size P 0 3 sq ep ns 0 sq k i m d ak tr sq oe OA ocap ol _ HCO.out (by have := HNL.out.2; omega) hcap'.out (HSLO.out) rfl hmc
              rw [← HNL.out.1] at CT
              go_at_call 20
              with_reducible refine (CT).mono ?_
              rintro e w3 ⟨rfl, hx⟩
              clear CT
              have HC3 := Lib.hid (HCO.out.stay hx)
              have K3 : Hid (Kt w.heap.size w w3) := KO.out.trans (Kt.ext hx HCO.out.lt)
              clear hx
              go_wp2_with (first
                | (go_at_call 26; (with_reducible refine (pend_s w.heap.size P 0 3 sq ep ns 0 sq k i m d ak tr _ HC3.out).mono ?_); rintro e wp ⟨rfl, hx⟩; have HCp := Lib.hid ((HC3.out.stay hx).stay (Ext.alloc wp (.cells #[.int .i64 0, .int .i64 sq, .int .i64 k, .int .i64 i, .int .i64 m, .string d] 30))); have KP : Hid (Kt w.heap.size w (wp.alloc (.cells #[.int .i64 0, .int .i64 sq, .int .i64 k, .int .i64 i, .int .i64 m, .string d] 30))) := K3.out.trans (Kt.ext (Ext.trans hx (Ext.alloc _ _)) HC3.out.lt); have z0 := (Blk.new wp 30 #[.int .i64 0, .int .i64 sq, .int .i64 k, .int .i64 i, .int .i64 m, .string d]).cell 0; have z1 := (Blk.new wp 30 #[.int .i64 0, .int .i64 sq, .int .i64 k, .int .i64 i, .int .i64 m, .string d]).cell 1; clear hx)
                | (go_at_call 27; (with_reducible refine (seq_s w.heap.size P 0 3 sq ep ns 0 sq k i m d ak tr _ HCp.out).mono ?_); rintro e wq ⟨rfl, hx⟩; have HCq := Lib.hid (HCp.out.stay hx); have KQ : Hid (Kt w.heap.size w wq) := KP.out.trans (Kt.ext hx HCp.out.lt); clear hx))
              go_roundw
              case rel =>
                have hone : One w wq P sq true (j + 1) := ⟨ep, ns, _, HCq.out, KQ.out, hns'.out, HSQ.out.1, by have := HSQ.out.2; omega, .inr ⟨k, i, m, d, ak, tr, rfl, rfl, ⟨HTR.out.1, by have := HTR.out.2; omega⟩, HAK.out⟩⟩
                exact ⟨j + 1, sq, true, by omega, by omega, by first | rfl | go_num, rfl, by go_num, by first | exact hone | exact hone.drewN⟩
              case measure => simp [intOf]; omega
            | true =>
              by_cases he : oe < ep
              · subst hx0
                have CT := told_e w.heap.size P 0 3 sq ep ns 0 sq k i m d ak tr sq oe OA ocap ol _ HCO.out (by have := HNL.out.2; omega) hcap'.out (HSLO.out) rfl hmc he
                rw [← HNL.out.1] at CT
                go_at_call 20
                with_reducible refine (CT).mono ?_
                rintro e w3 ⟨rfl, hx⟩
                clear CT
                have HC3 := Lib.hid (HCO.out.stay hx)
                have K3 : Hid (Kt w.heap.size w w3) := KO.out.trans (Kt.ext hx HCO.out.lt)
                clear hx
                go_wp2_with (first
                  | (go_at_call 26; (with_reducible refine (pend_s w.heap.size P 0 3 sq ep ns 0 sq k i m d ak tr _ HC3.out).mono ?_); rintro e wp ⟨rfl, hx⟩; have HCp := Lib.hid ((HC3.out.stay hx).stay (Ext.alloc wp (.cells #[.int .i64 0, .int .i64 sq, .int .i64 k, .int .i64 i, .int .i64 m, .string d] 30))); have KP : Hid (Kt w.heap.size w (wp.alloc (.cells #[.int .i64 0, .int .i64 sq, .int .i64 k, .int .i64 i, .int .i64 m, .string d] 30))) := K3.out.trans (Kt.ext (Ext.trans hx (Ext.alloc _ _)) HC3.out.lt); have z0 := (Blk.new wp 30 #[.int .i64 0, .int .i64 sq, .int .i64 k, .int .i64 i, .int .i64 m, .string d]).cell 0; have z1 := (Blk.new wp 30 #[.int .i64 0, .int .i64 sq, .int .i64 k, .int .i64 i, .int .i64 m, .string d]).cell 1; clear hx)
                  | (go_at_call 27; (with_reducible refine (seq_s w.heap.size P 0 3 sq ep ns 0 sq k i m d ak tr _ HCp.out).mono ?_); rintro e wq ⟨rfl, hx⟩; have HCq := Lib.hid (HCp.out.stay hx); have KQ : Hid (Kt w.heap.size w wq) := KP.out.trans (Kt.ext hx HCp.out.lt); clear hx))
                go_roundw
                case rel =>
                  have hone : One w wq P sq true (j + 1) := ⟨ep, ns, _, HCq.out, KQ.out, hns'.out, HSQ.out.1, by have := HSQ.out.2; omega, .inr ⟨k, i, m, d, ak, tr, rfl, rfl, ⟨HTR.out.1, by have := HTR.out.2; omega⟩, HAK.out⟩⟩
                  exact ⟨j + 1, sq, true, by omega, by omega, by first | rfl | go_num, rfl, by go_num, by first | exact hone | exact hone.drewN⟩
                case measure => simp [intOf]; omega
              · have hl5 : Hid (ol.length ≤ 5) := may_len hmc
                subst hx0
                have CT := told_y w.heap.size P 0 3 sq ep ns 0 sq k i m d ak tr sq oe OA ocap ol _ HCO.out (by have := HNL.out.2; omega) hcap'.out (HSLO.out) rfl hmc (by omega)
                rw [← HNL.out.1] at CT
                go_at_call 20
                with_reducible refine (CT).mono ?_
                rintro e w3 ⟨rfl, hc, hk⟩
                clear CT
                have HC3 := Lib.hid hc
                have K3 : Hid (Kt w.heap.size w w3) := KO.out.trans hk
                clear hc hk
                go_wp2_with (first
                  | (go_at_call 26; (with_reducible refine (pend_s w.heap.size P 0 3 sq oe ol 0 sq k i m d ak tr _ HC3.out).mono ?_); rintro e wp ⟨rfl, hx⟩; have HCp := Lib.hid ((HC3.out.stay hx).stay (Ext.alloc wp (.cells #[.int .i64 0, .int .i64 sq, .int .i64 k, .int .i64 i, .int .i64 m, .string d] 30))); have KP : Hid (Kt w.heap.size w (wp.alloc (.cells #[.int .i64 0, .int .i64 sq, .int .i64 k, .int .i64 i, .int .i64 m, .string d] 30))) := K3.out.trans (Kt.ext (Ext.trans hx (Ext.alloc _ _)) HC3.out.lt); have z0 := (Blk.new wp 30 #[.int .i64 0, .int .i64 sq, .int .i64 k, .int .i64 i, .int .i64 m, .string d]).cell 0; have z1 := (Blk.new wp 30 #[.int .i64 0, .int .i64 sq, .int .i64 k, .int .i64 i, .int .i64 m, .string d]).cell 1; clear hx)
                  | (go_at_call 27; (with_reducible refine (seq_s w.heap.size P 0 3 sq oe ol 0 sq k i m d ak tr _ HCp.out).mono ?_); rintro e wq ⟨rfl, hx⟩; have HCq := Lib.hid (HCp.out.stay hx); have KQ : Hid (Kt w.heap.size w wq) := KP.out.trans (Kt.ext hx HCp.out.lt); clear hx))
                go_roundw
                case rel =>
                  have hone : One w wq P sq true (j + 1) := ⟨oe, ol, _, HCq.out, KQ.out, hl5.out, HSQ.out.1, by have := HSQ.out.2; omega, .inr ⟨k, i, m, d, ak, tr, rfl, rfl, ⟨HTR.out.1, by have := HTR.out.2; omega⟩, HAK.out⟩⟩
                  exact ⟨j + 1, sq, true, by omega, by omega, by first | rfl | go_num, rfl, by go_num, by first | exact hone | exact hone.drewN⟩
                case measure => simp [intOf]; omega
          · have CT := told_o w.heap.size P 0 3 sq ep ns 0 sq k i m d ak tr os oe OA ocap ol _ HCO.out (by have := HNL.out.2; omega) hcap'.out (HSLO.out) hx0
            rw [← HNL.out.1] at CT
            go_at_call 20
            with_reducible refine (CT).mono ?_
            rintro e w3 ⟨rfl, hx⟩
            clear CT
            have HC3 := Lib.hid (HCO.out.stay hx)
            have K3 : Hid (Kt w.heap.size w w3) := KO.out.trans (Kt.ext hx HCO.out.lt)
            clear hx
            go_wp2_with (first
              | (go_at_call 26; (with_reducible refine (pend_s w.heap.size P 0 3 sq ep ns 0 sq k i m d ak tr _ HC3.out).mono ?_); rintro e wp ⟨rfl, hx⟩; have HCp := Lib.hid ((HC3.out.stay hx).stay (Ext.alloc wp (.cells #[.int .i64 0, .int .i64 sq, .int .i64 k, .int .i64 i, .int .i64 m, .string d] 30))); have KP : Hid (Kt w.heap.size w (wp.alloc (.cells #[.int .i64 0, .int .i64 sq, .int .i64 k, .int .i64 i, .int .i64 m, .string d] 30))) := K3.out.trans (Kt.ext (Ext.trans hx (Ext.alloc _ _)) HC3.out.lt); have z0 := (Blk.new wp 30 #[.int .i64 0, .int .i64 sq, .int .i64 k, .int .i64 i, .int .i64 m, .string d]).cell 0; have z1 := (Blk.new wp 30 #[.int .i64 0, .int .i64 sq, .int .i64 k, .int .i64 i, .int .i64 m, .string d]).cell 1; clear hx)
              | (go_at_call 27; (with_reducible refine (seq_s w.heap.size P 0 3 sq ep ns 0 sq k i m d ak tr _ HCp.out).mono ?_); rintro e wq ⟨rfl, hx⟩; have HCq := Lib.hid (HCp.out.stay hx); have KQ : Hid (Kt w.heap.size w wq) := KP.out.trans (Kt.ext hx HCp.out.lt); clear hx))
            go_roundw
            case rel =>
              have hone : One w wq P sq true (j + 1) := ⟨ep, ns, _, HCq.out, KQ.out, hns'.out, HSQ.out.1, by have := HSQ.out.2; omega, .inr ⟨k, i, m, d, ak, tr, rfl, rfl, ⟨HTR.out.1, by have := HTR.out.2; omega⟩, HAK.out⟩⟩
              exact ⟨j + 1, sq, true, by omega, by omega, by first | rfl | go_num, rfl, by go_num, by first | exact hone | exact hone.drewN⟩
            case measure => simp [intOf]; omega
        go_wp2_with fail
        by_cases hx0 : sq = os
        · subst hx0
          go_at_call 24
          with_reducible refine (answer_y w.heap.size P 0 3 sq ep ns 0 sq k i m d ak tr sq _ HCO.out rfl).mono ?_
          rintro e w3 ⟨rfl, hc, hk⟩
          have ow2 := (hk.2 _ _ _ (by decide) (by decide) (Blk.new wr 48 #[.int .i64 kind, .int .i64 now, .int .i64 sq, .int .i64 oc, .int .i64 oq, .int .i64 ok_, .int .i64 oi, .int .i64 om, .string od, .int .i64 oe, .slice OA nl ocap])).cell 2
          simp at ow2
          have HC3 := Lib.hid hc
          have K3 : Hid (Kt w.heap.size w w3) := KO.out.trans hk
          clear hc hk
          go_wp2_with (first
            | (go_at_call 26; (with_reducible refine (pend_n w.heap.size P 0 3 sq ep ns _ HC3.out).mono ?_); rintro e wp ⟨rfl, hx⟩; have HCp := Lib.hid ((HC3.out.stay hx).stay (Ext.alloc wp (.cells #[.int .i64 0, .int .i64 0, .int .i64 0, .int .i64 0, .int .i64 0, .string ⟨#[]⟩] 30))); have KP : Hid (Kt w.heap.size w (wp.alloc (.cells #[.int .i64 0, .int .i64 0, .int .i64 0, .int .i64 0, .int .i64 0, .string ⟨#[]⟩] 30))) := K3.out.trans (Kt.ext (Ext.trans hx (Ext.alloc _ _)) HC3.out.lt); have z0 := (Blk.new wp 30 #[.int .i64 0, .int .i64 0, .int .i64 0, .int .i64 0, .int .i64 0, .string ⟨#[]⟩]).cell 0; have z1 := (Blk.new wp 30 #[.int .i64 0, .int .i64 0, .int .i64 0, .int .i64 0, .int .i64 0, .string ⟨#[]⟩]).cell 1; clear hx)
            | (go_at_call 27; (with_reducible refine (seq_n w.heap.size P 0 3 sq ep ns _ HCp.out).mono ?_); rintro e wq ⟨rfl, hx⟩; have HCq := Lib.hid (HCp.out.stay hx); have KQ : Hid (Kt w.heap.size w wq) := KP.out.trans (Kt.ext hx HCp.out.lt); clear hx))
          go_roundw
          case rel =>
            have hone : One w wq P sq false (j + 1) := ⟨ep, ns, none, HCq.out, KQ.out, hns'.out, HSQ.out.1, by have := HSQ.out.2; omega, .inl ⟨rfl, rfl⟩⟩
            exact ⟨j + 1, sq, false, by omega, by omega, by first | rfl | go_num, rfl, by go_num, by first | exact hone | exact hone.drewN⟩
          case measure => simp [intOf]; omega
        · go_at_call 24
          with_reducible refine (answer_o w.heap.size P 0 3 sq ep ns 0 sq k i m d ak tr os _ HCO.out hx0).mono ?_
          rintro e w3 ⟨rfl, hx⟩
          have HC3 := Lib.hid (HCO.out.stay hx)
          have K3 : Hid (Kt w.heap.size w w3) := KO.out.trans (Kt.ext hx HCO.out.lt)
          clear hx
          go_wp2_with (first
            | (go_at_call 26; (with_reducible refine (pend_s w.heap.size P 0 3 sq ep ns 0 sq k i m d ak tr _ HC3.out).mono ?_); rintro e wp ⟨rfl, hx⟩; have HCp := Lib.hid ((HC3.out.stay hx).stay (Ext.alloc wp (.cells #[.int .i64 0, .int .i64 sq, .int .i64 k, .int .i64 i, .int .i64 m, .string d] 30))); have KP : Hid (Kt w.heap.size w (wp.alloc (.cells #[.int .i64 0, .int .i64 sq, .int .i64 k, .int .i64 i, .int .i64 m, .string d] 30))) := K3.out.trans (Kt.ext (Ext.trans hx (Ext.alloc _ _)) HC3.out.lt); have z0 := (Blk.new wp 30 #[.int .i64 0, .int .i64 sq, .int .i64 k, .int .i64 i, .int .i64 m, .string d]).cell 0; have z1 := (Blk.new wp 30 #[.int .i64 0, .int .i64 sq, .int .i64 k, .int .i64 i, .int .i64 m, .string d]).cell 1; clear hx)
            | (go_at_call 27; (with_reducible refine (seq_s w.heap.size P 0 3 sq ep ns 0 sq k i m d ak tr _ HCp.out).mono ?_); rintro e wq ⟨rfl, hx⟩; have HCq := Lib.hid (HCp.out.stay hx); have KQ : Hid (Kt w.heap.size w wq) := KP.out.trans (Kt.ext hx HCp.out.lt); clear hx))
          go_roundw
          case rel =>
            have hone : One w wq P sq true (j + 1) := ⟨ep, ns, _, HCq.out, KQ.out, hns'.out, HSQ.out.1, by have := HSQ.out.2; omega, .inr ⟨k, i, m, d, ak, tr, rfl, rfl, ⟨HTR.out.1, by have := HTR.out.2; omega⟩, HAK.out⟩⟩
            exact ⟨j + 1, sq, true, by omega, by omega, by first | rfl | go_num, rfl, by go_num, by first | exact hone | exact hone.drewN⟩
          case measure => simp [intOf]; omega
    · obtain ⟨ep, ns, p, hcl, hkt, _⟩ := HI.out
      have HCE := Lib.hid hcl
      have KE := Lib.hid hkt
      clear hcl hkt HI
      by_cases h1 : j < n
      · have h2 : ¬ (j : Int) < 80 := by omega
        have h3 : (j : Int) < (n : Int) := by omega
        go_wp2_with (go_at_call 18; (with_reducible refine (HTO.out _).mono ?_); rintro e wt ⟨rfl, hx⟩; have KT : Hid (Kt w.heap.size w wt) := KE.out.trans (Kt.ext hx HCE.out.lt); clear hx)
        try go_ret
        exact hD.out _ _ ⟨rfl, KT.out.1⟩
      · have h3 : ¬ (j : Int) < (n : Int) := by omega
        go_wp2_with (go_at_call 18; (with_reducible refine (HTO.out _).mono ?_); rintro e wt ⟨rfl, hx⟩; have KT : Hid (Kt w.heap.size w wt) := KE.out.trans (Kt.ext hx HCE.out.lt); clear hx)
        try go_ret
        exact hD.out _ _ ⟨rfl, KT.out.1⟩

set_option maxRecDepth 100000 in
theorem law_clientOne {H : Type} {enc : TypeId × Value → H} (W : World) (base : Nat) (args : Array Value) (ds : List (DataW H)) (p : List MemPlace)
    (hval : ∀ (j : Nat) t v, Try.f6.params[j]? = some t → args[j]? = some v → Value.okWide Try.prog W .any base t v)
    (hA : DataW.TrodAll enc Try.prog W 0 (fun _ => true) true Try.f6.params.toList args.toList ds p) :
    Calls Try.prog 6 args W fun e W' => e = .returned (.bool true) ∧ Below W.heap.size W W' := by
  rw [Try.params6] at hA hval
  obtain ⟨v0, vs0, d0, ds0, p0, q0, hargs, rfl, rfl, h0, r0⟩ := trodAll_cons hA
  obtain ⟨rfl, rfl, rfl⟩ := trodAll_nil r0
  obtain rfl : args = #[v0] := by cases args; simp_all
  obtain ⟨A0, n0, c0, rfl⟩ := okWide_slice Try.underlying43 (hval 0 43 v0 rfl rfl)
  obtain ⟨fuel0, hf0⟩ := h0
  obtain ⟨B0, l0, e0, hcs0, x0, y0⟩ := open_ops21 hf0
  simp only [Value.cells, List.cons.injEq, Value.slice.injEq, and_true] at hcs0
  obtain ⟨rfl, rfl, rfl⟩ := hcs0
  exact walk_clientOne A0 l0 c0 W x0 y0

end Go.Proofs.Ytdbnaflaobncgaa
