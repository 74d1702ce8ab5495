/-
  The walk of the law ClientPlays.
-/
import Derived.Test.YtnionfddejaalaaClientOneWalk
import Derived.Test.YtnionfddejaalaaXClient2
import Derived.Deep.CutRange
import Derived.Deep.CutBlock
namespace Go.Proofs.Ytnionfddejaalaa
set_option linter.unusedVariables false
set_option linter.unusedSimpArgs false
open Go.RowKit Go.ChangeShapes Go.WideShapes

/-- both clients as they stand at the loop's head -/
def Pl (w wr : World) (P X : Nat) (id n : Int) (j : Nat) : Prop :=
  ∃ (sq ep : Int) (ns : List Int) (p : Option Pd), ClAt w.heap.size wr P ⟨id, n, sq, ep, ns, p⟩ ∧ XAt wr X ⟨id, n, sq, ep, ns, p⟩ ∧ Below w.heap.size w wr ∧ ns.length ≤ 5 ∧ 0 ≤ sq ∧ sq ≤ j ∧
    (p = none ∨ (∃ (c k i m : Int) (d : ByteArray) (ak tr : Int), p = some ⟨c, sq, k, i, m, d, ak, tr⟩ ∧ (1 ≤ tr ∧ tr ≤ j) ∧ ak ≤ 9223372036854775807))
theorem Pl.drewN {w wr : World} {P X : Nat} {id n : Int} {j N : Nat} (h : Pl w wr P X id n j) : Pl w (wr.drewN N) P X id n j := by
  obtain ⟨sq, ep, ns, p, h1, h2, h3, h4⟩ := h
  have hx : Ext wr (wr.drewN N) := (Ext.refl _).drewN
  exact ⟨sq, ep, ns, p, h1.stay hx, h2.stay hx, Below.trans h3 (Below.mono hx h3.size), h4⟩
theorem frm_kb {base ob : Nat} {w w' : World} {t : TypeId} {cs : Array Value} (h : Below base w w') (h1 : Blk w ob t cs) (h2 : Blk w' ob t cs) : Frm (fun k => base ≤ k ∧ ¬ k = ob) w w' :=
  ⟨h.os, h.tape, h.output, h.size, fun k hk hn => by
    by_cases e : k = ob
    · subst e
      exact Eq.trans h2 (Eq.symm h1)
    · exact h.block k (by
        by_cases hb : base ≤ k
        · exact absurd ⟨hb, e⟩ hn
        · omega)⟩

set_option maxRecDepth 8000 in
set_option maxHeartbeats 64000000 in
theorem plays_yes (id n : Int) (A0 : Option Addr) (xs : List Op21) (cap0 : Nat) (w : World) (hin : 0 ≤ id ∧ id ≤ 3 ∧ 1 ≤ n ∧ n ≤ 5) (hn : xs.length ≤ 9223372036854775807) (hS : So21 w A0 xs) :
    Calls Try.prog 7 #[.int .i64 id, .int .i64 n, .slice A0 xs.length cap0] w fun e w' => e = .returned (.bool true) ∧ Below w.heap.size w w' := by
  refine hide_post fun D hD => ?_
  have CN : Hid (Calls Try.prog 22 #[.int .i64 id, .int .i64 n] w fun e w' => ∃ P, e = .returned (.tuple #[.pointer (some ⟨P, 0, none⟩), .int .i64 0]) ∧ ClAt w.heap.size w' P ⟨id, n, 0, 0, [], none⟩ ∧ Ext w w') := (new_yes id n w hin.1 hin.2.1 hin.2.2.1 hin.2.2.2).mono fun e w' h => ⟨_, h⟩
  have HTO : Hid (∀ V, Calls Try.prog 23 #[] V fun e w' => e = .returned (.bool true) ∧ Ext V w') := told21
  have HS := Lib.hid hS
  have HB0 : Hid (w.heap.size ≤ w.heap.size) := Nat.le_refl _
  obtain ⟨nn, hnn⟩ : ∃ n, n = xs.length := ⟨_, rfl⟩
  rw [← hnn] at hn ⊢
  have HN := Lib.hid hnn
  have HIN := Lib.hid hin
  have i1 : ¬ id < 0 := by omega
  have i2 : ¬ 4 ≤ id := by omega
  have i3 : ¬ n < 1 := by omega
  have i4 : ¬ 5 < n := by omega
  clear hS hnn hin
  go_enter Try.func7, Try.ntmps7
  go_wp2_with (go_at_call 22; (with_reducible refine CN.out.mono ?_); rintro e w1 ⟨P, rfl, hc, hx⟩; have HC1 := Lib.hid hc; have X1 := Lib.hid hx; clear hc hx)
  obtain ⟨X, hXX⟩ : ∃ X, X = w1.heap.size := ⟨_, rfl⟩
  obtain ⟨W1, hW1⟩ : ∃ W1, W1 = w1.alloc (.cells #[.int .i64 id, .int .i64 n, .int .i64 0, .int .i64 0, .int .i64 0, .int .i64 0, .int .i64 0, .int .i64 0, .int .i64 0, .int .i64 0, .string ⟨#[]⟩, .int .i64 0, .slice none 0 0] 61) := ⟨_, rfl⟩
  have HXX : Hid (w.heap.size ≤ X) := by (show _ ≤ _); rw [hXX]; exact X1.out.size
  have HI0 : Hid (Pl w W1 P X id n 0) := ⟨0, 0, [], none, by rw [hW1]; exact HC1.out.stay (Ext.alloc _ _), ⟨none, 0, .inl ⟨rfl, rfl⟩, 0, by rw [hW1, hXX]; exact Blk.new _ _ _⟩, by rw [hW1]; exact Ext.trans X1.out (Ext.alloc _ _), by simp, by omega, by omega, .inl rfl⟩
  rw [← hW1, ← hXX]
  clear hXX hW1
  go_loopw [10] (fun i wr => ∃ (j : Nat), j ≤ nn ∧ j ≤ 80 ∧ i = .int .i64 j ∧ Hid (Pl w wr P X id n j)) (fun i _ => nn - (intOf i).toNat)
  case atStart => exact ⟨0, Nat.zero_le _, by omega, rfl, HI0⟩
  case round =>
    obtain ⟨j, hj, hj8, rfl, HI⟩ := hrel
    by_cases hlt : j < nn ∧ j < 80
    · obtain ⟨x, hx⟩ : ∃ x, xs[j]? = some x := ⟨xs[j]'(by have := HN.out; omega), List.getElem?_eq_getElem _⟩
      obtain ⟨sq, ep, ns, p, hcl, hxa, hbw, hns, hsq0, hsqj, hp⟩ := HI.out
      have hslw : Sl i64 w x.A x.l := by
        obtain ⟨b5, o5, e5, c5, h5, r5⟩ := HS.out j x hx
        exact h5
      obtain ⟨b, o, rfl, hcells, hsl, hok⟩ := (HS.out.stay hbw) j x hx
      obtain ⟨kind, now, os, oc, oq, ok_, oi, om, od, oe, OA, ocap, ol⟩ := x
      obtain ⟨hnow, hod, hcap, hcap9⟩ := hok
      simp only at hnow hod hcap hcap9 hsl hslw
      obtain ⟨nl, hnl⟩ : ∃ nl, nl = ol.length := ⟨_, rfl⟩
      have q0 := hcells 0 (by decide)
      have q1 := hcells 1 (by decide)
      have q2 := hcells 2 (by decide)
      have q3 := hcells 3 (by decide)
      have q4 := hcells 4 (by decide)
      have q5 := hcells 5 (by decide)
      have q6 := hcells 6 (by decide)
      have q7 := hcells 7 (by decide)
      have q8 := hcells 8 (by decide)
      have q9 := hcells 9 (by decide)
      have q10 := hcells 10 (by decide)
      simp [Op21.vals] at q0 q1 q2 q3 q4 q5 q6 q7 q8 q9 q10
      rw [← hnl] at q10
      have o0 := (Blk.new wr 63 #[.int .i64 kind, .int .i64 now, .int .i64 os, .int .i64 oc, .int .i64 oq, .int .i64 ok_, .int .i64 oi, .int .i64 om, .string od, .int .i64 oe, .slice OA nl ocap]).cell 0
      have o1 := (Blk.new wr 63 #[.int .i64 kind, .int .i64 now, .int .i64 os, .int .i64 oc, .int .i64 oq, .int .i64 ok_, .int .i64 oi, .int .i64 om, .string od, .int .i64 oe, .slice OA nl ocap]).cell 1
      have o2 := (Blk.new wr 63 #[.int .i64 kind, .int .i64 now, .int .i64 os, .int .i64 oc, .int .i64 oq, .int .i64 ok_, .int .i64 oi, .int .i64 om, .string od, .int .i64 oe, .slice OA nl ocap]).cell 2
      have o3 := (Blk.new wr 63 #[.int .i64 kind, .int .i64 now, .int .i64 os, .int .i64 oc, .int .i64 oq, .int .i64 ok_, .int .i64 oi, .int .i64 om, .string od, .int .i64 oe, .slice OA nl ocap]).cell 3
      have o4 := (Blk.new wr 63 #[.int .i64 kind, .int .i64 now, .int .i64 os, .int .i64 oc, .int .i64 oq, .int .i64 ok_, .int .i64 oi, .int .i64 om, .string od, .int .i64 oe, .slice OA nl ocap]).cell 4
      have o5 := (Blk.new wr 63 #[.int .i64 kind, .int .i64 now, .int .i64 os, .int .i64 oc, .int .i64 oq, .int .i64 ok_, .int .i64 oi, .int .i64 om, .string od, .int .i64 oe, .slice OA nl ocap]).cell 5
      have o6 := (Blk.new wr 63 #[.int .i64 kind, .int .i64 now, .int .i64 os, .int .i64 oc, .int .i64 oq, .int .i64 ok_, .int .i64 oi, .int .i64 om, .string od, .int .i64 oe, .slice OA nl ocap]).cell 6
      have o7 := (Blk.new wr 63 #[.int .i64 kind, .int .i64 now, .int .i64 os, .int .i64 oc, .int .i64 oq, .int .i64 ok_, .int .i64 oi, .int .i64 om, .string od, .int .i64 oe, .slice OA nl ocap]).cell 7
      have o8 := (Blk.new wr 63 #[.int .i64 kind, .int .i64 now, .int .i64 os, .int .i64 oc, .int .i64 oq, .int .i64 ok_, .int .i64 oi, .int .i64 om, .string od, .int .i64 oe, .slice OA nl ocap]).cell 8
      have o9 := (Blk.new wr 63 #[.int .i64 kind, .int .i64 now, .int .i64 os, .int .i64 oc, .int .i64 oq, .int .i64 ok_, .int .i64 oi, .int .i64 om, .string od, .int .i64 oe, .slice OA nl ocap]).cell 9
      have o10 := (Blk.new wr 63 #[.int .i64 kind, .int .i64 now, .int .i64 os, .int .i64 oc, .int .i64 oq, .int .i64 ok_, .int .i64 oi, .int .i64 om, .string od, .int .i64 oe, .slice OA nl ocap]).cell 10
      simp at o0 o1 o2 o3 o4 o5 o6 o7 o8 o9 o10
      have HCO : Hid (ClAt w.heap.size (wr.alloc (.cells #[.int .i64 kind, .int .i64 now, .int .i64 os, .int .i64 oc, .int .i64 oq, .int .i64 ok_, .int .i64 oi, .int .i64 om, .string od, .int .i64 oe, .slice OA nl ocap] 63)) P ⟨id, n, sq, ep, ns, p⟩) := hcl.stay (Ext.alloc _ _)
      have HXO : Hid (XAt (wr.alloc (.cells #[.int .i64 kind, .int .i64 now, .int .i64 os, .int .i64 oc, .int .i64 oq, .int .i64 ok_, .int .i64 oi, .int .i64 om, .string od, .int .i64 oe, .slice OA nl ocap] 63)) X ⟨id, n, sq, ep, ns, p⟩) := hxa.stay (Ext.alloc _ _)
      have KO : Hid (Below w.heap.size w (wr.alloc (.cells #[.int .i64 kind, .int .i64 now, .int .i64 os, .int .i64 oc, .int .i64 oq, .int .i64 ok_, .int .i64 oi, .int .i64 om, .string od, .int .i64 oe, .slice OA nl ocap] 63))) := Below.trans hbw (Below.mono (Ext.alloc _ _) hbw.size)
      have HSLV : Hid (∀ V, Below w.heap.size w V → Sl i64 V OA ol) := fun V hV => hslw.stay hV
      have HBX : Hid (w.heap.size ≤ X ∧ True) := ⟨HXX.out, trivial⟩
      have HNL0 := Lib.hid hnl
      have hod' := Lib.hid hod
      have hns' : Hid (ns.length ≤ 5) := hns
      have hcap' : Hid (ol.length ≤ ocap) := hcap
      have hnow' : Hid (now ≤ 9223372036854775807) := hnow
      have HSQ : Hid (0 ≤ sq ∧ sq ≤ j) := ⟨hsq0, hsqj⟩
      have hj1 : (j : Int) < (nn : Int) := by omega
      have hj2 : (j : Int) < 80 := by omega
      have hj0 : (0 : Int) ≤ (j : Int) := by omega
      obtain ⟨s1, hs1⟩ : ∃ s1, s1 = sq + 1 := ⟨_, rfl⟩
      have hs1' : sq + 1 = s1 := hs1.symm
      have HS1 : Hid (0 ≤ s1 ∧ s1 ≤ ((j + 1 : Nat) : Int)) := by constructor <;> omega
      have HS1' := Lib.hid hs1'
      have HP := Lib.hid hp
      clear hcells hsl hslw hcl hxa hbw hx hnl hns hcap hnow hsq0 hsqj HI hs1 hs1' hp hod
      by_cases g1 : (100 : Int) < (od.size : Int)
      · clear HP
        go_wp2_with (go_at_call 23; (with_reducible refine (HTO.out _).mono ?_); rintro e wt ⟨rfl, hx⟩; have KT : Hid (Below w.heap.size w wt) := Below.trans KO.out (Below.mono hx KO.out.size); clear hx)
        try go_ret
        exact hD.out _ _ ⟨rfl, KT.out⟩
      by_cases g2 : (8 : Int) < (nl : Int)
      · clear HP
        go_wp2_with (go_at_call 23; (with_reducible refine (HTO.out _).mono ?_); rintro e wt ⟨rfl, hx⟩; have KT : Hid (Below w.heap.size w wt) := Below.trans KO.out (Below.mono hx KO.out.size); clear hx)
        try go_ret
        exact hD.out _ _ ⟨rfl, KT.out⟩
      have HNL : Hid (nl = ol.length ∧ ol.length ≤ 8) := ⟨HNL0.out, by have := HNL0.out; omega⟩
      have hod := hod'.out
      go_upto_block 2 with fail
      go_cut [12, 13, 14, 15, 16, 17, 18, 19] from 61 to 202 (fun _ _ _ _ _ _ _ _ wx => Pl w wx P X id n (j + 1))
      case first =>
        rcases HP.out with rfl | ⟨c, k, i, m, d, ak, tr, rfl, htr, hak⟩
        · as_aux_lemma =>
            clear HP
            by_cases k0 : kind = 0
            · subst k0
              go_wp2_with fail
              go_at_call 24
              with_reducible refine (ask_any w.heap.size P id n sq ep ns none now oc oq ok_ oi om od _ HCO.out hod (by have := hns'.out; omega) HSQ.out.1 (by have := HSQ.out.2; omega)).mono ?_
              rintro e w3 ⟨a, f, rfl, hk, h⟩
              rcases h with ⟨h1, rfl, hc⟩ | ⟨hm, hn0, hn1, hp0, rfl, rfl, hc⟩
              · rcases h1 with ⟨hbad, rfl⟩ | ⟨hm, hn0, hn1, hp0, rfl⟩
                · have kob := hk.2 _ _ _ (by decide) (by decide) (Blk.new wr 63 #[.int .i64 0, .int .i64 now, .int .i64 os, .int .i64 oc, .int .i64 oq, .int .i64 ok_, .int .i64 oi, .int .i64 om, .string od, .int .i64 oe, .slice OA nl ocap])
                  have v1 := kob.cell 1
                  have v2 := kob.cell 2
                  have v3 := kob.cell 3
                  have v4 := kob.cell 4
                  have v5 := kob.cell 5
                  have v6 := kob.cell 6
                  have v7 := kob.cell 7
                  have v8 := kob.cell 8
                  have v9 := kob.cell 9
                  have v10 := kob.cell 10
                  simp at v1 v2 v3 v4 v5 v6 v7 v8 v9 v10
                  have HC3 := Lib.hid hc
                  have HX3 := Lib.hid (HXO.out.kt hk)
                  have K3 : Hid (Below w.heap.size w w3) := Below.trans KO.out hk.1
                  clear hk hc kob
                  have HBAD := Lib.hid hbad
                  clear hbad
                  go_wp2_with fail
                  go_at_call 25
                  with_reducible refine (xask_bn w.heap.size X id n sq ep ns now oc oq ok_ oi om od _ HX3.out HBX.out.1 (Nat.le_trans (Nat.le_refl _) K3.out.size) hod HSQ.out.1 (by have := HSQ.out.2; omega) HBAD.out).mono ?_
                  rintro e w4 ⟨rfl, hx⟩
                  have HC4 := Lib.hid (HC3.out.stay hx)
                  have HX4 := Lib.hid (HX3.out.stay hx)
                  have K4 : Hid (Below w.heap.size w w4) := Below.trans K3.out (Below.mono hx K3.out.size)
                  clear hx
                  go_wp2_with fail
                  have hmid : Pl w w4 P X id n (j + 1) := ⟨sq, ep, ns, none, HC4.out, HX4.out, K4.out, hns'.out, HSQ.out.1, by have := HSQ.out.2; omega, .inl rfl⟩
                  go_meet
                  case rel => exact hmid
                · exact absurd rfl hp0
              · have kob := hk.2 _ _ _ (by decide) (by decide) (Blk.new wr 63 #[.int .i64 0, .int .i64 now, .int .i64 os, .int .i64 oc, .int .i64 oq, .int .i64 ok_, .int .i64 oi, .int .i64 om, .string od, .int .i64 oe, .slice OA nl ocap])
                have v1 := kob.cell 1
                have v2 := kob.cell 2
                have v3 := kob.cell 3
                have v4 := kob.cell 4
                have v5 := kob.cell 5
                have v6 := kob.cell 6
                have v7 := kob.cell 7
                have v8 := kob.cell 8
                have v9 := kob.cell 9
                have v10 := kob.cell 10
                simp at v1 v2 v3 v4 v5 v6 v7 v8 v9 v10
                have HC3 := Lib.hid hc
                have HX3 := Lib.hid (HXO.out.kt hk)
                have K3 : Hid (Below w.heap.size w w3) := Below.trans KO.out hk.1
                clear hk hc kob
                have HM3 := Lib.hid (And.intro hm (And.intro hn0 hn1))
                clear hm hn0 hn1 hp0
                have CX := xask_ok w.heap.size X id n sq ep ns now oc oq ok_ oi om od w3 HX3.out HBX.out.1 (Nat.le_trans (Nat.le_refl _) K3.out.size) hod HSQ.out.1 (by have := HSQ.out.2; omega) HM3.out.1 HM3.out.2.1 HM3.out.2.2 HIN.out.2.2.1 (by have := hns'.out; omega)
                rw [HS1'.out] at HC3 CX
                have CX' := Lib.hid CX
                clear CX
                generalize targetF ns n 1 (decide (ok_ = 1 ∨ ok_ = 2 ∨ ok_ = 3)) = aa at *
                go_wp2_with fail
                go_at_call 25
                with_reducible refine (CX'.out).mono ?_
                rintro e w4 ⟨rfl, hX, hk⟩
                have HC4 := Lib.hid (HC3.out.kx hk)
                have HX4 := Lib.hid hX
                have K4 : Hid (Below w.heap.size w w4) := Below.trans K3.out hk.1
                clear hk hX
                go_wp2_with fail
                have hmid : Pl w w4 P X id n (j + 1) := ⟨s1, ep, ns, _, HC4.out, HX4.out, K4.out, hns'.out, HS1.out.1, HS1.out.2, .inr ⟨id, ok_, oi, om, od, now, 1, rfl, ⟨by omega, by omega⟩, hnow'.out⟩⟩
                go_meet
                case rel => exact hmid
            by_cases k1 : kind = 1
            · subst k1
              go_wp2_with fail
              go_at_call 26
              with_reducible refine (tick_n w.heap.size P id n sq ep ns now _ HCO.out).mono ?_
              rintro e w3 ⟨rfl, hx⟩
              have kob := (Blk.new wr 63 #[.int .i64 1, .int .i64 now, .int .i64 os, .int .i64 oc, .int .i64 oq, .int .i64 ok_, .int .i64 oi, .int .i64 om, .string od, .int .i64 oe, .slice OA nl ocap]).stay hx
              have v1 := kob.cell 1
              have v2 := kob.cell 2
              have v3 := kob.cell 3
              have v4 := kob.cell 4
              have v5 := kob.cell 5
              have v6 := kob.cell 6
              have v7 := kob.cell 7
              have v8 := kob.cell 8
              have v9 := kob.cell 9
              have v10 := kob.cell 10
              simp at v1 v2 v3 v4 v5 v6 v7 v8 v9 v10
              have HC3 := Lib.hid (HCO.out.stay hx)
              have HX3 := Lib.hid (HXO.out.stay hx)
              have K3 : Hid (Below w.heap.size w w3) := Below.trans KO.out (Below.mono hx KO.out.size)
              clear hx kob
              go_wp2_with fail
              go_at_call 27
              with_reducible refine (xtick_n w.heap.size X id n sq ep ns now _ HX3.out HBX.out.1 (Nat.le_trans (Nat.le_refl _) K3.out.size)).mono ?_
              rintro e w4 ⟨rfl, hx⟩
              have HC4 := Lib.hid (HC3.out.stay hx)
              have HX4 := Lib.hid (HX3.out.stay hx)
              have K4 : Hid (Below w.heap.size w w4) := Below.trans K3.out (Below.mono hx K3.out.size)
              clear hx
              go_wp2_with fail
              have hmid : Pl w w4 P X id n (j + 1) := ⟨sq, ep, ns, none, HC4.out, HX4.out, K4.out, hns'.out, HSQ.out.1, by have := HSQ.out.2; omega, .inl rfl⟩
              go_meet
              case rel => exact hmid
            by_cases k2 : kind = 2
            · subst k2
              go_wp2_with fail
              have CT := told_n w.heap.size P id n sq ep ns os oe OA ocap ol _ HCO.out (by have := HNL.out.2; omega) hcap'.out (HSLV.out _ KO.out)
              rw [← HNL.out.1] at CT
              go_at_call 28
              with_reducible refine (CT).mono ?_
              rintro e w3 ⟨rfl, hx⟩
              clear CT
              have kob := (Blk.new wr 63 #[.int .i64 2, .int .i64 now, .int .i64 os, .int .i64 oc, .int .i64 oq, .int .i64 ok_, .int .i64 oi, .int .i64 om, .string od, .int .i64 oe, .slice OA nl ocap]).stay hx
              have v1 := kob.cell 1
              have v2 := kob.cell 2
              have v3 := kob.cell 3
              have v4 := kob.cell 4
              have v5 := kob.cell 5
              have v6 := kob.cell 6
              have v7 := kob.cell 7
              have v8 := kob.cell 8
              have v9 := kob.cell 9
              have v10 := kob.cell 10
              simp at v1 v2 v3 v4 v5 v6 v7 v8 v9 v10
              have HC3 := Lib.hid (HCO.out.stay hx)
              have HX3 := Lib.hid (HXO.out.stay hx)
              have K3 : Hid (Below w.heap.size w w3) := Below.trans KO.out (Below.mono hx KO.out.size)
              clear hx kob
              have CX := xtold_n w.heap.size X id n sq ep ns os oe OA ocap ol w3 HX3.out HBX.out.1 (Nat.le_trans (Nat.le_refl _) K3.out.size) (by have := HNL.out.2; omega) (HSLV.out _ K3.out)
              rw [← HNL.out.1] at CX
              have CX' := Lib.hid CX
              clear CX
              go_wp2_with fail
              go_at_call 29
              with_reducible refine (CX'.out).mono ?_
              rintro e w4 ⟨rfl, hx⟩
              have HC4 := Lib.hid (HC3.out.stay hx)
              have HX4 := Lib.hid (HX3.out.stay hx)
              have K4 : Hid (Below w.heap.size w w4) := Below.trans K3.out (Below.mono hx K3.out.size)
              clear hx
              go_wp2_with fail
              have hmid : Pl w w4 P X id n (j + 1) := ⟨sq, ep, ns, none, HC4.out, HX4.out, K4.out, hns'.out, HSQ.out.1, by have := HSQ.out.2; omega, .inl rfl⟩
              go_meet
              case rel => exact hmid
            go_wp2_with fail
            obtain ⟨W1, hW1⟩ : ∃ W1, W1 = (wr.alloc (.cells #[.int .i64 kind, .int .i64 now, .int .i64 os, .int .i64 oc, .int .i64 oq, .int .i64 ok_, .int .i64 oi, .int .i64 om, .string od, .int .i64 oe, .slice OA nl ocap] 63)) := ⟨_, rfl⟩
            obtain ⟨ob, hob⟩ : ∃ ob, ob = wr.heap.size := ⟨_, rfl⟩
            have kob : Blk W1 ob 63 #[.int .i64 kind, .int .i64 now, .int .i64 os, .int .i64 oc, .int .i64 oq, .int .i64 ok_, .int .i64 oi, .int .i64 om, .string od, .int .i64 oe, .slice OA nl ocap] := by rw [hW1, hob]; exact Blk.new _ _ _
            have fo2 : ∀ W, Frm (fun k => w.heap.size ≤ k ∧ ¬ k = ob) W1 W → W.cell? ⟨ob, 2, none⟩ = some (.int .i64 os) := fun W h => (kob.frm h (fun hh => hh.2 rfl)).cell 2
            have HKOB := Lib.hid kob
            have HC1 : Hid (ClAt w.heap.size W1 P ⟨id, n, sq, ep, ns, none⟩) := by (show ClAt _ _ _ _); rw [hW1]; exact HCO.out
            have HX1 : Hid (XAt W1 X ⟨id, n, sq, ep, ns, none⟩) := by (show XAt _ _ _); rw [hW1]; exact HXO.out
            have K1 : Hid (Below w.heap.size w W1) := by (show Below _ _ _); rw [hW1]; exact KO.out
            have HCD : Hid (ClAt w.heap.size W1.drew P ⟨id, n, sq, ep, ns, none⟩) := HC1.out.stay (Ext.refl _).drewR
            have HXD : Hid (XAt W1.drew X ⟨id, n, sq, ep, ns, none⟩) := HX1.out.stay (Ext.refl _).drewR
            have KD : Hid (Below w.heap.size w W1.drew) := K1.out.drew
            have EF : Hid (Frm (fun k => w.heap.size ≤ k ∧ ¬ k = ob) W1 W1.drew) := (Frm.refl _ _).drew
            try rw [← hW1]
            try rw [← hob]
            have HOB := Lib.hid hob
            clear kob hW1 hob
            try go_wp2_with fail
            refine rz_begin (fun k => w.heap.size ≤ k ∧ ¬ k = ob) [] (by kernel_rfl) ?_
            refine rz_take [3, 7, 8] (i := 0) (v := ?_) rfl (by kernel_rfl) (by kernel_rfl) (by kernel_rfl) (by kernel_rfl) (by kernel_rfl) (by kernel_rfl) (fun _ _ _ h => h) (by rfl) ?_ ?_
            rotate_left
            · intro W hW; have hW0 := Frm.tr EF.out hW; clear hW; go_simp <;> with_reducible rfl
            try simp only [Act.put, List.setIfInBounds_toArray, List.set_cons_zero, List.set_cons_succ]
            refine rz_take [2, 3, 7, 8] (i := 1) (v := ?_) rfl (by kernel_rfl) (by kernel_rfl) (by kernel_rfl) (by kernel_rfl) (by kernel_rfl) (by kernel_rfl) (fun _ _ _ h => h) (by rfl) ?_ ?_
            rotate_left
            · intro W hW; have hW0 := Frm.tr EF.out hW; clear hW; go_simp <;> with_reducible rfl
            try simp only [Act.put, List.setIfInBounds_toArray, List.set_cons_zero, List.set_cons_succ]
            refine rz_take [3, 7, 8] (i := 2) (v := ?_) rfl (by kernel_rfl) (by kernel_rfl) (by kernel_rfl) (by kernel_rfl) (by kernel_rfl) (by kernel_rfl) (fun _ _ _ h => h) (by rfl) ?_ ?_
            rotate_left
            · intro W hW; have hW0 := Frm.tr EF.out hW; clear hW; go_simp <;> with_reducible rfl
            try simp only [Act.put, List.setIfInBounds_toArray, List.set_cons_zero, List.set_cons_succ]
            refine rz_take [7, 8] (i := 4) (v := ?_) rfl (by kernel_rfl) (by kernel_rfl) (by kernel_rfl) (by kernel_rfl) (by kernel_rfl) (by kernel_rfl) (fun _ _ _ h => h) (by rfl) ?_ ?_
            rotate_left
            · intro W hW; have hW0 := Frm.tr EF.out hW; clear hW; go_simp <;> with_reducible rfl
            try simp only [Act.put, List.setIfInBounds_toArray, List.set_cons_zero, List.set_cons_succ]
            refine rz_take [6, 7, 8] (i := 5) (v := ?_) rfl (by kernel_rfl) (by kernel_rfl) (by kernel_rfl) (by kernel_rfl) (by kernel_rfl) (by kernel_rfl) (fun _ _ _ h => h) (by rfl) ?_ ?_
            rotate_left
            · intro W hW; have hW0 := Frm.tr EF.out hW; clear hW; go_simp <;> with_reducible rfl
            try simp only [Act.put, List.setIfInBounds_toArray, List.set_cons_zero, List.set_cons_succ]
            refine rz_take [7, 8] (i := 6) (v := ?_) rfl (by kernel_rfl) (by kernel_rfl) (by kernel_rfl) (by kernel_rfl) (by kernel_rfl) (by kernel_rfl) (fun _ _ _ h => h) (by rfl) ?_ ?_
            rotate_left
            · intro W hW; have hW0 := Frm.tr EF.out hW; clear hW; go_simp <;> with_reducible rfl
            try simp only [Act.put, List.setIfInBounds_toArray, List.set_cons_zero, List.set_cons_succ]
            refine rz_call (i := 3) rfl (by kernel_rfl) (by rfl) (fun K hK => ?_)
            go_simp
            go_at_call 30
            with_reducible refine (answer_n w.heap.size P id n sq ep ns os _ HCD.out).mono ?_
            rintro e w3 ⟨rfl, hx⟩
            refine hK _ _ (Frm.of_below hx _) ?_; clear hK K
            have HC3 := Lib.hid (HCD.out.stay hx)
            have HX3 := Lib.hid (HXD.out.stay hx)
            have K3 : Hid (Below w.heap.size w w3) := Below.trans KD.out (Below.mono hx KD.out.size)
            have HKO3 : Hid (Blk w3 ob 63 #[.int .i64 kind, .int .i64 now, .int .i64 os, .int .i64 oc, .int .i64 oq, .int .i64 ok_, .int .i64 oi, .int .i64 om, .string od, .int .i64 oe, .slice OA nl ocap]) := (HKOB.out.drew).stay hx
            have E3 : Hid (Frm (fun k => w.heap.size ≤ k ∧ ¬ k = ob) W1 w3) := Frm.tr EF.out (Frm.of_below hx _)
            clear hx
            try simp only [Act.put, List.setIfInBounds_toArray, List.set_cons_zero, List.set_cons_succ]
            refine rz_call (i := 7) rfl (by kernel_rfl) (by rfl) (fun K hK => ?_)
            go_simp
            go_at_call 31
            with_reducible refine (xanswer_n w.heap.size X id n sq ep ns os _ HX3.out HBX.out.1 (Nat.le_trans (Nat.le_refl _) K3.out.size)).mono ?_
            rintro e w4 ⟨rfl, hx⟩
            refine hK _ _ (Frm.of_below hx _) ?_; clear hK K
            have HC4 := Lib.hid (HC3.out.stay hx)
            have HX4 := Lib.hid (HX3.out.stay hx)
            have K4 : Hid (Below w.heap.size w w4) := Below.trans K3.out (Below.mono hx K3.out.size)
            clear hx
            try simp only [Act.put, List.setIfInBounds_toArray, List.set_cons_zero, List.set_cons_succ]
            refine rz_take [] (i := 8) (v := ?_) rfl (by kernel_rfl) (by kernel_rfl) (by kernel_rfl) (by kernel_rfl) (by kernel_rfl) (by kernel_rfl) (fun _ _ _ h => h) (by rfl) ?_ ?_
            rotate_left
            · intro W hW; go_simp <;> with_reducible rfl
            try simp only [Act.put, List.setIfInBounds_toArray, List.set_cons_zero, List.set_cons_succ]
            refine rz_done (by kernel_rfl) ?_ _
            go_wp2_with fail
            have hmid : Pl w w4 P X id n (j + 1) := ⟨sq, ep, ns, none, HC4.out, HX4.out, K4.out, hns'.out, HSQ.out.1, by have := HSQ.out.2; omega, .inl rfl⟩
            have hob := HOB.out
            subst hob
            go_meet
            case rel => exact hmid
        · have HTR : Hid (1 ≤ tr ∧ tr ≤ j) := htr
          have HAK : Hid (ak ≤ 9223372036854775807) := hak
          clear HP htr hak
          as_aux_lemma =>
            by_cases k0 : kind = 0
            · subst k0
              go_wp2_with fail
              go_at_call 24
              with_reducible refine (ask_any w.heap.size P id n sq ep ns (some ⟨c, sq, k, i, m, d, ak, tr⟩) now oc oq ok_ oi om od _ HCO.out hod (by have := hns'.out; omega) HSQ.out.1 (by have := HSQ.out.2; omega)).mono ?_
              rintro e w3 ⟨a, f, rfl, hk, h⟩
              rcases h with ⟨h1, rfl, hc⟩ | ⟨hm, hn0, hn1, hp0, rfl, rfl, hc⟩
              · rcases h1 with ⟨hbad, rfl⟩ | ⟨hm, hn0, hn1, hp0, rfl⟩
                · have kob := hk.2 _ _ _ (by decide) (by decide) (Blk.new wr 63 #[.int .i64 0, .int .i64 now, .int .i64 os, .int .i64 oc, .int .i64 oq, .int .i64 ok_, .int .i64 oi, .int .i64 om, .string od, .int .i64 oe, .slice OA nl ocap])
                  have v1 := kob.cell 1
                  have v2 := kob.cell 2
                  have v3 := kob.cell 3
                  have v4 := kob.cell 4
                  have v5 := kob.cell 5
                  have v6 := kob.cell 6
                  have v7 := kob.cell 7
                  have v8 := kob.cell 8
                  have v9 := kob.cell 9
                  have v10 := kob.cell 10
                  simp at v1 v2 v3 v4 v5 v6 v7 v8 v9 v10
                  have HC3 := Lib.hid hc
                  have HX3 := Lib.hid (HXO.out.kt hk)
                  have K3 : Hid (Below w.heap.size w w3) := Below.trans KO.out hk.1
                  clear hk hc kob
                  have HBAD := Lib.hid hbad
                  clear hbad
                  go_wp2_with fail
                  go_at_call 25
                  with_reducible refine (xask_bs w.heap.size X id n sq ep ns c sq k i m d ak tr now oc oq ok_ oi om od _ HX3.out HBX.out.1 (Nat.le_trans (Nat.le_refl _) K3.out.size) hod HSQ.out.1 (by have := HSQ.out.2; omega) HBAD.out (by have := HTR.out.1; omega)).mono ?_
                  rintro e w4 ⟨rfl, hx⟩
                  have HC4 := Lib.hid (HC3.out.stay hx)
                  have HX4 := Lib.hid (HX3.out.stay hx)
                  have K4 : Hid (Below w.heap.size w w4) := Below.trans K3.out (Below.mono hx K3.out.size)
                  clear hx
                  go_wp2_with fail
                  have hmid : Pl w w4 P X id n (j + 1) := ⟨sq, ep, ns, _, HC4.out, HX4.out, K4.out, hns'.out, HSQ.out.1, by have := HSQ.out.2; omega, .inr ⟨c, k, i, m, d, ak, tr, rfl, ⟨HTR.out.1, by have := HTR.out.2; omega⟩, HAK.out⟩⟩
                  go_meet
                  case rel => exact hmid
                · have kob := hk.2 _ _ _ (by decide) (by decide) (Blk.new wr 63 #[.int .i64 0, .int .i64 now, .int .i64 os, .int .i64 oc, .int .i64 oq, .int .i64 ok_, .int .i64 oi, .int .i64 om, .string od, .int .i64 oe, .slice OA nl ocap])
                  have v1 := kob.cell 1
                  have v2 := kob.cell 2
                  have v3 := kob.cell 3
                  have v4 := kob.cell 4
                  have v5 := kob.cell 5
                  have v6 := kob.cell 6
                  have v7 := kob.cell 7
                  have v8 := kob.cell 8
                  have v9 := kob.cell 9
                  have v10 := kob.cell 10
                  simp at v1 v2 v3 v4 v5 v6 v7 v8 v9 v10
                  have HC3 := Lib.hid hc
                  have HX3 := Lib.hid (HXO.out.kt hk)
                  have K3 : Hid (Below w.heap.size w w3) := Below.trans KO.out hk.1
                  clear hk hc kob
                  have HM3 := Lib.hid (And.intro hm (And.intro hn0 hn1))
                  clear hm hn0 hn1 hp0
                  go_wp2_with fail
                  go_at_call 25
                  with_reducible refine (xask_s w.heap.size X id n sq ep ns c sq k i m d ak tr now oc oq ok_ oi om od _ HX3.out HBX.out.1 (Nat.le_trans (Nat.le_refl _) K3.out.size) hod HSQ.out.1 (by have := HSQ.out.2; omega) HM3.out.1 HM3.out.2.1 HM3.out.2.2 (by have := HTR.out.1; omega)).mono ?_
                  rintro e w4 ⟨rfl, hx⟩
                  have HC4 := Lib.hid (HC3.out.stay hx)
                  have HX4 := Lib.hid (HX3.out.stay hx)
                  have K4 : Hid (Below w.heap.size w w4) := Below.trans K3.out (Below.mono hx K3.out.size)
                  clear hx
                  go_wp2_with fail
                  have hmid : Pl w w4 P X id n (j + 1) := ⟨sq, ep, ns, _, HC4.out, HX4.out, K4.out, hns'.out, HSQ.out.1, by have := HSQ.out.2; omega, .inr ⟨c, k, i, m, d, ak, tr, rfl, ⟨HTR.out.1, by have := HTR.out.2; omega⟩, HAK.out⟩⟩
                  go_meet
                  case rel => exact hmid
              · cases hp0
            by_cases k1 : kind = 1
            · subst k1
              go_wp2_with fail
              cases hdu : dueB now ak tr with
              | false =>
                have HDU := Lib.hid hdu
                clear hdu
                go_at_call 26
                with_reducible refine (tick_o w.heap.size P id n sq ep ns c sq k i m d ak tr now _ HCO.out HDU.out (by have := HTR.out.1; omega) (by have := HTR.out.2; omega) hnow'.out HAK.out).mono ?_
                rintro e w3 ⟨rfl, hx⟩
                have kob := (Blk.new wr 63 #[.int .i64 1, .int .i64 now, .int .i64 os, .int .i64 oc, .int .i64 oq, .int .i64 ok_, .int .i64 oi, .int .i64 om, .string od, .int .i64 oe, .slice OA nl ocap]).stay hx
                have v1 := kob.cell 1
                have v2 := kob.cell 2
                have v3 := kob.cell 3
                have v4 := kob.cell 4
                have v5 := kob.cell 5
                have v6 := kob.cell 6
                have v7 := kob.cell 7
                have v8 := kob.cell 8
                have v9 := kob.cell 9
                have v10 := kob.cell 10
                simp at v1 v2 v3 v4 v5 v6 v7 v8 v9 v10
                have HC3 := Lib.hid (HCO.out.stay hx)
                have HX3 := Lib.hid (HXO.out.stay hx)
                have K3 : Hid (Below w.heap.size w w3) := Below.trans KO.out (Below.mono hx KO.out.size)
                clear hx kob
                go_wp2_with fail
                go_at_call 27
                with_reducible refine (xtick_o w.heap.size X id n sq ep ns c sq k i m d ak tr now _ HX3.out HBX.out.1 (Nat.le_trans (Nat.le_refl _) K3.out.size) HDU.out (by have := HTR.out.1; omega) (by have := HTR.out.2; omega) hnow'.out HAK.out).mono ?_
                rintro e w4 ⟨rfl, hx⟩
                have HC4 := Lib.hid (HC3.out.stay hx)
                have HX4 := Lib.hid (HX3.out.stay hx)
                have K4 : Hid (Below w.heap.size w w4) := Below.trans K3.out (Below.mono hx K3.out.size)
                clear hx
                go_wp2_with fail
                have hmid : Pl w w4 P X id n (j + 1) := ⟨sq, ep, ns, _, HC4.out, HX4.out, K4.out, hns'.out, HSQ.out.1, by have := HSQ.out.2; omega, .inr ⟨c, k, i, m, d, ak, tr, rfl, ⟨HTR.out.1, by have := HTR.out.2; omega⟩, HAK.out⟩⟩
                go_meet
                case rel => exact hmid
              | true =>
                have HDU := Lib.hid hdu
                obtain ⟨t1, ht1⟩ : ∃ t1, t1 = tr + 1 := ⟨_, rfl⟩
                have HT1 := Lib.hid ht1
                clear hdu ht1
                go_at_call 26
                with_reducible refine (tick_y w.heap.size P id n sq ep ns c sq k i m d ak tr now t1 _ HCO.out HDU.out (by have := hns'.out; omega) (by have := HTR.out.1; omega) HT1.out (by have := HTR.out.1; omega) (by have := HTR.out.2; omega) hnow'.out HAK.out).mono ?_
                rintro e w3 ⟨rfl, hc, hk⟩
                have kob := hk.2 _ _ _ (by decide) (by decide) (Blk.new wr 63 #[.int .i64 1, .int .i64 now, .int .i64 os, .int .i64 oc, .int .i64 oq, .int .i64 ok_, .int .i64 oi, .int .i64 om, .string od, .int .i64 oe, .slice OA nl ocap])
                have v1 := kob.cell 1
                have v2 := kob.cell 2
                have v3 := kob.cell 3
                have v4 := kob.cell 4
                have v5 := kob.cell 5
                have v6 := kob.cell 6
                have v7 := kob.cell 7
                have v8 := kob.cell 8
                have v9 := kob.cell 9
                have v10 := kob.cell 10
                simp at v1 v2 v3 v4 v5 v6 v7 v8 v9 v10
                have HC3 := Lib.hid hc
                have HX3 := Lib.hid (HXO.out.kt hk)
                have K3 : Hid (Below w.heap.size w w3) := Below.trans KO.out hk.1
                clear hk hc kob
                have CX' := Lib.hid (xtick_y w.heap.size X id n sq ep ns c sq k i m d ak tr now t1 w3 HX3.out HBX.out.1 (Nat.le_trans (Nat.le_refl _) K3.out.size) HDU.out (by have := hns'.out; omega) HIN.out.2.2.1 HT1.out (by have := HTR.out.1; omega) (by have := HTR.out.2; omega) hnow'.out HAK.out)
                generalize targetF ns n t1 (decide (k = 1 ∨ k = 2 ∨ k = 3)) = aa at *
                go_wp2_with fail
                go_at_call 27
                with_reducible refine (CX'.out).mono ?_
                rintro e w4 ⟨rfl, hX, hk⟩
                have HC4 := Lib.hid (HC3.out.kx hk)
                have HX4 := Lib.hid hX
                have K4 : Hid (Below w.heap.size w w4) := Below.trans K3.out hk.1
                clear hk hX
                go_wp2_with fail
                have hmid : Pl w w4 P X id n (j + 1) := ⟨sq, ep, ns, _, HC4.out, HX4.out, K4.out, hns'.out, HSQ.out.1, by have := HSQ.out.2; omega, .inr ⟨c, k, i, m, d, now, t1, rfl, ⟨by have := HTR.out; have := HT1.out; omega, by have := HTR.out; have := HT1.out; omega⟩, hnow'.out⟩⟩
                go_meet
                case rel => exact hmid
            by_cases k2 : kind = 2
            · subst k2
              go_wp2_with fail
              by_cases hx0 : sq = os
              · cases hmc : mayChainB oe ol with
                | false =>
                  subst hx0
                  have CT := told_b w.heap.size P id n sq ep ns c sq k i m d ak tr sq oe OA ocap ol _ HCO.out (by have := HNL.out.2; omega) hcap'.out (HSLV.out _ KO.out) rfl hmc
                  rw [← HNL.out.1] at CT
                  go_at_call 28
                  with_reducible refine (CT).mono ?_
                  rintro e w3 ⟨rfl, hx⟩
                  clear CT
                  have kob := (Blk.new wr 63 #[.int .i64 2, .int .i64 now, .int .i64 sq, .int .i64 oc, .int .i64 oq, .int .i64 ok_, .int .i64 oi, .int .i64 om, .string od, .int .i64 oe, .slice OA nl ocap]).stay hx
                  have v1 := kob.cell 1
                  have v2 := kob.cell 2
                  have v3 := kob.cell 3
                  have v4 := kob.cell 4
                  have v5 := kob.cell 5
                  have v6 := kob.cell 6
                  have v7 := kob.cell 7
                  have v8 := kob.cell 8
                  have v9 := kob.cell 9
                  have v10 := kob.cell 10
                  simp at v1 v2 v3 v4 v5 v6 v7 v8 v9 v10
                  have HC3 := Lib.hid (HCO.out.stay hx)
                  have HX3 := Lib.hid (HXO.out.stay hx)
                  have K3 : Hid (Below w.heap.size w w3) := Below.trans KO.out (Below.mono hx KO.out.size)
                  clear hx kob
                  have HMC := Lib.hid hmc
                  clear hmc
                  have CX := xtold_b w.heap.size X id n sq ep ns c sq k i m d ak tr sq oe OA ocap ol w3 HX3.out HBX.out.1 (Nat.le_trans (Nat.le_refl _) K3.out.size) (by have := HNL.out.2; omega) (HSLV.out _ K3.out) rfl (by have := HTR.out.1; omega) HMC.out
                  rw [← HNL.out.1] at CX
                  have CX' := Lib.hid CX
                  clear CX
                  go_wp2_with fail
                  go_at_call 29
                  with_reducible refine (CX'.out).mono ?_
                  rintro e w4 ⟨rfl, hx⟩
                  have HC4 := Lib.hid (HC3.out.stay hx)
                  have HX4 := Lib.hid (HX3.out.stay hx)
                  have K4 : Hid (Below w.heap.size w w4) := Below.trans K3.out (Below.mono hx K3.out.size)
                  clear hx
                  go_wp2_with fail
                  have hmid : Pl w w4 P X id n (j + 1) := ⟨sq, ep, ns, _, HC4.out, HX4.out, K4.out, hns'.out, HSQ.out.1, by have := HSQ.out.2; omega, .inr ⟨c, k, i, m, d, ak, tr, rfl, ⟨HTR.out.1, by have := HTR.out.2; omega⟩, HAK.out⟩⟩
                  go_meet
                  case rel => exact hmid
                | true =>
                  by_cases he : oe < ep
                  · subst hx0
                    have CT := told_e w.heap.size P id n sq ep ns c sq k i m d ak tr sq oe OA ocap ol _ HCO.out (by have := HNL.out.2; omega) hcap'.out (HSLV.out _ KO.out) rfl hmc he
                    rw [← HNL.out.1] at CT
                    go_at_call 28
                    with_reducible refine (CT).mono ?_
                    rintro e w3 ⟨rfl, hx⟩
                    clear CT
                    have kob := (Blk.new wr 63 #[.int .i64 2, .int .i64 now, .int .i64 sq, .int .i64 oc, .int .i64 oq, .int .i64 ok_, .int .i64 oi, .int .i64 om, .string od, .int .i64 oe, .slice OA nl ocap]).stay hx
                    have v1 := kob.cell 1
                    have v2 := kob.cell 2
                    have v3 := kob.cell 3
                    have v4 := kob.cell 4
                    have v5 := kob.cell 5
                    have v6 := kob.cell 6
                    have v7 := kob.cell 7
                    have v8 := kob.cell 8
                    have v9 := kob.cell 9
                    have v10 := kob.cell 10
                    simp at v1 v2 v3 v4 v5 v6 v7 v8 v9 v10
                    have HC3 := Lib.hid (HCO.out.stay hx)
                    have HX3 := Lib.hid (HXO.out.stay hx)
                    have K3 : Hid (Below w.heap.size w w3) := Below.trans KO.out (Below.mono hx KO.out.size)
                    clear hx kob
                    have HMC := Lib.hid hmc
                    clear hmc
                    have HEE := Lib.hid he
                    clear he
                    have CX := xtold_e w.heap.size X id n sq ep ns c sq k i m d ak tr sq oe OA ocap ol w3 HX3.out HBX.out.1 (Nat.le_trans (Nat.le_refl _) K3.out.size) (by have := HNL.out.2; omega) (HSLV.out _ K3.out) rfl (by have := HTR.out.1; omega) HMC.out HEE.out
                    rw [← HNL.out.1] at CX
                    have CX' := Lib.hid CX
                    clear CX
                    go_wp2_with fail
                    go_at_call 29
                    with_reducible refine (CX'.out).mono ?_
                    rintro e w4 ⟨rfl, hx⟩
                    have HC4 := Lib.hid (HC3.out.stay hx)
                    have HX4 := Lib.hid (HX3.out.stay hx)
                    have K4 : Hid (Below w.heap.size w w4) := Below.trans K3.out (Below.mono hx K3.out.size)
                    clear hx
                    go_wp2_with fail
                    have hmid : Pl w w4 P X id n (j + 1) := ⟨sq, ep, ns, _, HC4.out, HX4.out, K4.out, hns'.out, HSQ.out.1, by have := HSQ.out.2; omega, .inr ⟨c, k, i, m, d, ak, tr, rfl, ⟨HTR.out.1, by have := HTR.out.2; omega⟩, HAK.out⟩⟩
                    go_meet
                    case rel => exact hmid
                  · have hl5 : Hid (ol.length ≤ 5) := may_len hmc
                    replace he : ep ≤ oe := by omega
                    subst hx0
                    have CT := told_y w.heap.size P id n sq ep ns c sq k i m d ak tr sq oe OA ocap ol _ HCO.out (by have := HNL.out.2; omega) hcap'.out (HSLV.out _ KO.out) rfl hmc he
                    rw [← HNL.out.1] at CT
                    go_at_call 28
                    with_reducible refine (CT).mono ?_
                    rintro e w3 ⟨rfl, hc, hk⟩
                    clear CT
                    have kob := hk.2 _ _ _ (by decide) (by decide) (Blk.new wr 63 #[.int .i64 2, .int .i64 now, .int .i64 sq, .int .i64 oc, .int .i64 oq, .int .i64 ok_, .int .i64 oi, .int .i64 om, .string od, .int .i64 oe, .slice OA nl ocap])
                    have v1 := kob.cell 1
                    have v2 := kob.cell 2
                    have v3 := kob.cell 3
                    have v4 := kob.cell 4
                    have v5 := kob.cell 5
                    have v6 := kob.cell 6
                    have v7 := kob.cell 7
                    have v8 := kob.cell 8
                    have v9 := kob.cell 9
                    have v10 := kob.cell 10
                    simp at v1 v2 v3 v4 v5 v6 v7 v8 v9 v10
                    have HC3 := Lib.hid hc
                    have HX3 := Lib.hid (HXO.out.kt hk)
                    have K3 : Hid (Below w.heap.size w w3) := Below.trans KO.out hk.1
                    clear hk hc kob
                    have HMC := Lib.hid hmc
                    clear hmc
                    have HEE := Lib.hid he
                    clear he
                    have CX := xtold_y w.heap.size X id n sq ep ns c sq k i m d ak tr sq oe OA ocap ol w3 HX3.out HBX.out.1 (Nat.le_trans (Nat.le_refl _) K3.out.size) (by have := HNL.out.2; omega) (HSLV.out _ K3.out) rfl (by have := HTR.out.1; omega) HMC.out HEE.out
                    rw [← HNL.out.1] at CX
                    have CX' := Lib.hid CX
                    clear CX
                    go_wp2_with fail
                    go_at_call 29
                    with_reducible refine (CX'.out).mono ?_
                    rintro e w4 ⟨rfl, hX, hk⟩
                    have HC4 := Lib.hid (HC3.out.kx hk)
                    have HX4 := Lib.hid hX
                    have K4 : Hid (Below w.heap.size w w4) := Below.trans K3.out hk.1
                    clear hk hX
                    go_wp2_with fail
                    have hmid : Pl w w4 P X id n (j + 1) := ⟨sq, oe, ol, _, HC4.out, HX4.out, K4.out, hl5.out, HSQ.out.1, by have := HSQ.out.2; omega, .inr ⟨c, k, i, m, d, ak, tr, rfl, ⟨HTR.out.1, by have := HTR.out.2; omega⟩, HAK.out⟩⟩
                    go_meet
                    case rel => exact hmid
              · have CT := told_o w.heap.size P id n sq ep ns c sq k i m d ak tr os oe OA ocap ol _ HCO.out (by have := HNL.out.2; omega) hcap'.out (HSLV.out _ KO.out) hx0
                rw [← HNL.out.1] at CT
                go_at_call 28
                with_reducible refine (CT).mono ?_
                rintro e w3 ⟨rfl, hx⟩
                clear CT
                have kob := (Blk.new wr 63 #[.int .i64 2, .int .i64 now, .int .i64 os, .int .i64 oc, .int .i64 oq, .int .i64 ok_, .int .i64 oi, .int .i64 om, .string od, .int .i64 oe, .slice OA nl ocap]).stay hx
                have v1 := kob.cell 1
                have v2 := kob.cell 2
                have v3 := kob.cell 3
                have v4 := kob.cell 4
                have v5 := kob.cell 5
                have v6 := kob.cell 6
                have v7 := kob.cell 7
                have v8 := kob.cell 8
                have v9 := kob.cell 9
                have v10 := kob.cell 10
                simp at v1 v2 v3 v4 v5 v6 v7 v8 v9 v10
                have HC3 := Lib.hid (HCO.out.stay hx)
                have HX3 := Lib.hid (HXO.out.stay hx)
                have K3 : Hid (Below w.heap.size w w3) := Below.trans KO.out (Below.mono hx KO.out.size)
                clear hx kob
                have CX := xtold_o w.heap.size X id n sq ep ns c sq k i m d ak tr os oe OA ocap ol w3 HX3.out HBX.out.1 (Nat.le_trans (Nat.le_refl _) K3.out.size) (by have := HNL.out.2; omega) (HSLV.out _ K3.out) hx0 (by have := HTR.out.1; omega)
                rw [← HNL.out.1] at CX
                have CX' := Lib.hid CX
                clear CX
                go_wp2_with fail
                go_at_call 29
                with_reducible refine (CX'.out).mono ?_
                rintro e w4 ⟨rfl, hx⟩
                have HC4 := Lib.hid (HC3.out.stay hx)
                have HX4 := Lib.hid (HX3.out.stay hx)
                have K4 : Hid (Below w.heap.size w w4) := Below.trans K3.out (Below.mono hx K3.out.size)
                clear hx
                go_wp2_with fail
                have hmid : Pl w w4 P X id n (j + 1) := ⟨sq, ep, ns, _, HC4.out, HX4.out, K4.out, hns'.out, HSQ.out.1, by have := HSQ.out.2; omega, .inr ⟨c, k, i, m, d, ak, tr, rfl, ⟨HTR.out.1, by have := HTR.out.2; omega⟩, HAK.out⟩⟩
                go_meet
                case rel => exact hmid
            go_wp2_with fail
            by_cases hx0 : sq = os
            · subst hx0
              obtain ⟨W1, hW1⟩ : ∃ W1, W1 = (wr.alloc (.cells #[.int .i64 kind, .int .i64 now, .int .i64 sq, .int .i64 oc, .int .i64 oq, .int .i64 ok_, .int .i64 oi, .int .i64 om, .string od, .int .i64 oe, .slice OA nl ocap] 63)) := ⟨_, rfl⟩
              obtain ⟨ob, hob⟩ : ∃ ob, ob = wr.heap.size := ⟨_, rfl⟩
              have kob : Blk W1 ob 63 #[.int .i64 kind, .int .i64 now, .int .i64 sq, .int .i64 oc, .int .i64 oq, .int .i64 ok_, .int .i64 oi, .int .i64 om, .string od, .int .i64 oe, .slice OA nl ocap] := by rw [hW1, hob]; exact Blk.new _ _ _
              have fo2 : ∀ W, Frm (fun k => w.heap.size ≤ k ∧ ¬ k = ob) W1 W → W.cell? ⟨ob, 2, none⟩ = some (.int .i64 sq) := fun W h => (kob.frm h (fun hh => hh.2 rfl)).cell 2
              have HKOB := Lib.hid kob
              have HC1 : Hid (ClAt w.heap.size W1 P ⟨id, n, sq, ep, ns, (some ⟨c, sq, k, i, m, d, ak, tr⟩)⟩) := by (show ClAt _ _ _ _); rw [hW1]; exact HCO.out
              have HX1 : Hid (XAt W1 X ⟨id, n, sq, ep, ns, (some ⟨c, sq, k, i, m, d, ak, tr⟩)⟩) := by (show XAt _ _ _); rw [hW1]; exact HXO.out
              have K1 : Hid (Below w.heap.size w W1) := by (show Below _ _ _); rw [hW1]; exact KO.out
              have HCD : Hid (ClAt w.heap.size W1.drew P ⟨id, n, sq, ep, ns, (some ⟨c, sq, k, i, m, d, ak, tr⟩)⟩) := HC1.out.stay (Ext.refl _).drewR
              have HXD : Hid (XAt W1.drew X ⟨id, n, sq, ep, ns, (some ⟨c, sq, k, i, m, d, ak, tr⟩)⟩) := HX1.out.stay (Ext.refl _).drewR
              have KD : Hid (Below w.heap.size w W1.drew) := K1.out.drew
              have EF : Hid (Frm (fun k => w.heap.size ≤ k ∧ ¬ k = ob) W1 W1.drew) := (Frm.refl _ _).drew
              try rw [← hW1]
              try rw [← hob]
              have HOB := Lib.hid hob
              clear kob hW1 hob
              try go_wp2_with fail
              refine rz_begin (fun k => w.heap.size ≤ k ∧ ¬ k = ob) [] (by kernel_rfl) ?_
              refine rz_take [3, 7, 8] (i := 0) (v := ?_) rfl (by kernel_rfl) (by kernel_rfl) (by kernel_rfl) (by kernel_rfl) (by kernel_rfl) (by kernel_rfl) (fun _ _ _ h => h) (by rfl) ?_ ?_
              rotate_left
              · intro W hW; have hW0 := Frm.tr EF.out hW; clear hW; go_simp <;> with_reducible rfl
              try simp only [Act.put, List.setIfInBounds_toArray, List.set_cons_zero, List.set_cons_succ]
              refine rz_take [2, 3, 7, 8] (i := 1) (v := ?_) rfl (by kernel_rfl) (by kernel_rfl) (by kernel_rfl) (by kernel_rfl) (by kernel_rfl) (by kernel_rfl) (fun _ _ _ h => h) (by rfl) ?_ ?_
              rotate_left
              · intro W hW; have hW0 := Frm.tr EF.out hW; clear hW; go_simp <;> with_reducible rfl
              try simp only [Act.put, List.setIfInBounds_toArray, List.set_cons_zero, List.set_cons_succ]
              refine rz_take [3, 7, 8] (i := 2) (v := ?_) rfl (by kernel_rfl) (by kernel_rfl) (by kernel_rfl) (by kernel_rfl) (by kernel_rfl) (by kernel_rfl) (fun _ _ _ h => h) (by rfl) ?_ ?_
              rotate_left
              · intro W hW; have hW0 := Frm.tr EF.out hW; clear hW; go_simp <;> with_reducible rfl
              try simp only [Act.put, List.setIfInBounds_toArray, List.set_cons_zero, List.set_cons_succ]
              refine rz_take [7, 8] (i := 4) (v := ?_) rfl (by kernel_rfl) (by kernel_rfl) (by kernel_rfl) (by kernel_rfl) (by kernel_rfl) (by kernel_rfl) (fun _ _ _ h => h) (by rfl) ?_ ?_
              rotate_left
              · intro W hW; have hW0 := Frm.tr EF.out hW; clear hW; go_simp <;> with_reducible rfl
              try simp only [Act.put, List.setIfInBounds_toArray, List.set_cons_zero, List.set_cons_succ]
              refine rz_take [6, 7, 8] (i := 5) (v := ?_) rfl (by kernel_rfl) (by kernel_rfl) (by kernel_rfl) (by kernel_rfl) (by kernel_rfl) (by kernel_rfl) (fun _ _ _ h => h) (by rfl) ?_ ?_
              rotate_left
              · intro W hW; have hW0 := Frm.tr EF.out hW; clear hW; go_simp <;> with_reducible rfl
              try simp only [Act.put, List.setIfInBounds_toArray, List.set_cons_zero, List.set_cons_succ]
              refine rz_take [7, 8] (i := 6) (v := ?_) rfl (by kernel_rfl) (by kernel_rfl) (by kernel_rfl) (by kernel_rfl) (by kernel_rfl) (by kernel_rfl) (fun _ _ _ h => h) (by rfl) ?_ ?_
              rotate_left
              · intro W hW; have hW0 := Frm.tr EF.out hW; clear hW; go_simp <;> with_reducible rfl
              try simp only [Act.put, List.setIfInBounds_toArray, List.set_cons_zero, List.set_cons_succ]
              refine rz_call (i := 3) rfl (by kernel_rfl) (by rfl) (fun K hK => ?_)
              go_simp
              go_at_call 30
              with_reducible refine (answer_y w.heap.size P id n sq ep ns c sq k i m d ak tr sq _ HCD.out rfl).mono ?_
              rintro e w3 ⟨rfl, hc, hk⟩
              refine hK _ _ (frm_kb hk.1 (HKOB.out.drew) (hk.2 _ _ _ (by decide) (by decide) (HKOB.out.drew))) ?_; clear hK K
              have HC3 := Lib.hid hc
              have HX3 := Lib.hid (HXD.out.kt hk)
              have K3 : Hid (Below w.heap.size w w3) := Below.trans KD.out hk.1
              have HKO3 : Hid (Blk w3 ob 63 #[.int .i64 kind, .int .i64 now, .int .i64 sq, .int .i64 oc, .int .i64 oq, .int .i64 ok_, .int .i64 oi, .int .i64 om, .string od, .int .i64 oe, .slice OA nl ocap]) := hk.2 _ _ _ (by decide) (by decide) (HKOB.out.drew)
              have E3 : Hid (Frm (fun k => w.heap.size ≤ k ∧ ¬ k = ob) W1 w3) := Frm.tr EF.out (frm_kb hk.1 (HKOB.out.drew) HKO3.out)
              clear hc hk
              try simp only [Act.put, List.setIfInBounds_toArray, List.set_cons_zero, List.set_cons_succ]
              refine rz_call (i := 7) rfl (by kernel_rfl) (by rfl) (fun K hK => ?_)
              go_simp
              go_at_call 31
              with_reducible refine (xanswer_y w.heap.size X id n sq ep ns c sq k i m d ak tr sq _ HX3.out HBX.out.1 (Nat.le_trans (Nat.le_refl _) K3.out.size) rfl (by have := HTR.out.1; omega)).mono ?_
              rintro e w4 ⟨rfl, hX, hk⟩
              refine hK _ _ (frm_kb hk.1 HKO3.out (hk.2 _ _ _ (by decide) HKO3.out)) ?_; clear hK K
              have HC4 := Lib.hid (HC3.out.kx hk)
              have HX4 := Lib.hid hX
              have K4 : Hid (Below w.heap.size w w4) := Below.trans K3.out hk.1
              clear hk hX
              try simp only [Act.put, List.setIfInBounds_toArray, List.set_cons_zero, List.set_cons_succ]
              refine rz_take [] (i := 8) (v := ?_) rfl (by kernel_rfl) (by kernel_rfl) (by kernel_rfl) (by kernel_rfl) (by kernel_rfl) (by kernel_rfl) (fun _ _ _ h => h) (by rfl) ?_ ?_
              rotate_left
              · intro W hW; go_simp <;> with_reducible rfl
              try simp only [Act.put, List.setIfInBounds_toArray, List.set_cons_zero, List.set_cons_succ]
              refine rz_done (by kernel_rfl) ?_ _
              go_wp2_with fail
              have hmid : Pl w w4 P X id n (j + 1) := ⟨sq, ep, ns, none, HC4.out, HX4.out, K4.out, hns'.out, HSQ.out.1, by have := HSQ.out.2; omega, .inl rfl⟩
              have hob := HOB.out
              subst hob
              go_meet
              case rel => exact hmid
            · obtain ⟨W1, hW1⟩ : ∃ W1, W1 = (wr.alloc (.cells #[.int .i64 kind, .int .i64 now, .int .i64 os, .int .i64 oc, .int .i64 oq, .int .i64 ok_, .int .i64 oi, .int .i64 om, .string od, .int .i64 oe, .slice OA nl ocap] 63)) := ⟨_, rfl⟩
              obtain ⟨ob, hob⟩ : ∃ ob, ob = wr.heap.size := ⟨_, rfl⟩
              have kob : Blk W1 ob 63 #[.int .i64 kind, .int .i64 now, .int .i64 os, .int .i64 oc, .int .i64 oq, .int .i64 ok_, .int .i64 oi, .int .i64 om, .string od, .int .i64 oe, .slice OA nl ocap] := by rw [hW1, hob]; exact Blk.new _ _ _
              have fo2 : ∀ W, Frm (fun k => w.heap.size ≤ k ∧ ¬ k = ob) W1 W → W.cell? ⟨ob, 2, none⟩ = some (.int .i64 os) := fun W h => (kob.frm h (fun hh => hh.2 rfl)).cell 2
              have HKOB := Lib.hid kob
              have HC1 : Hid (ClAt w.heap.size W1 P ⟨id, n, sq, ep, ns, (some ⟨c, sq, k, i, m, d, ak, tr⟩)⟩) := by (show ClAt _ _ _ _); rw [hW1]; exact HCO.out
              have HX1 : Hid (XAt W1 X ⟨id, n, sq, ep, ns, (some ⟨c, sq, k, i, m, d, ak, tr⟩)⟩) := by (show XAt _ _ _); rw [hW1]; exact HXO.out
              have K1 : Hid (Below w.heap.size w W1) := by (show Below _ _ _); rw [hW1]; exact KO.out
              have HCD : Hid (ClAt w.heap.size W1.drew P ⟨id, n, sq, ep, ns, (some ⟨c, sq, k, i, m, d, ak, tr⟩)⟩) := HC1.out.stay (Ext.refl _).drewR
              have HXD : Hid (XAt W1.drew X ⟨id, n, sq, ep, ns, (some ⟨c, sq, k, i, m, d, ak, tr⟩)⟩) := HX1.out.stay (Ext.refl _).drewR
              have KD : Hid (Below w.heap.size w W1.drew) := K1.out.drew
              have EF : Hid (Frm (fun k => w.heap.size ≤ k ∧ ¬ k = ob) W1 W1.drew) := (Frm.refl _ _).drew
              try rw [← hW1]
              try rw [← hob]
              have HOB := Lib.hid hob
              clear kob hW1 hob
              try go_wp2_with fail
              refine rz_begin (fun k => w.heap.size ≤ k ∧ ¬ k = ob) [] (by kernel_rfl) ?_
              refine rz_take [3, 7, 8] (i := 0) (v := ?_) rfl (by kernel_rfl) (by kernel_rfl) (by kernel_rfl) (by kernel_rfl) (by kernel_rfl) (by kernel_rfl) (fun _ _ _ h => h) (by rfl) ?_ ?_
              rotate_left
              · intro W hW; have hW0 := Frm.tr EF.out hW; clear hW; go_simp <;> with_reducible rfl
              try simp only [Act.put, List.setIfInBounds_toArray, List.set_cons_zero, List.set_cons_succ]
              refine rz_take [2, 3, 7, 8] (i := 1) (v := ?_) rfl (by kernel_rfl) (by kernel_rfl) (by kernel_rfl) (by kernel_rfl) (by kernel_rfl) (by kernel_rfl) (fun _ _ _ h => h) (by rfl) ?_ ?_
              rotate_left
              · intro W hW; have hW0 := Frm.tr EF.out hW; clear hW; go_simp <;> with_reducible rfl
              try simp only [Act.put, List.setIfInBounds_toArray, List.set_cons_zero, List.set_cons_succ]
              refine rz_take [3, 7, 8] (i := 2) (v := ?_) rfl (by kernel_rfl) (by kernel_rfl) (by kernel_rfl) (by kernel_rfl) (by kernel_rfl) (by kernel_rfl) (fun _ _ _ h => h) (by rfl) ?_ ?_
              rotate_left
              · intro W hW; have hW0 := Frm.tr EF.out hW; clear hW; go_simp <;> with_reducible rfl
              try simp only [Act.put, List.setIfInBounds_toArray, List.set_cons_zero, List.set_cons_succ]
              refine rz_take [7, 8] (i := 4) (v := ?_) rfl (by kernel_rfl) (by kernel_rfl) (by kernel_rfl) (by kernel_rfl) (by kernel_rfl) (by kernel_rfl) (fun _ _ _ h => h) (by rfl) ?_ ?_
              rotate_left
              · intro W hW; have hW0 := Frm.tr EF.out hW; clear hW; go_simp <;> with_reducible rfl
              try simp only [Act.put, List.setIfInBounds_toArray, List.set_cons_zero, List.set_cons_succ]
              refine rz_take [6, 7, 8] (i := 5) (v := ?_) rfl (by kernel_rfl) (by kernel_rfl) (by kernel_rfl) (by kernel_rfl) (by kernel_rfl) (by kernel_rfl) (fun _ _ _ h => h) (by rfl) ?_ ?_
              rotate_left
              · intro W hW; have hW0 := Frm.tr EF.out hW; clear hW; go_simp <;> with_reducible rfl
              try simp only [Act.put, List.setIfInBounds_toArray, List.set_cons_zero, List.set_cons_succ]
              refine rz_take [7, 8] (i := 6) (v := ?_) rfl (by kernel_rfl) (by kernel_rfl) (by kernel_rfl) (by kernel_rfl) (by kernel_rfl) (by kernel_rfl) (fun _ _ _ h => h) (by rfl) ?_ ?_
              rotate_left
              · intro W hW; have hW0 := Frm.tr EF.out hW; clear hW; go_simp <;> with_reducible rfl
              try simp only [Act.put, List.setIfInBounds_toArray, List.set_cons_zero, List.set_cons_succ]
              refine rz_call (i := 3) rfl (by kernel_rfl) (by rfl) (fun K hK => ?_)
              go_simp
              go_at_call 30
              with_reducible refine (answer_o w.heap.size P id n sq ep ns c sq k i m d ak tr os _ HCD.out hx0).mono ?_
              rintro e w3 ⟨rfl, hx⟩
              refine hK _ _ (Frm.of_below hx _) ?_; clear hK K
              have HC3 := Lib.hid (HCD.out.stay hx)
              have HX3 := Lib.hid (HXD.out.stay hx)
              have K3 : Hid (Below w.heap.size w w3) := Below.trans KD.out (Below.mono hx KD.out.size)
              have HKO3 : Hid (Blk w3 ob 63 #[.int .i64 kind, .int .i64 now, .int .i64 os, .int .i64 oc, .int .i64 oq, .int .i64 ok_, .int .i64 oi, .int .i64 om, .string od, .int .i64 oe, .slice OA nl ocap]) := (HKOB.out.drew).stay hx
              have E3 : Hid (Frm (fun k => w.heap.size ≤ k ∧ ¬ k = ob) W1 w3) := Frm.tr EF.out (Frm.of_below hx _)
              clear hx
              try simp only [Act.put, List.setIfInBounds_toArray, List.set_cons_zero, List.set_cons_succ]
              refine rz_call (i := 7) rfl (by kernel_rfl) (by rfl) (fun K hK => ?_)
              go_simp
              go_at_call 31
              with_reducible refine (xanswer_o w.heap.size X id n sq ep ns c sq k i m d ak tr os _ HX3.out HBX.out.1 (Nat.le_trans (Nat.le_refl _) K3.out.size) hx0 (by have := HTR.out.1; omega)).mono ?_
              rintro e w4 ⟨rfl, hx⟩
              refine hK _ _ (Frm.of_below hx _) ?_; clear hK K
              have HC4 := Lib.hid (HC3.out.stay hx)
              have HX4 := Lib.hid (HX3.out.stay hx)
              have K4 : Hid (Below w.heap.size w w4) := Below.trans K3.out (Below.mono hx K3.out.size)
              clear hx
              try simp only [Act.put, List.setIfInBounds_toArray, List.set_cons_zero, List.set_cons_succ]
              refine rz_take [] (i := 8) (v := ?_) rfl (by kernel_rfl) (by kernel_rfl) (by kernel_rfl) (by kernel_rfl) (by kernel_rfl) (by kernel_rfl) (fun _ _ _ h => h) (by rfl) ?_ ?_
              rotate_left
              · intro W hW; go_simp <;> with_reducible rfl
              try simp only [Act.put, List.setIfInBounds_toArray, List.set_cons_zero, List.set_cons_succ]
              refine rz_done (by kernel_rfl) ?_ _
              go_wp2_with fail
              have hmid : Pl w w4 P X id n (j + 1) := ⟨sq, ep, ns, _, HC4.out, HX4.out, K4.out, hns'.out, HSQ.out.1, by have := HSQ.out.2; omega, .inr ⟨c, k, i, m, d, ak, tr, rfl, ⟨HTR.out.1, by have := HTR.out.2; omega⟩, HAK.out⟩⟩
              have hob := HOB.out
              subst hob
              go_meet
              case rel => exact hmid
      case rest =>
        clear q0 q1 q2 q3 q4 q5 q6 q7 q8 q9 q10 o0 o1 o2 o3 o4 o5 o6 o7 o8 o9 o10 HP HCO HXO KO HSQ HS1 HS1' hns'
        obtain ⟨sq, ep, ns, p, hcl, hxa, hbw, hns, hsq0, hsqj, hp⟩ := hcut
        have HC4 := Lib.hid hcl
        have HX4 := Lib.hid hxa
        have K4 := Lib.hid hbw
        have hns' : Hid (ns.length ≤ 5) := hns
        have HSQ : Hid (0 ≤ sq ∧ sq ≤ ((j + 1 : Nat) : Int)) := ⟨hsq0, hsqj⟩
        rcases hp with rfl | ⟨c, k, i, m, d, ak, tr, rfl, htr, hak⟩
        · as_aux_lemma =>
            clear hcl hxa hbw hns hsq0 hsqj
            go_wp2_with (go_at_call 32; (with_reducible refine (pend_n w.heap.size P id n sq ep ns _ HC4.out).mono ?_); rintro e wp ⟨rfl, hx⟩; have XP : Hid (Ext wc wp) := hx; clear hx)
            obtain ⟨wz, hwz⟩ : ∃ wz, wz = wp.alloc (.cells #[.int .i64 0, .int .i64 0, .int .i64 0, .int .i64 0, .int .i64 0, .string ⟨#[]⟩] 29) := ⟨_, rfl⟩
            obtain ⟨hq, hhq⟩ : ∃ hq, hq = wp.heap.size := ⟨_, rfl⟩
            have kqz : Blk wz hq 29 #[.int .i64 0, .int .i64 0, .int .i64 0, .int .i64 0, .int .i64 0, .string ⟨#[]⟩] := by rw [hwz, hhq]; exact Blk.new _ _ _
            have hxz : Ext wc wz := by rw [hwz]; exact Ext.trans XP.out (Ext.alloc _ _)
            have HCz := Lib.hid (HC4.out.stay hxz)
            have KZ : Hid (Below w.heap.size w wz) := Below.trans K4.out (Below.mono hxz K4.out.size)
            have HXz := Lib.hid (HX4.out.stay hxz)
            obtain ⟨Ax, capx, hkx, akx, kX0⟩ := HXz.out
            have kX : Blk wz X 61 #[.int .i64 id, .int .i64 n, .int .i64 sq, .int .i64 akx, .int .i64 0, .int .i64 0, .int .i64 0, .int .i64 0, .int .i64 0, .int .i64 0, .string ⟨#[]⟩, .int .i64 ep, .slice Ax ns.length capx] := kX0
            have fx2 : ∀ V, Ext wz V → V.cell? ⟨X, 2, none⟩ = some (.int .i64 sq) := fun V h => (kX.stay h).cell 2
            have fx4 : ∀ V, Ext wz V → V.cell? ⟨X, 4, none⟩ = some (.int .i64 0) := fun V h => (kX.stay h).cell 4
            have fx5 : ∀ V, Ext wz V → V.cell? ⟨X, 5, none⟩ = some (.int .i64 0) := fun V h => (kX.stay h).cell 5
            have fx6 : ∀ V, Ext wz V → V.cell? ⟨X, 6, none⟩ = some (.int .i64 0) := fun V h => (kX.stay h).cell 6
            have fx7 : ∀ V, Ext wz V → V.cell? ⟨X, 7, none⟩ = some (.int .i64 0) := fun V h => (kX.stay h).cell 7
            have fx8 : ∀ V, Ext wz V → V.cell? ⟨X, 8, none⟩ = some (.int .i64 0) := fun V h => (kX.stay h).cell 8
            have fx9 : ∀ V, Ext wz V → V.cell? ⟨X, 9, none⟩ = some (.int .i64 0) := fun V h => (kX.stay h).cell 9
            have fx10 : ∀ V, Ext wz V → V.cell? ⟨X, 10, none⟩ = some (.string ⟨#[]⟩) := fun V h => (kX.stay h).cell 10
            have fq0 : ∀ V, Ext wz V → V.cell? ⟨hq, 0, none⟩ = some (.int .i64 0) := fun V h => (kqz.stay h).cell 0
            have fq1 : ∀ V, Ext wz V → V.cell? ⟨hq, 1, none⟩ = some (.int .i64 0) := fun V h => (kqz.stay h).cell 1
            have fq2 : ∀ V, Ext wz V → V.cell? ⟨hq, 2, none⟩ = some (.int .i64 0) := fun V h => (kqz.stay h).cell 2
            have fq3 : ∀ V, Ext wz V → V.cell? ⟨hq, 3, none⟩ = some (.int .i64 0) := fun V h => (kqz.stay h).cell 3
            have fq4 : ∀ V, Ext wz V → V.cell? ⟨hq, 4, none⟩ = some (.int .i64 0) := fun V h => (kqz.stay h).cell 4
            have fq5 : ∀ V, Ext wz V → V.cell? ⟨hq, 5, none⟩ = some (.string ⟨#[]⟩) := fun V h => (kqz.stay h).cell 5
            have CS9 : Hid (∀ V, Ext wz V → Calls Try.prog 33 #[.pointer (some ⟨P, 0, none⟩)] V fun e w' => e = .returned (.int .i64 sq) ∧ Ext V w') := fun V hV => seq_n w.heap.size P id n sq ep ns V (HCz.out.stay hV)
            have CR9 : Hid (∀ V, Ext wz V → Calls Try.prog 34 #[.pointer (some ⟨P, 0, none⟩)] V fun e w' => e = .returned (.int .i64 0) ∧ Ext V w') := fun V hV => tries_n w.heap.size P id n sq ep ns V (HCz.out.stay hV)
            have EZ : Hid (Ext wz wz) := Ext.refl _
            try rw [← hwz]
            try rw [← hhq]
            clear kqz hxz hkx kX0 kX hwz hhq
            refine ext_begin (by kernel_rfl) ?_
            have EZd := Lib.hid (Ext.drewR EZ.out)
            refine ext_take (i := 0) (v := ?_) rfl (by kernel_rfl) (by kernel_rfl) (by kernel_rfl) (fun _ _ _ h => h) (by rfl) ?_ ?_
            rotate_left
            · intro W hW; have hW0 := Ext.trans EZd.out hW; clear hW; go_simp <;> with_reducible rfl
            try simp only [Act.put, List.setIfInBounds_toArray, List.set_cons_zero, List.set_cons_succ]
            refine ext_take (i := 1) (v := ?_) rfl (by kernel_rfl) (by kernel_rfl) (by kernel_rfl) (fun _ _ _ h => h) (by rfl) ?_ ?_
            rotate_left
            · intro W hW; have hW0 := Ext.trans EZd.out hW; clear hW; go_simp <;> with_reducible rfl
            try simp only [Act.put, List.setIfInBounds_toArray, List.set_cons_zero, List.set_cons_succ]
            refine ext_take (i := 2) (v := ?_) rfl (by kernel_rfl) (by kernel_rfl) (by kernel_rfl) (fun _ _ _ h => h) (by rfl) ?_ ?_
            rotate_left
            · intro W hW; have hW0 := Ext.trans EZd.out hW; clear hW; go_simp <;> with_reducible rfl
            try simp only [Act.put, List.setIfInBounds_toArray, List.set_cons_zero, List.set_cons_succ]
            refine ext_take (i := 3) (v := ?_) rfl (by kernel_rfl) (by kernel_rfl) (by kernel_rfl) (fun _ _ _ h => h) (by rfl) ?_ ?_
            rotate_left
            · intro W hW; have hW0 := Ext.trans EZd.out hW; clear hW; go_simp <;> with_reducible rfl
            try simp only [Act.put, List.setIfInBounds_toArray, List.set_cons_zero, List.set_cons_succ]
            refine ext_take (i := 4) (v := ?_) rfl (by kernel_rfl) (by kernel_rfl) (by kernel_rfl) (fun _ _ _ h => h) (by rfl) ?_ ?_
            rotate_left
            · intro W hW; have hW0 := Ext.trans EZd.out hW; clear hW; go_simp <;> with_reducible rfl
            try simp only [Act.put, List.setIfInBounds_toArray, List.set_cons_zero, List.set_cons_succ]
            refine ext_take (i := 5) (v := ?_) rfl (by kernel_rfl) (by kernel_rfl) (by kernel_rfl) (fun _ _ _ h => h) (by rfl) ?_ ?_
            rotate_left
            · intro W hW; have hW0 := Ext.trans EZd.out hW; clear hW; go_simp <;> with_reducible rfl
            try simp only [Act.put, List.setIfInBounds_toArray, List.set_cons_zero, List.set_cons_succ]
            refine ext_take (i := 6) (v := ?_) rfl (by kernel_rfl) (by kernel_rfl) (by kernel_rfl) (fun _ _ _ h => h) (by rfl) ?_ ?_
            rotate_left
            · intro W hW; have hW0 := Ext.trans EZd.out hW; clear hW; go_simp <;> with_reducible rfl
            try simp only [Act.put, List.setIfInBounds_toArray, List.set_cons_zero, List.set_cons_succ]
            refine ext_take (i := 7) (v := ?_) rfl (by kernel_rfl) (by kernel_rfl) (by kernel_rfl) (fun _ _ _ h => h) (by rfl) ?_ ?_
            rotate_left
            · intro W hW; have hW0 := Ext.trans EZd.out hW; clear hW; go_simp <;> with_reducible rfl
            try simp only [Act.put, List.setIfInBounds_toArray, List.set_cons_zero, List.set_cons_succ]
            refine ext_take (i := 8) (v := ?_) rfl (by kernel_rfl) (by kernel_rfl) (by kernel_rfl) (fun _ _ _ h => h) (by rfl) ?_ ?_
            rotate_left
            · intro W hW; have hW0 := Ext.trans EZd.out hW; clear hW; go_simp <;> with_reducible rfl
            try simp only [Act.put, List.setIfInBounds_toArray, List.set_cons_zero, List.set_cons_succ]
            refine ext_take (i := 9) (v := ?_) rfl (by kernel_rfl) (by kernel_rfl) (by kernel_rfl) (fun _ _ _ h => h) (by rfl) ?_ ?_
            rotate_left
            · intro W hW; have hW0 := Ext.trans EZd.out hW; clear hW; go_simp <;> with_reducible rfl
            try simp only [Act.put, List.setIfInBounds_toArray, List.set_cons_zero, List.set_cons_succ]
            refine ext_take (i := 10) (v := ?_) rfl (by kernel_rfl) (by kernel_rfl) (by kernel_rfl) (fun _ _ _ h => h) (by rfl) ?_ ?_
            rotate_left
            · intro W hW; have hW0 := Ext.trans EZd.out hW; clear hW; go_simp <;> with_reducible rfl
            try simp only [Act.put, List.setIfInBounds_toArray, List.set_cons_zero, List.set_cons_succ]
            refine ext_take (i := 11) (v := ?_) rfl (by kernel_rfl) (by kernel_rfl) (by kernel_rfl) (fun _ _ _ h => h) (by rfl) ?_ ?_
            rotate_left
            · intro W hW; have hW0 := Ext.trans EZd.out hW; clear hW; go_simp <;> with_reducible rfl
            try simp only [Act.put, List.setIfInBounds_toArray, List.set_cons_zero, List.set_cons_succ]
            refine ext_take (i := 12) (v := ?_) rfl (by kernel_rfl) (by kernel_rfl) (by kernel_rfl) (fun _ _ _ h => h) (by rfl) ?_ ?_
            rotate_left
            · intro W hW; have hW0 := Ext.trans EZd.out hW; clear hW; go_simp <;> with_reducible rfl
            try simp only [Act.put, List.setIfInBounds_toArray, List.set_cons_zero, List.set_cons_succ]
            refine ext_take (i := 13) (v := .bool false) rfl (by kernel_rfl) (by kernel_rfl) (by kernel_rfl) (fun _ _ _ h => h) (by rfl) ?_ ?_
            · intro W hW; have hW0 := Ext.trans EZd.out hW; clear hW; go_simp; all_goals (first | done | (simp; done))
            try simp only [Act.put, List.setIfInBounds_toArray, List.set_cons_zero, List.set_cons_succ]
            refine ext_take (i := 14) (v := ?_) rfl (by kernel_rfl) (by kernel_rfl) (by kernel_rfl) (fun _ _ _ h => h) (by rfl) ?_ ?_
            rotate_left
            · intro W hW; have hW0 := Ext.trans EZd.out hW; clear hW; go_simp <;> with_reducible rfl
            try simp only [Act.put, List.setIfInBounds_toArray, List.set_cons_zero, List.set_cons_succ]
            refine ext_take (i := 15) (v := ?_) rfl (by kernel_rfl) (by kernel_rfl) (by kernel_rfl) (fun _ _ _ h => h) (by rfl) ?_ ?_
            rotate_left
            · intro W hW; have hW0 := Ext.trans EZd.out hW; clear hW; go_simp <;> with_reducible rfl
            try simp only [Act.put, List.setIfInBounds_toArray, List.set_cons_zero, List.set_cons_succ]
            refine ext_take (i := 16) (v := ?_) rfl (by kernel_rfl) (by kernel_rfl) (by kernel_rfl) (fun _ _ _ h => h) (by rfl) ?_ ?_
            rotate_left
            · intro W hW; have hW0 := Ext.trans EZd.out hW; clear hW; go_simp <;> with_reducible rfl
            try simp only [Act.put, List.setIfInBounds_toArray, List.set_cons_zero, List.set_cons_succ]
            refine ext_take (i := 18) (v := ?_) rfl (by kernel_rfl) (by kernel_rfl) (by kernel_rfl) (fun _ _ _ h => h) (by rfl) ?_ ?_
            rotate_left
            · intro W hW; have hW0 := Ext.trans EZd.out hW; clear hW; go_simp <;> with_reducible rfl
            try simp only [Act.put, List.setIfInBounds_toArray, List.set_cons_zero, List.set_cons_succ]
            refine ext_take (i := 19) (v := ?_) rfl (by kernel_rfl) (by kernel_rfl) (by kernel_rfl) (fun _ _ _ h => h) (by rfl) ?_ ?_
            rotate_left
            · intro W hW; have hW0 := Ext.trans EZd.out hW; clear hW; go_simp <;> with_reducible rfl
            try simp only [Act.put, List.setIfInBounds_toArray, List.set_cons_zero, List.set_cons_succ]
            refine ext_take (i := 20) (v := ?_) rfl (by kernel_rfl) (by kernel_rfl) (by kernel_rfl) (fun _ _ _ h => h) (by rfl) ?_ ?_
            rotate_left
            · intro W hW; have hW0 := Ext.trans EZd.out hW; clear hW; go_simp <;> with_reducible rfl
            try simp only [Act.put, List.setIfInBounds_toArray, List.set_cons_zero, List.set_cons_succ]
            refine ext_take (i := 21) (v := ?_) rfl (by kernel_rfl) (by kernel_rfl) (by kernel_rfl) (fun _ _ _ h => h) (by rfl) ?_ ?_
            rotate_left
            · intro W hW; have hW0 := Ext.trans EZd.out hW; clear hW; go_simp <;> with_reducible rfl
            try simp only [Act.put, List.setIfInBounds_toArray, List.set_cons_zero, List.set_cons_succ]
            refine ext_call (i := 17) rfl (by kernel_rfl) (by rfl) (fun K' hK => ?_)
            go_simp
            (go_at_call 33; (with_reducible refine (CS9.out _ EZd.out).mono ?_); rintro e wq ⟨rfl, hx⟩; refine hK _ _ hx ?_; clear hK)
            have Ewq := Lib.hid (Ext.trans EZd.out hx)
            clear hx
            try simp only [Act.put, List.setIfInBounds_toArray, List.set_cons_zero, List.set_cons_succ]
            refine ext_take (i := 22) (v := ?_) rfl (by kernel_rfl) (by kernel_rfl) (by kernel_rfl) (fun _ _ _ h => h) (by rfl) ?_ ?_
            rotate_left
            · intro W hW; have hW0 := Ext.trans Ewq.out hW; clear hW; go_simp <;> with_reducible rfl
            try simp only [Act.put, List.setIfInBounds_toArray, List.set_cons_zero, List.set_cons_succ]
            refine ext_take (i := 23) (v := ?_) rfl (by kernel_rfl) (by kernel_rfl) (by kernel_rfl) (fun _ _ _ h => h) (by rfl) ?_ ?_
            rotate_left
            · intro W hW; have hW0 := Ext.trans Ewq.out hW; clear hW; go_simp <;> with_reducible rfl
            try simp only [Act.put, List.setIfInBounds_toArray, List.set_cons_zero, List.set_cons_succ]
            refine ext_take (i := 24) (v := ?_) rfl (by kernel_rfl) (by kernel_rfl) (by kernel_rfl) (fun _ _ _ h => h) (by rfl) ?_ ?_
            rotate_left
            · intro W hW; have hW0 := Ext.trans Ewq.out hW; clear hW; go_simp <;> with_reducible rfl
            try simp only [Act.put, List.setIfInBounds_toArray, List.set_cons_zero, List.set_cons_succ]
            refine ext_take (i := 25) (v := ?_) rfl (by kernel_rfl) (by kernel_rfl) (by kernel_rfl) (fun _ _ _ h => h) (by rfl) ?_ ?_
            rotate_left
            · intro W hW; have hW0 := Ext.trans Ewq.out hW; clear hW; go_simp <;> with_reducible rfl
            try simp only [Act.put, List.setIfInBounds_toArray, List.set_cons_zero, List.set_cons_succ]
            refine ext_take (i := 27) (v := ?_) rfl (by kernel_rfl) (by kernel_rfl) (by kernel_rfl) (fun _ _ _ h => h) (by rfl) ?_ ?_
            rotate_left
            · intro W hW; have hW0 := Ext.trans Ewq.out hW; clear hW; go_simp <;> with_reducible rfl
            try simp only [Act.put, List.setIfInBounds_toArray, List.set_cons_zero, List.set_cons_succ]
            refine ext_take (i := 28) (v := ?_) rfl (by kernel_rfl) (by kernel_rfl) (by kernel_rfl) (fun _ _ _ h => h) (by rfl) ?_ ?_
            rotate_left
            · intro W hW; have hW0 := Ext.trans Ewq.out hW; clear hW; go_simp <;> with_reducible rfl
            try simp only [Act.put, List.setIfInBounds_toArray, List.set_cons_zero, List.set_cons_succ]
            refine ext_take (i := 29) (v := ?_) rfl (by kernel_rfl) (by kernel_rfl) (by kernel_rfl) (fun _ _ _ h => h) (by rfl) ?_ ?_
            rotate_left
            · intro W hW; have hW0 := Ext.trans Ewq.out hW; clear hW; go_simp <;> with_reducible rfl
            try simp only [Act.put, List.setIfInBounds_toArray, List.set_cons_zero, List.set_cons_succ]
            refine ext_take (i := 30) (v := ?_) rfl (by kernel_rfl) (by kernel_rfl) (by kernel_rfl) (fun _ _ _ h => h) (by rfl) ?_ ?_
            rotate_left
            · intro W hW; have hW0 := Ext.trans Ewq.out hW; clear hW; go_simp <;> with_reducible rfl
            try simp only [Act.put, List.setIfInBounds_toArray, List.set_cons_zero, List.set_cons_succ]
            refine ext_call (i := 26) rfl (by kernel_rfl) (by rfl) (fun K' hK => ?_)
            go_simp
            (go_at_call 34; (with_reducible refine (CR9.out _ Ewq.out).mono ?_); rintro e wy ⟨rfl, hx⟩; refine hK _ _ hx ?_; clear hK)
            have Ewy := Lib.hid (Ext.trans Ewq.out hx)
            clear hx
            try simp only [Act.put, List.setIfInBounds_toArray, List.set_cons_zero, List.set_cons_succ]
            refine ext_take (i := 31) (v := ?_) rfl (by kernel_rfl) (by kernel_rfl) (by kernel_rfl) (fun _ _ _ h => h) (by rfl) ?_ ?_
            rotate_left
            · intro W hW; have hW0 := Ext.trans Ewy.out hW; clear hW; go_simp <;> with_reducible rfl
            try simp only [Act.put, List.setIfInBounds_toArray, List.set_cons_zero, List.set_cons_succ]
            refine ext_take (i := 32) (v := ?_) rfl (by kernel_rfl) (by kernel_rfl) (by kernel_rfl) (fun _ _ _ h => h) (by rfl) ?_ ?_
            rotate_left
            · intro W hW; have hW0 := Ext.trans Ewy.out hW; clear hW; go_simp <;> with_reducible rfl
            try simp only [Act.put, List.setIfInBounds_toArray, List.set_cons_zero, List.set_cons_succ]
            refine wpAnyH_done (by kernel_rfl) ?_ _
            have EY := Lib.hid Ewy.out
            clear Ewq Ewy EZd EZ fx2 fx4 fx5 fx6 fx7 fx8 fx9 fx10 fq0 fq1 fq2 fq3 fq4 fq5
            go_wp2_with fail
            go_roundw
            case rel =>
              have hone : Pl w wy P X id n (j + 1) := ⟨sq, ep, ns, none, HCz.out.stay EY.out, HXz.out.stay EY.out, Below.trans KZ.out (Below.mono EY.out KZ.out.size), hns'.out, HSQ.out.1, HSQ.out.2, .inl rfl⟩
              exact ⟨j + 1, by omega, by omega, by go_num, by first | exact hone | exact hone.drewN⟩
            case measure => simp [intOf]; omega
        · have HTR : Hid (1 ≤ tr ∧ tr ≤ ((j + 1 : Nat) : Int)) := htr
          have HAK : Hid (ak ≤ 9223372036854775807) := hak
          clear hcl hxa hbw hns hsq0 hsqj htr hak
          as_aux_lemma =>
            go_wp2_with (go_at_call 32; (with_reducible refine (pend_s w.heap.size P id n sq ep ns c sq k i m d ak tr _ HC4.out).mono ?_); rintro e wp ⟨rfl, hx⟩; have XP : Hid (Ext wc wp) := hx; clear hx)
            obtain ⟨wz, hwz⟩ : ∃ wz, wz = wp.alloc (.cells #[.int .i64 c, .int .i64 sq, .int .i64 k, .int .i64 i, .int .i64 m, .string d] 29) := ⟨_, rfl⟩
            obtain ⟨hq, hhq⟩ : ∃ hq, hq = wp.heap.size := ⟨_, rfl⟩
            have kqz : Blk wz hq 29 #[.int .i64 c, .int .i64 sq, .int .i64 k, .int .i64 i, .int .i64 m, .string d] := by rw [hwz, hhq]; exact Blk.new _ _ _
            have hxz : Ext wc wz := by rw [hwz]; exact Ext.trans XP.out (Ext.alloc _ _)
            have HCz := Lib.hid (HC4.out.stay hxz)
            have KZ : Hid (Below w.heap.size w wz) := Below.trans K4.out (Below.mono hxz K4.out.size)
            have HXz := Lib.hid (HX4.out.stay hxz)
            obtain ⟨Ax, capx, hkx, kX0⟩ := HXz.out
            have kX : Blk wz X 61 #[.int .i64 id, .int .i64 n, .int .i64 sq, .int .i64 ak, .int .i64 tr, .int .i64 c, .int .i64 sq, .int .i64 k, .int .i64 i, .int .i64 m, .string d, .int .i64 ep, .slice Ax ns.length capx] := kX0
            have fx2 : ∀ V, Ext wz V → V.cell? ⟨X, 2, none⟩ = some (.int .i64 sq) := fun V h => (kX.stay h).cell 2
            have fx4 : ∀ V, Ext wz V → V.cell? ⟨X, 4, none⟩ = some (.int .i64 tr) := fun V h => (kX.stay h).cell 4
            have fx5 : ∀ V, Ext wz V → V.cell? ⟨X, 5, none⟩ = some (.int .i64 c) := fun V h => (kX.stay h).cell 5
            have fx6 : ∀ V, Ext wz V → V.cell? ⟨X, 6, none⟩ = some (.int .i64 sq) := fun V h => (kX.stay h).cell 6
            have fx7 : ∀ V, Ext wz V → V.cell? ⟨X, 7, none⟩ = some (.int .i64 k) := fun V h => (kX.stay h).cell 7
            have fx8 : ∀ V, Ext wz V → V.cell? ⟨X, 8, none⟩ = some (.int .i64 i) := fun V h => (kX.stay h).cell 8
            have fx9 : ∀ V, Ext wz V → V.cell? ⟨X, 9, none⟩ = some (.int .i64 m) := fun V h => (kX.stay h).cell 9
            have fx10 : ∀ V, Ext wz V → V.cell? ⟨X, 10, none⟩ = some (.string d) := fun V h => (kX.stay h).cell 10
            have fq0 : ∀ V, Ext wz V → V.cell? ⟨hq, 0, none⟩ = some (.int .i64 c) := fun V h => (kqz.stay h).cell 0
            have fq1 : ∀ V, Ext wz V → V.cell? ⟨hq, 1, none⟩ = some (.int .i64 sq) := fun V h => (kqz.stay h).cell 1
            have fq2 : ∀ V, Ext wz V → V.cell? ⟨hq, 2, none⟩ = some (.int .i64 k) := fun V h => (kqz.stay h).cell 2
            have fq3 : ∀ V, Ext wz V → V.cell? ⟨hq, 3, none⟩ = some (.int .i64 i) := fun V h => (kqz.stay h).cell 3
            have fq4 : ∀ V, Ext wz V → V.cell? ⟨hq, 4, none⟩ = some (.int .i64 m) := fun V h => (kqz.stay h).cell 4
            have fq5 : ∀ V, Ext wz V → V.cell? ⟨hq, 5, none⟩ = some (.string d) := fun V h => (kqz.stay h).cell 5
            have CS9 : Hid (∀ V, Ext wz V → Calls Try.prog 33 #[.pointer (some ⟨P, 0, none⟩)] V fun e w' => e = .returned (.int .i64 sq) ∧ Ext V w') := fun V hV => seq_s w.heap.size P id n sq ep ns c sq k i m d ak tr V (HCz.out.stay hV)
            have CR9 : Hid (∀ V, Ext wz V → Calls Try.prog 34 #[.pointer (some ⟨P, 0, none⟩)] V fun e w' => e = .returned (.int .i64 tr) ∧ Ext V w') := fun V hV => tries_s w.heap.size P id n sq ep ns c sq k i m d ak tr V (HCz.out.stay hV)
            have EZ : Hid (Ext wz wz) := Ext.refl _
            have htp9 : (0 : Int) < tr := by have := HTR.out.1; omega
            try rw [← hwz]
            try rw [← hhq]
            clear kqz hxz hkx kX0 kX hwz hhq
            refine ext_begin (by kernel_rfl) ?_
            have EZd := Lib.hid (Ext.drewR EZ.out)
            refine ext_take (i := 0) (v := ?_) rfl (by kernel_rfl) (by kernel_rfl) (by kernel_rfl) (fun _ _ _ h => h) (by rfl) ?_ ?_
            rotate_left
            · intro W hW; have hW0 := Ext.trans EZd.out hW; clear hW; go_simp <;> with_reducible rfl
            try simp only [Act.put, List.setIfInBounds_toArray, List.set_cons_zero, List.set_cons_succ]
            refine ext_take (i := 1) (v := ?_) rfl (by kernel_rfl) (by kernel_rfl) (by kernel_rfl) (fun _ _ _ h => h) (by rfl) ?_ ?_
            rotate_left
            · intro W hW; have hW0 := Ext.trans EZd.out hW; clear hW; go_simp <;> with_reducible rfl
            try simp only [Act.put, List.setIfInBounds_toArray, List.set_cons_zero, List.set_cons_succ]
            refine ext_take (i := 2) (v := ?_) rfl (by kernel_rfl) (by kernel_rfl) (by kernel_rfl) (fun _ _ _ h => h) (by rfl) ?_ ?_
            rotate_left
            · intro W hW; have hW0 := Ext.trans EZd.out hW; clear hW; go_simp <;> with_reducible rfl
            try simp only [Act.put, List.setIfInBounds_toArray, List.set_cons_zero, List.set_cons_succ]
            refine ext_take (i := 3) (v := ?_) rfl (by kernel_rfl) (by kernel_rfl) (by kernel_rfl) (fun _ _ _ h => h) (by rfl) ?_ ?_
            rotate_left
            · intro W hW; have hW0 := Ext.trans EZd.out hW; clear hW; go_simp <;> with_reducible rfl
            try simp only [Act.put, List.setIfInBounds_toArray, List.set_cons_zero, List.set_cons_succ]
            refine ext_take (i := 4) (v := ?_) rfl (by kernel_rfl) (by kernel_rfl) (by kernel_rfl) (fun _ _ _ h => h) (by rfl) ?_ ?_
            rotate_left
            · intro W hW; have hW0 := Ext.trans EZd.out hW; clear hW; go_simp <;> with_reducible rfl
            try simp only [Act.put, List.setIfInBounds_toArray, List.set_cons_zero, List.set_cons_succ]
            refine ext_take (i := 5) (v := .bool true) rfl (by kernel_rfl) (by kernel_rfl) (by kernel_rfl) (fun _ _ _ h => h) (by rfl) ?_ ?_
            · intro W hW; have hW0 := Ext.trans EZd.out hW; clear hW; go_simp; all_goals (first | done | omega | (simp; omega))
            try simp only [Act.put, List.setIfInBounds_toArray, List.set_cons_zero, List.set_cons_succ]
            refine ext_take (i := 6) (v := ?_) rfl (by kernel_rfl) (by kernel_rfl) (by kernel_rfl) (fun _ _ _ h => h) (by rfl) ?_ ?_
            rotate_left
            · intro W hW; have hW0 := Ext.trans EZd.out hW; clear hW; go_simp <;> with_reducible rfl
            try simp only [Act.put, List.setIfInBounds_toArray, List.set_cons_zero, List.set_cons_succ]
            refine ext_take (i := 7) (v := ?_) rfl (by kernel_rfl) (by kernel_rfl) (by kernel_rfl) (fun _ _ _ h => h) (by rfl) ?_ ?_
            rotate_left
            · intro W hW; have hW0 := Ext.trans EZd.out hW; clear hW; go_simp <;> with_reducible rfl
            try simp only [Act.put, List.setIfInBounds_toArray, List.set_cons_zero, List.set_cons_succ]
            refine ext_take (i := 8) (v := ?_) rfl (by kernel_rfl) (by kernel_rfl) (by kernel_rfl) (fun _ _ _ h => h) (by rfl) ?_ ?_
            rotate_left
            · intro W hW; have hW0 := Ext.trans EZd.out hW; clear hW; go_simp <;> with_reducible rfl
            try simp only [Act.put, List.setIfInBounds_toArray, List.set_cons_zero, List.set_cons_succ]
            refine ext_take (i := 9) (v := ?_) rfl (by kernel_rfl) (by kernel_rfl) (by kernel_rfl) (fun _ _ _ h => h) (by rfl) ?_ ?_
            rotate_left
            · intro W hW; have hW0 := Ext.trans EZd.out hW; clear hW; go_simp <;> with_reducible rfl
            try simp only [Act.put, List.setIfInBounds_toArray, List.set_cons_zero, List.set_cons_succ]
            refine ext_take (i := 10) (v := ?_) rfl (by kernel_rfl) (by kernel_rfl) (by kernel_rfl) (fun _ _ _ h => h) (by rfl) ?_ ?_
            rotate_left
            · intro W hW; have hW0 := Ext.trans EZd.out hW; clear hW; go_simp <;> with_reducible rfl
            try simp only [Act.put, List.setIfInBounds_toArray, List.set_cons_zero, List.set_cons_succ]
            refine ext_take (i := 11) (v := ?_) rfl (by kernel_rfl) (by kernel_rfl) (by kernel_rfl) (fun _ _ _ h => h) (by rfl) ?_ ?_
            rotate_left
            · intro W hW; have hW0 := Ext.trans EZd.out hW; clear hW; go_simp <;> with_reducible rfl
            try simp only [Act.put, List.setIfInBounds_toArray, List.set_cons_zero, List.set_cons_succ]
            refine ext_take (i := 12) (v := ?_) rfl (by kernel_rfl) (by kernel_rfl) (by kernel_rfl) (fun _ _ _ h => h) (by rfl) ?_ ?_
            rotate_left
            · intro W hW; have hW0 := Ext.trans EZd.out hW; clear hW; go_simp <;> with_reducible rfl
            try simp only [Act.put, List.setIfInBounds_toArray, List.set_cons_zero, List.set_cons_succ]
            refine ext_take (i := 13) (v := .bool false) rfl (by kernel_rfl) (by kernel_rfl) (by kernel_rfl) (fun _ _ _ h => h) (by rfl) ?_ ?_
            · intro W hW; have hW0 := Ext.trans EZd.out hW; clear hW; go_simp; all_goals (first | done | (simp; done))
            try simp only [Act.put, List.setIfInBounds_toArray, List.set_cons_zero, List.set_cons_succ]
            refine ext_take (i := 14) (v := ?_) rfl (by kernel_rfl) (by kernel_rfl) (by kernel_rfl) (fun _ _ _ h => h) (by rfl) ?_ ?_
            rotate_left
            · intro W hW; have hW0 := Ext.trans EZd.out hW; clear hW; go_simp <;> with_reducible rfl
            try simp only [Act.put, List.setIfInBounds_toArray, List.set_cons_zero, List.set_cons_succ]
            refine ext_take (i := 15) (v := ?_) rfl (by kernel_rfl) (by kernel_rfl) (by kernel_rfl) (fun _ _ _ h => h) (by rfl) ?_ ?_
            rotate_left
            · intro W hW; have hW0 := Ext.trans EZd.out hW; clear hW; go_simp <;> with_reducible rfl
            try simp only [Act.put, List.setIfInBounds_toArray, List.set_cons_zero, List.set_cons_succ]
            refine ext_take (i := 16) (v := ?_) rfl (by kernel_rfl) (by kernel_rfl) (by kernel_rfl) (fun _ _ _ h => h) (by rfl) ?_ ?_
            rotate_left
            · intro W hW; have hW0 := Ext.trans EZd.out hW; clear hW; go_simp <;> with_reducible rfl
            try simp only [Act.put, List.setIfInBounds_toArray, List.set_cons_zero, List.set_cons_succ]
            refine ext_take (i := 18) (v := ?_) rfl (by kernel_rfl) (by kernel_rfl) (by kernel_rfl) (fun _ _ _ h => h) (by rfl) ?_ ?_
            rotate_left
            · intro W hW; have hW0 := Ext.trans EZd.out hW; clear hW; go_simp <;> with_reducible rfl
            try simp only [Act.put, List.setIfInBounds_toArray, List.set_cons_zero, List.set_cons_succ]
            refine ext_take (i := 19) (v := ?_) rfl (by kernel_rfl) (by kernel_rfl) (by kernel_rfl) (fun _ _ _ h => h) (by rfl) ?_ ?_
            rotate_left
            · intro W hW; have hW0 := Ext.trans EZd.out hW; clear hW; go_simp <;> with_reducible rfl
            try simp only [Act.put, List.setIfInBounds_toArray, List.set_cons_zero, List.set_cons_succ]
            refine ext_take (i := 20) (v := ?_) rfl (by kernel_rfl) (by kernel_rfl) (by kernel_rfl) (fun _ _ _ h => h) (by rfl) ?_ ?_
            rotate_left
            · intro W hW; have hW0 := Ext.trans EZd.out hW; clear hW; go_simp <;> with_reducible rfl
            try simp only [Act.put, List.setIfInBounds_toArray, List.set_cons_zero, List.set_cons_succ]
            refine ext_take (i := 21) (v := ?_) rfl (by kernel_rfl) (by kernel_rfl) (by kernel_rfl) (fun _ _ _ h => h) (by rfl) ?_ ?_
            rotate_left
            · intro W hW; have hW0 := Ext.trans EZd.out hW; clear hW; go_simp <;> with_reducible rfl
            try simp only [Act.put, List.setIfInBounds_toArray, List.set_cons_zero, List.set_cons_succ]
            refine ext_call (i := 17) rfl (by kernel_rfl) (by rfl) (fun K' hK => ?_)
            go_simp
            (go_at_call 33; (with_reducible refine (CS9.out _ EZd.out).mono ?_); rintro e wq ⟨rfl, hx⟩; refine hK _ _ hx ?_; clear hK)
            have Ewq := Lib.hid (Ext.trans EZd.out hx)
            clear hx
            try simp only [Act.put, List.setIfInBounds_toArray, List.set_cons_zero, List.set_cons_succ]
            refine ext_take (i := 22) (v := ?_) rfl (by kernel_rfl) (by kernel_rfl) (by kernel_rfl) (fun _ _ _ h => h) (by rfl) ?_ ?_
            rotate_left
            · intro W hW; have hW0 := Ext.trans Ewq.out hW; clear hW; go_simp <;> with_reducible rfl
            try simp only [Act.put, List.setIfInBounds_toArray, List.set_cons_zero, List.set_cons_succ]
            refine ext_take (i := 23) (v := ?_) rfl (by kernel_rfl) (by kernel_rfl) (by kernel_rfl) (fun _ _ _ h => h) (by rfl) ?_ ?_
            rotate_left
            · intro W hW; have hW0 := Ext.trans Ewq.out hW; clear hW; go_simp <;> with_reducible rfl
            try simp only [Act.put, List.setIfInBounds_toArray, List.set_cons_zero, List.set_cons_succ]
            refine ext_take (i := 24) (v := ?_) rfl (by kernel_rfl) (by kernel_rfl) (by kernel_rfl) (fun _ _ _ h => h) (by rfl) ?_ ?_
            rotate_left
            · intro W hW; have hW0 := Ext.trans Ewq.out hW; clear hW; go_simp <;> with_reducible rfl
            try simp only [Act.put, List.setIfInBounds_toArray, List.set_cons_zero, List.set_cons_succ]
            refine ext_take (i := 25) (v := ?_) rfl (by kernel_rfl) (by kernel_rfl) (by kernel_rfl) (fun _ _ _ h => h) (by rfl) ?_ ?_
            rotate_left
            · intro W hW; have hW0 := Ext.trans Ewq.out hW; clear hW; go_simp <;> with_reducible rfl
            try simp only [Act.put, List.setIfInBounds_toArray, List.set_cons_zero, List.set_cons_succ]
            refine ext_take (i := 27) (v := ?_) rfl (by kernel_rfl) (by kernel_rfl) (by kernel_rfl) (fun _ _ _ h => h) (by rfl) ?_ ?_
            rotate_left
            · intro W hW; have hW0 := Ext.trans Ewq.out hW; clear hW; go_simp <;> with_reducible rfl
            try simp only [Act.put, List.setIfInBounds_toArray, List.set_cons_zero, List.set_cons_succ]
            refine ext_take (i := 28) (v := ?_) rfl (by kernel_rfl) (by kernel_rfl) (by kernel_rfl) (fun _ _ _ h => h) (by rfl) ?_ ?_
            rotate_left
            · intro W hW; have hW0 := Ext.trans Ewq.out hW; clear hW; go_simp <;> with_reducible rfl
            try simp only [Act.put, List.setIfInBounds_toArray, List.set_cons_zero, List.set_cons_succ]
            refine ext_take (i := 29) (v := ?_) rfl (by kernel_rfl) (by kernel_rfl) (by kernel_rfl) (fun _ _ _ h => h) (by rfl) ?_ ?_
            rotate_left
            · intro W hW; have hW0 := Ext.trans Ewq.out hW; clear hW; go_simp <;> with_reducible rfl
            try simp only [Act.put, List.setIfInBounds_toArray, List.set_cons_zero, List.set_cons_succ]
            refine ext_take (i := 30) (v := ?_) rfl (by kernel_rfl) (by kernel_rfl) (by kernel_rfl) (fun _ _ _ h => h) (by rfl) ?_ ?_
            rotate_left
            · intro W hW; have hW0 := Ext.trans Ewq.out hW; clear hW; go_simp <;> with_reducible rfl
            try simp only [Act.put, List.setIfInBounds_toArray, List.set_cons_zero, List.set_cons_succ]
            refine ext_call (i := 26) rfl (by kernel_rfl) (by rfl) (fun K' hK => ?_)
            go_simp
            (go_at_call 34; (with_reducible refine (CR9.out _ Ewq.out).mono ?_); rintro e wy ⟨rfl, hx⟩; refine hK _ _ hx ?_; clear hK)
            have Ewy := Lib.hid (Ext.trans Ewq.out hx)
            clear hx
            try simp only [Act.put, List.setIfInBounds_toArray, List.set_cons_zero, List.set_cons_succ]
            refine ext_take (i := 31) (v := ?_) rfl (by kernel_rfl) (by kernel_rfl) (by kernel_rfl) (fun _ _ _ h => h) (by rfl) ?_ ?_
            rotate_left
            · intro W hW; have hW0 := Ext.trans Ewy.out hW; clear hW; go_simp <;> with_reducible rfl
            try simp only [Act.put, List.setIfInBounds_toArray, List.set_cons_zero, List.set_cons_succ]
            refine ext_take (i := 32) (v := ?_) rfl (by kernel_rfl) (by kernel_rfl) (by kernel_rfl) (fun _ _ _ h => h) (by rfl) ?_ ?_
            rotate_left
            · intro W hW; have hW0 := Ext.trans Ewy.out hW; clear hW; go_simp <;> with_reducible rfl
            try simp only [Act.put, List.setIfInBounds_toArray, List.set_cons_zero, List.set_cons_succ]
            refine wpAnyH_done (by kernel_rfl) ?_ _
            have EY := Lib.hid Ewy.out
            clear Ewq Ewy EZd EZ fx2 fx4 fx5 fx6 fx7 fx8 fx9 fx10 fq0 fq1 fq2 fq3 fq4 fq5
            go_wp2_with fail
            go_roundw
            case rel =>
              have hone : Pl w wy P X id n (j + 1) := ⟨sq, ep, ns, _, HCz.out.stay EY.out, HXz.out.stay EY.out, Below.trans KZ.out (Below.mono EY.out KZ.out.size), hns'.out, HSQ.out.1, HSQ.out.2, .inr ⟨c, k, i, m, d, ak, tr, rfl, HTR.out, HAK.out⟩⟩
              exact ⟨j + 1, by omega, by omega, by go_num, by first | exact hone | exact hone.drewN⟩
            case measure => simp [intOf]; omega
    · have KE : Hid (Below w.heap.size w wr) := by obtain ⟨_, _, _, _, _, _, h, _⟩ := HI.out; exact h
      clear HI
      by_cases h1 : j < nn
      · have h2 : ¬ (j : Int) < 80 := by omega
        have h3 : (j : Int) < (nn : Int) := by omega
        go_wp2_with (go_at_call 23; (with_reducible refine (HTO.out _).mono ?_); rintro e wt ⟨rfl, hx⟩; have KT : Hid (Below w.heap.size w wt) := Below.trans KE.out (Below.mono hx KE.out.size); clear hx)
        try go_ret
        exact hD.out _ _ ⟨rfl, KT.out⟩
      · have h3 : ¬ (j : Int) < (nn : Int) := by omega
        go_wp2_with (go_at_call 23; (with_reducible refine (HTO.out _).mono ?_); rintro e wt ⟨rfl, hx⟩; have KT : Hid (Below w.heap.size w wt) := Below.trans KE.out (Below.mono hx KE.out.size); clear hx)
        try go_ret
        exact hD.out _ _ ⟨rfl, KT.out⟩


set_option maxRecDepth 8000 in
set_option maxHeartbeats 8000000 in
theorem plays_no (id n : Int) (A0 : Option Addr) (N cap0 : Nat) (w : World) (h : id < 0 ∨ 4 ≤ id ∨ n < 1 ∨ 5 < n) :
    Calls Try.prog 7 #[.int .i64 id, .int .i64 n, .slice A0 N cap0] w fun e w' => e = .returned (.bool true) ∧ Below w.heap.size w w' := by
  refine hide_post fun D hD => ?_
  have CN := Lib.hid (new_no id n w h)
  have HTO : Hid (∀ V, Calls Try.prog 23 #[] V fun e w' => e = .returned (.bool true) ∧ Ext V w') := told21
  have h' : id < 0 ∨ (¬ id < 0 ∧ (4 ≤ id ∨ (¬ 4 ≤ id ∧ (n < 1 ∨ (¬ n < 1 ∧ 5 < n))))) := by omega
  clear h
  rcases h' with h1 | ⟨h1, h2 | ⟨h2, h3 | ⟨h3, h4⟩⟩⟩
  all_goals
    go_enter Try.func7, Try.ntmps7
    go_wp2_with (first
      | (go_at_call 22; (with_reducible refine CN.out.mono ?_); rintro e w1 ⟨rfl, hx⟩; have X1 := Lib.hid hx; clear hx)
      | (go_at_call 23; (with_reducible refine (HTO.out _).mono ?_); rintro e w2 ⟨rfl, hx⟩; have X2 : Hid (Ext w w2) := Ext.trans X1.out hx; clear hx))
    try go_ret
    exact hD.out _ _ ⟨rfl, X2.out⟩

theorem walk_clientPlays (id n : Int) (A0 : Option Addr) (xs : List Op21) (cap0 : Nat) (w : World) (hn : xs.length ≤ 9223372036854775807) (hS : So21 w A0 xs) :
    Calls Try.prog 7 #[.int .i64 id, .int .i64 n, .slice A0 xs.length cap0] w fun e w' => e = .returned (.bool true) ∧ Below w.heap.size w w' := by
  by_cases h : id < 0 ∨ 4 ≤ id ∨ n < 1 ∨ 5 < n
  · exact plays_no id n A0 _ cap0 w h
  · exact plays_yes id n A0 xs cap0 w (by omega) hn hS

set_option maxRecDepth 100000 in
theorem law_clientPlays {H : Type} {enc : TypeId × Value → H} (W : World) (base : Nat) (args : Array Value) (ds : List (DataW H)) (p : List MemPlace)
    (hval : ∀ (j : Nat) t v, Try.f7.params[j]? = some t → args[j]? = some v → Value.okWide Try.prog W .any base t v)
    (hA : DataW.TrodAll enc Try.prog W 0 (fun _ => true) true Try.f7.params.toList args.toList ds p) :
    Calls Try.prog 7 args W fun e W' => e = .returned (.bool true) ∧ Below W.heap.size W W' := by
  rw [Try.params7] at hA hval
  obtain ⟨v0, vs0, d0, ds0, p0, q0, hargs, rfl, rfl, h0, r0⟩ := trodAll_cons hA
  obtain ⟨v1, vs1, d1, ds1, p1, q1, rfl, rfl, rfl, h1, r1⟩ := trodAll_cons r0
  obtain ⟨v2, vs2, d2, ds2, p2, q2, rfl, rfl, rfl, h2, r2⟩ := trodAll_cons r1
  obtain ⟨rfl, rfl, rfl⟩ := trodAll_nil r2
  obtain rfl : args = #[v0, v1, v2] := by cases args; simp_all
  obtain ⟨a0, rfl, rfl, rfl, w0⟩ := open_int Try.underlying3 (hval 0 3 v0 rfl rfl) h0
  obtain ⟨a1, rfl, rfl, rfl, w1⟩ := open_int Try.underlying3 (hval 1 3 v1 rfl rfl) h1
  obtain ⟨A2, n2, c2, rfl⟩ := okWide_slice Try.underlying53 (hval 2 53 v2 rfl rfl)
  obtain ⟨fuel2, hf2⟩ := h2
  obtain ⟨B2, l2, e2, hcs2, x2, y2⟩ := open_ops21 hf2
  simp only [Value.cells, List.cons.injEq, Value.slice.injEq, and_true] at hcs2
  obtain ⟨rfl, rfl, rfl⟩ := hcs2
  exact walk_clientPlays a0 a1 A2 l2 c2 W x2 y2

end Go.Proofs.Ytnionfddejaalaa
