/-
  The walk of the law ClientTries.
-/
import Derived.Test.YtdbnaflaobncgaaTold21
import Derived.Test.YtdbnaflaobncgaaOpen
import Derived.Deep.OwnRows
namespace Go.Proofs.Ytdbnaflaobncgaa
set_option linter.unusedVariables false
set_option linter.unusedSimpArgs false
open Go.RowKit Go.ChangeShapes Go.WideShapes

theorem wr_i64 (x : Int) (h : -9223372036854775808 ≤ x) (h' : x ≤ 9223372036854775807) : IntKind.i64.wrap x = x ∧ wrap64 x = x := by
  constructor
  · unfold IntKind.wrap
    simp [IntKind.bits, IntKind.signed]
    omega
  · unfold wrap64
    omega
theorem due_dec {now asked t q df : Int} (h1 : q = waitF t) (h2 : df = now - asked) (h3 : 0 ≤ now) (h4 : 0 ≤ asked) : dueB now asked t = decide (q ≤ df) := by
  unfold dueB
  rw [h1, h2]
  apply decide_eq_decide.2
  exact ⟨fun h => h.2.2, fun h => ⟨h3, h4, h⟩⟩
theorem info_boolT : (Try.prog.info? 4).map (fun i => (i.zero, i.size, i.bytes)) = some (some (.bool false), 1, 1) := by kernel_rfl
/-- who was asked: block g is k bools -/
def Mk (w : World) (g k t : Nat) : Prop := ∃ cs : Array Value, Blk w g 4 cs ∧ cs.size = k ∧ (∀ r, r < k → ∃ b, cs[r]? = some (.bool b)) ∧ ∀ u, 3 ≤ u → u ≤ t → cs[u % k]? = some (.bool true)
theorem Mk.of {w w' : World} {g k t : Nat} (H : Mk w g k t) (h : ∀ cs, Blk w g 4 cs → Blk w' g 4 cs) : Mk w' g k t := by
  obtain ⟨cs, h1, h2⟩ := H
  exact ⟨cs, h _ h1, h2⟩
theorem Mk.kt {base : Nat} {w w' : World} {g k t : Nat} (H : Mk w g k t) (h : Kt base w w') : Mk w' g k t := H.of fun cs hb => h.2 _ _ _ (by decide) (by decide) hb
theorem Mk.stay {w w' : World} {g k t : Nat} (H : Mk w g k t) (h : Ext w w') : Mk w' g k t := H.of fun cs hb => hb.stay h
theorem Mk.new (w : World) (k t : Nat) (ht : t < 3) : Mk (w.alloc (.cells (madeCells #[.bool false] k) 4)) w.heap.size k t :=
  ⟨_, Blk.new _ _ _, by simp [madeCells], fun r hr => ⟨false, by simp [madeCells, hr, Nat.mod_one]⟩, fun u h1 h2 => by omega⟩
theorem Mk.skip {w : World} {g k t : Nat} (H : Mk w g k t) (ht : t + 1 < 3) : Mk w g k (t + 1) := by
  obtain ⟨cs, h1, h2, h3, h4⟩ := H
  exact ⟨cs, h1, h2, h3, fun u hu1 hu2 => by omega⟩
theorem Mk.put {w : World} {g k t : Nat} (H : Mk w g k t) (hk : 0 < k) : Mk (w.setCell ⟨g, (t + 1) % k, none⟩ (.bool true)) g k (t + 1) := by
  obtain ⟨cs, h1, h2, h3, h4⟩ := H
  have hlt := Nat.mod_lt (t + 1) hk
  refine ⟨cs.setIfInBounds ((t + 1) % k) (.bool true), h1.set _ _, by simp [h2], fun r hr => ?_, fun u hu1 hu2 => ?_⟩
  · rw [Array.getElem?_setIfInBounds]
    by_cases e : (t + 1) % k = r
    · exact ⟨true, by rw [if_pos e, if_pos (by omega)]⟩
    · rw [if_neg e]; exact h3 r hr
  · rw [Array.getElem?_setIfInBounds]
    by_cases e : (t + 1) % k = u % k
    · rw [if_pos e, if_pos (by omega)]
    · rw [if_neg e]
      refine h4 u hu1 ?_
      have : u ≠ t + 1 := fun h => e (by rw [h])
      omega
theorem Mk.cell {w : World} {g k t : Nat} (H : Mk w g k t) {r : Nat} (hr : r < k) : ∃ b, w.cell? ⟨g, r, none⟩ = some (.bool b) ∧ w.frozen? ⟨g, r, none⟩ = false ∧ ((∃ u, 3 ≤ u ∧ u ≤ t ∧ u % k = r) → b = true) := by
  obtain ⟨cs, h1, h2, h3, h4⟩ := H
  obtain ⟨b, hb⟩ := h3 r hr
  refine ⟨b, by rw [h1.cell, hb], h1.frozen _, ?_⟩
  rintro ⟨u, u1, u2, rfl⟩
  have := h4 u u1 u2
  rw [hb] at this
  injection this with this
  injection this
theorem all_hit {k r t : Nat} (hk : 1 ≤ k) (hk5 : k ≤ 5) (hr : r < k) (ht : 2 + k ≤ t) : ∃ u, 3 ≤ u ∧ u ≤ t ∧ u % k = r := by
  have : k = 1 ∨ k = 2 ∨ k = 3 ∨ k = 4 ∨ k = 5 := by omega
  rcases this with rfl | rfl | rfl | rfl | rfl
  · exact ⟨3, by omega, by omega, by omega⟩
  · exact ⟨3 + (r + 1) % 2, by omega, by omega, by omega⟩
  · exact ⟨3 + r, by omega, by omega, by omega⟩
  · exact ⟨3 + (r + 1) % 4, by omega, by omega, by omega⟩
  · exact ⟨3 + (r + 2) % 5, by omega, by omega, by omega⟩
def TrI (w wr : World) (P g k t : Nat) (now ak : Int) (j : Nat) : Prop :=
  ClAt w.heap.size wr P ⟨0, (k : Int), 1, 0, [], some ⟨0, 1, 4, 0, 0, ⟨#[]⟩, ak, (t : Int)⟩⟩ ∧ Kt w.heap.size w wr ∧ Mk wr g k t ∧ w.heap.size ≤ g ∧ 1 ≤ t ∧ t ≤ j + 1 ∧ 0 ≤ ak ∧ ak ≤ now ∧ now ≤ 19 * j
theorem TrI.drewN {w wr : World} {P g k t : Nat} {now ak : Int} {j n : Nat} (h : TrI w wr P g k t now ak j) : TrI w (wr.drewN n) P g k t now ak j := by
  have hx : Ext wr (wr.drewN n) := (Ext.refl _).drewN
  exact ⟨h.1.stay hx, h.2.1.trans (Kt.ext hx h.1.lt), h.2.2.1.stay hx, h.2.2.2⟩
theorem Kt.fresh {base g : Nat} {w w' : World} {t : TypeId} {cs : Array Value} (h : Kt base w w') (hB : base = w.heap.size) (hg : base ≤ g) (i : Nat) (v : Value) : Kt base w (w'.setCell ⟨g, i, none⟩ v) :=
  ⟨h.1.setCell hg _, fun g' t' cs' h1 h2 h3 => (h.2 g' t' cs' h1 h2 h3).far (p := ⟨g, i, none⟩) (fun e => by have := h3.lt; simp only at e; omega) v⟩
theorem ClAt.cells {base P g : Nat} {w : World} {s : Cs} {cs : Array Value} (h : ClAt base w P s) (hb : Blk w g 4 cs) (i : Nat) (v : Value) : ClAt base (w.setCell ⟨g, i, none⟩ v) P s := by
  obtain ⟨h1, A, cap, pv, h2, h3, h4⟩ := h
  refine ⟨h1, A, cap, pv, h2.far (p := ⟨g, i, none⟩) (Blk.apart h2 hb (by decide)) _, h3.of (fun g' cs' hb' => hb'.far (p := ⟨g, i, none⟩) (Blk.apart hb' hb (by decide)) _), ?_⟩
  cases hp : s.p with
  | none => rw [hp] at h4; exact h4
  | some q => rw [hp] at h4; obtain ⟨pp, g1, g2, g3⟩ := h4; exact ⟨pp, g1, g2, g3.far (p := ⟨g, i, none⟩) (Blk.apart g3 hb (by decide)) _⟩

set_option maxRecDepth 8000 in
set_option maxHeartbeats 32000000 in
theorem walk_clientTries (a : Int) (A : Option Addr) (cap : Nat) (l : List Int) (w : World) (hl : l.length ≤ 9223372036854775807) (hs : Sl i64 w A l) :
    Calls Try.prog 3 #[.int .i64 a, .slice A l.length cap] w fun e w' => e = .returned (.bool true) ∧ Below w.heap.size w w' := by
  refine hide_post fun D hD => ?_
  obtain ⟨a0, a1⟩ := umod_bd a 5 (by omega) (by omega)
  have HTO : Hid (∀ V, Calls Try.prog 18 #[] V fun e w' => e = .returned (.bool true) ∧ Ext V w') := told21
  have HS := Lib.hid hs
  obtain ⟨n, hnn⟩ : ∃ n, n = l.length := ⟨_, rfl⟩
  rw [← hnn] at hl ⊢
  have HN := Lib.hid hnn
  clear hs hnn
  obtain ⟨k, hk⟩ : ∃ k : Nat, 1 + wrap64 ((IntKind.u64.wrap a).tmod 5) = (k : Int) := ⟨(1 + wrap64 ((IntKind.u64.wrap a).tmod 5)).toNat, by omega⟩
  have k1 : 1 ≤ k := by omega
  have k5 : k ≤ 5 := by omega
  have CN : Hid (∀ V, Ext w V → Calls Try.prog 13 #[.int .i64 0, .int .i64 (k : Int)] w fun e w' => ∃ P, e = .returned (.tuple #[.pointer (some ⟨P, 0, none⟩), .int .i64 0]) ∧ ClAt w.heap.size w' P ⟨0, (k : Int), 0, 0, [], none⟩ ∧ Ext w w') := fun _ _ => (new_yes 0 k w (by decide) (by decide) (by omega) (by omega)).mono fun e w' h => ⟨_, h⟩
  have hmx : max (1 : Int) 0 % (k : Int) = ((1 % k : Nat) : Int) := by rw [show max (1 : Int) 0 = ((1 : Nat) : Int) by omega]; exact (Int.natCast_emod _ _).symm
  have CQ : Hid (∀ V P, ClAt w.heap.size V P ⟨0, (k : Int), 0, 0, [], none⟩ → Calls Try.prog 14 #[.pointer (some ⟨P, 0, none⟩), .int .i64 0, .agg #[.int .i64 0, .int .i64 0, .int .i64 4, .int .i64 0, .int .i64 0, .string ⟨#[]⟩]] V fun e w' => e = .returned (.tuple #[.int .i64 ((1 % k : Nat) : Int), .int .i64 0]) ∧ ClAt w.heap.size w' P ⟨0, (k : Int), 1, 0, [], some ⟨0, 1, 4, 0, 0, ⟨#[]⟩, 0, ((1 : Nat) : Int)⟩⟩ ∧ Kt w.heap.size V w') := fun V P H => by
    refine (ask_any w.heap.size P 0 k 0 0 [] none 0 0 0 4 0 0 ⟨#[]⟩ V H (by decide) (by decide) (by decide) (by decide)).mono ?_
    rintro e w' ⟨a, f, rfl, hk, h | h⟩
    · have hm : mayReqB 0 (0 + 1) 4 0 0 (ByteArray.size ⟨#[]⟩) = true := by decide
      rcases h.1 with ⟨h1, _⟩ | ⟨_, _, _, h1, _⟩
      · rw [hm] at h1
        simp at h1
      · exact absurd rfl h1
    · obtain ⟨_, _, _, _, rfl, rfl, h7⟩ := h
      refine ⟨?_, h7, hk⟩
      have : targetF [] (k : Int) 1 (decide ((4 : Int) = 1 ∨ (4 : Int) = 2 ∨ (4 : Int) = 3)) = ((1 % k : Nat) : Int) := by
        unfold targetF
        rw [if_neg (by omega), if_pos (by simp)]
        exact hmx
      rw [this]
  have h1k : 1 % k < k := Nat.mod_lt _ k1
  clear hmx
  generalize 1 % k = x0 at *
  have hx00 : (0 : Int) ≤ (x0 : Int) := by omega
  have hx01 : (x0 : Int) < (k : Int) := by omega
  have hx02 : ¬ (x0 : Int) < 0 := by omega
  have hx03 : ¬ (k : Int) ≤ (x0 : Int) := by omega
  go_enter Try.func3, Try.ntmps3
  go_wp2_with fail
  clear hk a0 a1
  go_wp2_with (first
    | (go_at_call 13; (with_reducible refine (CN.out _ (Ext.refl _)).mono ?_); rintro e w1 ⟨P, rfl, hc, hx⟩; have HC1 := Lib.hid hc; have X1 := Lib.hid hx; clear hc hx)
    | (go_at_call 14; (with_reducible refine (CQ.out _ _ HC1.out).mono ?_); rintro e w2 ⟨rfl, hc, hk⟩; have HC2 := Lib.hid hc; have K2 : Hid (Kt w.heap.size w w2) := (Kt.ext X1.out (Nat.le_refl _)).trans hk; clear hc hk))
  have hmk := run_make_row' (P := Try.prog) 31 4 (.bool false) 1 Try.underlying31 info_boolT rfl .i64 .i64 k (by omega) (by omega)
  rw [hmk]
  clear hmk
  obtain ⟨g, hg⟩ : ∃ g, g = w2.heap.size := ⟨_, rfl⟩
  rw [← hg]
  have HGG := Lib.hid hg
  clear hg
  go_wp2_with fail
  have hg := HGG.out
  have HI0 : Hid (TrI w (w2.alloc (.cells (madeCells #[.bool false] k) 4)) P g k 1 0 0 0) := ⟨HC2.out.stay (Ext.alloc _ _), K2.out.trans (Kt.ext (Ext.alloc _ _) K2.out.1.size), by rw [hg]; exact Mk.new _ _ _ (by decide), by rw [hg]; exact K2.out.1.size, by omega, by omega, by omega, by omega, by omega⟩
  clear hg HGG
  go_loopw [10, 11, 12, 14] (fun nw ak tr i wr => ∃ (j t : Nat) (now asked : Int), j ≤ n ∧ j ≤ 60 ∧ nw = .int .i64 now ∧ ak = .int .i64 asked ∧ tr = .int .i64 (t : Int) ∧ i = .int .i64 j ∧ Hid (TrI w wr P g k t now asked j)) (fun _ _ _ i _ => n - (intOf i).toNat)
  case atStart => exact ⟨0, 1, 0, 0, by omega, by omega, rfl, rfl, rfl, rfl, HI0⟩
  case round =>
    obtain ⟨j, t, now, asked, hj, hj6, rfl, rfl, rfl, rfl, HI⟩ := hrel
    by_cases hlt : j < n ∧ j < 60
    · obtain ⟨hcl, hkt, hmk, hg, ht1, htj, hak0, hakn, hnow⟩ := HI.out
      obtain ⟨b, o, rfl, hq⟩ := (HS.out.stay hkt.1).at_ (k := j) (by have := HN.out; omega)
      generalize l[j]'(by have := HN.out; omega) = pa at *
      unfold i64 at hq
      obtain ⟨u0, u1⟩ := umod_bd pa 20 (by omega) (by omega)
      obtain ⟨d, hd⟩ : ∃ d : Nat, wrap64 ((IntKind.u64.wrap pa).tmod 20) = (d : Int) := ⟨(wrap64 ((IntKind.u64.wrap pa).tmod 20)).toNat, by omega⟩
      have hd20 : d < 20 := by rw [hd] at u1; omega
      have HDD := Lib.hid hd
      clear hd u0 u1
      obtain ⟨now1, hn1⟩ : ∃ x, x = now + d := ⟨_, rfl⟩
      have W1 : Hid (wrap64 (now + d) = now1) := (wr_i64 _ (by omega) (by omega)).2.trans hn1.symm
      have W1' : Hid (IntKind.i64.wrap (now + d) = now1) := (wr_i64 _ (by omega) (by omega)).1.trans hn1.symm
      obtain ⟨df, hdf⟩ : ∃ x, x = now1 - asked := ⟨_, rfl⟩
      have W2 : Hid (wrap64 (now1 - asked) = df) := (wr_i64 _ (by omega) (by omega)).2.trans hdf.symm
      have W2' : Hid (IntKind.i64.wrap (now1 - asked) = df) := (wr_i64 _ (by omega) (by omega)).1.trans hdf.symm
      obtain ⟨t1, ht1'⟩ : ∃ x : Nat, x = t + 1 := ⟨_, rfl⟩
      have W3 : Hid (wrap64 ((t : Int) + 1) = (t1 : Int)) := by
        show _ = _
        obtain ⟨T, hT⟩ : ∃ T : Int, T = (t : Int) + 1 := ⟨_, rfl⟩
        rw [← hT, (wr_i64 T (by omega) (by omega)).2]
        omega
      have W3' : Hid (IntKind.i64.wrap ((t : Int) + 1) = (t1 : Int)) := by
        show _ = _
        obtain ⟨T, hT⟩ : ∃ T : Int, T = (t : Int) + 1 := ⟨_, rfl⟩
        rw [← hT, (wr_i64 T (by omega) (by omega)).1]
        omega
      obtain ⟨q, hqq⟩ : ∃ q, q = waitF t := ⟨_, rfl⟩
      have HWT : Hid (∀ V, Calls Try.prog 16 #[.int .i64 (t : Int)] V fun e w' => e = .returned (.int .i64 q) ∧ Ext V w') := fun V => by
        rw [hqq]
        exact (wait_any t V (by omega) (by omega)).mono fun e w' ⟨h1, h2⟩ => ⟨h1, h2 ▸ Ext.refl _⟩
      have hdu : dueB now1 asked t = decide (q ≤ df) := due_dec hqq hdf (by omega) hak0
      have HCL := Lib.hid hcl
      have HKT := Lib.hid hkt
      have HMK := Lib.hid hmk
      have HGB : Hid (w.heap.size ≤ g) := hg
      have HT : Hid (1 ≤ t ∧ t ≤ j + 1 ∧ 0 ≤ asked ∧ asked ≤ now ∧ now ≤ 19 * j ∧ now1 = now + d ∧ d < 20 ∧ t1 = t + 1) := ⟨ht1, htj, hak0, hakn, hnow, hn1, hd20, ht1'⟩
      have hj1 : (j : Int) < (n : Int) := by omega
      have hj2 : (j : Int) < 60 := by omega
      have hj0 : (0 : Int) ≤ (j : Int) := by omega
      have hdb : (d : Int) < 20 := by omega
      by_cases hqd : q ≤ df
      · rw [decide_eq_true hqd] at hdu
        obtain ⟨x, hx⟩ : ∃ x : Nat, x = t1 % k := ⟨_, rfl⟩
        have hxk : x < k := by rw [hx]; exact Nat.mod_lt _ k1
        have CT : Hid (Calls Try.prog 15 #[.pointer (some ⟨P, 0, none⟩), .int .i64 now1] wr fun e w' => e = .returned (.tuple #[.int .i64 (x : Int), .bool true]) ∧ ClAt w.heap.size w' P ⟨0, (k : Int), 1, 0, [], some ⟨0, 1, 4, 0, 0, ⟨#[]⟩, now1, (t1 : Int)⟩⟩ ∧ Kt w.heap.size wr w') := by
          have h := tick_y w.heap.size P 0 k 1 0 [] 0 1 4 0 0 ⟨#[]⟩ asked t now1 t1 wr hcl hdu (by decide) (by omega) (by omega) (by omega) (by omega) (by omega) (by omega)
          have e : targetF [] (k : Int) (t1 : Int) (decide ((4 : Int) = 1 ∨ (4 : Int) = 2 ∨ (4 : Int) = 3)) = (x : Int) := by
            unfold targetF
            rw [if_neg (by omega), if_pos (by simp), show max (t1 : Int) 0 = (t1 : Int) by omega, hx]
            exact (Int.natCast_emod _ _).symm
          rw [e] at h
          exact h
        have CR : Hid (∀ V, ClAt w.heap.size V P ⟨0, (k : Int), 1, 0, [], some ⟨0, 1, 4, 0, 0, ⟨#[]⟩, now1, (t1 : Int)⟩⟩ → Calls Try.prog 17 #[.pointer (some ⟨P, 0, none⟩)] V fun e w' => e = .returned (.int .i64 (t1 : Int)) ∧ Ext V w') := fun V H => tries_s w.heap.size P 0 k 1 0 [] 0 1 4 0 0 ⟨#[]⟩ now1 t1 V H
        have hx0 : (0 : Int) ≤ (x : Int) := by omega
        have hx1 : (x : Int) < (k : Int) := by omega
        have HX := Lib.hid hx
        have hnx : ¬ (x : Int) < 0 := by omega
        have hnk : ¬ (k : Int) ≤ (x : Int) := by omega
        clear hcl hkt hmk hg ht1 htj hak0 hakn hnow hn1 hdf ht1' hqq hdu HI hx
        by_cases ht2 : (2 : Int) < (t1 : Int)
        · have fa1 := W1.out; have fb1 := W1'.out; have fa2 := W2.out; have fb2 := W2'.out; have fa3 := W3.out; have fb3 := W3'.out; have hd := HDD.out
          go_wp2_with (first
            | (go_at_call 15; (with_reducible refine CT.out.mono ?_); rintro e w3 ⟨rfl, hc, hk⟩; have HC3 := Lib.hid hc; have K3 : Hid (Kt w.heap.size w w3) := HKT.out.trans hk; have HM3 : Hid (Mk w3 g k t) := HMK.out.kt hk; clear hc hk)
            | (go_at_call 16; (with_reducible refine (HWT.out _).mono ?_); rintro e w4 ⟨rfl, hx⟩; have HC4 := Lib.hid (HC3.out.stay hx); have K4 : Hid (Kt w.heap.size w w4) := K3.out.trans (Kt.ext hx HC3.out.lt); have HM4 : Hid (Mk w4 g k t) := HM3.out.stay hx; clear hx)
            | (go_at_call 17; (with_reducible refine (CR.out _ HC4.out).mono ?_); rintro e w5 ⟨rfl, hx⟩; have HC5 := Lib.hid (HC4.out.stay hx); have K5 : Hid (Kt w.heap.size w w5) := K4.out.trans (Kt.ext hx HC4.out.lt); have hm5 : Mk w5 g k t := HM4.out.stay hx; have HM5 := Lib.hid hm5; obtain ⟨bv, hb1, hb2, _⟩ := hm5.cell hxk; clear hx hm5))
          go_roundw
          case rel =>
            clear fa1 fb1 fa2 fb2 fa3 fb3 hd
            have hm6 : Mk (w5.setCell ⟨g, x, none⟩ (.bool true)) g k t1 := by
              have h := HM5.out.put k1
              rw [HX.out, HT.out.2.2.2.2.2.2.2]
              exact h
            have hc6 : ClAt w.heap.size (w5.setCell ⟨g, x, none⟩ (.bool true)) P ⟨0, (k : Int), 1, 0, [], some ⟨0, 1, 4, 0, 0, ⟨#[]⟩, now1, (t1 : Int)⟩⟩ := by
              obtain ⟨cs, h1, _⟩ := HM5.out
              exact HC5.out.cells h1 _ _
            have hk6 : Kt w.heap.size w (w5.setCell ⟨g, x, none⟩ (.bool true)) := Kt.fresh (t := 4) (cs := #[]) K5.out rfl HGB.out _ _
            have hi : TrI w (w5.setCell ⟨g, x, none⟩ (.bool true)) P g k t1 now1 now1 (j + 1) := ⟨hc6, hk6, hm6, HGB.out, by have := HT.out; omega, by have := HT.out; omega, by have := HT.out; omega, by omega, by have := HT.out; omega⟩
            exact ⟨j + 1, t1, now1, now1, by omega, by omega, by first | rfl | go_num, by first | rfl | go_num, by first | rfl | go_num, by go_num, by first | exact hi | exact hi.drewN⟩
          case measure => clear fa1 fb1 fa2 fb2 fa3 fb3 hd; simp [intOf]; omega
        · have fa1 := W1.out; have fb1 := W1'.out; have fa2 := W2.out; have fb2 := W2'.out; have fa3 := W3.out; have fb3 := W3'.out; have hd := HDD.out
          go_wp2_with (first
            | (go_at_call 15; (with_reducible refine CT.out.mono ?_); rintro e w3 ⟨rfl, hc, hk⟩; have HC3 := Lib.hid hc; have K3 : Hid (Kt w.heap.size w w3) := HKT.out.trans hk; have HM3 : Hid (Mk w3 g k t) := HMK.out.kt hk; clear hc hk)
            | (go_at_call 16; (with_reducible refine (HWT.out _).mono ?_); rintro e w4 ⟨rfl, hx⟩; have HC4 := Lib.hid (HC3.out.stay hx); have K4 : Hid (Kt w.heap.size w w4) := K3.out.trans (Kt.ext hx HC3.out.lt); have HM4 : Hid (Mk w4 g k t) := HM3.out.stay hx; clear hx)
            | (go_at_call 17; (with_reducible refine (CR.out _ HC4.out).mono ?_); rintro e w5 ⟨rfl, hx⟩; have HC5 := Lib.hid (HC4.out.stay hx); have K5 : Hid (Kt w.heap.size w w5) := K4.out.trans (Kt.ext hx HC4.out.lt); have HM5 : Hid (Mk w5 g k t) := HM4.out.stay hx; clear hx))
          go_roundw
          case rel =>
            clear fa1 fb1 fa2 fb2 fa3 fb3 hd
            have hi : TrI w w5 P g k t1 now1 now1 (j + 1) := ⟨HC5.out, K5.out, by rw [HT.out.2.2.2.2.2.2.2]; exact HM5.out.skip (by have := HT.out; omega), HGB.out, by have := HT.out; omega, by have := HT.out; omega, by have := HT.out; omega, by omega, by have := HT.out; omega⟩
            exact ⟨j + 1, t1, now1, now1, by omega, by omega, by first | rfl | go_num, by first | rfl | go_num, by first | rfl | go_num, by go_num, by first | exact hi | exact hi.drewN⟩
          case measure => clear fa1 fb1 fa2 fb2 fa3 fb3 hd; simp [intOf]; omega
      · rw [decide_eq_false hqd] at hdu
        have CT : Hid (Calls Try.prog 15 #[.pointer (some ⟨P, 0, none⟩), .int .i64 now1] wr fun e w' => e = .returned (.tuple #[.int .i64 (-1), .bool false]) ∧ Ext wr w') := tick_o w.heap.size P 0 k 1 0 [] 0 1 4 0 0 ⟨#[]⟩ asked t now1 wr hcl hdu (by omega) (by omega) (by omega) (by omega)
        clear hcl hkt hmk hg ht1 htj hak0 hakn hnow hn1 hdf ht1' hqq hdu HI
        have fa1 := W1.out; have fb1 := W1'.out; have fa2 := W2.out; have fb2 := W2'.out; have fa3 := W3.out; have fb3 := W3'.out; have hd := HDD.out
        go_wp2_with (first
          | (go_at_call 15; (with_reducible refine CT.out.mono ?_); rintro e w3 ⟨rfl, hx⟩; have HC3 := Lib.hid (HCL.out.stay hx); have K3 : Hid (Kt w.heap.size w w3) := HKT.out.trans (Kt.ext hx HCL.out.lt); have HM3 : Hid (Mk w3 g k t) := HMK.out.stay hx; clear hx)
          | (go_at_call 16; (with_reducible refine (HWT.out _).mono ?_); rintro e w4 ⟨rfl, hx⟩; have HC4 := Lib.hid (HC3.out.stay hx); have K4 : Hid (Kt w.heap.size w w4) := K3.out.trans (Kt.ext hx HC3.out.lt); have HM4 : Hid (Mk w4 g k t) := HM3.out.stay hx; clear hx))
        go_roundw
        case rel =>
          clear fa1 fb1 fa2 fb2 fa3 fb3 hd
          have hi : TrI w w4 P g k t now1 asked (j + 1) := ⟨HC4.out, K4.out, HM4.out, HGB.out, by have := HT.out; omega, by have := HT.out; omega, by have := HT.out; omega, by have := HT.out; omega, by have := HT.out; omega⟩
          exact ⟨j + 1, t, now1, asked, by omega, by omega, by first | rfl | go_num, by first | rfl | go_num, by first | rfl | go_num, by go_num, by first | exact hi | exact hi.drewN⟩
        case measure => clear fa1 fb1 fa2 fb2 fa3 fb3 hd; simp [intOf]; omega
    · have hexit : ¬ (j : Int) < (n : Int) ∨ ((j : Int) < (n : Int) ∧ ¬ (j : Int) < 60) := by omega
      have KE : Hid (Kt w.heap.size w wr) := HI.out.2.1
      have HMK : Hid (Mk wr g k t) := HI.out.2.2.1
      have ht62 : t ≤ 61 := by have := HI.out.2.2.2.2; omega
      clear HI
      rcases hexit with h3 | ⟨h3, h4⟩
      all_goals
        go_wp2_with fail
        go_loopw [17, 18] (fun al i wx => ∃ (m : Nat) (bv : Bool), m ≤ k ∧ al = .bool bv ∧ i = .int .i64 m ∧ Hid (2 + k ≤ t → bv = true) ∧ Hid (Ext wr wx)) (fun _ i _ => k - (intOf i).toNat)
        case atStart => exact ⟨0, true, Nat.zero_le _, rfl, rfl, fun _ => rfl, Ext.refl _⟩
        case round =>
          obtain ⟨m, bv, hm, rfl, rfl, HB, HX⟩ := hrel
          by_cases hmk : m < k
          · obtain ⟨cv, c1, c2, c3⟩ := (HMK.out.stay HX.out).cell hmk
            have HC3 : Hid (2 + k ≤ t → cv = true) := fun h => c3 (all_hit k1 k5 hmk h)
            have hm0 : (0 : Int) ≤ (m : Int) := by omega
            have hm1 : (m : Int) < (k : Int) := by omega
            clear c3
            cases bv with
            | true =>
              go_wp2_with fail
              go_roundw
              case rel => exact ⟨m + 1, cv, by omega, rfl, by go_num, HC3.out, by first | exact HX.out | exact HX.out.drewN⟩
              case measure => simp [intOf]; omega
            | false =>
              go_wp2_with fail
              go_roundw
              case rel => exact ⟨m + 1, false, by omega, rfl, by go_num, HB.out, by first | exact HX.out | exact HX.out.drewN⟩
              case measure => simp [intOf]; omega
          · have hm1 : ¬ (m : Int) < (k : Int) := by omega
            have KX : Hid (Kt w.heap.size w wr) := KE.out.trans (Kt.ext HX.out KE.out.1.size)
            by_cases htk : 2 + k ≤ t
            · obtain rfl := HB.out htk
              have h5 : ¬ (t : Int) < 2 + (k : Int) := by omega
              go_wp2_with (go_at_call 18; (with_reducible refine (HTO.out _).mono ?_); rintro e wt ⟨rfl, hx⟩; have KT : Hid (Kt w.heap.size w wt) := KX.out.trans (Kt.ext hx KX.out.1.size); clear hx)
              try go_ret
              exact hD.out _ _ ⟨rfl, KT.out.1⟩
            · have h5 : (t : Int) < 2 + (k : Int) := by omega
              go_wp2_with (go_at_call 18; (with_reducible refine (HTO.out _).mono ?_); rintro e wt ⟨rfl, hx⟩; have KT : Hid (Kt w.heap.size w wt) := KX.out.trans (Kt.ext hx KX.out.1.size); clear hx)
              try go_ret
              exact hD.out _ _ ⟨rfl, KT.out.1⟩

set_option maxRecDepth 100000 in
theorem law_clientTries {H : Type} {enc : TypeId × Value → H} (W : World) (base : Nat) (args : Array Value) (ds : List (DataW H)) (p : List MemPlace)
    (hval : ∀ (j : Nat) t v, Try.f3.params[j]? = some t → args[j]? = some v → Value.okWide Try.prog W .any base t v)
    (hA : DataW.TrodAll enc Try.prog W 0 (fun _ => true) true Try.f3.params.toList args.toList ds p) :
    Calls Try.prog 3 args W fun e W' => e = .returned (.bool true) ∧ Below W.heap.size W W' := by
  rw [Try.params3] at hA hval
  obtain ⟨v0, vs0, d0, ds0, p0, q0, hargs, rfl, rfl, h0, r0⟩ := trodAll_cons hA
  obtain ⟨v1, vs1, d1, ds1, p1, q1, rfl, rfl, rfl, h1, r1⟩ := trodAll_cons r0
  obtain ⟨rfl, rfl, rfl⟩ := trodAll_nil r1
  obtain rfl : args = #[v0, v1] := by cases args; simp_all
  obtain ⟨a0, rfl, rfl, rfl, w0⟩ := open_int Try.underlying3 (hval 0 3 v0 rfl rfl) h0
  obtain ⟨A1, n1, c1, rfl⟩ := okWide_slice Try.underlying22 (hval 1 22 v1 rfl rfl)
  obtain ⟨fuel1, hf1⟩ := h1
  obtain ⟨B1, e1, l1, hcs1, x1, y1, z1, g1⟩ := trod_ints_sl Try.underlying22 Try.underlying3 cells_int hf1
  simp only [Value.cells, List.cons.injEq, Value.slice.injEq, and_true] at hcs1
  obtain ⟨rfl, rfl, rfl⟩ := hcs1
  exact walk_clientTries a0 A1 c1 l1 W (Nat.le_trans x1 y1) z1

end Go.Proofs.Ytdbnaflaobncgaa
