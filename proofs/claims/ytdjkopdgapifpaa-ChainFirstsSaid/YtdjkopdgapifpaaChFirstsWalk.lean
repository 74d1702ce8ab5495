/-
  The walk of the law ChainFirsts.
-/
import Derived.Test.YtdjkopdgapifpaaChPlain2
namespace Go.Proofs.Ytdjkopdgapifpaa
set_option linter.unusedVariables false
set_option linter.unusedSimpArgs false
open Go.RowKit Go.ChangeShapes Go.WideShapes

/-- the chain that stands between two rounds -/
structure CI (w wr : World) (P : Nat) (ep : Int) (A : Option Addr) (cap : Nat) (L : List Int) (K : Int) (m : Nat) : Prop where
  low : Below w.heap.size w wr
  blk : Blk wr P 50 #[.int .i64 ep, .slice A L.length cap]
  sl : Sl i64 wr A L
  cap_ : L.length ≤ cap
  may : mayChainB ep L = true
  ep_ : ep ≤ 1 + m
  all : ∀ x ∈ L, 0 ≤ x ∧ x < K
  apart : ∀ a, A = some a → a.block ≠ P

theorem CI.stay {w wr W : World} {P : Nat} {ep : Int} {A : Option Addr} {cap : Nat} {L : List Int} {K : Int} {m m' : Nat} (h : CI w wr P ep A cap L K m) (hx : Ext wr W) (hm : m ≤ m') : CI w W P ep A cap L K m' :=
  ⟨Below.trans h.low (Below.mono hx h.low.size), h.blk.stay hx, h.sl.stay hx, h.cap_, h.may, by have := h.ep_; omega, h.all, h.apart⟩
theorem upTo_get (n j : Nat) (h : j < n) : (upTo n)[j]'(by rw [upTo_len]; exact h) = (j : Int) := by simp [upTo]
theorem upTo_nodup (n : Nat) : (upTo n).Nodup := by
  unfold upTo
  rw [List.Nodup, List.pairwise_map]
  exact List.nodup_range.imp (fun h e => h (by omega))
theorem upTo_mem {n : Nat} {x : Int} : x ∈ upTo n ↔ 0 ≤ x ∧ x < n := by
  unfold upTo
  rw [List.mem_map]
  constructor
  · rintro ⟨i, hi, rfl⟩
    have := List.mem_range.1 hi
    omega
  · rintro ⟨h1, h2⟩
    exact ⟨x.toNat, List.mem_range.2 (by omega), by omega⟩
theorem upTo_above (n j : Nat) (h : j < n) : besideI (upTo n) j (-1) = (j : Int) - 1 := by
  have e := above_at (upTo_nodup n) j (by rw [upTo_len]; exact h)
  rw [upTo_get n j h] at e
  rw [e]
  split
  · rw [upTo_get n (j - 1) (by omega)]; omega
  · omega
theorem upTo_may (n : Nat) (h1 : 1 ≤ n) (h5 : n ≤ 5) : mayChainB 1 (upTo n) = true :=
  mayChain_mk (by omega) (by rw [upTo_len]; omega) (upTo_nodup n) (fun x hx => by have := upTo_mem.1 hx; omega)

set_option maxRecDepth 8000 in
set_option maxHeartbeats 32000000 in
theorem walk_chainFirsts (n : Int) (G : Option Addr) (c2 : Nat) (lg : List Int) (w : World) (l2 : lg.length ≤ 9223372036854775807) (hs2 : Sl i64 w G lg) :
    Calls Try.prog 10 #[.int .i64 n, .slice G lg.length c2] w fun e w' => e = .returned (.bool true) ∧ Below w.heap.size w w' := by
  refine hide_post fun D hD => ?_
  have HTO : Hid (∀ V, Calls Try.prog 45 #[] V fun e w' => e = .returned (.bool true) ∧ Ext V w') := fun V => told12 V
  have HSG : Hid (∀ V, Below w.heap.size w V → Sl i64 V G lg) := fun V h => hs2.stay h
  clear hs2
  obtain ⟨q0, q1⟩ := umod_bd n 5 (by omega) (by omega)
  go_enter Try.func10, Try.ntmps10
  go_wp2_with fail
  generalize hq : wrap64 ((IntKind.u64.wrap n).tmod 5) = q at *
  clear hq
  obtain ⟨K, hK⟩ : ∃ K : Int, K = 1 + q := ⟨_, rfl⟩
  have k1 : 1 ≤ K := by omega
  have k5 : K ≤ 5 := by omega
  rw [← hK]
  clear hK q0 q1
  have hkn : ((K.toNat : Nat) : Int) = K := by omega
  have HKN := Lib.hid hkn
  have HF : Hid (∀ V, Calls Try.prog 37 #[.int .i64 K] V fun e w' => ∃ A c, e = .returned (.tuple #[.agg #[.int .i64 1, .slice A K.toNat c], .int .i64 0]) ∧ Sl i64 w' A (upTo K.toNat) ∧ K.toNat ≤ c ∧ Ext V w' ∧ ∀ a, A = some a → V.heap.size ≤ a.block) := fun V =>
    (chFirst_any K V).mono fun e w' ⟨A, c, he, hs, hc, hx, hf⟩ => by
      simp only [firstL, if_pos (show 1 ≤ K ∧ K ≤ 5 from ⟨k1, k5⟩)] at he hs hc
      rw [upTo_len] at he hc
      exact ⟨A, c, he, hs, hc, hx, hf⟩
  obtain ⟨kn, hkn2⟩ : ∃ kn, kn = K.toNat := ⟨_, rfl⟩
  rw [← hkn2] at hkn HF HKN
  clear hkn2
  have kn1 : 1 ≤ kn := by omega
  have kn5 : kn ≤ 5 := by omega
  clear hkn
  go_at_call 37
  with_reducible refine (HF.out _).mono ?_
  rintro e w1 ⟨A1, cap1, rfl, hs1, hc1, hx1, hf1⟩
  have hlt1 : w.heap.size ≤ w1.heap.size := hx1.size
  obtain ⟨wl, hwl⟩ : ∃ wl, wl = w1.alloc (.cells #[.int .i64 1, .slice A1 kn cap1] 50) := ⟨_, rfl⟩
  have hlow : Below w.heap.size w wl := by rw [hwl]; exact Ext.trans hx1 (ext_al _ _)
  have kB : Blk wl w1.heap.size 50 #[.int .i64 1, .slice A1 kn cap1] := by rw [hwl]; exact Blk.new w1 _ _
  have hsl : Sl i64 wl A1 (upTo kn) := by rw [hwl]; exact hs1.stay (ext_al _ _)
  have hap : ∀ a, A1 = some a → a.block ≠ w1.heap.size := fun a ha => by
    subst ha
    obtain ⟨b, o, e, hc⟩ := hs1.at_ (k := 0) (by rw [upTo_len]; omega)
    injection e with e
    subst e
    have := World.block_lt_of_cell? _ _ hc
    simp at this ⊢
    omega
  have HCI : Hid (CI w wl w1.heap.size 1 A1 cap1 (upTo kn) K 0) := ⟨hlow, by rw [upTo_len]; exact kB, hsl, by rw [upTo_len]; exact hc1, upTo_may kn kn1 kn5, by omega, fun x hx => by have := upTo_mem.1 hx; have := HKN.out; omega, hap⟩
  have HSL := Lib.hid hsl
  have HKB := Lib.hid kB
  have HLW := Lib.hid hlow
  have HWL := Lib.hid hwl
  clear hs1 hx1 hf1 hlow kB hsl hap hwl HF
  have hknI : (K == (kn : Int)) = true := by rw [beq_iff_eq]; exact HKN.out.symm
  have hknI2 : ((kn : Int) == K) = true := by rw [beq_iff_eq]; exact HKN.out
  have hknJ : (bne (kn : Int) K) = false := by rw [bne, hknI2]; rfl
  go_wp2_with fail
  rw [← HWL.out]
  clear hknI hknI2 hknJ
  go_loopw [8] (fun i wr => ∃ j : Nat, (j : Int) ≤ K ∧ i = .int .i64 j ∧ Ext wl wr) (fun i _ => (K - intOf i).toNat)
  case atStart => exact ⟨0, by omega, rfl, Ext.refl _⟩
  case round =>
    obtain ⟨j, hj, rfl, hr⟩ := hrel
    by_cases hlt : (j : Int) < K
    · have hjn : j < kn := by have := HKN.out; omega
      obtain ⟨b, o, rfl, hcell⟩ := (HSL.out.stay hr).at_ (k := j) (by rw [upTo_len]; exact hjn)
      rw [upTo_get kn j hjn] at hcell
      unfold i64 at hcell
      have c0 := (HKB.out.stay hr).cell 0
      have c1 := (HKB.out.stay hr).cell 1
      simp at c0 c1
      have HA : Hid (∀ V, Ext wl V → Calls Try.prog 38 #[.agg #[.int .i64 1, .slice (some ⟨b, o, none⟩) kn cap1], .int .i64 j] V fun e w' => e = .returned (.int .i64 ((j : Int) - 1)) ∧ Ext V w') := fun V h => by
        have := above_any 1 j (some ⟨b, o, none⟩) cap1 (upTo kn) V (by rw [upTo_len]; omega) (HSL.out.stay h)
        rwa [upTo_above kn j hjn, upTo_len] at this
      have HH : Hid (∀ V, Ext wl V → Calls Try.prog 39 #[.agg #[.int .i64 1, .slice (some ⟨b, o, none⟩) kn cap1], .int .i64 K] V fun e w' => e = .returned (.bool false) ∧ Ext V w') := fun V h => by
        have := has_any 1 (some ⟨b, o, none⟩) cap1 (upTo kn) K V (by rw [upTo_len]; omega) (HSL.out.stay h)
        rwa [decide_eq_false (fun h => by have := upTo_mem.1 h; have := HKN.out; omega), upTo_len] at this
      have hjl : (j : Int) < (kn : Int) := by omega
      go_wp2_with (first
        | (go_at_call 38; (with_reducible refine (HA.out _ hr).mono ?_); rintro e w5 ⟨rfl, hx⟩; have h5 : Ext wl w5 := Ext.trans hr hx; clear hx; have d0 := (HKB.out.stay h5).cell 0; have d1 := (HKB.out.stay h5).cell 1; simp at d0 d1)
        | (go_at_call 39; (with_reducible refine (HH.out _ h5).mono ?_); rintro e w6 ⟨rfl, hx⟩; have h6 : Ext wl w6 := Ext.trans h5 hx; clear hx))
      go_roundw
      case rel => exact ⟨j + 1, by omega, by go_num, h6⟩
      case measure => simp [intOf]; omega
    · have HCI2 : Hid (CI w wr w1.heap.size 1 A1 cap1 (upTo kn) K 0) := ⟨Below.trans HLW.out (Below.mono hr HLW.out.size), HCI.out.blk.stay hr, HCI.out.sl.stay hr, HCI.out.cap_, HCI.out.may, HCI.out.ep_, HCI.out.all, HCI.out.apart⟩
      have hbg : w1.heap.size < wr.heap.size := by have := HCI2.out.blk.lt; exact this
      clear HCI HSL HKB HLW HWL hr
      go_wp2
      obtain ⟨ws, rfl⟩ : ∃ ws : World, ws = wr := ⟨_, rfl⟩
      go_loopw [9] (fun i wr => ∃ m : Nat, m ≤ lg.length ∧ m ≤ 20 ∧ i = .int .i64 m ∧ w1.heap.size < wr.heap.size ∧ Hid (∃ ep A cap L, CI w wr w1.heap.size ep A cap L K m)) (fun i _ => lg.length - (intOf i).toNat)
      case atStart => exact ⟨0, by omega, by omega, rfl, hbg, _, _, _, _, HCI2.out⟩
      case round =>
        obtain ⟨m, hm, hm20, rfl, hbw, HX⟩ := hrel
        clear HCI2 hbg
        by_cases hgo : m < lg.length ∧ m < 20
        · obtain ⟨hml, hm2⟩ := hgo
          obtain ⟨ep, A, cap, L, hC⟩ := HX.out
          obtain ⟨b, o, rfl, hcell⟩ := (HSG.out _ hC.low).at_ (k := m) hml
          generalize lg[m] = v at *
          unfold i64 at hcell
          have hml2 : (m : Int) < (lg.length : Int) := by omega
          obtain ⟨⟨e0, e1⟩, ⟨n0, n1⟩, nd, ns⟩ := mayChain_all hC.may
          have e2 := hC.ep_
          have hcap := hC.cap_
          have a0 := hC.blk.cell 0
          have a1 := hC.blk.cell 1
          simp at a0 a1
          have hku : IntKind.u64.wrap K = K := IntWalk.u64_in _ (by omega)
          have HC := Lib.hid hC
          have HND := Lib.hid nd
          obtain ⟨x0, x1⟩ := umod_bd v K (by omega) (by omega)
          clear hC nd ns HX
          go_wp2_with fail
          generalize hxx : wrap64 ((IntKind.u64.wrap v).tmod K) = x at *
          clear hxx hku
          have hlw : w1.heap.size < wr.heap.size := hbw
          by_cases hxL : x ∈ L
          · have hwno : withL ep L x = noCh := by unfold withL; split <;> simp [chOk, may_twice hxL]
            have HW1 : Hid (Calls Try.prog 40 #[.agg #[.int .i64 ep, .slice A L.length cap], .int .i64 x] wr fun e w' => ∃ A0 c0, e = .returned (.tuple #[.agg #[.int .i64 0, .slice A0 0 c0], .int .i64 1]) ∧ Ext wr w') := by
              refine (with_any ep x A cap L wr (by omega) hcap HC.out.sl).mono fun e w' ⟨A2, cc, he, hs, hc, hx, hf⟩ => ?_
              rw [hwno] at he
              exact ⟨A2, cc, he, hx⟩
            have HL1 := Lib.hid (left_one HND.out hxL)
            have HLM := Lib.hid (leftL_may (gone := [x]) HC.out.may (by omega))
            have HXL := Lib.hid hxL
            have HWO : Hid (∀ W g, Ext wr W → Blk W g 3 #[.int .i64 x] → Calls Try.prog 41 #[.agg #[.int .i64 ep, .slice A L.length cap], .slice (some ⟨g, 0, none⟩) 1 1] W (ChRes W (if leftL L [x] = [] then noCh else (ep + 1, leftL L [x], 0)))) := fun W g h hb => by
              have := without_any ep A (some ⟨g, 0, none⟩) cap 1 L [x] W (by omega) hcap (by simp) (HC.out.sl.stay h) (Sl.of_blk hb (fun j v hj => by match j, hj with | 0, hj => (simp at hj; subst hj; rfl)))
              rwa [withoutL, if_pos HC.out.may, HLM.out] at this
            go_at_call 40
            with_reducible refine HW1.out.mono ?_
            rintro e w2 ⟨A0, c0, rfl, hx2⟩
            obtain ⟨W3, hW3⟩ : ∃ W3, W3 = w2.alloc (.cells #[.int .i64 0, .slice A0 0 c0] 50) := ⟨_, rfl⟩
            have HX3 : Hid (Ext wr W3) := (by (show Ext _ _); rw [hW3]; exact Ext.trans hx2 (ext_al _ _))
            have KD3 : Hid (Blk W3 w2.heap.size 50 #[.int .i64 0, .slice A0 0 c0]) := (by (show Blk _ _ _ _); rw [hW3]; exact Blk.new w2 _ _)
            have hz3 : w2.heap.size < W3.heap.size := by rw [hW3]; simp
            have HW3 := Lib.hid hW3
            have hw2 : wr.heap.size ≤ w2.heap.size := hx2.size
            have ea0 : ∀ o, (w2.alloc o).cell? ⟨w1.heap.size, 0, none⟩ = some (.int .i64 ep) := fun o => ((HC.out.blk.stay hx2).alloc o).cell 0
            have ea1 : ∀ o, (w2.alloc o).cell? ⟨w1.heap.size, 1, none⟩ = some (.slice A L.length cap) := fun o => ((HC.out.blk.stay hx2).alloc o).cell 1
            have HHA : Hid (Calls Try.prog 39 #[.agg #[.int .i64 ep, .slice A L.length cap], .int .i64 x] W3 fun e w' => e = .returned (.bool true) ∧ Ext W3 w') := by
              have := has_any ep A cap L x W3 (by omega) (HC.out.sl.stay HX3.out)
              rwa [decide_eq_true HXL.out] at this
            clear hW3 hx2 HW1 hcell hxL hwno
            go_wp2_with (go_at_call 39; rw [← HW3.out]; (with_reducible refine HHA.out.mono ?_); rintro e w5 ⟨rfl, hx⟩; have X5 := Lib.hid hx; have eb0 := (HC.out.blk.stay (Ext.trans HX3.out hx)).cell 0; have eb1 := (HC.out.blk.stay (Ext.trans HX3.out hx)).cell 1; clear hx; simp at eb0 eb1)
            obtain ⟨W6, hW6⟩ : ∃ W6, W6 = w5.alloc (.cells #[.int .i64 x] 3) := ⟨_, rfl⟩
            have hX36 : Ext W3 W6 := by rw [hW6]; exact Ext.trans X5.out (ext_al _ _)
            have hB6 : Blk W6 w5.heap.size 3 #[.int .i64 x] := by rw [hW6]; exact Blk.new w5 _ _
            have HX6 : Hid (Ext wr W6) := Ext.trans HX3.out hX36
            have HWO1 := Lib.hid (HWO.out W6 w5.heap.size HX6.out hB6)
            have KD6 := Lib.hid (KD3.out.stay hX36)
            have hz6 : w2.heap.size < W6.heap.size := Nat.lt_of_lt_of_le hz3 hX36.size
            rw [← hW6]
            clear hW6 hX36 hB6 HWO HHA HW3 eb0 eb1 X5 KD3 ea0 ea1
            by_cases hl : leftL L [x] = []
            · have hw := HWO1.out
              rw [if_pos hl] at hw
              have hl1 := HL1.out
              rw [hl] at hl1
              have hlen : ¬ (1 : Int) < (L.length : Int) := by simp at hl1; omega
              have HW2 : Hid (Calls Try.prog 41 #[.agg #[.int .i64 ep, .slice A L.length cap], .slice (some ⟨w5.heap.size, 0, none⟩) 1 1] W6 fun e w' => ∃ A7 c7, e = .returned (.tuple #[.agg #[.int .i64 0, .slice A7 0 c7], .int .i64 1]) ∧ Ext W6 w') :=
                hw.mono fun e w' ⟨A2, cc, he, hs, hc, hx, hf⟩ => ⟨A2, cc, he, hx⟩
              clear hw hl1 hl HWO1 HL1 HLM
              go_at_call 41
              with_reducible refine HW2.out.mono ?_
              rintro e w7 ⟨A7, c7, rfl, hx7⟩
              have q0 := (KD6.out.stay hx7).cell 0
              have q1 := (KD6.out.stay hx7).cell 1
              have q2 := (KD6.out.stay hx7).frozen 0
              have q3 := (KD6.out.stay hx7).frozen 1
              have KC7 := HC.out.blk.stay (Ext.trans HX6.out hx7)
              have r1 := ((KC7.far (p := ⟨w2.heap.size, 0, none⟩) (show w1.heap.size ≠ w2.heap.size by omega) (.int .i64 0)).far (p := ⟨w2.heap.size, 1, none⟩) (show w1.heap.size ≠ w2.heap.size by omega) (.slice A7 0 c7)).cell 1
              simp at q0 q1 r1
              have hX7 : Ext wr ((w7.setCell ⟨w2.heap.size, 0, none⟩ (.int .i64 0)).setCell ⟨w2.heap.size, 1, none⟩ (.slice A7 0 c7)) := ((Ext.trans HX6.out hx7).setCell (p := ⟨w2.heap.size, 0, none⟩) hw2 _).setCell (p := ⟨w2.heap.size, 1, none⟩) hw2 _
              have HCN := Lib.hid (HC.out.stay hX7 (m' := m + 1) (by omega))
              have hbz : w1.heap.size < ((w7.setCell ⟨w2.heap.size, 0, none⟩ (.int .i64 0)).setCell ⟨w2.heap.size, 1, none⟩ (.slice A7 0 c7)).heap.size := Nat.lt_of_lt_of_le hlw hX7.size
              clear hx7 hX7 KC7
              go_wp2_with fail
              go_roundw
              case rel => exact ⟨m + 1, by omega, by omega, by go_num, by simpa using hbz, _, _, _, _, HCN.out⟩
              case measure => simp [intOf]; omega
            · have hw := HWO1.out
              rw [if_neg hl] at hw
              have hl1 := HL1.out
              have hlp := List.length_pos_iff.2 hl
              have hlen : (1 : Int) < (L.length : Int) := by omega
              have HW2 : Hid (Calls Try.prog 41 #[.agg #[.int .i64 ep, .slice A L.length cap], .slice (some ⟨w5.heap.size, 0, none⟩) 1 1] W6 fun e w' => ∃ A2 cap2, e = .returned (.tuple #[.agg #[.int .i64 (ep + 1), .slice A2 (leftL L [x]).length cap2], .int .i64 0]) ∧ Sl i64 w' A2 (leftL L [x]) ∧ (leftL L [x]).length ≤ cap2 ∧ Ext W6 w' ∧ ∀ a, A2 = some a → W6.heap.size ≤ a.block) := hw
              have HNX : Hid (nextB ep (ep + 1) L (leftL L [x]) K = true) := next_left HC.out.may (by omega) HC.out.all hl
              have HM2 : Hid (mayChainB (ep + 1) (leftL L [x]) = true) := (nextB_all HNX.out).2.1
              have HALL : Hid (∀ y ∈ leftL L [x], 0 ≤ y ∧ y < K) := fun y hy => HC.out.all y (List.mem_filter.1 hy).1
              clear hw hl1 hl hlp HWO1 HLM
              generalize leftL L [x] = L2 at *
              obtain ⟨N, hN⟩ : ∃ N, L2.length = N := ⟨_, rfl⟩
              rw [hN] at HW2
              have HLN := Lib.hid hN
              have HN5 : Hid (N ≤ 100) := by (show _ ≤ _); have := HL1.out; omega
              clear HL1
              go_at_call 41
              with_reducible refine HW2.out.mono ?_
              rintro e w7 ⟨A2, cap2, rfl, hsB, hcB, hx7, hf2⟩
              clear hN
              have q0 := (KD6.out.stay hx7).cell 0
              have q1 := (KD6.out.stay hx7).cell 1
              have q2 := (KD6.out.stay hx7).frozen 0
              have q3 := (KD6.out.stay hx7).frozen 1
              have KC7 := HC.out.blk.stay (Ext.trans HX6.out hx7)
              have kr := ((KC7.far (p := ⟨w2.heap.size, 0, none⟩) (show w1.heap.size ≠ w2.heap.size by omega) (.int .i64 (ep + 1))).far (p := ⟨w2.heap.size, 1, none⟩) (show w1.heap.size ≠ w2.heap.size by omega) (.slice A2 N cap2))
              have r0 := kr.cell 0
              have r1 := kr.cell 1
              simp at q0 q1 r0 r1
              have hX7 : Ext wr ((w7.setCell ⟨w2.heap.size, 0, none⟩ (.int .i64 (ep + 1))).setCell ⟨w2.heap.size, 1, none⟩ (.slice A2 N cap2)) := ((Ext.trans HX6.out hx7).setCell (p := ⟨w2.heap.size, 0, none⟩) hw2 _).setCell (p := ⟨w2.heap.size, 1, none⟩) hw2 _
              obtain ⟨V, hV⟩ : ∃ V, V = (w7.setCell ⟨w2.heap.size, 0, none⟩ (.int .i64 (ep + 1))).setCell ⟨w2.heap.size, 1, none⟩ (.slice A2 N cap2) := ⟨_, rfl⟩
              have HXV : Hid (Ext wr V) := (by (show Ext _ _); rw [hV]; exact hX7)
              have KD : Hid (Blk V w2.heap.size 50 #[.int .i64 (ep + 1), .slice A2 N cap2]) := (by (show Blk _ _ _ _); rw [hV]; exact ((KD6.out.stay hx7).set 0 _).set 1 _)
              have SB : Hid (Sl i64 V A2 L2) := (by
                show Sl _ _ _ _
                rw [hV]
                rcases A2 with _ | a2
                · intro q v hv
                  obtain ⟨b, o, e, _⟩ := hsB q v hv
                  cases e
                · exact (hsB.far (show a2.block ≠ w2.heap.size by have := hf2 a2 rfl; omega) _).far (show a2.block ≠ w2.heap.size by have := hf2 a2 rfl; omega) _)
              have C2h := hcB
              have HFR : Hid (∀ a, A2 = some a → a.block ≠ w1.heap.size) := fun a ha => by have := hf2 a ha; have := hX7.size; have := hx7.size; have := HX6.out.size; omega
              have HV := Lib.hid hV
              clear hV hsB hcB hf2 hx7 hX7 KC7 kr
              have SA := Lib.hid (HC.out.sl.stay HXV.out)
              have KC := Lib.hid (HC.out.blk.stay HXV.out)
              have HN1 : Hid (∀ W, Ext V W → Calls Try.prog 43 #[.agg #[.int .i64 ep, .slice A L.length cap], .agg #[.int .i64 (ep + 1), .slice A2 N cap2], .int .i64 K] W fun e w' => e = .returned (.bool true) ∧ Ext W w') := fun W h => by
                have := chNext_any ep (ep + 1) K A A2 cap cap2 L L2 W (by omega) (by have := HLN.out; have := HN5.out; omega) hcap (by rw [HLN.out]; exact C2h) (SA.out.stay h) (SB.out.stay h)
                rwa [HNX.out, HLN.out] at this
              have HN2 : Hid (∀ W, Ext V W → Calls Try.prog 43 #[.agg #[.int .i64 (ep + 1), .slice A2 N cap2], .agg #[.int .i64 ep, .slice A L.length cap], .int .i64 K] W fun e w' => e = .returned (.bool false) ∧ Ext W w') := fun W h => by
                have := chNext_any (ep + 1) ep K A2 A cap2 cap L2 L W (by have := HLN.out; have := HN5.out; omega) (by omega) (by rw [HLN.out]; exact C2h) hcap (SB.out.stay h) (SA.out.stay h)
                rwa [next_back (by omega), HLN.out] at this
              have HRM : Hid (∀ W, Ext V W → Calls Try.prog 44 #[.agg #[.int .i64 (ep + 1), .slice A2 N cap2]] W fun e w' => e = .returned (.bool true) ∧ Ext W w') := fun W h => by
                have := refMayChain_any (ep + 1) A2 cap2 L2 W (by have := HLN.out; have := HN5.out; omega) (SB.out.stay h)
                rwa [HM2.out, HLN.out] at this
              have fc0 : ∀ W, Ext V W → W.cell? ⟨w1.heap.size, 0, none⟩ = some (.int .i64 ep) := fun W h => (KC.out.stay h).cell 0
              have fc1 : ∀ W, Ext V W → W.cell? ⟨w1.heap.size, 1, none⟩ = some (.slice A L.length cap) := fun W h => (KC.out.stay h).cell 1
              have fc2 : ∀ W, Ext V W → W.frozen? ⟨w1.heap.size, 0, none⟩ = false := fun W h => (KC.out.stay h).frozen 0
              have fc3 : ∀ W, Ext V W → W.frozen? ⟨w1.heap.size, 1, none⟩ = false := fun W h => (KC.out.stay h).frozen 1
              have fd0 : ∀ W, Ext V W → W.cell? ⟨w2.heap.size, 0, none⟩ = some (.int .i64 (ep + 1)) := fun W h => (KD.out.stay h).cell 0
              have fd1 : ∀ W, Ext V W → W.cell? ⟨w2.heap.size, 1, none⟩ = some (.slice A2 N cap2) := fun W h => (KD.out.stay h).cell 1
              have hne : (w1.heap.size == w2.heap.size) = false := by rw [beq_eq_false_iff_ne]; omega
              go_wp2_with (first
                | (go_at_call 43; rw [← HV.out]; (with_reducible refine (HN1.out _ (Ext.refl _)).mono ?_); rintro e w7 ⟨rfl, hx⟩; have h7 : Ext V w7 := hx; clear hx)
                | (go_at_call 44; (with_reducible refine (HRM.out _ h7).mono ?_); rintro e w8 ⟨rfl, hx⟩; have h8 : Ext V w8 := Ext.trans h7 hx; clear hx)
                | (go_at_call 43; (with_reducible refine (HN2.out _ h8).mono ?_); rintro e w9 ⟨rfl, hx⟩; have h9 : Ext V w9 := Ext.trans h8 hx; clear hx))
              have hEV := h9
              have HCN : Hid (CI w ((w9.setCell ⟨w1.heap.size, 0, none⟩ (.int .i64 (ep + 1))).setCell ⟨w1.heap.size, 1, none⟩ (.slice A2 N cap2)) w1.heap.size (ep + 1) A2 cap2 L2 K (m + 1)) := by
                have hF : Frm (fun k => k = w1.heap.size) w9 ((w9.setCell ⟨w1.heap.size, 0, none⟩ (.int .i64 (ep + 1))).setCell ⟨w1.heap.size, 1, none⟩ (.slice A2 N cap2)) := Frm.tr (Frm.of_set _ _ _ rfl) (Frm.of_set _ _ _ rfl)
                have hlo : Below w.heap.size w w9 := Below.trans HC.out.low (Below.mono (Ext.trans HXV.out hEV) HC.out.low.size)
                refine ⟨hlo.trans (hF.below hlo.size (by rintro k e; omega)), ?_, ?_, by rw [HLN.out]; exact C2h, HM2.out, by have := HC.out.ep_; omega, HALL.out, HFR.out⟩
                · rw [HLN.out]; exact ((KC.out.stay hEV).set 0 _).set 1 _
                · have h1 := SB.out.stay hEV
                  rcases A2 with _ | a2
                  · intro q v hv
                    obtain ⟨b, o, e, _⟩ := h1 q v hv
                    cases e
                  · exact Sl.frm h1 hF (HFR.out a2 rfl)
              go_roundw
              case rel => exact ⟨m + 1, by omega, by omega, by go_num, by have := h9.size; have := HXV.out.size; simp; omega, _, _, _, _, HCN.out⟩
              case measure => simp [intOf]; omega
          · have hm2 := may_more HC.out.may (by omega) (show 0 ≤ x ∧ x ≤ 4 by omega) hxL
            have hwy : withL ep L x = (ep + 1, L ++ [x], 0) := by unfold withL; rw [if_pos HC.out.may, chOk, if_pos hm2]
            have HW1 : Hid (Calls Try.prog 40 #[.agg #[.int .i64 ep, .slice A L.length cap], .int .i64 x] wr fun e w' => ∃ A2 cap2, e = .returned (.tuple #[.agg #[.int .i64 (ep + 1), .slice A2 (L.length + 1) cap2], .int .i64 0]) ∧ Sl i64 w' A2 (L ++ [x]) ∧ L.length + 1 ≤ cap2 ∧ Ext wr w' ∧ ∀ a, A2 = some a → wr.heap.size ≤ a.block) := by
              refine (with_any ep x A cap L wr (by omega) hcap HC.out.sl).mono fun e w' ⟨A2, cc, he, hs, hc, hx, hf⟩ => ?_
              rw [hwy] at he hs hc
              simp only [List.length_append, List.length_cons, List.length_nil, Nat.zero_add] at he hc
              exact ⟨A2, cc, he, hs, hc, hx, hf⟩
            have HNX : Hid (nextB ep (ep + 1) L (L ++ [x]) K = true) := next_more HC.out.may hm2 HC.out.all (by omega)
            have HALL : Hid (∀ y ∈ L ++ [x], 0 ≤ y ∧ y < K) := fun y hy => by
              rcases List.mem_append.1 hy with hy | hy
              · exact HC.out.all y hy
              · simp at hy; subst hy; omega
            have HM2 := Lib.hid hm2
            have HLN : Hid ((L ++ [x]).length = L.length + 1) := by (show _ = _); simp
            have HN5 : Hid (L.length + 1 ≤ 100) := by (show _ ≤ _); omega
            have HTLI := Lib.hid (tail_more L x)
            have HXL := Lib.hid hxL
            clear hm2 hwy hxL
            generalize L ++ [x] = L2 at *
            go_at_call 40
            with_reducible refine HW1.out.mono ?_
            rintro e w2 ⟨A2, cap2, rfl, hsB, hcB, hx2, hf2⟩
            obtain ⟨V, hV⟩ : ∃ V, V = w2.alloc (.cells #[.int .i64 (ep + 1), .slice A2 (L.length + 1) cap2] 50) := ⟨_, rfl⟩
            have HXV : Hid (Ext wr V) := (by (show Ext _ _); rw [hV]; exact Ext.trans hx2 (ext_al _ _))
            have KD : Hid (Blk V w2.heap.size 50 #[.int .i64 (ep + 1), .slice A2 (L.length + 1) cap2]) := (by (show Blk _ _ _ _); rw [hV]; exact Blk.new w2 _ _)
            have SB : Hid (Sl i64 V A2 L2) := (by (show Sl _ _ _ _); rw [hV]; exact hsB.stay (ext_al _ _))
            have C2h := hcB
            have HFR : Hid (∀ a, A2 = some a → a.block ≠ w1.heap.size) := fun a ha => by have := hf2 a ha; omega
            have HV := Lib.hid hV
            have hw2 : wr.heap.size ≤ w2.heap.size := hx2.size
            have ea0 : ∀ o, (w2.alloc o).cell? ⟨w1.heap.size, 0, none⟩ = some (.int .i64 ep) := fun o => ((HC.out.blk.stay hx2).alloc o).cell 0
            have ea1 : ∀ o, (w2.alloc o).cell? ⟨w1.heap.size, 1, none⟩ = some (.slice A L.length cap) := fun o => ((HC.out.blk.stay hx2).alloc o).cell 1
            clear hV hsB hcB hf2 hx2 HW1 hcell
            obtain ⟨N, hN⟩ : ∃ N, N = L.length + 1 := ⟨_, rfl⟩
            rw [← hN] at HLN HN5 KD C2h HV ⊢
            have HHA : Hid (∀ W, Ext V W → Calls Try.prog 39 #[.agg #[.int .i64 ep, .slice A L.length cap], .int .i64 x] W fun e w' => e = .returned (.bool false) ∧ Ext W w') := fun W h => by
              have := has_any ep A cap L x W (by omega) ((HC.out.sl.stay HXV.out).stay h)
              rwa [decide_eq_false HXL.out] at this
            have HTL : Hid (∀ W, Ext V W → Calls Try.prog 42 #[.agg #[.int .i64 (ep + 1), .slice A2 N cap2]] W fun e w' => e = .returned (.int .i64 x) ∧ Ext W w') := fun W h => by
              have := tail_any (ep + 1) A2 cap2 L2 W (by have := HLN.out; have := HN5.out; omega) (SB.out.stay h)
              rwa [HTLI.out, HLN.out] at this
            clear hN
            have SA := Lib.hid (HC.out.sl.stay HXV.out)
            have KC := Lib.hid (HC.out.blk.stay HXV.out)
            have HN1 : Hid (∀ W, Ext V W → Calls Try.prog 43 #[.agg #[.int .i64 ep, .slice A L.length cap], .agg #[.int .i64 (ep + 1), .slice A2 N cap2], .int .i64 K] W fun e w' => e = .returned (.bool true) ∧ Ext W w') := fun W h => by
              have := chNext_any ep (ep + 1) K A A2 cap cap2 L L2 W (by omega) (by have := HLN.out; have := HN5.out; omega) hcap (by rw [HLN.out]; exact C2h) (SA.out.stay h) (SB.out.stay h)
              rwa [HNX.out, HLN.out] at this
            have HN2 : Hid (∀ W, Ext V W → Calls Try.prog 43 #[.agg #[.int .i64 (ep + 1), .slice A2 N cap2], .agg #[.int .i64 ep, .slice A L.length cap], .int .i64 K] W fun e w' => e = .returned (.bool false) ∧ Ext W w') := fun W h => by
              have := chNext_any (ep + 1) ep K A2 A cap2 cap L2 L W (by have := HLN.out; have := HN5.out; omega) (by omega) (by rw [HLN.out]; exact C2h) hcap (SB.out.stay h) (SA.out.stay h)
              rwa [next_back (by omega), HLN.out] at this
            have HRM : Hid (∀ W, Ext V W → Calls Try.prog 44 #[.agg #[.int .i64 (ep + 1), .slice A2 N cap2]] W fun e w' => e = .returned (.bool true) ∧ Ext W w') := fun W h => by
              have := refMayChain_any (ep + 1) A2 cap2 L2 W (by have := HLN.out; have := HN5.out; omega) (SB.out.stay h)
              rwa [HM2.out, HLN.out] at this
            have fc0 : ∀ W, Ext V W → W.cell? ⟨w1.heap.size, 0, none⟩ = some (.int .i64 ep) := fun W h => (KC.out.stay h).cell 0
            have fc1 : ∀ W, Ext V W → W.cell? ⟨w1.heap.size, 1, none⟩ = some (.slice A L.length cap) := fun W h => (KC.out.stay h).cell 1
            have fc2 : ∀ W, Ext V W → W.frozen? ⟨w1.heap.size, 0, none⟩ = false := fun W h => (KC.out.stay h).frozen 0
            have fc3 : ∀ W, Ext V W → W.frozen? ⟨w1.heap.size, 1, none⟩ = false := fun W h => (KC.out.stay h).frozen 1
            have fd0 : ∀ W, Ext V W → W.cell? ⟨w2.heap.size, 0, none⟩ = some (.int .i64 (ep + 1)) := fun W h => (KD.out.stay h).cell 0
            have fd1 : ∀ W, Ext V W → W.cell? ⟨w2.heap.size, 1, none⟩ = some (.slice A2 N cap2) := fun W h => (KD.out.stay h).cell 1
            have hne : (w1.heap.size == w2.heap.size) = false := by rw [beq_eq_false_iff_ne]; omega
            go_wp2_with (first
              | (go_at_call 39; rw [← HV.out]; (with_reducible refine (HHA.out _ (Ext.refl _)).mono ?_); rintro e w5 ⟨rfl, hx⟩; have h5 : Ext V w5 := hx; clear hx)
              | (go_at_call 42; (with_reducible refine (HTL.out _ h5).mono ?_); rintro e w6 ⟨rfl, hx⟩; have h6 : Ext V w6 := Ext.trans h5 hx; clear hx)
              | (go_at_call 43; (with_reducible refine (HN1.out _ h6).mono ?_); rintro e w7 ⟨rfl, hx⟩; have h7 : Ext V w7 := Ext.trans h6 hx; clear hx)
              | (go_at_call 44; (with_reducible refine (HRM.out _ h7).mono ?_); rintro e w8 ⟨rfl, hx⟩; have h8 : Ext V w8 := Ext.trans h7 hx; clear hx)
              | (go_at_call 43; (with_reducible refine (HN2.out _ h8).mono ?_); rintro e w9 ⟨rfl, hx⟩; have h9 : Ext V w9 := Ext.trans h8 hx; clear hx))
            have hEV := h9
            have HCN : Hid (CI w ((w9.setCell ⟨w1.heap.size, 0, none⟩ (.int .i64 (ep + 1))).setCell ⟨w1.heap.size, 1, none⟩ (.slice A2 N cap2)) w1.heap.size (ep + 1) A2 cap2 L2 K (m + 1)) := by
              have hF : Frm (fun k => k = w1.heap.size) w9 ((w9.setCell ⟨w1.heap.size, 0, none⟩ (.int .i64 (ep + 1))).setCell ⟨w1.heap.size, 1, none⟩ (.slice A2 N cap2)) := Frm.tr (Frm.of_set _ _ _ rfl) (Frm.of_set _ _ _ rfl)
              have hlo : Below w.heap.size w w9 := Below.trans HC.out.low (Below.mono (Ext.trans HXV.out hEV) HC.out.low.size)
              refine ⟨hlo.trans (hF.below hlo.size (by rintro k e; omega)), ?_, ?_, by rw [HLN.out]; exact C2h, HM2.out, by have := HC.out.ep_; omega, HALL.out, HFR.out⟩
              · rw [HLN.out]; exact ((KC.out.stay hEV).set 0 _).set 1 _
              · have h1 := SB.out.stay hEV
                rcases A2 with _ | a2
                · intro q v hv
                  obtain ⟨b, o, e, _⟩ := h1 q v hv
                  cases e
                · exact Sl.frm h1 hF (HFR.out a2 rfl)
            go_roundw
            case rel => exact ⟨m + 1, by omega, by omega, by go_num, by have := h9.size; have := HXV.out.size; simp; omega, _, _, _, _, HCN.out⟩
            case measure => simp [intOf]; omega
        · obtain ⟨ep, A, cap, L, hC⟩ := HX.out
          have HLO := Lib.hid hC.low
          clear hC HX
          by_cases hml : m < lg.length
          all_goals
            go_wp2_with (go_at_call 45; (with_reducible refine (HTO.out _).mono ?_); rintro e w9 ⟨rfl, hx⟩; have H9 := Lib.hid hx; clear hx)
            try go_ret
            exact hD.out _ _ ⟨rfl, Below.trans HLO.out (Below.mono H9.out HLO.out.size)⟩

theorem law_chainFirsts {H : Type} {enc : TypeId × Value → H} (W : World) (base : Nat) (args : Array Value) (ds : List (DataW H)) (p : List MemPlace)
    (hval : ∀ (j : Nat) t v, Try.f10.params[j]? = some t → args[j]? = some v → Value.okWide Try.prog W .any base t v)
    (hA : DataW.TrodAll enc Try.prog W 0 (fun _ => true) true Try.f10.params.toList args.toList ds p) :
    Calls Try.prog 10 args W fun e W' => e = .returned (.bool true) ∧ Below W.heap.size W W' := by
  rw [Try.params10] at hA hval
  obtain ⟨v0, vs0, d0, ds0, p0, q0, hargs, rfl, rfl, h0, r0⟩ := trodAll_cons hA
  obtain ⟨v1, vs1, d1, ds1, p1, q1, rfl, rfl, rfl, h1, r1⟩ := trodAll_cons r0
  obtain ⟨rfl, rfl, rfl⟩ := trodAll_nil r1
  obtain rfl : args = #[v0, v1] := by cases args; simp_all
  obtain ⟨a0, rfl, rfl, rfl, w0⟩ := open_int Try.underlying3 (hval 0 3 v0 rfl rfl) h0
  obtain ⟨A1, n1, c1, rfl⟩ := okWide_slice Try.underlying32 (hval 1 32 v1 rfl rfl)
  obtain ⟨fuel1, hf1⟩ := h1
  obtain ⟨B1, e1, l1, hcs1, x1, y1, z1, g1⟩ := trod_ints_sl Try.underlying32 Try.underlying3 cells_int hf1
  simp only [Value.cells, List.cons.injEq, Value.slice.injEq, and_true] at hcs1
  obtain ⟨rfl, rfl, rfl⟩ := hcs1
  exact walk_chainFirsts a0 A1 c1 l1 W (Nat.le_trans x1 y1) z1

end Go.Proofs.Ytdjkopdgapifpaa
