/-
  The walk of the law TallyOne.
-/
import Derived.Test.YtkdcbidbciognaaOneState
import Derived.Test.YtkdcbidbciognaaNextR
import Derived.Test.YtkdcbidbciognaaOpenOpsTry
import Derived.Deep.Cut
namespace Go.Proofs.Ytkdcbidbciognaa
set_option linter.unusedVariables false
set_option linter.unusedSimpArgs false
open Go.RowKit Go.ChangeShapes Go.WideShapes Go.Joins Go.Deep

theorem info_pacc : (Try.prog.info? 48).map (fun i => (i.zero, i.size, i.bytes)) = some (some (.pointer none), 1, 8) := by kernel_rfl
theorem next_up (r n z : Int) (h0 : 0 ≤ r) (h1 : r ≤ 40) (hm : 0 ≤ n) (hm2 : n < 5) (hz : 0 ≤ z) (hz2 : z < 5) : balNB r n z = true ∧ 0 ≤ nextR r n z ∧ nextR r n z ≤ r + 1 ∧ cmpBal r n (nextR r n z) z < 0 := by
  unfold balNB nextR mayBal cmpBal
  split
  · refine ⟨by simp; omega, by omega, by omega, ?_⟩
    rw [if_pos (by omega)]; omega
  · refine ⟨by simp; omega, by omega, by omega, ?_⟩
    rw [if_neg (by omega), if_neg (by omega), if_pos (by omega)]; omega
theorem prepR_len {v : AV} (K : AOk v) (ep br bn : Int) : (prepR v ep br bn).vns.length ≤ 5 := by
  have h : v.vns.length ≤ 5 := by
    cases hh : v.has with
    | false => rw [(K.no hh).2.2.2]; simp
    | true => exact (may_bds (nextB_bds (K.yes hh).2.2).2.1).2.2.2
  unfold prepR
  split
  · exact h
  · simp
theorem prepR_same {v u : AV} {ep br bn : Int} (h : prepE v ep br bn = 0) (hs : SameA v u) : (prepR v ep br bn).has = u.has ∧ (prepR v ep br bn).ar = u.ar ∧ (prepR v ep br bn).an = u.an ∧ (prepR v ep br bn).vep = u.vep ∧ (prepR v ep br bn).vns = u.vns := by
  unfold prepR
  rw [if_pos h]
  exact hs
def av0 : AV := ⟨5, 1, upTo 5, 0, 0, 0, 0, false, 0, []⟩
theorem av0_ok : AOk av0 := ⟨by decide, by decide, by decide, by decide, by decide, fun _ => ⟨rfl, rfl, rfl, rfl⟩, fun h => by cases h⟩
/-- while the acceptors are made -/
def Made (w wr : World) (s : Value) (ad : Nat → Nat) (j : Nat) : Prop := wr.ownsRow w.heap.size 48 1 s j ((List.range j).map fun k => pA (ad k)) ∧ (∀ k, k < j → AAtS (fun _ => True) wr (ad k) av0 ∧ w.heap.size ≤ ad k) ∧ (∀ k k', k < j → k' < j → k ≠ k' → ad k ≠ ad k') ∧ Ext w wr
theorem Made.ext {w wr : World} {s : Value} {ad : Nat → Nat} {j : Nat} (h : Made w wr s ad j) : Ext w wr := h.2.2.2
theorem grown_ext {w w0 w' : World} {k : Option Nat} (h : w.grownBy w' k) (hk : ∀ x, k = some x → w0.heap.size ≤ x) (hx : Ext w0 w) : Ext w0 w' ∧ Frm (fun x => k = some x) w w' := by
  have hf : Frm (fun x => k = some x) w w' := Frm.of_grown h (fun x e => e.symm)
  exact ⟨Frm.step hx hf hx.size (fun x hx' => hk x hx'), hf⟩
theorem Made.put {w wr W' : World} {s s' : Value} {ad : Nat → Nat} {j a : Nat} (h : Made w wr s ad j) (hx : Ext wr W') (ha : AAtS (fun g => wr.heap.size ≤ g) W' a av0) (hwa : wr.heap.size ≤ a) {W2 : World} (hf : Frm (fun x => s.ownBlock = some x) W' W2) (ho : W2.ownsRow w.heap.size 48 1 s' (j + 1) (((List.range j).map fun k => pA (ad k)) ++ [pA a])) : Made w W2 s' (fun k => if k = j then a else ad k) (j + 1) := by
  obtain ⟨h1, h2, h3, h4⟩ := h
  have hso : ∀ x, s.ownBlock = some x → w.heap.size ≤ x ∧ x < wr.heap.size ∧ ∃ cur, Blk wr x 48 cur := fun x e => by
    obtain ⟨q1, q2⟩ := h1.lt x e
    rcases h1.2 with ⟨rfl, _⟩ | ⟨g, cap, cur, rfl, hb, hg, _⟩
    · cases e
    · obtain rfl : g = x := by simpa [Value.ownBlock] using e
      exact ⟨q1, q2, cur, hg⟩
  have hint : ∀ g cs, Blk W' g 3 cs → ¬ s.ownBlock = some g := fun g cs hb e => by
    obtain ⟨_, _, cur, hc⟩ := hso g e
    exact Blk.apart hb (hc.stay hx) (by decide) rfl
  have hacc : ∀ {S : Nat → Prop} {g v}, AAtS S W' g v → ¬ s.ownBlock = some g := fun hA e => by
    obtain ⟨_, _, _, _, q, _⟩ := hA
    obtain ⟨_, _, cur, hc⟩ := hso _ e
    exact Blk.apart q (hc.stay hx) (by decide) rfl
  have hr : ((List.range (j + 1)).map fun k => pA (if k = j then a else ad k)) = ((List.range j).map fun k => pA (ad k)) ++ [pA a] := by
    rw [List.range_succ, List.map_append]
    congr 1
    · refine List.map_congr_left fun k hk => ?_
      have := List.mem_range.1 hk
      rw [if_neg (by omega)]
    · simp
  refine ⟨by rw [hr]; exact ho, fun k hk => ?_, fun k k' hk hk' hne => ?_, Frm.step (Ext.trans h4 hx) hf (Ext.trans h4 hx).size (fun x e => (hso x e).1)⟩
  · simp only
    split
    case isTrue e => exact ⟨(ha.frm hf (hacc ha) hint).mono fun _ _ => trivial, Nat.le_trans h4.size hwa⟩
    case isFalse e =>
      obtain ⟨q1, q2⟩ := h2 k (by omega)
      exact ⟨(q1.stay hx).frm hf (hacc (q1.stay hx)) hint, q2⟩
  · simp only
    split
    case isTrue e =>
      rw [if_neg (by omega)]
      have := (h2 k' (by omega)).1.lt
      omega
    case isFalse e =>
      split
      case isTrue e' =>
        have := (h2 k (by omega)).1.lt
        omega
      case isFalse e' => exact h3 k k' (by omega) (by omega) hne
theorem Made.lst {w wr : World} {s : Value} {ad : Nat → Nat} (h : Made w wr s ad 5) : ∃ ga c cur, s = .slice (some ⟨ga, 0, none⟩) 5 c ∧ Blk wr ga 48 cur ∧ ∀ k, k < 5 → cur[k]? = some (pA (ad k)) := by
  rcases h.1.2 with ⟨rfl, h0⟩ | ⟨g, cap, cur, rfl, _, hg, hc1, hc2, hcs, htake⟩
  · cases h0
  · refine ⟨g, cap, cur, rfl, hg, fun k hk => ?_⟩
    have h2 : ((List.range 5).map fun k => pA (ad k))[k]? = some (pA (ad k)) := by
      rw [List.getElem?_map, List.getElem?_range hk]; rfl
    rw [← htake, List.getElem?_take, if_pos (by omega)] at h2
    simpa using h2
theorem Made.rest {w wr : World} {s : Value} {ad : Nat → Nat} (h : Made w wr s ad 5) {ga : Nat} {cur : Array Value} (hb : Blk wr ga 48 cur) (hc : ∀ k, k < 5 → cur[k]? = some (pA (ad k))) :
    Rest (fun _ => True) w ((wr.alloc (.cells #[.int .i64 0, .slice none 0 0] 26)).alloc (.cells #[.int .i64 0, .int .i64 0] 23)) ga wr.heap.size (wr.heap.size + 1) ad (fun _ => av0) 0 0 0 [] := by
  have hx : Ext wr ((wr.alloc (.cells #[.int .i64 0, .slice none 0 0] 26)).alloc (.cells #[.int .i64 0, .int .i64 0] 23)) := Ext.trans (Ext.alloc _ _) (Ext.alloc _ _)
  refine ⟨Ext.trans h.ext hx, ⟨cur, hb.stay hx, hc⟩, fun k hk => (h.2.1 k hk).1.stay hx, fun k k' h1 h2 => h.2.2.1 k k' h1 h2, ⟨none, 0, (Blk.new _ _ _).alloc _, InS.nil _ _⟩, Blk.new' _ _ _ _ (by simp), ⟨trivial, trivial, trivial, fun _ _ => trivial⟩, h.ext.size, by have := h.ext.size; omega, fun k hk => (h.2.1 k hk).2⟩

set_option maxRecDepth 8000 in
set_option maxHeartbeats 32000000 in
theorem walk_tallyOne (A : Option Addr) (l : List OpTry) (cap : Nat) (w : World) (hcap : l.length ≤ cap) (hc63 : l.length ≤ 9223372036854775807) (hS : SoTry w A l) :
    Calls Try.prog 6 #[.slice A l.length cap] w fun e w' => e = .returned (.bool true) ∧ Below w.heap.size w w' := by
  refine hide_post fun D hD => ?_
  have HS := Lib.hid hS
  have CT : Hid (∀ V, Calls Try.prog 11 #[] V fun e w' => e = .returned (.bool true) ∧ Ext V w') := fun V => told_tally V
  have CA : Hid (∀ V, Calls Try.prog 26 #[.int .i64 5] V fun e w' => ∃ a, e = .returned (.tuple #[pA a, .int .i64 0]) ∧ AAtS (fun g => V.heap.size ≤ g) w' a av0 ∧ Ext V w' ∧ V.heap.size ≤ a) := fun V => new_yesS 5 V (by omega) (by omega)
  obtain ⟨N, hN⟩ : ∃ z, z = l.length := ⟨_, rfl⟩
  rw [← hN] at hcap hc63 ⊢
  have HN := Lib.hid hN
  clear hS hN
  go_enter Try.func6, Try.ntmps6
  go_wp2
  go_loopw [3, 4] (fun s i wr => ∃ (j : Nat) (ad : Nat → Nat), j ≤ 5 ∧ i = .int .i64 j ∧ Hid (Made w wr s ad j)) (fun _ i _ => 5 - (intOf i).toNat)
  case atStart => exact ⟨0, fun _ => 0, by omega, rfl, World.ownsRow_nil _ _ _ _, fun k h => by omega, fun k k' h => by omega, Ext.refl _⟩
  case round =>
    obtain ⟨j, ad, hj, rfl, HM⟩ := hrel
    by_cases hj5 : j < 5
    · have hj0 : (0 : Int) ≤ (j : Int) := by omega
      obtain ⟨sA, sc, rfl⟩ := own_shape HM.out.1
      go_upto_region 8 with (go_at_call 26; (with_reducible refine (CA.out _).mono ?_); rintro e w1 ⟨a, rfl, hA, hx, ha⟩; have HA := Lib.hid hA; have X1 := Lib.hid hx; have GA := Lib.hid ha; clear hA hx ha; unfold pA)
      go_wp2_with (at_builtin; refine wpList_append_one rfl _ _ 66 rfl w.heap.size 48 (.pointer none) 8 Try.underlying66 info_pacc rfl (by omega) (.slice sA j sc) j ((List.range j).map fun k => pA (ad k)) rfl (own_frm (s := fun _ => False) HM.out.1 (Frm.of_below (Ext.trans X1.out (Ext.alloc w1 (.cells #[.pointer (some ⟨a, 0, none⟩)] 48))) (fun _ => False)) (fun _ _ h => h)) w1.heap.size (.pointer (some ⟨a, 0, none⟩)) rfl ((Blk.new w1 48 #[.pointer (some ⟨a, 0, none⟩)]).cell 0) rfl (by omega) (Ext.trans HM.out.ext (Ext.trans X1.out (Ext.alloc w1 (.cells #[.pointer (some ⟨a, 0, none⟩)] 48)))).size ?_; intro v' w2 ho hg; have hm := HM.out.put (Ext.trans X1.out (Ext.alloc w1 (.cells #[.pointer (some ⟨a, 0, none⟩)] 48))) (HA.out.stay (Ext.alloc _ _)) GA.out (Frm.of_grown hg (fun x e => e.symm)) ho; obtain ⟨A', cap', rfl⟩ := own_shape ho; have HM2 := Lib.hid hm; clear ho hg hm)
      go_roundw
      case rel => exact ⟨j + 1, _, by omega, by go_num, HM2.out⟩
      case measure => simp [intOf]; omega
    · have h5 : j = 5 := by omega
      subst h5
      obtain ⟨ga, gc0, cur, rfl, hb, hc⟩ := HM.out.lst
      obtain ⟨g7, hg7⟩ : ∃ z, z = wr.heap.size := ⟨_, rfl⟩
      obtain ⟨w0, hw0⟩ : ∃ z, z = ((wr.alloc (.cells #[.int .i64 0, .slice none 0 0] 26)).alloc (.cells #[.int .i64 0, .int .i64 0] 23)) := ⟨_, rfl⟩
      have HR0 : Hid (Rest (fun _ => True) w w0 ga g7 (g7 + 1) ad (fun _ => av0) 0 0 0 []) := by (show Rest _ _ _ _ _ _ _ _ _ _ _ _); rw [hw0, hg7]; exact HM.out.rest hb hc
      have HV0 : Hid (VOk (fun _ => av0) 0 0) := fun k hk => ⟨av0_ok, cmp_refl _ _⟩
      have HG7 := Lib.hid hg7
      have HW0 := Lib.hid hw0
      clear hb hc hg7 hw0
      go_upto_region 11 with fail
      rw [← HW0.out, ← HG7.out]
      go_wp2
      try rw [show ((5 : Nat) : Int) = (5 : Int) from rfl]
      go_loopw [9] (fun i wq => ∃ (j : Nat) (vs : Nat → AV) (r n ce : Int) (cl : List Int), j ≤ N ∧ j ≤ 20 ∧ i = .int .i64 j ∧ 0 ≤ r ∧ r ≤ j ∧ 0 ≤ n ∧ n < 5 ∧ Hid (Rest (fun _ => True) w wq ga g7 (g7 + 1) ad vs r n ce cl) ∧ Hid (VOk vs r n) ∧ Hid (0 < ce → Ch vs r n ce cl) ∧ Hid (cl.length ≤ 5)) (fun i _ => N - (intOf i).toNat)
      case atStart => exact ⟨0, _, 0, 0, 0, [], by omega, by omega, rfl, by omega, by omega, by omega, by omega, HR0.out, HV0.out, fun h => by omega, Nat.zero_le _⟩
      case round =>
        obtain ⟨j, vs, r, n, ce, cl, hj, hj20, rfl, hr0, hrj, hn0, hn5, HR, HV, HC, HCL⟩ := hrel
        by_cases hlt : j < N ∧ j < 20
        · obtain ⟨hlt, hl20⟩ := hlt
          obtain ⟨x, hx⟩ : ∃ x, l[j]? = some x := ⟨_, List.getElem?_eq_getElem (by rw [← HN.out]; exact hlt)⟩
          obtain ⟨ob, oo, rfl, hcx, hok⟩ := HS.out j x hx
          obtain ⟨xnode, xreach, xyes, xwant⟩ := x
          have c0 : w.cell? ⟨ob, oo + j * 4 + 0, none⟩ = some (.int .i64 xnode) := hcx 0 (by decide)
          have c1 : w.cell? ⟨ob, oo + j * 4 + 1, none⟩ = some (.int .i64 xreach) := hcx 1 (by decide)
          have c2 : w.cell? ⟨ob, oo + j * 4 + 2, none⟩ = some (.int .i64 xyes) := hcx 2 (by decide)
          have c3 : w.cell? ⟨ob, oo + j * 4 + 3, none⟩ = some (.int .i64 xwant) := hcx 3 (by decide)
          have hj1 : (j : Int) < (N : Int) := by omega
          have hj0 : (0 : Int) ≤ (j : Int) := by omega
          have hj8 : (j : Int) < 20 := by omega
          obtain ⟨z0, z4⟩ := umod_bd xnode 5 (by omega) (by omega)
          obtain ⟨z, hz⟩ : ∃ z, wrap64 ((IntKind.u64.wrap xnode).tmod 5) = z := ⟨_, rfl⟩
          rw [hz] at z0 z4
          obtain ⟨q0, q4⟩ := umod_bd xwant 5 (by omega) (by omega)
          obtain ⟨q, hq⟩ : ∃ z, wrap64 ((IntKind.u64.wrap xwant).tmod 5) = z := ⟨_, rfl⟩
          rw [hq] at q0 q4
          obtain ⟨nu1, nu2, nu3, nu4⟩ := next_up r n z hr0 (by omega) hn0 hn5 z0 z4
          have hnx := refNext_any r n z true nu1
          simp only [if_true] at hnx
          have hmb : mayBal (nextR r n z) z = true := by unfold mayBal; exact decide_eq_true ⟨nu2, by omega, z0, z4⟩
          obtain ⟨r2, hr2⟩ : ∃ q, q = nextR r n z := ⟨_, rfl⟩
          rw [← hr2] at nu2 nu3 nu4 hnx hmb
          have CNX : Hid (∀ V, Calls Try.prog 36 #[.agg #[.int .i64 r, .int .i64 n], .int .i64 z] V fun e w' => e = .returned (.tuple #[.agg #[.int .i64 r2, .int .i64 z], .bool true]) ∧ Ext V w') := hnx
          have HMB := Lib.hid hmb
          have HNU := Lib.hid nu4
          have HQ : Hid (0 ≤ q ∧ q ≤ 4) := ⟨q0, by omega⟩
          obtain ⟨gx, hgx⟩ : ∃ z, z = wr.heap.size := ⟨_, rfl⟩
          obtain ⟨wx, hwx⟩ : ∃ z, z = wr.alloc (.cells #[.int .i64 xnode, .int .i64 xreach, .int .i64 xyes, .int .i64 xwant] 68) := ⟨_, rfl⟩
          have KX : Hid (Blk wx gx 68 #[.int .i64 xnode, .int .i64 xreach, .int .i64 xyes, .int .i64 xwant]) := by show Blk _ _ _ _; rw [hwx, hgx]; exact Blk.new _ _ _
          have RX : Hid (Rest (fun _ => True) w wx ga g7 (g7 + 1) ad vs r n ce cl) := by show Rest _ _ _ _ _ _ _ _ _ _ _ _; rw [hwx]; exact HR.out.stay (Ext.alloc _ _)
          have HWX := Lib.hid hwx
          have HGX := Lib.hid hgx
          replace c0 := cell_stay HR.out.ext c0
          replace c1 := cell_stay HR.out.ext c1
          replace c2 := cell_stay HR.out.ext c2
          replace c3 := cell_stay HR.out.ext c3
          simp only [Nat.add_zero] at c0
          clear hcx hx hok hgx hwx hnx hmb nu1 nu4 hr2 q0 q4
          go_upto_region 15 with fail
          rw [← HWX.out, ← HGX.out]
          have t0 := KX.out.cell 0
          have p0 := RX.out.top.cell 0
          have p1 := RX.out.top.cell 1
          simp at t0 p0 p1
          clear c0 c1 c2 c3
          go_upto_region 16 with (go_at_call 36; (with_reducible refine (CNX.out _).mono ?_); rintro e w1 ⟨rfl, hx⟩; have X1 := Lib.hid hx; clear hx)
          clear t0 p0 p1
          obtain ⟨gb, hgb⟩ : ∃ z, z = w1.heap.size := ⟨_, rfl⟩
          obtain ⟨w2, hw2⟩ : ∃ o, o = w1.alloc (.cells #[.int .i64 r2, .int .i64 z] 23) := ⟨_, rfl⟩
          have X2 : Hid (Ext wx w2) := by show Ext _ _; rw [hw2]; exact Ext.trans X1.out (Ext.alloc _ _)
          have KB : Hid (Blk w2 gb 23 #[.int .i64 r2, .int .i64 z]) := by show Blk _ _ _ _; rw [hw2, hgb]; exact Blk.new _ _ _
          try rw [← hw2, ← hgb]
          have RB := Lib.hid (RX.out.stay X2.out)
          have hgb8 : g7 + 1 ≠ gb := by have := RX.out.top.lt; have := X1.out.size; omega
          clear hgb hw2
          have b0 := KB.out.cell 0
          have b1 := KB.out.cell 1
          have p0 := RB.out.top.cell 0
          have p1 := RB.out.top.cell 1
          have f0 := RB.out.top.frozen 0
          have f1 := RB.out.top.frozen 1
          simp at b0 b1 p0 p1
          go_upto_region 19 with fail
          clear b0 b1 p0 p1 f0 f1
          obtain ⟨w3, hw3⟩ : ∃ o, o = (w2.setCell ⟨g7 + 1, 0, none⟩ (.int .i64 r2)).setCell ⟨g7 + 1, 1, none⟩ (.int .i64 z) := ⟨_, rfl⟩
          have F3 : Hid (Frm (fun k => k = g7 + 1) w2 w3) := by (show Frm _ _ _); rw [hw3]; exact Frm.tr (Frm.of_set _ _ _ rfl) (Frm.of_set _ _ _ rfl)
          have R3 : Hid (Rest (fun _ => True) w w3 ga g7 (g7 + 1) ad vs r2 z ce cl) := by (show Rest _ _ _ _ _ _ _ _ _ _ _ _); exact RB.out.settop F3.out (by rw [hw3]; exact (RB.out.top.set 0 _).set 1 _)
          have KB3 : Hid (Blk w3 gb 23 #[.int .i64 r2, .int .i64 z]) := by (show Blk _ _ _ _); exact KB.out.frm F3.out (fun e => hgb8 e.symm)
          have KX3 : Hid (Blk w3 gx 68 #[.int .i64 xnode, .int .i64 xreach, .int .i64 xyes, .int .i64 xwant]) := by (show Blk _ _ _ _); exact (KX.out.stay X2.out).frm F3.out (fun e => Blk.apart (KX.out.stay X2.out) RB.out.top (by decide) e)
          try rw [← hw3]
          clear hw3 hgb8
          obtain ⟨gq, hgq⟩ : ∃ o, o = w3.heap.size := ⟨_, rfl⟩
          obtain ⟨w5, hw5⟩ : ∃ o, o = (w3.alloc (.cells #[.int .i64 q] 3)).alloc (.cells #[.int .i64 2, .slice (some ⟨w3.heap.size, 0, none⟩) 1 1] 26) := ⟨_, rfl⟩
          have x3 := KX3.out.cell 3
          simp at x3
          go_upto_region 20 with fail
          clear x3
          have X5 : Hid (Ext w3 w5) := by (show Ext _ _); rw [hw5]; exact Ext.trans (Ext.alloc _ _) (Ext.alloc _ _)
          have KQ : Hid (Blk w5 gq 3 #[.int .i64 q]) := by (show Blk _ _ _ _); rw [hw5, hgq]; exact (Blk.new _ _ _).alloc _
          have KC : Hid (Blk w5 (gq + 1) 26 #[.int .i64 2, .slice (some ⟨gq, 0, none⟩) 1 1]) := by (show Blk _ _ _ _); rw [hw5, hgq]; exact Blk.new' _ _ _ _ (by simp)
          have hz3 : (w3.alloc (.cells #[.int .i64 q] 3)).heap.size = gq + 1 := by rw [hgq]; simp
          try rw [← hw5]
          rw [← hgq]
          have R5 := Lib.hid (R3.out.stay X5.out)
          have KB5 := Lib.hid (KB3.out.stay X5.out)
          have KX5 := Lib.hid (KX3.out.stay X5.out)
          have hcn := Loop.newC (B := some ⟨gq, 0, none⟩) (bc := 1) R5.out KX5.out KB5.out HMB.out HQ.out (Sl.of_blk KQ.out (fun k v hk => by match k, hk with | 0, hk => (simp at hk; subst hk; rfl))) (Nat.le_refl _)
          obtain ⟨b, hb⟩ : ∃ o, o = w5.heap.size := ⟨_, rfl⟩
          rw [← hb] at hcn
          have CN := Lib.hid hcn
          have b0 := KB5.out.cell 0
          have b1 := KB5.out.cell 1
          have d0 := KC.out.cell 0
          have d1 := KC.out.cell 1
          simp at b0 b1 d0 d1
          clear hw5 hgq hcn hb hz3
          go_upto_region 23 with (go_at_call 12; (with_reducible refine CN.out.mono ?_); rintro e w6 ⟨P, rfl, hL⟩; have HL := Lib.hid hL; clear hL)
          clear b0 b1 d0 d1
          have HP1 : Hid (P1 vs r2 z q 0 vs ⟨5, r2, z, 2, [q], [], [], false, 0, 0, 0, []⟩) := P1.start (HV.out.mono HNU.out)
          go_wp2
          go_loopw [16] (fun kv wr => ∃ (k : Nat) (vs1 : Nat → AV) (v : TV), k ≤ 5 ∧ kv = .int .i64 k ∧ Hid (Loop w wr b P ga g7 (g7 + 1) gx gb gx #[.int .i64 xnode, .int .i64 xreach, .int .i64 xyes, .int .i64 xwant] 68 #[.int .i64 xnode, .int .i64 xreach, .int .i64 xyes, .int .i64 xwant] none 0 [] ad vs1 v r2 z ce cl) ∧ Hid (P1 vs r2 z q k vs1 v)) (fun kv _ => 5 - (intOf kv).toNat)
          case atStart => exact ⟨0, _, _, by omega, rfl, HL.out, HP1.out⟩
          case round =>
            obtain ⟨k, vs1, v, hk, rfl, HLP, HP⟩ := hrel
            by_cases hk5 : k < 5
            · have hk0 : (0 : Int) ≤ (k : Int) := by omega
              have hk1 : (k : Int) < 5 := by omega
              have x1 := HLP.out.bx.1.cell 1
              simp at x1
              by_cases hq1 : bits BinOp.and IntKind.i64 (xreach / 2 ^ k) 1 = 0
              · go_wp2
                go_roundw
                case rel => exact ⟨k + 1, vs1, v, by omega, by go_num, HLP.out, HP.out.next⟩
                case measure => simp [intOf]; omega
              · go_upto_region 27 with fail
                clear x1
                obtain ⟨R, hR⟩ : ∃ o, o = prepR (vs1 k) 2 r2 z := ⟨_, rfl⟩
                obtain ⟨pe, hpe⟩ : ∃ o, o = prepE (vs1 k) 2 r2 z := ⟨_, rfl⟩
                obtain ⟨rl, hrl⟩ : ∃ o, o = R.vns.length := ⟨_, rfl⟩
                obtain ⟨vs1', hvs⟩ : ∃ o, o = upd vs1 k (prepV (vs1 k) 2 r2 z) := ⟨_, rfl⟩
                have HRL : Hid (rl = R.vns.length) := hrl
                have HPV : Hid (P1 vs r2 z q k vs1' v) := by (show P1 _ _ _ _ _ _ _); rw [hvs]; exact HP.out.prep hk5
                have HR5 : Hid (R.vns.length ≤ 5) := by (show _ ≤ _); rw [hR]; exact prepR_len (HP.out.ok k hk5).1 _ _ _
                have HRR : Hid (pe = 0 → R.has = (vs k).has ∧ R.ar = (vs k).ar ∧ R.an = (vs k).an ∧ R.vep = (vs k).vep ∧ R.vns = (vs k).vns) := fun h => by rw [hR]; exact prepR_same (by rw [← hpe]; exact h) (HP.out.same k)
                have CP : Hid (∀ V, Ext wr V → Calls Try.prog 27 #[.pointer (some ⟨ad k, 0, none⟩), .int .i64 2, .agg #[.int .i64 r2, .int .i64 z]] V fun e w' => ∃ A c, e = .returned (.tuple #[.agg #[.int .i64 R.pr, .int .i64 R.pn, .int .i64 R.ar, .int .i64 R.an, .bool R.has, .int .i64 R.vep, .slice A rl c], .int .i64 pe]) ∧ Loop w w' b P ga g7 (g7 + 1) gx gb gx #[.int .i64 xnode, .int .i64 xreach, .int .i64 xyes, .int .i64 xwant] 68 #[.int .i64 xnode, .int .i64 xreach, .int .i64 xyes, .int .i64 xwant] A c R.vns ad vs1' v r2 z ce cl ∧ Frm (oneA (ad k)) V w') := fun V h => by rw [hrl, hR, hpe, hvs]; exact (HLP.out.stay h).prepC hk5 (HP.out.ok k hk5).1
                have HAD : Hid (ad k < wr.heap.size) := (HLP.out.rest.acc k hk5).lt
                obtain ⟨cur, hgb, hgc⟩ := HLP.out.rest.lst
                have hga : ¬ (ga = ad k ∨ wr.heap.size ≤ ga) := by
                  obtain ⟨_, _, _, _, q1, _⟩ := HLP.out.rest.acc k hk5
                  rintro (e | e)
                  · exact Blk.apart hgb q1 (by decide) e
                  · have := hgb.lt; omega
                have hgb' : ¬ (gb = ad k ∨ wr.heap.size ≤ gb) := by
                  obtain ⟨_, _, _, _, q1, _⟩ := HLP.out.rest.acc k hk5
                  rintro (e | e)
                  · exact Blk.apart HLP.out.bb.1 q1 (by decide) e
                  · have := HLP.out.bb.1.lt; omega
                have HGA : Hid (Blk wr ga 48 cur ∧ cur[k]? = some (pA (ad k)) ∧ ¬ (ga = ad k ∨ wr.heap.size ≤ ga) ∧ ¬ (gb = ad k ∨ wr.heap.size ≤ gb)) := ⟨hgb, hgc k hk5, hga, hgb'⟩
                have yA : ∀ W, Frm (fun x => x = ad k ∨ wr.heap.size ≤ x) wr W → W.cell? ⟨ga, k, none⟩ = some (.pointer (some ⟨ad k, 0, none⟩)) := fun W h => by rw [(HGA.out.1.frm h HGA.out.2.2.1).cell k]; exact HGA.out.2.1
                have yB0 : ∀ W, Frm (fun x => x = ad k ∨ wr.heap.size ≤ x) wr W → W.cell? ⟨gb, 0, none⟩ = some (.int .i64 r2) := fun W h => (HLP.out.bb.1.frm h HGA.out.2.2.2).cell 0
                have yB1 : ∀ W, Frm (fun x => x = ad k ∨ wr.heap.size ≤ x) wr W → W.cell? ⟨gb, 1, none⟩ = some (.int .i64 z) := fun W h => (HLP.out.bb.1.frm h HGA.out.2.2.2).cell 1
                obtain ⟨wd, hwd⟩ : ∃ o, o = wr.drew := ⟨_, rfl⟩
                have HWD := Lib.hid hwd
                have ED : Hid (Frm (fun x => x = ad k ∨ wr.heap.size ≤ x) wr wd) := by (show Frm _ _ _); rw [hwd]; exact Frm.drew (Frm.refl _ _)
                have XD : Hid (Ext wr wd) := by (show Ext _ _); rw [hwd]; exact Ext.drewR (Ext.refl _)
                clear hwd hR hpe hrl hvs hgb hgc hga hgb'
                refine rz_begin (fun x => x = ad k ∨ wr.heap.size ≤ x) [] (by kernel_rfl) ?_
                rw [← HWD.out]
                refine rz_take [2, 3, 5, 6, 7, 8, 10, 11] (i := 0) (v := ?_) rfl (by kernel_rfl) (by kernel_rfl) (by kernel_rfl) (by kernel_rfl) (by kernel_rfl) (by kernel_rfl) (fun _ _ _ h => h) (by rfl) ?_ ?_
                rotate_left
                · intro W hW; have hW0 := Frm.tr ED.out hW; clear hW; go_simp <;> with_reducible rfl
                try simp only [Act.put, List.setIfInBounds_toArray, List.set_cons_zero, List.set_cons_succ]
                refine rz_take [2, 3, 5, 6, 7, 8, 10, 11] (i := 1) (v := ?_) rfl (by kernel_rfl) (by kernel_rfl) (by kernel_rfl) (by kernel_rfl) (by kernel_rfl) (by kernel_rfl) (fun _ _ _ h => h) (by rfl) ?_ ?_
                rotate_left
                · intro W hW; have hW0 := Frm.tr ED.out hW; clear hW; go_simp <;> with_reducible rfl
                try simp only [Act.put, List.setIfInBounds_toArray, List.set_cons_zero, List.set_cons_succ]
                refine rz_take [3, 5, 6, 7, 8, 10, 11] (i := 2) (v := ?_) rfl (by kernel_rfl) (by kernel_rfl) (by kernel_rfl) (by kernel_rfl) (by kernel_rfl) (by kernel_rfl) (fun _ _ _ h => h) (by rfl) ?_ ?_
                rotate_left
                · intro W hW; have hW0 := Frm.tr ED.out hW; clear hW; go_simp <;> with_reducible rfl
                try simp only [Act.put, List.setIfInBounds_toArray, List.set_cons_zero, List.set_cons_succ]
                refine rz_take [5, 6, 7, 8, 10, 11] (i := 3) (v := ?_) rfl (by kernel_rfl) (by kernel_rfl) (by kernel_rfl) (by kernel_rfl) (by kernel_rfl) (by kernel_rfl) (fun _ _ _ h => h) (by rfl) ?_ ?_
                rotate_left
                · intro W hW; have hW0 := Frm.tr ED.out hW; clear hW; go_simp <;> with_reducible rfl
                try simp only [Act.put, List.setIfInBounds_toArray, List.set_cons_zero, List.set_cons_succ]
                refine rz_take [5, 6, 7, 8, 10, 11] (i := 4) (v := ?_) rfl (by kernel_rfl) (by kernel_rfl) (by kernel_rfl) (by kernel_rfl) (by kernel_rfl) (by kernel_rfl) (fun _ _ _ h => h) (by rfl) ?_ ?_
                rotate_left
                · intro W hW; have hW0 := Frm.tr ED.out hW; clear hW; go_simp <;> with_reducible rfl
                try simp only [Act.put, List.setIfInBounds_toArray, List.set_cons_zero, List.set_cons_succ]
                refine rz_two (i := 5) (j := 9) rfl rfl (by kernel_rfl) (by rfl) (by rfl) (fun K hK => ?_) (fun K hK => ?_)
                · go_simp
                  (go_at_call 27; (with_reducible refine (CP.out _ XD.out).mono ?_); rintro e w7 ⟨A7, c7, rfl, hL, hf⟩; refine hK _ _ (hf.mono (fun x hx => Or.inl hx)) ?_; clear hK K)
                  have L7 := Lib.hid hL
                  have E7 := Lib.hid (Frm.tr ED.out (hf.mono (s' := fun x => x = ad k ∨ wr.heap.size ≤ x) (fun x hx => Or.inl hx)))
                  clear hL hf
                  try simp only [Act.put, List.setIfInBounds_toArray, List.set_cons_zero, List.set_cons_succ]
                  refine rz_take [7, 8, 10, 11] (i := 6) (v := ?_) rfl (by kernel_rfl) (by kernel_rfl) (by kernel_rfl) (by kernel_rfl) (by kernel_rfl) (by kernel_rfl) (fun _ _ _ h => h) (by rfl) ?_ ?_
                  rotate_left
                  · intro W hW; have hW0 := Frm.tr E7.out hW; clear hW; go_simp <;> with_reducible rfl
                  try simp only [Act.put, List.setIfInBounds_toArray, List.set_cons_zero, List.set_cons_succ]
                  refine rz_take [10, 11] (i := 7) (v := ?_) rfl (by kernel_rfl) (by kernel_rfl) (by kernel_rfl) (by kernel_rfl) (by kernel_rfl) (by kernel_rfl) (fun _ _ _ h => h) (by rfl) ?_ ?_
                  rotate_left
                  · intro W hW; have hW0 := Frm.tr E7.out hW; clear hW; go_simp <;> with_reducible rfl
                  try simp only [Act.put, List.setIfInBounds_toArray, List.set_cons_zero, List.set_cons_succ]
                  refine rz_take [11] (i := 8) (v := ?_) rfl (by kernel_rfl) (by kernel_rfl) (by kernel_rfl) (by kernel_rfl) (by kernel_rfl) (by kernel_rfl) (fun _ _ _ h => h) (by rfl) ?_ ?_
                  rotate_left
                  · intro W hW; have hW0 := Frm.tr E7.out hW; clear hW; go_simp <;> with_reducible rfl
                  try simp only [Act.put, List.setIfInBounds_toArray, List.set_cons_zero, List.set_cons_succ]
                  refine rz_call (i := 9) rfl (by kernel_rfl) (by rfl) (fun K hK => ?_)
                  go_simp
                  refine hK _ _ (Frm.of_below (Ext.alloc _ _) _) ?_; clear hK K
                  obtain ⟨g17, hg17⟩ : ∃ o, o = w7.heap.size := ⟨_, rfl⟩
                  obtain ⟨w8, hw8⟩ : ∃ o, o = w7.alloc (.cells #[.int .i64 0, .int .i64 0, .int .i64 0, .int .i64 0, .bool false, .int .i64 0, .slice none 0 0] 40) := ⟨_, rfl⟩
                  have K8 : Hid (Blk w8 g17 40 #[.int .i64 0, .int .i64 0, .int .i64 0, .int .i64 0, .bool false, .int .i64 0, .slice none 0 0]) := by (show Blk _ _ _ _); rw [hw8, hg17]; exact Blk.new _ _ _
                  have Y8 : Hid (Ext w7 w8) := by (show Ext _ _); rw [hw8]; exact Ext.alloc _ _
                  have G17 : Hid (wr.heap.size ≤ g17) := by (show _ ≤ _); rw [hg17]; exact E7.out.size
                  try rw [← hw8]
                  try rw [← hg17]
                  clear hw8 hg17
                  have E8 := Lib.hid (Frm.tr E7.out (Frm.of_below Y8.out (fun x => x = ad k ∨ wr.heap.size ≤ x)))
                  have L8 := Lib.hid (L7.out.stay Y8.out)
                  try simp only [Act.put, List.setIfInBounds_toArray, List.set_cons_zero, List.set_cons_succ]
                  refine rz_call (i := 10) rfl (by kernel_rfl) (by rfl) (fun K hK => ?_)
                  have z0 := K8.out.cell 0
                  have f0 := K8.out.frozen 0
                  have z1 := K8.out.cell 1
                  have f1 := K8.out.frozen 1
                  have z2 := K8.out.cell 2
                  have f2 := K8.out.frozen 2
                  have z3 := K8.out.cell 3
                  have f3 := K8.out.frozen 3
                  have z4 := K8.out.cell 4
                  have f4 := K8.out.frozen 4
                  have z5 := K8.out.cell 5
                  have f5 := K8.out.frozen 5
                  have z6 := K8.out.cell 6
                  have f6 := K8.out.frozen 6
                  simp at z0 z1 z2 z3 z4 z5 z6
                  go_simp
                  refine hK _ _ (Frm.tr (Frm.tr (Frm.tr (Frm.tr (Frm.tr (Frm.tr (Frm.of_set _ _ _ (Or.inr G17.out)) (Frm.of_set _ _ _ (Or.inr G17.out))) (Frm.of_set _ _ _ (Or.inr G17.out))) (Frm.of_set _ _ _ (Or.inr G17.out))) (Frm.of_set _ _ _ (Or.inr G17.out))) (Frm.of_set _ _ _ (Or.inr G17.out))) (Frm.of_set _ _ _ (Or.inr G17.out))) ?_; clear hK K z0 z1 z2 z3 z4 z5 z6 f0 f1 f2 f3 f4 f5 f6
                  obtain ⟨w9, hw9⟩ : ∃ o, o = (((((((w8.setCell ⟨g17, 0, none⟩ (.int .i64 R.pr)).setCell ⟨g17, 1, none⟩ (.int .i64 R.pn)).setCell ⟨g17, 2, none⟩ (.int .i64 R.ar)).setCell ⟨g17, 3, none⟩ (.int .i64 R.an)).setCell ⟨g17, 4, none⟩ (.bool R.has)).setCell ⟨g17, 5, none⟩ (.int .i64 R.vep)).setCell ⟨g17, 6, none⟩ (.slice A7 rl c7)) := ⟨_, rfl⟩
                  have F9 : Hid (Frm (fun x => x = g17) w8 w9) := by (show Frm _ _ _); rw [hw9]; exact (Frm.tr (Frm.tr (Frm.tr (Frm.tr (Frm.tr (Frm.tr (Frm.of_set _ _ _ rfl) (Frm.of_set _ _ _ rfl)) (Frm.of_set _ _ _ rfl)) (Frm.of_set _ _ _ rfl)) (Frm.of_set _ _ _ rfl)) (Frm.of_set _ _ _ rfl)) (Frm.of_set _ _ _ rfl))
                  have K9 : Hid (Blk w9 g17 40 #[.int .i64 R.pr, .int .i64 R.pn, .int .i64 R.ar, .int .i64 R.an, .bool R.has, .int .i64 R.vep, .slice A7 rl c7]) := by (show Blk _ _ _ _); rw [hw9]; exact (((((((K8.out.set 0 (.int .i64 R.pr)).set 1 (.int .i64 R.pn)).set 2 (.int .i64 R.ar)).set 3 (.int .i64 R.an)).set 4 (.bool R.has)).set 5 (.int .i64 R.vep)).set 6 (.slice A7 rl c7))
                  have L9 := Lib.hid (L8.out.vote K8.out F9.out (Nat.le_trans HLP.out.ext.size G17.out) (by decide))
                  have E9 := Lib.hid (Frm.tr E8.out (F9.out.mono (s' := fun x => x = ad k ∨ wr.heap.size ≤ x) (fun x hx => Or.inr (by rw [hx]; exact G17.out))))
                  try rw [← hw9]
                  clear hw9
                  try simp only [Act.put, List.setIfInBounds_toArray, List.set_cons_zero, List.set_cons_succ]
                  refine rz_take [] (i := 11) (v := ?_) rfl (by kernel_rfl) (by kernel_rfl) (by kernel_rfl) (by kernel_rfl) (by kernel_rfl) (by kernel_rfl) (fun _ _ _ h => h) (by rfl) ?_ ?_
                  rotate_left
                  · intro W hW; have hW0 := Frm.tr E9.out hW; clear hW; go_simp <;> with_reducible rfl
                  try simp only [Act.put, List.setIfInBounds_toArray, List.set_cons_zero, List.set_cons_succ]
                  refine rz_done (by kernel_rfl) ?_ _
                  clear yA yB0 yB1
                  have v0 := K9.out.cell 0; have v1 := K9.out.cell 1; have v2 := K9.out.cell 2; have v3 := K9.out.cell 3; have v4 := K9.out.cell 4; have v5 := K9.out.cell 5; have v6 := K9.out.cell 6
                  simp at v0 v1 v2 v3 v4 v5 v6
                  by_cases hpe : pe = 0
                  · have CM : Hid (Calls Try.prog 17 #[.pointer (some ⟨P, 0, none⟩), .int .i64 k, .agg #[.int .i64 R.pr, .int .i64 R.pn, .int .i64 R.ar, .int .i64 R.an, .bool R.has, .int .i64 R.vep, .slice A7 rl c7]] w9 fun e w' => e = .returned (.bool (vOk v k ⟨R.pr, R.pn, R.ar, R.an, R.has, R.vep, A7, c7, R.vns⟩)) ∧ Loop w w' b P ga g7 (g7 + 1) gx gb gx #[.int .i64 xnode, .int .i64 xreach, .int .i64 xyes, .int .i64 xwant] 68 #[.int .i64 xnode, .int .i64 xreach, .int .i64 xyes, .int .i64 xwant] A7 c7 R.vns ad vs1' (vNext v k ⟨R.pr, R.pn, R.ar, R.an, R.has, R.vep, A7, c7, R.vns⟩) r2 z ce cl) := by rw [HRL.out]; exact Loop.promC (t := ⟨R.pr, R.pn, R.ar, R.an, R.has, R.vep, A7, c7, R.vns⟩) k L9.out (by have := HP.out.len; omega) (by have := HR5.out; simp only; omega)
                    have HPN := Lib.hid (HPV.out.prom hk5 ⟨R.pr, R.pn, R.ar, R.an, R.has, R.vep, A7, c7, R.vns⟩ (HRR.out hpe) HR5.out)
                    subst hpe
                    generalize vNext v k ⟨R.pr, R.pn, R.ar, R.an, R.has, R.vep, A7, c7, R.vns⟩ = vn at *
                    generalize vOk v k ⟨R.pr, R.pn, R.ar, R.an, R.has, R.vep, A7, c7, R.vns⟩ = okv at *
                    go_wp2_with (go_at_call 17; (with_reducible refine CM.out.mono ?_); rintro e wp ⟨rfl, hL⟩; have LP := Lib.hid hL; clear hL)
                    go_roundw
                    case rel => exact ⟨k + 1, vs1', vn, by omega, by go_num, LP.out.drop, HPN.out⟩
                    case measure => simp [intOf]; omega
                  · go_wp2
                    go_roundw
                    case rel => exact ⟨k + 1, vs1', v, by omega, by go_num, L9.out.drop, HPV.out.next⟩
                    case measure => simp [intOf]; omega
                · go_simp
                  refine hK _ _ (Frm.of_below (Ext.alloc _ _) _) ?_; clear hK K
                  obtain ⟨g17, hg17⟩ : ∃ o, o = wd.heap.size := ⟨_, rfl⟩
                  obtain ⟨w8, hw8⟩ : ∃ o, o = wd.alloc (.cells #[.int .i64 0, .int .i64 0, .int .i64 0, .int .i64 0, .bool false, .int .i64 0, .slice none 0 0] 40) := ⟨_, rfl⟩
                  have K8 : Hid (Blk w8 g17 40 #[.int .i64 0, .int .i64 0, .int .i64 0, .int .i64 0, .bool false, .int .i64 0, .slice none 0 0]) := by (show Blk _ _ _ _); rw [hw8, hg17]; exact Blk.new _ _ _
                  have Y8 : Hid (Ext wd w8) := by (show Ext _ _); rw [hw8]; exact Ext.alloc _ _
                  have G17 : Hid (wr.heap.size ≤ g17) := by (show _ ≤ _); rw [hg17]; exact ED.out.size
                  try rw [← hw8]
                  try rw [← hg17]
                  clear hw8 hg17
                  have E8 := Lib.hid (Frm.tr ED.out (Frm.of_below Y8.out (fun x => x = ad k ∨ wr.heap.size ≤ x)))
                  have X8 : Hid (Ext wr w8) := Ext.trans XD.out Y8.out
                  try simp only [Act.put, List.setIfInBounds_toArray, List.set_cons_zero, List.set_cons_succ]
                  refine rz_call (i := 5) rfl (by kernel_rfl) (by rfl) (fun K hK => ?_)
                  go_simp
                  (go_at_call 27; (with_reducible refine (CP.out _ X8.out).mono ?_); rintro e w7 ⟨A7, c7, rfl, hL, hf⟩; refine hK _ _ (hf.mono (fun x hx => Or.inl hx)) ?_; clear hK K)
                  have L7 := Lib.hid hL
                  have E7 := Lib.hid (Frm.tr E8.out (hf.mono (s' := fun x => x = ad k ∨ wr.heap.size ≤ x) (fun x hx => Or.inl hx)))
                  have K7 := Lib.hid (K8.out.frm hf (fun e => by have := G17.out; have := HAD.out; have e' : g17 = ad k := e; omega))
                  clear hL hf
                  try simp only [Act.put, List.setIfInBounds_toArray, List.set_cons_zero, List.set_cons_succ]
                  refine rz_take [7, 8, 10, 11] (i := 6) (v := ?_) rfl (by kernel_rfl) (by kernel_rfl) (by kernel_rfl) (by kernel_rfl) (by kernel_rfl) (by kernel_rfl) (fun _ _ _ h => h) (by rfl) ?_ ?_
                  rotate_left
                  · intro W hW; have hW0 := Frm.tr E7.out hW; clear hW; go_simp <;> with_reducible rfl
                  try simp only [Act.put, List.setIfInBounds_toArray, List.set_cons_zero, List.set_cons_succ]
                  refine rz_take [10, 11] (i := 7) (v := ?_) rfl (by kernel_rfl) (by kernel_rfl) (by kernel_rfl) (by kernel_rfl) (by kernel_rfl) (by kernel_rfl) (fun _ _ _ h => h) (by rfl) ?_ ?_
                  rotate_left
                  · intro W hW; have hW0 := Frm.tr E7.out hW; clear hW; go_simp <;> with_reducible rfl
                  try simp only [Act.put, List.setIfInBounds_toArray, List.set_cons_zero, List.set_cons_succ]
                  refine rz_take [11] (i := 8) (v := ?_) rfl (by kernel_rfl) (by kernel_rfl) (by kernel_rfl) (by kernel_rfl) (by kernel_rfl) (by kernel_rfl) (fun _ _ _ h => h) (by rfl) ?_ ?_
                  rotate_left
                  · intro W hW; have hW0 := Frm.tr E7.out hW; clear hW; go_simp <;> with_reducible rfl
                  try simp only [Act.put, List.setIfInBounds_toArray, List.set_cons_zero, List.set_cons_succ]
                  refine rz_call (i := 10) rfl (by kernel_rfl) (by rfl) (fun K hK => ?_)
                  have z0 := K7.out.cell 0
                  have f0 := K7.out.frozen 0
                  have z1 := K7.out.cell 1
                  have f1 := K7.out.frozen 1
                  have z2 := K7.out.cell 2
                  have f2 := K7.out.frozen 2
                  have z3 := K7.out.cell 3
                  have f3 := K7.out.frozen 3
                  have z4 := K7.out.cell 4
                  have f4 := K7.out.frozen 4
                  have z5 := K7.out.cell 5
                  have f5 := K7.out.frozen 5
                  have z6 := K7.out.cell 6
                  have f6 := K7.out.frozen 6
                  simp at z0 z1 z2 z3 z4 z5 z6
                  go_simp
                  refine hK _ _ (Frm.tr (Frm.tr (Frm.tr (Frm.tr (Frm.tr (Frm.tr (Frm.of_set _ _ _ (Or.inr G17.out)) (Frm.of_set _ _ _ (Or.inr G17.out))) (Frm.of_set _ _ _ (Or.inr G17.out))) (Frm.of_set _ _ _ (Or.inr G17.out))) (Frm.of_set _ _ _ (Or.inr G17.out))) (Frm.of_set _ _ _ (Or.inr G17.out))) (Frm.of_set _ _ _ (Or.inr G17.out))) ?_; clear hK K z0 z1 z2 z3 z4 z5 z6 f0 f1 f2 f3 f4 f5 f6
                  obtain ⟨w9, hw9⟩ : ∃ o, o = (((((((w7.setCell ⟨g17, 0, none⟩ (.int .i64 R.pr)).setCell ⟨g17, 1, none⟩ (.int .i64 R.pn)).setCell ⟨g17, 2, none⟩ (.int .i64 R.ar)).setCell ⟨g17, 3, none⟩ (.int .i64 R.an)).setCell ⟨g17, 4, none⟩ (.bool R.has)).setCell ⟨g17, 5, none⟩ (.int .i64 R.vep)).setCell ⟨g17, 6, none⟩ (.slice A7 rl c7)) := ⟨_, rfl⟩
                  have F9 : Hid (Frm (fun x => x = g17) w7 w9) := by (show Frm _ _ _); rw [hw9]; exact (Frm.tr (Frm.tr (Frm.tr (Frm.tr (Frm.tr (Frm.tr (Frm.of_set _ _ _ rfl) (Frm.of_set _ _ _ rfl)) (Frm.of_set _ _ _ rfl)) (Frm.of_set _ _ _ rfl)) (Frm.of_set _ _ _ rfl)) (Frm.of_set _ _ _ rfl)) (Frm.of_set _ _ _ rfl))
                  have K9 : Hid (Blk w9 g17 40 #[.int .i64 R.pr, .int .i64 R.pn, .int .i64 R.ar, .int .i64 R.an, .bool R.has, .int .i64 R.vep, .slice A7 rl c7]) := by (show Blk _ _ _ _); rw [hw9]; exact (((((((K7.out.set 0 (.int .i64 R.pr)).set 1 (.int .i64 R.pn)).set 2 (.int .i64 R.ar)).set 3 (.int .i64 R.an)).set 4 (.bool R.has)).set 5 (.int .i64 R.vep)).set 6 (.slice A7 rl c7))
                  have L9 := Lib.hid (L7.out.vote K7.out F9.out (Nat.le_trans HLP.out.ext.size G17.out) (by decide))
                  have E9 := Lib.hid (Frm.tr E7.out (F9.out.mono (s' := fun x => x = ad k ∨ wr.heap.size ≤ x) (fun x hx => Or.inr (by rw [hx]; exact G17.out))))
                  try rw [← hw9]
                  clear hw9
                  try simp only [Act.put, List.setIfInBounds_toArray, List.set_cons_zero, List.set_cons_succ]
                  refine rz_take [] (i := 11) (v := ?_) rfl (by kernel_rfl) (by kernel_rfl) (by kernel_rfl) (by kernel_rfl) (by kernel_rfl) (by kernel_rfl) (fun _ _ _ h => h) (by rfl) ?_ ?_
                  rotate_left
                  · intro W hW; have hW0 := Frm.tr E9.out hW; clear hW; go_simp <;> with_reducible rfl
                  try simp only [Act.put, List.setIfInBounds_toArray, List.set_cons_zero, List.set_cons_succ]
                  refine rz_done (by kernel_rfl) ?_ _
                  clear yA yB0 yB1
                  have v0 := K9.out.cell 0; have v1 := K9.out.cell 1; have v2 := K9.out.cell 2; have v3 := K9.out.cell 3; have v4 := K9.out.cell 4; have v5 := K9.out.cell 5; have v6 := K9.out.cell 6
                  simp at v0 v1 v2 v3 v4 v5 v6
                  by_cases hpe : pe = 0
                  · have CM : Hid (Calls Try.prog 17 #[.pointer (some ⟨P, 0, none⟩), .int .i64 k, .agg #[.int .i64 R.pr, .int .i64 R.pn, .int .i64 R.ar, .int .i64 R.an, .bool R.has, .int .i64 R.vep, .slice A7 rl c7]] w9 fun e w' => e = .returned (.bool (vOk v k ⟨R.pr, R.pn, R.ar, R.an, R.has, R.vep, A7, c7, R.vns⟩)) ∧ Loop w w' b P ga g7 (g7 + 1) gx gb gx #[.int .i64 xnode, .int .i64 xreach, .int .i64 xyes, .int .i64 xwant] 68 #[.int .i64 xnode, .int .i64 xreach, .int .i64 xyes, .int .i64 xwant] A7 c7 R.vns ad vs1' (vNext v k ⟨R.pr, R.pn, R.ar, R.an, R.has, R.vep, A7, c7, R.vns⟩) r2 z ce cl) := by rw [HRL.out]; exact Loop.promC (t := ⟨R.pr, R.pn, R.ar, R.an, R.has, R.vep, A7, c7, R.vns⟩) k L9.out (by have := HP.out.len; omega) (by have := HR5.out; simp only; omega)
                    have HPN := Lib.hid (HPV.out.prom hk5 ⟨R.pr, R.pn, R.ar, R.an, R.has, R.vep, A7, c7, R.vns⟩ (HRR.out hpe) HR5.out)
                    subst hpe
                    generalize vNext v k ⟨R.pr, R.pn, R.ar, R.an, R.has, R.vep, A7, c7, R.vns⟩ = vn at *
                    generalize vOk v k ⟨R.pr, R.pn, R.ar, R.an, R.has, R.vep, A7, c7, R.vns⟩ = okv at *
                    go_wp2_with (go_at_call 17; (with_reducible refine CM.out.mono ?_); rintro e wp ⟨rfl, hL⟩; have LP := Lib.hid hL; clear hL)
                    go_roundw
                    case rel => exact ⟨k + 1, vs1', vn, by omega, by go_num, LP.out.drop, HPN.out⟩
                    case measure => simp [intOf]; omega
                  · go_wp2
                    go_roundw
                    case rel => exact ⟨k + 1, vs1', v, by omega, by go_num, L9.out.drop, HPV.out.next⟩
                    case measure => simp [intOf]; omega
            · have h5 : k = 5 := by omega
              subst h5
              have hvn : v.n = 5 := HP.out.fix.1
              obtain ⟨KT, hT⟩ := HLP.out.tat
              have HTT := Lib.hid hT
              have hm5 : mostI v.n = 3 := by rw [hvn]; decide
              by_cases hrd : 3 ≤ v.pl.length
              · have CRE : Hid (∀ V, Ext wr V → Calls Try.prog 21 #[.pointer (some ⟨P, 0, none⟩)] V fun e w' => e = .returned (.bool true) ∧ Ext V w') := fun V h => by
                  have h7 := ready_any b P KT v V (HTT.out.stay h) (by omega)
                  rw [hm5, decide_eq_true (by omega)] at h7
                  exact h7
                obtain ⟨e9, he9⟩ : ∃ o, o = proE v := ⟨_, rfl⟩
                obtain ⟨l9, hl9⟩ : ∃ o, o = proL v := ⟨_, rfl⟩
                have hlen := HP.out.proLen
                have hp2 := HP.out.two
                have hch : 0 < ce → e9 = ce ∧ l9 = cl := fun h => by rw [he9, hl9]; exact HP.out.chosen hrd (HC.out h)
                rw [← hl9] at hlen
                rw [← he9, ← hl9] at hp2
                obtain ⟨ln, hln⟩ : ∃ o, o = l9.length := ⟨_, rfl⟩
                have HLN := Lib.hid hln
                have CCH : Hid (∀ V, Ext wr V → Calls Try.prog 24 #[.pointer (some ⟨P, 0, none⟩)] V fun e w' => ∃ A c, e = .returned (.agg #[.int .i64 e9, .slice A ln c]) ∧ InS (fun k => V.heap.size ≤ k) w' A c l9 ∧ Ext V w') := fun V h => by
                  have h5 : v.cl.length ≤ 1000000 := by rw [HP.out.fix.2.2.2.2.1]; simp
                  refine (chain_any b P KT v V (HTT.out.stay h) h5 (by have := HP.out.xl; omega) e9 l9 he9 hl9).mono ?_
                  rintro e w' ⟨u, he, ho, hx⟩
                  obtain ⟨A, c, rfl, hi⟩ := InS.own ho
                  exact ⟨A, c, by rw [hln]; exact he, hi, hx⟩
                have HL5 : Hid (l9.length ≤ 5) := hlen
                have HP20 := Lib.hid hp2
                have HCH := Lib.hid hch
                clear hT he9 hl9 hlen hp2 hch hln
                go_upto_region 32 with (first
                  | (go_at_call 21; (with_reducible refine (CRE.out _ (Ext.refl _)).mono ?_); rintro e w7 ⟨rfl, hx⟩; have X7 := Lib.hid hx; clear hx)
                  | (go_at_call 24; (with_reducible refine (CCH.out _ X7.out).mono ?_); rintro e w8 ⟨A9, c9, rfl, hi, hx⟩; have I8 := Lib.hid hi; have Y8 := Lib.hid hx; clear hi hx))
                have X8 : Hid (Ext wr w8) := Ext.trans X7.out Y8.out
                obtain ⟨g19, hg19⟩ : ∃ o, o = w8.heap.size := ⟨_, rfl⟩
                obtain ⟨w9, hw9⟩ : ∃ o, o = w8.alloc (.cells #[.int .i64 e9, .slice A9 ln c9] 26) := ⟨_, rfl⟩
                have X9 : Hid (Ext w8 w9) := by (show Ext _ _); rw [hw9]; exact Ext.alloc _ _
                have K19 : Hid (Blk w9 g19 26 #[.int .i64 e9, .slice A9 ln c9]) := by (show Blk _ _ _ _); rw [hw9, hg19]; exact Blk.new _ _ _
                have L9 : Hid (Loop w w9 b P ga g7 (g7 + 1) gx gb g19 #[.int .i64 xnode, .int .i64 xreach, .int .i64 xyes, .int .i64 xwant] 26 #[.int .i64 e9, .slice A9 ln c9] A9 c9 l9 ad vs1 v r2 z ce cl) := HLP.out.more (Ext.trans X8.out X9.out) K19.out (by rw [hg19]; exact X8.out.size) ((I8.out.stay X9.out).mono (fun k hk => Nat.le_trans X7.out.size hk)) (by decide)
                try rw [← hw9]
                try rw [← hg19]
                clear hw9 hg19
                go_wp2
                go_loopw [20] (fun kv wr => ∃ (k : Nat) (vs2 : Nat → AV) (v2 : TV), k ≤ 5 ∧ kv = .int .i64 k ∧ Hid (Loop w wr b P ga g7 (g7 + 1) gx gb g19 #[.int .i64 xnode, .int .i64 xreach, .int .i64 xyes, .int .i64 xwant] 26 #[.int .i64 e9, .slice A9 ln c9] A9 c9 l9 ad vs2 v2 r2 z ce cl) ∧ Hid (P2 vs r2 z e9 l9 k vs2 v2)) (fun kv _ => 5 - (intOf kv).toNat)
                case atStart => exact ⟨0, _, _, by omega, rfl, L9.out, HP20.out⟩
                case round =>
                  obtain ⟨k, vs2, v2, hk, rfl, HLQ, HP2⟩ := hrel
                  by_cases hk5 : k < 5
                  · have hk0 : (0 : Int) ≤ (k : Int) := by omega
                    have hk1 : (k : Int) < 5 := by omega
                    have HKX := Lib.hid HLQ.out.bx.1
                    obtain ⟨_, _, _, _, hq1, _⟩ := HLQ.out.rest.acc k hk5
                    have HKA := Lib.hid hq1
                    clear hq1
                    have x2 : ∀ W, Frm (oneA (ad k)) wr W → W.cell? ⟨gx, 2, none⟩ = some (.int .i64 xyes) := fun W h => (HKX.out.frm h (fun e => Blk.apart HKX.out HKA.out (by decide) e)).cell 2
                    obtain ⟨wd, hwd⟩ : ∃ o, o = wr.drew := ⟨_, rfl⟩
                    have HWD := Lib.hid hwd
                    have ED : Hid (Frm (oneA (ad k)) wr wd) := by (show Frm _ _ _); rw [hwd]; exact Frm.drew (Frm.refl _ _)
                    have XD : Hid (Ext wr wd) := by (show Ext _ _); rw [hwd]; exact Ext.drewR (Ext.refl _)
                    clear hwd
                    by_cases hy1 : (bits BinOp.and IntKind.i64 (xyes / 2 ^ min (IntKind.u64.wrap (k : Int)).toNat 64) 1 == 1) = true
                    · obtain ⟨ae, hae⟩ : ∃ o, o = accE (vs2 k) e9 l9 r2 z false := ⟨_, rfl⟩
                      obtain ⟨vs2', hvs⟩ : ∃ o, o = upd vs2 k (accV (vs2 k) e9 l9 r2 z false) := ⟨_, rfl⟩
                      have HPA : Hid (P2 vs r2 z e9 l9 k vs2' v2) := by (show P2 _ _ _ _ _ _ _ _); rw [hvs]; exact HP2.out.acc hk5
                      have HNW : Hid (ae = 0 → NewA r2 z e9 l9 (vs2' k)) := fun h => by rw [hvs, upd_eq]; unfold accV; rw [← hae, if_pos h]; exact ⟨rfl, rfl, rfl, rfl, rfl⟩
                      have CA4 : Hid (∀ V, Ext wr V → Calls Try.prog 32 #[.pointer (some ⟨ad k, 0, none⟩), .agg #[.int .i64 e9, .slice A9 ln c9], .agg #[.int .i64 r2, .int .i64 z], .bool false] V fun e w' => e = .returned (.int .i64 ae) ∧ Loop w w' b P ga g7 (g7 + 1) gx gb g19 #[.int .i64 xnode, .int .i64 xreach, .int .i64 xyes, .int .i64 xwant] 26 #[.int .i64 e9, .slice A9 ln c9] A9 c9 l9 ad vs2' v2 r2 z ce cl ∧ Frm (oneA (ad k)) V w') := fun V h => by rw [hae, hvs]; have h7 := (HLQ.out.stay h).accC (ep := e9) hk5 (HP2.out.ok k hk5).1 (by have := HL5.out; omega); rw [← HLN.out] at h7; exact h7
                      obtain ⟨cur, hgb, hgc⟩ := HLQ.out.rest.lst
                      have HGA : Hid (Blk wr ga 48 cur ∧ cur[k]? = some (pA (ad k))) := ⟨hgb, hgc k hk5⟩
                      have HBB := Lib.hid HLQ.out.bb.1
                      have HBC := Lib.hid HLQ.out.bc
                      have yA : ∀ W, Frm (oneA (ad k)) wr W → W.cell? ⟨ga, k, none⟩ = some (.pointer (some ⟨ad k, 0, none⟩)) := fun W h => by rw [(HGA.out.1.frm h (fun e => Blk.apart HGA.out.1 HKA.out (by decide) e)).cell k]; exact HGA.out.2
                      have yB0 : ∀ W, Frm (oneA (ad k)) wr W → W.cell? ⟨gb, 0, none⟩ = some (.int .i64 r2) := fun W h => (HBB.out.frm h (fun e => Blk.apart HBB.out HKA.out (by decide) e)).cell 0
                      have yB1 : ∀ W, Frm (oneA (ad k)) wr W → W.cell? ⟨gb, 1, none⟩ = some (.int .i64 z) := fun W h => (HBB.out.frm h (fun e => Blk.apart HBB.out HKA.out (by decide) e)).cell 1
                      have yC0 : ∀ W, Frm (oneA (ad k)) wr W → W.cell? ⟨g19, 0, none⟩ = some (.int .i64 e9) := fun W h => (HBC.out.frm h (fun e => Blk.apart HBC.out HKA.out (by decide) e)).cell 0
                      have yC1 : ∀ W, Frm (oneA (ad k)) wr W → W.cell? ⟨g19, 1, none⟩ = some (.slice A9 ln c9) := fun W h => (HBC.out.frm h (fun e => Blk.apart HBC.out HKA.out (by decide) e)).cell 1
                      clear hae hvs hgb hgc
                      by_cases ha0 : ae = 0
                      · subst ha0
                        go_wp2
                        refine rz_begin (oneA (ad k)) [] (by kernel_rfl) ?_
                        rw [← HWD.out]
                        refine rz_take [1, 4, 5, 6, 7, 8, 9, 10, 11, 12, 13, 14, 15, 16] (i := 0) (v := ?_) rfl (by kernel_rfl) (by kernel_rfl) (by kernel_rfl) (by kernel_rfl) (by kernel_rfl) (by kernel_rfl) (fun _ _ _ h => h) (by rfl) ?_ ?_
                        rotate_left
                        · intro W hW; have hW0 := Frm.tr ED.out hW; clear hW; go_simp <;> with_reducible rfl
                        try simp only [Act.put, List.setIfInBounds_toArray, List.set_cons_zero, List.set_cons_succ]
                        refine rz_take [4, 5, 6, 7, 8, 9, 10, 11, 12, 13, 14, 15, 16] (i := 1) (v := ?_) rfl (by kernel_rfl) (by kernel_rfl) (by kernel_rfl) (by kernel_rfl) (by kernel_rfl) (by kernel_rfl) (fun _ _ _ h => h) (by rfl) ?_ ?_
                        rotate_left
                        · intro W hW; have hW0 := Frm.tr ED.out hW; clear hW; go_simp <;> with_reducible rfl
                        try simp only [Act.put, List.setIfInBounds_toArray, List.set_cons_zero, List.set_cons_succ]
                        refine rz_take [3, 4, 5, 6, 7, 8, 9, 10, 11, 12, 13, 14, 15, 16] (i := 2) (v := ?_) rfl (by kernel_rfl) (by kernel_rfl) (by kernel_rfl) (by kernel_rfl) (by kernel_rfl) (by kernel_rfl) (fun _ _ _ h => h) (by rfl) ?_ ?_
                        rotate_left
                        · intro W hW; have hW0 := Frm.tr ED.out hW; clear hW; go_simp <;> with_reducible rfl
                        try simp only [Act.put, List.setIfInBounds_toArray, List.set_cons_zero, List.set_cons_succ]
                        refine rz_take [4, 5, 6, 7, 8, 9, 10, 11, 12, 13, 14, 15, 16] (i := 3) (v := ?_) rfl (by kernel_rfl) (by kernel_rfl) (by kernel_rfl) (by kernel_rfl) (by kernel_rfl) (by kernel_rfl) (fun _ _ _ h => h) (by rfl) ?_ ?_
                        rotate_left
                        · intro W hW; have hW0 := Frm.tr ED.out hW; clear hW; go_simp <;> with_reducible rfl
                        try simp only [Act.put, List.setIfInBounds_toArray, List.set_cons_zero, List.set_cons_succ]
                        refine rz_take [5, 6, 7, 8, 9, 10, 11, 12, 13, 14, 15, 16] (i := 4) (v := ?_) rfl (by kernel_rfl) (by kernel_rfl) (by kernel_rfl) (by kernel_rfl) (by kernel_rfl) (by kernel_rfl) (fun _ _ _ h => h) (by rfl) ?_ ?_
                        rotate_left
                        · intro W hW; have hW0 := Frm.tr ED.out hW; clear hW; go_simp <;> with_reducible rfl
                        try simp only [Act.put, List.setIfInBounds_toArray, List.set_cons_zero, List.set_cons_succ]
                        refine rz_take [6, 7, 8, 9, 10, 11, 12, 13, 14, 15, 16] (i := 5) (v := ?_) rfl (by kernel_rfl) (by kernel_rfl) (by kernel_rfl) (by kernel_rfl) (by kernel_rfl) (by kernel_rfl) (fun _ _ _ h => h) (by rfl) ?_ ?_
                        rotate_left
                        · intro W hW; have hW0 := Frm.tr ED.out hW; clear hW; go_simp <;> with_reducible rfl
                        try simp only [Act.put, List.setIfInBounds_toArray, List.set_cons_zero, List.set_cons_succ]
                        refine rz_take [7, 8, 9, 10, 11, 12, 13, 14, 15, 16] (i := 6) (v := ?_) rfl (by kernel_rfl) (by kernel_rfl) (by kernel_rfl) (by kernel_rfl) (by kernel_rfl) (by kernel_rfl) (fun _ _ _ h => h) (by rfl) ?_ ?_
                        rotate_left
                        · intro W hW; have hW0 := Frm.tr ED.out hW; clear hW; go_simp <;> with_reducible rfl
                        try simp only [Act.put, List.setIfInBounds_toArray, List.set_cons_zero, List.set_cons_succ]
                        refine rz_take [8, 9, 10, 11, 12, 13, 14, 15, 16] (i := 7) (v := ?_) rfl (by kernel_rfl) (by kernel_rfl) (by kernel_rfl) (by kernel_rfl) (by kernel_rfl) (by kernel_rfl) (fun _ _ _ h => h) (by rfl) ?_ ?_
                        rotate_left
                        · intro W hW; have hW0 := Frm.tr ED.out hW; clear hW; go_simp <;> with_reducible rfl
                        try simp only [Act.put, List.setIfInBounds_toArray, List.set_cons_zero, List.set_cons_succ]
                        refine rz_take [10, 11, 14, 15, 16] (i := 8) (v := ?_) rfl (by kernel_rfl) (by kernel_rfl) (by kernel_rfl) (by kernel_rfl) (by kernel_rfl) (by kernel_rfl) (fun _ _ _ h => h) (by rfl) ?_ ?_
                        rotate_left
                        · intro W hW; have hW0 := Frm.tr ED.out hW; clear hW; go_simp <;> with_reducible rfl
                        try simp only [Act.put, List.setIfInBounds_toArray, List.set_cons_zero, List.set_cons_succ]
                        refine rz_take [10, 11, 14, 15, 16] (i := 9) (v := ?_) rfl (by kernel_rfl) (by kernel_rfl) (by kernel_rfl) (by kernel_rfl) (by kernel_rfl) (by kernel_rfl) (fun _ _ _ h => h) (by rfl) ?_ ?_
                        rotate_left
                        · intro W hW; have hW0 := Frm.tr ED.out hW; clear hW; go_simp <;> with_reducible rfl
                        try simp only [Act.put, List.setIfInBounds_toArray, List.set_cons_zero, List.set_cons_succ]
                        refine rz_take [11, 14, 15, 16] (i := 10) (v := ?_) rfl (by kernel_rfl) (by kernel_rfl) (by kernel_rfl) (by kernel_rfl) (by kernel_rfl) (by kernel_rfl) (fun _ _ _ h => h) (by rfl) ?_ ?_
                        rotate_left
                        · intro W hW; have hW0 := Frm.tr ED.out hW; clear hW; go_simp <;> with_reducible rfl
                        try simp only [Act.put, List.setIfInBounds_toArray, List.set_cons_zero, List.set_cons_succ]
                        refine rz_take [14, 15, 16] (i := 11) (v := ?_) rfl (by kernel_rfl) (by kernel_rfl) (by kernel_rfl) (by kernel_rfl) (by kernel_rfl) (by kernel_rfl) (fun _ _ _ h => h) (by rfl) ?_ ?_
                        rotate_left
                        · intro W hW; have hW0 := Frm.tr ED.out hW; clear hW; go_simp <;> with_reducible rfl
                        try simp only [Act.put, List.setIfInBounds_toArray, List.set_cons_zero, List.set_cons_succ]
                        refine rz_take [14, 15, 16] (i := 12) (v := ?_) rfl (by kernel_rfl) (by kernel_rfl) (by kernel_rfl) (by kernel_rfl) (by kernel_rfl) (by kernel_rfl) (fun _ _ _ h => h) (by rfl) ?_ ?_
                        rotate_left
                        · intro W hW; have hW0 := Frm.tr ED.out hW; clear hW; go_simp <;> with_reducible rfl
                        try simp only [Act.put, List.setIfInBounds_toArray, List.set_cons_zero, List.set_cons_succ]
                        refine rz_take [14, 15, 16] (i := 13) (v := ?_) rfl (by kernel_rfl) (by kernel_rfl) (by kernel_rfl) (by kernel_rfl) (by kernel_rfl) (by kernel_rfl) (fun _ _ _ h => h) (by rfl) ?_ ?_
                        rotate_left
                        · intro W hW; have hW0 := Frm.tr ED.out hW; clear hW; go_simp <;> with_reducible rfl
                        try simp only [Act.put, List.setIfInBounds_toArray, List.set_cons_zero, List.set_cons_succ]
                        refine rz_call (i := 14) rfl (by kernel_rfl) (by rfl) (fun K hK => ?_)
                        go_simp
                        (go_at_call 32; (with_reducible refine (CA4.out _ XD.out).mono ?_); rintro e w7 ⟨rfl, hL, hf⟩; refine hK _ _ hf ?_; clear hK K)
                        have L7 := Lib.hid hL
                        have E7 := Lib.hid (Frm.tr ED.out hf)
                        clear hL hf
                        try simp only [Act.put, List.setIfInBounds_toArray, List.set_cons_zero, List.set_cons_succ]
                        refine rz_take [16] (i := 15) (v := ?_) rfl (by kernel_rfl) (by kernel_rfl) (by kernel_rfl) (by kernel_rfl) (by kernel_rfl) (by kernel_rfl) (fun _ _ _ h => h) (by rfl) ?_ ?_
                        rotate_left
                        · intro W hW; have hW0 := Frm.tr E7.out hW; clear hW; go_simp <;> with_reducible rfl
                        try simp only [Act.put, List.setIfInBounds_toArray, List.set_cons_zero, List.set_cons_succ]
                        refine rz_take [] (i := 16) (v := ?_) rfl (by kernel_rfl) (by kernel_rfl) (by kernel_rfl) (by kernel_rfl) (by kernel_rfl) (by kernel_rfl) (fun _ _ _ h => h) (by rfl) ?_ ?_
                        rotate_left
                        · intro W hW; have hW0 := Frm.tr E7.out hW; clear hW; go_simp <;> with_reducible rfl
                        try simp only [Act.put, List.setIfInBounds_toArray, List.set_cons_zero, List.set_cons_succ]
                        refine rz_done (by kernel_rfl) ?_ _
                        clear x2 yA yB0 yB1 yC0 yC1
                        have CY : Hid (Calls Try.prog 19 #[.pointer (some ⟨P, 0, none⟩), .int .i64 k] w7 fun e w' => e = .returned (.bool (yOk v2 k)) ∧ Loop w w' b P ga g7 (g7 + 1) gx gb g19 #[.int .i64 xnode, .int .i64 xreach, .int .i64 xyes, .int .i64 xwant] 26 #[.int .i64 e9, .slice A9 ln c9] A9 c9 l9 ad vs2' (yNext v2 k) r2 z ce cl) := L7.out.yesC k HP2.out.fix (by have := HP2.out.len; omega)
                        have HPY := Lib.hid (HPA.out.yes (HNW.out (by first | exact rfl | exact trivial)))
                        generalize yNext v2 k = vn at *
                        generalize yOk v2 k = okv at *
                        go_wp2_with (go_at_call 19; (with_reducible refine CY.out.mono ?_); rintro e wp ⟨rfl, hL⟩; have LP := Lib.hid hL; clear hL)
                        go_roundw
                        case rel => exact ⟨k + 1, vs2', vn, by omega, by go_num, LP.out, HPY.out⟩
                        case measure => simp [intOf]; omega
                      · go_wp2
                        refine rz_begin (oneA (ad k)) [] (by kernel_rfl) ?_
                        rw [← HWD.out]
                        refine rz_take [1, 4, 5, 6, 7, 8, 9, 10, 11, 12, 13, 14, 15, 16] (i := 0) (v := ?_) rfl (by kernel_rfl) (by kernel_rfl) (by kernel_rfl) (by kernel_rfl) (by kernel_rfl) (by kernel_rfl) (fun _ _ _ h => h) (by rfl) ?_ ?_
                        rotate_left
                        · intro W hW; have hW0 := Frm.tr ED.out hW; clear hW; go_simp <;> with_reducible rfl
                        try simp only [Act.put, List.setIfInBounds_toArray, List.set_cons_zero, List.set_cons_succ]
                        refine rz_take [4, 5, 6, 7, 8, 9, 10, 11, 12, 13, 14, 15, 16] (i := 1) (v := ?_) rfl (by kernel_rfl) (by kernel_rfl) (by kernel_rfl) (by kernel_rfl) (by kernel_rfl) (by kernel_rfl) (fun _ _ _ h => h) (by rfl) ?_ ?_
                        rotate_left
                        · intro W hW; have hW0 := Frm.tr ED.out hW; clear hW; go_simp <;> with_reducible rfl
                        try simp only [Act.put, List.setIfInBounds_toArray, List.set_cons_zero, List.set_cons_succ]
                        refine rz_take [3, 4, 5, 6, 7, 8, 9, 10, 11, 12, 13, 14, 15, 16] (i := 2) (v := ?_) rfl (by kernel_rfl) (by kernel_rfl) (by kernel_rfl) (by kernel_rfl) (by kernel_rfl) (by kernel_rfl) (fun _ _ _ h => h) (by rfl) ?_ ?_
                        rotate_left
                        · intro W hW; have hW0 := Frm.tr ED.out hW; clear hW; go_simp <;> with_reducible rfl
                        try simp only [Act.put, List.setIfInBounds_toArray, List.set_cons_zero, List.set_cons_succ]
                        refine rz_take [4, 5, 6, 7, 8, 9, 10, 11, 12, 13, 14, 15, 16] (i := 3) (v := ?_) rfl (by kernel_rfl) (by kernel_rfl) (by kernel_rfl) (by kernel_rfl) (by kernel_rfl) (by kernel_rfl) (fun _ _ _ h => h) (by rfl) ?_ ?_
                        rotate_left
                        · intro W hW; have hW0 := Frm.tr ED.out hW; clear hW; go_simp <;> with_reducible rfl
                        try simp only [Act.put, List.setIfInBounds_toArray, List.set_cons_zero, List.set_cons_succ]
                        refine rz_take [5, 6, 7, 8, 9, 10, 11, 12, 13, 14, 15, 16] (i := 4) (v := ?_) rfl (by kernel_rfl) (by kernel_rfl) (by kernel_rfl) (by kernel_rfl) (by kernel_rfl) (by kernel_rfl) (fun _ _ _ h => h) (by rfl) ?_ ?_
                        rotate_left
                        · intro W hW; have hW0 := Frm.tr ED.out hW; clear hW; go_simp <;> with_reducible rfl
                        try simp only [Act.put, List.setIfInBounds_toArray, List.set_cons_zero, List.set_cons_succ]
                        refine rz_take [6, 7, 8, 9, 10, 11, 12, 13, 14, 15, 16] (i := 5) (v := ?_) rfl (by kernel_rfl) (by kernel_rfl) (by kernel_rfl) (by kernel_rfl) (by kernel_rfl) (by kernel_rfl) (fun _ _ _ h => h) (by rfl) ?_ ?_
                        rotate_left
                        · intro W hW; have hW0 := Frm.tr ED.out hW; clear hW; go_simp <;> with_reducible rfl
                        try simp only [Act.put, List.setIfInBounds_toArray, List.set_cons_zero, List.set_cons_succ]
                        refine rz_take [7, 8, 9, 10, 11, 12, 13, 14, 15, 16] (i := 6) (v := ?_) rfl (by kernel_rfl) (by kernel_rfl) (by kernel_rfl) (by kernel_rfl) (by kernel_rfl) (by kernel_rfl) (fun _ _ _ h => h) (by rfl) ?_ ?_
                        rotate_left
                        · intro W hW; have hW0 := Frm.tr ED.out hW; clear hW; go_simp <;> with_reducible rfl
                        try simp only [Act.put, List.setIfInBounds_toArray, List.set_cons_zero, List.set_cons_succ]
                        refine rz_take [8, 9, 10, 11, 12, 13, 14, 15, 16] (i := 7) (v := ?_) rfl (by kernel_rfl) (by kernel_rfl) (by kernel_rfl) (by kernel_rfl) (by kernel_rfl) (by kernel_rfl) (fun _ _ _ h => h) (by rfl) ?_ ?_
                        rotate_left
                        · intro W hW; have hW0 := Frm.tr ED.out hW; clear hW; go_simp <;> with_reducible rfl
                        try simp only [Act.put, List.setIfInBounds_toArray, List.set_cons_zero, List.set_cons_succ]
                        refine rz_take [10, 11, 14, 15, 16] (i := 8) (v := ?_) rfl (by kernel_rfl) (by kernel_rfl) (by kernel_rfl) (by kernel_rfl) (by kernel_rfl) (by kernel_rfl) (fun _ _ _ h => h) (by rfl) ?_ ?_
                        rotate_left
                        · intro W hW; have hW0 := Frm.tr ED.out hW; clear hW; go_simp <;> with_reducible rfl
                        try simp only [Act.put, List.setIfInBounds_toArray, List.set_cons_zero, List.set_cons_succ]
                        refine rz_take [10, 11, 14, 15, 16] (i := 9) (v := ?_) rfl (by kernel_rfl) (by kernel_rfl) (by kernel_rfl) (by kernel_rfl) (by kernel_rfl) (by kernel_rfl) (fun _ _ _ h => h) (by rfl) ?_ ?_
                        rotate_left
                        · intro W hW; have hW0 := Frm.tr ED.out hW; clear hW; go_simp <;> with_reducible rfl
                        try simp only [Act.put, List.setIfInBounds_toArray, List.set_cons_zero, List.set_cons_succ]
                        refine rz_take [11, 14, 15, 16] (i := 10) (v := ?_) rfl (by kernel_rfl) (by kernel_rfl) (by kernel_rfl) (by kernel_rfl) (by kernel_rfl) (by kernel_rfl) (fun _ _ _ h => h) (by rfl) ?_ ?_
                        rotate_left
                        · intro W hW; have hW0 := Frm.tr ED.out hW; clear hW; go_simp <;> with_reducible rfl
                        try simp only [Act.put, List.setIfInBounds_toArray, List.set_cons_zero, List.set_cons_succ]
                        refine rz_take [14, 15, 16] (i := 11) (v := ?_) rfl (by kernel_rfl) (by kernel_rfl) (by kernel_rfl) (by kernel_rfl) (by kernel_rfl) (by kernel_rfl) (fun _ _ _ h => h) (by rfl) ?_ ?_
                        rotate_left
                        · intro W hW; have hW0 := Frm.tr ED.out hW; clear hW; go_simp <;> with_reducible rfl
                        try simp only [Act.put, List.setIfInBounds_toArray, List.set_cons_zero, List.set_cons_succ]
                        refine rz_take [14, 15, 16] (i := 12) (v := ?_) rfl (by kernel_rfl) (by kernel_rfl) (by kernel_rfl) (by kernel_rfl) (by kernel_rfl) (by kernel_rfl) (fun _ _ _ h => h) (by rfl) ?_ ?_
                        rotate_left
                        · intro W hW; have hW0 := Frm.tr ED.out hW; clear hW; go_simp <;> with_reducible rfl
                        try simp only [Act.put, List.setIfInBounds_toArray, List.set_cons_zero, List.set_cons_succ]
                        refine rz_take [14, 15, 16] (i := 13) (v := ?_) rfl (by kernel_rfl) (by kernel_rfl) (by kernel_rfl) (by kernel_rfl) (by kernel_rfl) (by kernel_rfl) (fun _ _ _ h => h) (by rfl) ?_ ?_
                        rotate_left
                        · intro W hW; have hW0 := Frm.tr ED.out hW; clear hW; go_simp <;> with_reducible rfl
                        try simp only [Act.put, List.setIfInBounds_toArray, List.set_cons_zero, List.set_cons_succ]
                        refine rz_call (i := 14) rfl (by kernel_rfl) (by rfl) (fun K hK => ?_)
                        go_simp
                        (go_at_call 32; (with_reducible refine (CA4.out _ XD.out).mono ?_); rintro e w7 ⟨rfl, hL, hf⟩; refine hK _ _ hf ?_; clear hK K)
                        have L7 := Lib.hid hL
                        have E7 := Lib.hid (Frm.tr ED.out hf)
                        clear hL hf
                        try simp only [Act.put, List.setIfInBounds_toArray, List.set_cons_zero, List.set_cons_succ]
                        refine rz_take [16] (i := 15) (v := ?_) rfl (by kernel_rfl) (by kernel_rfl) (by kernel_rfl) (by kernel_rfl) (by kernel_rfl) (by kernel_rfl) (fun _ _ _ h => h) (by rfl) ?_ ?_
                        rotate_left
                        · intro W hW; have hW0 := Frm.tr E7.out hW; clear hW; go_simp <;> with_reducible rfl
                        try simp only [Act.put, List.setIfInBounds_toArray, List.set_cons_zero, List.set_cons_succ]
                        refine rz_take [] (i := 16) (v := ?_) rfl (by kernel_rfl) (by kernel_rfl) (by kernel_rfl) (by kernel_rfl) (by kernel_rfl) (by kernel_rfl) (fun _ _ _ h => h) (by rfl) ?_ ?_
                        rotate_left
                        · intro W hW; have hW0 := Frm.tr E7.out hW; clear hW; go_simp <;> with_reducible rfl
                        try simp only [Act.put, List.setIfInBounds_toArray, List.set_cons_zero, List.set_cons_succ]
                        refine rz_done (by kernel_rfl) ?_ _
                        clear x2 yA yB0 yB1 yC0 yC1
                        go_wp2
                        go_roundw
                        case rel => exact ⟨k + 1, vs2', v2, by omega, by go_num, L7.out, HPA.out.next⟩
                        case measure => simp [intOf]; omega
                    · replace hy1 := Bool.eq_false_iff.2 hy1
                      go_wp2
                      refine rz_begin (oneA (ad k)) [] (by kernel_rfl) ?_
                      rw [← HWD.out]
                      refine rz_take [1, 4, 5, 6, 7, 8, 9, 10, 11, 12, 13, 14, 15, 16] (i := 0) (v := ?_) rfl (by kernel_rfl) (by kernel_rfl) (by kernel_rfl) (by kernel_rfl) (by kernel_rfl) (by kernel_rfl) (fun _ _ _ h => h) (by rfl) ?_ ?_
                      rotate_left
                      · intro W hW; have hW0 := Frm.tr ED.out hW; clear hW; go_simp <;> with_reducible rfl
                      try simp only [Act.put, List.setIfInBounds_toArray, List.set_cons_zero, List.set_cons_succ]
                      refine rz_take [4, 5, 6, 7, 8, 9, 10, 11, 12, 13, 14, 15, 16] (i := 1) (v := ?_) rfl (by kernel_rfl) (by kernel_rfl) (by kernel_rfl) (by kernel_rfl) (by kernel_rfl) (by kernel_rfl) (fun _ _ _ h => h) (by rfl) ?_ ?_
                      rotate_left
                      · intro W hW; have hW0 := Frm.tr ED.out hW; clear hW; go_simp <;> with_reducible rfl
                      try simp only [Act.put, List.setIfInBounds_toArray, List.set_cons_zero, List.set_cons_succ]
                      refine rz_take [3, 4, 5, 6, 7, 8, 9, 10, 11, 12, 13, 14, 15, 16] (i := 2) (v := ?_) rfl (by kernel_rfl) (by kernel_rfl) (by kernel_rfl) (by kernel_rfl) (by kernel_rfl) (by kernel_rfl) (fun _ _ _ h => h) (by rfl) ?_ ?_
                      rotate_left
                      · intro W hW; have hW0 := Frm.tr ED.out hW; clear hW; go_simp <;> with_reducible rfl
                      try simp only [Act.put, List.setIfInBounds_toArray, List.set_cons_zero, List.set_cons_succ]
                      refine rz_take [4, 5, 6, 7, 8, 9, 10, 11, 12, 13, 14, 15, 16] (i := 3) (v := ?_) rfl (by kernel_rfl) (by kernel_rfl) (by kernel_rfl) (by kernel_rfl) (by kernel_rfl) (by kernel_rfl) (fun _ _ _ h => h) (by rfl) ?_ ?_
                      rotate_left
                      · intro W hW; have hW0 := Frm.tr ED.out hW; clear hW; go_simp <;> with_reducible rfl
                      try simp only [Act.put, List.setIfInBounds_toArray, List.set_cons_zero, List.set_cons_succ]
                      refine rz_take [5, 6, 7, 8, 9, 10, 11, 12, 13, 14, 15, 16] (i := 4) (v := ?_) rfl (by kernel_rfl) (by kernel_rfl) (by kernel_rfl) (by kernel_rfl) (by kernel_rfl) (by kernel_rfl) (fun _ _ _ h => h) (by rfl) ?_ ?_
                      rotate_left
                      · intro W hW; have hW0 := Frm.tr ED.out hW; clear hW; go_simp <;> with_reducible rfl
                      try simp only [Act.put, List.setIfInBounds_toArray, List.set_cons_zero, List.set_cons_succ]
                      refine rz_take [6, 7, 8, 9, 10, 11, 12, 13, 14, 15, 16] (i := 5) (v := ?_) rfl (by kernel_rfl) (by kernel_rfl) (by kernel_rfl) (by kernel_rfl) (by kernel_rfl) (by kernel_rfl) (fun _ _ _ h => h) (by rfl) ?_ ?_
                      rotate_left
                      · intro W hW; have hW0 := Frm.tr ED.out hW; clear hW; go_simp <;> with_reducible rfl
                      try simp only [Act.put, List.setIfInBounds_toArray, List.set_cons_zero, List.set_cons_succ]
                      refine rz_take [7, 8, 9, 10, 11, 12, 13, 14, 15, 16] (i := 6) (v := ?_) rfl (by kernel_rfl) (by kernel_rfl) (by kernel_rfl) (by kernel_rfl) (by kernel_rfl) (by kernel_rfl) (fun _ _ _ h => h) (by rfl) ?_ ?_
                      rotate_left
                      · intro W hW; have hW0 := Frm.tr ED.out hW; clear hW; go_simp <;> with_reducible rfl
                      try simp only [Act.put, List.setIfInBounds_toArray, List.set_cons_zero, List.set_cons_succ]
                      refine rz_take [8, 9, 10, 11, 12, 13, 14, 15, 16] (i := 7) (v := ?_) rfl (by kernel_rfl) (by kernel_rfl) (by kernel_rfl) (by kernel_rfl) (by kernel_rfl) (by kernel_rfl) (fun _ _ _ h => h) (by rfl) ?_ ?_
                      rotate_left
                      · intro W hW; have hW0 := Frm.tr ED.out hW; clear hW; go_simp <;> with_reducible rfl
                      try simp only [Act.put, List.setIfInBounds_toArray, List.set_cons_zero, List.set_cons_succ]
                      refine rz_skip [10, 11, 14, 15, 16] (i := 8) rfl (by kernel_rfl) (by kernel_rfl) (by kernel_rfl) (by kernel_rfl) (by kernel_rfl) (by kernel_rfl) (fun _ _ _ h => h) (by rfl) ?_
                      try simp only [Act.put, List.setIfInBounds_toArray, List.set_cons_zero, List.set_cons_succ]
                      refine rz_skip [10, 11, 14, 15, 16] (i := 9) rfl (by kernel_rfl) (by kernel_rfl) (by kernel_rfl) (by kernel_rfl) (by kernel_rfl) (by kernel_rfl) (fun _ _ _ h => h) (by rfl) ?_
                      try simp only [Act.put, List.setIfInBounds_toArray, List.set_cons_zero, List.set_cons_succ]
                      refine rz_skip [11, 14, 15, 16] (i := 10) rfl (by kernel_rfl) (by kernel_rfl) (by kernel_rfl) (by kernel_rfl) (by kernel_rfl) (by kernel_rfl) (fun _ _ _ h => h) (by rfl) ?_
                      try simp only [Act.put, List.setIfInBounds_toArray, List.set_cons_zero, List.set_cons_succ]
                      refine rz_skip [14, 15, 16] (i := 11) rfl (by kernel_rfl) (by kernel_rfl) (by kernel_rfl) (by kernel_rfl) (by kernel_rfl) (by kernel_rfl) (fun _ _ _ h => h) (by rfl) ?_
                      try simp only [Act.put, List.setIfInBounds_toArray, List.set_cons_zero, List.set_cons_succ]
                      refine rz_skip [14, 15, 16] (i := 12) rfl (by kernel_rfl) (by kernel_rfl) (by kernel_rfl) (by kernel_rfl) (by kernel_rfl) (by kernel_rfl) (fun _ _ _ h => h) (by rfl) ?_
                      try simp only [Act.put, List.setIfInBounds_toArray, List.set_cons_zero, List.set_cons_succ]
                      refine rz_skip [14, 15, 16] (i := 13) rfl (by kernel_rfl) (by kernel_rfl) (by kernel_rfl) (by kernel_rfl) (by kernel_rfl) (by kernel_rfl) (fun _ _ _ h => h) (by rfl) ?_
                      try simp only [Act.put, List.setIfInBounds_toArray, List.set_cons_zero, List.set_cons_succ]
                      refine rz_skip [15, 16] (i := 14) rfl (by kernel_rfl) (by kernel_rfl) (by kernel_rfl) (by kernel_rfl) (by kernel_rfl) (by kernel_rfl) (fun _ _ _ h => h) (by rfl) ?_
                      try simp only [Act.put, List.setIfInBounds_toArray, List.set_cons_zero, List.set_cons_succ]
                      refine rz_skip [16] (i := 15) rfl (by kernel_rfl) (by kernel_rfl) (by kernel_rfl) (by kernel_rfl) (by kernel_rfl) (by kernel_rfl) (fun _ _ _ h => h) (by rfl) ?_
                      try simp only [Act.put, List.setIfInBounds_toArray, List.set_cons_zero, List.set_cons_succ]
                      refine rz_take [] (i := 16) (v := ?_) rfl (by kernel_rfl) (by kernel_rfl) (by kernel_rfl) (by kernel_rfl) (by kernel_rfl) (by kernel_rfl) (fun _ _ _ h => h) (by rfl) ?_ ?_
                      rotate_left
                      · intro W hW; have hW0 := Frm.tr ED.out hW; clear hW; go_simp <;> with_reducible rfl
                      try simp only [Act.put, List.setIfInBounds_toArray, List.set_cons_zero, List.set_cons_succ]
                      refine rz_done (by kernel_rfl) ?_ _
                      clear x2
                      go_wp2
                      go_roundw
                      case rel => exact ⟨k + 1, vs2, v2, by omega, by go_num, HLQ.out.stay XD.out, HP2.out.next⟩
                      case measure => simp [intOf]; omega
                  · have h5 : k = 5 := by omega
                    subst h5
                    obtain ⟨KT2, hT2⟩ := HLQ.out.tat
                    have HTT2 := Lib.hid hT2
                    clear hT2
                    have hm52 : mostI v2.n = 3 := by rw [HP2.out.fix]; decide
                    by_cases hdn : 3 ≤ v2.sl.length
                    · have CDO : Hid (∀ V, Ext wr V → Calls Try.prog 22 #[.pointer (some ⟨P, 0, none⟩)] V fun e w' => e = .returned (.bool true) ∧ Ext V w') := fun V h => by
                        have h7 := done_any b P KT2 v2 V (HTT2.out.stay h) (by rw [HP2.out.fix]; omega)
                        rw [hm52, decide_eq_true (by omega)] at h7
                        exact h7
                      go_upto_region 38 with (go_at_call 22; (with_reducible refine (CDO.out _ (Ext.refl _)).mono ?_); rintro e w38 ⟨rfl, hx⟩; have X38 := Lib.hid hx; clear hx)
                      have LDN := Lib.hid (HLQ.out.stay X38.out)
                      obtain ⟨A7, c7, hb7, hi7⟩ := LDN.out.rest.ch
                      obtain ⟨lc, hlc⟩ : ∃ o, o = cl.length := ⟨_, rfl⟩
                      rw [← hlc] at hb7
                      have HB7 := Lib.hid hb7
                      have HBC := Lib.hid LDN.out.bc
                      have E38 : Hid (Ext w38 w38) := Ext.refl _
                      have w0 := HB7.out.cell 0
                      have w1 := HB7.out.cell 1
                      have w2 := HBC.out.cell 0
                      have w3 := HBC.out.cell 1
                      simp at w0 w1 w2 w3
                      by_cases hce : 0 < ce
                      · have CS : Hid (∀ V, Ext w38 V → Calls Try.prog 23 #[.agg #[.int .i64 ce, .slice A7 lc c7], .agg #[.int .i64 e9, .slice A9 ln c9]] V fun e w' => e = .returned (.bool true) ∧ Ext V w') := fun V h => by
                          obtain ⟨q1, q2⟩ := HCH.out hce
                          have h7 := sameRef_any ce e9 A7 A9 c7 c9 cl l9 V (by have := HCL.out; omega) (by have := HL5.out; omega) (hi7.sl.stay h) (LDN.out.sl.2.stay h)
                          rw [decide_eq_true ⟨q1.symm, q2.symm⟩, ← hlc, ← HLN.out] at h7
                          exact h7
                        clear hb7 hi7 hlc
                        go_upto_region 40 with (go_at_call 23; (with_reducible refine (CS.out _ (Ext.refl _)).mono ?_); rintro e w39 ⟨rfl, hx⟩; have Ew39 := Lib.hid hx; clear hx)
                        clear w0 w1 w2 w3
                        have LE := Lib.hid (LDN.out.stay Ew39.out)
                        have RE := Lib.hid (LE.out.rest)
                        have KE : Hid (In w39 A9 c9 l9) := LE.out.inn
                        obtain ⟨A7, c7, hb7, _⟩ := RE.out.ch
                        have KB7 := Lib.hid hb7
                        have u0 := hb7.cell 0
                        have u1 := hb7.cell 1
                        have f0 := hb7.frozen 0
                        have f1 := hb7.frozen 1
                        have d0 := LE.out.bc.cell 0
                        have d1 := LE.out.bc.cell 1
                        simp at u0 u1 d0 d1
                        clear hb7
                        go_wp2
                        have F40 : Frm (fun x => x = g7) w39 ((w39.setCell ⟨g7, 0, none⟩ (.int .i64 e9)).setCell ⟨g7, 1, none⟩ (.slice A9 ln c9)) := Frm.tr (Frm.of_set _ _ _ rfl) (Frm.of_set _ _ _ rfl)
                        have R40 := RE.out.setch (ce' := e9) (cl' := l9) F40 (by rw [← HLN.out]; exact (KB7.out.set 0 _).set 1 _) (KE.out.frm F40 (fun g cs hb e => by subst e; exact Blk.apart hb KB7.out (by decide) rfl))
                        go_roundw
                        case rel => exact ⟨j + 1, vs2, r2, z, e9, l9, by omega, by omega, by go_num, nu2, by omega, z0, z4, R40, HP2.out.ok, fun _ => HP2.out.done HNU.out HV.out hdn, HL5.out⟩
                        case measure => simp [intOf]; omega
                      · clear hb7 hi7 hlc
                        go_upto_region 40 with fail
                        clear w0 w1 w2 w3
                        have LE := Lib.hid (LDN.out.stay E38.out)
                        have RE := Lib.hid (LE.out.rest)
                        have KE : Hid (In w38 A9 c9 l9) := LE.out.inn
                        obtain ⟨A7, c7, hb7, _⟩ := RE.out.ch
                        have KB7 := Lib.hid hb7
                        have u0 := hb7.cell 0
                        have u1 := hb7.cell 1
                        have f0 := hb7.frozen 0
                        have f1 := hb7.frozen 1
                        have d0 := LE.out.bc.cell 0
                        have d1 := LE.out.bc.cell 1
                        simp at u0 u1 d0 d1
                        clear hb7
                        go_wp2
                        have F40 : Frm (fun x => x = g7) w38 ((w38.setCell ⟨g7, 0, none⟩ (.int .i64 e9)).setCell ⟨g7, 1, none⟩ (.slice A9 ln c9)) := Frm.tr (Frm.of_set _ _ _ rfl) (Frm.of_set _ _ _ rfl)
                        have R40 := RE.out.setch (ce' := e9) (cl' := l9) F40 (by rw [← HLN.out]; exact (KB7.out.set 0 _).set 1 _) (KE.out.frm F40 (fun g cs hb e => by subst e; exact Blk.apart hb KB7.out (by decide) rfl))
                        go_roundw
                        case rel => exact ⟨j + 1, vs2, r2, z, e9, l9, by omega, by omega, by go_num, nu2, by omega, z0, z4, R40, HP2.out.ok, fun _ => HP2.out.done HNU.out HV.out hdn, HL5.out⟩
                        case measure => simp [intOf]; omega
                    · have CDO : Hid (∀ V, Ext wr V → Calls Try.prog 22 #[.pointer (some ⟨P, 0, none⟩)] V fun e w' => e = .returned (.bool false) ∧ Ext V w') := fun V h => by
                        have h7 := done_any b P KT2 v2 V (HTT2.out.stay h) (by rw [HP2.out.fix]; omega)
                        rw [hm52, decide_eq_false (by omega)] at h7
                        exact h7
                      go_wp2_with (go_at_call 22; (with_reducible refine (CDO.out _ (Ext.refl _)).mono ?_); rintro e w38 ⟨rfl, hx⟩; have X38 := Lib.hid hx; clear hx)
                      have hcs : 0 < ce → Ch vs2 r2 z ce cl := fun h => by
                        obtain ⟨q1, q2⟩ := HCH.out h
                        have h7 := HP2.out
                        rw [q1, q2] at h7
                        exact h7.stays HNU.out (HC.out h)
                      go_roundw
                      case rel => exact ⟨j + 1, vs2, r2, z, ce, cl, by omega, by omega, by go_num, nu2, by omega, z0, z4, HLQ.out.rest.stay X38.out, HP2.out.ok, hcs, HCL.out⟩
                      case measure => simp [intOf]; omega
              · have CRE : Hid (∀ V, Ext wr V → Calls Try.prog 21 #[.pointer (some ⟨P, 0, none⟩)] V fun e w' => e = .returned (.bool false) ∧ Ext V w') := fun V h => by
                  have h7 := ready_any b P KT v V (HTT.out.stay h) (by omega)
                  rw [hm5, decide_eq_false (by omega)] at h7
                  exact h7
                clear hT
                go_wp2_with (go_at_call 21; (with_reducible refine (CRE.out _ (Ext.refl _)).mono ?_); rintro e w7 ⟨rfl, hx⟩; have X7 := Lib.hid hx; clear hx)
                go_roundw
                case rel => exact ⟨j + 1, vs1, r2, z, ce, cl, by omega, by omega, by go_num, nu2, by omega, z0, z4, HLP.out.rest.stay X7.out, HP.out.ok, fun h => (HP.out.any ce cl).stays HNU.out (HC.out h), HCL.out⟩
                case measure => simp [intOf]; omega
        · have hend : ¬ ((j : Int) < (N : Int)) ∨ ((j : Int) < (N : Int)) ∧ ¬ (j : Int) < 20 := by omega
          rcases hend with h3 | ⟨h3, h4⟩
          · go_wp2_with (go_at_call 11; (with_reducible refine (CT.out _).mono ?_); rintro e w5 ⟨rfl, hx⟩; have X5 := Lib.hid hx; clear hx)
            try go_ret
            exact hD.out _ _ ⟨rfl, Ext.trans HR.out.ext X5.out⟩
          · go_wp2_with (go_at_call 11; (with_reducible refine (CT.out _).mono ?_); rintro e w5 ⟨rfl, hx⟩; have X5 := Lib.hid hx; clear hx)
            try go_ret
            exact hD.out _ _ ⟨rfl, Ext.trans HR.out.ext X5.out⟩
set_option maxRecDepth 100000 in
theorem law_tallyOne {H : Type} {enc : TypeId × Value → H} (W : World) (base : Nat) (args : Array Value) (ds : List (DataW H)) (p : List MemPlace)
    (hval : ∀ (j : Nat) t v, Try.f6.params[j]? = some t → args[j]? = some v → Value.okWide Try.prog W .any base t v)
    (hA : DataW.TrodAll enc Try.prog W 0 (fun _ => true) true Try.f6.params.toList args.toList ds p) :
    Calls Try.prog 6 args W fun e W' => e = .returned (.bool true) ∧ Below W.heap.size W W' := by
  rw [Try.params6] at hA hval
  obtain ⟨v0, vs0, d0, ds0, p0, q0, hargs, rfl, rfl, h0, r0⟩ := trodAll_cons hA
  obtain ⟨rfl, rfl, rfl⟩ := trodAll_nil r0
  obtain rfl : args = #[v0] := by cases args; simp_all
  obtain ⟨A0, n0, c0, rfl⟩ := okWide_slice Try.underlying65 (hval 0 65 v0 rfl rfl)
  obtain ⟨fuel0, hf0⟩ := h0
  obtain ⟨B0, l0, e0, hcs0, x0, y0, z0⟩ := open_opsTry hf0
  simp only [Value.cells, List.cons.injEq, Value.slice.injEq, and_true] at hcs0
  obtain ⟨rfl, rfl, rfl⟩ := hcs0
  exact walk_tallyOne A0 l0 c0 W x0 (Nat.le_trans x0 y0) z0
end Go.Proofs.Ytkdcbidbciognaa
