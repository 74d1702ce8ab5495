/-
  Package chain: a chain without some of its nodes, which ranges over the iterator.
-/
import Derived.Test.YtdjkopdgapifpaaChLeft
import Derived.Maps.AppendAt
namespace Go.Proofs.Ytdjkopdgapifpaa
set_option linter.unusedVariables false
set_option linter.unusedSimpArgs false
open Go.RowKit Go.Shelf
attribute [local go_sem] Oper.semAt_some

def withoutL (ep : Int) (l gone : List Int) : Int × List Int × Int := if mayChainB ep l then chOk (ep + 1) (leftL l gone) else noCh

/-- the chain that grows in block P, its nodes in blocks from B on -/
structure Out (B : Nat) (wz w : World) (P : Nat) (ep : Int) (l : List Int) : Prop where
  low : Below P wz w
  big : B ≤ w.heap.size
  row : ∃ A cap, Blk w P 50 #[.int .i64 ep, .slice A l.length cap] ∧ w.ownsRow B 3 1 (.slice A l.length cap) l.length (l.map i64)

theorem Out.own {B P : Nat} {wz : World} {ep : Int} (hP : P < B) : OwnFrom B (fun l W => Out B wz W P ep l) := by
  rintro l W W' row ⟨hlow, hbig, A, cap, hb, ho⟩ hg hr
  have hne : some P ≠ row := fun e => by have := (hr P e.symm).1; omega
  refine ⟨hlow.grown hg (by have := hb.lt; omega) (fun k hk => by have := (hr k hk).1; omega), Nat.le_trans hbig hg.size, A, cap, hb.grown hg hne, ho.kept hg ?_⟩
  rcases ho.2 with ⟨e, _⟩ | ⟨g, c, cur, e, _, hgb, _⟩
  · exact .inl (by rw [e]; rfl)
  · refine .inr fun e' => ?_
    rw [e] at e'
    obtain ⟨_, o, h1, h2⟩ := hr g (by simpa [Value.ownBlock] using e'.symm)
    rw [hgb] at h1
    cases h1
    cases h2

theorem Out.push {B P : Nat} {wz w : World} {ep : Int} {l : List Int} (hP : P < B) (hlow : Below P wz w) (hbig : B ≤ w.heap.size) {A : Option Addr} {cap : Nat} (hb : Blk w P 50 #[.int .i64 ep, .slice A l.length cap]) (ho : w.ownsRow B 3 1 (.slice A l.length cap) l.length (l.map i64))
    (x : Int) {w' : World} {A' : Option Addr} {cap' : Nat} (hg : (w.alloc (.cells #[.int .i64 x] 3)).grownBy w' (Value.slice A l.length cap).ownBlock)
    (ho' : w'.ownsRow B 3 1 (.slice A' (l.length + 1) cap') (l.length + 1) (l.map i64 ++ [i64 x])) :
    Blk w' P 50 #[.int .i64 ep, .slice A l.length cap] ∧ KeepsFrom B w (w'.setCell ⟨P, 1, none⟩ (.slice A' (l.length + 1) cap')) ∧ Frm (fun k => k = P ∨ B ≤ k) w (w'.setCell ⟨P, 1, none⟩ (.slice A' (l.length + 1) cap')) ∧
      Out B wz (w'.setCell ⟨P, 1, none⟩ (.slice A' (l.length + 1) cap')) P ep (l ++ [x]) := by
  have hne : some P ≠ (Value.slice A l.length cap).ownBlock := own_ne ho hP
  have hlt : ∀ k, (Value.slice A l.length cap).ownBlock = some k → B ≤ k := fun k hk => (ho.lt k hk).1
  have hB1 : Blk w' P 50 #[.int .i64 ep, .slice A l.length cap] := (hb.alloc _).grown hg hne
  have hF : Frm (fun k => k = P ∨ B ≤ k) w (w'.setCell ⟨P, 1, none⟩ (.slice A' (l.length + 1) cap')) :=
    Frm.tr (Frm.tr (Frm.of_alloc _ _ _) (Frm.of_grown hg (fun k hk => .inr (hlt k hk.symm)))) (Frm.of_set _ _ _ (.inl rfl))
  refine ⟨hB1, ?_, hF, ?_, Nat.le_trans hbig hF.size, A', cap', ?_, ?_⟩
  · refine ((KeepsOthers.alloc _ _).trans ((KeepsOthers.of_grownBy hg ?_).trans (KeepsOthers.setCell _ _ _))).from B
    intro j o hj hoo
    have ho2 := ho.alloc (.cells #[.int .i64 x] 3)
    rcases ho2.2 with ⟨e, _⟩ | ⟨g, c, cur, e, _, hgb, _⟩
    · rw [e] at hj; simp [Value.ownBlock] at hj
    · rw [e] at hj
      simp [Value.ownBlock] at hj
      subst hj
      rw [hgb] at hoo
      cases hoo
      rfl
  · exact hlow.trans (hF.below (by have := hb.lt; omega) (by rintro k (e | e) <;> omega))
  · have := hB1.set 1 (.slice A' (l.length + 1) cap')
    simpa using this
  · have h1 := own_frm (s := fun k => k = P) ho' (Frm.of_set w' ⟨P, 1, none⟩ (.slice A' (l.length + 1) cap') rfl) (fun k hk e => by have := (ho'.lt k hk).1; omega)
    simpa using h1

set_option maxRecDepth 100000 in
set_option maxHeartbeats 4000000 in
theorem without_any (ep : Int) (A G : Option Addr) (cap d : Nat) (l gone : List Int) (w : World) (hl : l.length ≤ 1000000) (hcap : l.length ≤ cap) (hg : gone.length ≤ 1000000) (hs : Sl i64 w A l) (hsg : Sl i64 w G gone) :
    Calls Try.prog 41 #[chV ep A l.length cap, .slice G gone.length d] w (ChRes w (withoutL ep l gone)) := by
  obtain ⟨w0, hw0⟩ : ∃ w0, w0 = (w.alloc (.cells #[.int .i64 ep, .slice A l.length cap] 50)).alloc (.cells #[.int .i64 0, .slice none 0 0] 50) := ⟨_, rfl⟩
  have hb0 : Ext w w0 := by rw [hw0]; exact ((Below.refl _ _).alloc (Nat.le_refl _) _).alloc (by simp) _
  have K00 : Hid (Blk w0 w.heap.size 50 #[.int .i64 ep, .slice A l.length cap]) := by (show Blk _ _ _ _); rw [hw0]; exact (Blk.new w _ _).alloc _
  have K10 : Hid (Blk w0 (w.heap.size + 1) 50 #[.int .i64 0, .slice none 0 0]) := by (show Blk _ _ _ _); rw [hw0]; exact Blk.new' _ _ _ _ (by simp)
  have HZ : Hid (w0.heap.size = w.heap.size + 2) := by (show _ = _); rw [hw0]; simp
  have HC : Hid (∀ b, mayChainB ep l = b → Calls Try.prog 61 #[.agg #[.int .i64 ep, .slice A l.length cap]] w0 fun e w' => e = .returned (.bool b) ∧ Ext w0 w') := fun b hb => by rw [← hb]; exact mayChain_any ep A cap l w0 (by omega) hcap (hs.stay hb0)
  have HSL : Hid (∀ W, Ext w0 W → Sl i64 W A l) := fun W h => hs.stay (Ext.trans hb0 h)
  have HSG : Hid (∀ W, Ext w0 W → Sl i64 W G gone) := fun W h => hsg.stay (Ext.trans hb0 h)
  have HAB : Hid (∀ a, A = some a → l ≠ [] → a.block < w.heap.size) := fun a ha hne => by
    subst ha
    cases l with
    | nil => exact absurd rfl hne
    | cons x r => obtain ⟨b, o, e, hc⟩ := hs 0 x rfl; injection e with e; subst e; exact World.block_lt_of_cell? w _ hc
  have HGB : Hid (∀ a, G = some a → gone ≠ [] → a.block < w.heap.size) := fun a ha hne => by
    subst ha
    cases gone with
    | nil => exact absurd rfl hne
    | cons x r => obtain ⟨b, o, e, hc⟩ := hsg 0 x rfl; injection e with e; subst e; exact World.block_lt_of_cell? w _ hc
  have HB0 := Lib.hid hb0
  have HW0 := Lib.hid hw0
  clear hb0 hw0 hs hsg
  cases hm : mayChainB ep l
  · have HN : Hid (withoutL ep l gone = noCh) := by (show _ = _); simp [withoutL, hm]
    have HC1 := Lib.hid (HC.out false hm)
    rw [HN.out]
    clear hm HC HSL HSG HN HAB HGB
    generalize l.length = n at *
    generalize gone.length = m at *
    refine hide_post fun D hD => ?_
    go_enter Try.func41, Try.ntmps41
    go_wp2_with (go_at_call 61; rw [← HW0.out]; (with_reducible refine HC1.out.mono ?_); rintro e w1 ⟨rfl, hx⟩; have b0 := (K10.out.stay hx).cell 0; have b1 := (K10.out.stay hx).cell 1; have f0 := (K10.out.stay hx).frozen 0; have f1 := (K10.out.stay hx).frozen 1; have K1 := Lib.hid (K10.out.stay hx); have HX := Lib.hid hx; clear hx; simp at b0 b1)
    have KA := (K1.out.set 0 (.int .i64 0)).set 1 (.slice none 0 0)
    have hcA := KA.cell 0
    have hcB := KA.cell 1
    simp at hcA hcB
    have hE := hD.out (.returned (.tuple #[chV 0 none 0 0, .int .i64 1])) _ (ChRes.no (Frm.step (Ext.trans HB0.out HX.out) (Frm.tr (Frm.of_set (s := fun k => k = w.heap.size + 1) w1 ⟨w.heap.size + 1, 0, none⟩ (.int .i64 0) rfl) (Frm.of_set _ ⟨w.heap.size + 1, 1, none⟩ (.slice none 0 0) rfl)) (Ext.trans HB0.out HX.out).size (by rintro k e; omega)))
    exact bodyPost_ret (v := .tuple #[chV 0 none 0 0, .int .i64 1]) (by simp [results, Try.results41, go_sem, hcA, hcB]) rfl hE
  · have HN : Hid (withoutL ep l gone = chOk (ep + 1) (leftL l gone)) := by (show _ = _); simp [withoutL, hm]
    have HC1 := Lib.hid (HC.out true hm)
    have he : 0 ≤ ep ∧ ep ≤ 1073741824 ∧ l.length ≤ 5 := by simp [mayChainB] at hm; omega
    obtain ⟨e0, e1, e5⟩ := he
    rw [HN.out]
    clear hm HC HN
    refine hide_post fun D' hD' => ?_
    obtain ⟨i0, hi, hz0, hz1, hz2⟩ := info_parts info_int
    refine (callsIn_wide (n := 6)).1 ?_
    refine callsIn_of_wp_marks Try.func41 rfl trivial ?_ rfl
    simp only [Try.ntmps41, List.size_toArray, List.length_cons, List.length_nil, Nat.reduceAdd, Nat.reduceSub, Array.replicate_succ, Array.replicate_zero, List.push_toArray, List.append_toArray, List.nil_append, List.cons_append]
    gi_wp2_with (first
      | (refine ⟨trivial, ?_⟩; gi_at_call 61; rw [← HW0.out]; refine (callsIn_wide.2 HC1.out).mono ?_; rintro e w1 ⟨rfl, hx⟩; have c0 := (K00.out.stay hx).cell 0; have c1 := (K00.out.stay hx).cell 1; have K0 := Lib.hid (K00.out.stay hx); have K1 := Lib.hid (K10.out.stay hx); have z1 : w.heap.size + 1 < w1.heap.size := (by have h1 := hx.size; have h2 := HZ.out; omega); have d0 : (∀ o, (w1.alloc o).cell? ⟨w.heap.size, 0, none⟩ = some (.int .i64 ep)) := (fun o => ((K00.out.stay hx).alloc o).cell 0); have d1 : (∀ o, (w1.alloc o).cell? ⟨w.heap.size, 1, none⟩ = some (.slice A l.length cap)) := (fun o => ((K00.out.stay hx).alloc o).cell 1); have HX := Lib.hid hx; clear hx; simp at c0 c1)
      | (refine ⟨trivial, ?_⟩; gi_at_call 68; refine (callsIn_wide.2 (left_any _ _ _ _ _ _ _ _)).mono ?_; rintro e w2 ⟨rfl, rfl⟩))
    obtain ⟨z, hz⟩ : ∃ z, z = w1.heap.size := ⟨_, rfl⟩
    obtain ⟨wz, hwz⟩ : ∃ wz, wz = (((w1.alloc (.cells #[.int .i64 (ep + 1), .slice none 0 0] 50)).alloc (.cells #[.int .i64 ep, .slice A l.length cap] 50)).alloc (.cells #[.slice G gone.length d] 32)) := ⟨_, rfl⟩
    have hzs : wz.heap.size = z + 3 := by rw [hwz, hz]; simp
    have hx1 : Ext w1 wz := by rw [hwz]; exact Ext.trans (Ext.trans (ext_al _ _) (ext_al _ _)) (ext_al _ _)
    have hxz : Ext w0 wz := Ext.trans HX.out hx1
    have hzl : w.heap.size + 1 < z := by rw [hz]; exact z1
    have HBp : Blk wz z 50 #[.int .i64 (ep + 1), .slice none 0 0] := by rw [hwz]; exact ((Blk.new' w1 _ _ z hz).alloc _).alloc _
    have HBc : Blk wz (z + 1) 50 #[.int .i64 ep, .slice A l.length cap] := by rw [hwz]; exact (Blk.new' _ _ _ (z + 1) (by simp [hz])).alloc _
    have HBg : Blk wz (z + 1 + 1) 32 #[.slice G gone.length d] := by rw [hwz]; exact Blk.new' _ _ _ (z + 1 + 1) (by simp [hz])
    have KR : Hid (Blk wz (w.heap.size + 1) 50 #[.int .i64 0, .slice none 0 0]) := by (show Blk _ _ _ _); exact K1.out.stay hx1
    have HSF : ∀ W W', Ext wz W → Frm (fun k => k = z ∨ wz.heap.size ≤ k) W W' → Sl i64 W' A l := fun W W' h hf => by
      rcases A with _ | a
      · intro j v hj
        obtain ⟨b, o, e, _⟩ := HSL.out W (Ext.trans hxz h) j v hj
        cases e
      · by_cases hne : l = []
        · subst hne; exact Sl.nil _ _ _
        · exact Sl.frm (HSL.out W (Ext.trans hxz h)) hf (by have := HAB.out a rfl hne; rintro (e | e) <;> omega)
    have HSFg : ∀ W W', Ext wz W → Frm (fun k => k = z ∨ wz.heap.size ≤ k) W W' → Sl i64 W' G gone := fun W W' h hf => by
      rcases G with _ | a
      · intro j v hj
        obtain ⟨b, o, e, _⟩ := HSG.out W (Ext.trans hxz h) j v hj
        cases e
      · by_cases hne : gone = []
        · subst hne; exact Sl.nil _ _ _
        · exact Sl.frm (HSG.out W (Ext.trans hxz h)) hf (by have := HGB.out a rfl hne; rintro (e | e) <;> omega)
    have hstops : SeqStopsK Fence.wide 5 Try.prog 76 #[.pointer (some ⟨z + 1, 0, none⟩), .pointer (some ⟨z + 1 + 1, 0, none⟩)] (fun x : Int => #[Value.int .i64 x]) (Frm (fun k => k = z ∨ wz.heap.size ≤ k)) (fun ys => ys = leftL l gone) (fun pre => pre <+: leftL l gone) l.length wz := fun y J Jx W hW _ _ hY h0 =>
      left_in 5 (by omega) _ y (z + 1) (z + 1 + 1) A G cap d l gone (by omega) (by omega) J Jx W
        (fun W' hf => ((HBc.stay hW).frm hf (by rintro (e | e) <;> omega)).cell 1) (fun W' hf => ((HBg.stay hW).frm hf (by rintro (e | e) <;> omega)).cell 0)
        (fun W' hf => HSF W W' hW hf) (fun W' hf => HSFg W W' hW hf) hY h0
    have HO0 : Out wz.heap.size wz wz z (ep + 1) [] := ⟨Below.refl _ _, Nat.le_refl _, none, 0, HBp, World.ownsRow_nil _ _ _ _⟩
    have HXZ := Lib.hid hxz
    have HLL := leftL_len l gone
    rw [← hz, ← hwz]
    clear hwz hz HSF HSFg hx1 c0 c1 d0 d1 K0 K1 HX z1
    refine wpIn_rangeFunc_ownG rfl (by omega) (gf := 76) (lb := #[.pointer (some ⟨z + 1, 0, none⟩), .pointer (some ⟨z + 1 + 1, 0, none⟩)]) rfl trivial (enters_of Try.func76 (by kernel_rfl) rfl)
      hstops (fun h h' => Frm.tr h h') (fun W q o o' hq _ _ _ => Frm.of_grown (grownBy_putObj' W q o') (fun k hk => by injection hk with hk; subst hk; exact .inr hq)) (Below.refl _ _) (fun _ => rfl)
      (fun pre W => Out wz.heap.size wz W z (ep + 1) pre) (fun _ _ _ => False)
      (Out.own (by omega)) (fun _ _ _ _ _ hs _ _ => hs) HO0
      (fun x => { tmps := #[chV ep A l.length cap, .slice G gone.length d, .pointer (some ⟨w.heap.size, 0, none⟩), undef, .pointer (some ⟨w.heap.size + 1, 0, none⟩), .int .i64 0, .pointer (some ⟨z, 0, none⟩), .int .i64 x, .agg #[.int .i64 ep, .slice A l.length cap], .bool true, .bool false, undef, .pointer (some ⟨w.heap.size, 0, none⟩), .int .i64 ep, .int .i64 (ep + 1), .agg #[.int .i64 (ep + 1), .slice none 0 0], .agg #[.int .i64 ep, .slice A l.length cap], .slice G gone.length d, .func (.func 76) #[] #[.pointer (some ⟨z + 1, 0, none⟩), .pointer (some ⟨z + 1 + 1, 0, none⟩)], .int .i64 x, undef, undef, undef, undef, undef, undef, undef, undef, undef, undef], defers := [] }) ?assign ?body ?done ?stop
    case assign =>
      intro q x W K hK
      gi_wp2
      exact hK
    case body =>
      rintro q pre x W ⟨hlow, hbig, A2, c2, hb, ho⟩ hlt
      have HP : Hid (∀ w' A' c', (W.alloc (.cells #[.int .i64 x] 3)).grownBy w' (Value.slice A2 pre.length c2).ownBlock → w'.ownsRow wz.heap.size 3 1 (.slice A' (pre.length + 1) c') (pre.length + 1) (pre.map i64 ++ [i64 x]) → _) := fun w' A' c' h1 h2 => Out.push (P := z) (by omega) hlow hbig hb ho x h1 h2
      have a1 := hb.cell 1
      simp at a1
      have HO := Lib.hid ho
      clear hlow hb ho HO0 hstops HBp HBc HBg
      gi_wp2_with (gi_at_builtin; refine wpListIn_append_own _ rfl _ _ 32 rfl wz.heap.size 3 i0 (.int .i64 0) 1 8 Try.underlying32 hi hz0 hz1 hz2 rfl (by decide) (.slice A2 pre.length c2) pre.length (pre.map i64) rfl (HO.out.alloc _) ⟨W.heap.size, 0, none⟩ 1 1 [.int .i64 x] rfl rfl (cell_one_new _ _ _) (by simp [Value.oneCell']) (by unfold maxLen; omega) (by omega) (by simp; omega) ?_; intro v' w5 hown' hg' _; obtain ⟨A', cap', rfl⟩ := own_shape hown'; obtain ⟨hB, hq1, hq2, hq3⟩ := HP.out w5 A' cap' hg' hown'; have hc6 := hB.cell 1; have hf6 := hB.frozen 1; simp at hc6; have HQ1 := Lib.hid hq1; have HQ2 := Lib.hid hq2; have HQ3 := Lib.hid hq3; clear hB hq1 hq2 hq3 hown' hg')
      exact ⟨HQ1.out, HQ2.out, HQ3.out⟩
    case done =>
      rintro D ys W hD rfl ⟨hlow, hbig, A2, c2, hb, ho⟩ hK
      have HM : Hid (Calls Try.prog 66 #[.agg #[.int .i64 (ep + 1), .slice A2 (leftL l gone).length c2]] W fun e w' => ∃ E A' N C c, e = .returned (.tuple #[.agg #[.int .i64 E, .slice A' N C], .int .i64 c]) ∧ MayR (ep + 1) A2 c2 (leftL l gone) E A' N C c ∧ Ext W w') := may_any (ep + 1) A2 c2 (leftL l gone) W (by omega) (own_cap ho) (own_sl ho)
      have a0 := hb.cell 0
      have a1 := hb.cell 1
      simp at a0 a1
      have HRW : Hid (Blk W (w.heap.size + 1) 50 #[.int .i64 0, .slice none 0 0]) := (by (show Blk _ _ _ _); exact KR.out.below hlow (by omega))
      have HO := Lib.hid ho
      have HLow := Lib.hid hlow
      have HK := Lib.hid hK
      have HDw := Lib.hid hD
      clear hlow hb ho hK HO0 hstops HBp HBc HBg hD
      gi_wp2_with (refine ⟨trivial, ?_⟩; gi_at_call 66; refine (callsIn_wide.2 HM.out).mono ?_; rintro e w3 ⟨E, A', N, C, c, rfl, hr, hx⟩; have q0 := (HRW.out.stay hx).cell 0; have q1 := (HRW.out.stay hx).cell 1; have q2 := (HRW.out.stay hx).frozen 0; have q3 := (HRW.out.stay hx).frozen 1; have HR3 := Lib.hid hr; have HX3 := Lib.hid hx; clear hr hx; simp at q0 q1)
      have hlt : D < W.heap.size := (Array.getElem?_eq_some_iff.1 HK.out).1
      have hF : Frm (fun k => k = w.heap.size + 1) w3 ((w3.setCell ⟨w.heap.size + 1, 0, none⟩ (.int .i64 E)).setCell ⟨w.heap.size + 1, 1, none⟩ (.slice A' N C)) := Frm.tr (Frm.of_set _ _ _ rfl) (Frm.of_set _ _ _ rfl)
      have hK3 : ((w3.setCell ⟨w.heap.size + 1, 0, none⟩ (.int .i64 E)).setCell ⟨w.heap.size + 1, 1, none⟩ (.slice A' N C)).heap[D]? = some (.deferred (some [])) :=
        (hF.block D (by have := HX3.out.size; omega) (by have := HDw.out; omega)).trans ((HX3.out.block D hlt).trans HK.out)
      have hG := grownBy_putObj' ((w3.setCell ⟨w.heap.size + 1, 0, none⟩ (.int .i64 E)).setCell ⟨w.heap.size + 1, 1, none⟩ (.slice A' N C)) D (.deferred none)
      have hF2 : Frm (fun k => k = w.heap.size + 1 ∨ k = D) w3 (((w3.setCell ⟨w.heap.size + 1, 0, none⟩ (.int .i64 E)).setCell ⟨w.heap.size + 1, 1, none⟩ (.slice A' N C)).putObj D (.deferred none)) :=
        Frm.tr (hF.mono (fun k h => Or.inl h)) (Frm.of_grown hG (fun k hk => by injection hk with hk; exact Or.inr hk))
      have KA := (((HRW.out.stay HX3.out).set 0 (.int .i64 E)).set 1 (.slice A' N C)).grown hG (by intro h; injection h with h; have := HDw.out; omega)
      have hcA := KA.cell 0
      have hcB := KA.cell 1
      simp at hcA hcB
      have hown3 := own_frm (s := fun _ => False) HO.out (Frm.of_below HX3.out _) (fun _ _ h => h)
      have hnD : ∀ k, (Value.slice A2 (leftL l gone).length c2).ownBlock = some k → ¬ (k = w.heap.size + 1 ∨ k = D) := fun k hk => by
        have h1 := (hown3.lt k hk).1
        rintro (h2 | h2)
        · omega
        · subst h2
          rcases HO.out.2 with ⟨e, _⟩ | ⟨g, cc, cur, e, _, hgb, _⟩
          · rw [e] at hk; simp [Value.ownBlock] at hk
          · rw [e] at hk
            simp [Value.ownBlock] at hk
            subst hk
            have h3 := HK.out
            rw [hgb] at h3
            cases h3
      have hown4 := own_frm hown3 hF2 hnD
      have hE := hD'.out (.returned (.tuple #[.agg #[.int .i64 E, .slice A' N C], .int .i64 c])) _ (MayR.res HR3.out (own_sl hown4) (own_cap hown4) (fun a ha => by have := own_fresh hown4 a ha; have := (Ext.trans HB0.out HXZ.out).size; omega)
        (((((Below.trans HB0.out (Below.mono HXZ.out HB0.out.size)).trans (HLow.out.mono (by omega))).trans (Below.mono HX3.out (by omega))).trans (hF2.below (by have := HX3.out.size; omega) (by rintro k (h | h) <;> have := HDw.out <;> omega)))))
      refine ⟨by simp, .inl ⟨_, _, rfl, run_takeDeferred hK3, ?_⟩⟩
      exact ⟨_, by simp [results, Try.results41, go_sem, hcA, hcB], hE⟩
    case stop =>
      rintro D c pre W _ _ h _
      exact h.elim
end Go.Proofs.Ytdjkopdgapifpaa
