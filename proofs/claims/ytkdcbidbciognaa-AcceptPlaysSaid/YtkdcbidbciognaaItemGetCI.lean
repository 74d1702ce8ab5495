/-
  The reader of a chain: its nodes lie in a row of the call's own.
-/
import Derived.Test.YtkdcbidbciognaaM3
namespace Go.Proofs.Ytkdcbidbciognaa
set_option linter.unusedVariables false
set_option linter.unusedSimpArgs false
open Go.RowKit

set_option maxRecDepth 8000 in
set_option maxHeartbeats 32000000 in
theorem getChainI_any (A0 : Option Addr) (cap0 : Nat) (l : List UInt8) (w : World) (hs : Sl u8 w A0 l) (hl : l.length ≤ 1000000000) :
    Calls Try.prog 76 #[.slice A0 l.length cap0] w fun e w' => ∃ ep ns ec A cap, GotC l ep ns ec ∧ ns.length ≤ cap ∧ e = .returned (.tuple #[.agg #[.int .i64 (ep : Nat), .slice A ns.length cap], .int .i64 ec]) ∧ Sl i64 w' A (ints ns) ∧ (∃ base, w'.ownsRow base 3 1 (.slice A ns.length cap) ns.length ((ints ns).map i64)) ∧ Ext w w' := by
  refine hide_post fun D hD => ?_
  obtain ⟨b, hb⟩ : ∃ b, b = w.heap.size := ⟨_, rfl⟩
  obtain ⟨W0, hW0⟩ : ∃ W0, W0 = w.alloc (.cells #[.int .i64 0, .slice none 0 0] 26) := ⟨_, rfl⟩
  have hx0 : Ext w W0 := by rw [hW0]; exact Ext.alloc _ _
  have kr : Blk W0 b 26 #[.int .i64 0, .slice none 0 0] := by rw [hW0, hb]; exact Blk.new _ _ _
  have C1 := Lib.hid (new_in A0 cap0 l W0 (hs.stay hx0) hl)
  have HX0 := Lib.hid hx0
  have HKR := Lib.hid kr
  have HW0 := Lib.hid hW0
  have HB := Lib.hid hb
  have HL := Lib.hid hl
  clear hx0 kr hW0 hb hs hl
  go_enter Try.func76, Try.ntmps76
  go_wp2_with fail
  rw [← HW0.out, ← HB.out]
  go_at_call 75
  with_reducible refine C1.out.mono ?_
  rintro e w1 ⟨P, rfl, hrd, hx1, hP⟩
  have hbP : b < P := Nat.lt_of_lt_of_le HKR.out.lt hP
  have C2 := Lib.hid (numR_inI (fun k => k < P) P l false 1073741824 1073741824 rfl w1 hrd HL.out)
  have hlen := rdNum_len l false 1073741824
  have hn1 := HL.out
  generalize h1 : rdNum l false 1073741824 = x1 at *
  obtain ⟨ep, l1, b1⟩ := x1
  simp only at C2 hlen
  have HX1 := Lib.hid hx1
  have HBP := Lib.hid hbP
  have H1 := Lib.hid h1
  have hq1 : IntKind.i64.wrap (ep : Int) = (ep : Int) := IntWalk.i64_in _ (by omega)
  clear C1 hrd hx1 hP h1 hbP
  go_wp2_with fail
  go_at_call 94
  with_reducible refine C2.out.mono ?_
  rintro e w2 ⟨rfl, hrd, hf⟩
  obtain ⟨z, hz⟩ : ∃ z, z = w2.heap.size := ⟨_, rfl⟩
  obtain ⟨W3, hW3⟩ : ∃ W3, W3 = w2.alloc (.cells #[.int .i64 ep, .slice none 0 0] 26) := ⟨_, rfl⟩
  have hx3 : Ext w2 W3 := by rw [hW3]; exact Ext.alloc _ _
  have kz : Blk W3 z 26 #[.int .i64 ep, .slice none 0 0] := by rw [hW3, hz]; exact Blk.new _ _ _
  have hPz : P < z := by rw [hz]; exact hrd.lt
  have hxw : Ext w W3 := Ext.trans (hf.step (Ext.trans HX0.out HX1.out) (Ext.trans HX0.out HX1.out).size (fun k hk => by subst hk; have := HBP.out; have := HB.out; omega)) hx3
  have kr3 := ((HKR.out.stay HX1.out).frm hf (show ¬ b = P by have := HBP.out; omega)).stay hx3
  have C4 := Lib.hid (numR_inI (fun k => k < P) P l1 b1 5 5 rfl W3 (hrd.stay hx3) (by omega))
  have hlen2 := rdNum_len l1 b1 5
  generalize h2 : rdNum l1 b1 5 = x2 at *
  obtain ⟨n, l2, b2⟩ := x2
  simp only at C4 hlen2
  have H2 := Lib.hid h2
  have HXW := Lib.hid hxw
  have HKR3 := Lib.hid kr3
  have HKZ := Lib.hid kz
  have HPZ := Lib.hid (And.intro HBP.out hPz)
  have HW3 := Lib.hid hW3
  have HZ := Lib.hid hz
  have hn5 : n ≤ 5 := hlen2.2
  have hl2 : l2.length ≤ 1000000000 := by omega
  clear C2 hrd hf hx3 kz hPz hxw kr3 h2 hW3 hz hlen hlen2 hn1
  go_wp2_with fail
  rw [← HW3.out, ← HZ.out]
  go_wp2_with fail
  go_at_call 94
  with_reducible refine C4.out.mono ?_
  rintro e w4 ⟨rfl, hrd, hf⟩
  have HC4 : Hid (CS w w4 b P z ep none 0 [] l2 b2 l2 b2) :=
    ⟨hf.step HXW.out HXW.out.size (fun k hk => by subst hk; have := HBP.out; have := HB.out; omega), HKR3.out.frm hf (show ¬ b = P by have := HBP.out; omega), HKZ.out.frm hf (show ¬ z = P by have := HPZ.out.2; omega), World.ownsRow_nil _ _ _ _, hrd, ⟨rfl, rfl⟩, hl2⟩
  clear C4 hrd hf hl2
  go_wp2
  go_loopw [14] (fun i wr => ∃ (j : Nat) (ns : List Nat) (A : Option Addr) (cap : Nat) (l' : List UInt8) (b' : Bool), j ≤ n ∧ ns.length = j ∧ i = .int .u64 j ∧ Hid (CS w wr b P z ep A cap ns l2 b2 l' b')) (fun i _ => n - (intOf i).toNat)
  case atStart => exact ⟨0, [], none, 0, l2, b2, Nat.zero_le _, rfl, rfl, HC4⟩
  case round =>
    obtain ⟨j, ns, A, cap, l', b', hj, hnj, rfl, HC⟩ := hrel
    by_cases hlt : j < n
    · have hc := HC.out
      obtain ⟨hcx, hcr, hcq, hco, hcrd, hcrl, hcln⟩ := hc
      rw [hnj] at hcq hco
      obtain ⟨wd, hwd⟩ : ∃ wd, wd = wr.drew := ⟨_, rfl⟩
      have hxd : Ext wr wd := by rw [hwd]; exact Ext.drewR (Ext.refl _)
      have C3 := Lib.hid (numR_inI (fun k => k < P) P l' b' 5 5 rfl wd (hcrd.stay hxd) hcln)
      have hlen3 := rdNum_len l' b' 5
      generalize h3 : rdNum l' b' 5 = x3 at *
      obtain ⟨x, l3, b3⟩ := x3
      simp only at C3 hlen3
      have H3 := Lib.hid h3
      have HQd := Lib.hid (hcq.stay hxd)
      have HOd : Hid (wd.ownsRow (z + 1) 3 1 (.slice A j cap) j ((ints ns).map i64)) := own_frm hco (Frm.of_below hxd (fun _ => False)) (fun _ _ h => h)
      have HZS : Hid (z + 1 ≤ wd.heap.size) := HQd.out.lt
      have HXD : Hid (Ext w wd) := Ext.trans hcx hxd
      have HRD := Lib.hid (hcr.stay hxd)
      have HLN : Hid (l3.length ≤ 1000000000) := Nat.le_trans hlen3.1 hcln
      have HRL : Hid (RdL 5 (ns ++ [x]) l2 b2 l3 b3) := hcrl.snoc h3
      have HNJ := Lib.hid hnj
      have fz : ∀ V, Frm (fun k => k = P ∨ z + 1 ≤ k) wd V → V.cell? ⟨z, 1, none⟩ = some (.slice A j cap) := fun V h => (HQd.out.frm h (show ¬ (z = P ∨ z + 1 ≤ z) by have := HPZ.out.2; omega)).cell 1
      have hqx : IntKind.i64.wrap (x : Int) = (x : Int) := IntWalk.i64_in _ (by omega)
      have E0 : Hid (Frm (fun k => k = P ∨ z + 1 ≤ k) wd wd) := Frm.refl _ _
      have HWD := Lib.hid hwd
      clear hcx hcr hcq hco hcrd hcrl hcln hwd hxd h3 hlen3 hnj HC
      go_wp2
      refine rz_begin (fun k => k = P ∨ z + 1 ≤ k) [8] (by kernel_rfl) ?_
      rw [← HWD.out]
      refine rz_take [1, 6, 7, 8] (i := 0) (v := ?_) rfl (by kernel_rfl) (by kernel_rfl) (by kernel_rfl) (by kernel_rfl) (by kernel_rfl) (by kernel_rfl) (fun _ _ _ h => h) (by rfl) ?_ ?_
      rotate_left
      · intro W hW; have hW0 := Frm.tr E0.out hW; clear hW; go_simp <;> with_reducible rfl
      try simp only [Act.put, List.setIfInBounds_toArray, List.set_cons_zero, List.set_cons_succ]
      refine rz_take [6, 7, 8] (i := 1) (v := ?_) rfl (by kernel_rfl) (by kernel_rfl) (by kernel_rfl) (by kernel_rfl) (by kernel_rfl) (by kernel_rfl) (fun _ _ _ h => h) (by rfl) ?_ ?_
      rotate_left
      · intro W hW; have hW0 := Frm.tr E0.out hW; clear hW; go_simp <;> with_reducible rfl
      try simp only [Act.put, List.setIfInBounds_toArray, List.set_cons_zero, List.set_cons_succ]
      refine rz_take [3, 4, 5, 6, 7, 8] (i := 2) (v := ?_) rfl (by kernel_rfl) (by kernel_rfl) (by kernel_rfl) (by kernel_rfl) (by kernel_rfl) (by kernel_rfl) (fun _ _ _ h => h) (by rfl) ?_ ?_
      rotate_left
      · intro W hW; have hW0 := Frm.tr E0.out hW; clear hW; go_simp <;> with_reducible rfl
      try simp only [Act.put, List.setIfInBounds_toArray, List.set_cons_zero, List.set_cons_succ]
      refine rz_call (i := 3) rfl (by kernel_rfl) (by rfl) (fun K hK => ?_)
      go_simp
      (go_at_call 94; (with_reducible refine C3.out.mono ?_); rintro e w3 ⟨rfl, hrd, hf⟩; refine hK _ _ (hf.mono (fun k hk => .inl hk)) ?_; clear hK K)
      have HRD3 := Lib.hid hrd
      have HF3 := Lib.hid hf
      have HO3 := Lib.hid (own_frm HOd.out hf (fun k hk e => by have := (HOd.out.lt k hk).1; have := HPZ.out.2; omega))
      have E3 := Lib.hid (Frm.mono (s' := fun k => k = P ∨ z + 1 ≤ k) hf (fun k hk => .inl hk))
      clear hrd hf
      try simp only [Act.put, List.setIfInBounds_toArray, List.set_cons_zero, List.set_cons_succ]
      refine rz_take [5, 6, 7, 8] (i := 4) (v := .int .i64 x) rfl (by kernel_rfl) (by kernel_rfl) (by kernel_rfl) (by kernel_rfl) (by kernel_rfl) (by kernel_rfl) (fun _ _ _ h => h) (by rfl) ?_ ?_
      · intro W hW; have hW0 := Frm.tr E3.out hW; clear hW; go_simp <;> with_reducible rfl
      try simp only [Act.put, List.setIfInBounds_toArray, List.set_cons_zero, List.set_cons_succ]
      refine rz_call (i := 5) rfl (by kernel_rfl) (by rfl) (fun K hK => ?_)
      go_simp
      refine hK _ _ (Frm.of_alloc _ _ _) ?_; clear hK K
      obtain ⟨W5, hW5⟩ : ∃ W5, W5 = w3.alloc (.cells #[.int .i64 x] 3) := ⟨_, rfl⟩
      obtain ⟨g5, hg5⟩ : ∃ g5, g5 = w3.heap.size := ⟨_, rfl⟩
      have X5 : Hid (Ext w3 W5) := by (show Ext _ _); rw [hW5]; exact Ext.alloc _ _
      have O5 : Hid (W5.ownsRow (z + 1) 3 1 (.slice A j cap) j ((ints ns).map i64)) := by (show World.ownsRow _ _ _ _ _ _ _); rw [hW5]; exact HO3.out.alloc _
      have B5 : Hid (Blk W5 g5 3 #[.int .i64 x]) := by (show Blk _ _ _ _); rw [hW5, hg5]; exact Blk.new _ _ _
      have E5 : Hid (Frm (fun k => k = P ∨ z + 1 ≤ k) wd W5) := Frm.tr E3.out (Frm.of_below X5.out _)
      rw [← hW5, ← hg5]
      clear hW5 hg5
      try simp only [Act.put, List.setIfInBounds_toArray, List.set_cons_zero, List.set_cons_succ]
      refine rz_call (i := 6) rfl (by kernel_rfl) (by rfl) (fun K hK => ?_)
      refine wp_append_list (.tmp 17) (.tmp 21) 24 rfl (z + 1) 3 (.int .i64 0) 8 Try.underlying24 info_int rfl (by decide) (.slice A j cap) j ((ints ns).map i64) rfl O5.out i64 (some ⟨g5, 0, none⟩) [(x : Int)] 1 1 rfl rfl (Sl.of_blk B5.out (fun k v hk => by match k, hk with | 0, hk => (simp at hk; subst hk; rfl))) (fun _ => rfl) (by simp; omega) (Nat.le_trans HZS.out (Nat.le_trans HF3.out.size X5.out.size)) ?_
      intro v6 W6 oo gg bb
      refine hK _ _ (Frm.of_grown gg (fun k hk => .inr (O5.out.lt k hk.symm).1)) ?_; clear hK K
      have F6 : Frm (fun k => z + 1 ≤ k) W5 W6 := Frm.of_grown gg (fun k hk => (O5.out.lt k hk.symm).1)
      obtain ⟨A6, c6, rfl⟩ := own_shape oo
      have O6 : Hid (W6.ownsRow (z + 1) 3 1 (.slice A6 (j + 1) c6) (j + 1) ((ints (ns ++ [x])).map i64)) := by
        have h : (ints (ns ++ [x])).map i64 = (ints ns).map i64 ++ [(x : Int)].map i64 := by simp [ints]
        (show World.ownsRow _ _ _ _ _ _ _)
        rw [h]
        exact oo
      have E6 : Hid (Frm (fun k => k = P ∨ z + 1 ≤ k) wd W6) := Frm.tr E5.out (F6.mono (fun k hk => .inr hk))
      have HF6 := Lib.hid (And.intro X5.out F6)
      have kz6 := HQd.out.frm E6.out (show ¬ (z = P ∨ z + 1 ≤ z) by have := HPZ.out.2; omega)
      have cz := kz6.cell 1
      have fzz := kz6.frozen 1
      simp at cz
      have HKZ6 := Lib.hid kz6
      clear oo gg bb F6 kz6
      try simp only [Act.put, List.setIfInBounds_toArray, List.set_cons_zero, List.set_cons_succ]
      refine rz_take [8] (i := 7) (v := ?_) rfl (by kernel_rfl) (by kernel_rfl) (by kernel_rfl) (by kernel_rfl) (by kernel_rfl) (by kernel_rfl) (fun _ _ _ h => h) (by rfl) ?_ ?_
      rotate_left
      · intro W hW; have hW0 := Frm.tr E6.out hW; clear hW; go_simp <;> with_reducible rfl
      try simp only [Act.put, List.setIfInBounds_toArray, List.set_cons_zero, List.set_cons_succ]
      refine rz_last (i := 8) rfl (by kernel_rfl) (by rfl) (by rfl) (fun K hK => ?_)
      go_simp
      refine hK _ _ ?_; clear hK K
      try simp only [Act.put, List.setIfInBounds_toArray, List.set_cons_zero, List.set_cons_succ]
      refine rz_done (by kernel_rfl) ?_ _

      clear fz cz fzz
      have HS8 : Hid (CS w (W6.setCell ⟨z, 1, none⟩ (.slice A6 (j + 1) c6)) b P z ep A6 c6 (ns ++ [x]) l2 b2 l3 b3) := by
        have hF : Frm (fun k => k = z) W6 (W6.setCell ⟨z, 1, none⟩ (.slice A6 (j + 1) c6)) := Frm.of_set _ _ _ rfl
        have hl1 : (ns ++ [x]).length = j + 1 := by rw [List.length_append, HNJ.out]; rfl
        have h1 := HPZ.out.1
        have h2 := HPZ.out.2
        have hbw := HB.out
        refine ⟨hF.step (E6.out.step HXD.out HXD.out.size (fun k hk => by omega)) (Nat.le_trans HXD.out.size E6.out.size) (fun k hk => by omega), (HRD.out.frm E6.out (by omega)).frm hF (by omega), ?_, ?_, ?_, HRL.out, HLN.out⟩
        · rw [hl1]; exact HKZ6.out.set 1 (.slice A6 (j + 1) c6)
        · rw [hl1]; exact own_frm O6.out hF (fun k hk e => by have := (O6.out.lt k hk).1; omega)
        · exact (((HRD3.out.stay HF6.out.1).frm HF6.out.2 (by omega) (fun k hk => by omega)).frm hF (by omega) (fun k hk => by omega))
      go_wp2
      go_roundw
      case rel => exact ⟨j + 1, ns ++ [x], A6, c6, l3, b3, by omega, by rw [List.length_append, HNJ.out]; rfl, by go_num, HS8⟩
      case measure => simp [intOf]; omega
    · have hnl : ¬ (j : Int) < (n : Int) := by omega
      have HJN : Hid (j = n) := by (show _ = _); omega
      obtain ⟨hcx, hcr, hcq, hco, hcrd, hcrl, hcln⟩ := HC.out
      have hsl : Sl i64 wr A (ints ns) := by
        have h := hco
        rw [← ints_len ns] at h
        obtain ⟨A', c', e, h⟩ := own_view h
        injection e with e1 e2 e3
        subst e1
        exact h
      have hcap : ns.length ≤ cap := by
        rcases hco.2 with ⟨e, hn⟩ | ⟨g, c, cur, e, _, _, k1, _⟩
        · injection e with e1 e2 e3; omega
        · injection e with e1 e2 e3; omega
      have hrc : RdC 1073741824 5 5 l ep ns l' b' := ⟨l1, b1, l2, b2, H1.out, by rw [hnj, HJN.out]; exact H2.out, hcrl⟩
      have HCO := Lib.hid hco
      have HG := Lib.hid (hrc.got (by omega) (by omega) (by omega))
      have CE := Lib.hid (endR_any P l' b' wr hcrd.at_ hcln)
      have hmc := mayChain_any ep A cap (ints ns) wr (by rw [ints_len]; omega) (by rw [ints_len]; exact hcap) hsl
      rw [ints_len, hnj] at hmc
      have CM := Lib.hid hmc
      have HOB : Hid (∀ a, A = some a → ¬ a.block = b) := fun a ha e => by
        subst ha
        have := (hco.lt a.block rfl).1
        have h1 := HPZ.out.1
        have h2 := HPZ.out.2
        omega
      rw [hnj] at hcq hcap
      have HX := Lib.hid hcx
      have HR := Lib.hid hcr
      have HQ := Lib.hid hcq
      have HSL := Lib.hid hsl
      have HCAP := Lib.hid hcap
      have HNJ := Lib.hid hnj
      have o0 : wr.cell? ⟨z, 0, none⟩ = some (.int .i64 ep) := hcq.cell 0
      have o1 : wr.cell? ⟨z, 1, none⟩ = some (.slice A j cap) := hcq.cell 1
      have g0 := hcr.frozen 0
      have g1 := hcr.frozen 1
      have p0 : wr.cell? ⟨b, 0, none⟩ = some (.int .i64 0) := hcr.cell 0
      have p1 : wr.cell? ⟨b, 1, none⟩ = some (.slice none 0 0) := hcr.cell 1
      clear hcx hcr hcq hco hcrd hcrl hcln hsl hcap hrc hmc HC hnj hlt hj
      generalize endN l' b' = en at *
      generalize hmr : mayChainB ep (ints ns) = mr at *
      have HMR := Lib.hid hmr
      clear hmr
      by_cases h0 : en = 0
      case neg =>
        have HGO : Hid (GotC l 0 [] 2) := HG.out.2 (fun h => h0 h.1)
        have hne : ((en : Int) == 0) = false := by simp [h0]
        clear HG
        go_wp2_with (go_at_call 80; (with_reducible refine CE.out.mono ?_); rintro e w5 ⟨rfl, rfl⟩)
        clear o0 o1 g0 g1 p0 p1
        have K9 := (HR.out.set 0 (.int .i64 0)).set 1 (.slice none 0 0)
        have hF9 : Frm (fun k => k = b) wr ((wr.setCell ⟨b, 0, none⟩ (.int .i64 0)).setCell ⟨b, 1, none⟩ (.slice none 0 0)) := Frm.tr (Frm.of_set _ _ _ rfl) (Frm.of_set _ _ _ rfl)
        have hx9 := Frm.step HX.out hF9 HX.out.size (fun k hk => by rw [hk, HB.out]; exact Nat.le_refl _)
        have HF9 := Lib.hid hF9
        clear hF9
        generalize ((wr.setCell ⟨b, 0, none⟩ (.int .i64 0)).setCell ⟨b, 1, none⟩ (.slice none 0 0)) = W9 at *
        have k0 : W9.cell? ⟨b, 0, none⟩ = some (.int .i64 0) := K9.cell 0
        have k1 : W9.cell? ⟨b, 1, none⟩ = some (.slice none 0 0) := K9.cell 1
        exact bodyPost_ret (v := .tuple #[.agg #[.int .i64 0, .slice none 0 0], .int .i64 2]) (by simp [results, Try.results76, go_sem, k0, k1]) rfl (hD.out _ _ ⟨0, [], 2, none, 0, HGO.out, Nat.zero_le _, rfl, Sl.nil _ _ _, ⟨0, World.ownsRow_nil _ _ _ _⟩, hx9⟩)
      case pos =>
        subst h0
        cases mr
        case false =>
          have HGO : Hid (GotC l 0 [] 2) := HG.out.2 (fun h => by have := h.2; cases this)
          clear HG
          go_wp2_with (first
            | (go_at_call 80; (with_reducible refine CE.out.mono ?_); rintro e w5 ⟨rfl, rfl⟩)
            | (go_at_call 45; (with_reducible refine CM.out.mono ?_); rintro e w6 ⟨rfl, hx⟩; have HX6 : Hid (Ext w w6) := Ext.trans HX.out hx; have kr6 := HR.out.stay hx; have HR6 := Lib.hid kr6; have r0 := kr6.frozen 0; have r1 := kr6.frozen 1; have u0 : w6.cell? ⟨b, 0, none⟩ = some (.int .i64 0) := kr6.cell 0; have u1 : w6.cell? ⟨b, 1, none⟩ = some (.slice none 0 0) := kr6.cell 1; clear hx kr6))
          clear o0 o1 g0 g1 p0 p1 r0 r1 u0 u1
          have K9 := (HR6.out.set 0 (.int .i64 0)).set 1 (.slice none 0 0)
          have hF9 : Frm (fun k => k = b) w6 ((w6.setCell ⟨b, 0, none⟩ (.int .i64 0)).setCell ⟨b, 1, none⟩ (.slice none 0 0)) := Frm.tr (Frm.of_set _ _ _ rfl) (Frm.of_set _ _ _ rfl)
          have hx9 := Frm.step HX6.out hF9 HX6.out.size (fun k hk => by rw [hk, HB.out]; exact Nat.le_refl _)
          have HF9 := Lib.hid hF9
          clear hF9
          generalize ((w6.setCell ⟨b, 0, none⟩ (.int .i64 0)).setCell ⟨b, 1, none⟩ (.slice none 0 0)) = W9 at *
          have k0 : W9.cell? ⟨b, 0, none⟩ = some (.int .i64 0) := K9.cell 0
          have k1 : W9.cell? ⟨b, 1, none⟩ = some (.slice none 0 0) := K9.cell 1
          exact bodyPost_ret (v := .tuple #[.agg #[.int .i64 0, .slice none 0 0], .int .i64 2]) (by simp [results, Try.results76, go_sem, k0, k1]) rfl (hD.out _ _ ⟨0, [], 2, none, 0, HGO.out, Nat.zero_le _, rfl, Sl.nil _ _ _, ⟨0, World.ownsRow_nil _ _ _ _⟩, hx9⟩)
        case true =>
          have HGO : Hid (GotC l ep ns 0) := HG.out.1 ⟨rfl, rfl⟩
          clear HG
          go_wp2_with (first
            | (go_at_call 80; (with_reducible refine CE.out.mono ?_); rintro e w5 ⟨rfl, rfl⟩)
            | (go_at_call 45; (with_reducible refine CM.out.mono ?_); rintro e w6 ⟨rfl, hx⟩; have HO6 := Lib.hid (own_frm HCO.out (Frm.of_below hx (fun _ => False)) (fun _ _ h => h)); have HX6 : Hid (Ext w w6) := Ext.trans HX.out hx; have kr6 := HR.out.stay hx; have kz6 := HQ.out.stay hx; have HR6 := Lib.hid kr6; have HSL6 := Lib.hid (HSL.out.stay hx); have r0 := kr6.frozen 0; have r1 := kr6.frozen 1; have u0 : w6.cell? ⟨b, 0, none⟩ = some (.int .i64 0) := kr6.cell 0; have u1 : w6.cell? ⟨b, 1, none⟩ = some (.slice none 0 0) := kr6.cell 1; have t0 : w6.cell? ⟨z, 0, none⟩ = some (.int .i64 ep) := kz6.cell 0; have t1 : w6.cell? ⟨z, 1, none⟩ = some (.slice A j cap) := kz6.cell 1; clear hx kr6 kz6))
          clear o0 o1 g0 g1 p0 p1 r0 r1 u0 u1 t0 t1
          have K9 := (HR6.out.set 0 (.int .i64 ep)).set 1 (.slice A j cap)
          have hF9 : Frm (fun k => k = b) w6 ((w6.setCell ⟨b, 0, none⟩ (.int .i64 ep)).setCell ⟨b, 1, none⟩ (.slice A j cap)) := Frm.tr (Frm.of_set _ _ _ rfl) (Frm.of_set _ _ _ rfl)
          have hx9 := Frm.step HX6.out hF9 HX6.out.size (fun k hk => by rw [hk, HB.out]; exact Nat.le_refl _)
          have HF9 := Lib.hid hF9
          clear hF9
          generalize ((w6.setCell ⟨b, 0, none⟩ (.int .i64 ep)).setCell ⟨b, 1, none⟩ (.slice A j cap)) = W9 at *
          have k0 : W9.cell? ⟨b, 0, none⟩ = some (.int .i64 ep) := K9.cell 0
          have k1 : W9.cell? ⟨b, 1, none⟩ = some (.slice A j cap) := K9.cell 1
          exact bodyPost_ret (v := .tuple #[.agg #[.int .i64 ep, .slice A j cap], .int .i64 0]) (by simp [results, Try.results76, go_sem, k0, k1]) rfl (hD.out _ _ ⟨ep, ns, 0, A, cap, HGO.out, by rw [HNJ.out]; exact HCAP.out, by rw [HNJ.out], HSL6.out.frm' HF9.out (fun a ha => HOB.out a ha), ⟨z + 1, own_frm HO6.out HF9.out (fun k hk e => by obtain ⟨ad, hA⟩ : ∃ ad, A = some ad := (by cases A with | none => (simp [Value.ownBlock] at hk) | some ad => exact ⟨ad, rfl⟩); subst hA; exact HOB.out ad rfl (Eq.trans (by simpa [Value.ownBlock] using hk) e))⟩, hx9⟩)
end Go.Proofs.Ytkdcbidbciognaa
