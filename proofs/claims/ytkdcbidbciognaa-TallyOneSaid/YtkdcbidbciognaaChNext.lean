/-
  The walk of chain.Next.
-/
import Derived.Test.YtkdcbidbciognaaPlace
namespace Go.Proofs.Ytkdcbidbciognaa
set_option linter.unusedVariables false
set_option linter.unusedSimpArgs false
open Go.RowKit

/-- the rest of a chain that is to follow la: each stands further on in la, the last one may be new -/
def nextL (la : List Int) : List Int → Int → Int → Bool
  | [], _, c => decide (0 < c)
  | x :: r, a, c => if idx x la 0 < 0 ∧ r = [] then nextL la r a c else if idx x la 0 < a then false else nextL la r (idx x la 0 + 1) (c + 1)
def nextB (ea eb : Int) (la lb : List Int) (n : Int) : Bool := mayChainB ea la && mayChainB eb lb && !la.any (badB n) && !lb.any (badB n) && decide (eb = ea + 1) && nextL la lb 0 0

set_option maxRecDepth 4000 in
set_option maxHeartbeats 4000000 in
theorem chNext_any (ea eb n : Int) (A B : Option Addr) (c1 c2 : Nat) (la lb : List Int) (w : World) (h1 : la.length ≤ 9223372036854775807) (h2 : lb.length ≤ 9223372036854775807) (hc1 : la.length ≤ c1) (hc2 : lb.length ≤ c2) (hs : Sl i64 w A la) (hs2 : Sl i64 w B lb) :
    Calls Try.prog 66 #[chV ea A la.length c1, chV eb B lb.length c2, .int .i64 n] w fun e w' => e = .returned (.bool (nextB ea eb la lb n)) ∧ Below w.heap.size w w' := by
  generalize hr : nextB ea eb la lb n = r
  obtain ⟨w0, hw0⟩ : ∃ w0, w0 = (w.alloc (.cells #[.int .i64 ea, .slice A la.length c1] 26)).alloc (.cells #[.int .i64 eb, .slice B lb.length c2] 26) := ⟨_, rfl⟩
  have HW0 := Lib.hid hw0
  have hb0 : Ext w w0 := by rw [hw0]; exact ((Below.refl _ _).alloc (Nat.le_refl _) _).alloc (by simp) _
  have KA : Hid (Blk w0 w.heap.size 26 #[.int .i64 ea, .slice A la.length c1]) := by (show Blk _ _ _ _); rw [hw0]; exact (Blk.new w _ _).stay ((Below.refl _ _).alloc (Nat.le_refl _) _)
  have KB : Hid (Blk w0 (w.heap.size + 1) 26 #[.int .i64 eb, .slice B lb.length c2]) := by (show Blk _ _ _ _); rw [hw0]; exact Blk.new' _ _ _ (w.heap.size + 1) (by simp)
  have HMA : Hid (∀ V, Ext w0 V → Calls Try.prog 45 #[.agg #[.int .i64 ea, .slice A la.length c1]] V fun e w' => e = .returned (.bool (mayChainB ea la)) ∧ Ext V w') := fun V hV => mayChain_any ea A c1 la V h1 hc1 (hs.stay (Ext.trans hb0 hV))
  have HMB : Hid (∀ V, Ext w0 V → Calls Try.prog 45 #[.agg #[.int .i64 eb, .slice B lb.length c2]] V fun e w' => e = .returned (.bool (mayChainB eb lb)) ∧ Ext V w') := fun V hV => mayChain_any eb B c2 lb V h2 hc2 (hs2.stay (Ext.trans hb0 hV))
  have HFA : Hid (∀ V, Ext w0 V → Calls Try.prog 59 #[.agg #[.int .i64 ea, .slice A la.length c1], .int .i64 n] V fun e w' => e = .returned (.bool (!la.any (badB n))) ∧ Ext V w') := fun V hV => fits_any ea n A c1 la V h1 (hs.stay (Ext.trans hb0 hV))
  have HFB : Hid (∀ V, Ext w0 V → Calls Try.prog 59 #[.agg #[.int .i64 eb, .slice B lb.length c2], .int .i64 n] V fun e w' => e = .returned (.bool (!lb.any (badB n))) ∧ Ext V w') := fun V hV => fits_any eb n B c2 lb V h2 (hs2.stay (Ext.trans hb0 hV))
  have HIX : Hid (∀ V x, Ext w0 V → Calls Try.prog 90 #[.slice A la.length c1, .int .i64 x] V fun e w' => e = .returned (.int .i64 (idx x la 0)) ∧ V = w') := fun V x hV => index_any A c1 la x V h1 (hs.stay (Ext.trans hb0 hV))
  have HSB : Hid (∀ V, Ext w0 V → Sl i64 V B lb) := fun V hV => hs2.stay (Ext.trans hb0 hV)
  have HI : Hid (∀ x, -1 ≤ idx x la 0 ∧ idx x la 0 < la.length) := fun x => by have := idx_lt x la 0 (by omega); omega
  have HE0 := Lib.hid hb0
  have hea : mayChainB ea la = true → 0 ≤ ea ∧ ea ≤ 1073741824 := fun h => by simp [mayChainB] at h; omega
  have hla5 : mayChainB ea la = true → la.length ≤ 5 := fun h => by simp [mayChainB] at h; omega
  have hlb5 : mayChainB eb lb = true → lb.length ≤ 5 := fun h => by simp [mayChainB] at h; omega
  clear hs hs2 hw0 hb0
  unfold nextB at hr
  generalize hna : la.length = na at *
  generalize hnb : lb.length = nb at *
  have HNA := Lib.hid hna
  have HNB := Lib.hid hnb
  clear hna hnb
  generalize mayChainB ea la = ba at *
  generalize mayChainB eb lb = bb at *
  generalize (!la.any (badB n)) = fa at *
  generalize (!lb.any (badB n)) = fb at *
  have HR := Lib.hid hr
  clear hr
  cases ba
  · have HR' : Hid (r = false) := by (show _ = _); rw [← HR.out]; simp
    clear hea hla5 hlb5
    go_enter Try.func66, Try.ntmps66
    go_wp2_with (first
      | (go_at_call 45; rw [← HW0.out]; (with_reducible refine (HMA.out _ (Ext.refl _)).mono ?_); rintro e w1 ⟨rfl, hx⟩; have E1 := Lib.hid (Ext.trans ((Ext.refl _)) hx); clear hx; have a0 := (KA.out.stay E1.out).cell 0; have a1 := (KA.out.stay E1.out).cell 1; have b0 := (KB.out.stay E1.out).cell 0; have b1 := (KB.out.stay E1.out).cell 1; simp at a0 a1 b0 b1))
    go_ret
    exact ⟨ret_bool HR'.out.symm, Ext.trans HE0.out E1.out⟩
  obtain ⟨e0, e1⟩ := hea rfl
  have l1 := hla5 rfl
  clear hea hla5
  cases bb
  · have HR' : Hid (r = false) := by (show _ = _); rw [← HR.out]; simp
    clear hlb5
    go_enter Try.func66, Try.ntmps66
    go_wp2_with (first
      | (go_at_call 45; rw [← HW0.out]; (with_reducible refine (HMA.out _ (Ext.refl _)).mono ?_); rintro e w1 ⟨rfl, hx⟩; have E1 := Lib.hid (Ext.trans ((Ext.refl _)) hx); clear hx; have a0 := (KA.out.stay E1.out).cell 0; have a1 := (KA.out.stay E1.out).cell 1; have b0 := (KB.out.stay E1.out).cell 0; have b1 := (KB.out.stay E1.out).cell 1; simp at a0 a1 b0 b1)
      | (go_at_call 45; (with_reducible refine (HMB.out _ E1.out).mono ?_); rintro e w2 ⟨rfl, hx⟩; clear a0 a1 b0 b1; have E2 := Lib.hid (Ext.trans (E1.out) hx); clear hx; have a0 := (KA.out.stay E2.out).cell 0; have a1 := (KA.out.stay E2.out).cell 1; have b0 := (KB.out.stay E2.out).cell 0; have b1 := (KB.out.stay E2.out).cell 1; simp at a0 a1 b0 b1))
    go_ret
    exact ⟨ret_bool HR'.out.symm, Ext.trans HE0.out E2.out⟩
  have l2 := hlb5 rfl
  clear hlb5
  cases fa
  · have HR' : Hid (r = false) := by (show _ = _); rw [← HR.out]; simp
    go_enter Try.func66, Try.ntmps66
    go_wp2_with (first
      | (go_at_call 45; rw [← HW0.out]; (with_reducible refine (HMA.out _ (Ext.refl _)).mono ?_); rintro e w1 ⟨rfl, hx⟩; have E1 := Lib.hid (Ext.trans ((Ext.refl _)) hx); clear hx; have a0 := (KA.out.stay E1.out).cell 0; have a1 := (KA.out.stay E1.out).cell 1; have b0 := (KB.out.stay E1.out).cell 0; have b1 := (KB.out.stay E1.out).cell 1; simp at a0 a1 b0 b1)
      | (go_at_call 45; (with_reducible refine (HMB.out _ E1.out).mono ?_); rintro e w2 ⟨rfl, hx⟩; clear a0 a1 b0 b1; have E2 := Lib.hid (Ext.trans (E1.out) hx); clear hx; have a0 := (KA.out.stay E2.out).cell 0; have a1 := (KA.out.stay E2.out).cell 1; have b0 := (KB.out.stay E2.out).cell 0; have b1 := (KB.out.stay E2.out).cell 1; simp at a0 a1 b0 b1)
      | (go_at_call 59; (with_reducible refine (HFA.out _ E2.out).mono ?_); rintro e w3 ⟨rfl, hx⟩; clear a0 a1 b0 b1; have E3 := Lib.hid (Ext.trans (E2.out) hx); clear hx; have a0 := (KA.out.stay E3.out).cell 0; have a1 := (KA.out.stay E3.out).cell 1; have b0 := (KB.out.stay E3.out).cell 0; have b1 := (KB.out.stay E3.out).cell 1; simp at a0 a1 b0 b1))
    go_ret
    exact ⟨ret_bool HR'.out.symm, Ext.trans HE0.out E3.out⟩
  cases fb
  · have HR' : Hid (r = false) := by (show _ = _); rw [← HR.out]; simp
    go_enter Try.func66, Try.ntmps66
    go_wp2_with (first
      | (go_at_call 45; rw [← HW0.out]; (with_reducible refine (HMA.out _ (Ext.refl _)).mono ?_); rintro e w1 ⟨rfl, hx⟩; have E1 := Lib.hid (Ext.trans ((Ext.refl _)) hx); clear hx; have a0 := (KA.out.stay E1.out).cell 0; have a1 := (KA.out.stay E1.out).cell 1; have b0 := (KB.out.stay E1.out).cell 0; have b1 := (KB.out.stay E1.out).cell 1; simp at a0 a1 b0 b1)
      | (go_at_call 45; (with_reducible refine (HMB.out _ E1.out).mono ?_); rintro e w2 ⟨rfl, hx⟩; clear a0 a1 b0 b1; have E2 := Lib.hid (Ext.trans (E1.out) hx); clear hx; have a0 := (KA.out.stay E2.out).cell 0; have a1 := (KA.out.stay E2.out).cell 1; have b0 := (KB.out.stay E2.out).cell 0; have b1 := (KB.out.stay E2.out).cell 1; simp at a0 a1 b0 b1)
      | (go_at_call 59; (with_reducible refine (HFA.out _ E2.out).mono ?_); rintro e w3 ⟨rfl, hx⟩; clear a0 a1 b0 b1; have E3 := Lib.hid (Ext.trans (E2.out) hx); clear hx; have a0 := (KA.out.stay E3.out).cell 0; have a1 := (KA.out.stay E3.out).cell 1; have b0 := (KB.out.stay E3.out).cell 0; have b1 := (KB.out.stay E3.out).cell 1; simp at a0 a1 b0 b1)
      | (go_at_call 59; (with_reducible refine (HFB.out _ E3.out).mono ?_); rintro e w4 ⟨rfl, hx⟩; clear a0 a1 b0 b1; have E4 := Lib.hid (Ext.trans (E3.out) hx); clear hx; have a0 := (KA.out.stay E4.out).cell 0; have a1 := (KA.out.stay E4.out).cell 1; have b0 := (KB.out.stay E4.out).cell 0; have b1 := (KB.out.stay E4.out).cell 1; simp at a0 a1 b0 b1))
    go_ret
    exact ⟨ret_bool HR'.out.symm, Ext.trans HE0.out E4.out⟩
  by_cases hep : eb = ea + 1
  · have HR' : Hid (r = nextL la lb 0 0) := by (show _ = _); rw [← HR.out]; simp [hep]
    clear HR
    subst hep
    go_enter Try.func66, Try.ntmps66
    go_wp2_with (first
      | (go_at_call 45; rw [← HW0.out]; (with_reducible refine (HMA.out _ (Ext.refl _)).mono ?_); rintro e w1 ⟨rfl, hx⟩; have E1 := Lib.hid (Ext.trans ((Ext.refl _)) hx); clear hx; have a0 := (KA.out.stay E1.out).cell 0; have a1 := (KA.out.stay E1.out).cell 1; have b0 := (KB.out.stay E1.out).cell 0; have b1 := (KB.out.stay E1.out).cell 1; simp at a0 a1 b0 b1)
      | (go_at_call 45; (with_reducible refine (HMB.out _ E1.out).mono ?_); rintro e w2 ⟨rfl, hx⟩; clear a0 a1 b0 b1; have E2 := Lib.hid (Ext.trans (E1.out) hx); clear hx; have a0 := (KA.out.stay E2.out).cell 0; have a1 := (KA.out.stay E2.out).cell 1; have b0 := (KB.out.stay E2.out).cell 0; have b1 := (KB.out.stay E2.out).cell 1; simp at a0 a1 b0 b1)
      | (go_at_call 59; (with_reducible refine (HFA.out _ E2.out).mono ?_); rintro e w3 ⟨rfl, hx⟩; clear a0 a1 b0 b1; have E3 := Lib.hid (Ext.trans (E2.out) hx); clear hx; have a0 := (KA.out.stay E3.out).cell 0; have a1 := (KA.out.stay E3.out).cell 1; have b0 := (KB.out.stay E3.out).cell 0; have b1 := (KB.out.stay E3.out).cell 1; simp at a0 a1 b0 b1)
      | (go_at_call 59; (with_reducible refine (HFB.out _ E3.out).mono ?_); rintro e w4 ⟨rfl, hx⟩; clear a0 a1 b0 b1; have E4 := Lib.hid (Ext.trans (E3.out) hx); clear hx; have a0 := (KA.out.stay E4.out).cell 0; have a1 := (KA.out.stay E4.out).cell 1; have b0 := (KB.out.stay E4.out).cell 0; have b1 := (KB.out.stay E4.out).cell 1; simp at a0 a1 b0 b1))
    go_loop [7, 8, 43] (fun a c i => ∃ (k : Nat) (p q : Int), k ≤ nb ∧ a = .int .i64 p ∧ c = .int .i64 q ∧ i = .int .i64 k ∧ 0 ≤ p ∧ p ≤ na ∧ 0 ≤ q ∧ q ≤ k ∧ Hid (r = nextL la (lb.drop k) p q)) (fun _ _ i => nb - (intOf i).toNat)
    case atStart => exact ⟨0, 0, 0, Nat.zero_le _, rfl, rfl, rfl, by omega, by omega, by omega, by omega, HR'.out⟩
    case round =>
      obtain ⟨k, p, q, hk, rfl, rfl, rfl, p0, p1, q0, q1, Hi⟩ := hrel
      by_cases hlt : k < nb
      · obtain ⟨b9, o9, rfl, hcell⟩ := (HSB.out _ E4.out).at_ (k := k) (by rw [HNB.out]; exact hlt)
        have hd : lb.drop k = lb[k]'(by rw [HNB.out]; exact hlt) :: lb.drop (k + 1) := List.drop_eq_getElem_cons _
        have Hd := Lib.hid hd
        clear hd
        generalize lb[k]'(by rw [HNB.out]; exact hlt) = y at *
        unfold i64 at hcell
        obtain ⟨i0, i1⟩ := HI.out y
        have HX := Lib.hid (HIX.out _ y E4.out)
        obtain ⟨v, hv⟩ : ∃ v, idx y la 0 = v := ⟨_, rfl⟩
        rw [hv] at HX i0 i1
        have HV := Lib.hid hv
        clear hv
        have hdn : lb.drop (k + 1) = [] ↔ nb ≤ k + 1 := by rw [List.drop_eq_nil_iff, HNB.out]
        have HDN := Lib.hid hdn
        clear hdn
        by_cases g0 : v < 0
        · by_cases g1 : (k : Int) = (nb : Int) - 1
          · have HE : Hid (r = nextL la (lb.drop (k + 1)) p q) := by (show _ = _); rw [Hi.out, Hd.out, nextL, HV.out, if_pos ⟨g0, HDN.out.2 (by omega)⟩]
            have g3 : (nb : Int) - 1 = (k : Int) := by omega
            clear g1
            go_wp2_with (go_at_call 90; (with_reducible refine HX.out.mono ?_); rintro e w' ⟨rfl, rfl⟩)
            go_round
            case rel => exact ⟨k + 1, p, q, by omega, rfl, rfl, by go_num, p0, p1, q0, by omega, HE⟩
            case measure => simp [intOf]; omega
          · have HE : Hid (r = false) := by (show _ = _); rw [Hi.out, Hd.out, nextL, HV.out, if_neg (fun h => g1 (by have := HDN.out.1 h.2; omega)), if_pos (by omega)]
            have g2 : v < p := by omega
            go_wp2_with (go_at_call 90; (with_reducible refine HX.out.mono ?_); rintro e w' ⟨rfl, rfl⟩)
            go_ret
            exact ⟨ret_bool HE.out.symm, Ext.trans HE0.out E4.out⟩
        · by_cases g2 : v < p
          · have HE : Hid (r = false) := by (show _ = _); rw [Hi.out, Hd.out, nextL, HV.out, if_neg (fun h => g0 h.1), if_pos g2]
            go_wp2_with (go_at_call 90; (with_reducible refine HX.out.mono ?_); rintro e w' ⟨rfl, rfl⟩)
            go_ret
            exact ⟨ret_bool HE.out.symm, Ext.trans HE0.out E4.out⟩
          · have HE : Hid (r = nextL la (lb.drop (k + 1)) (v + 1) (q + 1)) := by (show _ = _); rw [Hi.out, Hd.out, nextL, HV.out, if_neg (fun h => g0 h.1), if_neg g2]
            go_wp2_with (go_at_call 90; (with_reducible refine HX.out.mono ?_); rintro e w' ⟨rfl, rfl⟩)
            go_round
            case rel => exact ⟨k + 1, v + 1, q + 1, by omega, by go_num, by go_num, by go_num, by omega, by omega, by omega, by omega, HE⟩
            case measure => simp [intOf]; omega
      · have HE : Hid (r = decide (0 < q)) := by (show _ = _); rw [Hi.out, List.drop_of_length_le (by have := HNB.out; omega)]; rfl
        go_wp2_with fail
        all_goals go_ret
        all_goals exact ⟨ret_bool (by rw [HE.out]), Ext.trans HE0.out E4.out⟩
  · have HR' : Hid (r = false) := by (show _ = _); rw [← HR.out]; simp [hep]
    go_enter Try.func66, Try.ntmps66
    go_wp2_with (first
      | (go_at_call 45; rw [← HW0.out]; (with_reducible refine (HMA.out _ (Ext.refl _)).mono ?_); rintro e w1 ⟨rfl, hx⟩; have E1 := Lib.hid (Ext.trans ((Ext.refl _)) hx); clear hx; have a0 := (KA.out.stay E1.out).cell 0; have a1 := (KA.out.stay E1.out).cell 1; have b0 := (KB.out.stay E1.out).cell 0; have b1 := (KB.out.stay E1.out).cell 1; simp at a0 a1 b0 b1)
      | (go_at_call 45; (with_reducible refine (HMB.out _ E1.out).mono ?_); rintro e w2 ⟨rfl, hx⟩; clear a0 a1 b0 b1; have E2 := Lib.hid (Ext.trans (E1.out) hx); clear hx; have a0 := (KA.out.stay E2.out).cell 0; have a1 := (KA.out.stay E2.out).cell 1; have b0 := (KB.out.stay E2.out).cell 0; have b1 := (KB.out.stay E2.out).cell 1; simp at a0 a1 b0 b1)
      | (go_at_call 59; (with_reducible refine (HFA.out _ E2.out).mono ?_); rintro e w3 ⟨rfl, hx⟩; clear a0 a1 b0 b1; have E3 := Lib.hid (Ext.trans (E2.out) hx); clear hx; have a0 := (KA.out.stay E3.out).cell 0; have a1 := (KA.out.stay E3.out).cell 1; have b0 := (KB.out.stay E3.out).cell 0; have b1 := (KB.out.stay E3.out).cell 1; simp at a0 a1 b0 b1)
      | (go_at_call 59; (with_reducible refine (HFB.out _ E3.out).mono ?_); rintro e w4 ⟨rfl, hx⟩; clear a0 a1 b0 b1; have E4 := Lib.hid (Ext.trans (E3.out) hx); clear hx; have a0 := (KA.out.stay E4.out).cell 0; have a1 := (KA.out.stay E4.out).cell 1; have b0 := (KB.out.stay E4.out).cell 0; have b1 := (KB.out.stay E4.out).cell 1; simp at a0 a1 b0 b1))
    go_ret
    exact ⟨ret_bool HR'.out.symm, Ext.trans HE0.out E4.out⟩
end Go.Proofs.Ytkdcbidbciognaa
