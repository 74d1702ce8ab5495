/-
  A chain that lies in a block of the call's own and grows by one node after the other.
-/
import Derived.Test.YtkdcbidbciognaaChMay
import Derived.Test.YtkdcbidbciognaaRefMayCh
namespace Go.Proofs.Ytkdcbidbciognaa
set_option linter.unusedVariables false
set_option linter.unusedSimpArgs false
open Go.RowKit

/-- block P of the call's own holds a chain; all below P is as it was in w0 -/
structure Loc (w0 w : World) (P : Nat) (ep : Int) (A : Option Addr) (cap : Nat) (l : List Int) : Prop where
  low : Below P w0 w
  blk : Blk w P 26 #[.int .i64 ep, .slice A l.length cap]
  own : w.ownsRow (P + 1) 3 1 (.slice A l.length cap) l.length (l.map i64)

section
variable {w0 w w1 : World} {P : Nat} {ep : Int} {A : Option Addr} {cap : Nat} {l : List Int}
theorem Loc.lt (h : Loc w0 w P ep A cap l) : P + 1 ≤ w.heap.size := h.blk.lt
theorem Loc.sl (h : Loc w0 w P ep A cap l) : Sl i64 w A l := by
  obtain ⟨A', c', e, hs⟩ := own_view h.own
  injection e with e1 e2 e3
  subst e1
  exact hs
theorem Loc.capOk (h : Loc w0 w P ep A cap l) : l.length ≤ cap := by
  rcases h.own.2 with ⟨e, hn⟩ | ⟨g, c, cur, e, _, _, h1, h2, _⟩
  · injection e with e1 e2 e3; omega
  · injection e with e1 e2 e3; omega
theorem Loc.stay (h : Loc w0 w P ep A cap l) (hx : Ext w w1) : Loc w0 w1 P ep A cap l :=
  ⟨h.low.trans (Below.mono hx (by have := h.lt; omega)), h.blk.stay hx, own_frm (s := fun _ => False) h.own (Frm.of_below hx _) (fun _ _ h => h)⟩
theorem Loc.start (hb : Below P w0 w) (hB : Blk w P 26 #[.int .i64 ep, .slice none 0 0]) : Loc w0 w P ep none 0 [] :=
  ⟨hb, hB, World.ownsRow_nil _ _ _ _⟩
/-- one node more: laid, appended, put back -/
theorem Loc.push (h : Loc w0 w P ep A cap l) (x : Int) {w' : World} {A' : Option Addr} {cap' : Nat} (hg : (w.alloc (.cells #[.int .i64 x] 3)).grownBy w' (Value.slice A l.length cap).ownBlock)
    (ho : w'.ownsRow (P + 1) 3 1 (.slice A' (l.length + 1) cap') (l.length + 1) (l.map i64 ++ [i64 x])) :
    Blk w' P 26 #[.int .i64 ep, .slice A l.length cap] ∧ Loc w0 (w'.setCell ⟨P, 1, none⟩ (.slice A' (l.length + 1) cap')) P ep A' cap' (l ++ [x]) := by
  have hne : some P ≠ (Value.slice A l.length cap).ownBlock := own_ne h.own (by omega)
  have hB1 : Blk w' P 26 #[.int .i64 ep, .slice A l.length cap] := (h.blk.alloc _).grown hg hne
  refine ⟨hB1, ?_, ?_, ?_⟩
  · have h1 : Below P w0 (w.alloc (.cells #[.int .i64 x] 3)) := h.low.alloc (by have := h.lt; omega) _
    have h2 : Below P w0 w' := h1.grown hg (by have := h.lt; simp; omega) (fun k hk => by have := (h.own.lt k hk).1; omega)
    exact h2.setCell (p := ⟨P, 1, none⟩) (Nat.le_refl _) _
  · have := hB1.set 1 (.slice A' (l.length + 1) cap')
    simpa using this
  · have h1 := own_frm (s := fun k => k = P) ho (Frm.of_set w' ⟨P, 1, none⟩ (.slice A' (l.length + 1) cap') rfl) (fun k hk e => by have := (ho.lt k hk).1; omega)
    simpa using h1
end

/-- 0, 1, .., n - 1 -/
def upTo (n : Nat) : List Int := (List.range n).map fun i : Nat => (i : Int)
theorem upTo_len (n : Nat) : (upTo n).length = n := by simp [upTo]
theorem upTo_succ (n : Nat) : upTo (n + 1) = upTo n ++ [(n : Int)] := by simp [upTo, List.range_succ]

theorem chFirst_no (n : Int) (w : World) (h : n < 1 ∨ 5 < n) :
    Calls Try.prog 51 #[.int .i64 n] w fun e w' => e = .returned (.tuple #[chV 0 none 0 0, .int .i64 1]) ∧ Below w.heap.size w w' := by
  rcases h with h | h
  · go_enter Try.func51, Try.ntmps51
    go_wp2
    exact bodyPost_ret (v := .tuple #[chV 0 none 0 0, .int .i64 1]) (by simp [results, Try.results51, go_sem]) rfl ⟨rfl, (Below.refl _ _).alloc (Nat.le_refl _) _⟩
  · have h' : ¬ n < 1 := by omega
    go_enter Try.func51, Try.ntmps51
    go_wp2
    exact bodyPost_ret (v := .tuple #[chV 0 none 0 0, .int .i64 1]) (by simp [results, Try.results51, go_sem]) rfl ⟨rfl, (Below.refl _ _).alloc (Nat.le_refl _) _⟩

set_option maxHeartbeats 2000000 in
theorem chFirst_yes (n : Nat) (w : World) (h1 : 1 ≤ n) (h5 : n ≤ 5) :
    Calls Try.prog 51 #[.int .i64 n] w fun e w' => ∃ v, e = .returned (.tuple #[.agg #[.int .i64 1, v], .int .i64 0]) ∧ w'.ownsRow w.heap.size 3 1 v n ((upTo n).map i64) ∧ Below w.heap.size w w' := by
  refine hide_post fun D hD => ?_
  obtain ⟨w0, hw0⟩ : ∃ w0, w0 = (w.alloc (.cells #[.int .i64 0, .slice none 0 0] 26)).alloc (.cells #[.int .i64 1, .slice none 0 0] 26) := ⟨_, rfl⟩
  have hb0 : Ext w w0 := by rw [hw0]; exact ((Below.refl _ _).alloc (Nat.le_refl _) _).alloc (by simp) _
  have K0 : Hid (Blk w0 w.heap.size 26 #[.int .i64 0, .slice none 0 0]) := by (show Blk _ _ _ _); rw [hw0]; exact (Blk.new w _ _).alloc _
  have K1 : Blk w0 (w.heap.size + 1) 26 #[.int .i64 1, .slice none 0 0] := by rw [hw0]; exact Blk.new' _ _ _ _ (by simp)
  have HL0 : Hid (Loc w0 w0 (w.heap.size + 1) 1 none 0 (upTo 0)) := Loc.start (Below.refl _ _) K1
  have HB := Lib.hid hb0
  have HW := Lib.hid hw0
  clear hb0 hw0 K1
  go_enter Try.func51, Try.ntmps51
  go_wp2
  rw [← HW.out]
  go_loopw [15] (fun i wr => ∃ k : Nat, k ≤ n ∧ i = .int .i64 k ∧ Hid (∃ A cap, Loc w0 wr (w.heap.size + 1) 1 A cap (upTo k))) (fun i _ => n - (intOf i).toNat)
  case atStart => exact ⟨0, Nat.zero_le _, rfl, _, _, HL0.out⟩
  case round =>
    obtain ⟨k, hk, rfl, HR⟩ := hrel
    obtain ⟨A, cap, hL⟩ := HR.out
    have HN := Lib.hid (upTo_len k)
    by_cases hlt : k < n
    · have HP : Hid (∀ w' A' c', (wr.alloc (.cells #[.int .i64 k] 3)).grownBy w' (Value.slice A (upTo k).length cap).ownBlock → w'.ownsRow (w.heap.size + 1 + 1) 3 1 (.slice A' ((upTo k).length + 1) c') ((upTo k).length + 1) ((upTo k).map i64 ++ [i64 k]) → 
          Blk w' (w.heap.size + 1) 26 #[.int .i64 1, .slice A (upTo k).length cap] ∧ Loc w0 (w'.setCell ⟨w.heap.size + 1, 1, none⟩ (.slice A' ((upTo k).length + 1) c')) (w.heap.size + 1) 1 A' c' (upTo (k + 1))) := fun w' A' c' h1 h2 => by rw [upTo_succ]; exact hL.push k h1 h2
      have c1 := hL.blk.cell 1
      simp at c1
      have HO := Lib.hid hL.own
      have hlt2 := hL.lt
      have HC1 := Lib.hid ((Blk.new wr 3 #[.int .i64 k]).cell 0)
      clear hL HR
      generalize hq : upTo k = L at *
      have hLk : L.length ≤ 5 := by have := HN.out; omega
      clear HN
      go_wp2_with (at_builtin; refine wpList_append_one rfl _ _ 24 rfl (w.heap.size + 1 + 1) 3 (.int .i64 0) 8 Try.underlying24 info_int rfl (by omega) (.slice A L.length cap) L.length (L.map i64) rfl (HO.out.alloc _) wr.heap.size (i64 k) rfl HC1.out rfl (by omega) (by simp; omega) ?_; intro v' w' hown' hg'; obtain ⟨A', cap', rfl⟩ := own_shape hown'; obtain ⟨hB, hLL⟩ := HP.out w' A' cap' hg' hown'; have hc6 := hB.cell 1; have hf6 := hB.frozen 1; simp at hc6; have HL := Lib.hid hLL; clear hB hLL hown' hg')
      go_roundw
      case rel => exact ⟨k + 1, by omega, by go_num, _, _, HL.out⟩
      case measure => simp [intOf]; omega
    · obtain rfl : k = n := by omega
      have a0 := hL.blk.cell 0
      have a1 := hL.blk.cell 1
      have hKR : Blk wr w.heap.size 26 #[.int .i64 0, .slice none 0 0] := K0.out.below hL.low (by omega)
      have f0 := hKR.frozen 0
      have f1 := hKR.frozen 1
      have b0 := hKR.cell 0
      have b1 := hKR.cell 1
      simp at a0 a1 b0 b1
      have HL := Lib.hid hL
      have HKR := Lib.hid hKR
      clear hL HR hKR
      generalize hq : upTo k = L at *
      go_wp2_with fail
      have KA := Lib.hid ((HKR.out.set 0 (.int .i64 1)).set 1 (.slice A L.length cap))
      have hcA := KA.out.cell 0
      have hcB := KA.out.cell 1
      have HF : Hid (Frm (fun k => k = w.heap.size) wr ((wr.setCell ⟨w.heap.size, 0, none⟩ (.int .i64 1)).setCell ⟨w.heap.size, 1, none⟩ (.slice A L.length cap))) := Frm.tr (Frm.of_set _ _ _ rfl) (Frm.of_set _ _ _ rfl)
      have hE := hD.out (.returned (.tuple #[.agg #[.int .i64 1, .slice A L.length cap], .int .i64 0])) _ ⟨_, rfl, by
          have h1 := own_frm HL.out.own HF.out (fun k hk e => by have := (HL.out.own.lt k hk).1; omega)
          rw [HN.out] at h1
          rw [HN.out]
          exact own_base h1 (fun k hk => by have := (h1.lt k hk).1; omega),
        Frm.step (Below.trans HB.out (Below.mono HL.out.low (by omega))) HF.out (by have := HL.out.lt; omega) (by rintro k e; omega)⟩
      exact bodyPost_ret (v := .tuple #[.agg #[.int .i64 1, .slice A L.length cap], .int .i64 0]) (by simp [results, Try.results51, go_sem, hcA, hcB]) rfl hE

theorem refFirst_no (n : Int) (w : World) (h : n < 1 ∨ 5 < n) :
    Calls Try.prog 38 #[.int .i64 n] w fun e w' => e = .returned (.tuple #[chV 0 none 0 0, .int .i64 1]) ∧ Below w.heap.size w w' := by
  rcases h with h | h
  · go_enter Try.func38, Try.ntmps38
    go_wp2
    exact bodyPost_ret (v := .tuple #[chV 0 none 0 0, .int .i64 1]) (by simp [results, Try.results38, go_sem]) rfl ⟨rfl, (Below.refl _ _).alloc (Nat.le_refl _) _⟩
  · have h' : ¬ n < 1 := by omega
    go_enter Try.func38, Try.ntmps38
    go_wp2
    exact bodyPost_ret (v := .tuple #[chV 0 none 0 0, .int .i64 1]) (by simp [results, Try.results38, go_sem]) rfl ⟨rfl, (Below.refl _ _).alloc (Nat.le_refl _) _⟩

set_option maxHeartbeats 2000000 in
theorem refFirst_yes (n : Nat) (w : World) (h1 : 1 ≤ n) (h5 : n ≤ 5) :
    Calls Try.prog 38 #[.int .i64 n] w fun e w' => ∃ v, e = .returned (.tuple #[.agg #[.int .i64 1, v], .int .i64 0]) ∧ w'.ownsRow w.heap.size 3 1 v n ((upTo n).map i64) ∧ Below w.heap.size w w' := by
  refine hide_post fun D hD => ?_
  obtain ⟨w0, hw0⟩ : ∃ w0, w0 = (w.alloc (.cells #[.int .i64 0, .slice none 0 0] 26)).alloc (.cells #[.int .i64 1, .slice none 0 0] 26) := ⟨_, rfl⟩
  have hb0 : Ext w w0 := by rw [hw0]; exact ((Below.refl _ _).alloc (Nat.le_refl _) _).alloc (by simp) _
  have K0 : Hid (Blk w0 w.heap.size 26 #[.int .i64 0, .slice none 0 0]) := by (show Blk _ _ _ _); rw [hw0]; exact (Blk.new w _ _).alloc _
  have K1 : Blk w0 (w.heap.size + 1) 26 #[.int .i64 1, .slice none 0 0] := by rw [hw0]; exact Blk.new' _ _ _ _ (by simp)
  have HL0 : Hid (Loc w0 w0 (w.heap.size + 1) 1 none 0 (upTo 0)) := Loc.start (Below.refl _ _) K1
  have HB := Lib.hid hb0
  have HW := Lib.hid hw0
  clear hb0 hw0 K1
  go_enter Try.func38, Try.ntmps38
  go_wp2
  rw [← HW.out]
  go_loopw [5] (fun i wr => ∃ k : Nat, k ≤ n ∧ i = .int .i64 k ∧ Hid (∃ A cap, Loc w0 wr (w.heap.size + 1) 1 A cap (upTo k))) (fun i _ => n - (intOf i).toNat)
  case atStart => exact ⟨0, Nat.zero_le _, rfl, _, _, HL0.out⟩
  case round =>
    obtain ⟨k, hk, rfl, HR⟩ := hrel
    obtain ⟨A, cap, hL⟩ := HR.out
    have HN := Lib.hid (upTo_len k)
    by_cases hlt : k < n
    · have HP : Hid (∀ w' A' c', (wr.alloc (.cells #[.int .i64 k] 3)).grownBy w' (Value.slice A (upTo k).length cap).ownBlock → w'.ownsRow (w.heap.size + 1 + 1) 3 1 (.slice A' ((upTo k).length + 1) c') ((upTo k).length + 1) ((upTo k).map i64 ++ [i64 k]) → 
          Blk w' (w.heap.size + 1) 26 #[.int .i64 1, .slice A (upTo k).length cap] ∧ Loc w0 (w'.setCell ⟨w.heap.size + 1, 1, none⟩ (.slice A' ((upTo k).length + 1) c')) (w.heap.size + 1) 1 A' c' (upTo (k + 1))) := fun w' A' c' h1 h2 => by rw [upTo_succ]; exact hL.push k h1 h2
      have c1 := hL.blk.cell 1
      simp at c1
      have HO := Lib.hid hL.own
      have hlt2 := hL.lt
      have HC1 := Lib.hid ((Blk.new wr 3 #[.int .i64 k]).cell 0)
      clear hL HR
      generalize hq : upTo k = L at *
      have hLk : L.length ≤ 5 := by have := HN.out; omega
      clear HN
      go_wp2_with (at_builtin; refine wpList_append_one rfl _ _ 24 rfl (w.heap.size + 1 + 1) 3 (.int .i64 0) 8 Try.underlying24 info_int rfl (by omega) (.slice A L.length cap) L.length (L.map i64) rfl (HO.out.alloc _) wr.heap.size (i64 k) rfl HC1.out rfl (by omega) (by simp; omega) ?_; intro v' w' hown' hg'; obtain ⟨A', cap', rfl⟩ := own_shape hown'; obtain ⟨hB, hLL⟩ := HP.out w' A' cap' hg' hown'; have hc6 := hB.cell 1; have hf6 := hB.frozen 1; simp at hc6; have HL := Lib.hid hLL; clear hB hLL hown' hg')
      go_roundw
      case rel => exact ⟨k + 1, by omega, by go_num, _, _, HL.out⟩
      case measure => simp [intOf]; omega
    · obtain rfl : k = n := by omega
      have a0 := hL.blk.cell 0
      have a1 := hL.blk.cell 1
      have hKR : Blk wr w.heap.size 26 #[.int .i64 0, .slice none 0 0] := K0.out.below hL.low (by omega)
      have f0 := hKR.frozen 0
      have f1 := hKR.frozen 1
      have b0 := hKR.cell 0
      have b1 := hKR.cell 1
      simp at a0 a1 b0 b1
      have HL := Lib.hid hL
      have HKR := Lib.hid hKR
      clear hL HR hKR
      generalize hq : upTo k = L at *
      go_wp2_with fail
      have KA := Lib.hid ((HKR.out.set 0 (.int .i64 1)).set 1 (.slice A L.length cap))
      have hcA := KA.out.cell 0
      have hcB := KA.out.cell 1
      have HF : Hid (Frm (fun k => k = w.heap.size) wr ((wr.setCell ⟨w.heap.size, 0, none⟩ (.int .i64 1)).setCell ⟨w.heap.size, 1, none⟩ (.slice A L.length cap))) := Frm.tr (Frm.of_set _ _ _ rfl) (Frm.of_set _ _ _ rfl)
      have hE := hD.out (.returned (.tuple #[.agg #[.int .i64 1, .slice A L.length cap], .int .i64 0])) _ ⟨_, rfl, by
          have h1 := own_frm HL.out.own HF.out (fun k hk e => by have := (HL.out.own.lt k hk).1; omega)
          rw [HN.out] at h1
          rw [HN.out]
          exact own_base h1 (fun k hk => by have := (h1.lt k hk).1; omega),
        Frm.step (Below.trans HB.out (Below.mono HL.out.low (by omega))) HF.out (by have := HL.out.lt; omega) (by rintro k e; omega)⟩
      exact bodyPost_ret (v := .tuple #[.agg #[.int .i64 1, .slice A L.length cap], .int .i64 0]) (by simp [results, Try.results38, go_sem, hcA, hcB]) rfl hE

end Go.Proofs.Ytkdcbidbciognaa
