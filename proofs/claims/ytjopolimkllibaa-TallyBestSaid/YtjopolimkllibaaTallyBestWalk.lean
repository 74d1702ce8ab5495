/-
  The walk of the law TallyBest.
-/
import Derived.Test.YtjopolimkllibaaTally4
import Derived.Test.YtjopolimkllibaaTold14
namespace Go.Proofs.Ytjopolimkllibaa
set_option linter.unusedVariables false
set_option linter.unusedSimpArgs false
open Go.RowKit Go.ChangeShapes Go.WideShapes

theorem mayBal_ok (r n : Int) (h0 : 0 ≤ r) (h1 : r ≤ 1000) (h2 : 0 ≤ n) (h3 : n < 5) : mayBal r n = true := by unfold mayBal; exact decide_eq_true (by omega)
theorem mayCh_ok (n : Int) (h2 : 0 ≤ n) (h3 : n < 5) : mayChainB 7 [n] = true := by
  unfold mayChainB okNodes okNodes
  simp
  omega
theorem cmp_pos (r n t b : Int) (h : t < r ∨ (r = t ∧ b < n)) : 0 < cmpBal r n t b := by unfold cmpBal; grind
theorem cmp_neg (r n t b : Int) (h : r < t ∨ (r = t ∧ n ≤ b)) : cmpBal r n t b ≤ 0 := by unfold cmpBal; grind

/-- the nodes that were asked -/
def asked (s : Int) (i : Nat) : List Int := (List.range i).map fun (j : Nat) => ((j : Int) + s) % 5
theorem asked_succ (s : Int) (i : Nat) : asked s (i + 1) = asked s i ++ [((i : Int) + s) % 5] := by
  unfold asked
  rw [List.range_succ, List.map_append]
  rfl
theorem asked_length (s : Int) (i : Nat) : (asked s i).length = i := by simp [asked]
theorem asked_new (s : Int) (i : Nat) (h0 : 0 ≤ s) (h4 : s < 5) (hi : i < 5) : ¬ ((i : Int) + s) % 5 ∈ asked s i := by
  unfold asked
  intro h
  obtain ⟨j, hj, he⟩ := List.mem_map.1 h
  rw [List.mem_range] at hj
  omega
theorem asked_in (s : Int) (i : Nat) : ((i : Int) + s) % 5 ∈ asked s (i + 1) := by
  rw [asked_succ]
  simp

/-- the count of the law behind i nodes: the best one, -1 for none, and its round -/
def bestV (s : Int) (i : Nat) (best top : Int) : TV :=
  if best < 0 then ⟨5, 1000, 4, 7, [4], asked s i, [], false, 0, 0, 0, []⟩ else ⟨5, 1000, 4, 7, [4], asked s i, [], true, top, best, 7, [best]⟩

set_option maxRecDepth 100000 in
set_option maxHeartbeats 16000000 in
theorem walk_tallyBest (A : Option Addr) (cap : Nat) (l : List Int) (turn : Int) (w : World) (hl : l.length ≤ 9223372036854775807) (hs : Sl i64 w A l) :
    Calls Try.prog 13 #[.slice A l.length cap, .int .i64 turn] w fun e w' => e = .returned (.bool true) ∧ Below w.heap.size w w' := by
  refine hide_post fun D hD => ?_
  have HT : Hid (∀ W, Calls Try.prog 49 #[] W fun e w' => e = .returned (.bool true) ∧ Ext W w') := told_tally
  by_cases hlen : l.length < 5
  · clear hs
    generalize l.length = n at *
    go_enter Try.func13, Try.ntmps13
    go_wp2_with (go_at_call 49; (with_reducible refine (HT.out _).mono ?_); rintro e w2 ⟨rfl, hx⟩; have X2 := Lib.hid hx; clear hx)
    try go_ret
    exact hD.out _ _ ⟨rfl, X2.out⟩
  obtain ⟨s0, s4⟩ := umod_bd turn 5 (by omega) (by omega)
  obtain ⟨s, hs5⟩ : ∃ s, wrap64 ((IntKind.u64.wrap turn).tmod 5) = s := ⟨_, rfl⟩
  rw [hs5] at s0 s4
  obtain ⟨w0, hw0⟩ : ∃ w0, w0 = (((w.alloc (.cells #[.int .i64 4] 3)).alloc (.cells #[.int .i64 1000, .int .i64 4] 23)).alloc (.cells #[.int .i64 7, .slice (some ⟨w.heap.size, 0, none⟩) 1 1] 48)) := ⟨_, rfl⟩
  have hb0 : Ext w w0 := by rw [hw0]; exact (((Below.refl _ _).alloc (Nat.le_refl _) _).alloc (by simp) _).alloc (by simp; omega) _
  have hz0 : w0.heap.size = w.heap.size + 1 + 1 + 1 := by rw [hw0]; simp
  have KS : Hid (Blk w0 w.heap.size 3 #[.int .i64 4]) := by show Blk _ _ _ _; rw [hw0]; exact ((Blk.new _ _ _).alloc _).alloc _
  have KB : Hid (Blk w0 (w.heap.size + 1) 23 #[.int .i64 1000, .int .i64 4]) := by show Blk _ _ _ _; rw [hw0]; exact (Blk.new' _ _ _ _ (by simp)).alloc _
  have KO : Hid (Blk w0 (w.heap.size + 1 + 1) 48 #[.int .i64 7, .slice (some ⟨w.heap.size, 0, none⟩) 1 1]) := by show Blk _ _ _ _; rw [hw0]; exact Blk.new' _ _ _ _ (by simp)
  have HNEW : Hid (Calls Try.prog 50 #[.int .i64 5, .agg #[.int .i64 1000, .int .i64 4], .agg #[.int .i64 7, .slice (some ⟨w.heap.size, 0, none⟩) 1 1]] w0 fun e w' => ∃ P, e = .returned (.tuple #[.pointer (some ⟨P, 0, none⟩), .int .i64 0]) ∧ Ext w0 w' ∧ TAt w' w0.heap.size P (fun k => k < w0.heap.size) (bestV s 0 (-1) 0)) :=
    (new_ok 5 1000 4 7 (some ⟨w.heap.size, 0, none⟩) 1 [4] w0 (by omega) (by decide) (by decide) (by simp) (by simp) (Sl.of_blk KS.out (fun j v hj => by match j, hj with | 0, hj => (simp at hj; subst hj; rfl)))).mono fun _ _ ⟨P, he, hx, ht⟩ => ⟨P, he, hx, ht⟩
  have HB0 := Lib.hid hb0
  have HW0 := Lib.hid hw0
  have HZ0 := Lib.hid hz0
  have HSL := Lib.hid (hs.stay hb0)
  obtain ⟨N, hN⟩ : ∃ N, N = l.length := ⟨_, rfl⟩
  rw [← hN] at hl hlen ⊢
  have HN := Lib.hid hN
  have h5N : 5 ≤ N := by omega
  clear hb0 hw0 hz0 hs hN hlen
  go_enter Try.func13, Try.ntmps13
  go_wp2_with (go_at_call 50; rw [← HW0.out]; (with_reducible refine HNEW.out.mono ?_); rintro e w1 ⟨P, rfl, hx, ht⟩; have T1 := Lib.hid ht; have X1 := Lib.hid hx; clear hx ht)
  go_loopw [11, 9, 10] (fun i b t wr => ∃ (j : Nat) (best top : Int), j ≤ 5 ∧ i = .int .i64 j ∧ b = .int .i64 best ∧ t = .int .i64 top ∧ -1 ≤ best ∧ best ≤ 4 ∧ 0 ≤ top ∧ top ≤ 900 ∧ (best < 0 → top = 0) ∧ Hid (Ext w0 wr ∧ TAt wr w0.heap.size P (fun k => k < w0.heap.size) (bestV s j best top))) (fun i _ _ _ => 5 - (intOf i).toNat)
  case atStart => exact ⟨0, -1, 0, by omega, rfl, rfl, rfl, by omega, by omega, by omega, by omega, fun _ => rfl, X1.out, T1.out⟩
  case round =>
    obtain ⟨j, best, top, hj, rfl, rfl, rfl, hb0, hb4, ht0, ht9, hbt, HI⟩ := hrel
    by_cases hj5 : j < 5
    · have e0 : 0 ≤ ((j : Int) + s) % 5 := by omega
      have e5 : ((j : Int) + s) % 5 < 5 := by omega
      have eN : ((j : Int) + s) % 5 < (N : Int) := by omega
      obtain ⟨bb, oo, hA, hcell⟩ := (HSL.out.stay HI.out.1).at_ (k := (((j : Int) + s) % 5).toNat) (by rw [← HN.out]; omega)
      subst hA
      have hbz : bb < wr.heap.size := World.block_lt_of_cell? wr _ hcell
      generalize l[(((j : Int) + s) % 5).toNat]'(by rw [← HN.out]; omega) = y at *
      unfold i64 at hcell
      obtain ⟨r0, r9⟩ := umod_bd y 900 (by omega) (by omega)
      obtain ⟨r, hr⟩ : ∃ r, wrap64 ((IntKind.u64.wrap y).tmod 900) = r := ⟨_, rfl⟩
      rw [hr] at r0 r9
      have b0 := (KB.out.stay HI.out.1).cell 0
      have b1 := (KB.out.stay HI.out.1).cell 1
      have bz : w.heap.size + 1 < wr.heap.size := (KB.out.stay HI.out.1).lt
      have hj0 : (0 : Int) ≤ (j : Int) := by omega
      by_cases hr0 : 0 < r
      · have hcs : top < r ∨ (¬ top < r ∧ r = top ∧ best < ((j : Int) + s) % 5) ∨ (¬ top < r ∧ r = top ∧ ¬ best < ((j : Int) + s) % 5) ∨ (¬ top < r ∧ ¬ r = top) := by omega
        rcases hcs with q1 | ⟨q1, q2, q3⟩ | ⟨q1, q2, q3⟩ | ⟨q1, q2⟩
        · by_cases hbn : best < 0
          · have ht00 := hbt hbn
            have hv : bestV s j best top = (⟨5, 1000, 4, 7, [4], (asked s j), [], false, 0, 0, 0, []⟩ : TV) := by unfold bestV; rw [if_pos (by omega)]
            have hvn : bestV s (j + 1) (((j : Int) + s) % 5) r = (⟨5, 1000, 4, 7, [4], (asked s j ++ [((j : Int) + s) % 5]), [], true, r, (((j : Int) + s) % 5), 7, [(((j : Int) + s) % 5)]⟩ : TV) := by unfold bestV; rw [if_neg (by omega), asked_succ]
            have HH : TAt ((wr.alloc (.cells #[.int .i64 1000, .int .i64 4, .int .i64 r, .int .i64 (((j : Int) + s) % 5), .bool true, .int .i64 7, .slice (some ⟨wr.heap.size + 1, 0, none⟩) 1 1] 70)).alloc (.cells #[.int .i64 (((j : Int) + s) % 5)] 3)) w0.heap.size P (fun k => k < w0.heap.size ∨ (wr.heap.size ≤ k ∧ k < ((wr.alloc (.cells #[.int .i64 1000, .int .i64 4, .int .i64 r, .int .i64 (((j : Int) + s) % 5), .bool true, .int .i64 7, .slice (some ⟨wr.heap.size + 1, 0, none⟩) 1 1] 70)).alloc (.cells #[.int .i64 (((j : Int) + s) % 5)] 3)).heap.size)) (⟨5, 1000, 4, 7, [4], (asked s j), [], false, 0, 0, 0, []⟩ : TV) := by rw [← hv]; exact HI.out.2.more (Ext.trans (Ext.alloc _ _) (Ext.alloc _ _))
            have hrow : Blk ((wr.alloc (.cells #[.int .i64 1000, .int .i64 4, .int .i64 r, .int .i64 (((j : Int) + s) % 5), .bool true, .int .i64 7, .slice (some ⟨wr.heap.size + 1, 0, none⟩) 1 1] 70)).alloc (.cells #[.int .i64 (((j : Int) + s) % 5)] 3)) (wr.heap.size + 1) 3 #[.int .i64 (((j : Int) + s) % 5)] := Blk.new' _ _ _ _ (by simp)
            have hKr : (fun k => k < w0.heap.size ∨ (wr.heap.size ≤ k ∧ k < ((wr.alloc (.cells #[.int .i64 1000, .int .i64 4, .int .i64 r, .int .i64 (((j : Int) + s) % 5), .bool true, .int .i64 7, .slice (some ⟨wr.heap.size + 1, 0, none⟩) 1 1] 70)).alloc (.cells #[.int .i64 (((j : Int) + s) % 5)] 3)).heap.size)) (wr.heap.size + 1) := Or.inr ⟨by omega, by simp⟩
            have hKv : (fun k => k < w0.heap.size ∨ (wr.heap.size ≤ k ∧ k < ((wr.alloc (.cells #[.int .i64 1000, .int .i64 4, .int .i64 r, .int .i64 (((j : Int) + s) % 5), .bool true, .int .i64 7, .slice (some ⟨wr.heap.size + 1, 0, none⟩) 1 1] 70)).alloc (.cells #[.int .i64 (((j : Int) + s) % 5)] 3)).heap.size)) wr.heap.size := Or.inr ⟨Nat.le_refl _, by simp <;> omega⟩
            have HP : Hid (Calls Try.prog 51 #[.pointer (some ⟨P, 0, none⟩), .int .i64 (((j : Int) + s) % 5), .agg #[.int .i64 1000, .int .i64 4, .int .i64 r, .int .i64 (((j : Int) + s) % 5), .bool true, .int .i64 7, .slice (some ⟨wr.heap.size + 1, 0, none⟩) 1 1]] ((wr.alloc (.cells #[.int .i64 1000, .int .i64 4, .int .i64 r, .int .i64 (((j : Int) + s) % 5), .bool true, .int .i64 7, .slice (some ⟨wr.heap.size + 1, 0, none⟩) 1 1] 70)).alloc (.cells #[.int .i64 (((j : Int) + s) % 5)] 3)) fun e w' => e = .returned (.bool true) ∧ TAt w' w0.heap.size P (fun k => k < w0.heap.size ∨ (wr.heap.size ≤ k ∧ k < ((wr.alloc (.cells #[.int .i64 1000, .int .i64 4, .int .i64 r, .int .i64 (((j : Int) + s) % 5), .bool true, .int .i64 7, .slice (some ⟨wr.heap.size + 1, 0, none⟩) 1 1] 70)).alloc (.cells #[.int .i64 (((j : Int) + s) % 5)] 3)).heap.size)) (⟨5, 1000, 4, 7, [4], (asked s j ++ [((j : Int) + s) % 5]), [], true, r, (((j : Int) + s) % 5), 7, [(((j : Int) + s) % 5)]⟩ : TV) ∧ Keep (fun k => k < w0.heap.size ∨ (wr.heap.size ≤ k ∧ k < ((wr.alloc (.cells #[.int .i64 1000, .int .i64 4, .int .i64 r, .int .i64 (((j : Int) + s) % 5), .bool true, .int .i64 7, .slice (some ⟨wr.heap.size + 1, 0, none⟩) 1 1] 70)).alloc (.cells #[.int .i64 (((j : Int) + s) % 5)] 3)).heap.size)) ((wr.alloc (.cells #[.int .i64 1000, .int .i64 4, .int .i64 r, .int .i64 (((j : Int) + s) % 5), .bool true, .int .i64 7, .slice (some ⟨wr.heap.size + 1, 0, none⟩) 1 1] 70)).alloc (.cells #[.int .i64 (((j : Int) + s) % 5)] 3)) w' ∧ Below w0.heap.size ((wr.alloc (.cells #[.int .i64 1000, .int .i64 4, .int .i64 r, .int .i64 (((j : Int) + s) % 5), .bool true, .int .i64 7, .slice (some ⟨wr.heap.size + 1, 0, none⟩) 1 1] 70)).alloc (.cells #[.int .i64 (((j : Int) + s) % 5)] 3)) w') := prom_tf w0.heap.size P _ 5 1000 4 7 [4] (asked s j) [] 0 0 0 [] (((j : Int) + s) % 5) r (((j : Int) + s) % 5) 7 (some ⟨wr.heap.size + 1, 0, none⟩) 1 [((j : Int) + s) % 5] ((wr.alloc (.cells #[.int .i64 1000, .int .i64 4, .int .i64 r, .int .i64 (((j : Int) + s) % 5), .bool true, .int .i64 7, .slice (some ⟨wr.heap.size + 1, 0, none⟩) 1 1] 70)).alloc (.cells #[.int .i64 (((j : Int) + s) % 5)] 3)) HH e0 e5 (asked_new s j s0 s4 hj5) (by rw [asked_length]; omega) (mayBal_ok _ _ (by omega) (by omega) e0 e5) (mayCh_ok _ e0 e5) (by simp) (by simp) (Sl.of_blk hrow (fun j v hj => by match j, hj with | 0, hj => (simp at hj; subst hj; rfl))) (fun a ha => by injection ha with ha; subst ha; exact hKr) rfl
            have HPI : Hid (∀ W, TAt W w0.heap.size P (fun k => k < w0.heap.size ∨ (wr.heap.size ≤ k ∧ k < ((wr.alloc (.cells #[.int .i64 1000, .int .i64 4, .int .i64 r, .int .i64 (((j : Int) + s) % 5), .bool true, .int .i64 7, .slice (some ⟨wr.heap.size + 1, 0, none⟩) 1 1] 70)).alloc (.cells #[.int .i64 (((j : Int) + s) % 5)] 3)).heap.size)) (⟨5, 1000, 4, 7, [4], (asked s j ++ [((j : Int) + s) % 5]), [], true, r, (((j : Int) + s) % 5), 7, [(((j : Int) + s) % 5)]⟩ : TV) → Keep (fun k => k < w0.heap.size ∨ (wr.heap.size ≤ k ∧ k < ((wr.alloc (.cells #[.int .i64 1000, .int .i64 4, .int .i64 r, .int .i64 (((j : Int) + s) % 5), .bool true, .int .i64 7, .slice (some ⟨wr.heap.size + 1, 0, none⟩) 1 1] 70)).alloc (.cells #[.int .i64 (((j : Int) + s) % 5)] 3)).heap.size)) ((wr.alloc (.cells #[.int .i64 1000, .int .i64 4, .int .i64 r, .int .i64 (((j : Int) + s) % 5), .bool true, .int .i64 7, .slice (some ⟨wr.heap.size + 1, 0, none⟩) 1 1] 70)).alloc (.cells #[.int .i64 (((j : Int) + s) % 5)] 3)) W → Calls Try.prog 51 #[.pointer (some ⟨P, 0, none⟩), .int .i64 (((j : Int) + s) % 5), .agg #[.int .i64 1000, .int .i64 4, .int .i64 r, .int .i64 (((j : Int) + s) % 5), .bool true, .int .i64 7, .slice (some ⟨wr.heap.size + 1, 0, none⟩) 1 1]] W fun e w' => e = .returned (.bool false) ∧ Ext W w') := fun W ht hk => prom_in_t w0.heap.size P _ 5 1000 4 7 [4] (asked s j ++ [((j : Int) + s) % 5]) [] true r (((j : Int) + s) % 5) 7 [(((j : Int) + s) % 5)] (((j : Int) + s) % 5) r (((j : Int) + s) % 5) 7 (some ⟨wr.heap.size + 1, 0, none⟩) 1 [((j : Int) + s) % 5] W ht e0 e5 (by have := asked_in s j; rw [asked_succ] at this; exact this) (by rw [List.length_append, asked_length]; simp; omega) (mayBal_ok _ _ (by omega) (by omega) e0 e5) (mayCh_ok _ e0 e5) (by simp) (by simp) (Sl.of_blk (hrow.keep hk hKr) (fun j v hj => by match j, hj with | 0, hj => (simp at hj; subst hj; rfl))) (fun a ha => by injection ha with ha; subst ha; exact hKr) rfl
            have hvb : Blk ((wr.alloc (.cells #[.int .i64 1000, .int .i64 4, .int .i64 r, .int .i64 (((j : Int) + s) % 5), .bool true, .int .i64 7, .slice (some ⟨wr.heap.size + 1, 0, none⟩) 1 1] 70)).alloc (.cells #[.int .i64 (((j : Int) + s) % 5)] 3)) wr.heap.size 70 #[.int .i64 1000, .int .i64 4, .int .i64 r, .int .i64 (((j : Int) + s) % 5), .bool true, .int .i64 7, .slice (some ⟨wr.heap.size + 1, 0, none⟩) 1 1] := (Blk.new wr 70 #[.int .i64 1000, .int .i64 4, .int .i64 r, .int .i64 (((j : Int) + s) % 5), .bool true, .int .i64 7, .slice (some ⟨wr.heap.size + 1, 0, none⟩) 1 1]).alloc _
            have HVB := Lib.hid hvb
            have HKV := Lib.hid hKv
            have HVN := Lib.hid hvn
            have HE2 : Hid (Ext w0 ((wr.alloc (.cells #[.int .i64 1000, .int .i64 4, .int .i64 r, .int .i64 (((j : Int) + s) % 5), .bool true, .int .i64 7, .slice (some ⟨wr.heap.size + 1, 0, none⟩) 1 1] 70)).alloc (.cells #[.int .i64 (((j : Int) + s) % 5)] 3))) := Ext.trans HI.out.1 (Ext.trans (Ext.alloc _ _) (Ext.alloc _ _))
            clear hv hvn HH hKv hvb hrow hKr
            go_wp2_with (first | (go_at_call 51; (with_reducible refine HP.out.mono ?_); rintro e w3 ⟨rfl, ht, hk, hb⟩; have v0 := (HVB.out.keep hk HKV.out).cell 0; have v1 := (HVB.out.keep hk HKV.out).cell 1; have v2 := (HVB.out.keep hk HKV.out).cell 2; have v3 := (HVB.out.keep hk HKV.out).cell 3; have v4 := (HVB.out.keep hk HKV.out).cell 4; have v5 := (HVB.out.keep hk HKV.out).cell 5; have v6 := (HVB.out.keep hk HKV.out).cell 6; have HP2 := Lib.hid (HPI.out _ ht hk); have T3 := Lib.hid ht; have X3 : Hid (Ext w0 w3) := Below.trans HE2.out hb; clear ht hk hb) | (go_at_call 51; (with_reducible refine HP2.out.mono ?_); rintro e w4 ⟨rfl, hx⟩; have T4 := Lib.hid (T3.out.stay hx); have X4 : Hid (Ext w0 w4) := Ext.trans X3.out hx; clear hx))
            go_roundw
            case rel => exact ⟨j + 1, (((j : Int) + s) % 5), r, by omega, by go_num, rfl, rfl, by omega, by omega, by omega, by omega, fun h => by omega, X4.out, by rw [HVN.out]; exact T4.out.weak (fun k hk => Or.inl hk)⟩
            case measure => simp [intOf]; omega
          · have hv : bestV s j best top = (⟨5, 1000, 4, 7, [4], (asked s j), [], true, top, best, 7, [best]⟩ : TV) := by unfold bestV; rw [if_neg (by omega)]
            have hvn : bestV s (j + 1) (((j : Int) + s) % 5) r = (⟨5, 1000, 4, 7, [4], (asked s j ++ [((j : Int) + s) % 5]), [], true, r, (((j : Int) + s) % 5), 7, [(((j : Int) + s) % 5)]⟩ : TV) := by unfold bestV; rw [if_neg (by omega), asked_succ]
            have HH : TAt ((wr.alloc (.cells #[.int .i64 1000, .int .i64 4, .int .i64 r, .int .i64 (((j : Int) + s) % 5), .bool true, .int .i64 7, .slice (some ⟨wr.heap.size + 1, 0, none⟩) 1 1] 70)).alloc (.cells #[.int .i64 (((j : Int) + s) % 5)] 3)) w0.heap.size P (fun k => k < w0.heap.size ∨ (wr.heap.size ≤ k ∧ k < ((wr.alloc (.cells #[.int .i64 1000, .int .i64 4, .int .i64 r, .int .i64 (((j : Int) + s) % 5), .bool true, .int .i64 7, .slice (some ⟨wr.heap.size + 1, 0, none⟩) 1 1] 70)).alloc (.cells #[.int .i64 (((j : Int) + s) % 5)] 3)).heap.size)) (⟨5, 1000, 4, 7, [4], (asked s j), [], true, top, best, 7, [best]⟩ : TV) := by rw [← hv]; exact HI.out.2.more (Ext.trans (Ext.alloc _ _) (Ext.alloc _ _))
            have hrow : Blk ((wr.alloc (.cells #[.int .i64 1000, .int .i64 4, .int .i64 r, .int .i64 (((j : Int) + s) % 5), .bool true, .int .i64 7, .slice (some ⟨wr.heap.size + 1, 0, none⟩) 1 1] 70)).alloc (.cells #[.int .i64 (((j : Int) + s) % 5)] 3)) (wr.heap.size + 1) 3 #[.int .i64 (((j : Int) + s) % 5)] := Blk.new' _ _ _ _ (by simp)
            have hKr : (fun k => k < w0.heap.size ∨ (wr.heap.size ≤ k ∧ k < ((wr.alloc (.cells #[.int .i64 1000, .int .i64 4, .int .i64 r, .int .i64 (((j : Int) + s) % 5), .bool true, .int .i64 7, .slice (some ⟨wr.heap.size + 1, 0, none⟩) 1 1] 70)).alloc (.cells #[.int .i64 (((j : Int) + s) % 5)] 3)).heap.size)) (wr.heap.size + 1) := Or.inr ⟨by omega, by simp⟩
            have hKv : (fun k => k < w0.heap.size ∨ (wr.heap.size ≤ k ∧ k < ((wr.alloc (.cells #[.int .i64 1000, .int .i64 4, .int .i64 r, .int .i64 (((j : Int) + s) % 5), .bool true, .int .i64 7, .slice (some ⟨wr.heap.size + 1, 0, none⟩) 1 1] 70)).alloc (.cells #[.int .i64 (((j : Int) + s) % 5)] 3)).heap.size)) wr.heap.size := Or.inr ⟨Nat.le_refl _, by simp <;> omega⟩
            have HP : Hid (Calls Try.prog 51 #[.pointer (some ⟨P, 0, none⟩), .int .i64 (((j : Int) + s) % 5), .agg #[.int .i64 1000, .int .i64 4, .int .i64 r, .int .i64 (((j : Int) + s) % 5), .bool true, .int .i64 7, .slice (some ⟨wr.heap.size + 1, 0, none⟩) 1 1]] ((wr.alloc (.cells #[.int .i64 1000, .int .i64 4, .int .i64 r, .int .i64 (((j : Int) + s) % 5), .bool true, .int .i64 7, .slice (some ⟨wr.heap.size + 1, 0, none⟩) 1 1] 70)).alloc (.cells #[.int .i64 (((j : Int) + s) % 5)] 3)) fun e w' => e = .returned (.bool true) ∧ TAt w' w0.heap.size P (fun k => k < w0.heap.size ∨ (wr.heap.size ≤ k ∧ k < ((wr.alloc (.cells #[.int .i64 1000, .int .i64 4, .int .i64 r, .int .i64 (((j : Int) + s) % 5), .bool true, .int .i64 7, .slice (some ⟨wr.heap.size + 1, 0, none⟩) 1 1] 70)).alloc (.cells #[.int .i64 (((j : Int) + s) % 5)] 3)).heap.size)) (⟨5, 1000, 4, 7, [4], (asked s j ++ [((j : Int) + s) % 5]), [], true, r, (((j : Int) + s) % 5), 7, [(((j : Int) + s) % 5)]⟩ : TV) ∧ Keep (fun k => k < w0.heap.size ∨ (wr.heap.size ≤ k ∧ k < ((wr.alloc (.cells #[.int .i64 1000, .int .i64 4, .int .i64 r, .int .i64 (((j : Int) + s) % 5), .bool true, .int .i64 7, .slice (some ⟨wr.heap.size + 1, 0, none⟩) 1 1] 70)).alloc (.cells #[.int .i64 (((j : Int) + s) % 5)] 3)).heap.size)) ((wr.alloc (.cells #[.int .i64 1000, .int .i64 4, .int .i64 r, .int .i64 (((j : Int) + s) % 5), .bool true, .int .i64 7, .slice (some ⟨wr.heap.size + 1, 0, none⟩) 1 1] 70)).alloc (.cells #[.int .i64 (((j : Int) + s) % 5)] 3)) w' ∧ Below w0.heap.size ((wr.alloc (.cells #[.int .i64 1000, .int .i64 4, .int .i64 r, .int .i64 (((j : Int) + s) % 5), .bool true, .int .i64 7, .slice (some ⟨wr.heap.size + 1, 0, none⟩) 1 1] 70)).alloc (.cells #[.int .i64 (((j : Int) + s) % 5)] 3)) w') := prom_ttg w0.heap.size P _ 5 1000 4 7 [4] (asked s j) [] top best 7 [best] (((j : Int) + s) % 5) r (((j : Int) + s) % 5) 7 (some ⟨wr.heap.size + 1, 0, none⟩) 1 [((j : Int) + s) % 5] ((wr.alloc (.cells #[.int .i64 1000, .int .i64 4, .int .i64 r, .int .i64 (((j : Int) + s) % 5), .bool true, .int .i64 7, .slice (some ⟨wr.heap.size + 1, 0, none⟩) 1 1] 70)).alloc (.cells #[.int .i64 (((j : Int) + s) % 5)] 3)) HH e0 e5 (asked_new s j s0 s4 hj5) (by rw [asked_length]; omega) (mayBal_ok _ _ (by omega) (by omega) e0 e5) (mayCh_ok _ e0 e5) (by simp) (by simp) (Sl.of_blk hrow (fun j v hj => by match j, hj with | 0, hj => (simp at hj; subst hj; rfl))) (fun a ha => by injection ha with ha; subst ha; exact hKr) (cmp_pos _ _ _ _ (by omega)) rfl
            have HPI : Hid (∀ W, TAt W w0.heap.size P (fun k => k < w0.heap.size ∨ (wr.heap.size ≤ k ∧ k < ((wr.alloc (.cells #[.int .i64 1000, .int .i64 4, .int .i64 r, .int .i64 (((j : Int) + s) % 5), .bool true, .int .i64 7, .slice (some ⟨wr.heap.size + 1, 0, none⟩) 1 1] 70)).alloc (.cells #[.int .i64 (((j : Int) + s) % 5)] 3)).heap.size)) (⟨5, 1000, 4, 7, [4], (asked s j ++ [((j : Int) + s) % 5]), [], true, r, (((j : Int) + s) % 5), 7, [(((j : Int) + s) % 5)]⟩ : TV) → Keep (fun k => k < w0.heap.size ∨ (wr.heap.size ≤ k ∧ k < ((wr.alloc (.cells #[.int .i64 1000, .int .i64 4, .int .i64 r, .int .i64 (((j : Int) + s) % 5), .bool true, .int .i64 7, .slice (some ⟨wr.heap.size + 1, 0, none⟩) 1 1] 70)).alloc (.cells #[.int .i64 (((j : Int) + s) % 5)] 3)).heap.size)) ((wr.alloc (.cells #[.int .i64 1000, .int .i64 4, .int .i64 r, .int .i64 (((j : Int) + s) % 5), .bool true, .int .i64 7, .slice (some ⟨wr.heap.size + 1, 0, none⟩) 1 1] 70)).alloc (.cells #[.int .i64 (((j : Int) + s) % 5)] 3)) W → Calls Try.prog 51 #[.pointer (some ⟨P, 0, none⟩), .int .i64 (((j : Int) + s) % 5), .agg #[.int .i64 1000, .int .i64 4, .int .i64 r, .int .i64 (((j : Int) + s) % 5), .bool true, .int .i64 7, .slice (some ⟨wr.heap.size + 1, 0, none⟩) 1 1]] W fun e w' => e = .returned (.bool false) ∧ Ext W w') := fun W ht hk => prom_in_t w0.heap.size P _ 5 1000 4 7 [4] (asked s j ++ [((j : Int) + s) % 5]) [] true r (((j : Int) + s) % 5) 7 [(((j : Int) + s) % 5)] (((j : Int) + s) % 5) r (((j : Int) + s) % 5) 7 (some ⟨wr.heap.size + 1, 0, none⟩) 1 [((j : Int) + s) % 5] W ht e0 e5 (by have := asked_in s j; rw [asked_succ] at this; exact this) (by rw [List.length_append, asked_length]; simp; omega) (mayBal_ok _ _ (by omega) (by omega) e0 e5) (mayCh_ok _ e0 e5) (by simp) (by simp) (Sl.of_blk (hrow.keep hk hKr) (fun j v hj => by match j, hj with | 0, hj => (simp at hj; subst hj; rfl))) (fun a ha => by injection ha with ha; subst ha; exact hKr) rfl
            have hvb : Blk ((wr.alloc (.cells #[.int .i64 1000, .int .i64 4, .int .i64 r, .int .i64 (((j : Int) + s) % 5), .bool true, .int .i64 7, .slice (some ⟨wr.heap.size + 1, 0, none⟩) 1 1] 70)).alloc (.cells #[.int .i64 (((j : Int) + s) % 5)] 3)) wr.heap.size 70 #[.int .i64 1000, .int .i64 4, .int .i64 r, .int .i64 (((j : Int) + s) % 5), .bool true, .int .i64 7, .slice (some ⟨wr.heap.size + 1, 0, none⟩) 1 1] := (Blk.new wr 70 #[.int .i64 1000, .int .i64 4, .int .i64 r, .int .i64 (((j : Int) + s) % 5), .bool true, .int .i64 7, .slice (some ⟨wr.heap.size + 1, 0, none⟩) 1 1]).alloc _
            have HVB := Lib.hid hvb
            have HKV := Lib.hid hKv
            have HVN := Lib.hid hvn
            have HE2 : Hid (Ext w0 ((wr.alloc (.cells #[.int .i64 1000, .int .i64 4, .int .i64 r, .int .i64 (((j : Int) + s) % 5), .bool true, .int .i64 7, .slice (some ⟨wr.heap.size + 1, 0, none⟩) 1 1] 70)).alloc (.cells #[.int .i64 (((j : Int) + s) % 5)] 3))) := Ext.trans HI.out.1 (Ext.trans (Ext.alloc _ _) (Ext.alloc _ _))
            clear hv hvn HH hKv hvb hrow hKr
            go_wp2_with (first | (go_at_call 51; (with_reducible refine HP.out.mono ?_); rintro e w3 ⟨rfl, ht, hk, hb⟩; have v0 := (HVB.out.keep hk HKV.out).cell 0; have v1 := (HVB.out.keep hk HKV.out).cell 1; have v2 := (HVB.out.keep hk HKV.out).cell 2; have v3 := (HVB.out.keep hk HKV.out).cell 3; have v4 := (HVB.out.keep hk HKV.out).cell 4; have v5 := (HVB.out.keep hk HKV.out).cell 5; have v6 := (HVB.out.keep hk HKV.out).cell 6; have HP2 := Lib.hid (HPI.out _ ht hk); have T3 := Lib.hid ht; have X3 : Hid (Ext w0 w3) := Below.trans HE2.out hb; clear ht hk hb) | (go_at_call 51; (with_reducible refine HP2.out.mono ?_); rintro e w4 ⟨rfl, hx⟩; have T4 := Lib.hid (T3.out.stay hx); have X4 : Hid (Ext w0 w4) := Ext.trans X3.out hx; clear hx))
            go_roundw
            case rel => exact ⟨j + 1, (((j : Int) + s) % 5), r, by omega, by go_num, rfl, rfl, by omega, by omega, by omega, by omega, fun h => by omega, X4.out, by rw [HVN.out]; exact T4.out.weak (fun k hk => Or.inl hk)⟩
            case measure => simp [intOf]; omega
        · have hbn : ¬ best < 0 := fun h => by have := hbt h; omega
          subst q2
          have q4 : (r == r) = true := by simp
          have hv : bestV s j best r = (⟨5, 1000, 4, 7, [4], (asked s j), [], true, r, best, 7, [best]⟩ : TV) := by unfold bestV; rw [if_neg (by omega)]
          have hvn : bestV s (j + 1) (((j : Int) + s) % 5) r = (⟨5, 1000, 4, 7, [4], (asked s j ++ [((j : Int) + s) % 5]), [], true, r, (((j : Int) + s) % 5), 7, [(((j : Int) + s) % 5)]⟩ : TV) := by unfold bestV; rw [if_neg (by omega), asked_succ]
          have HH : TAt ((wr.alloc (.cells #[.int .i64 1000, .int .i64 4, .int .i64 r, .int .i64 (((j : Int) + s) % 5), .bool true, .int .i64 7, .slice (some ⟨wr.heap.size + 1, 0, none⟩) 1 1] 70)).alloc (.cells #[.int .i64 (((j : Int) + s) % 5)] 3)) w0.heap.size P (fun k => k < w0.heap.size ∨ (wr.heap.size ≤ k ∧ k < ((wr.alloc (.cells #[.int .i64 1000, .int .i64 4, .int .i64 r, .int .i64 (((j : Int) + s) % 5), .bool true, .int .i64 7, .slice (some ⟨wr.heap.size + 1, 0, none⟩) 1 1] 70)).alloc (.cells #[.int .i64 (((j : Int) + s) % 5)] 3)).heap.size)) (⟨5, 1000, 4, 7, [4], (asked s j), [], true, r, best, 7, [best]⟩ : TV) := by rw [← hv]; exact HI.out.2.more (Ext.trans (Ext.alloc _ _) (Ext.alloc _ _))
          have hrow : Blk ((wr.alloc (.cells #[.int .i64 1000, .int .i64 4, .int .i64 r, .int .i64 (((j : Int) + s) % 5), .bool true, .int .i64 7, .slice (some ⟨wr.heap.size + 1, 0, none⟩) 1 1] 70)).alloc (.cells #[.int .i64 (((j : Int) + s) % 5)] 3)) (wr.heap.size + 1) 3 #[.int .i64 (((j : Int) + s) % 5)] := Blk.new' _ _ _ _ (by simp)
          have hKr : (fun k => k < w0.heap.size ∨ (wr.heap.size ≤ k ∧ k < ((wr.alloc (.cells #[.int .i64 1000, .int .i64 4, .int .i64 r, .int .i64 (((j : Int) + s) % 5), .bool true, .int .i64 7, .slice (some ⟨wr.heap.size + 1, 0, none⟩) 1 1] 70)).alloc (.cells #[.int .i64 (((j : Int) + s) % 5)] 3)).heap.size)) (wr.heap.size + 1) := Or.inr ⟨by omega, by simp⟩
          have hKv : (fun k => k < w0.heap.size ∨ (wr.heap.size ≤ k ∧ k < ((wr.alloc (.cells #[.int .i64 1000, .int .i64 4, .int .i64 r, .int .i64 (((j : Int) + s) % 5), .bool true, .int .i64 7, .slice (some ⟨wr.heap.size + 1, 0, none⟩) 1 1] 70)).alloc (.cells #[.int .i64 (((j : Int) + s) % 5)] 3)).heap.size)) wr.heap.size := Or.inr ⟨Nat.le_refl _, by simp <;> omega⟩
          have HP : Hid (Calls Try.prog 51 #[.pointer (some ⟨P, 0, none⟩), .int .i64 (((j : Int) + s) % 5), .agg #[.int .i64 1000, .int .i64 4, .int .i64 r, .int .i64 (((j : Int) + s) % 5), .bool true, .int .i64 7, .slice (some ⟨wr.heap.size + 1, 0, none⟩) 1 1]] ((wr.alloc (.cells #[.int .i64 1000, .int .i64 4, .int .i64 r, .int .i64 (((j : Int) + s) % 5), .bool true, .int .i64 7, .slice (some ⟨wr.heap.size + 1, 0, none⟩) 1 1] 70)).alloc (.cells #[.int .i64 (((j : Int) + s) % 5)] 3)) fun e w' => e = .returned (.bool true) ∧ TAt w' w0.heap.size P (fun k => k < w0.heap.size ∨ (wr.heap.size ≤ k ∧ k < ((wr.alloc (.cells #[.int .i64 1000, .int .i64 4, .int .i64 r, .int .i64 (((j : Int) + s) % 5), .bool true, .int .i64 7, .slice (some ⟨wr.heap.size + 1, 0, none⟩) 1 1] 70)).alloc (.cells #[.int .i64 (((j : Int) + s) % 5)] 3)).heap.size)) (⟨5, 1000, 4, 7, [4], (asked s j ++ [((j : Int) + s) % 5]), [], true, r, (((j : Int) + s) % 5), 7, [(((j : Int) + s) % 5)]⟩ : TV) ∧ Keep (fun k => k < w0.heap.size ∨ (wr.heap.size ≤ k ∧ k < ((wr.alloc (.cells #[.int .i64 1000, .int .i64 4, .int .i64 r, .int .i64 (((j : Int) + s) % 5), .bool true, .int .i64 7, .slice (some ⟨wr.heap.size + 1, 0, none⟩) 1 1] 70)).alloc (.cells #[.int .i64 (((j : Int) + s) % 5)] 3)).heap.size)) ((wr.alloc (.cells #[.int .i64 1000, .int .i64 4, .int .i64 r, .int .i64 (((j : Int) + s) % 5), .bool true, .int .i64 7, .slice (some ⟨wr.heap.size + 1, 0, none⟩) 1 1] 70)).alloc (.cells #[.int .i64 (((j : Int) + s) % 5)] 3)) w' ∧ Below w0.heap.size ((wr.alloc (.cells #[.int .i64 1000, .int .i64 4, .int .i64 r, .int .i64 (((j : Int) + s) % 5), .bool true, .int .i64 7, .slice (some ⟨wr.heap.size + 1, 0, none⟩) 1 1] 70)).alloc (.cells #[.int .i64 (((j : Int) + s) % 5)] 3)) w') := prom_ttg w0.heap.size P _ 5 1000 4 7 [4] (asked s j) [] r best 7 [best] (((j : Int) + s) % 5) r (((j : Int) + s) % 5) 7 (some ⟨wr.heap.size + 1, 0, none⟩) 1 [((j : Int) + s) % 5] ((wr.alloc (.cells #[.int .i64 1000, .int .i64 4, .int .i64 r, .int .i64 (((j : Int) + s) % 5), .bool true, .int .i64 7, .slice (some ⟨wr.heap.size + 1, 0, none⟩) 1 1] 70)).alloc (.cells #[.int .i64 (((j : Int) + s) % 5)] 3)) HH e0 e5 (asked_new s j s0 s4 hj5) (by rw [asked_length]; omega) (mayBal_ok _ _ (by omega) (by omega) e0 e5) (mayCh_ok _ e0 e5) (by simp) (by simp) (Sl.of_blk hrow (fun j v hj => by match j, hj with | 0, hj => (simp at hj; subst hj; rfl))) (fun a ha => by injection ha with ha; subst ha; exact hKr) (cmp_pos _ _ _ _ (by omega)) rfl
          have HPI : Hid (∀ W, TAt W w0.heap.size P (fun k => k < w0.heap.size ∨ (wr.heap.size ≤ k ∧ k < ((wr.alloc (.cells #[.int .i64 1000, .int .i64 4, .int .i64 r, .int .i64 (((j : Int) + s) % 5), .bool true, .int .i64 7, .slice (some ⟨wr.heap.size + 1, 0, none⟩) 1 1] 70)).alloc (.cells #[.int .i64 (((j : Int) + s) % 5)] 3)).heap.size)) (⟨5, 1000, 4, 7, [4], (asked s j ++ [((j : Int) + s) % 5]), [], true, r, (((j : Int) + s) % 5), 7, [(((j : Int) + s) % 5)]⟩ : TV) → Keep (fun k => k < w0.heap.size ∨ (wr.heap.size ≤ k ∧ k < ((wr.alloc (.cells #[.int .i64 1000, .int .i64 4, .int .i64 r, .int .i64 (((j : Int) + s) % 5), .bool true, .int .i64 7, .slice (some ⟨wr.heap.size + 1, 0, none⟩) 1 1] 70)).alloc (.cells #[.int .i64 (((j : Int) + s) % 5)] 3)).heap.size)) ((wr.alloc (.cells #[.int .i64 1000, .int .i64 4, .int .i64 r, .int .i64 (((j : Int) + s) % 5), .bool true, .int .i64 7, .slice (some ⟨wr.heap.size + 1, 0, none⟩) 1 1] 70)).alloc (.cells #[.int .i64 (((j : Int) + s) % 5)] 3)) W → Calls Try.prog 51 #[.pointer (some ⟨P, 0, none⟩), .int .i64 (((j : Int) + s) % 5), .agg #[.int .i64 1000, .int .i64 4, .int .i64 r, .int .i64 (((j : Int) + s) % 5), .bool true, .int .i64 7, .slice (some ⟨wr.heap.size + 1, 0, none⟩) 1 1]] W fun e w' => e = .returned (.bool false) ∧ Ext W w') := fun W ht hk => prom_in_t w0.heap.size P _ 5 1000 4 7 [4] (asked s j ++ [((j : Int) + s) % 5]) [] true r (((j : Int) + s) % 5) 7 [(((j : Int) + s) % 5)] (((j : Int) + s) % 5) r (((j : Int) + s) % 5) 7 (some ⟨wr.heap.size + 1, 0, none⟩) 1 [((j : Int) + s) % 5] W ht e0 e5 (by have := asked_in s j; rw [asked_succ] at this; exact this) (by rw [List.length_append, asked_length]; simp; omega) (mayBal_ok _ _ (by omega) (by omega) e0 e5) (mayCh_ok _ e0 e5) (by simp) (by simp) (Sl.of_blk (hrow.keep hk hKr) (fun j v hj => by match j, hj with | 0, hj => (simp at hj; subst hj; rfl))) (fun a ha => by injection ha with ha; subst ha; exact hKr) rfl
          have hvb : Blk ((wr.alloc (.cells #[.int .i64 1000, .int .i64 4, .int .i64 r, .int .i64 (((j : Int) + s) % 5), .bool true, .int .i64 7, .slice (some ⟨wr.heap.size + 1, 0, none⟩) 1 1] 70)).alloc (.cells #[.int .i64 (((j : Int) + s) % 5)] 3)) wr.heap.size 70 #[.int .i64 1000, .int .i64 4, .int .i64 r, .int .i64 (((j : Int) + s) % 5), .bool true, .int .i64 7, .slice (some ⟨wr.heap.size + 1, 0, none⟩) 1 1] := (Blk.new wr 70 #[.int .i64 1000, .int .i64 4, .int .i64 r, .int .i64 (((j : Int) + s) % 5), .bool true, .int .i64 7, .slice (some ⟨wr.heap.size + 1, 0, none⟩) 1 1]).alloc _
          have HVB := Lib.hid hvb
          have HKV := Lib.hid hKv
          have HVN := Lib.hid hvn
          have HE2 : Hid (Ext w0 ((wr.alloc (.cells #[.int .i64 1000, .int .i64 4, .int .i64 r, .int .i64 (((j : Int) + s) % 5), .bool true, .int .i64 7, .slice (some ⟨wr.heap.size + 1, 0, none⟩) 1 1] 70)).alloc (.cells #[.int .i64 (((j : Int) + s) % 5)] 3))) := Ext.trans HI.out.1 (Ext.trans (Ext.alloc _ _) (Ext.alloc _ _))
          clear hv hvn HH hKv hvb hrow hKr
          go_wp2_with (first | (go_at_call 51; (with_reducible refine HP.out.mono ?_); rintro e w3 ⟨rfl, ht, hk, hb⟩; have v0 := (HVB.out.keep hk HKV.out).cell 0; have v1 := (HVB.out.keep hk HKV.out).cell 1; have v2 := (HVB.out.keep hk HKV.out).cell 2; have v3 := (HVB.out.keep hk HKV.out).cell 3; have v4 := (HVB.out.keep hk HKV.out).cell 4; have v5 := (HVB.out.keep hk HKV.out).cell 5; have v6 := (HVB.out.keep hk HKV.out).cell 6; have HP2 := Lib.hid (HPI.out _ ht hk); have T3 := Lib.hid ht; have X3 : Hid (Ext w0 w3) := Below.trans HE2.out hb; clear ht hk hb) | (go_at_call 51; (with_reducible refine HP2.out.mono ?_); rintro e w4 ⟨rfl, hx⟩; have T4 := Lib.hid (T3.out.stay hx); have X4 : Hid (Ext w0 w4) := Ext.trans X3.out hx; clear hx))
          go_roundw
          case rel => exact ⟨j + 1, (((j : Int) + s) % 5), r, by omega, by go_num, rfl, rfl, by omega, by omega, by omega, by omega, fun h => by omega, X4.out, by rw [HVN.out]; exact T4.out.weak (fun k hk => Or.inl hk)⟩
          case measure => simp [intOf]; omega
        · have hbn : ¬ best < 0 := fun h => by have := hbt h; omega
          subst q2
          have q4 : (r == r) = true := by simp
          have hv : bestV s j best r = (⟨5, 1000, 4, 7, [4], (asked s j), [], true, r, best, 7, [best]⟩ : TV) := by unfold bestV; rw [if_neg (by omega)]
          have hvn : bestV s (j + 1) best r = (⟨5, 1000, 4, 7, [4], (asked s j ++ [((j : Int) + s) % 5]), [], true, r, best, 7, [best]⟩ : TV) := by unfold bestV; rw [if_neg (by omega), asked_succ]
          have HH : TAt ((wr.alloc (.cells #[.int .i64 1000, .int .i64 4, .int .i64 r, .int .i64 (((j : Int) + s) % 5), .bool true, .int .i64 7, .slice (some ⟨wr.heap.size + 1, 0, none⟩) 1 1] 70)).alloc (.cells #[.int .i64 (((j : Int) + s) % 5)] 3)) w0.heap.size P (fun k => k < w0.heap.size ∨ (wr.heap.size ≤ k ∧ k < ((wr.alloc (.cells #[.int .i64 1000, .int .i64 4, .int .i64 r, .int .i64 (((j : Int) + s) % 5), .bool true, .int .i64 7, .slice (some ⟨wr.heap.size + 1, 0, none⟩) 1 1] 70)).alloc (.cells #[.int .i64 (((j : Int) + s) % 5)] 3)).heap.size)) (⟨5, 1000, 4, 7, [4], (asked s j), [], true, r, best, 7, [best]⟩ : TV) := by rw [← hv]; exact HI.out.2.more (Ext.trans (Ext.alloc _ _) (Ext.alloc _ _))
          have hrow : Blk ((wr.alloc (.cells #[.int .i64 1000, .int .i64 4, .int .i64 r, .int .i64 (((j : Int) + s) % 5), .bool true, .int .i64 7, .slice (some ⟨wr.heap.size + 1, 0, none⟩) 1 1] 70)).alloc (.cells #[.int .i64 (((j : Int) + s) % 5)] 3)) (wr.heap.size + 1) 3 #[.int .i64 (((j : Int) + s) % 5)] := Blk.new' _ _ _ _ (by simp)
          have hKr : (fun k => k < w0.heap.size ∨ (wr.heap.size ≤ k ∧ k < ((wr.alloc (.cells #[.int .i64 1000, .int .i64 4, .int .i64 r, .int .i64 (((j : Int) + s) % 5), .bool true, .int .i64 7, .slice (some ⟨wr.heap.size + 1, 0, none⟩) 1 1] 70)).alloc (.cells #[.int .i64 (((j : Int) + s) % 5)] 3)).heap.size)) (wr.heap.size + 1) := Or.inr ⟨by omega, by simp⟩
          have hKv : (fun k => k < w0.heap.size ∨ (wr.heap.size ≤ k ∧ k < ((wr.alloc (.cells #[.int .i64 1000, .int .i64 4, .int .i64 r, .int .i64 (((j : Int) + s) % 5), .bool true, .int .i64 7, .slice (some ⟨wr.heap.size + 1, 0, none⟩) 1 1] 70)).alloc (.cells #[.int .i64 (((j : Int) + s) % 5)] 3)).heap.size)) wr.heap.size := Or.inr ⟨Nat.le_refl _, by simp <;> omega⟩
          have HP : Hid (Calls Try.prog 51 #[.pointer (some ⟨P, 0, none⟩), .int .i64 (((j : Int) + s) % 5), .agg #[.int .i64 1000, .int .i64 4, .int .i64 r, .int .i64 (((j : Int) + s) % 5), .bool true, .int .i64 7, .slice (some ⟨wr.heap.size + 1, 0, none⟩) 1 1]] ((wr.alloc (.cells #[.int .i64 1000, .int .i64 4, .int .i64 r, .int .i64 (((j : Int) + s) % 5), .bool true, .int .i64 7, .slice (some ⟨wr.heap.size + 1, 0, none⟩) 1 1] 70)).alloc (.cells #[.int .i64 (((j : Int) + s) % 5)] 3)) fun e w' => e = .returned (.bool true) ∧ TAt w' w0.heap.size P (fun k => k < w0.heap.size ∨ (wr.heap.size ≤ k ∧ k < ((wr.alloc (.cells #[.int .i64 1000, .int .i64 4, .int .i64 r, .int .i64 (((j : Int) + s) % 5), .bool true, .int .i64 7, .slice (some ⟨wr.heap.size + 1, 0, none⟩) 1 1] 70)).alloc (.cells #[.int .i64 (((j : Int) + s) % 5)] 3)).heap.size)) (⟨5, 1000, 4, 7, [4], (asked s j ++ [((j : Int) + s) % 5]), [], true, r, best, 7, [best]⟩ : TV) ∧ Keep (fun k => k < w0.heap.size ∨ (wr.heap.size ≤ k ∧ k < ((wr.alloc (.cells #[.int .i64 1000, .int .i64 4, .int .i64 r, .int .i64 (((j : Int) + s) % 5), .bool true, .int .i64 7, .slice (some ⟨wr.heap.size + 1, 0, none⟩) 1 1] 70)).alloc (.cells #[.int .i64 (((j : Int) + s) % 5)] 3)).heap.size)) ((wr.alloc (.cells #[.int .i64 1000, .int .i64 4, .int .i64 r, .int .i64 (((j : Int) + s) % 5), .bool true, .int .i64 7, .slice (some ⟨wr.heap.size + 1, 0, none⟩) 1 1] 70)).alloc (.cells #[.int .i64 (((j : Int) + s) % 5)] 3)) w' ∧ Below w0.heap.size ((wr.alloc (.cells #[.int .i64 1000, .int .i64 4, .int .i64 r, .int .i64 (((j : Int) + s) % 5), .bool true, .int .i64 7, .slice (some ⟨wr.heap.size + 1, 0, none⟩) 1 1] 70)).alloc (.cells #[.int .i64 (((j : Int) + s) % 5)] 3)) w') := prom_ttl w0.heap.size P _ 5 1000 4 7 [4] (asked s j) [] r best 7 [best] (((j : Int) + s) % 5) r (((j : Int) + s) % 5) 7 (some ⟨wr.heap.size + 1, 0, none⟩) 1 [((j : Int) + s) % 5] ((wr.alloc (.cells #[.int .i64 1000, .int .i64 4, .int .i64 r, .int .i64 (((j : Int) + s) % 5), .bool true, .int .i64 7, .slice (some ⟨wr.heap.size + 1, 0, none⟩) 1 1] 70)).alloc (.cells #[.int .i64 (((j : Int) + s) % 5)] 3)) HH e0 e5 (asked_new s j s0 s4 hj5) (by rw [asked_length]; omega) (mayBal_ok _ _ (by omega) (by omega) e0 e5) (mayCh_ok _ e0 e5) (by simp) (by simp) (Sl.of_blk hrow (fun j v hj => by match j, hj with | 0, hj => (simp at hj; subst hj; rfl))) (fun a ha => by injection ha with ha; subst ha; exact hKr) (cmp_neg _ _ _ _ (by omega)) rfl
          have HPI : Hid (∀ W, TAt W w0.heap.size P (fun k => k < w0.heap.size ∨ (wr.heap.size ≤ k ∧ k < ((wr.alloc (.cells #[.int .i64 1000, .int .i64 4, .int .i64 r, .int .i64 (((j : Int) + s) % 5), .bool true, .int .i64 7, .slice (some ⟨wr.heap.size + 1, 0, none⟩) 1 1] 70)).alloc (.cells #[.int .i64 (((j : Int) + s) % 5)] 3)).heap.size)) (⟨5, 1000, 4, 7, [4], (asked s j ++ [((j : Int) + s) % 5]), [], true, r, best, 7, [best]⟩ : TV) → Keep (fun k => k < w0.heap.size ∨ (wr.heap.size ≤ k ∧ k < ((wr.alloc (.cells #[.int .i64 1000, .int .i64 4, .int .i64 r, .int .i64 (((j : Int) + s) % 5), .bool true, .int .i64 7, .slice (some ⟨wr.heap.size + 1, 0, none⟩) 1 1] 70)).alloc (.cells #[.int .i64 (((j : Int) + s) % 5)] 3)).heap.size)) ((wr.alloc (.cells #[.int .i64 1000, .int .i64 4, .int .i64 r, .int .i64 (((j : Int) + s) % 5), .bool true, .int .i64 7, .slice (some ⟨wr.heap.size + 1, 0, none⟩) 1 1] 70)).alloc (.cells #[.int .i64 (((j : Int) + s) % 5)] 3)) W → Calls Try.prog 51 #[.pointer (some ⟨P, 0, none⟩), .int .i64 (((j : Int) + s) % 5), .agg #[.int .i64 1000, .int .i64 4, .int .i64 r, .int .i64 (((j : Int) + s) % 5), .bool true, .int .i64 7, .slice (some ⟨wr.heap.size + 1, 0, none⟩) 1 1]] W fun e w' => e = .returned (.bool false) ∧ Ext W w') := fun W ht hk => prom_in_t w0.heap.size P _ 5 1000 4 7 [4] (asked s j ++ [((j : Int) + s) % 5]) [] true r best 7 [best] (((j : Int) + s) % 5) r (((j : Int) + s) % 5) 7 (some ⟨wr.heap.size + 1, 0, none⟩) 1 [((j : Int) + s) % 5] W ht e0 e5 (by have := asked_in s j; rw [asked_succ] at this; exact this) (by rw [List.length_append, asked_length]; simp; omega) (mayBal_ok _ _ (by omega) (by omega) e0 e5) (mayCh_ok _ e0 e5) (by simp) (by simp) (Sl.of_blk (hrow.keep hk hKr) (fun j v hj => by match j, hj with | 0, hj => (simp at hj; subst hj; rfl))) (fun a ha => by injection ha with ha; subst ha; exact hKr) rfl
          have hvb : Blk ((wr.alloc (.cells #[.int .i64 1000, .int .i64 4, .int .i64 r, .int .i64 (((j : Int) + s) % 5), .bool true, .int .i64 7, .slice (some ⟨wr.heap.size + 1, 0, none⟩) 1 1] 70)).alloc (.cells #[.int .i64 (((j : Int) + s) % 5)] 3)) wr.heap.size 70 #[.int .i64 1000, .int .i64 4, .int .i64 r, .int .i64 (((j : Int) + s) % 5), .bool true, .int .i64 7, .slice (some ⟨wr.heap.size + 1, 0, none⟩) 1 1] := (Blk.new wr 70 #[.int .i64 1000, .int .i64 4, .int .i64 r, .int .i64 (((j : Int) + s) % 5), .bool true, .int .i64 7, .slice (some ⟨wr.heap.size + 1, 0, none⟩) 1 1]).alloc _
          have HVB := Lib.hid hvb
          have HKV := Lib.hid hKv
          have HVN := Lib.hid hvn
          have HE2 : Hid (Ext w0 ((wr.alloc (.cells #[.int .i64 1000, .int .i64 4, .int .i64 r, .int .i64 (((j : Int) + s) % 5), .bool true, .int .i64 7, .slice (some ⟨wr.heap.size + 1, 0, none⟩) 1 1] 70)).alloc (.cells #[.int .i64 (((j : Int) + s) % 5)] 3))) := Ext.trans HI.out.1 (Ext.trans (Ext.alloc _ _) (Ext.alloc _ _))
          clear hv hvn HH hKv hvb hrow hKr
          go_wp2_with (first | (go_at_call 51; (with_reducible refine HP.out.mono ?_); rintro e w3 ⟨rfl, ht, hk, hb⟩; have v0 := (HVB.out.keep hk HKV.out).cell 0; have v1 := (HVB.out.keep hk HKV.out).cell 1; have v2 := (HVB.out.keep hk HKV.out).cell 2; have v3 := (HVB.out.keep hk HKV.out).cell 3; have v4 := (HVB.out.keep hk HKV.out).cell 4; have v5 := (HVB.out.keep hk HKV.out).cell 5; have v6 := (HVB.out.keep hk HKV.out).cell 6; have HP2 := Lib.hid (HPI.out _ ht hk); have T3 := Lib.hid ht; have X3 : Hid (Ext w0 w3) := Below.trans HE2.out hb; clear ht hk hb) | (go_at_call 51; (with_reducible refine HP2.out.mono ?_); rintro e w4 ⟨rfl, hx⟩; have T4 := Lib.hid (T3.out.stay hx); have X4 : Hid (Ext w0 w4) := Ext.trans X3.out hx; clear hx))
          go_roundw
          case rel => exact ⟨j + 1, best, r, by omega, by go_num, rfl, rfl, by omega, by omega, by omega, by omega, fun h => by omega, X4.out, by rw [HVN.out]; exact T4.out.weak (fun k hk => Or.inl hk)⟩
          case measure => simp [intOf]; omega
        · have hbn : ¬ best < 0 := fun h => by have := hbt h; omega
          have q4 : (r == top) = false := by simp [q2]
          have hv : bestV s j best top = (⟨5, 1000, 4, 7, [4], (asked s j), [], true, top, best, 7, [best]⟩ : TV) := by unfold bestV; rw [if_neg (by omega)]
          have hvn : bestV s (j + 1) best top = (⟨5, 1000, 4, 7, [4], (asked s j ++ [((j : Int) + s) % 5]), [], true, top, best, 7, [best]⟩ : TV) := by unfold bestV; rw [if_neg (by omega), asked_succ]
          have HH : TAt ((wr.alloc (.cells #[.int .i64 1000, .int .i64 4, .int .i64 r, .int .i64 (((j : Int) + s) % 5), .bool true, .int .i64 7, .slice (some ⟨wr.heap.size + 1, 0, none⟩) 1 1] 70)).alloc (.cells #[.int .i64 (((j : Int) + s) % 5)] 3)) w0.heap.size P (fun k => k < w0.heap.size ∨ (wr.heap.size ≤ k ∧ k < ((wr.alloc (.cells #[.int .i64 1000, .int .i64 4, .int .i64 r, .int .i64 (((j : Int) + s) % 5), .bool true, .int .i64 7, .slice (some ⟨wr.heap.size + 1, 0, none⟩) 1 1] 70)).alloc (.cells #[.int .i64 (((j : Int) + s) % 5)] 3)).heap.size)) (⟨5, 1000, 4, 7, [4], (asked s j), [], true, top, best, 7, [best]⟩ : TV) := by rw [← hv]; exact HI.out.2.more (Ext.trans (Ext.alloc _ _) (Ext.alloc _ _))
          have hrow : Blk ((wr.alloc (.cells #[.int .i64 1000, .int .i64 4, .int .i64 r, .int .i64 (((j : Int) + s) % 5), .bool true, .int .i64 7, .slice (some ⟨wr.heap.size + 1, 0, none⟩) 1 1] 70)).alloc (.cells #[.int .i64 (((j : Int) + s) % 5)] 3)) (wr.heap.size + 1) 3 #[.int .i64 (((j : Int) + s) % 5)] := Blk.new' _ _ _ _ (by simp)
          have hKr : (fun k => k < w0.heap.size ∨ (wr.heap.size ≤ k ∧ k < ((wr.alloc (.cells #[.int .i64 1000, .int .i64 4, .int .i64 r, .int .i64 (((j : Int) + s) % 5), .bool true, .int .i64 7, .slice (some ⟨wr.heap.size + 1, 0, none⟩) 1 1] 70)).alloc (.cells #[.int .i64 (((j : Int) + s) % 5)] 3)).heap.size)) (wr.heap.size + 1) := Or.inr ⟨by omega, by simp⟩
          have hKv : (fun k => k < w0.heap.size ∨ (wr.heap.size ≤ k ∧ k < ((wr.alloc (.cells #[.int .i64 1000, .int .i64 4, .int .i64 r, .int .i64 (((j : Int) + s) % 5), .bool true, .int .i64 7, .slice (some ⟨wr.heap.size + 1, 0, none⟩) 1 1] 70)).alloc (.cells #[.int .i64 (((j : Int) + s) % 5)] 3)).heap.size)) wr.heap.size := Or.inr ⟨Nat.le_refl _, by simp <;> omega⟩
          have HP : Hid (Calls Try.prog 51 #[.pointer (some ⟨P, 0, none⟩), .int .i64 (((j : Int) + s) % 5), .agg #[.int .i64 1000, .int .i64 4, .int .i64 r, .int .i64 (((j : Int) + s) % 5), .bool true, .int .i64 7, .slice (some ⟨wr.heap.size + 1, 0, none⟩) 1 1]] ((wr.alloc (.cells #[.int .i64 1000, .int .i64 4, .int .i64 r, .int .i64 (((j : Int) + s) % 5), .bool true, .int .i64 7, .slice (some ⟨wr.heap.size + 1, 0, none⟩) 1 1] 70)).alloc (.cells #[.int .i64 (((j : Int) + s) % 5)] 3)) fun e w' => e = .returned (.bool true) ∧ TAt w' w0.heap.size P (fun k => k < w0.heap.size ∨ (wr.heap.size ≤ k ∧ k < ((wr.alloc (.cells #[.int .i64 1000, .int .i64 4, .int .i64 r, .int .i64 (((j : Int) + s) % 5), .bool true, .int .i64 7, .slice (some ⟨wr.heap.size + 1, 0, none⟩) 1 1] 70)).alloc (.cells #[.int .i64 (((j : Int) + s) % 5)] 3)).heap.size)) (⟨5, 1000, 4, 7, [4], (asked s j ++ [((j : Int) + s) % 5]), [], true, top, best, 7, [best]⟩ : TV) ∧ Keep (fun k => k < w0.heap.size ∨ (wr.heap.size ≤ k ∧ k < ((wr.alloc (.cells #[.int .i64 1000, .int .i64 4, .int .i64 r, .int .i64 (((j : Int) + s) % 5), .bool true, .int .i64 7, .slice (some ⟨wr.heap.size + 1, 0, none⟩) 1 1] 70)).alloc (.cells #[.int .i64 (((j : Int) + s) % 5)] 3)).heap.size)) ((wr.alloc (.cells #[.int .i64 1000, .int .i64 4, .int .i64 r, .int .i64 (((j : Int) + s) % 5), .bool true, .int .i64 7, .slice (some ⟨wr.heap.size + 1, 0, none⟩) 1 1] 70)).alloc (.cells #[.int .i64 (((j : Int) + s) % 5)] 3)) w' ∧ Below w0.heap.size ((wr.alloc (.cells #[.int .i64 1000, .int .i64 4, .int .i64 r, .int .i64 (((j : Int) + s) % 5), .bool true, .int .i64 7, .slice (some ⟨wr.heap.size + 1, 0, none⟩) 1 1] 70)).alloc (.cells #[.int .i64 (((j : Int) + s) % 5)] 3)) w') := prom_ttl w0.heap.size P _ 5 1000 4 7 [4] (asked s j) [] top best 7 [best] (((j : Int) + s) % 5) r (((j : Int) + s) % 5) 7 (some ⟨wr.heap.size + 1, 0, none⟩) 1 [((j : Int) + s) % 5] ((wr.alloc (.cells #[.int .i64 1000, .int .i64 4, .int .i64 r, .int .i64 (((j : Int) + s) % 5), .bool true, .int .i64 7, .slice (some ⟨wr.heap.size + 1, 0, none⟩) 1 1] 70)).alloc (.cells #[.int .i64 (((j : Int) + s) % 5)] 3)) HH e0 e5 (asked_new s j s0 s4 hj5) (by rw [asked_length]; omega) (mayBal_ok _ _ (by omega) (by omega) e0 e5) (mayCh_ok _ e0 e5) (by simp) (by simp) (Sl.of_blk hrow (fun j v hj => by match j, hj with | 0, hj => (simp at hj; subst hj; rfl))) (fun a ha => by injection ha with ha; subst ha; exact hKr) (cmp_neg _ _ _ _ (by omega)) rfl
          have HPI : Hid (∀ W, TAt W w0.heap.size P (fun k => k < w0.heap.size ∨ (wr.heap.size ≤ k ∧ k < ((wr.alloc (.cells #[.int .i64 1000, .int .i64 4, .int .i64 r, .int .i64 (((j : Int) + s) % 5), .bool true, .int .i64 7, .slice (some ⟨wr.heap.size + 1, 0, none⟩) 1 1] 70)).alloc (.cells #[.int .i64 (((j : Int) + s) % 5)] 3)).heap.size)) (⟨5, 1000, 4, 7, [4], (asked s j ++ [((j : Int) + s) % 5]), [], true, top, best, 7, [best]⟩ : TV) → Keep (fun k => k < w0.heap.size ∨ (wr.heap.size ≤ k ∧ k < ((wr.alloc (.cells #[.int .i64 1000, .int .i64 4, .int .i64 r, .int .i64 (((j : Int) + s) % 5), .bool true, .int .i64 7, .slice (some ⟨wr.heap.size + 1, 0, none⟩) 1 1] 70)).alloc (.cells #[.int .i64 (((j : Int) + s) % 5)] 3)).heap.size)) ((wr.alloc (.cells #[.int .i64 1000, .int .i64 4, .int .i64 r, .int .i64 (((j : Int) + s) % 5), .bool true, .int .i64 7, .slice (some ⟨wr.heap.size + 1, 0, none⟩) 1 1] 70)).alloc (.cells #[.int .i64 (((j : Int) + s) % 5)] 3)) W → Calls Try.prog 51 #[.pointer (some ⟨P, 0, none⟩), .int .i64 (((j : Int) + s) % 5), .agg #[.int .i64 1000, .int .i64 4, .int .i64 r, .int .i64 (((j : Int) + s) % 5), .bool true, .int .i64 7, .slice (some ⟨wr.heap.size + 1, 0, none⟩) 1 1]] W fun e w' => e = .returned (.bool false) ∧ Ext W w') := fun W ht hk => prom_in_t w0.heap.size P _ 5 1000 4 7 [4] (asked s j ++ [((j : Int) + s) % 5]) [] true top best 7 [best] (((j : Int) + s) % 5) r (((j : Int) + s) % 5) 7 (some ⟨wr.heap.size + 1, 0, none⟩) 1 [((j : Int) + s) % 5] W ht e0 e5 (by have := asked_in s j; rw [asked_succ] at this; exact this) (by rw [List.length_append, asked_length]; simp; omega) (mayBal_ok _ _ (by omega) (by omega) e0 e5) (mayCh_ok _ e0 e5) (by simp) (by simp) (Sl.of_blk (hrow.keep hk hKr) (fun j v hj => by match j, hj with | 0, hj => (simp at hj; subst hj; rfl))) (fun a ha => by injection ha with ha; subst ha; exact hKr) rfl
          have hvb : Blk ((wr.alloc (.cells #[.int .i64 1000, .int .i64 4, .int .i64 r, .int .i64 (((j : Int) + s) % 5), .bool true, .int .i64 7, .slice (some ⟨wr.heap.size + 1, 0, none⟩) 1 1] 70)).alloc (.cells #[.int .i64 (((j : Int) + s) % 5)] 3)) wr.heap.size 70 #[.int .i64 1000, .int .i64 4, .int .i64 r, .int .i64 (((j : Int) + s) % 5), .bool true, .int .i64 7, .slice (some ⟨wr.heap.size + 1, 0, none⟩) 1 1] := (Blk.new wr 70 #[.int .i64 1000, .int .i64 4, .int .i64 r, .int .i64 (((j : Int) + s) % 5), .bool true, .int .i64 7, .slice (some ⟨wr.heap.size + 1, 0, none⟩) 1 1]).alloc _
          have HVB := Lib.hid hvb
          have HKV := Lib.hid hKv
          have HVN := Lib.hid hvn
          have HE2 : Hid (Ext w0 ((wr.alloc (.cells #[.int .i64 1000, .int .i64 4, .int .i64 r, .int .i64 (((j : Int) + s) % 5), .bool true, .int .i64 7, .slice (some ⟨wr.heap.size + 1, 0, none⟩) 1 1] 70)).alloc (.cells #[.int .i64 (((j : Int) + s) % 5)] 3))) := Ext.trans HI.out.1 (Ext.trans (Ext.alloc _ _) (Ext.alloc _ _))
          clear hv hvn HH hKv hvb hrow hKr
          go_wp2_with (first | (go_at_call 51; (with_reducible refine HP.out.mono ?_); rintro e w3 ⟨rfl, ht, hk, hb⟩; have v0 := (HVB.out.keep hk HKV.out).cell 0; have v1 := (HVB.out.keep hk HKV.out).cell 1; have v2 := (HVB.out.keep hk HKV.out).cell 2; have v3 := (HVB.out.keep hk HKV.out).cell 3; have v4 := (HVB.out.keep hk HKV.out).cell 4; have v5 := (HVB.out.keep hk HKV.out).cell 5; have v6 := (HVB.out.keep hk HKV.out).cell 6; have HP2 := Lib.hid (HPI.out _ ht hk); have T3 := Lib.hid ht; have X3 : Hid (Ext w0 w3) := Below.trans HE2.out hb; clear ht hk hb) | (go_at_call 51; (with_reducible refine HP2.out.mono ?_); rintro e w4 ⟨rfl, hx⟩; have T4 := Lib.hid (T3.out.stay hx); have X4 : Hid (Ext w0 w4) := Ext.trans X3.out hx; clear hx))
          go_roundw
          case rel => exact ⟨j + 1, best, top, by omega, by go_num, rfl, rfl, by omega, by omega, by omega, by omega, fun h => by omega, X4.out, by rw [HVN.out]; exact T4.out.weak (fun k hk => Or.inl hk)⟩
          case measure => simp [intOf]; omega
      · have hr00 : r = 0 := by omega
        by_cases hbn : best < 0
        · have ht00 := hbt hbn
          subst ht00
          have hv : bestV s j best 0 = (⟨5, 1000, 4, 7, [4], (asked s j), [], false, 0, 0, 0, []⟩ : TV) := by unfold bestV; rw [if_pos (by omega)]
          have hvn : bestV s (j + 1) best 0 = (⟨5, 1000, 4, 7, [4], (asked s j ++ [((j : Int) + s) % 5]), [], false, 0, 0, 0, []⟩ : TV) := by unfold bestV; rw [if_pos (by omega), asked_succ]
          have HH : TAt (wr.alloc (.cells #[.int .i64 1000, .int .i64 4, .int .i64 0, .int .i64 0, .bool false, .int .i64 0, .slice none 0 0] 70)) w0.heap.size P (fun k => k < w0.heap.size ∨ (wr.heap.size ≤ k ∧ k < (wr.alloc (.cells #[.int .i64 1000, .int .i64 4, .int .i64 0, .int .i64 0, .bool false, .int .i64 0, .slice none 0 0] 70)).heap.size)) (⟨5, 1000, 4, 7, [4], (asked s j), [], false, 0, 0, 0, []⟩ : TV) := by rw [← hv]; exact HI.out.2.more (Ext.alloc _ _)
          have hKv : (fun k => k < w0.heap.size ∨ (wr.heap.size ≤ k ∧ k < (wr.alloc (.cells #[.int .i64 1000, .int .i64 4, .int .i64 0, .int .i64 0, .bool false, .int .i64 0, .slice none 0 0] 70)).heap.size)) wr.heap.size := Or.inr ⟨Nat.le_refl _, by simp <;> omega⟩
          have HP : Hid (Calls Try.prog 51 #[.pointer (some ⟨P, 0, none⟩), .int .i64 (((j : Int) + s) % 5), .agg #[.int .i64 1000, .int .i64 4, .int .i64 0, .int .i64 0, .bool false, .int .i64 0, .slice none 0 0]] (wr.alloc (.cells #[.int .i64 1000, .int .i64 4, .int .i64 0, .int .i64 0, .bool false, .int .i64 0, .slice none 0 0] 70)) fun e w' => e = .returned (.bool true) ∧ TAt w' w0.heap.size P (fun k => k < w0.heap.size ∨ (wr.heap.size ≤ k ∧ k < (wr.alloc (.cells #[.int .i64 1000, .int .i64 4, .int .i64 0, .int .i64 0, .bool false, .int .i64 0, .slice none 0 0] 70)).heap.size)) (⟨5, 1000, 4, 7, [4], (asked s j ++ [((j : Int) + s) % 5]), [], false, 0, 0, 0, []⟩ : TV) ∧ Keep (fun k => k < w0.heap.size ∨ (wr.heap.size ≤ k ∧ k < (wr.alloc (.cells #[.int .i64 1000, .int .i64 4, .int .i64 0, .int .i64 0, .bool false, .int .i64 0, .slice none 0 0] 70)).heap.size)) (wr.alloc (.cells #[.int .i64 1000, .int .i64 4, .int .i64 0, .int .i64 0, .bool false, .int .i64 0, .slice none 0 0] 70)) w' ∧ Below w0.heap.size (wr.alloc (.cells #[.int .i64 1000, .int .i64 4, .int .i64 0, .int .i64 0, .bool false, .int .i64 0, .slice none 0 0] 70)) w') := prom_ff w0.heap.size P _ 5 1000 4 7 [4] (asked s j) [] 0 0 0 [] (((j : Int) + s) % 5) 0 0 0 none 0 [] (wr.alloc (.cells #[.int .i64 1000, .int .i64 4, .int .i64 0, .int .i64 0, .bool false, .int .i64 0, .slice none 0 0] 70)) HH e0 e5 (asked_new s j s0 s4 hj5) (by rw [asked_length]; omega)
          have HPI : Hid (∀ W, TAt W w0.heap.size P (fun k => k < w0.heap.size ∨ (wr.heap.size ≤ k ∧ k < (wr.alloc (.cells #[.int .i64 1000, .int .i64 4, .int .i64 0, .int .i64 0, .bool false, .int .i64 0, .slice none 0 0] 70)).heap.size)) (⟨5, 1000, 4, 7, [4], (asked s j ++ [((j : Int) + s) % 5]), [], false, 0, 0, 0, []⟩ : TV) → Keep (fun k => k < w0.heap.size ∨ (wr.heap.size ≤ k ∧ k < (wr.alloc (.cells #[.int .i64 1000, .int .i64 4, .int .i64 0, .int .i64 0, .bool false, .int .i64 0, .slice none 0 0] 70)).heap.size)) (wr.alloc (.cells #[.int .i64 1000, .int .i64 4, .int .i64 0, .int .i64 0, .bool false, .int .i64 0, .slice none 0 0] 70)) W → Calls Try.prog 51 #[.pointer (some ⟨P, 0, none⟩), .int .i64 (((j : Int) + s) % 5), .agg #[.int .i64 1000, .int .i64 4, .int .i64 0, .int .i64 0, .bool false, .int .i64 0, .slice none 0 0]] W fun e w' => e = .returned (.bool false) ∧ Ext W w') := fun W ht hk => prom_in_f w0.heap.size P _ 5 1000 4 7 [4] (asked s j ++ [((j : Int) + s) % 5]) [] false 0 0 0 [] (((j : Int) + s) % 5) 0 0 0 none 0 [] W ht e0 e5 (by have := asked_in s j; rw [asked_succ] at this; exact this) (by rw [List.length_append, asked_length]; simp; omega)
          have hvb : Blk (wr.alloc (.cells #[.int .i64 1000, .int .i64 4, .int .i64 0, .int .i64 0, .bool false, .int .i64 0, .slice none 0 0] 70)) wr.heap.size 70 #[.int .i64 1000, .int .i64 4, .int .i64 0, .int .i64 0, .bool false, .int .i64 0, .slice none 0 0] := (Blk.new wr 70 #[.int .i64 1000, .int .i64 4, .int .i64 0, .int .i64 0, .bool false, .int .i64 0, .slice none 0 0])
          have HVB := Lib.hid hvb
          have HKV := Lib.hid hKv
          have HVN := Lib.hid hvn
          have HE2 : Hid (Ext w0 (wr.alloc (.cells #[.int .i64 1000, .int .i64 4, .int .i64 0, .int .i64 0, .bool false, .int .i64 0, .slice none 0 0] 70))) := Ext.trans HI.out.1 (Ext.alloc _ _)
          clear hv hvn HH hKv hvb
          go_wp2_with (first | (go_at_call 51; (with_reducible refine HP.out.mono ?_); rintro e w3 ⟨rfl, ht, hk, hb⟩; have v0 := (HVB.out.keep hk HKV.out).cell 0; have v1 := (HVB.out.keep hk HKV.out).cell 1; have v2 := (HVB.out.keep hk HKV.out).cell 2; have v3 := (HVB.out.keep hk HKV.out).cell 3; have v4 := (HVB.out.keep hk HKV.out).cell 4; have v5 := (HVB.out.keep hk HKV.out).cell 5; have v6 := (HVB.out.keep hk HKV.out).cell 6; have HP2 := Lib.hid (HPI.out _ ht hk); have T3 := Lib.hid ht; have X3 : Hid (Ext w0 w3) := Below.trans HE2.out hb; clear ht hk hb) | (go_at_call 51; (with_reducible refine HP2.out.mono ?_); rintro e w4 ⟨rfl, hx⟩; have T4 := Lib.hid (T3.out.stay hx); have X4 : Hid (Ext w0 w4) := Ext.trans X3.out hx; clear hx))
          go_roundw
          case rel => exact ⟨j + 1, best, 0, by omega, by go_num, rfl, rfl, by omega, by omega, by omega, by omega, fun h => by omega, X4.out, by rw [HVN.out]; exact T4.out.weak (fun k hk => Or.inl hk)⟩
          case measure => simp [intOf]; omega
        · have hv : bestV s j best top = (⟨5, 1000, 4, 7, [4], (asked s j), [], true, top, best, 7, [best]⟩ : TV) := by unfold bestV; rw [if_neg (by omega)]
          have hvn : bestV s (j + 1) best top = (⟨5, 1000, 4, 7, [4], (asked s j ++ [((j : Int) + s) % 5]), [], true, top, best, 7, [best]⟩ : TV) := by unfold bestV; rw [if_neg (by omega), asked_succ]
          have HH : TAt (wr.alloc (.cells #[.int .i64 1000, .int .i64 4, .int .i64 0, .int .i64 0, .bool false, .int .i64 0, .slice none 0 0] 70)) w0.heap.size P (fun k => k < w0.heap.size ∨ (wr.heap.size ≤ k ∧ k < (wr.alloc (.cells #[.int .i64 1000, .int .i64 4, .int .i64 0, .int .i64 0, .bool false, .int .i64 0, .slice none 0 0] 70)).heap.size)) (⟨5, 1000, 4, 7, [4], (asked s j), [], true, top, best, 7, [best]⟩ : TV) := by rw [← hv]; exact HI.out.2.more (Ext.alloc _ _)
          have hKv : (fun k => k < w0.heap.size ∨ (wr.heap.size ≤ k ∧ k < (wr.alloc (.cells #[.int .i64 1000, .int .i64 4, .int .i64 0, .int .i64 0, .bool false, .int .i64 0, .slice none 0 0] 70)).heap.size)) wr.heap.size := Or.inr ⟨Nat.le_refl _, by simp <;> omega⟩
          have HP : Hid (Calls Try.prog 51 #[.pointer (some ⟨P, 0, none⟩), .int .i64 (((j : Int) + s) % 5), .agg #[.int .i64 1000, .int .i64 4, .int .i64 0, .int .i64 0, .bool false, .int .i64 0, .slice none 0 0]] (wr.alloc (.cells #[.int .i64 1000, .int .i64 4, .int .i64 0, .int .i64 0, .bool false, .int .i64 0, .slice none 0 0] 70)) fun e w' => e = .returned (.bool true) ∧ TAt w' w0.heap.size P (fun k => k < w0.heap.size ∨ (wr.heap.size ≤ k ∧ k < (wr.alloc (.cells #[.int .i64 1000, .int .i64 4, .int .i64 0, .int .i64 0, .bool false, .int .i64 0, .slice none 0 0] 70)).heap.size)) (⟨5, 1000, 4, 7, [4], (asked s j ++ [((j : Int) + s) % 5]), [], true, top, best, 7, [best]⟩ : TV) ∧ Keep (fun k => k < w0.heap.size ∨ (wr.heap.size ≤ k ∧ k < (wr.alloc (.cells #[.int .i64 1000, .int .i64 4, .int .i64 0, .int .i64 0, .bool false, .int .i64 0, .slice none 0 0] 70)).heap.size)) (wr.alloc (.cells #[.int .i64 1000, .int .i64 4, .int .i64 0, .int .i64 0, .bool false, .int .i64 0, .slice none 0 0] 70)) w' ∧ Below w0.heap.size (wr.alloc (.cells #[.int .i64 1000, .int .i64 4, .int .i64 0, .int .i64 0, .bool false, .int .i64 0, .slice none 0 0] 70)) w') := prom_ft w0.heap.size P _ 5 1000 4 7 [4] (asked s j) [] top best 7 [best] (((j : Int) + s) % 5) 0 0 0 none 0 [] (wr.alloc (.cells #[.int .i64 1000, .int .i64 4, .int .i64 0, .int .i64 0, .bool false, .int .i64 0, .slice none 0 0] 70)) HH e0 e5 (asked_new s j s0 s4 hj5) (by rw [asked_length]; omega)
          have HPI : Hid (∀ W, TAt W w0.heap.size P (fun k => k < w0.heap.size ∨ (wr.heap.size ≤ k ∧ k < (wr.alloc (.cells #[.int .i64 1000, .int .i64 4, .int .i64 0, .int .i64 0, .bool false, .int .i64 0, .slice none 0 0] 70)).heap.size)) (⟨5, 1000, 4, 7, [4], (asked s j ++ [((j : Int) + s) % 5]), [], true, top, best, 7, [best]⟩ : TV) → Keep (fun k => k < w0.heap.size ∨ (wr.heap.size ≤ k ∧ k < (wr.alloc (.cells #[.int .i64 1000, .int .i64 4, .int .i64 0, .int .i64 0, .bool false, .int .i64 0, .slice none 0 0] 70)).heap.size)) (wr.alloc (.cells #[.int .i64 1000, .int .i64 4, .int .i64 0, .int .i64 0, .bool false, .int .i64 0, .slice none 0 0] 70)) W → Calls Try.prog 51 #[.pointer (some ⟨P, 0, none⟩), .int .i64 (((j : Int) + s) % 5), .agg #[.int .i64 1000, .int .i64 4, .int .i64 0, .int .i64 0, .bool false, .int .i64 0, .slice none 0 0]] W fun e w' => e = .returned (.bool false) ∧ Ext W w') := fun W ht hk => prom_in_f w0.heap.size P _ 5 1000 4 7 [4] (asked s j ++ [((j : Int) + s) % 5]) [] true top best 7 [best] (((j : Int) + s) % 5) 0 0 0 none 0 [] W ht e0 e5 (by have := asked_in s j; rw [asked_succ] at this; exact this) (by rw [List.length_append, asked_length]; simp; omega)
          have hvb : Blk (wr.alloc (.cells #[.int .i64 1000, .int .i64 4, .int .i64 0, .int .i64 0, .bool false, .int .i64 0, .slice none 0 0] 70)) wr.heap.size 70 #[.int .i64 1000, .int .i64 4, .int .i64 0, .int .i64 0, .bool false, .int .i64 0, .slice none 0 0] := (Blk.new wr 70 #[.int .i64 1000, .int .i64 4, .int .i64 0, .int .i64 0, .bool false, .int .i64 0, .slice none 0 0])
          have HVB := Lib.hid hvb
          have HKV := Lib.hid hKv
          have HVN := Lib.hid hvn
          have HE2 : Hid (Ext w0 (wr.alloc (.cells #[.int .i64 1000, .int .i64 4, .int .i64 0, .int .i64 0, .bool false, .int .i64 0, .slice none 0 0] 70))) := Ext.trans HI.out.1 (Ext.alloc _ _)
          clear hv hvn HH hKv hvb
          go_wp2_with (first | (go_at_call 51; (with_reducible refine HP.out.mono ?_); rintro e w3 ⟨rfl, ht, hk, hb⟩; have v0 := (HVB.out.keep hk HKV.out).cell 0; have v1 := (HVB.out.keep hk HKV.out).cell 1; have v2 := (HVB.out.keep hk HKV.out).cell 2; have v3 := (HVB.out.keep hk HKV.out).cell 3; have v4 := (HVB.out.keep hk HKV.out).cell 4; have v5 := (HVB.out.keep hk HKV.out).cell 5; have v6 := (HVB.out.keep hk HKV.out).cell 6; have HP2 := Lib.hid (HPI.out _ ht hk); have T3 := Lib.hid ht; have X3 : Hid (Ext w0 w3) := Below.trans HE2.out hb; clear ht hk hb) | (go_at_call 51; (with_reducible refine HP2.out.mono ?_); rintro e w4 ⟨rfl, hx⟩; have T4 := Lib.hid (T3.out.stay hx); have X4 : Hid (Ext w0 w4) := Ext.trans X3.out hx; clear hx))
          go_roundw
          case rel => exact ⟨j + 1, best, top, by omega, by go_num, rfl, rfl, by omega, by omega, by omega, by omega, fun h => by omega, X4.out, by rw [HVN.out]; exact T4.out.weak (fun k hk => Or.inl hk)⟩
          case measure => simp [intOf]; omega
    · obtain rfl : j = 5 := by omega
      have hj5' : Hid True := trivial
      have X0 : Hid (Ext w0 wr) := HI.out.1
      have o0 := (KO.out.stay HI.out.1).cell 0
      have o1 := (KO.out.stay HI.out.1).cell 1
      by_cases hbn : best < 0
      · obtain ⟨W3, hW3⟩ : ∃ W3, W3 = (wr.alloc (.cells #[.int .i64 7, .slice (some ⟨w.heap.size, 0, none⟩) 1 1] 48)) := ⟨_, rfl⟩
        have hx3 : Ext wr W3 := by rw [hW3]; exact Ext.alloc _ _
        have hv : bestV s 5 best top = (⟨5, 1000, 4, 7, [4], asked s 5, [], false, 0, 0, 0, []⟩ : TV) := by unfold bestV; rw [if_pos (by omega)]
        have HH : Hid (TAt W3 w0.heap.size P (fun k => k < w0.heap.size) (⟨5, 1000, 4, 7, [4], asked s 5, [], false, 0, 0, 0, []⟩ : TV)) := by show TAt _ _ _ _ _; rw [← hv]; exact HI.out.2.stay hx3
        have hw : Blk W3 wr.heap.size 48 #[.int .i64 7, .slice (some ⟨w.heap.size, 0, none⟩) 1 1] := by rw [hW3]; exact Blk.new wr _ _
        have hsl : Sl i64 W3 (some ⟨w.heap.size, 0, none⟩) [4] := Sl.of_blk (KS.out.stay (Ext.trans HI.out.1 hx3)) (fun j v hj => by match j, hj with | 0, hj => (simp at hj; subst hj; rfl))
        have hkb := KB.out.stay (Ext.trans HI.out.1 hx3)
        have fw0 : ∀ W, Ext W3 W → W.cell? ⟨wr.heap.size, 0, none⟩ = some (.int .i64 7) := fun W h => (hw.stay h).cell 0
        have fw1 : ∀ W, Ext W3 W → W.cell? ⟨wr.heap.size, 1, none⟩ = some (.slice (some ⟨w.heap.size, 0, none⟩) 1 1) := fun W h => (hw.stay h).cell 1
        have fb0 : ∀ W, Ext W3 W → W.cell? ⟨w.heap.size + 1, 0, none⟩ = some (.int .i64 1000) := fun W h => (hkb.stay h).cell 0
        have fb1 : ∀ W, Ext W3 W → W.cell? ⟨w.heap.size + 1, 1, none⟩ = some (.int .i64 4) := fun W h => (hkb.stay h).cell 1
        have R1 : Hid (∀ W, Ext W3 W → Calls Try.prog 52 #[.pointer (some ⟨P, 0, none⟩)] W fun e w' => e = .returned (.bool true) ∧ Ext W w') := fun W h => by have := ready_any _ P _ _ W (HH.out.stay h) (show (0 : Int) ≤ 5 ∧ (5 : Int) ≤ 5 by omega); rw [decide_eq_true (by show (3 : Int) ≤ ((asked s 5).length : Int); rw [asked_length]; omega)] at this; exact this
        have R2 : Hid (∀ W, Ext W3 W → Calls Try.prog 53 #[.pointer (some ⟨P, 0, none⟩)] W fun e w' => ∃ A c, e = .returned (.agg #[.int .i64 7, .slice A 1 c]) ∧ Ext W w' ∧ Sl i64 w' A [4]) := fun W h => by
          refine (chain_any _ P _ _ W (HH.out.stay h) (by simp) (by simp) 7 [4] rfl rfl).mono fun e w' ⟨u, he, ho, hb⟩ => ?_
          obtain ⟨A, c, rfl, hs⟩ := own_view ho
          exact ⟨A, c, he, hb, hs⟩
        have R3 : Hid (∀ (W : World) (A : Option Addr) (c : Nat), Ext W3 W → Sl i64 W A [4] → Calls Try.prog 39 #[.agg #[.int .i64 7, .slice A 1 c], .agg #[.int .i64 7, .slice (some ⟨w.heap.size, 0, none⟩) 1 1]] W fun e w' => e = .returned (.bool true) ∧ Ext W w') := fun W A c h h1 => (sameRef_any 7 7 A (some ⟨w.heap.size, 0, none⟩) c 1 [4] [4] W (by simp) (by simp) h1 (hsl.stay h)).mono fun _ _ ⟨he, h⟩ => ⟨by rw [he, decide_eq_true (by simp)], h⟩
        have R4 : Hid (∀ W, Ext W3 W → Calls Try.prog 51 #[.pointer (some ⟨P, 0, none⟩), .int .i64 5, .agg #[.int .i64 1000, .int .i64 4, .int .i64 0, .int .i64 0, .bool false, .int .i64 0, .slice none 0 0]] W fun e w' => e = .returned (.bool false) ∧ Ext W w') := fun W h => prom_big w0.heap.size P _ (⟨5, 1000, 4, 7, [4], asked s 5, [], false, 0, 0, 0, []⟩ : TV) 5 W (HH.out.stay h) (by omega) (show (5 : Int) ≤ 5 by omega)
        have E3 : Hid (Ext W3 W3) := Ext.refl _
        have HX3 : Hid (Ext w W3) := Ext.trans HB0.out (Ext.trans HI.out.1 hx3)
        have HW3 := Lib.hid hW3
        clear hW3 hx3 hv hw hsl hkb hj5
        have oz : w.heap.size + 1 + 1 < wr.heap.size := (KO.out.stay X0.out).lt
        go_wp2_with fail
        rw [← HW3.out]
        refine ext_begin (by kernel_rfl) ?_
        have E3d := Lib.hid (Ext.drewR E3.out)
        refine ext_call (i := 0) rfl (by kernel_rfl) (by rfl) (fun K' hK => ?_)
        go_simp
        (go_at_call 49; (with_reducible refine (HT.out _).mono ?_); rintro e w4 ⟨rfl, hx⟩; refine hK _ _ hx ?_; clear hK)
        have Ew4 := Lib.hid (Ext.trans E3d.out hx)
        clear hx
        try simp only [Act.put, List.setIfInBounds_toArray, List.set_cons_zero, List.set_cons_succ]
        refine ext_take (i := 1) (v := ?_) rfl (by kernel_rfl) (by kernel_rfl) (by kernel_rfl) (fun _ _ _ h => h) (by rfl) ?_ ?_
        rotate_left
        · intro W hW; have hW0 := Ext.trans Ew4.out hW; clear hW; go_simp <;> with_reducible rfl
        try simp only [Act.put, List.setIfInBounds_toArray, List.set_cons_zero, List.set_cons_succ]
        refine ext_take (i := 2) (v := ?_) rfl (by kernel_rfl) (by kernel_rfl) (by kernel_rfl) (fun _ _ _ h => h) (by rfl) ?_ ?_
        rotate_left
        · intro W hW; have hW0 := Ext.trans Ew4.out hW; clear hW; go_simp <;> with_reducible rfl
        try simp only [Act.put, List.setIfInBounds_toArray, List.set_cons_zero, List.set_cons_succ]
        refine ext_call (i := 3) rfl (by kernel_rfl) (by rfl) (fun K' hK => ?_)
        go_simp
        (go_at_call 52; (with_reducible refine (R1.out _ Ew4.out).mono ?_); rintro e w5 ⟨rfl, hx⟩; refine hK _ _ hx ?_; clear hK)
        have Ew5 := Lib.hid (Ext.trans Ew4.out hx)
        clear hx
        try simp only [Act.put, List.setIfInBounds_toArray, List.set_cons_zero, List.set_cons_succ]
        refine ext_take (i := 4) (v := ?_) rfl (by kernel_rfl) (by kernel_rfl) (by kernel_rfl) (fun _ _ _ h => h) (by rfl) ?_ ?_
        rotate_left
        · intro W hW; have hW0 := Ext.trans Ew5.out hW; clear hW; go_simp <;> with_reducible rfl
        try simp only [Act.put, List.setIfInBounds_toArray, List.set_cons_zero, List.set_cons_succ]
        refine ext_take (i := 5) (v := ?_) rfl (by kernel_rfl) (by kernel_rfl) (by kernel_rfl) (fun _ _ _ h => h) (by rfl) ?_ ?_
        rotate_left
        · intro W hW; have hW0 := Ext.trans Ew5.out hW; clear hW; go_simp <;> with_reducible rfl
        try simp only [Act.put, List.setIfInBounds_toArray, List.set_cons_zero, List.set_cons_succ]
        refine ext_take (i := 6) (v := ?_) rfl (by kernel_rfl) (by kernel_rfl) (by kernel_rfl) (fun _ _ _ h => h) (by rfl) ?_ ?_
        rotate_left
        · intro W hW; have hW0 := Ext.trans Ew5.out hW; clear hW; go_simp <;> with_reducible rfl
        try simp only [Act.put, List.setIfInBounds_toArray, List.set_cons_zero, List.set_cons_succ]
        refine ext_take (i := 8) (v := ?_) rfl (by kernel_rfl) (by kernel_rfl) (by kernel_rfl) (fun _ _ _ h => h) (by rfl) ?_ ?_
        rotate_left
        · intro W hW; have hW0 := Ext.trans Ew5.out hW; clear hW; go_simp <;> with_reducible rfl
        try simp only [Act.put, List.setIfInBounds_toArray, List.set_cons_zero, List.set_cons_succ]
        refine ext_call (i := 7) rfl (by kernel_rfl) (by rfl) (fun K' hK => ?_)
        go_simp
        (go_at_call 53; (with_reducible refine (R2.out _ Ew5.out).mono ?_); rintro e w6 ⟨A', c', rfl, hx, hs'⟩; refine hK _ _ hx ?_; clear hK)
        have Ew6 := Lib.hid (Ext.trans Ew5.out hx)
        have SA := Lib.hid hs'; clear hs'
        clear hx
        try simp only [Act.put, List.setIfInBounds_toArray, List.set_cons_zero, List.set_cons_succ]
        refine ext_call (i := 9) rfl (by kernel_rfl) (by rfl) (fun K' hK => ?_)
        go_simp
        (go_at_call 39; (with_reducible refine (R3.out _ _ _ Ew6.out SA.out).mono ?_); rintro e w7 ⟨rfl, hx⟩; refine hK _ _ hx ?_; clear hK)
        have Ew7 := Lib.hid (Ext.trans Ew6.out hx)
        clear hx
        try simp only [Act.put, List.setIfInBounds_toArray, List.set_cons_zero, List.set_cons_succ]
        refine ext_take (i := 10) (v := ?_) rfl (by kernel_rfl) (by kernel_rfl) (by kernel_rfl) (fun _ _ _ h => h) (by rfl) ?_ ?_
        rotate_left
        · intro W hW; have hW0 := Ext.trans Ew7.out hW; clear hW; go_simp <;> with_reducible rfl
        try simp only [Act.put, List.setIfInBounds_toArray, List.set_cons_zero, List.set_cons_succ]
        refine ext_take (i := 11) (v := ?_) rfl (by kernel_rfl) (by kernel_rfl) (by kernel_rfl) (fun _ _ _ h => h) (by rfl) ?_ ?_
        rotate_left
        · intro W hW; have hW0 := Ext.trans Ew7.out hW; clear hW; go_simp <;> with_reducible rfl
        try simp only [Act.put, List.setIfInBounds_toArray, List.set_cons_zero, List.set_cons_succ]
        refine ext_take (i := 12) (v := ?_) rfl (by kernel_rfl) (by kernel_rfl) (by kernel_rfl) (fun _ _ _ h => h) (by rfl) ?_ ?_
        rotate_left
        · intro W hW; have hW0 := Ext.trans Ew7.out hW; clear hW; go_simp <;> with_reducible rfl
        try simp only [Act.put, List.setIfInBounds_toArray, List.set_cons_zero, List.set_cons_succ]
        refine ext_take (i := 13) (v := ?_) rfl (by kernel_rfl) (by kernel_rfl) (by kernel_rfl) (fun _ _ _ h => h) (by rfl) ?_ ?_
        rotate_left
        · intro W hW; have hW0 := Ext.trans Ew7.out hW; clear hW; go_simp <;> with_reducible rfl
        try simp only [Act.put, List.setIfInBounds_toArray, List.set_cons_zero, List.set_cons_succ]
        refine ext_take (i := 14) (v := ?_) rfl (by kernel_rfl) (by kernel_rfl) (by kernel_rfl) (fun _ _ _ h => h) (by rfl) ?_ ?_
        rotate_left
        · intro W hW; have hW0 := Ext.trans Ew7.out hW; clear hW; go_simp <;> with_reducible rfl
        try simp only [Act.put, List.setIfInBounds_toArray, List.set_cons_zero, List.set_cons_succ]
        refine ext_call (i := 15) rfl (by kernel_rfl) (by rfl) (fun K' hK => ?_)
        go_simp
        (go_at_call 51; (with_reducible refine (R4.out _ Ew7.out).mono ?_); rintro e w8 ⟨rfl, hx⟩; refine hK _ _ hx ?_; clear hK)
        have Ew8 := Lib.hid (Ext.trans Ew7.out hx)
        clear hx
        try simp only [Act.put, List.setIfInBounds_toArray, List.set_cons_zero, List.set_cons_succ]
        refine ext_take (i := 16) (v := ?_) rfl (by kernel_rfl) (by kernel_rfl) (by kernel_rfl) (fun _ _ _ h => h) (by rfl) ?_ ?_
        rotate_left
        · intro W hW; have hW0 := Ext.trans Ew8.out hW; clear hW; go_simp <;> with_reducible rfl
        try simp only [Act.put, List.setIfInBounds_toArray, List.set_cons_zero, List.set_cons_succ]
        refine ext_take (i := 17) (v := ?_) rfl (by kernel_rfl) (by kernel_rfl) (by kernel_rfl) (fun _ _ _ h => h) (by rfl) ?_ ?_
        rotate_left
        · intro W hW; have hW0 := Ext.trans Ew8.out hW; clear hW; go_simp <;> with_reducible rfl
        try simp only [Act.put, List.setIfInBounds_toArray, List.set_cons_zero, List.set_cons_succ]
        refine ext_take (i := 18) (v := ?_) rfl (by kernel_rfl) (by kernel_rfl) (by kernel_rfl) (fun _ _ _ h => h) (by rfl) ?_ ?_
        rotate_left
        · intro W hW; have hW0 := Ext.trans Ew8.out hW; clear hW; go_simp <;> with_reducible rfl
        try simp only [Act.put, List.setIfInBounds_toArray, List.set_cons_zero, List.set_cons_succ]
        refine wpAnyH_done (by kernel_rfl) ?_ _
        go_wp2
        try go_ret
        exact hD.out _ _ ⟨rfl, Ext.trans HX3.out Ew8.out⟩
      · obtain ⟨W3, hW3⟩ : ∃ W3, W3 = ((wr.alloc (.cells #[.int .i64 7, .slice (some ⟨wr.heap.size + 1, 0, none⟩) 1 1] 48)).alloc (.cells #[.int .i64 best] 3)) := ⟨_, rfl⟩
        have hx3 : Ext wr W3 := by rw [hW3]; exact Ext.trans (Ext.alloc _ _) (Ext.alloc _ _)
        have hv : bestV s 5 best top = (⟨5, 1000, 4, 7, [4], asked s 5, [], true, top, best, 7, [best]⟩ : TV) := by unfold bestV; rw [if_neg (by omega)]
        have HH : Hid (TAt W3 w0.heap.size P (fun k => k < w0.heap.size) (⟨5, 1000, 4, 7, [4], asked s 5, [], true, top, best, 7, [best]⟩ : TV)) := by show TAt _ _ _ _ _; rw [← hv]; exact HI.out.2.stay hx3
        have hw : Blk W3 wr.heap.size 48 #[.int .i64 7, .slice (some ⟨wr.heap.size + 1, 0, none⟩) 1 1] := by rw [hW3]; exact (Blk.new wr _ _).alloc _
        have hsl : Sl i64 W3 (some ⟨wr.heap.size + 1, 0, none⟩) [best] := Sl.of_blk (show Blk W3 (wr.heap.size + 1) 3 #[.int .i64 best] by rw [hW3]; exact Blk.new' _ _ _ _ (by simp)) (fun j v hj => by match j, hj with | 0, hj => (simp at hj; subst hj; rfl))
        have hkb := KB.out.stay (Ext.trans HI.out.1 hx3)
        have fw0 : ∀ W, Ext W3 W → W.cell? ⟨wr.heap.size, 0, none⟩ = some (.int .i64 7) := fun W h => (hw.stay h).cell 0
        have fw1 : ∀ W, Ext W3 W → W.cell? ⟨wr.heap.size, 1, none⟩ = some (.slice (some ⟨wr.heap.size + 1, 0, none⟩) 1 1) := fun W h => (hw.stay h).cell 1
        have fb0 : ∀ W, Ext W3 W → W.cell? ⟨w.heap.size + 1, 0, none⟩ = some (.int .i64 1000) := fun W h => (hkb.stay h).cell 0
        have fb1 : ∀ W, Ext W3 W → W.cell? ⟨w.heap.size + 1, 1, none⟩ = some (.int .i64 4) := fun W h => (hkb.stay h).cell 1
        have R1 : Hid (∀ W, Ext W3 W → Calls Try.prog 52 #[.pointer (some ⟨P, 0, none⟩)] W fun e w' => e = .returned (.bool true) ∧ Ext W w') := fun W h => by have := ready_any _ P _ _ W (HH.out.stay h) (show (0 : Int) ≤ 5 ∧ (5 : Int) ≤ 5 by omega); rw [decide_eq_true (by show (3 : Int) ≤ ((asked s 5).length : Int); rw [asked_length]; omega)] at this; exact this
        have R2 : Hid (∀ W, Ext W3 W → Calls Try.prog 53 #[.pointer (some ⟨P, 0, none⟩)] W fun e w' => ∃ A c, e = .returned (.agg #[.int .i64 7, .slice A 1 c]) ∧ Ext W w' ∧ Sl i64 w' A [best]) := fun W h => by
          refine (chain_any _ P _ _ W (HH.out.stay h) (by simp) (by simp) 7 [best] rfl rfl).mono fun e w' ⟨u, he, ho, hb⟩ => ?_
          obtain ⟨A, c, rfl, hs⟩ := own_view ho
          exact ⟨A, c, he, hb, hs⟩
        have R3 : Hid (∀ (W : World) (A : Option Addr) (c : Nat), Ext W3 W → Sl i64 W A [best] → Calls Try.prog 39 #[.agg #[.int .i64 7, .slice A 1 c], .agg #[.int .i64 7, .slice (some ⟨wr.heap.size + 1, 0, none⟩) 1 1]] W fun e w' => e = .returned (.bool true) ∧ Ext W w') := fun W A c h h1 => (sameRef_any 7 7 A (some ⟨wr.heap.size + 1, 0, none⟩) c 1 [best] [best] W (by simp) (by simp) h1 (hsl.stay h)).mono fun _ _ ⟨he, h⟩ => ⟨by rw [he, decide_eq_true (by simp)], h⟩
        have R4 : Hid (∀ W, Ext W3 W → Calls Try.prog 51 #[.pointer (some ⟨P, 0, none⟩), .int .i64 5, .agg #[.int .i64 1000, .int .i64 4, .int .i64 0, .int .i64 0, .bool false, .int .i64 0, .slice none 0 0]] W fun e w' => e = .returned (.bool false) ∧ Ext W w') := fun W h => prom_big w0.heap.size P _ (⟨5, 1000, 4, 7, [4], asked s 5, [], true, top, best, 7, [best]⟩ : TV) 5 W (HH.out.stay h) (by omega) (show (5 : Int) ≤ 5 by omega)
        have E3 : Hid (Ext W3 W3) := Ext.refl _
        have HX3 : Hid (Ext w W3) := Ext.trans HB0.out (Ext.trans HI.out.1 hx3)
        have HW3 := Lib.hid hW3
        clear hW3 hx3 hv hw hsl hkb hj5
        have oz : w.heap.size + 1 + 1 < wr.heap.size := (KO.out.stay X0.out).lt
        go_wp2_with fail
        rw [← HW3.out]
        refine ext_begin (by kernel_rfl) ?_
        have E3d := Lib.hid (Ext.drewR E3.out)
        refine ext_call (i := 0) rfl (by kernel_rfl) (by rfl) (fun K' hK => ?_)
        go_simp
        (go_at_call 49; (with_reducible refine (HT.out _).mono ?_); rintro e w4 ⟨rfl, hx⟩; refine hK _ _ hx ?_; clear hK)
        have Ew4 := Lib.hid (Ext.trans E3d.out hx)
        clear hx
        try simp only [Act.put, List.setIfInBounds_toArray, List.set_cons_zero, List.set_cons_succ]
        refine ext_take (i := 1) (v := ?_) rfl (by kernel_rfl) (by kernel_rfl) (by kernel_rfl) (fun _ _ _ h => h) (by rfl) ?_ ?_
        rotate_left
        · intro W hW; have hW0 := Ext.trans Ew4.out hW; clear hW; go_simp <;> with_reducible rfl
        try simp only [Act.put, List.setIfInBounds_toArray, List.set_cons_zero, List.set_cons_succ]
        refine ext_take (i := 2) (v := ?_) rfl (by kernel_rfl) (by kernel_rfl) (by kernel_rfl) (fun _ _ _ h => h) (by rfl) ?_ ?_
        rotate_left
        · intro W hW; have hW0 := Ext.trans Ew4.out hW; clear hW; go_simp <;> with_reducible rfl
        try simp only [Act.put, List.setIfInBounds_toArray, List.set_cons_zero, List.set_cons_succ]
        refine ext_call (i := 3) rfl (by kernel_rfl) (by rfl) (fun K' hK => ?_)
        go_simp
        (go_at_call 52; (with_reducible refine (R1.out _ Ew4.out).mono ?_); rintro e w5 ⟨rfl, hx⟩; refine hK _ _ hx ?_; clear hK)
        have Ew5 := Lib.hid (Ext.trans Ew4.out hx)
        clear hx
        try simp only [Act.put, List.setIfInBounds_toArray, List.set_cons_zero, List.set_cons_succ]
        refine ext_take (i := 4) (v := ?_) rfl (by kernel_rfl) (by kernel_rfl) (by kernel_rfl) (fun _ _ _ h => h) (by rfl) ?_ ?_
        rotate_left
        · intro W hW; have hW0 := Ext.trans Ew5.out hW; clear hW; go_simp <;> with_reducible rfl
        try simp only [Act.put, List.setIfInBounds_toArray, List.set_cons_zero, List.set_cons_succ]
        refine ext_take (i := 5) (v := ?_) rfl (by kernel_rfl) (by kernel_rfl) (by kernel_rfl) (fun _ _ _ h => h) (by rfl) ?_ ?_
        rotate_left
        · intro W hW; have hW0 := Ext.trans Ew5.out hW; clear hW; go_simp <;> with_reducible rfl
        try simp only [Act.put, List.setIfInBounds_toArray, List.set_cons_zero, List.set_cons_succ]
        refine ext_take (i := 6) (v := ?_) rfl (by kernel_rfl) (by kernel_rfl) (by kernel_rfl) (fun _ _ _ h => h) (by rfl) ?_ ?_
        rotate_left
        · intro W hW; have hW0 := Ext.trans Ew5.out hW; clear hW; go_simp <;> with_reducible rfl
        try simp only [Act.put, List.setIfInBounds_toArray, List.set_cons_zero, List.set_cons_succ]
        refine ext_take (i := 8) (v := ?_) rfl (by kernel_rfl) (by kernel_rfl) (by kernel_rfl) (fun _ _ _ h => h) (by rfl) ?_ ?_
        rotate_left
        · intro W hW; have hW0 := Ext.trans Ew5.out hW; clear hW; go_simp <;> with_reducible rfl
        try simp only [Act.put, List.setIfInBounds_toArray, List.set_cons_zero, List.set_cons_succ]
        refine ext_call (i := 7) rfl (by kernel_rfl) (by rfl) (fun K' hK => ?_)
        go_simp
        (go_at_call 53; (with_reducible refine (R2.out _ Ew5.out).mono ?_); rintro e w6 ⟨A', c', rfl, hx, hs'⟩; refine hK _ _ hx ?_; clear hK)
        have Ew6 := Lib.hid (Ext.trans Ew5.out hx)
        have SA := Lib.hid hs'; clear hs'
        clear hx
        try simp only [Act.put, List.setIfInBounds_toArray, List.set_cons_zero, List.set_cons_succ]
        refine ext_call (i := 9) rfl (by kernel_rfl) (by rfl) (fun K' hK => ?_)
        go_simp
        (go_at_call 39; (with_reducible refine (R3.out _ _ _ Ew6.out SA.out).mono ?_); rintro e w7 ⟨rfl, hx⟩; refine hK _ _ hx ?_; clear hK)
        have Ew7 := Lib.hid (Ext.trans Ew6.out hx)
        clear hx
        try simp only [Act.put, List.setIfInBounds_toArray, List.set_cons_zero, List.set_cons_succ]
        refine ext_take (i := 10) (v := ?_) rfl (by kernel_rfl) (by kernel_rfl) (by kernel_rfl) (fun _ _ _ h => h) (by rfl) ?_ ?_
        rotate_left
        · intro W hW; have hW0 := Ext.trans Ew7.out hW; clear hW; go_simp <;> with_reducible rfl
        try simp only [Act.put, List.setIfInBounds_toArray, List.set_cons_zero, List.set_cons_succ]
        refine ext_take (i := 11) (v := ?_) rfl (by kernel_rfl) (by kernel_rfl) (by kernel_rfl) (fun _ _ _ h => h) (by rfl) ?_ ?_
        rotate_left
        · intro W hW; have hW0 := Ext.trans Ew7.out hW; clear hW; go_simp <;> with_reducible rfl
        try simp only [Act.put, List.setIfInBounds_toArray, List.set_cons_zero, List.set_cons_succ]
        refine ext_take (i := 12) (v := ?_) rfl (by kernel_rfl) (by kernel_rfl) (by kernel_rfl) (fun _ _ _ h => h) (by rfl) ?_ ?_
        rotate_left
        · intro W hW; have hW0 := Ext.trans Ew7.out hW; clear hW; go_simp <;> with_reducible rfl
        try simp only [Act.put, List.setIfInBounds_toArray, List.set_cons_zero, List.set_cons_succ]
        refine ext_take (i := 13) (v := ?_) rfl (by kernel_rfl) (by kernel_rfl) (by kernel_rfl) (fun _ _ _ h => h) (by rfl) ?_ ?_
        rotate_left
        · intro W hW; have hW0 := Ext.trans Ew7.out hW; clear hW; go_simp <;> with_reducible rfl
        try simp only [Act.put, List.setIfInBounds_toArray, List.set_cons_zero, List.set_cons_succ]
        refine ext_take (i := 14) (v := ?_) rfl (by kernel_rfl) (by kernel_rfl) (by kernel_rfl) (fun _ _ _ h => h) (by rfl) ?_ ?_
        rotate_left
        · intro W hW; have hW0 := Ext.trans Ew7.out hW; clear hW; go_simp <;> with_reducible rfl
        try simp only [Act.put, List.setIfInBounds_toArray, List.set_cons_zero, List.set_cons_succ]
        refine ext_call (i := 15) rfl (by kernel_rfl) (by rfl) (fun K' hK => ?_)
        go_simp
        (go_at_call 51; (with_reducible refine (R4.out _ Ew7.out).mono ?_); rintro e w8 ⟨rfl, hx⟩; refine hK _ _ hx ?_; clear hK)
        have Ew8 := Lib.hid (Ext.trans Ew7.out hx)
        clear hx
        try simp only [Act.put, List.setIfInBounds_toArray, List.set_cons_zero, List.set_cons_succ]
        refine ext_take (i := 16) (v := ?_) rfl (by kernel_rfl) (by kernel_rfl) (by kernel_rfl) (fun _ _ _ h => h) (by rfl) ?_ ?_
        rotate_left
        · intro W hW; have hW0 := Ext.trans Ew8.out hW; clear hW; go_simp <;> with_reducible rfl
        try simp only [Act.put, List.setIfInBounds_toArray, List.set_cons_zero, List.set_cons_succ]
        refine ext_take (i := 17) (v := ?_) rfl (by kernel_rfl) (by kernel_rfl) (by kernel_rfl) (fun _ _ _ h => h) (by rfl) ?_ ?_
        rotate_left
        · intro W hW; have hW0 := Ext.trans Ew8.out hW; clear hW; go_simp <;> with_reducible rfl
        try simp only [Act.put, List.setIfInBounds_toArray, List.set_cons_zero, List.set_cons_succ]
        refine ext_take (i := 18) (v := ?_) rfl (by kernel_rfl) (by kernel_rfl) (by kernel_rfl) (fun _ _ _ h => h) (by rfl) ?_ ?_
        rotate_left
        · intro W hW; have hW0 := Ext.trans Ew8.out hW; clear hW; go_simp <;> with_reducible rfl
        try simp only [Act.put, List.setIfInBounds_toArray, List.set_cons_zero, List.set_cons_succ]
        refine wpAnyH_done (by kernel_rfl) ?_ _
        go_wp2
        try go_ret
        exact hD.out _ _ ⟨rfl, Ext.trans HX3.out Ew8.out⟩

theorem law_tallyBest {H : Type} {enc : TypeId × Value → H} (W : World) (base : Nat) (args : Array Value) (ds : List (DataW H)) (p : List MemPlace)
    (hval : ∀ (j : Nat) t v, Try.f13.params[j]? = some t → args[j]? = some v → Value.okWide Try.prog W .any base t v)
    (hA : DataW.TrodAll enc Try.prog W 0 (fun _ => true) true Try.f13.params.toList args.toList ds p) :
    Calls Try.prog 13 args W fun e W' => e = .returned (.bool true) ∧ Below W.heap.size W W' := by
  rw [Try.params13] at hA hval
  obtain ⟨v0, vs0, d0, ds0, p0, q0, hargs, rfl, rfl, h0, r0⟩ := trodAll_cons hA
  obtain ⟨v1, vs1, d1, ds1, p1, q1, rfl, rfl, rfl, h1, r1⟩ := trodAll_cons r0
  obtain ⟨rfl, rfl, rfl⟩ := trodAll_nil r1
  obtain rfl : args = #[v0, v1] := by cases args; simp_all
  obtain ⟨A0, n0, c0, rfl⟩ := okWide_slice Try.underlying32 (hval 0 32 v0 rfl rfl)
  obtain ⟨fuel0, hf0⟩ := h0
  obtain ⟨B0, e0, l0, hcs0, x0, y0, z0, g0⟩ := trod_ints_sl Try.underlying32 Try.underlying3 cells_int hf0
  simp only [Value.cells, List.cons.injEq, Value.slice.injEq, and_true] at hcs0
  obtain ⟨rfl, rfl, rfl⟩ := hcs0
  obtain ⟨a1, rfl, rfl, rfl, w1⟩ := open_int Try.underlying3 (hval 1 3 v1 rfl rfl) h1
  exact walk_tallyBest A0 c0 l0 a1 W (Nat.le_trans x0 y0) z0
end Go.Proofs.Ytjopolimkllibaa
