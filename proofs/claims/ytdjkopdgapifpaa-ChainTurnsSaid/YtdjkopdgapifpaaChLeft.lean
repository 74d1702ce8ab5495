/-
  The iterator of package chain: the nodes that are not among some, one by one.
-/
import Derived.Test.YtdjkopdgapifpaaChWith
import Derived.RangeFuncNested
import Derived.RangeFuncBound
import Derived.RangeFuncCalls
import Derived.RangeFuncLeaves
import Derived.Shelf.Abstract
import Derived.Shelf.RegionOpen
import Derived.OwnWalkIn
import Derived.TacticsInMore
import Derived.LoopNIn
import Derived.LoopIn
namespace Go.Proofs.Ytdjkopdgapifpaa
set_option linter.unusedVariables false
set_option linter.unusedSimpArgs false
open Go.RowKit Go.Shelf
attribute [local go_sem] Oper.semAt_some

/-- those of a list that are not among some -/
def leftL (l gone : List Int) : List Int := l.filter fun x => !decide (x ∈ gone)
theorem leftL_take (l gone : List Int) (k : Nat) (h : k < l.length) : leftL (l.take (k + 1)) gone = leftL (l.take k) gone ++ if l[k] ∈ gone then [] else [l[k]] := by
  unfold leftL
  rw [List.take_succ_eq_append_getElem h, List.filter_append]
  by_cases hx : l[k] ∈ gone <;> simp [hx]
theorem leftL_len (l gone : List Int) : (leftL l gone).length ≤ l.length := List.length_filter_le _ _
theorem leftL_prefix (l gone : List Int) (k : Nat) : leftL (l.take k) gone <+: leftL l gone := by
  refine ⟨leftL (l.drop k) gone, ?_⟩
  unfold leftL
  rw [← List.filter_append, List.take_append_drop]

theorem left_any (ep : Int) (A G : Option Addr) (n c m d : Nat) (w : World) :
    Calls Try.prog 68 #[.agg #[.int .i64 ep, .slice A n c], .slice G m d] w fun e w' => e = .returned (.func (.func 76) #[] #[.pointer (some ⟨w.heap.size, 0, none⟩), .pointer (some ⟨w.heap.size + 1, 0, none⟩)]) ∧
      (w.alloc (.cells #[.int .i64 ep, .slice A n c] 50)).alloc (.cells #[.slice G m d] 32) = w' := by
  go_enter Try.func68, Try.ntmps68
  go_wp2
  go_ret
  exact ⟨rfl, rfl⟩

set_option maxRecDepth 100000 in
set_option maxHeartbeats 4000000 in
theorem left_in (n : Nat) (hn : 1 ≤ n) (s : Nat → Prop) (y Bc Bg : Nat) (A G : Option Addr) (cap d : Nat) (l gone : List Int) (hl : l.length ≤ 1000000000) (hg : gone.length ≤ 1000000000) (J Jx : List Int → World → Prop) (W : World)
    (HC : Hid (∀ W', Frm s W W' → W'.cell? ⟨Bc, 1, none⟩ = some (.slice A l.length cap))) (HD : Hid (∀ W', Frm s W W' → W'.cell? ⟨Bg, 0, none⟩ = some (.slice G gone.length d)))
    (HA : Hid (∀ W', Frm s W W' → Sl i64 W' A l)) (HG : Hid (∀ W', Frm s W W' → Sl i64 W' G gone))
    (hY : Hid (∀ pre x W, J pre W → pre.length < l.length → YieldAt Fence.wide (n - 1) Try.prog y #[.int .i64 x] W fun e W' =>
      (e = .returned (.bool true) ∧ J (pre ++ [x]) W' ∧ Frm s W W') ∨ (e = .returned (.bool false) ∧ Jx (pre ++ [x]) W')))
    (h0 : J [] W) :
    CallsIn Fence.wide n Try.prog 76 #[.func (.yield y) #[] #[], .pointer (some ⟨Bc, 0, none⟩), .pointer (some ⟨Bg, 0, none⟩)] W fun e W' => (∃ v, e = .returned v) ∧
      ((∃ ys, ys = leftL l gone ∧ J ys W') ∨ (∃ pre, pre <+: leftL l gone ∧ Jx pre W')) := by
  obtain ⟨N, hN⟩ : ∃ N, N = l.length := ⟨_, rfl⟩
  have HN := Lib.hid hN
  rw [← hN] at hl
  have HC' : Hid (∀ W', Frm s W W' → W'.cell? ⟨Bc, 1, none⟩ = some (.slice A N cap)) := fun W' h => by rw [hN]; exact HC.out W' h
  clear HC
  have cc := HC'.out W (Frm.refl _ _)
  have HJ0 := Lib.hid h0
  have HQ : Hid (∀ V x, Frm s W V → CallsIn Fence.wide (n - 1) Try.prog 65 #[.slice G gone.length d, .int .i64 x] V fun e w' => e = .returned (.bool (decide (x ∈ gone))) ∧ V = w') := fun V x h => callsIn_wide.2 (contains_any G d gone x V (by omega) (HG.out V h))
  clear hN h0
  have HM : Hid (∃ M, M = gone.length) := ⟨_, rfl⟩
  refine callsIn_of_wp Try.func76 rfl trivial ?_ rfl
  simp only [Try.ntmps76, List.size_toArray, List.length_cons, List.length_nil, Nat.reduceAdd, Nat.reduceSub, Array.replicate_succ, Array.replicate_zero, List.push_toArray, List.append_toArray, List.nil_append, List.cons_append]
  gi_wp2
  gi_loopw [9] (fun i wr => ∃ k : Nat, k ≤ N ∧ i = .int .i64 k ∧ Hid (J (leftL (l.take k) gone) wr) ∧ Hid (Frm s W wr))
    (fun i _ => N - (intOf i).toNat)
  case atStart => exact ⟨0, Nat.zero_le _, rfl, by (show J _ _); exact HJ0.out, Frm.refl _ _⟩
  case round =>
    obtain ⟨k, hk, rfl, HJs, HF⟩ := hrel
    clear cc
    by_cases hlt : k < N
    · obtain ⟨b, o, rfl, hcell⟩ := (HA.out _ HF.out).at_ (k := k) (by rw [← HN.out]; exact hlt)
      have hT := leftL_take l gone k (by rw [← HN.out]; exact hlt)
      have hlen : (leftL (l.take k) gone).length < l.length := by have h1 := leftL_len (l.take k) gone; have h2 := List.length_take_le k l; have := HN.out; omega
      generalize l[k]'(by rw [← HN.out]; exact hlt) = x at *
      have cg := HD.out _ HF.out
      have HQ1 := HQ.out _ x HF.out
      unfold i64 at hcell
      by_cases hx : x ∈ gone
      · rw [if_pos hx, List.append_nil] at hT
        rw [decide_eq_true hx] at HQ1
        have HQ2 := Lib.hid HQ1
        have HT := Lib.hid hT
        clear HQ1 hT hx hlen
        gi_wp2_with (refine ⟨trivial, ?_⟩; gi_at_call 65; refine HQ2.out.mono ?_; rintro e w' ⟨rfl, rfl⟩)
        refine ⟨fun _ h => (by cases h), ?_⟩
        gi_wp2
        go_roundw
        case rel => exact ⟨k + 1, by omega, by go_num, by (show J _ _); rw [HT.out]; exact HJs.out, HF⟩
        case measure => simp [intOf]; omega
      · rw [if_neg hx] at hT
        rw [decide_eq_false hx] at HQ1
        obtain ⟨fn, tmps, assign, body, hy, hR⟩ := hY.out _ x wr HJs.out hlen
        have HQ2 := Lib.hid HQ1
        have HT := Lib.hid hT
        have HR := Lib.hid hR
        clear HQ1 hT hx hlen hR
        gi_wp2_with (refine ⟨trivial, ?_⟩; gi_at_call 65; refine HQ2.out.mono ?_; rintro e w' ⟨rfl, rfl⟩)
        refine HR.out.mono ?_
        rintro e W3 (⟨rfl, hJ3, hk3⟩ | ⟨rfl, hJx3⟩)
        · have HJ3 := Lib.hid hJ3
          have HK3 := Lib.hid hk3
          clear hJ3 hk3
          gi_wp2
          go_roundw
          case rel => exact ⟨k + 1, by omega, by go_num, by (show J _ _); rw [HT.out]; exact HJ3.out, Frm.tr HF.out HK3.out⟩
          case measure => simp [intOf]; omega
        · have HJ3 := Lib.hid hJx3
          clear hJx3
          gi_wp2
          refine bodyPost_ret (results_none rfl _ _ _) rfl ?_
          exact ⟨⟨_, rfl⟩, .inr ⟨_, by rw [← HT.out]; exact leftL_prefix _ _ _, HJ3.out⟩⟩
    · have HE : Hid (leftL (l.take k) gone = leftL l gone) := by (show _ = _); rw [List.take_of_length_le (by have := HN.out; omega)]
      gi_wp2
      go_end0
      exact ⟨⟨_, rfl⟩, .inl ⟨_, rfl, by rw [← HE.out]; exact HJs.out⟩⟩
end Go.Proofs.Ytdjkopdgapifpaa
