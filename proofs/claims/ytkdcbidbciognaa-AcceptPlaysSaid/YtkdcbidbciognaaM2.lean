/-
  Walks of package chain, further: with a node more. What a chain or an error comes to, in one word for all that answer so.
  The walk of chain.Next.
  The iterator of package chain: the nodes that are not among some, one by one.
  Package chain: a chain without some of its nodes, which ranges over the iterator.
  The told rows of the laws of chapter 12.
  Plain laws on chains: no node twice, where a node stands, what follows what.
  The walk of the law ChainKeeps.
  The walk of the law ChainWithout.
  Plain laws on chains, further: what is left, or has one more, follows; a bound on how many there are.
  The walk of the document's Follows.
  Walks of package ballot and of the reference's: which ballots may be, their order, the next one.
  Walks of ballot.Cmp and of the reference's Cmp; the next ballot.
  A region that draws its order, walked in an order of ours, where a last store may turn what was read: 'behind each operation all stays but blocks of s', save behind those (Z) that wait for all that is read.
-/
import Derived.Test.YtkdcbidbciognaaM1
import Derived.RangeFuncNested
import Derived.RangeFuncBound
import Derived.RangeFuncCalls
import Derived.RangeFuncLeaves
import Derived.Shelf.Abstract
import Derived.Shelf.RegionOpen
import Derived.OwnWalkIn
import Derived.TacticsInMore
import Derived.LoopNIn
import Derived.LoopIn
import Derived.Maps.AppendAt
import Derived.Laws.StructEq
import Derived.StillTailTactics
namespace Go.Proofs.Ytkdcbidbciognaa
set_option linter.unusedVariables false
set_option linter.unusedSimpArgs false
open Go.RowKit

theorem ext_al (w : World) (o : Obj) : Ext w (w.alloc o) := (Below.refl _ _).alloc (Nat.le_refl _) _
/-- a call that answers with a chain and a number -/
def ChRes (w : World) (r : Int × List Int × Int) (e : Ending) (w' : World) : Prop :=
  ∃ A cap, e = .returned (.tuple #[chV r.1 A r.2.1.length cap, .int .i64 r.2.2]) ∧ Sl i64 w' A r.2.1 ∧ r.2.1.length ≤ cap ∧ Ext w w' ∧ ∀ a, A = some a → w.heap.size ≤ a.block
/-- no chain -/
abbrev noCh : Int × List Int × Int := (0, [], 1)
/-- a chain, if it may be -/
def chOk (ep : Int) (l : List Int) : Int × List Int × Int := if mayChainB ep l then (ep, l, 0) else noCh
def withL (ep : Int) (l : List Int) (x : Int) : Int × List Int × Int := if mayChainB ep l then chOk (ep + 1) (l ++ [x]) else noCh
def firstL (n : Int) : Int × List Int × Int := if 1 ≤ n ∧ n ≤ 5 then (1, upTo n.toNat, 0) else noCh

theorem own_sl {w : World} {base n cap : Nat} {A : Option Addr} {l : List Int} (h : w.ownsRow base 3 1 (.slice A n cap) l.length (l.map i64)) : Sl i64 w A l := by
  obtain ⟨A', c', e, hs⟩ := own_view h
  injection e with e1 e2 e3
  subst e1
  exact hs
theorem own_cap {w : World} {base n cap : Nat} {A : Option Addr} {l : List Int} (h : w.ownsRow base 3 1 (.slice A n cap) l.length (l.map i64)) : l.length ≤ cap := by
  rcases h.2 with ⟨e, hn⟩ | ⟨g, c, cur, e, _, _, h1, h2, _⟩
  · injection e with e1 e2 e3; omega
  · injection e with e1 e2 e3; omega
theorem own_fresh {w : World} {base n k cap : Nat} {A : Option Addr} {xs : List Value} (h : w.ownsRow base 3 1 (.slice A n cap) k xs) : ∀ a, A = some a → base ≤ a.block := by
  rintro a rfl
  exact (h.lt a.block rfl).1
theorem own_n {w : World} {base n k cap : Nat} {A : Option Addr} {xs : List Value} (h : w.ownsRow base 3 1 (.slice A n cap) k xs) : n = k := by
  obtain ⟨A', c', e⟩ := own_shape h
  injection e

theorem ChRes.no {w w' : World} (h : Ext w w') : ChRes w noCh (.returned (.tuple #[chV 0 none 0 0, .int .i64 1])) w' := ⟨none, 0, rfl, Sl.nil _ _ _, Nat.le_refl _, h, by simp⟩
theorem first_res (F : FuncId) (n : Int) (w : World)
    (hno : ∀ (n : Int) (w : World), n < 1 ∨ 5 < n → Calls Try.prog F #[.int .i64 n] w fun e w' => e = .returned (.tuple #[chV 0 none 0 0, .int .i64 1]) ∧ Below w.heap.size w w')
    (hyes : ∀ (n : Nat) (w : World), 1 ≤ n → n ≤ 5 → Calls Try.prog F #[.int .i64 n] w fun e w' => ∃ v, e = .returned (.tuple #[.agg #[.int .i64 1, v], .int .i64 0]) ∧ w'.ownsRow w.heap.size 3 1 v n ((upTo n).map i64) ∧ Below w.heap.size w w') :
    Calls Try.prog F #[.int .i64 n] w (ChRes w (firstL n)) := by
  by_cases h : 1 ≤ n ∧ n ≤ 5
  · obtain ⟨k, rfl⟩ := Int.eq_ofNat_of_zero_le (show 0 ≤ n by omega)
    refine (hyes k w (by omega) (by omega)).mono fun e w' ⟨v, he, ho, hb⟩ => ?_
    obtain ⟨A, cap, rfl⟩ := own_shape ho
    have ho' : w'.ownsRow w.heap.size 3 1 (.slice A k cap) (upTo k).length ((upTo k).map i64) := by rw [upTo_len]; exact ho
    refine ⟨A, cap, ?_, ?_, ?_, hb, own_fresh ho⟩
    · rw [he]; simp [firstL, h, upTo_len]
    · simp only [firstL, if_pos h, Int.toNat_natCast]; exact own_sl ho'
    · simp only [firstL, if_pos h, Int.toNat_natCast]; exact own_cap ho'
  · refine (hno n w (by omega)).mono fun e w' ⟨he, hb⟩ => ?_
    rw [he]
    simp only [firstL, if_neg h]
    exact ChRes.no hb
theorem chFirst_any (n : Int) (w : World) : Calls Try.prog 51 #[.int .i64 n] w (ChRes w (firstL n)) := first_res _ n w chFirst_no chFirst_yes
theorem refFirst_any (n : Int) (w : World) : Calls Try.prog 38 #[.int .i64 n] w (ChRes w (firstL n)) := first_res _ n w refFirst_no refFirst_yes

/-- what 'may' answers -/
def MayR (ep : Int) (A : Option Addr) (cap : Nat) (l : List Int) (E : Int) (A' : Option Addr) (N C : Nat) (c : Int) : Prop :=
  (mayChainB ep l = true ∧ E = ep ∧ A' = A ∧ N = l.length ∧ C = cap ∧ c = 0) ∨ (mayChainB ep l = false ∧ E = 0 ∧ A' = none ∧ N = 0 ∧ C = 0 ∧ c = 1)
theorem MayR.res {ep : Int} {A : Option Addr} {cap : Nat} {l : List Int} {E : Int} {A' : Option Addr} {N C : Nat} {c : Int} {w w' : World} (h : MayR ep A cap l E A' N C c) (hs : Sl i64 w' A l) (hc : l.length ≤ cap) (hf : ∀ a, A = some a → w.heap.size ≤ a.block) (hx : Ext w w') :
    ChRes w (chOk ep l) (.returned (.tuple #[.agg #[.int .i64 E, .slice A' N C], .int .i64 c])) w' := by
  rcases h with ⟨hm, rfl, rfl, rfl, rfl, rfl⟩ | ⟨hm, rfl, rfl, rfl, rfl, rfl⟩
  · unfold chOk; rw [if_pos hm]; exact ⟨_, _, rfl, hs, hc, hx, hf⟩
  · unfold chOk; rw [if_neg (by simp [hm])]; exact ChRes.no hx

end Go.Proofs.Ytkdcbidbciognaa

namespace Go.Proofs.Ytkdcbidbciognaa
set_option linter.unusedVariables false
set_option linter.unusedSimpArgs false
open Go.RowKit

/-- the rest of a chain that is to follow la: each stands further on in la, the last one may be new -/
def nextL (la : List Int) : List Int → Int → Int → Bool
  | [], _, c => decide (0 < c)
  | x :: r, a, c => if idx x la 0 < 0 ∧ r = [] then nextL la r a c else if idx x la 0 < a then false else nextL la r (idx x la 0 + 1) (c + 1)
def nextB (ea eb : Int) (la lb : List Int) (n : Int) : Bool := mayChainB ea la && mayChainB eb lb && !la.any (badB n) && !lb.any (badB n) && decide (eb = ea + 1) && nextL la lb 0 0

set_option maxRecDepth 4000 in
set_option maxHeartbeats 4000000 in
theorem chNext_any (ea eb n : Int) (A B : Option Addr) (c1 c2 : Nat) (la lb : List Int) (w : World) (h1 : la.length ≤ 9223372036854775807) (h2 : lb.length ≤ 9223372036854775807) (hc1 : la.length ≤ c1) (hc2 : lb.length ≤ c2) (hs : Sl i64 w A la) (hs2 : Sl i64 w B lb) :
    Calls Try.prog 66 #[chV ea A la.length c1, chV eb B lb.length c2, .int .i64 n] w fun e w' => e = .returned (.bool (nextB ea eb la lb n)) ∧ Below w.heap.size w w' := by
  generalize hr : nextB ea eb la lb n = r
  obtain ⟨w0, hw0⟩ : ∃ w0, w0 = (w.alloc (.cells #[.int .i64 ea, .slice A la.length c1] 26)).alloc (.cells #[.int .i64 eb, .slice B lb.length c2] 26) := ⟨_, rfl⟩
  have HW0 := Lib.hid hw0
  have hb0 : Ext w w0 := by rw [hw0]; exact ((Below.refl _ _).alloc (Nat.le_refl _) _).alloc (by simp) _
  have KA : Hid (Blk w0 w.heap.size 26 #[.int .i64 ea, .slice A la.length c1]) := by (show Blk _ _ _ _); rw [hw0]; exact (Blk.new w _ _).stay ((Below.refl _ _).alloc (Nat.le_refl _) _)
  have KB : Hid (Blk w0 (w.heap.size + 1) 26 #[.int .i64 eb, .slice B lb.length c2]) := by (show Blk _ _ _ _); rw [hw0]; exact Blk.new' _ _ _ (w.heap.size + 1) (by simp)
  have HMA : Hid (∀ V, Ext w0 V → Calls Try.prog 45 #[.agg #[.int .i64 ea, .slice A la.length c1]] V fun e w' => e = .returned (.bool (mayChainB ea la)) ∧ Ext V w') := fun V hV => mayChain_any ea A c1 la V h1 hc1 (hs.stay (Ext.trans hb0 hV))
  have HMB : Hid (∀ V, Ext w0 V → Calls Try.prog 45 #[.agg #[.int .i64 eb, .slice B lb.length c2]] V fun e w' => e = .returned (.bool (mayChainB eb lb)) ∧ Ext V w') := fun V hV => mayChain_any eb B c2 lb V h2 hc2 (hs2.stay (Ext.trans hb0 hV))
  have HFA : Hid (∀ V, Ext w0 V → Calls Try.prog 59 #[.agg #[.int .i64 ea, .slice A la.length c1], .int .i64 n] V fun e w' => e = .returned (.bool (!la.any (badB n))) ∧ Ext V w') := fun V hV => fits_any ea n A c1 la V h1 (hs.stay (Ext.trans hb0 hV))
  have HFB : Hid (∀ V, Ext w0 V → Calls Try.prog 59 #[.agg #[.int .i64 eb, .slice B lb.length c2], .int .i64 n] V fun e w' => e = .returned (.bool (!lb.any (badB n))) ∧ Ext V w') := fun V hV => fits_any eb n B c2 lb V h2 (hs2.stay (Ext.trans hb0 hV))
  have HIX : Hid (∀ V x, Ext w0 V → Calls Try.prog 90 #[.slice A la.length c1, .int .i64 x] V fun e w' => e = .returned (.int .i64 (idx x la 0)) ∧ V = w') := fun V x hV => index_any A c1 la x V h1 (hs.stay (Ext.trans hb0 hV))
  have HSB : Hid (∀ V, Ext w0 V → Sl i64 V B lb) := fun V hV => hs2.stay (Ext.trans hb0 hV)
  have HI : Hid (∀ x, -1 ≤ idx x la 0 ∧ idx x la 0 < la.length) := fun x => by have := idx_lt x la 0 (by omega); omega
  have HE0 := Lib.hid hb0
  have hea : mayChainB ea la = true → 0 ≤ ea ∧ ea ≤ 1073741824 := fun h => by simp [mayChainB] at h; omega
  have hla5 : mayChainB ea la = true → la.length ≤ 5 := fun h => by simp [mayChainB] at h; omega
  have hlb5 : mayChainB eb lb = true → lb.length ≤ 5 := fun h => by simp [mayChainB] at h; omega
  clear hs hs2 hw0 hb0
  unfold nextB at hr
  generalize hna : la.length = na at *
  generalize hnb : lb.length = nb at *
  have HNA := Lib.hid hna
  have HNB := Lib.hid hnb
  clear hna hnb
  generalize mayChainB ea la = ba at *
  generalize mayChainB eb lb = bb at *
  generalize (!la.any (badB n)) = fa at *
  generalize (!lb.any (badB n)) = fb at *
  have HR := Lib.hid hr
  clear hr
  cases ba
  · have HR' : Hid (r = false) := by (show _ = _); rw [← HR.out]; simp
    clear hea hla5 hlb5
    go_enter Try.func66, Try.ntmps66
    go_wp2_with (first
      | (go_at_call 45; rw [← HW0.out]; (with_reducible refine (HMA.out _ (Ext.refl _)).mono ?_); rintro e w1 ⟨rfl, hx⟩; have E1 := Lib.hid (Ext.trans ((Ext.refl _)) hx); clear hx; have a0 := (KA.out.stay E1.out).cell 0; have a1 := (KA.out.stay E1.out).cell 1; have b0 := (KB.out.stay E1.out).cell 0; have b1 := (KB.out.stay E1.out).cell 1; simp at a0 a1 b0 b1))
    go_ret
    exact ⟨ret_bool HR'.out.symm, Ext.trans HE0.out E1.out⟩
  obtain ⟨e0, e1⟩ := hea rfl
  have l1 := hla5 rfl
  clear hea hla5
  cases bb
  · have HR' : Hid (r = false) := by (show _ = _); rw [← HR.out]; simp
    clear hlb5
    go_enter Try.func66, Try.ntmps66
    go_wp2_with (first
      | (go_at_call 45; rw [← HW0.out]; (with_reducible refine (HMA.out _ (Ext.refl _)).mono ?_); rintro e w1 ⟨rfl, hx⟩; have E1 := Lib.hid (Ext.trans ((Ext.refl _)) hx); clear hx; have a0 := (KA.out.stay E1.out).cell 0; have a1 := (KA.out.stay E1.out).cell 1; have b0 := (KB.out.stay E1.out).cell 0; have b1 := (KB.out.stay E1.out).cell 1; simp at a0 a1 b0 b1)
      | (go_at_call 45; (with_reducible refine (HMB.out _ E1.out).mono ?_); rintro e w2 ⟨rfl, hx⟩; clear a0 a1 b0 b1; have E2 := Lib.hid (Ext.trans (E1.out) hx); clear hx; have a0 := (KA.out.stay E2.out).cell 0; have a1 := (KA.out.stay E2.out).cell 1; have b0 := (KB.out.stay E2.out).cell 0; have b1 := (KB.out.stay E2.out).cell 1; simp at a0 a1 b0 b1))
    go_ret
    exact ⟨ret_bool HR'.out.symm, Ext.trans HE0.out E2.out⟩
  have l2 := hlb5 rfl
  clear hlb5
  cases fa
  · have HR' : Hid (r = false) := by (show _ = _); rw [← HR.out]; simp
    go_enter Try.func66, Try.ntmps66
    go_wp2_with (first
      | (go_at_call 45; rw [← HW0.out]; (with_reducible refine (HMA.out _ (Ext.refl _)).mono ?_); rintro e w1 ⟨rfl, hx⟩; have E1 := Lib.hid (Ext.trans ((Ext.refl _)) hx); clear hx; have a0 := (KA.out.stay E1.out).cell 0; have a1 := (KA.out.stay E1.out).cell 1; have b0 := (KB.out.stay E1.out).cell 0; have b1 := (KB.out.stay E1.out).cell 1; simp at a0 a1 b0 b1)
      | (go_at_call 45; (with_reducible refine (HMB.out _ E1.out).mono ?_); rintro e w2 ⟨rfl, hx⟩; clear a0 a1 b0 b1; have E2 := Lib.hid (Ext.trans (E1.out) hx); clear hx; have a0 := (KA.out.stay E2.out).cell 0; have a1 := (KA.out.stay E2.out).cell 1; have b0 := (KB.out.stay E2.out).cell 0; have b1 := (KB.out.stay E2.out).cell 1; simp at a0 a1 b0 b1)
      | (go_at_call 59; (with_reducible refine (HFA.out _ E2.out).mono ?_); rintro e w3 ⟨rfl, hx⟩; clear a0 a1 b0 b1; have E3 := Lib.hid (Ext.trans (E2.out) hx); clear hx; have a0 := (KA.out.stay E3.out).cell 0; have a1 := (KA.out.stay E3.out).cell 1; have b0 := (KB.out.stay E3.out).cell 0; have b1 := (KB.out.stay E3.out).cell 1; simp at a0 a1 b0 b1))
    go_ret
    exact ⟨ret_bool HR'.out.symm, Ext.trans HE0.out E3.out⟩
  cases fb
  · have HR' : Hid (r = false) := by (show _ = _); rw [← HR.out]; simp
    go_enter Try.func66, Try.ntmps66
    go_wp2_with (first
      | (go_at_call 45; rw [← HW0.out]; (with_reducible refine (HMA.out _ (Ext.refl _)).mono ?_); rintro e w1 ⟨rfl, hx⟩; have E1 := Lib.hid (Ext.trans ((Ext.refl _)) hx); clear hx; have a0 := (KA.out.stay E1.out).cell 0; have a1 := (KA.out.stay E1.out).cell 1; have b0 := (KB.out.stay E1.out).cell 0; have b1 := (KB.out.stay E1.out).cell 1; simp at a0 a1 b0 b1)
      | (go_at_call 45; (with_reducible refine (HMB.out _ E1.out).mono ?_); rintro e w2 ⟨rfl, hx⟩; clear a0 a1 b0 b1; have E2 := Lib.hid (Ext.trans (E1.out) hx); clear hx; have a0 := (KA.out.stay E2.out).cell 0; have a1 := (KA.out.stay E2.out).cell 1; have b0 := (KB.out.stay E2.out).cell 0; have b1 := (KB.out.stay E2.out).cell 1; simp at a0 a1 b0 b1)
      | (go_at_call 59; (with_reducible refine (HFA.out _ E2.out).mono ?_); rintro e w3 ⟨rfl, hx⟩; clear a0 a1 b0 b1; have E3 := Lib.hid (Ext.trans (E2.out) hx); clear hx; have a0 := (KA.out.stay E3.out).cell 0; have a1 := (KA.out.stay E3.out).cell 1; have b0 := (KB.out.stay E3.out).cell 0; have b1 := (KB.out.stay E3.out).cell 1; simp at a0 a1 b0 b1)
      | (go_at_call 59; (with_reducible refine (HFB.out _ E3.out).mono ?_); rintro e w4 ⟨rfl, hx⟩; clear a0 a1 b0 b1; have E4 := Lib.hid (Ext.trans (E3.out) hx); clear hx; have a0 := (KA.out.stay E4.out).cell 0; have a1 := (KA.out.stay E4.out).cell 1; have b0 := (KB.out.stay E4.out).cell 0; have b1 := (KB.out.stay E4.out).cell 1; simp at a0 a1 b0 b1))
    go_ret
    exact ⟨ret_bool HR'.out.symm, Ext.trans HE0.out E4.out⟩
  by_cases hep : eb = ea + 1
  · have HR' : Hid (r = nextL la lb 0 0) := by (show _ = _); rw [← HR.out]; simp [hep]
    clear HR
    subst hep
    go_enter Try.func66, Try.ntmps66
    go_wp2_with (first
      | (go_at_call 45; rw [← HW0.out]; (with_reducible refine (HMA.out _ (Ext.refl _)).mono ?_); rintro e w1 ⟨rfl, hx⟩; have E1 := Lib.hid (Ext.trans ((Ext.refl _)) hx); clear hx; have a0 := (KA.out.stay E1.out).cell 0; have a1 := (KA.out.stay E1.out).cell 1; have b0 := (KB.out.stay E1.out).cell 0; have b1 := (KB.out.stay E1.out).cell 1; simp at a0 a1 b0 b1)
      | (go_at_call 45; (with_reducible refine (HMB.out _ E1.out).mono ?_); rintro e w2 ⟨rfl, hx⟩; clear a0 a1 b0 b1; have E2 := Lib.hid (Ext.trans (E1.out) hx); clear hx; have a0 := (KA.out.stay E2.out).cell 0; have a1 := (KA.out.stay E2.out).cell 1; have b0 := (KB.out.stay E2.out).cell 0; have b1 := (KB.out.stay E2.out).cell 1; simp at a0 a1 b0 b1)
      | (go_at_call 59; (with_reducible refine (HFA.out _ E2.out).mono ?_); rintro e w3 ⟨rfl, hx⟩; clear a0 a1 b0 b1; have E3 := Lib.hid (Ext.trans (E2.out) hx); clear hx; have a0 := (KA.out.stay E3.out).cell 0; have a1 := (KA.out.stay E3.out).cell 1; have b0 := (KB.out.stay E3.out).cell 0; have b1 := (KB.out.stay E3.out).cell 1; simp at a0 a1 b0 b1)
      | (go_at_call 59; (with_reducible refine (HFB.out _ E3.out).mono ?_); rintro e w4 ⟨rfl, hx⟩; clear a0 a1 b0 b1; have E4 := Lib.hid (Ext.trans (E3.out) hx); clear hx; have a0 := (KA.out.stay E4.out).cell 0; have a1 := (KA.out.stay E4.out).cell 1; have b0 := (KB.out.stay E4.out).cell 0; have b1 := (KB.out.stay E4.out).cell 1; simp at a0 a1 b0 b1))
    go_loop [7, 8, 43] (fun a c i => ∃ (k : Nat) (p q : Int), k ≤ nb ∧ a = .int .i64 p ∧ c = .int .i64 q ∧ i = .int .i64 k ∧ 0 ≤ p ∧ p ≤ na ∧ 0 ≤ q ∧ q ≤ k ∧ Hid (r = nextL la (lb.drop k) p q)) (fun _ _ i => nb - (intOf i).toNat)
    case atStart => exact ⟨0, 0, 0, Nat.zero_le _, rfl, rfl, rfl, by omega, by omega, by omega, by omega, HR'.out⟩
    case round =>
      obtain ⟨k, p, q, hk, rfl, rfl, rfl, p0, p1, q0, q1, Hi⟩ := hrel
      by_cases hlt : k < nb
      · obtain ⟨b9, o9, rfl, hcell⟩ := (HSB.out _ E4.out).at_ (k := k) (by rw [HNB.out]; exact hlt)
        have hd : lb.drop k = lb[k]'(by rw [HNB.out]; exact hlt) :: lb.drop (k + 1) := List.drop_eq_getElem_cons _
        have Hd := Lib.hid hd
        clear hd
        generalize lb[k]'(by rw [HNB.out]; exact hlt) = y at *
        unfold i64 at hcell
        obtain ⟨i0, i1⟩ := HI.out y
        have HX := Lib.hid (HIX.out _ y E4.out)
        obtain ⟨v, hv⟩ : ∃ v, idx y la 0 = v := ⟨_, rfl⟩
        rw [hv] at HX i0 i1
        have HV := Lib.hid hv
        clear hv
        have hdn : lb.drop (k + 1) = [] ↔ nb ≤ k + 1 := by rw [List.drop_eq_nil_iff, HNB.out]
        have HDN := Lib.hid hdn
        clear hdn
        by_cases g0 : v < 0
        · by_cases g1 : (k : Int) = (nb : Int) - 1
          · have HE : Hid (r = nextL la (lb.drop (k + 1)) p q) := by (show _ = _); rw [Hi.out, Hd.out, nextL, HV.out, if_pos ⟨g0, HDN.out.2 (by omega)⟩]
            have g3 : (nb : Int) - 1 = (k : Int) := by omega
            clear g1
            go_wp2_with (go_at_call 90; (with_reducible refine HX.out.mono ?_); rintro e w' ⟨rfl, rfl⟩)
            go_round
            case rel => exact ⟨k + 1, p, q, by omega, rfl, rfl, by go_num, p0, p1, q0, by omega, HE⟩
            case measure => simp [intOf]; omega
          · have HE : Hid (r = false) := by (show _ = _); rw [Hi.out, Hd.out, nextL, HV.out, if_neg (fun h => g1 (by have := HDN.out.1 h.2; omega)), if_pos (by omega)]
            have g2 : v < p := by omega
            go_wp2_with (go_at_call 90; (with_reducible refine HX.out.mono ?_); rintro e w' ⟨rfl, rfl⟩)
            go_ret
            exact ⟨ret_bool HE.out.symm, Ext.trans HE0.out E4.out⟩
        · by_cases g2 : v < p
          · have HE : Hid (r = false) := by (show _ = _); rw [Hi.out, Hd.out, nextL, HV.out, if_neg (fun h => g0 h.1), if_pos g2]
            go_wp2_with (go_at_call 90; (with_reducible refine HX.out.mono ?_); rintro e w' ⟨rfl, rfl⟩)
            go_ret
            exact ⟨ret_bool HE.out.symm, Ext.trans HE0.out E4.out⟩
          · have HE : Hid (r = nextL la (lb.drop (k + 1)) (v + 1) (q + 1)) := by (show _ = _); rw [Hi.out, Hd.out, nextL, HV.out, if_neg (fun h => g0 h.1), if_neg g2]
            go_wp2_with (go_at_call 90; (with_reducible refine HX.out.mono ?_); rintro e w' ⟨rfl, rfl⟩)
            go_round
            case rel => exact ⟨k + 1, v + 1, q + 1, by omega, by go_num, by go_num, by go_num, by omega, by omega, by omega, by omega, HE⟩
            case measure => simp [intOf]; omega
      · have HE : Hid (r = decide (0 < q)) := by (show _ = _); rw [Hi.out, List.drop_of_length_le (by have := HNB.out; omega)]; rfl
        go_wp2_with fail
        all_goals go_ret
        all_goals exact ⟨ret_bool (by rw [HE.out]), Ext.trans HE0.out E4.out⟩
  · have HR' : Hid (r = false) := by (show _ = _); rw [← HR.out]; simp [hep]
    go_enter Try.func66, Try.ntmps66
    go_wp2_with (first
      | (go_at_call 45; rw [← HW0.out]; (with_reducible refine (HMA.out _ (Ext.refl _)).mono ?_); rintro e w1 ⟨rfl, hx⟩; have E1 := Lib.hid (Ext.trans ((Ext.refl _)) hx); clear hx; have a0 := (KA.out.stay E1.out).cell 0; have a1 := (KA.out.stay E1.out).cell 1; have b0 := (KB.out.stay E1.out).cell 0; have b1 := (KB.out.stay E1.out).cell 1; simp at a0 a1 b0 b1)
      | (go_at_call 45; (with_reducible refine (HMB.out _ E1.out).mono ?_); rintro e w2 ⟨rfl, hx⟩; clear a0 a1 b0 b1; have E2 := Lib.hid (Ext.trans (E1.out) hx); clear hx; have a0 := (KA.out.stay E2.out).cell 0; have a1 := (KA.out.stay E2.out).cell 1; have b0 := (KB.out.stay E2.out).cell 0; have b1 := (KB.out.stay E2.out).cell 1; simp at a0 a1 b0 b1)
      | (go_at_call 59; (with_reducible refine (HFA.out _ E2.out).mono ?_); rintro e w3 ⟨rfl, hx⟩; clear a0 a1 b0 b1; have E3 := Lib.hid (Ext.trans (E2.out) hx); clear hx; have a0 := (KA.out.stay E3.out).cell 0; have a1 := (KA.out.stay E3.out).cell 1; have b0 := (KB.out.stay E3.out).cell 0; have b1 := (KB.out.stay E3.out).cell 1; simp at a0 a1 b0 b1)
      | (go_at_call 59; (with_reducible refine (HFB.out _ E3.out).mono ?_); rintro e w4 ⟨rfl, hx⟩; clear a0 a1 b0 b1; have E4 := Lib.hid (Ext.trans (E3.out) hx); clear hx; have a0 := (KA.out.stay E4.out).cell 0; have a1 := (KA.out.stay E4.out).cell 1; have b0 := (KB.out.stay E4.out).cell 0; have b1 := (KB.out.stay E4.out).cell 1; simp at a0 a1 b0 b1))
    go_ret
    exact ⟨ret_bool HR'.out.symm, Ext.trans HE0.out E4.out⟩
end Go.Proofs.Ytkdcbidbciognaa

namespace Go.Proofs.Ytkdcbidbciognaa
set_option linter.unusedVariables false
set_option linter.unusedSimpArgs false
open Go.RowKit Go.Shelf
attribute [local go_sem] Oper.semAt_some

/-- those of a list that are not among some -/
def leftL (l gone : List Int) : List Int := l.filter fun x => !decide (x ∈ gone)
theorem leftL_take (l gone : List Int) (k : Nat) (h : k < l.length) : leftL (l.take (k + 1)) gone = leftL (l.take k) gone ++ if l[k] ∈ gone then [] else [l[k]] := by
  unfold leftL
  rw [List.take_succ_eq_append_getElem h, List.filter_append]
  by_cases hx : l[k] ∈ gone <;> simp [hx]
theorem leftL_len (l gone : List Int) : (leftL l gone).length ≤ l.length := List.length_filter_le _ _
theorem leftL_prefix (l gone : List Int) (k : Nat) : leftL (l.take k) gone <+: leftL l gone := by
  refine ⟨leftL (l.drop k) gone, ?_⟩
  unfold leftL
  rw [← List.filter_append, List.take_append_drop]

end Go.Proofs.Ytkdcbidbciognaa

namespace Go.Proofs.Ytkdcbidbciognaa
set_option linter.unusedVariables false
set_option linter.unusedSimpArgs false
open Go.RowKit Go.Shelf
attribute [local go_sem] Oper.semAt_some

def withoutL (ep : Int) (l gone : List Int) : Int × List Int × Int := if mayChainB ep l then chOk (ep + 1) (leftL l gone) else noCh

/-- the chain that grows in block P, its nodes in blocks from B on -/
structure Out (B : Nat) (wz w : World) (P : Nat) (ep : Int) (l : List Int) : Prop where
  low : Below P wz w
  big : B ≤ w.heap.size
  row : ∃ A cap, Blk w P 26 #[.int .i64 ep, .slice A l.length cap] ∧ w.ownsRow B 3 1 (.slice A l.length cap) l.length (l.map i64)

theorem Out.own {B P : Nat} {wz : World} {ep : Int} (hP : P < B) : OwnFrom B (fun l W => Out B wz W P ep l) := by
  rintro l W W' row ⟨hlow, hbig, A, cap, hb, ho⟩ hg hr
  have hne : some P ≠ row := fun e => by have := (hr P e.symm).1; omega
  refine ⟨hlow.grown hg (by have := hb.lt; omega) (fun k hk => by have := (hr k hk).1; omega), Nat.le_trans hbig hg.size, A, cap, hb.grown hg hne, ho.kept hg ?_⟩
  rcases ho.2 with ⟨e, _⟩ | ⟨g, c, cur, e, _, hgb, _⟩
  · exact .inl (by rw [e]; rfl)
  · refine .inr fun e' => ?_
    rw [e] at e'
    obtain ⟨_, o, h1, h2⟩ := hr g (by simpa [Value.ownBlock] using e'.symm)
    rw [hgb] at h1
    cases h1
    cases h2

theorem Out.push {B P : Nat} {wz w : World} {ep : Int} {l : List Int} (hP : P < B) (hlow : Below P wz w) (hbig : B ≤ w.heap.size) {A : Option Addr} {cap : Nat} (hb : Blk w P 26 #[.int .i64 ep, .slice A l.length cap]) (ho : w.ownsRow B 3 1 (.slice A l.length cap) l.length (l.map i64))
    (x : Int) {w' : World} {A' : Option Addr} {cap' : Nat} (hg : (w.alloc (.cells #[.int .i64 x] 3)).grownBy w' (Value.slice A l.length cap).ownBlock)
    (ho' : w'.ownsRow B 3 1 (.slice A' (l.length + 1) cap') (l.length + 1) (l.map i64 ++ [i64 x])) :
    Blk w' P 26 #[.int .i64 ep, .slice A l.length cap] ∧ KeepsFrom B w (w'.setCell ⟨P, 1, none⟩ (.slice A' (l.length + 1) cap')) ∧ Frm (fun k => k = P ∨ B ≤ k) w (w'.setCell ⟨P, 1, none⟩ (.slice A' (l.length + 1) cap')) ∧
      Out B wz (w'.setCell ⟨P, 1, none⟩ (.slice A' (l.length + 1) cap')) P ep (l ++ [x]) := by
  have hne : some P ≠ (Value.slice A l.length cap).ownBlock := own_ne ho hP
  have hlt : ∀ k, (Value.slice A l.length cap).ownBlock = some k → B ≤ k := fun k hk => (ho.lt k hk).1
  have hB1 : Blk w' P 26 #[.int .i64 ep, .slice A l.length cap] := (hb.alloc _).grown hg hne
  have hF : Frm (fun k => k = P ∨ B ≤ k) w (w'.setCell ⟨P, 1, none⟩ (.slice A' (l.length + 1) cap')) :=
    Frm.tr (Frm.tr (Frm.of_alloc _ _ _) (Frm.of_grown hg (fun k hk => .inr (hlt k hk.symm)))) (Frm.of_set _ _ _ (.inl rfl))
  refine ⟨hB1, ?_, hF, ?_, Nat.le_trans hbig hF.size, A', cap', ?_, ?_⟩
  · refine ((KeepsOthers.alloc _ _).trans ((KeepsOthers.of_grownBy hg ?_).trans (KeepsOthers.setCell _ _ _))).from B
    intro j o hj hoo
    have ho2 := ho.alloc (.cells #[.int .i64 x] 3)
    rcases ho2.2 with ⟨e, _⟩ | ⟨g, c, cur, e, _, hgb, _⟩
    · rw [e] at hj; simp [Value.ownBlock] at hj
    · rw [e] at hj
      simp [Value.ownBlock] at hj
      subst hj
      rw [hgb] at hoo
      cases hoo
      rfl
  · exact hlow.trans (hF.below (by have := hb.lt; omega) (by rintro k (e | e) <;> omega))
  · have := hB1.set 1 (.slice A' (l.length + 1) cap')
    simpa using this
  · have h1 := own_frm (s := fun k => k = P) ho' (Frm.of_set w' ⟨P, 1, none⟩ (.slice A' (l.length + 1) cap') rfl) (fun k hk e => by have := (ho'.lt k hk).1; omega)
    simpa using h1

end Go.Proofs.Ytkdcbidbciognaa

namespace Go.Proofs.Ytkdcbidbciognaa
set_option linter.unusedVariables false
set_option linter.unusedSimpArgs false
open Go.RowKit

end Go.Proofs.Ytkdcbidbciognaa

namespace Go.Proofs.Ytkdcbidbciognaa
set_option linter.unusedVariables false
set_option linter.unusedSimpArgs false
open Go.RowKit

theorem okNodes_all : ∀ (pre l : List Int), okNodes pre l = true → l.Nodup ∧ (∀ x ∈ l, x ∉ pre) ∧ ∀ x ∈ l, 0 ≤ x ∧ x ≤ 4
  | pre, [], _ => by simp
  | pre, y :: l, h => by
    simp only [okNodes, Bool.and_eq_true, Bool.not_eq_true', decide_eq_true_eq, decide_eq_false_iff_not] at h
    obtain ⟨⟨h1, h2⟩, h3⟩ := h
    obtain ⟨g1, g2, g3⟩ := okNodes_all (pre ++ [y]) l h3
    refine ⟨List.nodup_cons.2 ⟨fun hy => g2 y hy (by simp), g1⟩, ?_, ?_⟩
    · intro x hx
      rcases List.mem_cons.1 hx with rfl | hx
      · exact h2
      · exact fun hp => g2 x hx (by simp [hp])
    · intro x hx
      rcases List.mem_cons.1 hx with rfl | hx
      · exact h1
      · exact g3 x hx
theorem mayChain_all {ep : Int} {l : List Int} (h : mayChainB ep l = true) : (0 ≤ ep ∧ ep ≤ 1073741824) ∧ (1 ≤ l.length ∧ l.length ≤ 5) ∧ l.Nodup ∧ ∀ x ∈ l, 0 ≤ x ∧ x ≤ 4 := by
  simp only [mayChainB, Bool.and_eq_true, decide_eq_true_eq] at h
  obtain ⟨⟨h1, h2⟩, h3⟩ := h
  obtain ⟨g1, _, g3⟩ := okNodes_all [] l h3
  exact ⟨h1, h2, g1, g3⟩
theorem idx_get : ∀ (l : List Int) (k : Int) (j : Nat) (h : j < l.length), l.Nodup → idx l[j] l k = k + j
  | [], _, j, h, _ => by simp at h
  | y :: l, k, 0, _, _ => by simp [idx]
  | y :: l, k, j + 1, h, hn => by
    have hn' := List.nodup_cons.1 hn
    have hj : j < l.length := by simpa using h
    have hne : ¬ l[j] = y := fun e => hn'.1 (e ▸ List.getElem_mem hj)
    simp only [List.getElem_cons_succ]
    rw [idx, if_neg hne, idx_get l (k + 1) j hj hn'.2]
    omega
theorem idx_some {l : List Int} (hn : l.Nodup) {x : Int} (h : x ∈ l) : ∃ (j : Nat) (hj : j < l.length), idx x l 0 = j ∧ l[j] = x := by
  obtain ⟨j, hj, rfl⟩ := List.mem_iff_getElem.1 h
  exact ⟨j, hj, by rw [idx_get l 0 j hj hn]; omega, rfl⟩
theorem idx_no {l : List Int} {x : Int} (h : ¬ x ∈ l) : idx x l 0 = -1 := by
  rcases idx_lt x l 0 (by omega) with h1 | h1
  · have h2 : ¬ 0 ≤ idx x l 0 := fun h3 => h ((idx_ge x l 0 (by omega)).1 h3)
    omega
  · exact h1
/-- who stands above the one at place j -/
theorem above_at {l : List Int} (hn : l.Nodup) (j : Nat) (hj : j < l.length) : besideI l l[j] (-1) = if h : 0 < j then l[j - 1]'(by omega) else -1 := by
  have e := idx_get l 0 j hj hn
  unfold besideI
  rw [e]
  by_cases h : 0 < j
  · rw [if_neg (by omega), dif_pos h]
    have h1 : (0 + (j : Int) + -1).toNat = j - 1 := by omega
    rw [h1, List.getD_eq_getElem?_getD, List.getElem?_eq_getElem (by omega)]
    rfl
  · rw [if_pos (by omega), dif_neg h]
/-- what a chain that follows keeps: all but the last one were there, further and further on -/
theorem nextL_steps (la : List Int) : ∀ (r : List Int) (a c : Int), 0 ≤ a → nextL la r a c = true →
    (∀ q (h : q < r.length), q + 1 < r.length → a ≤ idx r[q] la 0) ∧ (∀ q (h : q < r.length), 0 ≤ idx r[q] la 0 → a ≤ idx r[q] la 0) ∧ (∀ q (h : q + 1 < r.length), 0 ≤ idx r[q + 1] la 0 → idx r[q] la 0 < idx r[q + 1] la 0)
  | [], _, _, _, _ => by simp
  | x :: r, a, c, ha, h => by
    unfold nextL at h
    split at h
    · rename_i h0
      obtain ⟨h0, rfl⟩ := h0
      refine ⟨?_, ?_, ?_⟩
      · intro q hq hq2; simp at hq2
      · intro q hq h2
        have : q = 0 := by simp at hq; exact hq
        subst this
        simp at h2
        omega
      · intro q hq; simp at hq
    · rename_i h0
      split at h
      · cases h
      · rename_i h1
        obtain ⟨g1, g2, g3⟩ := nextL_steps la r (idx x la 0 + 1) (c + 1) (by omega) h
        refine ⟨?_, ?_, ?_⟩
        · intro q hq hq2
          cases q with
          | zero => simp; omega
          | succ q => simp at hq hq2 ⊢; have := g1 q hq hq2; omega
        · intro q hq h2
          cases q with
          | zero => simp; omega
          | succ q => simp at hq h2 ⊢; have := g2 q hq h2; omega
        · intro q hq h2
          cases q with
          | zero => simp at h2 ⊢; have := g2 0 (by simpa using hq) h2; omega
          | succ q => simp at hq h2 ⊢; exact g3 q hq h2

theorem nextB_all {ea eb n : Int} {la lb : List Int} (h : nextB ea eb la lb n = true) : mayChainB ea la = true ∧ mayChainB eb lb = true ∧ la.any (badB n) = false ∧ lb.any (badB n) = false ∧ eb = ea + 1 ∧ nextL la lb 0 0 = true := by
  simp only [nextB, Bool.and_eq_true, Bool.not_eq_true', decide_eq_true_eq] at h
  obtain ⟨⟨⟨⟨⟨h1, h2⟩, h3⟩, h4⟩, h5⟩, h6⟩ := h
  exact ⟨h1, h2, h3, h4, h5, h6⟩
theorem nextB_mk {ea eb n : Int} {la lb : List Int} (h1 : mayChainB ea la = true) (h2 : mayChainB eb lb = true) (h3 : la.any (badB n) = false) (h4 : lb.any (badB n) = false) (h5 : eb = ea + 1) (h6 : nextL la lb 0 0 = true) : nextB ea eb la lb n = true := by
  subst h5; simp [nextB, h1, h2, h3, h4, h6]
end Go.Proofs.Ytkdcbidbciognaa

namespace Go.Proofs.Ytkdcbidbciognaa
set_option linter.unusedVariables false
set_option linter.unusedSimpArgs false
open Go.RowKit Go.ChangeShapes Go.WideShapes

/-- between two rounds: x stands in both, and it is the one from which to look on -/
def KpO (la lb : List Int) (node x last : Int) : Prop := x ∈ la ∧ x ∈ lb ∧ 0 ≤ x ∧ (last = -2 ∧ x = node ∨ 0 ≤ last ∧ last = x)
/-- in the inner loop: y stands m places above x, still behind z; or z was found -/
def KpI (la : List Int) (z x y : Int) (f : Bool) (m : Nat) : Prop := f = false → y ∈ la ∧ 0 ≤ y ∧ idx y la 0 = idx x la 0 - m ∧ idx z la 0 < idx y la 0
/-- all that is known of two chains that follow one another -/
structure Foll (la lb : List Int) : Prop where
  na : la.Nodup
  nb : lb.Nodup
  la5 : la.length ≤ 5
  pa : ∀ x ∈ la, 0 ≤ x ∧ x ≤ 4
  pb : ∀ x ∈ lb, 0 ≤ x ∧ x ≤ 4
  nx : nextL la lb 0 0 = true
theorem KpO.step {la lb : List Int} (F : Foll la lb) {node x last : Int} (h : KpO la lb node x last) :
    (besideI lb x (-1) = -1) ∨ (besideI lb x (-1) ∈ la ∧ besideI lb x (-1) ∈ lb ∧ 0 ≤ besideI lb x (-1) ∧ idx (besideI lb x (-1)) la 0 < idx x la 0) := by
  obtain ⟨h1, h2, h3, _⟩ := h
  obtain ⟨j, hj, e, rfl⟩ := idx_some F.nb h2
  obtain ⟨g1, g2, g3⟩ := nextL_steps la lb 0 0 (by omega) F.nx
  rw [above_at F.nb j hj]
  split
  · rename_i hp
    right
    have k1 := g1 (j - 1) (by omega) (by omega)
    have k2 := g3 (j - 1) (by omega)
    have ej : j - 1 + 1 = j := by omega
    have k3 := k2 (by simp only [ej]; exact (idx_ge _ la 0 (by omega)).2 h1)
    simp only [ej] at k3
    exact ⟨(idx_ge _ la 0 (by omega)).1 k1, List.getElem_mem _, (F.pb _ (List.getElem_mem _)).1, k3⟩
  · exact .inl rfl
theorem KpI.start {la : List Int} {z x : Int} (hx : x ∈ la) (h0 : 0 ≤ x) (h : idx z la 0 < idx x la 0) : KpI la z x x false 0 := fun _ => ⟨hx, h0, by omega, h⟩
theorem KpI.step {la lb : List Int} (F : Foll la lb) {z x y : Int} {m : Nat} (hz : z ∈ la) (h : KpI la z x y false m) (hne : ¬ besideI la y (-1) = z) : KpI la z x (besideI la y (-1)) false (m + 1) := by
  obtain ⟨h1, h2, h3, h4⟩ := h rfl
  obtain ⟨j, hj, e, rfl⟩ := idx_some F.na h1
  obtain ⟨i, hi, e2, rfl⟩ := idx_some F.na hz
  rw [above_at F.na j hj] at hne ⊢
  have hp : 0 < j := by omega
  rw [dif_pos hp] at hne ⊢
  have e3 := idx_get la 0 (j - 1) (by omega) F.na
  have hij : i ≠ j - 1 := fun e => by subst e; exact hne rfl
  exact fun _ => ⟨List.getElem_mem _, (F.pa _ (List.getElem_mem _)).1, by omega, by omega⟩
theorem KpI.fin {la lb : List Int} (F : Foll la lb) {z x y : Int} {f : Bool} {m : Nat} (hz : z ∈ la) (hx : x ∈ la) (h : KpI la z x y f m) (hm : 6 ≤ m ∨ y < 0) : f = true := by
  cases f
  · obtain ⟨h1, h2, h3, h4⟩ := h rfl
    obtain ⟨j, hj, e, rfl⟩ := idx_some F.na hx
    obtain ⟨i, hi, e2, rfl⟩ := idx_some F.na hz
    have := F.la5
    omega
  · rfl

end Go.Proofs.Ytkdcbidbciognaa

namespace Go.Proofs.Ytkdcbidbciognaa
set_option linter.unusedVariables false
set_option linter.unusedSimpArgs false
open Go.RowKit Go.ChangeShapes Go.WideShapes

theorem okNodes_mk : ∀ (pre l : List Int), l.Nodup → (∀ x ∈ l, x ∉ pre) → (∀ x ∈ l, 0 ≤ x ∧ x ≤ 4) → okNodes pre l = true
  | _, [], _, _, _ => rfl
  | pre, y :: l, h1, h2, h3 => by
    have hn := List.nodup_cons.1 h1
    unfold okNodes
    rw [decide_eq_true (h3 y (by simp)), decide_eq_false (h2 y (by simp)), okNodes_mk (pre ++ [y]) l hn.2 (fun x hx hp => ?_) (fun x hx => h3 x (by simp [hx]))]
    · rfl
    · rcases List.mem_append.1 hp with hp | hp
      · exact h2 x (by simp [hx]) hp
      · simp at hp; subst hp; exact hn.1 hx
theorem mayChain_mk {ep : Int} {l : List Int} (he : 0 ≤ ep ∧ ep ≤ 1073741824) (hl : 1 ≤ l.length ∧ l.length ≤ 5) (hn : l.Nodup) (hx : ∀ x ∈ l, 0 ≤ x ∧ x ≤ 4) : mayChainB ep l = true := by
  unfold mayChainB
  rw [decide_eq_true he, decide_eq_true hl, okNodes_mk [] l hn (by simp) hx]
  rfl
theorem leftL_may {ep : Int} {l gone : List Int} (h : mayChainB ep l = true) (he : ep < 1073741824) : chOk (ep + 1) (leftL l gone) = if leftL l gone = [] then noCh else (ep + 1, leftL l gone, 0) := by
  obtain ⟨h1, h2, h3, h4⟩ := mayChain_all h
  by_cases hn : leftL l gone = []
  · rw [if_pos hn, hn]
    simp [chOk, mayChainB]
  · rw [if_neg hn]
    unfold chOk
    rw [if_pos]
    refine mayChain_mk (by omega) ⟨List.length_pos_iff.2 hn, Nat.le_trans (leftL_len _ _) h2.2⟩ (h3.filter _) (fun x hx => h4 x ((List.mem_filter.1 hx).1))

theorem ints_yes (A B : Option Addr) (c1 c2 : Nat) (l : List Int) (w : World) (h1 : l.length ≤ 9223372036854775807) (hs : Sl i64 w A l) (hs2 : Sl i64 w B l) :
    Calls Try.prog 50 #[.slice A l.length c1, .slice B l.length c2] w fun e w' => e = .returned (.bool true) ∧ Ext w w' := by
  refine (ints_any A B c1 c2 l l w h1 h1 hs hs2).mono fun e w' ⟨he, h⟩ => ⟨by rw [he]; simp, h⟩

end Go.Proofs.Ytkdcbidbciognaa

namespace Go.Proofs.Ytkdcbidbciognaa
set_option linter.unusedVariables false
set_option linter.unusedSimpArgs false
open Go.RowKit

theorem nodup_bound : ∀ (k : Nat) (l : List Int), l.Nodup → (∀ x ∈ l, 0 ≤ x ∧ x < k) → l.length ≤ k
  | 0, l, _, h => by
    cases l with
    | nil => simp
    | cons x r => have := h x (by simp); omega
  | k + 1, l, hn, h => by
    by_cases hk : (k : Int) ∈ l
    · have h1 := nodup_bound k (l.erase (k : Int)) (hn.erase _) (fun x hx => by
        have h2 := (List.Nodup.mem_erase_iff hn).1 hx
        have h3 := h x h2.2
        have h4 := h2.1
        omega)
      rw [List.length_erase_of_mem hk] at h1
      omega
    · have h1 := nodup_bound k l hn (fun x hx => by
        have h3 := h x hx
        have h4 : x ≠ (k : Int) := fun e => hk (e ▸ hx)
        omega)
      omega

theorem sub_head {y : Int} {r : List Int} : ∀ (l : List Int), (y :: r).Sublist l → ∃ j, l[j]? = some y ∧ r.Sublist (l.drop (j + 1))
  | [], h => by cases h
  | z :: l, h => by
    rcases List.sublist_cons_iff.1 h with h1 | ⟨r', e, h1⟩
    · obtain ⟨j, h2, h3⟩ := sub_head l h1
      exact ⟨j + 1, by simpa using h2, by simpa using h3⟩
    · injection e with e1 e2
      subst e1; subst e2
      exact ⟨0, rfl, by simpa using h1⟩
theorem nextL_sub {la : List Int} (hn : la.Nodup) : ∀ (r : List Int) (a : Nat) (c : Int), 0 ≤ c → r.Sublist (la.drop a) → nextL la r a c = decide (0 < c + r.length)
  | [], a, c, hc, _ => by simp [nextL]
  | y :: r, a, c, hc, h => by
    obtain ⟨j, h1, h2⟩ := sub_head _ h
    rw [List.getElem?_drop] at h1
    obtain ⟨hj, rfl⟩ := List.getElem?_eq_some_iff.1 h1
    have e := idx_get la 0 (a + j) hj hn
    unfold nextL
    rw [e, if_neg (by omega), if_neg (by omega)]
    rw [List.drop_drop, show a + (j + 1) = a + j + 1 by omega] at h2
    have h3 := nextL_sub hn r (a + j + 1) (c + 1) (by omega) h2
    have e2 : (0 : Int) + ((a + j : Nat) : Int) + 1 = ((a + j + 1 : Nat) : Int) := by omega
    rw [e2, h3]
    rw [decide_eq_true (by omega), decide_eq_true (by simp; omega)]
theorem nextL_more {la : List Int} (hn : la.Nodup) {x : Int} (hx : ¬ x ∈ la) : ∀ (r : List Int) (a : Nat) (c : Int), 0 ≤ c → r.Sublist (la.drop a) → nextL la (r ++ [x]) a c = decide (0 < c + r.length)
  | [], a, c, hc, _ => by
    rw [List.nil_append, nextL, idx_no hx, if_pos ⟨by omega, rfl⟩]
    simp [nextL]
  | y :: r, a, c, hc, h => by
    obtain ⟨j, h1, h2⟩ := sub_head _ h
    rw [List.getElem?_drop] at h1
    obtain ⟨hj, rfl⟩ := List.getElem?_eq_some_iff.1 h1
    have e := idx_get la 0 (a + j) hj hn
    rw [List.cons_append]
    unfold nextL
    rw [e, if_neg (by omega), if_neg (by omega)]
    rw [List.drop_drop, show a + (j + 1) = a + j + 1 by omega] at h2
    have h3 := nextL_more hn hx r (a + j + 1) (c + 1) (by omega) h2
    have e2 : (0 : Int) + ((a + j : Nat) : Int) + 1 = ((a + j + 1 : Nat) : Int) := by omega
    rw [e2, h3]
    rw [decide_eq_true (by omega), decide_eq_true (by simp; omega)]

theorem badB_none {n : Int} {l : List Int} (h : ∀ x ∈ l, 0 ≤ x ∧ x < n) : l.any (badB n) = false := by
  rw [List.any_eq_false]
  intro x hx
  have := h x hx
  simp [badB]
  omega
/-- what is left follows -/
theorem next_left {ep n : Int} {l gone : List Int} (h : mayChainB ep l = true) (he : ep < 1073741824) (hb : ∀ x ∈ l, 0 ≤ x ∧ x < n) (hne : leftL l gone ≠ []) :
    nextB ep (ep + 1) l (leftL l gone) n = true := by
  obtain ⟨h1, h2, h3, h4⟩ := mayChain_all h
  have hp := List.length_pos_iff.2 hne
  refine nextB_mk h (mayChain_mk (by omega) ⟨hp, Nat.le_trans (leftL_len _ _) h2.2⟩ (h3.filter _) (fun x hx => h4 x (List.mem_filter.1 hx).1)) (badB_none hb) (badB_none fun x hx => hb x (List.mem_filter.1 hx).1) rfl ?_
  have := nextL_sub h3 (leftL l gone) 0 0 (by omega) (by rw [List.drop_zero]; exact List.filter_sublist)
  rw [show ((0 : Nat) : Int) = 0 from rfl] at this
  rw [this, decide_eq_true (by omega)]
theorem may_more {ep : Int} {l : List Int} {x : Int} (h : mayChainB ep l = true) (he : ep < 1073741824) (hx : 0 ≤ x ∧ x ≤ 4) (hn : ¬ x ∈ l) : mayChainB (ep + 1) (l ++ [x]) = true := by
  obtain ⟨h1, h2, h3, h4⟩ := mayChain_all h
  have hnd : (l ++ [x]).Nodup := by
    rw [List.nodup_append]
    refine ⟨h3, by simp, fun a ha b hb e => ?_⟩
    simp at hb
    subst hb; subst e
    exact hn ha
  have hall : ∀ y ∈ l ++ [x], 0 ≤ y ∧ y ≤ 4 := fun y hy => by
    rcases List.mem_append.1 hy with hy | hy
    · exact h4 y hy
    · simp at hy; subst hy; exact hx
  exact mayChain_mk (by omega) ⟨by simp, nodup_bound 5 _ hnd (fun y hy => by have := hall y hy; omega)⟩ hnd hall
theorem may_twice {ep : Int} {l : List Int} {x : Int} (hx : x ∈ l) : mayChainB ep (l ++ [x]) = false := by
  cases hm : mayChainB ep (l ++ [x])
  · rfl
  · obtain ⟨_, _, h3, _⟩ := mayChain_all hm
    rw [List.nodup_append] at h3
    exact absurd rfl (h3.2.2 x hx x (by simp))
/-- one more follows -/
theorem next_more {ep n : Int} {l : List Int} {x : Int} (h : mayChainB ep l = true) (hm : mayChainB (ep + 1) (l ++ [x]) = true) (hb : ∀ x ∈ l, 0 ≤ x ∧ x < n) (hx : 0 ≤ x ∧ x < n) :
    nextB ep (ep + 1) l (l ++ [x]) n = true := by
  obtain ⟨h1, h2, h3, h4⟩ := mayChain_all h
  have hn : ¬ x ∈ l := fun hx => by rw [may_twice hx] at hm; cases hm
  refine nextB_mk h hm (badB_none hb) (badB_none fun y hy => ?_) rfl ?_
  · rcases List.mem_append.1 hy with hy | hy
    · exact hb y hy
    · simp at hy; subst hy; exact hx
  · have := nextL_more h3 hn l 0 0 (by omega) (by simp)
    rw [show ((0 : Nat) : Int) = 0 from rfl] at this
    rw [this, decide_eq_true (by omega)]
theorem next_back {ep ep' n : Int} {la lb : List Int} (h : ¬ ep' = ep + 1) : nextB ep ep' la lb n = false := by
  simp [nextB, h]
/-- without one that is in it one less is left -/
theorem left_one {l : List Int} {x : Int} (hn : l.Nodup) (hx : x ∈ l) : (leftL l [x]).length + 1 = l.length := by
  have h1 : leftL l [x] = l.erase x := by
    rw [List.Nodup.erase_eq_filter hn]
    unfold leftL
    congr 1
    funext y
    rw [Bool.eq_iff_iff]
    simp [bne]
  rw [h1, List.length_erase_of_mem hx]
  have := List.length_pos_of_mem hx
  omega
theorem tail_more (l : List Int) (x : Int) : tailI (l ++ [x]) = x := by simp [tailI]
end Go.Proofs.Ytkdcbidbciognaa

namespace Go.Proofs.Ytkdcbidbciognaa
set_option linter.unusedVariables false
set_option linter.unusedSimpArgs false
open Go.RowKit

theorem all_fits {l : List Int} (n : Int) (h : ∀ x ∈ l, 0 ≤ x ∧ x ≤ 4) : (l.all fun y => decide (y < n)) = !l.any (badB n) := by
  induction l with
  | nil => rfl
  | cons x r ih =>
    have hx := h x (by simp)
    rw [List.all_cons, List.any_cons, ih (fun y hy => h y (by simp [hy]))]
    have e : badB n x = !decide (x < n) := by
      unfold badB
      by_cases hn : x < n
      · rw [decide_eq_true hn]; simp; omega
      · rw [decide_eq_false hn]; simp; omega
    rw [e]
    cases decide (x < n) <;> simp

set_option maxRecDepth 4000 in
set_option maxHeartbeats 8000000 in
theorem follows_any (ea eb n : Int) (A B : Option Addr) (c1 c2 : Nat) (la lb : List Int) (w : World) (h1 : la.length ≤ 9223372036854775807) (h2 : lb.length ≤ 9223372036854775807) (hs : Sl i64 w A la) (hs2 : Sl i64 w B lb) :
    Calls Try.prog 35 #[chV ea A la.length c1, chV eb B lb.length c2, .int .i64 n] w fun e w' => e = .returned (.bool (nextB ea eb la lb n)) ∧ Ext w w' := by
  refine hide_post fun D hD => ?_
  generalize hr : nextB ea eb la lb n = r at *
  obtain ⟨w0, hw0⟩ : ∃ w0, w0 = (w.alloc (.cells #[.int .i64 ea, .slice A la.length c1] 26)).alloc (.cells #[.int .i64 eb, .slice B lb.length c2] 26) := ⟨_, rfl⟩
  have HW0 := Lib.hid hw0
  have hb0 : Ext w w0 := by rw [hw0]; exact Ext.trans (ext_al _ _) (ext_al _ _)
  have KA : Blk w0 w.heap.size 26 #[.int .i64 ea, .slice A la.length c1] := by rw [hw0]; exact (Blk.new w _ _).alloc _
  have KB : Blk w0 (w.heap.size + 1) 26 #[.int .i64 eb, .slice B lb.length c2] := by rw [hw0]; exact Blk.new' _ _ _ (w.heap.size + 1) (by simp)
  have HMA0 : Hid (∀ b, mayChainB ea la = b → ∀ V, Ext w0 V → Calls Try.prog 14 #[.agg #[.int .i64 ea, .slice A la.length c1]] V fun e w' => e = .returned (.bool b) ∧ Ext V w') := fun b hb V hV => by rw [← hb]; exact refMayChain_any ea A c1 la V h1 (hs.stay (Ext.trans hb0 hV))
  have HMB0 : Hid (∀ b, mayChainB eb lb = b → ∀ V, Ext w0 V → Calls Try.prog 14 #[.agg #[.int .i64 eb, .slice B lb.length c2]] V fun e w' => e = .returned (.bool b) ∧ Ext V w') := fun b hb V hV => by rw [← hb]; exact refMayChain_any eb B c2 lb V h2 (hs2.stay (Ext.trans hb0 hV))
  have HFA0 : Hid (mayChainB ea la = true → ∀ b, (!la.any (badB n)) = b → ∀ V, Ext w0 V → Calls Try.prog 69 #[.agg #[.int .i64 ea, .slice A la.length c1], .int .i64 n] V fun e w' => e = .returned (.bool b) ∧ Ext V w') := fun hm b hb V hV => by rw [← hb, ← all_fits n (mayChain_all hm).2.2.2]; exact belowRef_any ea n A c1 la V h1 (hs.stay (Ext.trans hb0 hV))
  have HFB0 : Hid (mayChainB eb lb = true → ∀ b, (!lb.any (badB n)) = b → ∀ V, Ext w0 V → Calls Try.prog 69 #[.agg #[.int .i64 eb, .slice B lb.length c2], .int .i64 n] V fun e w' => e = .returned (.bool b) ∧ Ext V w') := fun hm b hb V hV => by rw [← hb, ← all_fits n (mayChain_all hm).2.2.2]; exact belowRef_any eb n B c2 lb V h2 (hs2.stay (Ext.trans hb0 hV))
  have HIX : Hid (∀ V x, Ext w0 V → Calls Try.prog 70 #[.agg #[.int .i64 ea, .slice A la.length c1], .int .i64 x] V fun e w' => e = .returned (.int .i64 (idx x la 0)) ∧ Ext V w') := fun V x hV => place_any ea x A c1 la V h1 (hs.stay (Ext.trans hb0 hV))
  have HSB : Hid (∀ V, Ext w0 V → Sl i64 V B lb) := fun V hV => hs2.stay (Ext.trans hb0 hV)
  have HI : Hid (∀ x, -1 ≤ idx x la 0 ∧ idx x la 0 < la.length) := fun x => by have := idx_lt x la 0 (by omega); omega
  have HE0 := Lib.hid hb0
  have fa0 : ∀ V, Ext w0 V → V.cell? ⟨w.heap.size, 0, none⟩ = some (.int .i64 ea) := fun V h => (KA.stay h).cell 0
  have fa1 : ∀ V, Ext w0 V → V.cell? ⟨w.heap.size, 1, none⟩ = some (.slice A la.length c1) := fun V h => (KA.stay h).cell 1
  have fb0 : ∀ V, Ext w0 V → V.cell? ⟨w.heap.size + 1, 0, none⟩ = some (.int .i64 eb) := fun V h => (KB.stay h).cell 0
  have fb1 : ∀ V, Ext w0 V → V.cell? ⟨w.heap.size + 1, 1, none⟩ = some (.slice B lb.length c2) := fun V h => (KB.stay h).cell 1
  clear hs hs2 hw0 hb0 KA KB
  unfold nextB at hr
  have HR := Lib.hid hr
  clear hr
  cases g0 : mayChainB ea la
  · have HR' : Hid (r = false) := by (show _ = _); rw [← HR.out, g0]; simp
    have HMA := Lib.hid (HMA0.out false g0)
    clear g0
    go_enter Try.func35, Try.ntmps35
    go_wp2_with (first
      | (go_at_call 14; rw [← HW0.out]; (with_reducible refine (HMA.out _ (Ext.refl _)).mono ?_); rintro e w1 ⟨rfl, hx⟩; have h1 : Ext w0 w1 := hx; clear hx))
    try go_ret
    exact hD.out _ _ ⟨ret_bool HR'.out.symm, Ext.trans HE0.out h1⟩
  have HMA := Lib.hid (HMA0.out true g0)
  have HFA1 := Lib.hid (HFA0.out g0)
  obtain ⟨⟨e0, e1⟩, ⟨n0, n1⟩, _, _⟩ := mayChain_all g0
  have G0 := Lib.hid g0
  clear g0
  cases g1 : mayChainB eb lb
  · have HR' : Hid (r = false) := by (show _ = _); rw [← HR.out, g1]; simp
    have HMB := Lib.hid (HMB0.out false g1)
    clear g1
    go_enter Try.func35, Try.ntmps35
    go_wp2_with (first
      | (go_at_call 14; rw [← HW0.out]; (with_reducible refine (HMA.out _ (Ext.refl _)).mono ?_); rintro e w1 ⟨rfl, hx⟩; have h1 : Ext w0 w1 := hx; clear hx)
      | (go_at_call 14; (with_reducible refine (HMB.out _ h1).mono ?_); rintro e w2 ⟨rfl, hx⟩; have h2 : Ext w0 w2 := Ext.trans h1 hx; clear hx))
    try go_ret
    exact hD.out _ _ ⟨ret_bool HR'.out.symm, Ext.trans HE0.out h2⟩
  have HMB := Lib.hid (HMB0.out true g1)
  have HFB1 := Lib.hid (HFB0.out g1)
  obtain ⟨⟨e2, e3⟩, ⟨n2, n3⟩, _, _⟩ := mayChain_all g1
  have G1 := Lib.hid g1
  clear g1
  cases g2 : (!la.any (badB n))
  · have HR' : Hid (r = false) := by (show _ = _); rw [← HR.out, g2]; simp
    have HFA := Lib.hid (HFA1.out false g2)
    clear g2
    go_enter Try.func35, Try.ntmps35
    go_wp2_with (first
      | (go_at_call 14; rw [← HW0.out]; (with_reducible refine (HMA.out _ (Ext.refl _)).mono ?_); rintro e w1 ⟨rfl, hx⟩; have h1 : Ext w0 w1 := hx; clear hx)
      | (go_at_call 14; (with_reducible refine (HMB.out _ h1).mono ?_); rintro e w2 ⟨rfl, hx⟩; have h2 : Ext w0 w2 := Ext.trans h1 hx; clear hx)
      | (go_at_call 69; (with_reducible refine (HFA.out _ h2).mono ?_); rintro e w3 ⟨rfl, hx⟩; have h3 : Ext w0 w3 := Ext.trans h2 hx; clear hx))
    try go_ret
    exact hD.out _ _ ⟨ret_bool HR'.out.symm, Ext.trans HE0.out h3⟩
  have HFA := Lib.hid (HFA1.out true g2)
  have G2 := Lib.hid g2
  clear g2
  cases g3 : (!lb.any (badB n))
  · have HR' : Hid (r = false) := by (show _ = _); rw [← HR.out, g3]; simp
    have HFB := Lib.hid (HFB1.out false g3)
    clear g3
    go_enter Try.func35, Try.ntmps35
    go_wp2_with (first
      | (go_at_call 14; rw [← HW0.out]; (with_reducible refine (HMA.out _ (Ext.refl _)).mono ?_); rintro e w1 ⟨rfl, hx⟩; have h1 : Ext w0 w1 := hx; clear hx)
      | (go_at_call 14; (with_reducible refine (HMB.out _ h1).mono ?_); rintro e w2 ⟨rfl, hx⟩; have h2 : Ext w0 w2 := Ext.trans h1 hx; clear hx)
      | (go_at_call 69; (with_reducible refine (HFA.out _ h2).mono ?_); rintro e w3 ⟨rfl, hx⟩; have h3 : Ext w0 w3 := Ext.trans h2 hx; clear hx)
      | (go_at_call 69; (with_reducible refine (HFB.out _ h3).mono ?_); rintro e w4 ⟨rfl, hx⟩; have h4 : Ext w0 w4 := Ext.trans h3 hx; clear hx))
    try go_ret
    exact hD.out _ _ ⟨ret_bool HR'.out.symm, Ext.trans HE0.out h4⟩
  have HFB := Lib.hid (HFB1.out true g3)
  have G3 := Lib.hid g3
  clear g3
  generalize hna : la.length = na at *
  generalize hnb : lb.length = nb at *
  have HNA := Lib.hid hna
  have HNB := Lib.hid hnb
  clear hna hnb
  by_cases hep : eb = ea + 1
  case neg =>
    have HR' : Hid (r = false) := by (show _ = _); rw [← HR.out]; simp [hep]
    go_enter Try.func35, Try.ntmps35
    go_wp2_with (first
      | (go_at_call 14; rw [← HW0.out]; (with_reducible refine (HMA.out _ (Ext.refl _)).mono ?_); rintro e w1 ⟨rfl, hx⟩; have h1 : Ext w0 w1 := hx; clear hx)
      | (go_at_call 14; (with_reducible refine (HMB.out _ h1).mono ?_); rintro e w2 ⟨rfl, hx⟩; have h2 : Ext w0 w2 := Ext.trans h1 hx; clear hx)
      | (go_at_call 69; (with_reducible refine (HFA.out _ h2).mono ?_); rintro e w3 ⟨rfl, hx⟩; have h3 : Ext w0 w3 := Ext.trans h2 hx; clear hx)
      | (go_at_call 69; (with_reducible refine (HFB.out _ h3).mono ?_); rintro e w4 ⟨rfl, hx⟩; have h4 : Ext w0 w4 := Ext.trans h3 hx; clear hx))
    try go_ret
    exact hD.out _ _ ⟨ret_bool HR'.out.symm, Ext.trans HE0.out h4⟩
  have HR' : Hid (r = nextL la lb 0 0) := by (show _ = _); rw [← HR.out, G0.out, G1.out, G2.out, G3.out, decide_eq_true hep]; rfl
  clear HR
  subst hep
  go_enter Try.func35, Try.ntmps35
  go_wp2_with (first
      | (go_at_call 14; rw [← HW0.out]; (with_reducible refine (HMA.out _ (Ext.refl _)).mono ?_); rintro e w1 ⟨rfl, hx⟩; have h1 : Ext w0 w1 := hx; clear hx)
      | (go_at_call 14; (with_reducible refine (HMB.out _ h1).mono ?_); rintro e w2 ⟨rfl, hx⟩; have h2 : Ext w0 w2 := Ext.trans h1 hx; clear hx)
      | (go_at_call 69; (with_reducible refine (HFA.out _ h2).mono ?_); rintro e w3 ⟨rfl, hx⟩; have h3 : Ext w0 w3 := Ext.trans h2 hx; clear hx)
      | (go_at_call 69; (with_reducible refine (HFB.out _ h3).mono ?_); rintro e w4 ⟨rfl, hx⟩; have h4 : Ext w0 w4 := Ext.trans h3 hx; clear hx))
  go_loopw [7, 8, 9] (fun a c i wr => ∃ (k : Nat) (p q : Int), k ≤ nb ∧ a = .int .i64 p ∧ c = .int .i64 q ∧ i = .int .i64 k ∧ -1 ≤ p ∧ p ≤ na ∧ 0 ≤ q ∧ q ≤ k ∧ Hid (r = nextL la (lb.drop k) (p + 1) q) ∧ Ext w0 wr) (fun _ _ i _ => nb - (intOf i).toNat)
  case atStart => exact ⟨0, -1, 0, Nat.zero_le _, rfl, rfl, rfl, by omega, by omega, by omega, by omega, HR'.out, h4⟩
  case round =>
    obtain ⟨k, p, q, hk, rfl, rfl, rfl, p0, p1, q0, q1, Hi, hr⟩ := hrel
    clear h1 h2 h3 h4
    by_cases hlt : k < nb
    · obtain ⟨b9, o9, rfl, hcell⟩ := (HSB.out _ hr).at_ (k := k) (by rw [HNB.out]; exact hlt)
      have hd : lb.drop k = lb[k]'(by rw [HNB.out]; exact hlt) :: lb.drop (k + 1) := List.drop_eq_getElem_cons _
      have Hd := Lib.hid hd
      clear hd
      generalize lb[k]'(by rw [HNB.out]; exact hlt) = y at *
      unfold i64 at hcell
      obtain ⟨i0, i1⟩ := HI.out y
      obtain ⟨v, hv⟩ : ∃ v, idx y la 0 = v := ⟨_, rfl⟩
      have HX : Hid (∀ V, Ext wr V → Calls Try.prog 70 #[.agg #[.int .i64 ea, .slice A na c1], .int .i64 y] V fun e w' => e = .returned (.int .i64 v) ∧ Ext V w') := fun V h => by rw [← hv]; exact HIX.out V y (Ext.trans hr h)
      rw [hv] at i0 i1
      have HV := Lib.hid hv
      clear hv
      have hdn : lb.drop (k + 1) = [] ↔ nb ≤ k + 1 := by rw [List.drop_eq_nil_iff, HNB.out]
      have HDN := Lib.hid hdn
      clear hdn
      have m0 : (0 : Int) ≤ (k : Int) := by omega
      have m1 : (k : Int) < (nb : Int) := by omega
      have r0 : ∀ W, Ext wr W → W.cell? ⟨w.heap.size, 0, none⟩ = some (.int .i64 ea) := fun W h => fa0 W (Ext.trans hr h)
      have r1 : ∀ W, Ext wr W → W.cell? ⟨w.heap.size, 1, none⟩ = some (.slice A na c1) := fun W h => fa1 W (Ext.trans hr h)
      have r2 : ∀ W, Ext wr W → W.cell? ⟨w.heap.size + 1, 0, none⟩ = some (.int .i64 (ea + 1)) := fun W h => fb0 W (Ext.trans hr h)
      have r3 : ∀ W, Ext wr W → W.cell? ⟨w.heap.size + 1, 1, none⟩ = some (.slice (some ⟨b9, o9, none⟩) nb c2) := fun W h => fb1 W (Ext.trans hr h)
      have r4 : ∀ W, Ext wr W → W.cell? ⟨b9, o9 + k, none⟩ = some (.int .i64 y) := fun W h => cell_stay h hcell
      have HE9 : Hid (Ext wr wr) := Ext.refl _
      have HRR := Lib.hid hr
      have s3 := fb1 wr hr
      go_wp2_with fail
      clear s3 hcell fa0 fa1 fb0 fb1 hr
      refine ext_begin (by kernel_rfl) ?_
      have HE9d := Lib.hid (Ext.drewR HE9.out)
      refine ext_take (i := 0) (v := ?_) rfl (by kernel_rfl) (by kernel_rfl) (by kernel_rfl) (fun _ _ _ h => h) (by rfl) ?_ ?_
      rotate_left
      · intro W hW; have hW0 := Ext.trans HE9d.out hW; clear hW; go_simp <;> with_reducible rfl
      try simp only [Act.put, List.setIfInBounds_toArray, List.set_cons_zero, List.set_cons_succ]
      refine ext_take (i := 1) (v := ?_) rfl (by kernel_rfl) (by kernel_rfl) (by kernel_rfl) (fun _ _ _ h => h) (by rfl) ?_ ?_
      rotate_left
      · intro W hW; have hW0 := Ext.trans HE9d.out hW; clear hW; go_simp <;> with_reducible rfl
      try simp only [Act.put, List.setIfInBounds_toArray, List.set_cons_zero, List.set_cons_succ]
      refine ext_take (i := 2) (v := ?_) rfl (by kernel_rfl) (by kernel_rfl) (by kernel_rfl) (fun _ _ _ h => h) (by rfl) ?_ ?_
      rotate_left
      · intro W hW; have hW0 := Ext.trans HE9d.out hW; clear hW; go_simp <;> with_reducible rfl
      try simp only [Act.put, List.setIfInBounds_toArray, List.set_cons_zero, List.set_cons_succ]
      refine ext_take (i := 3) (v := ?_) rfl (by kernel_rfl) (by kernel_rfl) (by kernel_rfl) (fun _ _ _ h => h) (by rfl) ?_ ?_
      rotate_left
      · intro W hW; have hW0 := Ext.trans HE9d.out hW; clear hW; go_simp <;> with_reducible rfl
      try simp only [Act.put, List.setIfInBounds_toArray, List.set_cons_zero, List.set_cons_succ]
      refine ext_take (i := 4) (v := ?_) rfl (by kernel_rfl) (by kernel_rfl) (by kernel_rfl) (fun _ _ _ h => h) (by rfl) ?_ ?_
      rotate_left
      · intro W hW; have hW0 := Ext.trans HE9d.out hW; clear hW; go_simp <;> with_reducible rfl
      try simp only [Act.put, List.setIfInBounds_toArray, List.set_cons_zero, List.set_cons_succ]
      refine ext_take (i := 5) (v := ?_) rfl (by kernel_rfl) (by kernel_rfl) (by kernel_rfl) (fun _ _ _ h => h) (by rfl) ?_ ?_
      rotate_left
      · intro W hW; have hW0 := Ext.trans HE9d.out hW; clear hW; go_simp <;> with_reducible rfl
      try simp only [Act.put, List.setIfInBounds_toArray, List.set_cons_zero, List.set_cons_succ]
      refine ext_call (i := 6) rfl (by kernel_rfl) (by rfl) (fun K' hK => ?_)
      go_simp
      (go_at_call 70; (with_reducible refine (HX.out _ HE9d.out).mono ?_); rintro e w7 ⟨rfl, hx⟩; refine hK _ _ hx ?_; clear hK)
      have Ew7 := Lib.hid (Ext.trans HE9d.out hx)
      clear hx
      try simp only [Act.put, List.setIfInBounds_toArray, List.set_cons_zero, List.set_cons_succ]
      refine ext_take (i := 7) (v := ?_) rfl (by kernel_rfl) (by kernel_rfl) (by kernel_rfl) (fun _ _ _ h => h) (by rfl) ?_ ?_
      rotate_left
      · intro W hW; have hW0 := Ext.trans Ew7.out hW; clear hW; go_simp <;> with_reducible rfl
      try simp only [Act.put, List.setIfInBounds_toArray, List.set_cons_zero, List.set_cons_succ]
      refine wpAnyH_done (by kernel_rfl) ?_ _
      have s3 := r3 w7 Ew7.out
      have h7 : Ext w0 w7 := Ext.trans HRR.out Ew7.out
      clear r0 r1 r2 r3 r4
      by_cases g0 : v < 0
      · by_cases g1 : (k : Int) = (nb : Int) - 1
        · have HE : Hid (r = nextL la (lb.drop (k + 1)) (p + 1) q) := by (show _ = _); rw [Hi.out, Hd.out, nextL, HV.out, if_pos ⟨g0, HDN.out.2 (by omega)⟩]
          have g3 : (nb : Int) - 1 = (k : Int) := by omega
          clear g1
          go_wp2
          go_roundw
          case rel => exact ⟨k + 1, p, q, by omega, rfl, rfl, by go_num, p0, p1, q0, by omega, HE, h7⟩
          case measure => simp [intOf]; omega
        · have HE : Hid (r = false) := by (show _ = _); rw [Hi.out, Hd.out, nextL, HV.out, if_neg (fun h => g1 (by have := HDN.out.1 h.2; omega)), if_pos (by omega)]
          have g2 : v ≤ p := by omega
          go_wp2
          try go_ret
          exact hD.out _ _ ⟨ret_bool HE.out.symm, Ext.trans HE0.out h7⟩
      · by_cases g2 : v ≤ p
        · have HE : Hid (r = false) := by (show _ = _); rw [Hi.out, Hd.out, nextL, HV.out, if_neg (fun h => g0 h.1), if_pos (by omega)]
          go_wp2
          try go_ret
          exact hD.out _ _ ⟨ret_bool HE.out.symm, Ext.trans HE0.out h7⟩
        · have HE : Hid (r = nextL la (lb.drop (k + 1)) (v + 1) (q + 1)) := by (show _ = _); rw [Hi.out, Hd.out, nextL, HV.out, if_neg (fun h => g0 h.1), if_neg (by omega)]
          go_wp2
          go_roundw
          case rel => exact ⟨k + 1, v, q + 1, by omega, rfl, by go_num, by go_num, by omega, by omega, by omega, by omega, HE, h7⟩
          case measure => simp [intOf]; omega
    · have HE : Hid (r = decide (0 < q)) := by (show _ = _); rw [Hi.out, List.drop_of_length_le (by have := HNB.out; omega)]; rfl
      have s3 := fb1 wr hr
      go_wp2_with fail
      all_goals try go_ret
      all_goals exact hD.out _ _ ⟨ret_bool (by rw [HE.out]), Ext.trans HE0.out hr⟩
end Go.Proofs.Ytkdcbidbciognaa

namespace Go.Proofs.Ytkdcbidbciognaa
set_option linter.unusedVariables false
set_option linter.unusedSimpArgs false
open Go.RowKit

/-- a ballot as a value -/
abbrev balV (r n : Int) : Value := .agg #[.int .i64 r, .int .i64 n]
/-- which ballots may be -/
def mayBal (r n : Int) : Bool := decide (0 ≤ r ∧ r ≤ 1099511627776 ∧ 0 ≤ n ∧ n < 5)
/-- two ballots held against each other -/
def cmpBal (r n r' n' : Int) : Int := if r < r' then -1 else if r' < r then 1 else if n < n' then -1 else if n' < n then 1 else 0
/-- the first that is not nought -/
def orI : List Int → Int
  | [] => 0
  | x :: l => if x = 0 then orI l else x
def cmpI (a b : Int) : Int := if a < b then -1 else if b < a then 1 else 0

theorem orI_cmp (r n r' n' : Int) : orI [cmpI r r', cmpI n n'] = cmpBal r n r' n' := by
  unfold cmpBal cmpI orI orI orI
  repeat' split
  all_goals omega

theorem mayBal_any (r n : Int) (w : World) : Calls Try.prog 44 #[.agg #[.int .i64 r, .int .i64 n]] w fun e w' => e = .returned (.bool (mayBal r n)) ∧ Below w.heap.size w w' := by
  generalize hr : mayBal r n = b
  have HR := Lib.hid hr
  clear hr
  unfold mayBal at HR
  have HB : Hid (∀ o, Below w.heap.size w (w.alloc o)) := fun o => (Below.refl _ _).alloc (Nat.le_refl _) _
  by_cases h1 : 0 ≤ r
  case neg =>
    go_enter Try.func44, Try.ntmps44
    go_wp2
    go_ret
    exact ⟨ret_bool (by rw [← HR.out]; exact dec_false (by omega)), HB.out _⟩
  by_cases h2 : r ≤ 1099511627776
  case neg =>
    go_enter Try.func44, Try.ntmps44
    go_wp2
    go_ret
    exact ⟨ret_bool (by rw [← HR.out]; exact dec_false (by omega)), HB.out _⟩
  by_cases h3 : 0 ≤ n
  case neg =>
    go_enter Try.func44, Try.ntmps44
    go_wp2
    go_ret
    exact ⟨ret_bool (by rw [← HR.out]; exact dec_false (by omega)), HB.out _⟩
  go_enter Try.func44, Try.ntmps44
  go_wp2
  go_ret
  exact ⟨ret_bool (by rw [← HR.out]; exact dec_iff (by omega)), HB.out _⟩

theorem refMayBal_any (r n : Int) (w : World) : Calls Try.prog 13 #[.agg #[.int .i64 r, .int .i64 n]] w fun e w' => e = .returned (.bool (mayBal r n)) ∧ Below w.heap.size w w' := by
  generalize hr : mayBal r n = b
  have HR := Lib.hid hr
  clear hr
  unfold mayBal at HR
  have HB : Hid (∀ o, Below w.heap.size w (w.alloc o)) := fun o => (Below.refl _ _).alloc (Nat.le_refl _) _
  by_cases h1 : 0 ≤ r
  case neg =>
    go_enter Try.func13, Try.ntmps13
    go_wp2
    go_ret
    exact ⟨ret_bool (by rw [← HR.out]; exact dec_false (by omega)), HB.out _⟩
  by_cases h2 : r ≤ 1099511627776
  case neg =>
    go_enter Try.func13, Try.ntmps13
    go_wp2
    go_ret
    exact ⟨ret_bool (by rw [← HR.out]; exact dec_false (by omega)), HB.out _⟩
  by_cases h3 : 0 ≤ n
  case neg =>
    go_enter Try.func13, Try.ntmps13
    go_wp2
    go_ret
    exact ⟨ret_bool (by rw [← HR.out]; exact dec_false (by omega)), HB.out _⟩
  go_enter Try.func13, Try.ntmps13
  go_wp2
  go_ret
  exact ⟨ret_bool (by rw [← HR.out]; exact dec_iff (by omega)), HB.out _⟩

theorem compare_any (a b : Int) (w : World) : Calls Try.prog 86 #[.int .i64 a, .int .i64 b] w fun e w' => e = .returned (.int .i64 (cmpI a b)) ∧ w = w' := by
  generalize hr : cmpI a b = c
  have HR := Lib.hid hr
  clear hr
  unfold cmpI at HR
  have hcs : a < b ∨ (¬ a < b ∧ b < a) ∨ (¬ a < b ∧ ¬ b < a) := by omega
  rcases hcs with h1 | ⟨h1, h2⟩ | ⟨h1, h2⟩
  all_goals
    go_enter Try.func86, Try.ntmps86
    go_wp2
    go_ret
    exact ⟨ret_int (by rw [← HR.out]; first | rw [if_pos (by omega)] | rw [if_neg (by omega), if_pos (by omega)] | rw [if_neg (by omega), if_neg (by omega)]), rfl⟩

theorem or_any (A : Option Addr) (cap : Nat) (l : List Int) (w : World) (hbig : l.length ≤ 9223372036854775807) (hs : Sl i64 w A l) :
    Calls Try.prog 85 #[.slice A l.length cap] w fun e w' => e = .returned (.int .i64 (orI l)) ∧ w = w' := by
  obtain ⟨n, hn⟩ : ∃ n, n = l.length := ⟨_, rfl⟩
  rw [← hn] at hbig ⊢
  have HN := Lib.hid hn
  have HS := Lib.hid hs
  clear hn hs
  go_enter Try.func85, Try.ntmps85
  go_wp2
  go_loop [8] (fun i => ∃ k : Nat, k ≤ n ∧ i = .int .i64 k ∧ Hid (orI l = orI (l.drop k))) (fun i => n - (intOf i).toNat)
  case atStart => exact ⟨0, Nat.zero_le _, rfl, rfl⟩
  case round =>
    obtain ⟨k, hk, rfl, Hi⟩ := hrel
    by_cases hlt : k < n
    · obtain ⟨b, o, rfl, hcell⟩ := HS.out.at_ (k := k) (by rw [← HN.out]; exact hlt)
      have hd : l.drop k = l[k]'(by rw [← HN.out]; exact hlt) :: l.drop (k + 1) := List.drop_eq_getElem_cons _
      have Hd := Lib.hid hd
      clear hd
      generalize l[k]'(by rw [← HN.out]; exact hlt) = y at *
      unfold i64 at hcell
      by_cases hy : y = 0
      · have HE : Hid (orI l = orI (l.drop (k + 1))) := by show _ = _; rw [Hi.out, Hd.out, orI, if_pos hy]
        subst hy
        go_wp2
        go_round
        case rel => exact ⟨k + 1, by omega, by go_num, HE⟩
        case measure => simp [intOf]; omega
      · have HE : Hid (y = orI l) := by show _ = _; rw [Hi.out, Hd.out, orI, if_neg hy]
        go_wp2
        go_ret
        exact ⟨ret_int HE.out, rfl⟩
    · have HE : Hid (0 = orI l) := by show _ = _; rw [Hi.out, List.drop_of_length_le (by have := HN.out; omega)]; rfl
      go_wp2
      go_ret
      exact ⟨ret_int HE.out, rfl⟩
end Go.Proofs.Ytkdcbidbciognaa

namespace Go.Proofs.Ytkdcbidbciognaa
set_option linter.unusedVariables false
set_option linter.unusedSimpArgs false
open Go.RowKit


set_option maxHeartbeats 2000000 in
theorem balCmp_any (r n r' n' : Int) (w : World) : Calls Try.prog 48 #[.agg #[.int .i64 r, .int .i64 n], .agg #[.int .i64 r', .int .i64 n']] w fun e w' => e = .returned (.int .i64 (cmpBal r n r' n')) ∧ Below w.heap.size w w' := by
  have HC : Hid (∀ (a b : Int) (W : World), Calls Try.prog 86 #[.int .i64 a, .int .i64 b] W fun e w' => e = .returned (.int .i64 (cmpI a b)) ∧ Ext W w') := fun a b W => (compare_any a b W).mono fun _ _ ⟨he, hw⟩ => ⟨he, hw ▸ Ext.refl _⟩
  have HO : Hid (∀ (x y : Int) (W : World), Calls Try.prog 85 #[.slice (some ⟨W.heap.size, 0, none⟩) 2 2] (W.alloc (.cells #[.int .i64 x, .int .i64 y] 3)) fun e w' => e = .returned (.int .i64 (orI [x, y])) ∧ Ext (W.alloc (.cells #[.int .i64 x, .int .i64 y] 3)) w') := fun x y W =>
    (or_any _ 2 [x, y] _ (by simp) (Sl.of_blk (Blk.new W 3 #[.int .i64 x, .int .i64 y]) (fun j v hj => by match j, hj with | 0, hj => (simp at hj; subst hj; rfl) | 1, hj => (simp at hj; subst hj; rfl)))).mono fun _ _ ⟨he, hw⟩ => ⟨he, hw ▸ Ext.refl _⟩
  have hcm := orI_cmp r n r' n'
  generalize cmpBal r n r' n' = c at *
  have HM := Lib.hid hcm
  clear hcm
  generalize hx : cmpI r r' = x at *
  generalize hy : cmpI n n' = y at *
  have HX : Hid (∀ W, Calls Try.prog 86 #[.int .i64 r, .int .i64 r'] W fun e w' => e = .returned (.int .i64 x) ∧ Ext W w') := fun W => by rw [← hx]; exact HC.out r r' W
  have HY : Hid (∀ W, Calls Try.prog 86 #[.int .i64 n, .int .i64 n'] W fun e w' => e = .returned (.int .i64 y) ∧ Ext W w') := fun W => by rw [← hy]; exact HC.out n n' W
  clear hx hy HC
  refine hide_post fun D hD => ?_
  obtain ⟨w0, hw0⟩ : ∃ w0, w0 = (w.alloc (.cells #[.int .i64 r, .int .i64 n] 23)).alloc (.cells #[.int .i64 r', .int .i64 n'] 23) := ⟨_, rfl⟩
  have hb0 : Below w.heap.size w w0 := by rw [hw0]; exact ((Below.refl _ _).alloc (Nat.le_refl _) _).alloc (by simp) _
  have k0 : Blk w0 w.heap.size 23 #[.int .i64 r, .int .i64 n] := by rw [hw0]; exact (Blk.new _ _ _).alloc _
  have k1 : Blk w0 (w.heap.size + 1) 23 #[.int .i64 r', .int .i64 n'] := by rw [hw0]; exact Blk.new' _ _ _ _ (by simp)
  have f0 : ∀ W, Ext w0 W → W.cell? ⟨w.heap.size, 0, none⟩ = some (.int .i64 r) := fun W h => (k0.stay h).cell 0
  have f1 : ∀ W, Ext w0 W → W.cell? ⟨w.heap.size, 1, none⟩ = some (.int .i64 n) := fun W h => (k0.stay h).cell 1
  have f2 : ∀ W, Ext w0 W → W.cell? ⟨w.heap.size + 1, 0, none⟩ = some (.int .i64 r') := fun W h => (k1.stay h).cell 0
  have f3 : ∀ W, Ext w0 W → W.cell? ⟨w.heap.size + 1, 1, none⟩ = some (.int .i64 n') := fun W h => (k1.stay h).cell 1
  clear k0 k1
  have HW0 := Lib.hid hw0
  have E0 : Hid (Ext w0 w0) := Ext.refl w0
  have G0 : Hid (∀ W, Ext w0 W → Below w.heap.size w W) := fun W h => Below.step hb0 h
  clear hw0 hb0
  go_enter Try.func48, Try.ntmps48
  go_wp2_with fail
  rw [← HW0.out]
  refine ext_begin (by kernel_rfl) ?_
  have E0d := Lib.hid (Ext.drewR E0.out)
  refine ext_take (i := 0) (v := ?_) rfl (by kernel_rfl) (by kernel_rfl) (by kernel_rfl) (fun _ _ _ h => h) (by rfl) ?_ ?_
  rotate_left
  · intro W hW; have hW0 := Ext.trans E0d.out hW; clear hW; go_simp <;> with_reducible rfl
  try simp only [Act.put, List.setIfInBounds_toArray, List.set_cons_zero, List.set_cons_succ]
  refine ext_take (i := 1) (v := ?_) rfl (by kernel_rfl) (by kernel_rfl) (by kernel_rfl) (fun _ _ _ h => h) (by rfl) ?_ ?_
  rotate_left
  · intro W hW; have hW0 := Ext.trans E0d.out hW; clear hW; go_simp <;> with_reducible rfl
  try simp only [Act.put, List.setIfInBounds_toArray, List.set_cons_zero, List.set_cons_succ]
  refine ext_take (i := 2) (v := ?_) rfl (by kernel_rfl) (by kernel_rfl) (by kernel_rfl) (fun _ _ _ h => h) (by rfl) ?_ ?_
  rotate_left
  · intro W hW; have hW0 := Ext.trans E0d.out hW; clear hW; go_simp <;> with_reducible rfl
  try simp only [Act.put, List.setIfInBounds_toArray, List.set_cons_zero, List.set_cons_succ]
  refine ext_take (i := 3) (v := ?_) rfl (by kernel_rfl) (by kernel_rfl) (by kernel_rfl) (fun _ _ _ h => h) (by rfl) ?_ ?_
  rotate_left
  · intro W hW; have hW0 := Ext.trans E0d.out hW; clear hW; go_simp <;> with_reducible rfl
  try simp only [Act.put, List.setIfInBounds_toArray, List.set_cons_zero, List.set_cons_succ]
  refine ext_take (i := 5) (v := ?_) rfl (by kernel_rfl) (by kernel_rfl) (by kernel_rfl) (fun _ _ _ h => h) (by rfl) ?_ ?_
  rotate_left
  · intro W hW; have hW0 := Ext.trans E0d.out hW; clear hW; go_simp <;> with_reducible rfl
  try simp only [Act.put, List.setIfInBounds_toArray, List.set_cons_zero, List.set_cons_succ]
  refine ext_take (i := 6) (v := ?_) rfl (by kernel_rfl) (by kernel_rfl) (by kernel_rfl) (fun _ _ _ h => h) (by rfl) ?_ ?_
  rotate_left
  · intro W hW; have hW0 := Ext.trans E0d.out hW; clear hW; go_simp <;> with_reducible rfl
  try simp only [Act.put, List.setIfInBounds_toArray, List.set_cons_zero, List.set_cons_succ]
  refine ext_take (i := 7) (v := ?_) rfl (by kernel_rfl) (by kernel_rfl) (by kernel_rfl) (fun _ _ _ h => h) (by rfl) ?_ ?_
  rotate_left
  · intro W hW; have hW0 := Ext.trans E0d.out hW; clear hW; go_simp <;> with_reducible rfl
  try simp only [Act.put, List.setIfInBounds_toArray, List.set_cons_zero, List.set_cons_succ]
  refine ext_take (i := 8) (v := ?_) rfl (by kernel_rfl) (by kernel_rfl) (by kernel_rfl) (fun _ _ _ h => h) (by rfl) ?_ ?_
  rotate_left
  · intro W hW; have hW0 := Ext.trans E0d.out hW; clear hW; go_simp <;> with_reducible rfl
  try simp only [Act.put, List.setIfInBounds_toArray, List.set_cons_zero, List.set_cons_succ]
  refine ext_call (i := 4) rfl (by kernel_rfl) (by rfl) (fun K hK => ?_)
  go_simp
  (go_at_call 86; (with_reducible refine (HX.out _).mono ?_); rintro e w2 ⟨rfl, hx⟩; refine hK _ _ hx ?_; clear hK)
  have Ew2 := Lib.hid (Ext.trans E0d.out hx)
  clear hx
  try simp only [Act.put, List.setIfInBounds_toArray, List.set_cons_zero, List.set_cons_succ]
  refine ext_call (i := 9) rfl (by kernel_rfl) (by rfl) (fun K hK => ?_)
  go_simp
  (go_at_call 86; (with_reducible refine (HY.out _).mono ?_); rintro e w3 ⟨rfl, hx⟩; refine hK _ _ hx ?_; clear hK)
  have Ew3 := Lib.hid (Ext.trans Ew2.out hx)
  clear hx
  try simp only [Act.put, List.setIfInBounds_toArray, List.set_cons_zero, List.set_cons_succ]
  refine ext_call (i := 10) rfl (by kernel_rfl) (by rfl) (fun K hK => ?_)
  go_simp
  refine hK _ _ (Ext.alloc _ _) ?_; clear hK
  have Ea := Lib.hid (Ext.trans Ew3.out (Ext.alloc _ (.cells #[.int .i64 x, .int .i64 y] 3)))
  try simp only [Act.put, List.setIfInBounds_toArray, List.set_cons_zero, List.set_cons_succ]
  refine ext_call (i := 11) rfl (by kernel_rfl) (by rfl) (fun K hK => ?_)
  go_simp
  (go_at_call 85; (with_reducible refine (HO.out x y _).mono ?_); rintro e w4 ⟨rfl, hx⟩; refine hK _ _ hx ?_; clear hK)
  have Ew4 := Lib.hid (Ext.trans Ea.out hx)
  clear hx
  try simp only [Act.put, List.setIfInBounds_toArray, List.set_cons_zero, List.set_cons_succ]
  refine ext_take (i := 12) (v := ?_) rfl (by kernel_rfl) (by kernel_rfl) (by kernel_rfl) (fun _ _ _ h => h) (by rfl) ?_ ?_
  rotate_left
  · intro W hW; have hW0 := Ext.trans Ew4.out hW; clear hW; go_simp <;> with_reducible rfl
  try simp only [Act.put, List.setIfInBounds_toArray, List.set_cons_zero, List.set_cons_succ]
  refine wpAnyH_done (by kernel_rfl) ?_ _
  go_wp2
  try go_ret
  exact hD.out _ _ ⟨ret_int HM.out, G0.out _ Ew4.out⟩

theorem refCmp_any (r n r' n' : Int) (w : World) : Calls Try.prog 34 #[.agg #[.int .i64 r, .int .i64 n], .agg #[.int .i64 r', .int .i64 n']] w fun e w' => e = .returned (.int .i64 (cmpBal r n r' n')) ∧ Below w.heap.size w w' := by
  generalize hc : cmpBal r n r' n' = c
  have HC := Lib.hid hc
  clear hc
  unfold cmpBal at HC
  have HB : Hid (∀ o o', Below w.heap.size w ((w.alloc o).alloc o')) := fun o o' => ((Below.refl _ _).alloc (Nat.le_refl _) _).alloc (by simp) _
  refine hide_post fun D hD => ?_
  have hcs : r < r' ∨ r' < r ∨ (r = r' ∧ n < n') ∨ (r = r' ∧ n' < n) ∨ (r = r' ∧ n = n') := by omega
  rcases hcs with h | h | ⟨rfl, h⟩ | ⟨rfl, h⟩ | ⟨rfl, rfl⟩
  · have HE : Hid (-1 = c) := by show _ = _; rw [← HC.out, if_pos h]
    have h1 : ¬ r = r' := by omega
    clear HC
    go_enter Try.func34, Try.ntmps34
    go_wp2
    try go_ret
    exact hD.out _ _ ⟨ret_int HE.out, HB.out _ _⟩
  · have HE : Hid (1 = c) := by show _ = _; rw [← HC.out, if_neg (by omega), if_pos h]
    have h1 : ¬ r = r' := by omega
    have h2 : ¬ r < r' := by omega
    have h3 : (r == r') = false := by simp [h1]
    clear HC
    go_enter Try.func34, Try.ntmps34
    go_wp2
    try go_ret
    exact hD.out _ _ ⟨ret_int HE.out, HB.out _ _⟩
  · have HE : Hid (-1 = c) := by show _ = _; rw [← HC.out, if_neg (by omega), if_neg (by omega), if_pos h]
    have h1 : ¬ n = n' := by omega
    have h2 : ¬ r < r := by omega
    clear HC
    go_enter Try.func34, Try.ntmps34
    go_wp2
    try go_ret
    exact hD.out _ _ ⟨ret_int HE.out, HB.out _ _⟩
  · have HE : Hid (1 = c) := by show _ = _; rw [← HC.out, if_neg (by omega), if_neg (by omega), if_neg (by omega), if_pos h]
    have h1 : ¬ n = n' := by omega
    have h2 : ¬ r < r := by omega
    have h3 : ¬ n < n' := by omega
    clear HC
    go_enter Try.func34, Try.ntmps34
    go_wp2
    try go_ret
    exact hD.out _ _ ⟨ret_int HE.out, HB.out _ _⟩
  · have HE : Hid (0 = c) := by show _ = _; rw [← HC.out, if_neg (by omega), if_neg (by omega), if_neg (by omega), if_neg (by omega)]
    clear HC
    go_enter Try.func34, Try.ntmps34
    go_wp2
    try go_ret
    exact hD.out _ _ ⟨ret_int HE.out, HB.out _ _⟩
end Go.Proofs.Ytkdcbidbciognaa

namespace Go.Proofs.Ytkdcbidbciognaa
set_option linter.unusedVariables false
set_option linter.unusedSimpArgs false
open Go.RowKit
section
variable {P : Program} {ops : Array Oper} {Q : Exit → Act → World → Prop} {md : Region.Mode} {S S' : World → Prop} {Z : List Nat}
/-- whatever order is picked, S holds behind every operation that is not in Z -/
def wpAnyE (P : Program) (md : Region.Mode) (ops : Array Oper) (Q : Exit → Act → World → Prop) (Z : List Nat) (S : World → Prop) : Nat → Array Bool → Act → World → Prop
  | 0, listed, a, w => Region.ready md ops listed = [] ∧ Q .normal a w
  | fuel + 1, listed, a, w =>
    (Region.ready md ops listed = [] → Q .normal a w) ∧
    ∀ i ∈ Region.ready md ops listed, wpOp P ops Q i (fun a' w' => (i ∈ Z ∨ S w') ∧ wpAnyE P md ops Q Z S fuel (listed.setIfInBounds i true) a' w') a w
theorem wpAny_of_E : ∀ (fuel : Nat) (listed : Array Bool) (a : Act) (w : World), wpAnyE P md ops Q Z S fuel listed a w → wpAny P md ops Q fuel listed a w
  | 0, _, _, _, h => h
  | fuel + 1, _, _, _, h => ⟨h.1, fun i hi => wpOp_mono (fun a' w' h' => wpAny_of_E fuel _ a' w' h'.2) (h.2 i hi)⟩
theorem wpAnyE_weak (h : ∀ w, S' w → S w) : ∀ (fuel : Nat) (listed : Array Bool) (a : Act) (w : World), wpAnyE P md ops Q Z S' fuel listed a w → wpAnyE P md ops Q Z S fuel listed a w
  | 0, _, _, _, H => H
  | fuel + 1, _, _, _, H => ⟨H.1, fun i hi => wpOp_mono (fun a' w' h' => ⟨h'.1.imp id (h _), wpAnyE_weak h fuel _ a' w' h'.2⟩) (H.2 i hi)⟩
/-- each of T waits for i, or for one of T -/
def waits (md : Region.Mode) (ops : Array Oper) (T : List Nat) (i : Nat) : Bool :=
  T.all fun t => match ops[t]? with | some o => o.after.any fun e => Region.binds md e && (e.on == i || T.contains e.on) | none => false
theorem not_ready {T : List Nat} {i : Nat} {listed : Array Bool} (hT : waits md ops T i = true) (hi : listed.getD i true = false) (hl : ∀ t ∈ T, listed.getD t true = false) {j : Nat} (hj : j ∈ T) : ¬ j ∈ Region.ready md ops listed := by
  intro hr
  obtain ⟨_, o, ho, hall⟩ := mem_ready.1 hr
  have h1 := List.all_eq_true.1 hT j hj
  rw [ho] at h1
  simp only [Array.any_eq_true', Bool.and_eq_true, Bool.or_eq_true, beq_iff_eq, List.contains_iff_mem] at h1
  obtain ⟨e, he, hb, hor⟩ := h1
  have h2 := hall e he hb
  have h3 : listed.getD e.on true = false := by
    rcases hor with h | h
    · rw [h]; exact hi
    · exact hl _ h
  rcases Nat.lt_or_ge e.on listed.size with h' | h'
  · simp [h'] at h2 h3; rw [h3] at h2; cases h2
  · simp [Array.getElem?_eq_none h'] at h2
theorem wpAnyE_first {i : Nat} {oi : Oper} {v : Value} (hi : ops[i]? = some oi) (hsel : ∀ (j : Nat) (o : Oper) cs b, ops[j]? = some o → o.op ≠ .select cs b)
    (hQ : ∀ c a w, Q (.panic c) (a.put oi.dst v) w → Q (.panic c) a w) (T : List Nat) (hT : waits md ops T i = true) (hZ : ∀ z ∈ Z, z ∈ T) :
    ∀ (fuel : Nat) (listed : Array Bool) (a : Act) (w : World),
      (∀ j oj, ops[j]? = some oj → j ≠ i → listed.getD j true = false → (∀ e ∈ oj.after, Region.binds md e = true → e.on ≠ i) → oi.apart ops oj = true) →
      i ∈ Region.ready md ops listed → (∀ t ∈ T, listed.getD t true = false) → YieldsIf P ops S oi v a → S w →
      wpAnyE P md ops Q Z S fuel (listed.setIfInBounds i true) (a.put oi.dst v) w → wpAnyE P md ops Q Z S (fuel + 1) listed a w := by
  intro fuel
  induction fuel with
  | zero =>
    intro listed a w _ hr _ hy hS H
    refine ⟨fun h => (by rw [h] at hr; cases hr), fun j hj => ?_⟩
    by_cases hji : j = i
    · subst hji; exact hy.wpOp hi hS ⟨.inr hS, H⟩
    · have := ready_mono hj hji
      rw [H.1] at this
      cases this
  | succ fuel ih =>
    intro listed a w hfree hr hl hy hS H
    refine ⟨fun h => (by rw [h] at hr; cases hr), fun j hj => ?_⟩
    by_cases hji : j = i
    · subst hji; exact hy.wpOp hi hS ⟨.inr hS, H⟩
    · have h1 := H.2 j (ready_mono hj hji)
      obtain ⟨hjun, oj, hoj, hall⟩ := mem_ready.1 hj
      have hjT : ¬ j ∈ T := fun h => not_ready hT (mem_ready.1 hr).1 hl h hj
      have hnot : ∀ e ∈ oj.after, Region.binds md e = true → e.on ≠ i := fun e he hb heq => by
        have h1 := hall e he hb
        have h0 := (mem_ready.1 hr).1
        rw [heq] at h1
        rcases Nat.lt_or_ge i listed.size with h' | h'
        · simp [h'] at h0 h1; rw [h0] at h1; cases h1
        · simp [Array.getElem?_eq_none h'] at h1
      have h2 := wpOp_putIf hoj (hfree j oj hoj hji hjun hnot) (fun cs b => hsel i oi cs b hi) (fun cs b => hsel j oj cs b hoj) hQ hy h1
      have hfree' : ∀ k ok, ops[k]? = some ok → k ≠ i → (listed.setIfInBounds j true).getD k true = false →
          (∀ e ∈ ok.after, Region.binds md e = true → e.on ≠ i) → oi.apart ops ok = true := fun k ok hk hki hun hno => by
        refine hfree k ok hk hki ?_ hno
        by_cases hjk : j = k
        · subst hjk; exact hjun
        · rw [getD_set_ne true hjk] at hun; exact hun
      have hl' : ∀ t ∈ T, (listed.setIfInBounds j true).getD t true = false := fun t ht => by
        rw [getD_set_ne true (fun e => hjT (by rw [e]; exact ht))]; exact hl t ht
      refine wpOp_mono (fun a' w' h3 => ?_) h2
      have hS' : S w' := h3.2.1.resolve_left (fun h => hjT (hZ j h))
      refine ⟨.inr hS', ih (listed.setIfInBounds j true) a' w' hfree' (ready_mono hr (Ne.symm hji)) hl' h3.1 hS' ?_⟩
      rw [Array.setIfInBounds_comm _ _ hji]
      exact h3.2.2
theorem unlisted {T : List Nat} {listed : Array Bool} (h : T.all (fun t => listed.getD t true == false) = true) : ∀ t ∈ T, listed.getD t true = false := fun t ht => by
  have := List.all_eq_true.1 h t ht
  simpa using this
theorem within {T : List Nat} (h : Z.all (fun z => T.contains z) = true) : ∀ z ∈ Z, z ∈ T := fun z hz => by
  have := List.all_eq_true.1 h z hz
  simpa using this
end
section
variable {P : Program} {ops : Array Oper} {Q : Exit → Act → World → Prop} {md : Region.Mode} {s : Nat → Prop} {Z : List Nat}
theorem rz_begin {id : Nat} {a : Act} {w : World} (s : Nat → Prop) (Z : List Nat) (hm : P.follows .mixedOrders = true) (h : wpAnyE P .any ops Q Z (Frm s w.drew) ops.size (Array.replicate ops.size false) a w.drew) : (Code.region id ops true).wp P Q a w :=
  wp_region_any hm (wpAny_of_E _ _ _ _ h)
theorem rz_take {i : Nat} {oi : Oper} {rs : List Oper} {v : Value} {fuel : Nat} {listed : Array Bool} {a : Act} {w : World} (T : List Nat) (hd : ops.toList.drop i = oi :: rs)
    (hT : waits md ops T i = true) (hZ : Z.all (fun z => T.contains z) = true) (hl : T.all (fun t => listed.getD t true == false) = true)
    (hs : Region.noSelect ops = true) (hf : Region.free md ops listed i = true) (hr : (Region.ready md ops listed).contains i = true)
    (hQ : ∀ c a w, Q (.panic c) (a.put oi.dst v) w → Q (.panic c) a w) (hw : Region.wanted oi (yielded ops a.tmps) = true) (hy : ∀ W, Frm s w W → (execOp a.eval oi).run P W = .ok (.value v) W)
    (h : wpAnyE P md ops Q Z (Frm s w) fuel (listed.setIfInBounds i true) (a.put oi.dst v) w) : wpAnyE P md ops Q Z (Frm s w) (fuel + 1) listed a w :=
  wpAnyE_first (op_at hd) (Region.noSelect_spec hs) hQ T hT (within hZ) fuel listed a w (Region.free_spec (op_at hd) hf) (by simpa using hr) (unlisted hl) (.inl ⟨hw, hy⟩) (Frm.refl _ _) h
theorem rz_skip {i : Nat} {oi : Oper} {rs : List Oper} {fuel : Nat} {listed : Array Bool} {a : Act} {w : World} (T : List Nat) (hd : ops.toList.drop i = oi :: rs)
    (hT : waits md ops T i = true) (hZ : Z.all (fun z => T.contains z) = true) (hl : T.all (fun t => listed.getD t true == false) = true)
    (hs : Region.noSelect ops = true) (hf : Region.free md ops listed i = true) (hr : (Region.ready md ops listed).contains i = true)
    (hQ : ∀ c a w, Q (.panic c) (a.put oi.dst undef) w → Q (.panic c) a w) (hw : Region.wanted oi (yielded ops a.tmps) = false)
    (h : wpAnyE P md ops Q Z (Frm s w) fuel (listed.setIfInBounds i true) (a.put oi.dst undef) w) : wpAnyE P md ops Q Z (Frm s w) (fuel + 1) listed a w :=
  wpAnyE_first (op_at hd) (Region.noSelect_spec hs) hQ T hT (within hZ) fuel listed a w (Region.free_spec (op_at hd) hf) (by simpa using hr) (unlisted hl) (.inr ⟨hw, rfl⟩) (Frm.refl _ _) h
/-- an operation when no other can come up -/
theorem rz_call {i : Nat} {oi : Oper} {rs : List Oper} {fuel : Nat} {listed : Array Bool} {a : Act} {w : World} (hd : ops.toList.drop i = oi :: rs) (hr : Region.ready md ops listed = [i]) (hw : Region.wanted oi (yielded ops a.tmps) = true)
    (h : ∀ K : Act → World → Prop, (∀ a' w', Frm s w w' → wpAnyE P md ops Q Z (Frm s w') fuel (listed.setIfInBounds i true) a' w' → K a' w') → Oper.wp P oi a w K Q) : wpAnyE P md ops Q Z (Frm s w) (fuel + 1) listed a w := by
  refine ⟨fun h0 => (by rw [h0] at hr; cases hr), fun j hj => ?_⟩
  rw [hr] at hj
  rcases List.mem_cons.1 hj with rfl | hj
  · refine wpOp_step (op_at hd) (fun K hK => ?_)
    rw [if_pos hw]
    exact h K fun a' w' he hn => hK a' w' ⟨.inr he, wpAnyE_weak (fun W h => Frm.tr he h) _ _ _ _ hn⟩
  · cases hj
/-- one of Z: what stays behind it is not asked -/
theorem rz_last {i : Nat} {oi : Oper} {rs : List Oper} {fuel : Nat} {listed : Array Bool} {a : Act} {w : World} (hd : ops.toList.drop i = oi :: rs) (hr : Region.ready md ops listed = [i]) (hw : Region.wanted oi (yielded ops a.tmps) = true) (hz : Z.contains i = true)
    (h : ∀ K : Act → World → Prop, (∀ a' w', wpAnyE P md ops Q Z (Frm s w) fuel (listed.setIfInBounds i true) a' w' → K a' w') → Oper.wp P oi a w K Q) : wpAnyE P md ops Q Z (Frm s w) (fuel + 1) listed a w := by
  refine ⟨fun h0 => (by rw [h0] at hr; cases hr), fun j hj => ?_⟩
  rw [hr] at hj
  rcases List.mem_cons.1 hj with rfl | hj
  · refine wpOp_step (op_at hd) (fun K hK => ?_)
    rw [if_pos hw]
    exact h K fun a' w' hn => hK a' w' ⟨.inl (by simpa using hz), hn⟩
  · cases hj
/-- two that may come up, either of them first -/
theorem rz_two {i j : Nat} {oi oj : Oper} {rs rs' : List Oper} {fuel : Nat} {listed : Array Bool} {a : Act} {w : World} (hd : ops.toList.drop i = oi :: rs) (hd' : ops.toList.drop j = oj :: rs') (hr : Region.ready md ops listed = [i, j])
    (hw : Region.wanted oi (yielded ops a.tmps) = true) (hw' : Region.wanted oj (yielded ops a.tmps) = true)
    (h : ∀ K : Act → World → Prop, (∀ a' w', Frm s w w' → wpAnyE P md ops Q Z (Frm s w') fuel (listed.setIfInBounds i true) a' w' → K a' w') → Oper.wp P oi a w K Q)
    (h' : ∀ K : Act → World → Prop, (∀ a' w', Frm s w w' → wpAnyE P md ops Q Z (Frm s w') fuel (listed.setIfInBounds j true) a' w' → K a' w') → Oper.wp P oj a w K Q) : wpAnyE P md ops Q Z (Frm s w) (fuel + 1) listed a w := by
  refine ⟨fun h0 => (by rw [h0] at hr; cases hr), fun k hk => ?_⟩
  rw [hr] at hk
  rcases List.mem_cons.1 hk with rfl | hk
  · refine wpOp_step (op_at hd) (fun K hK => ?_)
    rw [if_pos hw]
    exact h K fun a' w' he hn => hK a' w' ⟨.inr he, wpAnyE_weak (fun W h => Frm.tr he h) _ _ _ _ hn⟩
  · rcases List.mem_cons.1 hk with rfl | hk
    · refine wpOp_step (op_at hd') (fun K hK => ?_)
      rw [if_pos hw']
      exact h' K fun a' w' he hn => hK a' w' ⟨.inr he, wpAnyE_weak (fun W h => Frm.tr he h) _ _ _ _ hn⟩
    · cases hk
/-- three that may come up -/
theorem rz_three {i j k : Nat} {oi oj ok : Oper} {rs rs' rs'' : List Oper} {fuel : Nat} {listed : Array Bool} {a : Act} {w : World} (hd : ops.toList.drop i = oi :: rs) (hd' : ops.toList.drop j = oj :: rs') (hd'' : ops.toList.drop k = ok :: rs'') (hr : Region.ready md ops listed = [i, j, k])
    (hw : Region.wanted oi (yielded ops a.tmps) = true) (hw' : Region.wanted oj (yielded ops a.tmps) = true) (hw'' : Region.wanted ok (yielded ops a.tmps) = true)
    (h : ∀ K : Act → World → Prop, (∀ a' w', Frm s w w' → wpAnyE P md ops Q Z (Frm s w') fuel (listed.setIfInBounds i true) a' w' → K a' w') → Oper.wp P oi a w K Q)
    (h' : ∀ K : Act → World → Prop, (∀ a' w', Frm s w w' → wpAnyE P md ops Q Z (Frm s w') fuel (listed.setIfInBounds j true) a' w' → K a' w') → Oper.wp P oj a w K Q)
    (h'' : ∀ K : Act → World → Prop, (∀ a' w', Frm s w w' → wpAnyE P md ops Q Z (Frm s w') fuel (listed.setIfInBounds k true) a' w' → K a' w') → Oper.wp P ok a w K Q) : wpAnyE P md ops Q Z (Frm s w) (fuel + 1) listed a w := by
  refine ⟨fun h0 => (by rw [h0] at hr; cases hr), fun m hm => ?_⟩
  rw [hr] at hm
  rcases List.mem_cons.1 hm with rfl | hm
  · refine wpOp_step (op_at hd) (fun K hK => ?_)
    rw [if_pos hw]
    exact h K fun a' w' he hn => hK a' w' ⟨.inr he, wpAnyE_weak (fun W h => Frm.tr he h) _ _ _ _ hn⟩
  · rcases List.mem_cons.1 hm with rfl | hm
    · refine wpOp_step (op_at hd') (fun K hK => ?_)
      rw [if_pos hw']
      exact h' K fun a' w' he hn => hK a' w' ⟨.inr he, wpAnyE_weak (fun W h => Frm.tr he h) _ _ _ _ hn⟩
    · rcases List.mem_cons.1 hm with rfl | hm
      · refine wpOp_step (op_at hd'') (fun K hK => ?_)
        rw [if_pos hw'']
        exact h'' K fun a' w' he hn => hK a' w' ⟨.inr he, wpAnyE_weak (fun W h => Frm.tr he h) _ _ _ _ hn⟩
      · cases hm
/-- the beginning, with a word of one's own for what stands behind the region -/
theorem rz_begin_to {id : Nat} {a : Act} {w : World} (R : Act → World → Prop) (s : Nat → Prop) (Z : List Nat) (hm : P.follows .mixedOrders = true) (hR : ∀ a' w', R a' w' → Q .normal a' w')
    (h : wpAnyE P .any ops (fun e a w => match e with | .normal => R a w | e => Q e a w) Z (Frm s w.drew) ops.size (Array.replicate ops.size false) a w.drew) : (Code.region id ops true).wp P Q a w :=
  Code.wp_mono (Q := fun e a w => match e with | .normal => R a w | e => Q e a w) (fun e a' w' h' => by cases e <;> first | exact hR _ _ h' | exact h') (wp_region_any hm (wpAny_of_E _ _ _ _ h))
theorem rz_done {listed : Array Bool} {a : Act} {w : World} {S : World → Prop} (hr : Region.ready md ops listed = []) (h : Q .normal a w) : ∀ fuel, wpAnyE P md ops Q Z S fuel listed a w
  | 0 => ⟨hr, h⟩
  | _ + 1 => ⟨fun _ => h, by rw [hr]; simp⟩
end
end Go.Proofs.Ytkdcbidbciognaa
