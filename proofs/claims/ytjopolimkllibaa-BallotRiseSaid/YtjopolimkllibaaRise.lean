/-
  The walk of the law BallotRise.
-/
import Derived.Test.YtjopolimkllibaaToldBal
import Derived.Test.YtjopolimkllibaaFrm
import Derived.Test.YtjopolimkllibaaOpen
import Derived.Maps.AppendAt
namespace Go.Proofs.Ytjopolimkllibaa
set_option linter.unusedVariables false
set_option linter.unusedSimpArgs false
open Go.RowKit Go.ChangeShapes Go.WideShapes Go.Joins Go.Deep

/-- a row of ballots, as its cells -/
def flatB : List (Int × Int) → List Value
  | [] => []
  | x :: l => .int .i64 x.1 :: .int .i64 x.2 :: flatB l
theorem flatB_append (a b : List (Int × Int)) : flatB (a ++ b) = flatB a ++ flatB b := by
  induction a with
  | nil => rfl
  | cons x r ih => simp [flatB, ih]
theorem flatB_length (a : List (Int × Int)) : (flatB a).length = a.length * 2 := by
  induction a with
  | nil => rfl
  | cons x r ih => simp [flatB, ih]; omega
theorem flatB_at (l : List (Int × Int)) : ∀ (j : Nat) (x : Int × Int), l[j]? = some x → (flatB l)[j * 2]? = some (.int .i64 x.1) ∧ (flatB l)[j * 2 + 1]? = some (.int .i64 x.2) := by
  induction l with
  | nil => intro j x h; simp at h
  | cons y r ih =>
    intro j x h
    cases j with
    | zero => simp at h; subst h; exact ⟨rfl, rfl⟩
    | succ j =>
      have := ih j x (by simpa using h)
      rw [show (j + 1) * 2 = j * 2 + 1 + 1 by omega]
      simpa [flatB] using this

/-- a slice of ballots reads as the list -/
def Sb (w : World) (A : Option Addr) (l : List (Int × Int)) : Prop :=
  ∀ (j : Nat) (x : Int × Int), l[j]? = some x → ∃ g, A = some ⟨g, 0, none⟩ ∧ w.cell? ⟨g, j * 2, none⟩ = some (.int .i64 x.1) ∧ w.cell? ⟨g, j * 2 + 1, none⟩ = some (.int .i64 x.2)
theorem Sb.stay {w w' : World} {A : Option Addr} {l : List (Int × Int)} (h : Sb w A l) (hb : Below w.heap.size w w') : Sb w' A l := fun j x hj =>
  let ⟨g, e, h0, h1⟩ := h j x hj; ⟨g, e, cell_stay hb h0, cell_stay hb h1⟩
theorem ownB_view {w : World} {base n : Nat} {v : Value} {l : List (Int × Int)} (h : w.ownsRow base 23 2 v n (flatB l)) : ∃ A cap, v = .slice A n cap ∧ Sb w A l := by
  rcases h.2 with ⟨rfl, hn⟩ | ⟨g, cap, cur, rfl, _, hg, _, _, hcs, htake⟩
  · have h1 := h.1
    rw [flatB_length, hn] at h1
    have : l = [] := List.eq_nil_of_length_eq_zero (by omega)
    subst this
    exact ⟨none, 0, by rw [hn], fun j x hj => by simp at hj⟩
  · refine ⟨_, cap, rfl, fun j x hj => ⟨g, rfl, ?_⟩⟩
    have hlt : j < l.length := (List.getElem?_eq_some_iff.1 hj).1
    have h1 := h.1
    rw [flatB_length] at h1
    obtain ⟨q0, q1⟩ := flatB_at l j x hj
    rw [← htake, List.getElem?_take, if_pos (by omega)] at q0 q1
    exact ⟨by rw [cell_of_row w g _ cur _ (0, 0) hg]; simpa using q0, by rw [cell_of_row w g _ cur _ (0, 0) hg]; simpa using q1⟩

theorem info_bal : (Try.prog.info? 23).map (fun i => (i.zero, i.size, i.bytes)) = some (some (.agg #[.int .i64 0, .int .i64 0]), 2, 16) := by kernel_rfl

theorem own_frm2 {s : Nat → Prop} {w w' : World} {base n size : Nat} {e : TypeId} {v : Value} {xs : List Value} (h : w.ownsRow base e size v n xs) (hf : Frm s w w') (hg : ∀ k, v.ownBlock = some k → ¬ s k) : w'.ownsRow base e size v n xs := by
  refine ⟨h.1, ?_⟩
  rcases h.2 with hn | ⟨g, cap, cur, rfl, hb, hgg, r⟩
  · exact .inl hn
  · exact .inr ⟨g, cap, cur, rfl, hb, (hf.block g (Array.getElem?_eq_some_iff.1 hgg).1 (hg g rfl)).trans hgg, r⟩
theorem rise_next (r m z : Int) (h0 : 0 ≤ r) (h1 : r ≤ 40) (hm : 0 ≤ m) (hm2 : m < 5) (hz : 0 ≤ z) (hz2 : z < 5) : nextB r m z = true ∧ 0 ≤ nextR r m z ∧ nextR r m z ≤ r + 1 ∧ cmpBal r m (nextR r m z) z = -1 := by
  have hR : 0 ≤ nextR r m z ∧ nextR r m z ≤ r + 1 := by unfold nextR; split <;> omega
  refine ⟨?_, hR.1, hR.2, ?_⟩
  · unfold nextB mayBal
    rw [decide_eq_true (by omega), decide_eq_true (by omega)]
    rfl
  · unfold cmpBal nextR
    grind
theorem rise_lt (a b r m c d : Int) (h : cmpBal a b r m ≤ 0) (h2 : cmpBal r m c d = -1) : cmpBal a b c d = -1 ∧ ¬ (a = c ∧ b = d) := by
  unfold cmpBal at *
  grind
theorem cmpBal_self (a b : Int) : cmpBal a b a b = 0 := by
  unfold cmpBal
  grind
theorem eqlB_if (a b c d : Int) (h : ¬ (a = c ∧ b = d)) (W : World) :
    (if a = c then if b = d then Result.ok (Next.value (Value.bool true)) W else Result.ok (Next.value (Value.bool false)) W else Result.ok (Next.value (Value.bool false)) W) = Result.ok (Next.value (Value.bool false)) W := by
  split
  · rw [if_neg (fun e => h ⟨by assumption, e⟩)]
  · rfl

section
variable {P : Program} {w : World} {ops : Array Oper} {rest : List Oper} {o : Oper} {a : Act} {Q : Exit → Act → World → Prop}
/-- append of one ballot onto a slice of the call's own -/
theorem wpList_append_bal (hgd : o.guard = none) (s x : Operand) (t : TypeId)
    (ho : o.op = .call { callee := .builtin .append, args := #[s, x], argTypes := #[t, t] })
    (base : Nat) (e : TypeId) (z : Value) (bytes : Nat) (ht : P.underlying t = some (.slice e)) (hinfo : (P.info? e).map (fun i => (i.zero, i.size, i.bytes)) = some (some z, 2, bytes))
    (hzs : z.cells.size = 2) (hby : bytes ≤ 64)
    (v : Value) (n : Nat) (xs : List Value) (hs : a.eval s = v) (hown : w.ownsRow base e 2 v n xs)
    (g : Nat) (u0 u1 : Value) (hx : a.eval x = .slice (some ⟨g, 0, none⟩) 1 1) (hc0 : w.cell? ⟨g, 0, none⟩ = some u0) (hc1 : w.cell? ⟨g, 1, none⟩ = some u1) (h1 : u0.oneCell' = true) (h2 : u1.oneCell' = true)
    (hn : n ≤ 1000000000) (hbase : base ≤ w.heap.size)
    (h : ∀ v' w', w'.ownsRow base e 2 v' (n + 1) (xs ++ [u0, u1]) → w.grownBy w' v.ownBlock → wpList P ops Q rest (a.put o.dst v') w') : wpList P ops Q (o :: rest) a w := by
  obtain ⟨i0, hi, hz0, hz1, hz2⟩ := info_parts hinfo
  refine wpList_append_own w hgd s x t ho base e i0 z 2 bytes ht hi hz0 hz1 hz2 hzs (by decide) v n xs hs hown ⟨g, 0, none⟩ 1 1 [u0, u1] hx rfl ?_ ?_ ?_ ?_ hbase (fun v' w' h2 h3 _ => h v' w' h2 h3)
  · intro j y hj
    match j, hj with
    | 0, hj => simp at hj; subst hj; simpa [Addr.add] using hc0
    | 1, hj => simp at hj; subst hj; simpa [Addr.add] using hc1
  · intro y hy
    simp at hy
    rcases hy with rfl | rfl
    · exact h1
    · exact h2
  · unfold maxLen; omega
  · calc (n + 1) * bytes ≤ 1000000001 * 64 := Nat.mul_le_mul (by omega) hby
      _ ≤ 140737488355328 := by omega
end

set_option maxRecDepth 100000 in
set_option maxHeartbeats 8000000 in
theorem walk_ballotRise (A : Option Addr) (cap : Nat) (l : List Int) (w : World) (hl : l.length ≤ 9223372036854775807) (hs : Sl i64 w A l) :
    Calls Try.prog 5 #[.slice A l.length cap] w fun e w' => e = .returned (.bool true) ∧ Below w.heap.size w w' := by
  refine hide_post fun D hD => ?_
  have HL := Lib.hid hs
  clear hs
  obtain ⟨n, hn⟩ : ∃ n, n = l.length := ⟨_, rfl⟩
  rw [← hn] at hl ⊢
  have HN := Lib.hid hn
  clear hn
  have HTO : Hid (∀ W, Calls Try.prog 17 #[] W fun e w' => e = .returned (.bool true) ∧ Ext W w') := told_bal
  go_enter Try.func5, Try.ntmps5
  go_wp2
  go_loopw [5, 3] (fun i v wr => ∃ (k : Nat) (L : List (Int × Int)) (r m : Int), k ≤ n ∧ k ≤ 40 ∧ i = .int .i64 k ∧ Hid (L.length = k) ∧ 0 ≤ r ∧ r ≤ k ∧ 0 ≤ m ∧ m < 5 ∧ Hid (Ext w wr ∧ Blk wr w.heap.size 23 #[.int .i64 r, .int .i64 m] ∧ wr.ownsRow (w.heap.size + 1) 23 2 v k (flatB L) ∧ ∀ x ∈ L, cmpBal x.1 x.2 r m ≤ 0)) (fun i _ _ => n - (intOf i).toNat)
  case atStart =>
    refine ⟨0, [], 0, 0, Nat.zero_le _, by omega, rfl, rfl, by omega, by omega, by omega, by omega, Ext.alloc _ _, Blk.new _ _ _, World.ownsRow_nil _ _ _ _, by simp⟩
  case round =>
    obtain ⟨k, L, r, m, hk, hk2, rfl, HLk, hr0, hr1, hm0, hm1, HI⟩ := hrel
    by_cases hlt : k < n ∧ k < 40
    · obtain ⟨h1, h2⟩ := hlt
      obtain ⟨bb, oo, rfl, hcell⟩ := (HL.out.stay HI.out.1).at_ (k := k) (by rw [← HN.out]; exact h1)
      generalize l[k]'(by rw [← HN.out]; exact h1) = y at *
      unfold i64 at hcell
      obtain ⟨y0, y1⟩ := umod_bd y 5 (by omega) (by omega)
      obtain ⟨z, hz⟩ : ∃ z, wrap64 ((IntKind.u64.wrap y).tmod 5) = z := ⟨_, rfl⟩
      rw [hz] at y0 y1
      have HZ := Lib.hid hz
      clear hz
      obtain ⟨wo, rfl⟩ : ∃ wo : World, wo = wr := ⟨_, rfl⟩
      have hb0 := HI.out.2.1.cell 0
      have hb1 := HI.out.2.1.cell 1
      have hlt0 : w.heap.size < wo.heap.size := HI.out.2.1.lt
      have hk40 : (k : Int) < 40 := by omega
      obtain ⟨A3, c3, rfl, hsb⟩ := ownB_view HI.out.2.2.1
      have HSB := Lib.hid hsb
      clear hsb
      obtain ⟨n1, n2, n3, n4⟩ := rise_next r m z hr0 (by omega) hm0 hm1 y0 (by omega)
      have HLT : Hid (∀ x ∈ L, cmpBal x.1 x.2 (nextR r m z) z = -1 ∧ ¬ (x.1 = nextR r m z ∧ x.2 = z)) := fun x hx => rise_lt _ _ _ _ _ _ (HI.out.2.2.2 x hx) n4
      have HNX : Hid (∀ W, Calls Try.prog 15 #[.agg #[.int .i64 r, .int .i64 m], .int .i64 z] W fun e w' => e = .returned (.tuple #[.agg #[.int .i64 (nextR r m z), .int .i64 z], .bool true]) ∧ Ext W w') := fun W => (next_any r m z true n1 W).mono fun _ _ ⟨he, h⟩ => ⟨by rw [he]; rfl, h⟩
      have HCM : Hid (∀ W, Calls Try.prog 20 #[.agg #[.int .i64 r, .int .i64 m], .agg #[.int .i64 (nextR r m z), .int .i64 z]] W fun e w' => e = .returned (.int .i64 (-1)) ∧ Ext W w') := fun W => by rw [← n4]; exact balCmp_any _ _ _ _ W
      generalize nextR r m z = R at *
      have n3' : ¬ r + 1 < R := by omega
      clear n1 n4
      go_wp2_with (first
        | (go_at_call 15; rw [HZ.out]; (with_reducible refine (HNX.out _).mono ?_); rintro e w1 ⟨rfl, hx⟩; have a0 := cell_stay hx hb0; have a1 := cell_stay hx hb1; have z1 : w.heap.size < w1.heap.size := Nat.lt_of_lt_of_le hlt0 hx.size; have X1 := Lib.hid hx; clear hx)
        | (go_at_call 20; (with_reducible refine (HCM.out _).mono ?_); rintro e w2 ⟨rfl, hx⟩; have e0 := cell_stay hx (cell_stay (Ext.alloc w1 (.cells #[.int .i64 R, .int .i64 z] 23)) a0); have q0 := ((Blk.new w1 23 #[.int .i64 R, .int .i64 z]).stay hx).cell 0; have q1 := ((Blk.new w1 23 #[.int .i64 R, .int .i64 z]).stay hx).cell 1; have X2 : Hid (Ext (w1.alloc (.cells #[.int .i64 R, .int .i64 z] 23)) w2) := hx; clear hx))
      have XI : Hid (Ext wo w2) := Ext.trans (Ext.trans X1.out (Ext.alloc _ _)) X2.out
      have KC : Hid (Blk w2 w1.heap.size 23 #[.int .i64 R, .int .i64 z]) := (Blk.new w1 _ _).stay X2.out
      have SB2 := Lib.hid (HSB.out.stay XI.out)
      clear hb0 hb1 a0 a1 e0 q0 q1
      go_loopw [9] (fun i W => ∃ j : Nat, j ≤ k ∧ i = .int .i64 j ∧ Hid (Ext w2 W)) (fun i _ => k - (intOf i).toNat)
      case atStart => exact ⟨0, Nat.zero_le _, rfl, Ext.refl _⟩
      case round =>
        obtain ⟨j, hj, rfl, HJ⟩ := hrel
        by_cases hjk : j < k
        · obtain ⟨g3, rfl, hx0, hx1⟩ := SB2.out j (L[j]'(by rw [HLk.out]; exact hjk)) (List.getElem?_eq_getElem _)
          have hmem := HLT.out _ (List.getElem_mem (l := L) (by rw [HLk.out]; exact hjk))
          generalize L[j]'(by rw [HLk.out]; exact hjk) = x at *
          obtain ⟨x0, x1⟩ := x
          have HNE := Lib.hid hmem.2
          have HCx : Hid (∀ W, Calls Try.prog 20 #[.agg #[.int .i64 x0, .int .i64 x1], .agg #[.int .i64 R, .int .i64 z]] W fun e w' => e = .returned (.int .i64 (-1)) ∧ Ext W w') := fun W => by have := balCmp_any x0 x1 R z W; rw [hmem.1] at this; exact this
          have fx0 : ∀ W, Ext w2 W → W.cell? ⟨g3, j * 2, none⟩ = some (.int .i64 x0) := fun W h => cell_stay h hx0
          have fx1 : ∀ W, Ext w2 W → W.cell? ⟨g3, j * 2 + 1, none⟩ = some (.int .i64 x1) := fun W h => cell_stay h hx1
          have fc0 : ∀ W, Ext w2 W → W.cell? ⟨w1.heap.size, 0, none⟩ = some (.int .i64 R) := fun W h => (KC.out.stay h).cell 0
          have fc1 : ∀ W, Ext w2 W → W.cell? ⟨w1.heap.size, 1, none⟩ = some (.int .i64 z) := fun W h => (KC.out.stay h).cell 1
          have hj0 : (0 : Int) ≤ (j : Int) := by omega
          have hj1 : (j : Int) < (k : Int) := by omega
          have EI := HJ
          clear hmem hx0 hx1
          go_wp2_with fail
          refine ext_begin (by kernel_rfl) ?_
          have EId := Lib.hid (Ext.drewR EI.out)
          refine ext_take (i := 0) (v := ?_) rfl (by kernel_rfl) (by kernel_rfl) (by kernel_rfl) (fun _ _ _ h => h) (by rfl) ?_ ?_
          rotate_left
          · intro W hW; have hW0 := Ext.trans EId.out hW; clear hW; go_simp <;> with_reducible rfl
          try simp only [Act.put, List.setIfInBounds_toArray, List.set_cons_zero, List.set_cons_succ]
          refine ext_take (i := 1) (v := ?_) rfl (by kernel_rfl) (by kernel_rfl) (by kernel_rfl) (fun _ _ _ h => h) (by rfl) ?_ ?_
          rotate_left
          · intro W hW; have hW0 := Ext.trans EId.out hW; clear hW; go_simp <;> with_reducible rfl
          try simp only [Act.put, List.setIfInBounds_toArray, List.set_cons_zero, List.set_cons_succ]
          refine ext_take (i := 2) (v := ?_) rfl (by kernel_rfl) (by kernel_rfl) (by kernel_rfl) (fun _ _ _ h => h) (by rfl) ?_ ?_
          rotate_left
          · intro W hW; have hW0 := Ext.trans EId.out hW; clear hW; go_simp <;> with_reducible rfl
          try simp only [Act.put, List.setIfInBounds_toArray, List.set_cons_zero, List.set_cons_succ]
          refine ext_take (i := 3) (v := ?_) rfl (by kernel_rfl) (by kernel_rfl) (by kernel_rfl) (fun _ _ _ h => h) (by rfl) ?_ ?_
          rotate_left
          · intro W hW; have hW0 := Ext.trans EId.out hW; clear hW; go_simp <;> with_reducible rfl
          try simp only [Act.put, List.setIfInBounds_toArray, List.set_cons_zero, List.set_cons_succ]
          refine ext_take (i := 4) (v := ?_) rfl (by kernel_rfl) (by kernel_rfl) (by kernel_rfl) (fun _ _ _ h => h) (by rfl) ?_ ?_
          rotate_left
          · intro W hW; have hW0 := Ext.trans EId.out hW; clear hW; go_simp <;> with_reducible rfl
          try simp only [Act.put, List.setIfInBounds_toArray, List.set_cons_zero, List.set_cons_succ]
          refine ext_take (i := 5) (v := .bool false) rfl (by kernel_rfl) (by kernel_rfl) (by kernel_rfl) (fun _ _ _ h => h) (by rfl) ?_ ?_
          · intro W hW; have hW0 := Ext.trans EId.out hW; clear hW; (go_simp; exact fun h0 h1 => HNE.out ⟨h0, h1⟩)
          try simp only [Act.put, List.setIfInBounds_toArray, List.set_cons_zero, List.set_cons_succ]
          refine ext_take (i := 6) (v := ?_) rfl (by kernel_rfl) (by kernel_rfl) (by kernel_rfl) (fun _ _ _ h => h) (by rfl) ?_ ?_
          rotate_left
          · intro W hW; have hW0 := Ext.trans EId.out hW; clear hW; go_simp <;> with_reducible rfl
          try simp only [Act.put, List.setIfInBounds_toArray, List.set_cons_zero, List.set_cons_succ]
          refine ext_take (i := 7) (v := ?_) rfl (by kernel_rfl) (by kernel_rfl) (by kernel_rfl) (fun _ _ _ h => h) (by rfl) ?_ ?_
          rotate_left
          · intro W hW; have hW0 := Ext.trans EId.out hW; clear hW; go_simp <;> with_reducible rfl
          try simp only [Act.put, List.setIfInBounds_toArray, List.set_cons_zero, List.set_cons_succ]
          refine ext_take (i := 8) (v := ?_) rfl (by kernel_rfl) (by kernel_rfl) (by kernel_rfl) (fun _ _ _ h => h) (by rfl) ?_ ?_
          rotate_left
          · intro W hW; have hW0 := Ext.trans EId.out hW; clear hW; go_simp <;> with_reducible rfl
          try simp only [Act.put, List.setIfInBounds_toArray, List.set_cons_zero, List.set_cons_succ]
          refine ext_take (i := 9) (v := ?_) rfl (by kernel_rfl) (by kernel_rfl) (by kernel_rfl) (fun _ _ _ h => h) (by rfl) ?_ ?_
          rotate_left
          · intro W hW; have hW0 := Ext.trans EId.out hW; clear hW; go_simp <;> with_reducible rfl
          try simp only [Act.put, List.setIfInBounds_toArray, List.set_cons_zero, List.set_cons_succ]
          refine ext_take (i := 10) (v := ?_) rfl (by kernel_rfl) (by kernel_rfl) (by kernel_rfl) (fun _ _ _ h => h) (by rfl) ?_ ?_
          rotate_left
          · intro W hW; have hW0 := Ext.trans EId.out hW; clear hW; go_simp <;> with_reducible rfl
          try simp only [Act.put, List.setIfInBounds_toArray, List.set_cons_zero, List.set_cons_succ]
          refine ext_take (i := 11) (v := ?_) rfl (by kernel_rfl) (by kernel_rfl) (by kernel_rfl) (fun _ _ _ h => h) (by rfl) ?_ ?_
          rotate_left
          · intro W hW; have hW0 := Ext.trans EId.out hW; clear hW; go_simp <;> with_reducible rfl
          try simp only [Act.put, List.setIfInBounds_toArray, List.set_cons_zero, List.set_cons_succ]
          refine ext_call (i := 12) rfl (by kernel_rfl) (by rfl) (fun K hK => ?_)
          go_simp
          (go_at_call 20; (with_reducible refine (HCx.out _).mono ?_); rintro e wc ⟨rfl, hx⟩; refine hK _ _ hx ?_; clear hK)
          have Ewc := Lib.hid (Ext.trans EId.out hx)
          clear hx
          try simp only [Act.put, List.setIfInBounds_toArray, List.set_cons_zero, List.set_cons_succ]
          refine ext_take (i := 13) (v := ?_) rfl (by kernel_rfl) (by kernel_rfl) (by kernel_rfl) (fun _ _ _ h => h) (by rfl) ?_ ?_
          rotate_left
          · intro W hW; have hW0 := Ext.trans Ewc.out hW; clear hW; go_simp <;> with_reducible rfl
          try simp only [Act.put, List.setIfInBounds_toArray, List.set_cons_zero, List.set_cons_succ]
          refine ext_take (i := 14) (v := ?_) rfl (by kernel_rfl) (by kernel_rfl) (by kernel_rfl) (fun _ _ _ h => h) (by rfl) ?_ ?_
          rotate_left
          · intro W hW; have hW0 := Ext.trans Ewc.out hW; clear hW; go_simp <;> with_reducible rfl
          try simp only [Act.put, List.setIfInBounds_toArray, List.set_cons_zero, List.set_cons_succ]
          refine wpAnyH_done (by kernel_rfl) ?_ _
          go_wp2
          go_roundw
          case rel => exact ⟨j + 1, by omega, by go_num, Ewc.out⟩
          case measure => simp [intOf]; omega
        · obtain rfl : k = j := by omega
          have HO : Hid (wr.ownsRow (w.heap.size + 1) 23 2 (.slice A3 k c3) k (flatB L)) := own_frm2 (own_frm2 HI.out.2.2.1 (Frm.of_below XI.out (fun _ => False)) (fun _ _ h => h)) (Frm.of_below HJ.out (fun _ => False)) (fun _ _ h => h)
          have KC2 := Lib.hid (KC.out.stay HJ.out)
          have KB2 : Hid (Blk wr w.heap.size 23 #[.int .i64 r, .int .i64 m]) := (HI.out.2.1.stay XI.out).stay HJ.out
          have XJ : Hid (Ext w wr) := Ext.trans HI.out.1 (Ext.trans XI.out HJ.out)
          have NE : Hid (some w1.heap.size ≠ Value.ownBlock (.slice A3 k c3) ∧ some w.heap.size ≠ Value.ownBlock (.slice A3 k c3)) := ⟨fun he => by have := (HI.out.2.2.1.lt _ he.symm).2; have := X1.out.size; omega, fun he => by have := (HI.out.2.2.1.lt _ he.symm).1; omega⟩
          have p0 := KC2.out.cell 0
          have p1 := KC2.out.cell 1
          have pz : w1.heap.size < wr.heap.size := KC2.out.lt
          go_wp2_with (at_builtin; refine wpList_append_bal rfl _ _ 33 rfl (w.heap.size + 1) 23 (.agg #[.int .i64 0, .int .i64 0]) 16 Try.underlying33 info_bal rfl (by decide) (.slice A3 k c3) k (flatB L) rfl (HO.out.alloc _) wr.heap.size (.int .i64 R) (.int .i64 z) rfl ((Blk.new wr 23 #[.int .i64 R, .int .i64 z]).cell 0) ((Blk.new wr 23 #[.int .i64 R, .int .i64 z]).cell 1) rfl rfl (by omega) (by simp; omega) ?_; intro v' W' o' g'; obtain ⟨A', c', rfl⟩ := own_shape o'; have r0 := ((KC2.out.alloc (.cells #[.int .i64 R, .int .i64 z] 23)).grown g' NE.out.1).cell 0; have r1 := ((KC2.out.alloc (.cells #[.int .i64 R, .int .i64 z] 23)).grown g' NE.out.1).cell 1; have b0 := ((KB2.out.alloc (.cells #[.int .i64 R, .int .i64 z] 23)).grown g' NE.out.2).cell 0; have b1 := ((KB2.out.alloc (.cells #[.int .i64 R, .int .i64 z] 23)).grown g' NE.out.2).cell 1; have b2 := ((KB2.out.alloc (.cells #[.int .i64 R, .int .i64 z] 23)).grown g' NE.out.2).frozen 0; have b3 := ((KB2.out.alloc (.cells #[.int .i64 R, .int .i64 z] 23)).grown g' NE.out.2).frozen 1; have KB3 := Lib.hid ((KB2.out.alloc (.cells #[.int .i64 R, .int .i64 z] 23)).grown g' NE.out.2); have OO := Lib.hid o'; have XW : Hid (Ext w W') := (Ext.trans XJ.out (Ext.alloc _ _)).grown g' (Ext.trans XJ.out (Ext.alloc wr (.cells #[.int .i64 R, .int .i64 z] 23))).size (fun kk hk => by have := (HI.out.2.2.1.lt _ hk).1; omega); clear o' g')
          have HF : Hid (Ext w ((W'.setCell ⟨w.heap.size, 0, none⟩ (.int .i64 R)).setCell ⟨w.heap.size, 1, none⟩ (.int .i64 z)) ∧ Blk ((W'.setCell ⟨w.heap.size, 0, none⟩ (.int .i64 R)).setCell ⟨w.heap.size, 1, none⟩ (.int .i64 z)) w.heap.size 23 #[.int .i64 R, .int .i64 z] ∧ ((W'.setCell ⟨w.heap.size, 0, none⟩ (.int .i64 R)).setCell ⟨w.heap.size, 1, none⟩ (.int .i64 z)).ownsRow (w.heap.size + 1) 23 2 (.slice A' (k + 1) c') (k + 1) (flatB (L ++ [(R, z)])) ∧ ∀ x ∈ L ++ [(R, z)], cmpBal x.1 x.2 R z ≤ 0) := by
            refine ⟨Below.setCell (p := ⟨w.heap.size, 1, none⟩) (Below.setCell (p := ⟨w.heap.size, 0, none⟩) XW.out (Nat.le_refl _) _) (Nat.le_refl _) _, (KB3.out.set 0 _).set 1 _, ?_, ?_⟩
            · rw [flatB_append]
              exact own_frm2 (own_frm2 OO.out (Frm.of_set (s := fun q => q = w.heap.size) _ _ _ rfl) (fun q hq e => by have := (OO.out.lt _ hq).1; omega)) (Frm.of_set (s := fun q => q = w.heap.size) _ _ _ rfl) (fun q hq e => by have := (OO.out.lt _ hq).1; omega)
            · intro x hx
              rcases List.mem_append.1 hx with hx | hx
              · have := (HLT.out x hx).1; omega
              · simp only [List.mem_singleton] at hx
                subst hx
                show cmpBal R z R z ≤ 0
                rw [cmpBal_self]
                omega
          go_roundw
          case rel => exact ⟨k + 1, L ++ [(R, z)], R, z, by omega, by omega, by go_num, by (have := HLk.out; show (L ++ [(R, z)]).length = k + 1; simp [this]), n2, by omega, y0, by omega, HF.out⟩
          case measure => simp [intOf]; omega
    · have X0 := Lib.hid HI.out.1
      clear HI
      by_cases h1 : k < n
      · have h2 : ¬ k < 40 := fun h => hlt ⟨h1, h⟩
        obtain rfl : k = 40 := by omega
        go_wp2_with (go_at_call 17; (with_reducible refine (HTO.out _).mono ?_); rintro e w9 ⟨rfl, hx⟩; have X9 := Lib.hid hx; clear hx)
        try go_ret
        exact hD.out _ _ ⟨rfl, Ext.trans X0.out X9.out⟩
      · go_wp2_with (go_at_call 17; (with_reducible refine (HTO.out _).mono ?_); rintro e w9 ⟨rfl, hx⟩; have X9 := Lib.hid hx; clear hx)
        try go_ret
        exact hD.out _ _ ⟨rfl, Ext.trans X0.out X9.out⟩

theorem law_ballotRise {H : Type} {enc : TypeId × Value → H} (W : World) (base : Nat) (args : Array Value) (ds : List (DataW H)) (p : List MemPlace)
    (hval : ∀ (j : Nat) t v, Try.f5.params[j]? = some t → args[j]? = some v → Value.okWide Try.prog W .any base t v)
    (hA : DataW.TrodAll enc Try.prog W 0 (fun _ => true) true Try.f5.params.toList args.toList ds p) :
    Calls Try.prog 5 args W fun e W' => e = .returned (.bool true) ∧ Below W.heap.size W W' := by
  rw [Try.params5] at hA hval
  obtain ⟨v0, vs0, d0, ds0, p0, q0, hargs, rfl, rfl, h0, r0⟩ := trodAll_cons hA
  obtain ⟨rfl, rfl, rfl⟩ := trodAll_nil r0
  obtain rfl : args = #[v0] := by cases args; simp_all
  obtain ⟨A0, n0, c0, rfl⟩ := okWide_slice Try.underlying32 (hval 0 32 v0 rfl rfl)
  obtain ⟨fuel0, hf0⟩ := h0
  obtain ⟨B0, e0, l0, hcs0, x0, y0, z0, g0⟩ := trod_ints_sl Try.underlying32 Try.underlying3 cells_int hf0
  simp only [Value.cells, List.cons.injEq, Value.slice.injEq, and_true] at hcs0
  obtain ⟨rfl, rfl, rfl⟩ := hcs0
  exact walk_ballotRise A0 c0 l0 W (Nat.le_trans x0 y0) z0
end Go.Proofs.Ytjopolimkllibaa
