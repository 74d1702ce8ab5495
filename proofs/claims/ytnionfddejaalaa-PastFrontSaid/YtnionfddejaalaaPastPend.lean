/-
  The requests that wait (law 22): the program's Pending.
-/
import Derived.Test.YtnionfddejaalaaPast
namespace Go.Proofs.Ytnionfddejaalaa
set_option linter.unusedVariables false
set_option linter.unusedSimpArgs false
open Go.RowKit

def flatQ : List Rqv → List Value
  | [] => []
  | q :: l => (qcells q).toList ++ flatQ l
theorem flatQ_app (a b : List Rqv) : flatQ (a ++ b) = flatQ a ++ flatQ b := by
  induction a with
  | nil => rfl
  | cons x r ih => simp [flatQ, ih]
theorem info_req22 : (Try.prog.info? 29).map (fun i => (i.zero, i.size, i.bytes)) = some (some (.agg #[.int .i64 0, .int .i64 0, .int .i64 0, .int .i64 0, .int .i64 0, .string ⟨#[]⟩]), 6, 56) := by kernel_rfl
/-- those that wait, of the first j -/
def pendL (l : List (Option Rqv)) (j : Nat) : List Rqv := (l.take j).filterMap id
theorem pendL_none {l : List (Option Rqv)} {j : Nat} (h : l[j]? = some none) : pendL l (j + 1) = pendL l j := by
  unfold pendL; rw [List.take_add_one, h]; simp
theorem pendL_some {l : List (Option Rqv)} {j : Nat} {q : Rqv} (h : l[j]? = some (some q)) : pendL l (j + 1) = pendL l j ++ [q] := by
  unfold pendL; rw [List.take_add_one, h]; simp
theorem pendL_len (l : List (Option Rqv)) (j : Nat) : (pendL l j).length ≤ j := by
  unfold pendL; exact Nat.le_trans (List.length_filterMap_le _ _) (by rw [List.length_take]; omega)
section
variable {P : Program} {ops : Array Oper} {Q : Exit → Act → World → Prop} {rest : List Oper} {o : Oper} {a : Act} {w : World}
theorem wpList_append_wide (hgd : o.guard = none) (s x : Operand) (t : TypeId)
    (ho : o.op = .call { callee := .builtin .append, args := #[s, x], argTypes := #[t, t] })
    (base : Nat) (e : TypeId) (z : Value) (size bytes : Nat) (ht : P.underlying t = some (.slice e)) (hinfo : (P.info? e).map (fun i => (i.zero, i.size, i.bytes)) = some (some z, size, bytes))
    (hzs : z.cells.size = size) (hsz : 0 < size) (hby : bytes ≤ 1000) (v : Value) (n : Nat) (xs : List Value) (hs : a.eval s = v) (hown : w.ownsRow base e size v n xs)
    (g : Nat) (u : List Value) (hu : u.length = size) (hx : a.eval x = .slice (some ⟨g, 0, none⟩) 1 1) (hB : Blk w g e u.toArray) (h1 : ∀ y ∈ u, y.oneCell' = true)
    (hn : n ≤ 1000000000) (hbase : base ≤ w.heap.size)
    (h : ∀ v' w', w'.ownsRow base e size v' (n + 1) (xs ++ u) → w.grownBy w' v.ownBlock → (v'.ownBlock = v.ownBlock ∨ v'.ownBlock = some w.heap.size) → wpList P ops Q rest (a.put o.dst v') w') :
    wpList P ops Q (o :: rest) a w :=
  wpList_plain hgd fun _ hK => wp_append_wide s x t ho base e z size bytes ht hinfo hzs hsz hby v n xs hs hown g u hu hx hB h1 hn hbase fun v' w' h2 h3 h4 => hK _ _ (h v' w' h2 h3 h4)
end

set_option maxRecDepth 8000 in
set_option maxHeartbeats 16000000 in
theorem pend_any (base P : Nat) (G : Option Nat) (st : Ps) (w : World) (H : PAt w base P G st) :
    Calls Try.prog 16 #[.pointer (some ⟨P, 0, none⟩)] w fun e w' => ∃ A c, e = .returned (.slice A (pendL st.wait 4).length c) ∧ w'.ownsRow w.heap.size 29 6 (.slice A (pendL st.wait 4).length c) (pendL st.wait 4).length (flatQ (pendL st.wait 4)) ∧ Ext w w' := by
  refine hide_post fun D hD => ?_
  obtain ⟨hbP, v, l0, l1, l2, l3, p0, p1, p2, p3, o0, o1, o2, o3, L, kP, hl, hw, ⟨hw0, hw1, hw2, hw3⟩, hown, hG, hL, hin⟩ := H
  rw [hw] at hD
  have KP := Lib.hid kP
  have Q0 := Lib.hid hw0
  have Q1 := Lib.hid hw1
  have Q2 := Lib.hid hw2
  have Q3 := Lib.hid hw3
  have c5 := kP.cell 5
  have c6 := kP.cell 6
  have c7 := kP.cell 7
  have c8 := kP.cell 8
  simp at c5 c6 c7 c8
  clear hbP hl hw hw0 hw1 hw2 hw3 hown hG hL hin kP
  go_enter Try.func16, Try.ntmps16
  go_wp2
  go_loopw [3, 12] (fun s i wr => ∃ (j : Nat), j ≤ 4 ∧ i = .int .i64 j ∧ Hid (wr.ownsRow w.heap.size 29 6 s (pendL [o0, o1, o2, o3] j).length (flatQ (pendL [o0, o1, o2, o3] j))) ∧ Hid (Ext w wr)) (fun _ i _ => 4 - (intOf i).toNat)
  case atStart => exact ⟨0, by omega, rfl, World.ownsRow_nil _ _ _ _, Ext.refl _⟩
  case round =>
    obtain ⟨j, hj, rfl, HO, HX⟩ := hrel
    obtain ⟨A1, n1, hs1⟩ := own_shape HO.out
    subst hs1
    by_cases hlt : j < 4
    · have hjc : j = 0 ∨ j = 1 ∨ j = 2 ∨ j = 3 := by omega
      rcases hjc with rfl | rfl | rfl | rfl
      · have hix : ∀ (x0 x1 x2 x3 : Value) W, (Instr.index 75 (.agg #[x0, x1, x2, x3]) (.int .i64 (((0 : Nat)) : Int))).run Try.prog W = .ok x0 W := fun _ _ _ _ _ => by kernel_rfl
        have hiy : ∀ (x0 x1 x2 x3 : Value) W, (Instr.index 75 (.agg #[x0, x1, x2, x3]) (.int .i64 0)).run Try.prog W = .ok x0 W := fun _ _ _ _ _ => by kernel_rfl
        cases o0 with
        | none =>
          have hp : p0 = .pointer none := Q0.out
          have HN : Hid (pendL [none, o1, o2, o3] 1 = pendL [none, o1, o2, o3] 0) := pendL_none rfl
          subst hp
          go_wp2
          go_roundw
          case rel => exact ⟨1, by omega, rfl, by (show World.ownsRow _ _ _ _ _ _ _); rw [HN.out]; exact HO.out, HX.out⟩
          case measure => simp [intOf]
        | some q =>
          obtain ⟨g, hp, hb⟩ := Q0.out
          have HN : Hid (pendL [some q, o1, o2, o3] 1 = pendL [some q, o1, o2, o3] 0 ++ [q]) := pendL_some rfl
          subst hp
          have HBQ := Lib.hid (hb.stay HX.out)
          obtain ⟨qc, qs, qk, qi, qm, qd⟩ := q
          have d0 := HBQ.out.cell 0
          have d1 := HBQ.out.cell 1
          have d2 := HBQ.out.cell 2
          have d3 := HBQ.out.cell 3
          have d4 := HBQ.out.cell 4
          have d5 := HBQ.out.cell 5
          simp [qcells] at d0 d1 d2 d3 d4 d5
          clear hb
          go_wp2_with (at_builtin; refine wpList_append_wide rfl (.tmp 17) (.tmp 21) 43 rfl w.heap.size 29 _ 6 56 Try.underlying43 info_req22 rfl (by decide) (by decide) _ _ _ rfl (HO.out.alloc _) wr.heap.size (qcells ⟨qc, qs, qk, qi, qm, qd⟩).toList rfl rfl (Blk.new wr _ _) (by simp [qcells, Value.oneCell']) (by have := pendL_len [some ⟨qc, qs, qk, qi, qm, qd⟩, o1, o2, o3] 0; omega) (by have := HX.out.size; simp; omega) ?_; intro v' w3 h1 h2 h3; obtain ⟨A3, c3, hv3⟩ := own_shape h1; subst hv3; have HO3 := Lib.hid h1; have X3 : Hid (Ext w w3) := (Ext.trans HX.out (Ext.alloc _ _)).grown h2 (by have := HX.out.size; simp; omega) (fun k hk => (HO.out.lt k hk).1); clear h1 h2 h3)
          go_roundw
          case rel => exact ⟨1, by omega, rfl, by (show World.ownsRow _ _ _ _ _ _ _); rw [HN.out, flatQ_app, List.length_append]; simpa [flatQ] using HO3.out, X3.out⟩
          case measure => simp [intOf]
      · have hix : ∀ (x0 x1 x2 x3 : Value) W, (Instr.index 75 (.agg #[x0, x1, x2, x3]) (.int .i64 (((1 : Nat)) : Int))).run Try.prog W = .ok x1 W := fun _ _ _ _ _ => by kernel_rfl
        have hiy : ∀ (x0 x1 x2 x3 : Value) W, (Instr.index 75 (.agg #[x0, x1, x2, x3]) (.int .i64 1)).run Try.prog W = .ok x1 W := fun _ _ _ _ _ => by kernel_rfl
        cases o1 with
        | none =>
          have hp : p1 = .pointer none := Q1.out
          have HN : Hid (pendL [o0, none, o2, o3] 2 = pendL [o0, none, o2, o3] 1) := pendL_none rfl
          subst hp
          go_wp2
          go_roundw
          case rel => exact ⟨2, by omega, rfl, by (show World.ownsRow _ _ _ _ _ _ _); rw [HN.out]; exact HO.out, HX.out⟩
          case measure => simp [intOf]
        | some q =>
          obtain ⟨g, hp, hb⟩ := Q1.out
          have HN : Hid (pendL [o0, some q, o2, o3] 2 = pendL [o0, some q, o2, o3] 1 ++ [q]) := pendL_some rfl
          subst hp
          have HBQ := Lib.hid (hb.stay HX.out)
          obtain ⟨qc, qs, qk, qi, qm, qd⟩ := q
          have d0 := HBQ.out.cell 0
          have d1 := HBQ.out.cell 1
          have d2 := HBQ.out.cell 2
          have d3 := HBQ.out.cell 3
          have d4 := HBQ.out.cell 4
          have d5 := HBQ.out.cell 5
          simp [qcells] at d0 d1 d2 d3 d4 d5
          clear hb
          go_wp2_with (at_builtin; refine wpList_append_wide rfl (.tmp 17) (.tmp 21) 43 rfl w.heap.size 29 _ 6 56 Try.underlying43 info_req22 rfl (by decide) (by decide) _ _ _ rfl (HO.out.alloc _) wr.heap.size (qcells ⟨qc, qs, qk, qi, qm, qd⟩).toList rfl rfl (Blk.new wr _ _) (by simp [qcells, Value.oneCell']) (by have := pendL_len [o0, some ⟨qc, qs, qk, qi, qm, qd⟩, o2, o3] 1; omega) (by have := HX.out.size; simp; omega) ?_; intro v' w3 h1 h2 h3; obtain ⟨A3, c3, hv3⟩ := own_shape h1; subst hv3; have HO3 := Lib.hid h1; have X3 : Hid (Ext w w3) := (Ext.trans HX.out (Ext.alloc _ _)).grown h2 (by have := HX.out.size; simp; omega) (fun k hk => (HO.out.lt k hk).1); clear h1 h2 h3)
          go_roundw
          case rel => exact ⟨2, by omega, rfl, by (show World.ownsRow _ _ _ _ _ _ _); rw [HN.out, flatQ_app, List.length_append]; simpa [flatQ] using HO3.out, X3.out⟩
          case measure => simp [intOf]
      · have hix : ∀ (x0 x1 x2 x3 : Value) W, (Instr.index 75 (.agg #[x0, x1, x2, x3]) (.int .i64 (((2 : Nat)) : Int))).run Try.prog W = .ok x2 W := fun _ _ _ _ _ => by kernel_rfl
        have hiy : ∀ (x0 x1 x2 x3 : Value) W, (Instr.index 75 (.agg #[x0, x1, x2, x3]) (.int .i64 2)).run Try.prog W = .ok x2 W := fun _ _ _ _ _ => by kernel_rfl
        cases o2 with
        | none =>
          have hp : p2 = .pointer none := Q2.out
          have HN : Hid (pendL [o0, o1, none, o3] 3 = pendL [o0, o1, none, o3] 2) := pendL_none rfl
          subst hp
          go_wp2
          go_roundw
          case rel => exact ⟨3, by omega, rfl, by (show World.ownsRow _ _ _ _ _ _ _); rw [HN.out]; exact HO.out, HX.out⟩
          case measure => simp [intOf]
        | some q =>
          obtain ⟨g, hp, hb⟩ := Q2.out
          have HN : Hid (pendL [o0, o1, some q, o3] 3 = pendL [o0, o1, some q, o3] 2 ++ [q]) := pendL_some rfl
          subst hp
          have HBQ := Lib.hid (hb.stay HX.out)
          obtain ⟨qc, qs, qk, qi, qm, qd⟩ := q
          have d0 := HBQ.out.cell 0
          have d1 := HBQ.out.cell 1
          have d2 := HBQ.out.cell 2
          have d3 := HBQ.out.cell 3
          have d4 := HBQ.out.cell 4
          have d5 := HBQ.out.cell 5
          simp [qcells] at d0 d1 d2 d3 d4 d5
          clear hb
          go_wp2_with (at_builtin; refine wpList_append_wide rfl (.tmp 17) (.tmp 21) 43 rfl w.heap.size 29 _ 6 56 Try.underlying43 info_req22 rfl (by decide) (by decide) _ _ _ rfl (HO.out.alloc _) wr.heap.size (qcells ⟨qc, qs, qk, qi, qm, qd⟩).toList rfl rfl (Blk.new wr _ _) (by simp [qcells, Value.oneCell']) (by have := pendL_len [o0, o1, some ⟨qc, qs, qk, qi, qm, qd⟩, o3] 2; omega) (by have := HX.out.size; simp; omega) ?_; intro v' w3 h1 h2 h3; obtain ⟨A3, c3, hv3⟩ := own_shape h1; subst hv3; have HO3 := Lib.hid h1; have X3 : Hid (Ext w w3) := (Ext.trans HX.out (Ext.alloc _ _)).grown h2 (by have := HX.out.size; simp; omega) (fun k hk => (HO.out.lt k hk).1); clear h1 h2 h3)
          go_roundw
          case rel => exact ⟨3, by omega, rfl, by (show World.ownsRow _ _ _ _ _ _ _); rw [HN.out, flatQ_app, List.length_append]; simpa [flatQ] using HO3.out, X3.out⟩
          case measure => simp [intOf]
      · have hix : ∀ (x0 x1 x2 x3 : Value) W, (Instr.index 75 (.agg #[x0, x1, x2, x3]) (.int .i64 (((3 : Nat)) : Int))).run Try.prog W = .ok x3 W := fun _ _ _ _ _ => by kernel_rfl
        have hiy : ∀ (x0 x1 x2 x3 : Value) W, (Instr.index 75 (.agg #[x0, x1, x2, x3]) (.int .i64 3)).run Try.prog W = .ok x3 W := fun _ _ _ _ _ => by kernel_rfl
        cases o3 with
        | none =>
          have hp : p3 = .pointer none := Q3.out
          have HN : Hid (pendL [o0, o1, o2, none] 4 = pendL [o0, o1, o2, none] 3) := pendL_none rfl
          subst hp
          go_wp2
          go_roundw
          case rel => exact ⟨4, by omega, rfl, by (show World.ownsRow _ _ _ _ _ _ _); rw [HN.out]; exact HO.out, HX.out⟩
          case measure => simp [intOf]
        | some q =>
          obtain ⟨g, hp, hb⟩ := Q3.out
          have HN : Hid (pendL [o0, o1, o2, some q] 4 = pendL [o0, o1, o2, some q] 3 ++ [q]) := pendL_some rfl
          subst hp
          have HBQ := Lib.hid (hb.stay HX.out)
          obtain ⟨qc, qs, qk, qi, qm, qd⟩ := q
          have d0 := HBQ.out.cell 0
          have d1 := HBQ.out.cell 1
          have d2 := HBQ.out.cell 2
          have d3 := HBQ.out.cell 3
          have d4 := HBQ.out.cell 4
          have d5 := HBQ.out.cell 5
          simp [qcells] at d0 d1 d2 d3 d4 d5
          clear hb
          go_wp2_with (at_builtin; refine wpList_append_wide rfl (.tmp 17) (.tmp 21) 43 rfl w.heap.size 29 _ 6 56 Try.underlying43 info_req22 rfl (by decide) (by decide) _ _ _ rfl (HO.out.alloc _) wr.heap.size (qcells ⟨qc, qs, qk, qi, qm, qd⟩).toList rfl rfl (Blk.new wr _ _) (by simp [qcells, Value.oneCell']) (by have := pendL_len [o0, o1, o2, some ⟨qc, qs, qk, qi, qm, qd⟩] 3; omega) (by have := HX.out.size; simp; omega) ?_; intro v' w3 h1 h2 h3; obtain ⟨A3, c3, hv3⟩ := own_shape h1; subst hv3; have HO3 := Lib.hid h1; have X3 : Hid (Ext w w3) := (Ext.trans HX.out (Ext.alloc _ _)).grown h2 (by have := HX.out.size; simp; omega) (fun k hk => (HO.out.lt k hk).1); clear h1 h2 h3)
          go_roundw
          case rel => exact ⟨4, by omega, rfl, by (show World.ownsRow _ _ _ _ _ _ _); rw [HN.out, flatQ_app, List.length_append]; simpa [flatQ] using HO3.out, X3.out⟩
          case measure => simp [intOf]
    · obtain rfl : j = 4 := by omega
      go_wp2
      try go_ret
      exact hD.out _ _ ⟨_, _, rfl, HO.out, HX.out⟩

end Go.Proofs.Ytnionfddejaalaa
