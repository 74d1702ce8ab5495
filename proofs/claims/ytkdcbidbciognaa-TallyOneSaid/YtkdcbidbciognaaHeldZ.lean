/-
  A region that draws its order, walked in an order of ours, where a last store may turn what was read: 'behind each operation all stays but blocks of s', save behind those (Z) that wait for all that is read.
-/
import Derived.Test.YtkdcbidbciognaaHeldR
namespace Go.Proofs.Ytkdcbidbciognaa
set_option linter.unusedVariables false
set_option linter.unusedSimpArgs false
open Go.RowKit
section
variable {P : Program} {ops : Array Oper} {Q : Exit → Act → World → Prop} {md : Region.Mode} {S S' : World → Prop} {Z : List Nat}
/-- whatever order is picked, S holds behind every operation that is not in Z -/
def wpAnyE (P : Program) (md : Region.Mode) (ops : Array Oper) (Q : Exit → Act → World → Prop) (Z : List Nat) (S : World → Prop) : Nat → Array Bool → Act → World → Prop
  | 0, listed, a, w => Region.ready md ops listed = [] ∧ Q .normal a w
  | fuel + 1, listed, a, w =>
    (Region.ready md ops listed = [] → Q .normal a w) ∧
    ∀ i ∈ Region.ready md ops listed, wpOp P ops Q i (fun a' w' => (i ∈ Z ∨ S w') ∧ wpAnyE P md ops Q Z S fuel (listed.setIfInBounds i true) a' w') a w
theorem wpAny_of_E : ∀ (fuel : Nat) (listed : Array Bool) (a : Act) (w : World), wpAnyE P md ops Q Z S fuel listed a w → wpAny P md ops Q fuel listed a w
  | 0, _, _, _, h => h
  | fuel + 1, _, _, _, h => ⟨h.1, fun i hi => wpOp_mono (fun a' w' h' => wpAny_of_E fuel _ a' w' h'.2) (h.2 i hi)⟩
theorem wpAnyE_weak (h : ∀ w, S' w → S w) : ∀ (fuel : Nat) (listed : Array Bool) (a : Act) (w : World), wpAnyE P md ops Q Z S' fuel listed a w → wpAnyE P md ops Q Z S fuel listed a w
  | 0, _, _, _, H => H
  | fuel + 1, _, _, _, H => ⟨H.1, fun i hi => wpOp_mono (fun a' w' h' => ⟨h'.1.imp id (h _), wpAnyE_weak h fuel _ a' w' h'.2⟩) (H.2 i hi)⟩
/-- each of T waits for i, or for one of T -/
def waits (md : Region.Mode) (ops : Array Oper) (T : List Nat) (i : Nat) : Bool :=
  T.all fun t => match ops[t]? with | some o => o.after.any fun e => Region.binds md e && (e.on == i || T.contains e.on) | none => false
theorem not_ready {T : List Nat} {i : Nat} {listed : Array Bool} (hT : waits md ops T i = true) (hi : listed.getD i true = false) (hl : ∀ t ∈ T, listed.getD t true = false) {j : Nat} (hj : j ∈ T) : ¬ j ∈ Region.ready md ops listed := by
  intro hr
  obtain ⟨_, o, ho, hall⟩ := mem_ready.1 hr
  have h1 := List.all_eq_true.1 hT j hj
  rw [ho] at h1
  simp only [Array.any_eq_true', Bool.and_eq_true, Bool.or_eq_true, beq_iff_eq, List.contains_iff_mem] at h1
  obtain ⟨e, he, hb, hor⟩ := h1
  have h2 := hall e he hb
  have h3 : listed.getD e.on true = false := by
    rcases hor with h | h
    · rw [h]; exact hi
    · exact hl _ h
  rcases Nat.lt_or_ge e.on listed.size with h' | h'
  · simp [h'] at h2 h3; rw [h3] at h2; cases h2
  · simp [Array.getElem?_eq_none h'] at h2
theorem wpAnyE_first {i : Nat} {oi : Oper} {v : Value} (hi : ops[i]? = some oi) (hsel : ∀ (j : Nat) (o : Oper) cs b, ops[j]? = some o → o.op ≠ .select cs b)
    (hQ : ∀ c a w, Q (.panic c) (a.put oi.dst v) w → Q (.panic c) a w) (T : List Nat) (hT : waits md ops T i = true) (hZ : ∀ z ∈ Z, z ∈ T) :
    ∀ (fuel : Nat) (listed : Array Bool) (a : Act) (w : World),
      (∀ j oj, ops[j]? = some oj → j ≠ i → listed.getD j true = false → (∀ e ∈ oj.after, Region.binds md e = true → e.on ≠ i) → oi.apart ops oj = true) →
      i ∈ Region.ready md ops listed → (∀ t ∈ T, listed.getD t true = false) → YieldsIf P ops S oi v a → S w →
      wpAnyE P md ops Q Z S fuel (listed.setIfInBounds i true) (a.put oi.dst v) w → wpAnyE P md ops Q Z S (fuel + 1) listed a w := by
  intro fuel
  induction fuel with
  | zero =>
    intro listed a w _ hr _ hy hS H
    refine ⟨fun h => (by rw [h] at hr; cases hr), fun j hj => ?_⟩
    by_cases hji : j = i
    · subst hji; exact hy.wpOp hi hS ⟨.inr hS, H⟩
    · have := ready_mono hj hji
      rw [H.1] at this
      cases this
  | succ fuel ih =>
    intro listed a w hfree hr hl hy hS H
    refine ⟨fun h => (by rw [h] at hr; cases hr), fun j hj => ?_⟩
    by_cases hji : j = i
    · subst hji; exact hy.wpOp hi hS ⟨.inr hS, H⟩
    · have h1 := H.2 j (ready_mono hj hji)
      obtain ⟨hjun, oj, hoj, hall⟩ := mem_ready.1 hj
      have hjT : ¬ j ∈ T := fun h => not_ready hT (mem_ready.1 hr).1 hl h hj
      have hnot : ∀ e ∈ oj.after, Region.binds md e = true → e.on ≠ i := fun e he hb heq => by
        have h1 := hall e he hb
        have h0 := (mem_ready.1 hr).1
        rw [heq] at h1
        rcases Nat.lt_or_ge i listed.size with h' | h'
        · simp [h'] at h0 h1; rw [h0] at h1; cases h1
        · simp [Array.getElem?_eq_none h'] at h1
      have h2 := wpOp_putIf hoj (hfree j oj hoj hji hjun hnot) (fun cs b => hsel i oi cs b hi) (fun cs b => hsel j oj cs b hoj) hQ hy h1
      have hfree' : ∀ k ok, ops[k]? = some ok → k ≠ i → (listed.setIfInBounds j true).getD k true = false →
          (∀ e ∈ ok.after, Region.binds md e = true → e.on ≠ i) → oi.apart ops ok = true := fun k ok hk hki hun hno => by
        refine hfree k ok hk hki ?_ hno
        by_cases hjk : j = k
        · subst hjk; exact hjun
        · rw [getD_set_ne true hjk] at hun; exact hun
      have hl' : ∀ t ∈ T, (listed.setIfInBounds j true).getD t true = false := fun t ht => by
        rw [getD_set_ne true (fun e => hjT (by rw [e]; exact ht))]; exact hl t ht
      refine wpOp_mono (fun a' w' h3 => ?_) h2
      have hS' : S w' := h3.2.1.resolve_left (fun h => hjT (hZ j h))
      refine ⟨.inr hS', ih (listed.setIfInBounds j true) a' w' hfree' (ready_mono hr (Ne.symm hji)) hl' h3.1 hS' ?_⟩
      rw [Array.setIfInBounds_comm _ _ hji]
      exact h3.2.2
theorem unlisted {T : List Nat} {listed : Array Bool} (h : T.all (fun t => listed.getD t true == false) = true) : ∀ t ∈ T, listed.getD t true = false := fun t ht => by
  have := List.all_eq_true.1 h t ht
  simpa using this
theorem within {T : List Nat} (h : Z.all (fun z => T.contains z) = true) : ∀ z ∈ Z, z ∈ T := fun z hz => by
  have := List.all_eq_true.1 h z hz
  simpa using this
end
section
variable {P : Program} {ops : Array Oper} {Q : Exit → Act → World → Prop} {md : Region.Mode} {s : Nat → Prop} {Z : List Nat}
theorem rz_begin {id : Nat} {a : Act} {w : World} (s : Nat → Prop) (Z : List Nat) (hm : P.follows .mixedOrders = true) (h : wpAnyE P .any ops Q Z (Frm s w.drew) ops.size (Array.replicate ops.size false) a w.drew) : (Code.region id ops true).wp P Q a w :=
  wp_region_any hm (wpAny_of_E _ _ _ _ h)
theorem rz_take {i : Nat} {oi : Oper} {rs : List Oper} {v : Value} {fuel : Nat} {listed : Array Bool} {a : Act} {w : World} (T : List Nat) (hd : ops.toList.drop i = oi :: rs)
    (hT : waits md ops T i = true) (hZ : Z.all (fun z => T.contains z) = true) (hl : T.all (fun t => listed.getD t true == false) = true)
    (hs : Region.noSelect ops = true) (hf : Region.free md ops listed i = true) (hr : (Region.ready md ops listed).contains i = true)
    (hQ : ∀ c a w, Q (.panic c) (a.put oi.dst v) w → Q (.panic c) a w) (hw : Region.wanted oi (yielded ops a.tmps) = true) (hy : ∀ W, Frm s w W → (execOp a.eval oi).run P W = .ok (.value v) W)
    (h : wpAnyE P md ops Q Z (Frm s w) fuel (listed.setIfInBounds i true) (a.put oi.dst v) w) : wpAnyE P md ops Q Z (Frm s w) (fuel + 1) listed a w :=
  wpAnyE_first (op_at hd) (Region.noSelect_spec hs) hQ T hT (within hZ) fuel listed a w (Region.free_spec (op_at hd) hf) (by simpa using hr) (unlisted hl) (.inl ⟨hw, hy⟩) (Frm.refl _ _) h
theorem rz_skip {i : Nat} {oi : Oper} {rs : List Oper} {fuel : Nat} {listed : Array Bool} {a : Act} {w : World} (T : List Nat) (hd : ops.toList.drop i = oi :: rs)
    (hT : waits md ops T i = true) (hZ : Z.all (fun z => T.contains z) = true) (hl : T.all (fun t => listed.getD t true == false) = true)
    (hs : Region.noSelect ops = true) (hf : Region.free md ops listed i = true) (hr : (Region.ready md ops listed).contains i = true)
    (hQ : ∀ c a w, Q (.panic c) (a.put oi.dst undef) w → Q (.panic c) a w) (hw : Region.wanted oi (yielded ops a.tmps) = false)
    (h : wpAnyE P md ops Q Z (Frm s w) fuel (listed.setIfInBounds i true) (a.put oi.dst undef) w) : wpAnyE P md ops Q Z (Frm s w) (fuel + 1) listed a w :=
  wpAnyE_first (op_at hd) (Region.noSelect_spec hs) hQ T hT (within hZ) fuel listed a w (Region.free_spec (op_at hd) hf) (by simpa using hr) (unlisted hl) (.inr ⟨hw, rfl⟩) (Frm.refl _ _) h
/-- an operation when no other can come up -/
theorem rz_call {i : Nat} {oi : Oper} {rs : List Oper} {fuel : Nat} {listed : Array Bool} {a : Act} {w : World} (hd : ops.toList.drop i = oi :: rs) (hr : Region.ready md ops listed = [i]) (hw : Region.wanted oi (yielded ops a.tmps) = true)
    (h : ∀ K : Act → World → Prop, (∀ a' w', Frm s w w' → wpAnyE P md ops Q Z (Frm s w') fuel (listed.setIfInBounds i true) a' w' → K a' w') → Oper.wp P oi a w K Q) : wpAnyE P md ops Q Z (Frm s w) (fuel + 1) listed a w := by
  refine ⟨fun h0 => (by rw [h0] at hr; cases hr), fun j hj => ?_⟩
  rw [hr] at hj
  rcases List.mem_cons.1 hj with rfl | hj
  · refine wpOp_step (op_at hd) (fun K hK => ?_)
    rw [if_pos hw]
    exact h K fun a' w' he hn => hK a' w' ⟨.inr he, wpAnyE_weak (fun W h => Frm.tr he h) _ _ _ _ hn⟩
  · cases hj
/-- one of Z: what stays behind it is not asked -/
theorem rz_last {i : Nat} {oi : Oper} {rs : List Oper} {fuel : Nat} {listed : Array Bool} {a : Act} {w : World} (hd : ops.toList.drop i = oi :: rs) (hr : Region.ready md ops listed = [i]) (hw : Region.wanted oi (yielded ops a.tmps) = true) (hz : Z.contains i = true)
    (h : ∀ K : Act → World → Prop, (∀ a' w', wpAnyE P md ops Q Z (Frm s w) fuel (listed.setIfInBounds i true) a' w' → K a' w') → Oper.wp P oi a w K Q) : wpAnyE P md ops Q Z (Frm s w) (fuel + 1) listed a w := by
  refine ⟨fun h0 => (by rw [h0] at hr; cases hr), fun j hj => ?_⟩
  rw [hr] at hj
  rcases List.mem_cons.1 hj with rfl | hj
  · refine wpOp_step (op_at hd) (fun K hK => ?_)
    rw [if_pos hw]
    exact h K fun a' w' hn => hK a' w' ⟨.inl (by simpa using hz), hn⟩
  · cases hj
/-- two that may come up, either of them first -/
theorem rz_two {i j : Nat} {oi oj : Oper} {rs rs' : List Oper} {fuel : Nat} {listed : Array Bool} {a : Act} {w : World} (hd : ops.toList.drop i = oi :: rs) (hd' : ops.toList.drop j = oj :: rs') (hr : Region.ready md ops listed = [i, j])
    (hw : Region.wanted oi (yielded ops a.tmps) = true) (hw' : Region.wanted oj (yielded ops a.tmps) = true)
    (h : ∀ K : Act → World → Prop, (∀ a' w', Frm s w w' → wpAnyE P md ops Q Z (Frm s w') fuel (listed.setIfInBounds i true) a' w' → K a' w') → Oper.wp P oi a w K Q)
    (h' : ∀ K : Act → World → Prop, (∀ a' w', Frm s w w' → wpAnyE P md ops Q Z (Frm s w') fuel (listed.setIfInBounds j true) a' w' → K a' w') → Oper.wp P oj a w K Q) : wpAnyE P md ops Q Z (Frm s w) (fuel + 1) listed a w := by
  refine ⟨fun h0 => (by rw [h0] at hr; cases hr), fun k hk => ?_⟩
  rw [hr] at hk
  rcases List.mem_cons.1 hk with rfl | hk
  · refine wpOp_step (op_at hd) (fun K hK => ?_)
    rw [if_pos hw]
    exact h K fun a' w' he hn => hK a' w' ⟨.inr he, wpAnyE_weak (fun W h => Frm.tr he h) _ _ _ _ hn⟩
  · rcases List.mem_cons.1 hk with rfl | hk
    · refine wpOp_step (op_at hd') (fun K hK => ?_)
      rw [if_pos hw']
      exact h' K fun a' w' he hn => hK a' w' ⟨.inr he, wpAnyE_weak (fun W h => Frm.tr he h) _ _ _ _ hn⟩
    · cases hk
/-- three that may come up -/
theorem rz_three {i j k : Nat} {oi oj ok : Oper} {rs rs' rs'' : List Oper} {fuel : Nat} {listed : Array Bool} {a : Act} {w : World} (hd : ops.toList.drop i = oi :: rs) (hd' : ops.toList.drop j = oj :: rs') (hd'' : ops.toList.drop k = ok :: rs'') (hr : Region.ready md ops listed = [i, j, k])
    (hw : Region.wanted oi (yielded ops a.tmps) = true) (hw' : Region.wanted oj (yielded ops a.tmps) = true) (hw'' : Region.wanted ok (yielded ops a.tmps) = true)
    (h : ∀ K : Act → World → Prop, (∀ a' w', Frm s w w' → wpAnyE P md ops Q Z (Frm s w') fuel (listed.setIfInBounds i true) a' w' → K a' w') → Oper.wp P oi a w K Q)
    (h' : ∀ K : Act → World → Prop, (∀ a' w', Frm s w w' → wpAnyE P md ops Q Z (Frm s w') fuel (listed.setIfInBounds j true) a' w' → K a' w') → Oper.wp P oj a w K Q)
    (h'' : ∀ K : Act → World → Prop, (∀ a' w', Frm s w w' → wpAnyE P md ops Q Z (Frm s w') fuel (listed.setIfInBounds k true) a' w' → K a' w') → Oper.wp P ok a w K Q) : wpAnyE P md ops Q Z (Frm s w) (fuel + 1) listed a w := by
  refine ⟨fun h0 => (by rw [h0] at hr; cases hr), fun m hm => ?_⟩
  rw [hr] at hm
  rcases List.mem_cons.1 hm with rfl | hm
  · refine wpOp_step (op_at hd) (fun K hK => ?_)
    rw [if_pos hw]
    exact h K fun a' w' he hn => hK a' w' ⟨.inr he, wpAnyE_weak (fun W h => Frm.tr he h) _ _ _ _ hn⟩
  · rcases List.mem_cons.1 hm with rfl | hm
    · refine wpOp_step (op_at hd') (fun K hK => ?_)
      rw [if_pos hw']
      exact h' K fun a' w' he hn => hK a' w' ⟨.inr he, wpAnyE_weak (fun W h => Frm.tr he h) _ _ _ _ hn⟩
    · rcases List.mem_cons.1 hm with rfl | hm
      · refine wpOp_step (op_at hd'') (fun K hK => ?_)
        rw [if_pos hw'']
        exact h'' K fun a' w' he hn => hK a' w' ⟨.inr he, wpAnyE_weak (fun W h => Frm.tr he h) _ _ _ _ hn⟩
      · cases hm
/-- the beginning, with a word of one's own for what stands behind the region -/
theorem rz_begin_to {id : Nat} {a : Act} {w : World} (R : Act → World → Prop) (s : Nat → Prop) (Z : List Nat) (hm : P.follows .mixedOrders = true) (hR : ∀ a' w', R a' w' → Q .normal a' w')
    (h : wpAnyE P .any ops (fun e a w => match e with | .normal => R a w | e => Q e a w) Z (Frm s w.drew) ops.size (Array.replicate ops.size false) a w.drew) : (Code.region id ops true).wp P Q a w :=
  Code.wp_mono (Q := fun e a w => match e with | .normal => R a w | e => Q e a w) (fun e a' w' h' => by cases e <;> first | exact hR _ _ h' | exact h') (wp_region_any hm (wpAny_of_E _ _ _ _ h))
theorem rz_done {listed : Array Bool} {a : Act} {w : World} {S : World → Prop} (hr : Region.ready md ops listed = []) (h : Q .normal a w) : ∀ fuel, wpAnyE P md ops Q Z S fuel listed a w
  | 0 => ⟨hr, h⟩
  | _ + 1 => ⟨fun _ => h, by rw [hr]; simp⟩
end
end Go.Proofs.Ytkdcbidbciognaa
