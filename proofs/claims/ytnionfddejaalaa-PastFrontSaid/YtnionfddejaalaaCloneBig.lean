/-
  slices.Clone of ints of whatever length that comes in.
-/
import Derived.Test.YtnionfddejaalaaSet
namespace Go.Proofs.Ytnionfddejaalaa
set_option linter.unusedVariables false
set_option linter.unusedSimpArgs false
open Go.RowKit
section
variable {P : Program} {w : World} {ops : Array Oper} {rest : List Oper} {o : Oper} {a : Act} {Q : Exit → Act → World → Prop}

theorem run_append_big (base : Nat) (t ty e : TypeId) (z : Value) (bytes : Nat) (ht : P.underlying t = some (.slice e)) (hinfo : (P.info? e).map (fun i => (i.zero, i.size, i.bytes)) = some (some z, 1, bytes))
    (hzs : z.cells.size = 1) (v : Value) (n : Nat) (xs : List Value) (hown : w.ownsRow base e 1 v n xs)
    {α : Type} (f : α → Value) (A : Option Addr) (l : List α) (cap : Nat) (hs : Sl f w A l) (h1 : ∀ x, (f x).oneCell' = true)
    (hn : n + l.length ≤ maxLen) (hby : (n + l.length) * bytes ≤ 140737488355328) (hbase : base ≤ w.heap.size) :
    ∃ v' w', (Builtin.append_ #[t, t] ty #[v, .slice A l.length cap]).run P w = .ok v' w' ∧ w'.ownsRow base e 1 v' (n + l.length) (xs ++ l.map f) ∧ w.grownBy w' v.ownBlock ∧
      (v'.ownBlock = v.ownBlock ∨ ∃ k, v'.ownBlock = some k ∧ w.heap.size ≤ k) := by
  obtain ⟨i0, hi, hz0, hz1, hz2⟩ := info_parts hinfo
  rcases A with _ | ad
  · have hl : l = [] := by
      cases l with
      | nil => rfl
      | cons x r => obtain ⟨b, o, e, _⟩ := hs 0 x rfl; cases e
    subst hl
    refine ⟨v, w, ?_, by simpa using hown, grown_refl w _, .inl rfl⟩
    rcases hown.2 with ⟨rfl, rfl⟩ | ⟨g, cap', cur, rfl, _, _, hnc, _⟩
    · simp [Builtin.append_, run_underlying ht, sizeOf, typeInfo, hi, Builtin.lenOf, Builtin.firstCells]
    · simp [Builtin.append_, run_underlying ht, sizeOf, typeInfo, hi, Builtin.lenOf, Builtin.firstCells, hnc, storeCells]
  · have hc : ∀ (j : Nat) u, (l.map f)[j]? = some u → w.cell? (ad.add j) = some u := by
      intro j u hj
      rw [List.getElem?_map] at hj
      obtain ⟨x, hx, rfl⟩ := Option.map_eq_some_iff.1 hj
      obtain ⟨b, o, e, hc⟩ := hs j x hx
      injection e with e
      subst e
      rw [Go.WideShapes.add_plain]
      exact hc
    obtain ⟨v', w', hr, h2, h3, _, h5⟩ := run_append_own_at (P := P) w base t ty e i0 z 1 bytes ht hi hz0 hz1 hz2 hzs (by decide) v n xs hown ad l.length cap (l.map f) (by simp) hc (by simp; exact fun x _ => h1 x) hn hby hbase
    exact ⟨v', w', hr, h2, h3, h5.imp id (fun h => ⟨_, h, Nat.le_refl _⟩)⟩

theorem wp_append_big {K : Act → World → Prop} (s x : Operand) (t : TypeId)
    (ho : o.op = .call { callee := .builtin .append, args := #[s, x], argTypes := #[t, t] })
    (base : Nat) (e : TypeId) (z : Value) (bytes : Nat) (ht : P.underlying t = some (.slice e)) (hinfo : (P.info? e).map (fun i => (i.zero, i.size, i.bytes)) = some (some z, 1, bytes))
    (hzs : z.cells.size = 1) (v : Value) (n : Nat) (xs : List Value) (hs : a.eval s = v) (hown : w.ownsRow base e 1 v n xs)
    {α : Type} (f : α → Value) (A : Option Addr) (l : List α) (m cap : Nat) (hm : m = l.length) (hx : a.eval x = .slice A m cap) (hsl : Sl f w A l) (h1 : ∀ x, (f x).oneCell' = true)
    (hn : n + l.length ≤ maxLen) (hby : (n + l.length) * bytes ≤ 140737488355328) (hbase : base ≤ w.heap.size)
    (h : ∀ v' w', w'.ownsRow base e 1 v' (n + l.length) (xs ++ l.map f) → w.grownBy w' v.ownBlock → (v'.ownBlock = v.ownBlock ∨ ∃ k, v'.ownBlock = some k ∧ w.heap.size ≤ k) → K (a.put o.dst v') w') : o.wp P a w K Q := by
  subst hm
  obtain ⟨v', w', hr, h2, h3, h4⟩ := run_append_big (P := P) base t o.type e z bytes ht hinfo hzs v n xs hown f A l cap hsl h1 hn hby hbase
  unfold Oper.wp execOp
  simp only [ho, resolve, invoke, builtin, Sem.run_bind, Sem.run_pure, Result.andThen_ok, List.map_toArray, List.map_cons, List.map_nil, hs, hx, hr]
  exact h v' w' h2 h3 h4

theorem wpList_append_big (hgd : o.guard = none) (s x : Operand) (t : TypeId)
    (ho : o.op = .call { callee := .builtin .append, args := #[s, x], argTypes := #[t, t] })
    (base : Nat) (e : TypeId) (z : Value) (bytes : Nat) (ht : P.underlying t = some (.slice e)) (hinfo : (P.info? e).map (fun i => (i.zero, i.size, i.bytes)) = some (some z, 1, bytes))
    (hzs : z.cells.size = 1) (v : Value) (n : Nat) (xs : List Value) (hs : a.eval s = v) (hown : w.ownsRow base e 1 v n xs)
    {α : Type} (f : α → Value) (A : Option Addr) (l : List α) (m cap : Nat) (hm : m = l.length) (hx : a.eval x = .slice A m cap) (hsl : Sl f w A l) (h1 : ∀ x, (f x).oneCell' = true)
    (hn : n + l.length ≤ maxLen) (hby : (n + l.length) * bytes ≤ 140737488355328) (hbase : base ≤ w.heap.size)
    (h : ∀ v' w', w'.ownsRow base e 1 v' (n + l.length) (xs ++ l.map f) → w.grownBy w' v.ownBlock → (v'.ownBlock = v.ownBlock ∨ ∃ k, v'.ownBlock = some k ∧ w.heap.size ≤ k) → wpList P ops Q rest (a.put o.dst v') w') :
    wpList P ops Q (o :: rest) a w :=
  wpList_plain hgd fun _ hK => wp_append_big s x t ho base e z bytes ht hinfo hzs v n xs hs hown f A l m cap hm hx hsl h1 hn hby hbase fun v' w' h2 h3 h4 => hK _ _ (h v' w' h2 h3 h4)
end

/-- slices.Clone of ints: a slice of the call's own -/
theorem cloneI_big (A : Option Addr) (cap : Nat) (l : List Int) (w : World) (hl : l.length ≤ 17592186043904) (hs : Sl i64 w A l) :
    Calls Try.prog 38 #[.slice A l.length cap] w fun e w' => ∃ v, e = .returned v ∧ w'.ownsRow w.heap.size 3 1 v l.length (l.map i64) ∧ Below w.heap.size w w' := by
  refine hide_post fun D hD => ?_
  rcases A with _ | ad
  · have hl0 : l = [] := by
      cases l with
      | nil => rfl
      | cons x r => obtain ⟨b, o, e, _⟩ := hs 0 x rfl; cases e
    subst hl0
    have hq : ∀ w, (binOp .eql 33 (.slice none 0 cap) (.slice none 0 0)).run Try.prog w = .ok (.bool true) w := fun w => Lib.run_eql_slice_nil (P := Try.prog) w 33 3 none 0 cap 0 0 Try.underlying33
    clear hs
    go_enter Try.func38, Try.ntmps38
    go_wp2
    try go_ret
    exact hD.out _ _ ⟨.slice none 0 0, rfl, World.ownsRow_nil _ _ _ _, Below.refl _ _⟩
  · have hq : ∀ w, (binOp .eql 33 (.slice (some ad) l.length cap) (.slice none 0 0)).run Try.prog w = .ok (.bool false) w := fun w => Lib.run_eql_slice_nil (P := Try.prog) w 33 3 (some ad) l.length cap 0 0 Try.underlying33
    have HS : Hid (∀ W, Below w.heap.size w W → Sl i64 W (some ad) l) := fun W h => hs.stay h
    have hm := Lib.hid (World.ownsRow_made (base := w.heap.size) (e := 3) (size := 1) w #[] 0 (Nat.le_refl _) (Nat.zero_le _) rfl)
    have hD' : Hid (∀ v w', w'.ownsRow w.heap.size 3 1 v (0 + l.length) ([] ++ l.map i64) → (w.alloc (.cells #[] 3)).grownBy w' (some w.heap.size) → D (.returned v) w') := fun v w' h1 h2 =>
      hD.out _ _ ⟨v, rfl, by simpa using h1, (((Below.refl _ _).alloc (Nat.le_refl _) _).grown h2 (by simp) (fun k hk => by injection hk with hk; omega))⟩
    obtain ⟨n, hn⟩ : ∃ n, n = l.length := ⟨_, rfl⟩
    have HN := Lib.hid hn
    rw [← hn] at hq ⊢
    have hl' := hl
    rw [← hn] at hl'
    clear hs hn hD
    go_enter Try.func38, Try.ntmps38
    go_wp2_with (at_builtin; refine wpList_append_big rfl _ _ 33 rfl w.heap.size 3 (.int .i64 0) 8 Try.underlying33 info_int rfl (.slice (some ⟨w.heap.size, 0, none⟩) 0 0) 0 [] rfl hm.out i64 (some ad) l n cap HN.out rfl (HS.out _ ((Below.refl _ _).alloc (Nat.le_refl _) _)) (fun _ => rfl) (by unfold maxLen; have := HN.out; omega) (by have := HN.out; omega) (by simp) ?_; intro v' w' h1 h2 h3; have H1 := Lib.hid h1; have H2 := Lib.hid h2; clear h1 h2 h3)
    try go_ret
    exact hD'.out _ _ H1.out H2.out



end Go.Proofs.Ytnionfddejaalaa
