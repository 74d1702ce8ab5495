/-
  What a call that writes leaves as it was: all blocks that were there but some; append of a list; what a slice of bytes reads as a string.
-/
import Derived.Test.YtkdcbidbciognaaOwn
import Derived.Test.YtkdcbidbciognaaOpen
import Derived.Maps.AppendAt
import Derived.Laws.IdiomStrings
import Derived.Laws.CopyOwn
import Derived.Deep.OwnRows
import Derived.Deep.Draws
namespace Go.Proofs.Ytkdcbidbciognaa
set_option linter.unusedVariables false
set_option linter.unusedSimpArgs false
open Go.RowKit

/-- from w to w' new blocks came; of those that were there only blocks in s may have turned -/
structure Frm (s : Nat → Prop) (w w' : World) : Prop where
  os : w'.os = w.os
  tape : w'.tape = w.tape
  output : w'.output = w.output
  size : w.heap.size ≤ w'.heap.size
  block : ∀ k, k < w.heap.size → ¬ s k → w'.heap[k]? = w.heap[k]?

section
variable {s s' : Nat → Prop} {w w' w1 w2 : World}
theorem Frm.refl (s : Nat → Prop) (w : World) : Frm s w w := ⟨rfl, rfl, rfl, Nat.le_refl _, fun _ _ _ => rfl⟩
theorem Frm.trans (h : Frm s w w1) (h' : Frm s' w1 w2) (hs : ∀ k, k < w.heap.size → s' k → s k) : Frm s w w2 :=
  ⟨h'.os.trans h.os, h'.tape.trans h.tape, h'.output.trans h.output, Nat.le_trans h.size h'.size, fun k hk hn =>
    (h'.block k (Nat.lt_of_lt_of_le hk h.size) (fun h2 => hn (hs k hk h2))).trans (h.block k hk hn)⟩
theorem Frm.of_below (h : Below w.heap.size w w') (s : Nat → Prop) : Frm s w w' := ⟨h.os, h.tape, h.output, h.size, fun k hk _ => h.block k hk⟩
theorem Frm.of_grown {row : Option Nat} (h : w.grownBy w' row) (hs : ∀ k, some k = row → s k) : Frm s w w' := ⟨h.os, h.tape, h.output, h.size, fun k hk hn => h.block k hk (fun e => hn (hs k e))⟩
theorem Frm.of_set (w : World) (p : Addr) (u : Value) (hs : s p.block) : Frm s w (w.setCell p u) :=
  ⟨rfl, rfl, rfl, by simp [World.setCell], fun k hk hn => Below.heap_setCell w p u k (fun e => hn (by rw [e]; exact hs))⟩
theorem Frm.of_alloc (w : World) (o : Obj) (s : Nat → Prop) : Frm s w (w.alloc o) := Frm.of_below ((Below.refl _ _).alloc (Nat.le_refl _) o) s
theorem Frm.drew (h : Frm s w w') : Frm s w w'.drew := ⟨h.os, h.tape, h.output, h.size, h.block⟩
theorem Frm.of_drew (h : Frm s w.drew w') : Frm s w w' := ⟨h.os, h.tape, h.output, h.size, h.block⟩
theorem Frm.of_drewN {n : Nat} (h : Frm s (w.drewN n) w') : Frm s w w' := ⟨h.os, h.tape, h.output, h.size, h.block⟩
theorem Frm.mono (h : Frm s w w') (hs : ∀ k, s k → s' k) : Frm s' w w' := ⟨h.os, h.tape, h.output, h.size, fun k hk hn => h.block k hk (fun h2 => hn (hs k h2))⟩
theorem Frm.below {B : Nat} (h : Frm s w w') (hB : B ≤ w.heap.size) (hs : ∀ k, s k → B ≤ k) : Below B w w' :=
  ⟨h.os, h.tape, h.output, h.size, fun k hk => h.block k (Nat.lt_of_lt_of_le hk hB) (fun h2 => by have := hs k h2; omega)⟩
theorem Frm.step {B : Nat} {W : World} (hb : Below B W w) (h : Frm s w w') (hB : B ≤ w.heap.size) (hs : ∀ k, s k → B ≤ k) : Below B W w' := hb.trans (h.below hB hs)
theorem Blk.frm {g : Nat} {t : TypeId} {cs : Array Value} (h : Blk w g t cs) (hf : Frm s w w') (hg : ¬ s g) : Blk w' g t cs := (hf.block g h.lt hg).trans h
theorem Sl.frm {α : Type} {f : α → Value} {a : Addr} {l : List α} (h : Sl f w (some a) l) (hf : Frm s w w') (hg : ¬ s a.block) : Sl f w' (some a) l := fun j v hj => by
  obtain ⟨b, o, e, hc⟩ := h j v hj
  injection e with e
  subst e
  exact ⟨b, o, rfl, (World.cell?_of_block (hf.block b (World.block_lt_of_cell? w _ hc) hg)).trans hc⟩
theorem own_frm {base n : Nat} {e : TypeId} {v : Value} {xs : List Value} (h : w.ownsRow base e 1 v n xs) (hf : Frm s w w') (hg : ∀ k, v.ownBlock = some k → ¬ s k) : w'.ownsRow base e 1 v n xs := by
  refine ⟨h.1, ?_⟩
  rcases h.2 with hn | ⟨g, cap, cur, rfl, hb, hgg, r⟩
  · exact .inl hn
  · exact .inr ⟨g, cap, cur, rfl, hb, (hf.block g (Array.getElem?_eq_some_iff.1 hgg).1 (hg g rfl)).trans hgg, r⟩
/-- rows of different element types lie apart -/
theorem own_type {base n g : Nat} {e t : TypeId} {v : Value} {xs : List Value} {cs : Array Value} (h : w.ownsRow base e 1 v n xs) (hb : Blk w g t cs) (hne : e ≠ t) : ∀ k, v.ownBlock = some k → k ≠ g := by
  rintro k hk rfl
  rcases h.2 with ⟨rfl, _⟩ | ⟨g', cap, cur, rfl, _, hgg, _⟩
  · simp [Value.ownBlock] at hk
  · simp [Value.ownBlock] at hk
    subst hk
    have hb' : w.heap[g']? = some (.cells cs t (0, 0)) := hb
    rw [hgg] at hb'
    injection hb' with hb'
    injection hb' with _ ht
    exact hne ht
theorem Blk.apart {g g' : Nat} {t t' : TypeId} {cs cs' : Array Value} (h : Blk w g t cs) (h' : Blk w g' t' cs') (hne : t ≠ t') : g ≠ g' := by
  rintro rfl
  have e1 : w.heap[g]? = some (.cells cs t (0, 0)) := h
  have e2 : w.heap[g]? = some (.cells cs' t' (0, 0)) := h'
  rw [e1] at e2
  injection e2 with e2
  injection e2 with _ ht
  exact hne ht
/-- an owned slice may be said to begin later, if it does -/
theorem own_base {base base' n : Nat} {e : TypeId} {v : Value} {xs : List Value} (h : w.ownsRow base e 1 v n xs) (hb : ∀ k, v.ownBlock = some k → base' ≤ k) : w.ownsRow base' e 1 v n xs := by
  refine ⟨h.1, ?_⟩
  rcases h.2 with hn | ⟨g, cap, cur, rfl, _, r⟩
  · exact .inl hn
  · exact .inr ⟨g, cap, cur, rfl, hb g rfl, r⟩
end

section
variable {P : Program} {w : World} {ops : Array Oper} {rest : List Oper} {o : Oper} {a : Act} {Q : Exit → Act → World → Prop}

/-- append of a list onto a slice of the call's own: what it comes to -/
theorem run_append_list (base : Nat) (t ty e : TypeId) (z : Value) (bytes : Nat) (ht : P.underlying t = some (.slice e)) (hinfo : (P.info? e).map (fun i => (i.zero, i.size, i.bytes)) = some (some z, 1, bytes))
    (hzs : z.cells.size = 1) (hby : bytes ≤ 64) (v : Value) (n : Nat) (xs : List Value) (hown : w.ownsRow base e 1 v n xs)
    {α : Type} (f : α → Value) (A : Option Addr) (l : List α) (cap : Nat) (hs : Sl f w A l) (h1 : ∀ x, (f x).oneCell' = true)
    (hn : n + l.length ≤ 2000000000000) (hbase : base ≤ w.heap.size) :
    ∃ v' w', (Builtin.append_ #[t, t] ty #[v, .slice A l.length cap]).run P w = .ok v' w' ∧ w'.ownsRow base e 1 v' (n + l.length) (xs ++ l.map f) ∧ w.grownBy w' v.ownBlock ∧
      (v'.ownBlock = v.ownBlock ∨ ∃ k, v'.ownBlock = some k ∧ w.heap.size ≤ k) := by
  obtain ⟨i0, hi, hz0, hz1, hz2⟩ := info_parts hinfo
  rcases A with _ | ad
  · have hl : l = [] := by
      cases l with
      | nil => rfl
      | cons x r => obtain ⟨b, o, e, _⟩ := hs 0 x rfl; cases e
    subst hl
    refine ⟨v, w, ?_, by simpa using hown, grown_refl w _, .inl rfl⟩
    rcases hown.2 with ⟨rfl, rfl⟩ | ⟨g, cap', cur, rfl, _, _, hnc, _⟩
    · simp [Builtin.append_, run_underlying ht, sizeOf, typeInfo, hi, Builtin.lenOf, Builtin.firstCells]
    · simp [Builtin.append_, run_underlying ht, sizeOf, typeInfo, hi, Builtin.lenOf, Builtin.firstCells, hnc, storeCells]
  · have hc : ∀ (j : Nat) u, (l.map f)[j]? = some u → w.cell? (ad.add j) = some u := by
      intro j u hj
      rw [List.getElem?_map] at hj
      obtain ⟨x, hx, rfl⟩ := Option.map_eq_some_iff.1 hj
      obtain ⟨b, o, e, hc⟩ := hs j x hx
      injection e with e
      subst e
      rw [Go.WideShapes.add_plain]
      exact hc
    have hb64 : (n + l.length) * bytes ≤ 140737488355328 := by
      calc (n + l.length) * bytes ≤ 2000000000000 * 64 := Nat.mul_le_mul hn hby
        _ ≤ 140737488355328 := by omega
    obtain ⟨v', w', hr, h2, h3, _, h5⟩ := run_append_own_at (P := P) w base t ty e i0 z 1 bytes ht hi hz0 hz1 hz2 hzs (by decide) v n xs hown ad l.length cap (l.map f) (by simp) hc (by simp; exact fun x _ => h1 x) (by unfold maxLen; omega) hb64 hbase
    exact ⟨v', w', hr, h2, h3, h5.imp id (fun h => ⟨_, h, Nat.le_refl _⟩)⟩

theorem wp_append_list {K : Act → World → Prop} (s x : Operand) (t : TypeId)
    (ho : o.op = .call { callee := .builtin .append, args := #[s, x], argTypes := #[t, t] })
    (base : Nat) (e : TypeId) (z : Value) (bytes : Nat) (ht : P.underlying t = some (.slice e)) (hinfo : (P.info? e).map (fun i => (i.zero, i.size, i.bytes)) = some (some z, 1, bytes))
    (hzs : z.cells.size = 1) (hby : bytes ≤ 64) (v : Value) (n : Nat) (xs : List Value) (hs : a.eval s = v) (hown : w.ownsRow base e 1 v n xs)
    {α : Type} (f : α → Value) (A : Option Addr) (l : List α) (m cap : Nat) (hm : m = l.length) (hx : a.eval x = .slice A m cap) (hsl : Sl f w A l) (h1 : ∀ x, (f x).oneCell' = true)
    (hn : n + l.length ≤ 2000000000000) (hbase : base ≤ w.heap.size)
    (h : ∀ v' w', w'.ownsRow base e 1 v' (n + l.length) (xs ++ l.map f) → w.grownBy w' v.ownBlock → (v'.ownBlock = v.ownBlock ∨ ∃ k, v'.ownBlock = some k ∧ w.heap.size ≤ k) → K (a.put o.dst v') w') : o.wp P a w K Q := by
  subst hm
  obtain ⟨v', w', hr, h2, h3, h4⟩ := run_append_list (P := P) base t o.type e z bytes ht hinfo hzs hby v n xs hown f A l cap hsl h1 hn hbase
  unfold Oper.wp execOp
  simp only [ho, resolve, invoke, builtin, Sem.run_bind, Sem.run_pure, Result.andThen_ok, List.map_toArray, List.map_cons, List.map_nil, hs, hx, hr]
  exact h v' w' h2 h3 h4

theorem wpList_append_list (hgd : o.guard = none) (s x : Operand) (t : TypeId)
    (ho : o.op = .call { callee := .builtin .append, args := #[s, x], argTypes := #[t, t] })
    (base : Nat) (e : TypeId) (z : Value) (bytes : Nat) (ht : P.underlying t = some (.slice e)) (hinfo : (P.info? e).map (fun i => (i.zero, i.size, i.bytes)) = some (some z, 1, bytes))
    (hzs : z.cells.size = 1) (hby : bytes ≤ 64) (v : Value) (n : Nat) (xs : List Value) (hs : a.eval s = v) (hown : w.ownsRow base e 1 v n xs)
    {α : Type} (f : α → Value) (A : Option Addr) (l : List α) (m cap : Nat) (hm : m = l.length) (hx : a.eval x = .slice A m cap) (hsl : Sl f w A l) (h1 : ∀ x, (f x).oneCell' = true)
    (hn : n + l.length ≤ 2000000000000) (hbase : base ≤ w.heap.size)
    (h : ∀ v' w', w'.ownsRow base e 1 v' (n + l.length) (xs ++ l.map f) → w.grownBy w' v.ownBlock → (v'.ownBlock = v.ownBlock ∨ ∃ k, v'.ownBlock = some k ∧ w.heap.size ≤ k) → wpList P ops Q rest (a.put o.dst v') w') :
    wpList P ops Q (o :: rest) a w :=
  wpList_plain hgd fun _ hK => wp_append_list s x t ho base e z bytes ht hinfo hzs hby v n xs hs hown f A l m cap hm hx hsl h1 hn hbase fun v' w' h2 h3 h4 => hK _ _ (h v' w' h2 h3 h4)
end

/-! ### copy of a whole list into a row of the same length -/
section
variable {P : Program} {w : World}
theorem run_copy_all {α : Type} (f : α → Value) (dT sT ty elem : TypeId) (hu : P.underlying dT = some (.slice elem)) (hsz : (P.info? elem).map (·.size) = some 1) (h1 : ∀ x, (f x).oneCell' = true)
    (g : Nat) (t : TypeId) (cur : Array Value) (l : List α) (A : Option Addr) (dCap cap : Nat) (hg : Blk w g t cur) (hc : cur.size = l.length) (hs : Sl f w A l) :
    ∃ w', (Builtin.copy_ #[dT, sT] ty #[.slice (some ⟨g, 0, none⟩) l.length dCap, .slice A l.length cap]).run P w = .ok (.int .i64 l.length) w' ∧ Blk w' g t (l.map f).toArray ∧ w.grownBy w' (some g) := by
  cases l with
  | nil =>
    refine ⟨w, run_copy_none w dT sT ty elem _ A 0 dCap 0 cap hu hsz rfl, ?_, grown_refl w _⟩
    have : cur = #[] := Array.eq_empty_of_size_eq_zero hc
    subst this
    exact hg
  | cons x r =>
    obtain ⟨b, o, rfl, _⟩ := hs 0 x rfl
    have hsrc : ∀ (j : Nat) v, ((x :: r).map f)[j]? = some v → w.cell? ((⟨b, o, none⟩ : Addr).add j) = some v := by
      intro j v hj
      rw [List.getElem?_map] at hj
      obtain ⟨y, hy, rfl⟩ := Option.map_eq_some_iff.1 hj
      obtain ⟨b', o', e, hcl⟩ := hs j y hy
      injection e with e
      injection e with e1 e2
      subst e1; subst e2
      rw [Go.WideShapes.add_plain]
      exact hcl
    have hr := run_copy_row (P := P) w dT sT ty elem g 0 (x :: r).length dCap ⟨b, o, none⟩ (x :: r).length cap cur t ((x :: r).map f) hu hsz hg (by rw [List.length_map]; exact (Nat.min_self _).symm) hsrc (by rw [List.length_map]; omega) (by
      intro v hv
      obtain ⟨y, _, rfl⟩ := List.mem_map.1 hv
      exact h1 y)
    have hrow : cur.toList.take 0 ++ (x :: r).map f ++ cur.toList.drop (0 + ((x :: r).map f).length) = (x :: r).map f := by
      rw [List.take_zero, List.nil_append, List.drop_of_length_le (by simp; simp at hc; omega), List.append_nil]
    rw [hrow] at hr
    refine ⟨_, by rw [hr, List.length_map]; rfl, setRow_heap w g cur _ t _ hg, ⟨rfl, rfl, rfl, by simp [World.setRow], fun k _ hk => setRow_other w g k _ (fun e => hk (by rw [e]))⟩⟩
end

/-! ### Bytes and strings -/
section
variable {P : Program} {w : World}
/-- the string of some bytes -/
def str (l : List UInt8) : ByteArray := ⟨l.toArray⟩
theorem str_size (l : List UInt8) : (str l).size = l.length := by simp [str, ByteArray.size]
theorem str_inj {a b : List UInt8} (h : str a = str b) : a = b := by
  have := congrArg (fun s : ByteArray => s.data.toList) h
  simpa [str] using this
theorem str_toList (l : List UInt8) : (str l).data.toList = l := by simp [str]
/-- 'string(b)' -/
theorem run_str (src dst e : TypeId) (A : Option Addr) (l : List UInt8) (cap : Nat) (hs : P.underlying src = some (.slice e)) (he : P.underlying e = some (.int .u8)) (hd : P.underlying dst = some .string) (hsl : Sl u8 w A l) :
    (convert src dst (.slice A l.length cap)).run P w = .ok (.string (str l)) w := by
  rcases A with _ | ad
  · have hl : l = [] := by
      cases l with
      | nil => rfl
      | cons x r => obtain ⟨b, o, e, _⟩ := hsl 0 x rfl; cases e
    subst hl
    exact run_convert_bytes_nil w src e hs he 0 cap dst hd
  · refine run_convert_bytes_back w src dst e ad cap l hs he hd (fun j hj => ?_)
    obtain ⟨b, o, e, hc⟩ := hsl j l[j] (List.getElem?_eq_getElem hj)
    injection e with e
    subst e
    rw [Go.WideShapes.add_plain]
    exact hc
end

theorem info_byte : (Try.prog.info? 5).map (fun i => (i.zero, i.size, i.bytes)) = some (some (.int .u8 0), 1, 1) := by kernel_rfl
theorem size_byte : (Try.prog.info? 5).map (·.size) = some 1 := by kernel_rfl
theorem cells_byte : Try.prog.cellsOf 5 = 1 := by kernel_rfl
end Go.Proofs.Ytkdcbidbciognaa
