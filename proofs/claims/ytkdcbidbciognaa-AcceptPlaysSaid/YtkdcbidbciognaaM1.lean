/-
  Words that all walks of this seat share: a slice that reads as a list, a block that is known whole, what a call leaves as it was, and the last step from a contract to a law's row.
  A slice that the call itself made, as a list: appended to one by one, read, cut.
  What a law was given, opened: slices of ints, of bytes; a chain; a request.
  What a call that writes leaves as it was: all blocks that were there but some; append of a list; what a slice of bytes reads as a string.
  Walks of slices.Index, slices.Contains at []int: they only read.
  Walks of item.MayChain and of the reference's: which chains may be; two chains compared.
  A region that draws its order, walked in the text's order where what is made later is read later still: the condition on the world is 'all that is here stays', and it moves on with the world.
  A region that draws its order, walked in an order of ours, where blocks of a set s may turn on the way: the condition on the world is 'all that is here stays, but blocks of s'.
  slices.Clone of ints; a copy of a chain; a set of ints that grows.
  Two lists of numbers, compared by the document's answer.
  Two lists of numbers, compared by slices.Equal.
  Walks of package chain that only read: Has, Head, Tail, Above, Below, Same; the reference's SameChain.
  Walks of package chain, further: do all nodes of a chain lie below n?
  Walks of package chain, further: a chain that may be, or an error; the document's place of a node.
  The walk of the document's MayChain.
  A chain that lies in a block of the call's own and grows by one node after the other.
  Walks of the document's chapter 12: where a node stands; do all nodes lie below n?
-/
import Derived.Test.YtkdcbidbciognaaRows
import Derived.WalkKit
import Derived.ProofKit
import Derived.OpenShut
import Derived.BigQuiet
import Derived.Deep.QuietTactic
import Derived.Deep.Slices
import Derived.Lib.Hide
import Derived.WalkSpells
import Derived.WalkLawsBesides
import Derived.Lib.SmallJoins
import Derived.Maps.AppendAt
import Derived.Laws.IdiomStrings
import Derived.Laws.CopyOwn
import Derived.Deep.OwnRows
import Derived.Deep.Draws
import Derived.Deep.RegionHeld3
namespace Go.Proofs.Ytkdcbidbciognaa
set_option linter.unusedVariables false
set_option linter.unusedSimpArgs false
open Go.RowKit Go.ChangeShapes Go.WideShapes

/-! ### Memory -/

/-- block g is just these cells -/
def Blk (w : World) (g : Nat) (t : TypeId) (cs : Array Value) : Prop := w.heap[g]? = some (.cells cs t (0, 0))

section
variable {w w' : World} {g : Nat} {t : TypeId} {cs : Array Value}
theorem Blk.lt (h : Blk w g t cs) : g < w.heap.size := (Array.getElem?_eq_some_iff.1 h).1
theorem Blk.cell (h : Blk w g t cs) (i : Nat) : w.cell? ⟨g, i, none⟩ = cs[i]? := cell_of_row w g i cs t (0, 0) h
theorem Blk.frozen (h : Blk w g t cs) (i : Nat) : w.frozen? ⟨g, i, none⟩ = false := by
  have h' : w.heap[g]? = some (.cells cs t (0, 0)) := h
  simp [World.frozen?, h']
theorem Blk.new (w : World) (t : TypeId) (cs : Array Value) : Blk (w.alloc (.cells cs t)) w.heap.size t cs := heap_alloc_new w _
theorem Blk.new' (w : World) (t : TypeId) (cs : Array Value) (n : Nat) (hn : n = w.heap.size) : Blk (w.alloc (.cells cs t)) n t cs := by subst hn; exact Blk.new w t cs
theorem Blk.below {B : Nat} (h : Blk w g t cs) (hb : Below B w w') (hg : g < B) : Blk w' g t cs := (hb.block g hg).trans h
theorem Blk.stay (h : Blk w g t cs) (hb : Below w.heap.size w w') : Blk w' g t cs := h.below hb h.lt
theorem Blk.grown {row : Option Nat} (h : Blk w g t cs) (hb : w.grownBy w' row) (hg : some g ≠ row) : Blk w' g t cs := (hb.block g h.lt hg).trans h
theorem Blk.alloc (h : Blk w g t cs) (o : Obj) : Blk (w.alloc o) g t cs := (Below.heap_alloc w o g h.lt).trans h
theorem Blk.drew (h : Blk w g t cs) : Blk w.drew g t cs := h
theorem Blk.set (h : Blk w g t cs) (i : Nat) (u : Value) : Blk (w.setCell ⟨g, i, none⟩ u) g t (cs.setIfInBounds i u) := by
  have h' : w.heap[g]? = some (.cells cs t (0, 0)) := h
  show (w.setCell ⟨g, i, none⟩ u).heap[g]? = _
  simp [World.setCell, Array.getElem?_modify, h']
theorem Blk.far (h : Blk w g t cs) {p : Addr} (hp : g ≠ p.block) (u : Value) : Blk (w.setCell p u) g t cs := (Below.heap_setCell w p u g hp).trans h
end

/-- slice address A reads, from its head on, as the list (f: what an element looks like in its cell) -/
def Sl {α : Type} (f : α → Value) (w : World) (A : Option Addr) (l : List α) : Prop :=
  ∀ (j : Nat) (v : α), l[j]? = some v → ∃ b o, A = some ⟨b, o, none⟩ ∧ w.cell? ⟨b, o + j, none⟩ = some (f v)

section
variable {α : Type} {f : α → Value} {w w' : World} {A : Option Addr} {l : List α}
theorem Sl.keep (h : Sl f w A l) (hk : ∀ a v, w.cell? a = some v → w'.cell? a = some v) : Sl f w' A l := fun j v hj =>
  let ⟨b, o, e, hc⟩ := h j v hj; ⟨b, o, e, hk _ _ hc⟩
theorem cell_below {B : Nat} (hb : Below B w w') {a : Addr} {v : Value} (ha : a.block < B) (h : w.cell? a = some v) : w'.cell? a = some v := (hb.cell ha).trans h
theorem cell_stay (hb : Below w.heap.size w w') {a : Addr} {v : Value} (h : w.cell? a = some v) : w'.cell? a = some v :=
  (hb.cell (World.block_lt_of_cell? w a h)).trans h
theorem Sl.stay (h : Sl f w A l) (hb : Below w.heap.size w w') : Sl f w' A l := h.keep fun _ _ hc => cell_stay hb hc
theorem Sl.grown {a : Addr} (h : Sl f w (some a) l) {row : Option Nat} (hg : w.grownBy w' row) (hb : some a.block ≠ row) : Sl f w' (some a) l := fun j v hj => by
  obtain ⟨b, o, e, hc⟩ := h j v hj
  injection e with e
  subst e
  exact ⟨b, o, rfl, hg.cell hc hb⟩
theorem Sl.far {a : Addr} (h : Sl f w (some a) l) {p : Addr} (hp : a.block ≠ p.block) (u : Value) : Sl f (w.setCell p u) (some a) l := fun j v hj => by
  obtain ⟨b, o, e, hc⟩ := h j v hj
  injection e with e
  subst e
  exact ⟨b, o, rfl, (World.cell?_setCell_other w p _ u (fun e => hp (by subst e; rfl))).trans hc⟩
/-- a row that was just laid, read whole -/
theorem Sl.of_blk {g : Nat} {t : TypeId} {cs : Array Value} (h : Blk w g t cs) (hl : ∀ (j : Nat) (v : α), l[j]? = some v → cs[j]? = some (f v)) : Sl f w (some ⟨g, 0, none⟩) l := fun j v hj =>
  ⟨g, 0, rfl, by rw [Nat.zero_add]; exact (h.cell j).trans (hl j v hj)⟩
theorem Sl.nil (f : α → Value) (w : World) (A : Option Addr) : Sl f w A [] := fun j v hj => by simp at hj
theorem Sl.at_ {k : Nat} (h : Sl f w A l) (hk : k < l.length) : ∃ b o, A = some ⟨b, o, none⟩ ∧ w.cell? ⟨b, o + k, none⟩ = some (f l[k]) :=
  h k l[k] (List.getElem?_eq_getElem hk)
end

/-- an int's cell -/
abbrev i64 (n : Int) : Value := .int .i64 n

theorem ret_int {k : IntKind} {a b : Int} (h : a = b) : Ending.returned (.int k a) = .returned (.int k b) := by rw [h]
theorem ret_bool {a b : Bool} (h : a = b) : Ending.returned (.bool a) = .returned (.bool b) := by rw [h]

theorem dec_true {p : Prop} [Decidable p] (h : p) : true = decide p := (decide_eq_true h).symm
theorem dec_iff {p q : Prop} [Decidable p] [Decidable q] (h : p ↔ q) : decide p = decide q := decide_eq_decide.2 h
theorem dec_false {p : Prop} [Decidable p] (h : ¬ p) : false = decide p := (decide_eq_false h).symm

/-- Go's 'int(uint(a) % n)' -/
theorem umod_bd (a n : Int) (h0 : 0 < n) (hn : n ≤ 9223372036854775807) : 0 ≤ wrap64 ((IntKind.u64.wrap a).tmod n) ∧ wrap64 ((IntKind.u64.wrap a).tmod n) < n := by
  have hu : 0 ≤ IntKind.u64.wrap a := by
    have hw := wf_wrap .u64 a
    exact (bounds_u64 hw).1
  rw [Int.tmod_eq_emod_of_nonneg hu]
  have h1 := Int.emod_nonneg (IntKind.u64.wrap a) (Int.ne_of_gt h0)
  have h2 := Int.emod_lt_of_pos (IntKind.u64.wrap a) h0
  rw [IntWalk.wrap64_in _ ⟨by omega, by omega⟩]
  exact ⟨h1, h2⟩

theorem info_int : (Try.prog.info? 3).map (fun i => (i.zero, i.size, i.bytes)) = some (some (.int .i64 0), 1, 8) := by kernel_rfl

/-- the post behind a name of its own, so that the walk leaves it as it is -/
theorem hide_post {P : Program} {f : FuncId} {args : Array Value} {w : World} {R : Ending → World → Prop} (h : ∀ D : Ending → World → Prop, Hid (∀ e w', R e w' → D e w') → Calls P f args w D) : Calls P f args w R :=
  h R (fun _ _ h => h)

/-! ### What a call leaves as it was -/
theorem Below.step {W w w' : World} (h : Below W.heap.size W w) (h' : Below w.heap.size w w') : Below W.heap.size W w' := h.trans (h'.mono h.size)
theorem grown_below {w w' : World} (h : Below w.heap.size w w') (row : Option Nat) : w.grownBy w' row := ⟨h.os, h.tape, h.output, h.size, fun k hk _ => h.block k hk⟩
theorem below_grown {B : Nat} {W w w' : World} {g : Nat} (h : Below B W w) (hg : w.grownBy w' (some g)) (hB : B ≤ w.heap.size) (hgB : B ≤ g) : Below B W w' :=
  h.grown hg hB (fun k hk => by injection hk with hk; omega)
theorem grown_step {w w1 w2 : World} {row : Option Nat} (h : w.grownBy w1 row) (h' : w1.grownBy w2 row) : w.grownBy w2 row :=
  ⟨h'.os.trans h.os, h'.tape.trans h.tape, h'.output.trans h.output, Nat.le_trans h.size h'.size, fun k hk hne => (h'.block k (Nat.lt_of_lt_of_le hk h.size) hne).trans (h.block k hk hne)⟩
theorem grown_refl (w : World) (row : Option Nat) : w.grownBy w row := ⟨rfl, rfl, rfl, Nat.le_refl _, fun _ _ _ => rfl⟩
theorem grown_alloc {w w' : World} {row : Option Nat} (h : w.grownBy w' row) (o : Obj) : w.grownBy (w'.alloc o) row :=
  grown_step h ⟨rfl, rfl, rfl, by simp, fun k hk _ => Below.heap_alloc _ _ _ hk⟩
theorem grown_drew {w w' : World} {row : Option Nat} (h : w.grownBy w' row) : w.grownBy w'.drew row := ⟨h.os, h.tape, h.output, h.size, h.block⟩
theorem grown_set {w w' : World} {g : Nat} (h : w.grownBy w' (some g)) {p : Addr} (hp : p.block = g ∨ w.heap.size ≤ p.block) (u : Value) : w.grownBy (w'.setCell p u) (some g) :=
  ⟨h.os, h.tape, h.output, by simpa [World.setCell] using h.size, fun k hk hne => (Below.heap_setCell w' p u k (by
    intro e
    rcases hp with hp | hp
    · exact hne (by rw [e, hp])
    · omega)).trans (h.block k hk hne)⟩

/-! ### The last step: a law that only reads what it was given, and answers true -/
section
variable {H : Type} {enc : TypeId × Value → H} {P : Program}

theorem trodAll_below {W W' : World} (hl : laidOutB P = true) (hb : Below W.heap.size W W') :
    ∀ {ts : List TypeId} {vs : List Value} {ds : List (DataW H)} {ps : List MemPlace}, ts.all (fun t => P.readableRec t && decide (t < P.types.size)) = true →
      DataW.TrodAll enc P W 0 (fun _ => true) true ts vs ds ps → (∀ x ∈ ps, x.block < W.heap.size) →
      DataW.TrodAll enc P W' 0 (fun b => decide (b < W.heap.size)) true ts vs ds ps ∧ DataW.TrodAll enc P W' 0 (fun _ => true) true ts vs ds ps
  | [], _, _, _, _, h, _ => by
    obtain ⟨rfl, rfl, rfl⟩ := trodAll_nil h
    exact ⟨rfl, rfl⟩
  | t :: ts, _, _, _, hr, h, hlt => by
    obtain ⟨v, vs, d, ds, p, q, rfl, rfl, rfl, h0, h1⟩ := trodAll_cons h
    simp only [List.all_cons, Bool.and_eq_true, decide_eq_true_eq] at hr
    obtain ⟨⟨hr1, hr2⟩, hr3⟩ := hr
    have hp : ∀ x ∈ p, x.block < W.heap.size := fun x hx => hlt x (List.mem_append_left _ hx)
    have hq : ∀ x ∈ q, x.block < W.heap.size := fun x hx => hlt x (List.mem_append_right _ hx)
    obtain ⟨g1, g2⟩ := trodAll_below hl hb hr3 h1 hq
    exact ⟨⟨p, q, WideElems.Trod_stays hl hr1 hr2 h0 (fun x hx => hb.same (hp x hx)) (fun x hx => by simpa using hp x hx), g1, rfl⟩,
      ⟨p, q, WideElems.Trod_stays hl hr1 hr2 h0 (fun x hx => hb.same (hp x hx)) (fun _ _ => rfl), g2, rfl⟩⟩

theorem post_true {f : Func} {s : ChangeSpec} {apart : Bool} {W W' : World} {args : Array Value} {ds gs : List (DataW H)} {before : List MemPlace} {tb : TypeId}
    (hl : laidOutB P = true) (hts : f.params.toList.all (fun t => P.readableRec t && decide (t < P.types.size)) = true)
    (hres : f.resultTypes = #[tb]) (htb : P.underlying tb = some .bool) (hvars : s.vars = [])
    (hW : DataW.Whole enc P f.params.toList s.vars apart W args.toList ds gs before)
    (hfn : s.fn H (ds ++ gs) = { results := [.lit (.bool true)], args := ds }) (hb : Below W.heap.size W W') :
    s.post enc P f apart true false false W args (.bool true) W' := by
  have hlt : ∀ x ∈ before, x.block < W.heap.size := fun x hx => hW.lt x hx
  have hW0 := hW
  obtain ⟨p, q, hA, hV, rfl, hz, hn⟩ := hW
  rw [hvars] at hV
  obtain ⟨rfl, rfl⟩ := trodVars_none hV
  simp only [List.append_nil] at hlt
  have hA' := (trodAll_below hl hb hts hA hlt).1
  refine ⟨ds, [], p ++ [], [], p, [], hW0, ?_, ?_, ?_, World.keptBut_mono (fun x hx => ⟨hx, .inr (.inl (by simpa using hx))⟩) (hb.frame (· ∈ p ++ [])), fun h => by cases h⟩
  · rw [hfn, hres]
    exact trodAll_mk1 (shut_bool htb true)
  · rw [hfn]
    exact hA'
  · rw [hfn, hvars]
    rfl

theorem trodAll_length {W : World} {base : Nat} {sp : Nat → Bool} {held : Bool} : ∀ {ts : List TypeId} {vs : List Value} {ds : List (DataW H)} {ps : List MemPlace},
    DataW.TrodAll enc P W base sp held ts vs ds ps → ds.length = ts.length ∧ vs.length = ts.length
  | [], _, _, _, h => by obtain ⟨rfl, rfl, rfl⟩ := trodAll_nil h; exact ⟨rfl, rfl⟩
  | _ :: _, _, _, _, h => by
    obtain ⟨v, vs, d, ds, p, q, rfl, rfl, rfl, h0, h1⟩ := trodAll_cons h
    have := trodAll_length h1
    exact ⟨by simp [this.1], by simp [this.2]⟩
end

/-- WHAT A LAW's CONTRACT GIVES ITS ROW. -/
theorem lift_law {C : Checked} {os : Os} {f : FuncId} {fn : Func} {s : ChangeSpec} {H : Type} {enc : TypeId × Value → H} {tb : TypeId}
    (own : ownKnob C.prog.godebug = none) (started : os.Started) (noInit : C.prog.inits.idxOf? f = none) (hfn : C.prog.funcs[f]? = some fn)
    (witness : ∃ (w : World) (tape : Tape) (i : Input), w.os = os ∧ (w.forCall tape i).Shaped C.prog ∧ i.vars = [] ∧ Input.okWide C.prog (w.forCall tape i) .any w.heap.size f i ∧
      s.pre6 enc C.prog fn [] false (w.forCall tape i).memory i.args ∧ ({} : Assume).holds C.prog (lone (Frame.enter C.prog f i.args .normal) [] (w.forCall tape i)))
    (hl : laidOutB C.prog = true) (hts : fn.params.toList.all (fun t => C.prog.readableRec t && decide (t < C.prog.types.size)) = true)
    (hres : fn.resultTypes = #[tb]) (htb : C.prog.underlying tb = some .bool) (hvars : s.vars = [])
    (hspec : ∀ ds : List (DataW H), ds.length = fn.params.toList.length → s.fn H ds = { results := [.lit (.bool true)], args := ds })
    (contract : ∀ (W : World) (base : Nat) (args : Array Value) (ds : List (DataW H)) (p : List MemPlace),
      (∀ (j : Nat) t v, fn.params[j]? = some t → args[j]? = some v → Value.okWide C.prog W .any base t v) →
      DataW.TrodAll enc C.prog W 0 (fun _ => true) true fn.params.toList args.toList ds p →
      Calls C.prog f args W fun e W' => e = .returned (.bool true) ∧ Below W.heap.size W W') :
    ReturnsInHanded {} C os f .any (s.pre6 enc C.prog fn [] false) (s.post enc C.prog fn false true false false) := by
  refine returnsInHanded_of_change (C := C) own started noInit hfn witness ?_
  intro W base args ds gs before hval hW _ _
  have hW0 := hW
  obtain ⟨p, q, hA, hV, rfl, hz, hn⟩ := hW
  have hlen := (trodAll_length hA).1
  have hV0 := hV
  rw [hvars] at hV0
  obtain ⟨rfl, rfl⟩ := trodVars_none hV0
  refine (contract W base args ds p hval hA).mono fun e W' ⟨he, hb⟩ => ⟨_, he, ?_⟩
  exact post_true hl hts hres htb hvars hW0 (by rw [List.append_nil]; exact hspec ds hlen) hb

end Go.Proofs.Ytkdcbidbciognaa

namespace Go.Proofs.Ytkdcbidbciognaa
set_option linter.unusedVariables false
set_option linter.unusedSimpArgs false
open Go.RowKit

section
variable {P : Program} {w : World} {ops : Array Oper} {rest : List Oper} {o : Oper} {a : Act} {Q : Exit → Act → World → Prop}

/-- append of one element onto a slice of the call's own -/
theorem wpList_append_one (hgd : o.guard = none) (s x : Operand) (t : TypeId)
    (ho : o.op = .call { callee := .builtin .append, args := #[s, x], argTypes := #[t, t] })
    (base : Nat) (e : TypeId) (z : Value) (bytes : Nat) (ht : P.underlying t = some (.slice e)) (hinfo : (P.info? e).map (fun i => (i.zero, i.size, i.bytes)) = some (some z, 1, bytes))
    (hzs : z.cells.size = 1) (hby : bytes ≤ 64)
    (v : Value) (n : Nat) (xs : List Value) (hs : a.eval s = v) (hown : w.ownsRow base e 1 v n xs)
    (g : Nat) (u : Value) (hx : a.eval x = .slice (some ⟨g, 0, none⟩) 1 1) (hcell : w.cell? ⟨g, 0, none⟩ = some u) (h1 : u.oneCell' = true)
    (hn : n ≤ 1000000000) (hbase : base ≤ w.heap.size)
    (h : ∀ v' w', w'.ownsRow base e 1 v' (n + 1) (xs ++ [u]) → w.grownBy w' v.ownBlock → wpList P ops Q rest (a.put o.dst v') w') : wpList P ops Q (o :: rest) a w := by
  obtain ⟨i0, hi, hz0, hz1, hz2⟩ := info_parts hinfo
  refine wpList_append_own w hgd s x t ho base e i0 z 1 bytes ht hi hz0 hz1 hz2 hzs (by decide) v n xs hs hown ⟨g, 0, none⟩ 1 1 [u] hx rfl ?_ ?_ ?_ ?_ hbase (fun v' w' h2 h3 _ => h v' w' h2 h3)
  · intro j y hj
    match j, hj with
    | 0, hj => simp at hj; subst hj; simpa [Addr.add] using hcell
  · intro y hy
    simp at hy
    subst hy
    exact h1
  · unfold maxLen; omega
  · calc (n + 1) * bytes ≤ 1000000001 * 64 := Nat.mul_le_mul (by omega) hby
      _ ≤ 140737488355328 := by omega
end

section
variable {w w' : World} {base : Nat} {e : TypeId} {v : Value} {n : Nat} {xs : List Value}

/-- what an owned slice looks like, and what it reads as -/
theorem own_view {α : Type} {f : α → Value} {l : List α} (h : w.ownsRow base e 1 v l.length (l.map f)) : ∃ A cap, v = .slice A l.length cap ∧ Sl f w A l := by
  rcases h.2 with ⟨rfl, hn⟩ | ⟨g, cap, cur, rfl, _, hg, _, _, hcs, htake⟩
  · have : l = [] := List.eq_nil_of_length_eq_zero hn
    subst this
    exact ⟨none, 0, rfl, Sl.nil _ _ _⟩
  · refine ⟨_, cap, rfl, fun j x hj => ⟨g, 0, rfl, ?_⟩⟩
    rw [Nat.zero_add, cell_of_row w g j cur e (0, 0) hg]
    have hlt : j < l.length := (List.getElem?_eq_some_iff.1 hj).1
    have h2 : (l.map f)[j]? = some (f x) := by rw [List.getElem?_map, hj]; rfl
    rw [← htake, List.getElem?_take, if_pos (by omega)] at h2
    simpa using h2

theorem own_shape {size : Nat} (h : w.ownsRow base e size v n xs) : ∃ A cap, v = .slice A n cap := by
  rcases h.2 with ⟨rfl, hn⟩ | ⟨g, cap, cur, rfl, _⟩
  · exact ⟨none, 0, by rw [hn]⟩
  · exact ⟨_, cap, rfl⟩

theorem own_ne {g : Nat} (h : w.ownsRow base e 1 v n xs) (hg : g < base) : some g ≠ v.ownBlock := fun he => by
  have := (h.lt g he.symm).1
  omega
end
end Go.Proofs.Ytkdcbidbciognaa

namespace Go.Proofs.Ytkdcbidbciognaa
set_option maxRecDepth 20000
set_option linter.unusedVariables false
set_option linter.unusedSimpArgs false
open Go.RowKit Go.ChangeShapes Go.WideShapes Go.Joins Go.Deep

section
variable {H : Type} {enc : TypeId × Value → H} {P : Program} {w : World} {base : Nat} {spare : Nat → Bool} {held : Bool}

theorem trod_ints_sl {t e : TypeId} {k : IntKind} {fuel : Nat} {cs : List Value} {x : DataW H × List MemPlace} (ht : P.underlying t = some (.slice e)) (he : P.underlying e = some (.int k)) (hc : P.cellsOf e = 1)
    (h : DataW.trod enc P w base spare held fuel t cs = some x) :
    ∃ (A : Option Addr) (cap : Nat) (l : List Int), cs = [.slice A l.length cap] ∧ l.length ≤ cap ∧ cap ≤ 9223372036854775807 ∧ Sl (fun n => .int k n) w A l ∧ ∀ n ∈ l, (Lit.int k n).wf = true := by
  rcases Go.ChangeShapes.open_ints ht he hc h with ⟨rfl, _⟩ | ⟨a, len, cap, zs, rfl, _, hl, hm, hz, _, hcell, hwf⟩
  · exact ⟨none, 0, [], rfl, Nat.le_refl _, by omega, Sl.nil _ _ _, by simp⟩
  · have hlz : len ≤ zs.length := by rw [hz]; split <;> omega
    refine ⟨some a, cap, zs.take len, by simp [Nat.min_eq_left hlz], by simp; omega, by unfold maxLen at hm; omega, fun j v hj => ?_, fun n hn => hwf n (List.mem_of_mem_take hn)⟩
    rw [List.getElem?_take] at hj
    split at hj
    · have hj2 : j < zs.length := (List.getElem?_eq_some_iff.1 hj).1
      have hpos : 0 < zs.length := by omega
      obtain ⟨b, off, rfl, hat⟩ := ints_at hcell hpos
      refine ⟨b, off, rfl, ?_⟩
      rw [hat j hj2, List.getD, hj]
      rfl
    · cases hj

/-- a byte's cell -/
def u8 (b : UInt8) : Value := .int .u8 (b.toNat : Int)

theorem trod_bytes_sl {t e : TypeId} {fuel : Nat} {cs : List Value} {x : DataW H × List MemPlace} (ht : P.underlying t = some (.slice e)) (he : P.underlying e = some (.int .u8)) (hc : P.cellsOf e = 1)
    (h : DataW.trod enc P w base spare held fuel t cs = some x) :
    ∃ (A : Option Addr) (cap : Nat) (l : List UInt8), cs = [.slice A l.length cap] ∧ l.length ≤ cap ∧ cap ≤ 9223372036854775807 ∧ Sl u8 w A l := by
  obtain ⟨A, cap, l, rfl, h1, h2, h3, h4⟩ := trod_ints_sl ht he hc h
  refine ⟨A, cap, l.map fun n => UInt8.ofNat n.toNat, by simp, by simpa using h1, h2, fun j v hj => ?_⟩
  rw [List.getElem?_map] at hj
  obtain ⟨n, hn, rfl⟩ := Option.map_eq_some_iff.1 hj
  obtain ⟨b, o, rfl, hcell⟩ := h3 j n hn
  refine ⟨b, o, rfl, hcell.trans ?_⟩
  have hw := bounds_u8 (h4 n (List.mem_of_getElem? hn))
  unfold u8
  congr 2
  rw [UInt8.toNat_ofNat']
  omega
end

theorem cells_int : Try.prog.cellsOf 3 = 1 := by kernel_rfl
theorem cells_chain : Try.prog.cellsOf 26 = 2 := by kernel_rfl
/-- a chain that came in -/
theorem open_chain {H : Type} {enc : TypeId × Value → H} {W : World} {base : Nat} {r : Reach} {v : Value} {d : DataW H} {p : List MemPlace}
    (hval : Value.okWide Try.prog W r base 26 v) (h : DataW.Trod enc Try.prog W 0 (fun _ => true) true 26 v d p) :
    ∃ (ep : Int) (A : Option Addr) (cap : Nat) (l : List Int), v = .agg #[.int .i64 ep, .slice A l.length cap] ∧ (Lit.int .i64 ep).wf = true ∧ l.length ≤ cap ∧ cap ≤ 9223372036854775807 ∧ Sl i64 W A l ∧ ∀ n ∈ l, (Lit.int .i64 n).wf = true := by
  obtain ⟨c0, c1, y0, y1, m, rfl, _, _, hy0, hy1⟩ := open_agg2 Try.underlying26 (by kernel_rfl) cells_chain hval h
  obtain ⟨ep, e0, _, w0⟩ := DataW.trod_int Try.underlying3 hy0
  obtain ⟨A, cap, l, e1, h1, h2, h3, h4⟩ := trod_ints_sl Try.underlying24 Try.underlying3 cells_int hy1
  simp only [List.cons.injEq, and_true] at e0 e1
  subst e0; subst e1
  exact ⟨ep, A, cap, l, rfl, w0, h1, h2, h3, h4⟩
end Go.Proofs.Ytkdcbidbciognaa

namespace Go.Proofs.Ytkdcbidbciognaa
set_option linter.unusedVariables false
set_option linter.unusedSimpArgs false
open Go.RowKit

/-- from w to w' new blocks came; of those that were there only blocks in s may have turned -/
structure Frm (s : Nat → Prop) (w w' : World) : Prop where
  os : w'.os = w.os
  tape : w'.tape = w.tape
  output : w'.output = w.output
  size : w.heap.size ≤ w'.heap.size
  block : ∀ k, k < w.heap.size → ¬ s k → w'.heap[k]? = w.heap[k]?

section
variable {s s' : Nat → Prop} {w w' w1 w2 : World}
theorem Frm.refl (s : Nat → Prop) (w : World) : Frm s w w := ⟨rfl, rfl, rfl, Nat.le_refl _, fun _ _ _ => rfl⟩
theorem Frm.trans (h : Frm s w w1) (h' : Frm s' w1 w2) (hs : ∀ k, k < w.heap.size → s' k → s k) : Frm s w w2 :=
  ⟨h'.os.trans h.os, h'.tape.trans h.tape, h'.output.trans h.output, Nat.le_trans h.size h'.size, fun k hk hn =>
    (h'.block k (Nat.lt_of_lt_of_le hk h.size) (fun h2 => hn (hs k hk h2))).trans (h.block k hk hn)⟩
theorem Frm.of_below (h : Below w.heap.size w w') (s : Nat → Prop) : Frm s w w' := ⟨h.os, h.tape, h.output, h.size, fun k hk _ => h.block k hk⟩
theorem Frm.of_grown {row : Option Nat} (h : w.grownBy w' row) (hs : ∀ k, some k = row → s k) : Frm s w w' := ⟨h.os, h.tape, h.output, h.size, fun k hk hn => h.block k hk (fun e => hn (hs k e))⟩
theorem Frm.of_set (w : World) (p : Addr) (u : Value) (hs : s p.block) : Frm s w (w.setCell p u) :=
  ⟨rfl, rfl, rfl, by simp [World.setCell], fun k hk hn => Below.heap_setCell w p u k (fun e => hn (by rw [e]; exact hs))⟩
theorem Frm.of_alloc (w : World) (o : Obj) (s : Nat → Prop) : Frm s w (w.alloc o) := Frm.of_below ((Below.refl _ _).alloc (Nat.le_refl _) o) s
theorem Frm.drew (h : Frm s w w') : Frm s w w'.drew := ⟨h.os, h.tape, h.output, h.size, h.block⟩
theorem Frm.of_drew (h : Frm s w.drew w') : Frm s w w' := ⟨h.os, h.tape, h.output, h.size, h.block⟩
theorem Frm.of_drewN {n : Nat} (h : Frm s (w.drewN n) w') : Frm s w w' := ⟨h.os, h.tape, h.output, h.size, h.block⟩
theorem Frm.mono (h : Frm s w w') (hs : ∀ k, s k → s' k) : Frm s' w w' := ⟨h.os, h.tape, h.output, h.size, fun k hk hn => h.block k hk (fun h2 => hn (hs k h2))⟩
theorem Frm.below {B : Nat} (h : Frm s w w') (hB : B ≤ w.heap.size) (hs : ∀ k, s k → B ≤ k) : Below B w w' :=
  ⟨h.os, h.tape, h.output, h.size, fun k hk => h.block k (Nat.lt_of_lt_of_le hk hB) (fun h2 => by have := hs k h2; omega)⟩
theorem Frm.step {B : Nat} {W : World} (hb : Below B W w) (h : Frm s w w') (hB : B ≤ w.heap.size) (hs : ∀ k, s k → B ≤ k) : Below B W w' := hb.trans (h.below hB hs)
theorem Blk.frm {g : Nat} {t : TypeId} {cs : Array Value} (h : Blk w g t cs) (hf : Frm s w w') (hg : ¬ s g) : Blk w' g t cs := (hf.block g h.lt hg).trans h
theorem Sl.frm {α : Type} {f : α → Value} {a : Addr} {l : List α} (h : Sl f w (some a) l) (hf : Frm s w w') (hg : ¬ s a.block) : Sl f w' (some a) l := fun j v hj => by
  obtain ⟨b, o, e, hc⟩ := h j v hj
  injection e with e
  subst e
  exact ⟨b, o, rfl, (World.cell?_of_block (hf.block b (World.block_lt_of_cell? w _ hc) hg)).trans hc⟩
theorem own_frm {base n : Nat} {e : TypeId} {v : Value} {xs : List Value} (h : w.ownsRow base e 1 v n xs) (hf : Frm s w w') (hg : ∀ k, v.ownBlock = some k → ¬ s k) : w'.ownsRow base e 1 v n xs := by
  refine ⟨h.1, ?_⟩
  rcases h.2 with hn | ⟨g, cap, cur, rfl, hb, hgg, r⟩
  · exact .inl hn
  · exact .inr ⟨g, cap, cur, rfl, hb, (hf.block g (Array.getElem?_eq_some_iff.1 hgg).1 (hg g rfl)).trans hgg, r⟩
/-- rows of different element types lie apart -/
theorem own_type {base n g : Nat} {e t : TypeId} {v : Value} {xs : List Value} {cs : Array Value} (h : w.ownsRow base e 1 v n xs) (hb : Blk w g t cs) (hne : e ≠ t) : ∀ k, v.ownBlock = some k → k ≠ g := by
  rintro k hk rfl
  rcases h.2 with ⟨rfl, _⟩ | ⟨g', cap, cur, rfl, _, hgg, _⟩
  · simp [Value.ownBlock] at hk
  · simp [Value.ownBlock] at hk
    subst hk
    have hb' : w.heap[g']? = some (.cells cs t (0, 0)) := hb
    rw [hgg] at hb'
    injection hb' with hb'
    injection hb' with _ ht
    exact hne ht
theorem Blk.apart {g g' : Nat} {t t' : TypeId} {cs cs' : Array Value} (h : Blk w g t cs) (h' : Blk w g' t' cs') (hne : t ≠ t') : g ≠ g' := by
  rintro rfl
  have e1 : w.heap[g]? = some (.cells cs t (0, 0)) := h
  have e2 : w.heap[g]? = some (.cells cs' t' (0, 0)) := h'
  rw [e1] at e2
  injection e2 with e2
  injection e2 with _ ht
  exact hne ht
/-- an owned slice may be said to begin later, if it does -/
theorem own_base {base base' n : Nat} {e : TypeId} {v : Value} {xs : List Value} (h : w.ownsRow base e 1 v n xs) (hb : ∀ k, v.ownBlock = some k → base' ≤ k) : w.ownsRow base' e 1 v n xs := by
  refine ⟨h.1, ?_⟩
  rcases h.2 with hn | ⟨g, cap, cur, rfl, _, r⟩
  · exact .inl hn
  · exact .inr ⟨g, cap, cur, rfl, hb g rfl, r⟩
end

section
variable {P : Program} {w : World} {ops : Array Oper} {rest : List Oper} {o : Oper} {a : Act} {Q : Exit → Act → World → Prop}

/-- append of a list onto a slice of the call's own: what it comes to -/
theorem run_append_list (base : Nat) (t ty e : TypeId) (z : Value) (bytes : Nat) (ht : P.underlying t = some (.slice e)) (hinfo : (P.info? e).map (fun i => (i.zero, i.size, i.bytes)) = some (some z, 1, bytes))
    (hzs : z.cells.size = 1) (hby : bytes ≤ 64) (v : Value) (n : Nat) (xs : List Value) (hown : w.ownsRow base e 1 v n xs)
    {α : Type} (f : α → Value) (A : Option Addr) (l : List α) (cap : Nat) (hs : Sl f w A l) (h1 : ∀ x, (f x).oneCell' = true)
    (hn : n + l.length ≤ 2000000000000) (hbase : base ≤ w.heap.size) :
    ∃ v' w', (Builtin.append_ #[t, t] ty #[v, .slice A l.length cap]).run P w = .ok v' w' ∧ w'.ownsRow base e 1 v' (n + l.length) (xs ++ l.map f) ∧ w.grownBy w' v.ownBlock ∧
      (v'.ownBlock = v.ownBlock ∨ ∃ k, v'.ownBlock = some k ∧ w.heap.size ≤ k) := by
  obtain ⟨i0, hi, hz0, hz1, hz2⟩ := info_parts hinfo
  rcases A with _ | ad
  · have hl : l = [] := by
      cases l with
      | nil => rfl
      | cons x r => obtain ⟨b, o, e, _⟩ := hs 0 x rfl; cases e
    subst hl
    refine ⟨v, w, ?_, by simpa using hown, grown_refl w _, .inl rfl⟩
    rcases hown.2 with ⟨rfl, rfl⟩ | ⟨g, cap', cur, rfl, _, _, hnc, _⟩
    · simp [Builtin.append_, run_underlying ht, sizeOf, typeInfo, hi, Builtin.lenOf, Builtin.firstCells]
    · simp [Builtin.append_, run_underlying ht, sizeOf, typeInfo, hi, Builtin.lenOf, Builtin.firstCells, hnc, storeCells]
  · have hc : ∀ (j : Nat) u, (l.map f)[j]? = some u → w.cell? (ad.add j) = some u := by
      intro j u hj
      rw [List.getElem?_map] at hj
      obtain ⟨x, hx, rfl⟩ := Option.map_eq_some_iff.1 hj
      obtain ⟨b, o, e, hc⟩ := hs j x hx
      injection e with e
      subst e
      rw [Go.WideShapes.add_plain]
      exact hc
    have hb64 : (n + l.length) * bytes ≤ 140737488355328 := by
      calc (n + l.length) * bytes ≤ 2000000000000 * 64 := Nat.mul_le_mul hn hby
        _ ≤ 140737488355328 := by omega
    obtain ⟨v', w', hr, h2, h3, _, h5⟩ := run_append_own_at (P := P) w base t ty e i0 z 1 bytes ht hi hz0 hz1 hz2 hzs (by decide) v n xs hown ad l.length cap (l.map f) (by simp) hc (by simp; exact fun x _ => h1 x) (by unfold maxLen; omega) hb64 hbase
    exact ⟨v', w', hr, h2, h3, h5.imp id (fun h => ⟨_, h, Nat.le_refl _⟩)⟩

theorem wp_append_list {K : Act → World → Prop} (s x : Operand) (t : TypeId)
    (ho : o.op = .call { callee := .builtin .append, args := #[s, x], argTypes := #[t, t] })
    (base : Nat) (e : TypeId) (z : Value) (bytes : Nat) (ht : P.underlying t = some (.slice e)) (hinfo : (P.info? e).map (fun i => (i.zero, i.size, i.bytes)) = some (some z, 1, bytes))
    (hzs : z.cells.size = 1) (hby : bytes ≤ 64) (v : Value) (n : Nat) (xs : List Value) (hs : a.eval s = v) (hown : w.ownsRow base e 1 v n xs)
    {α : Type} (f : α → Value) (A : Option Addr) (l : List α) (m cap : Nat) (hm : m = l.length) (hx : a.eval x = .slice A m cap) (hsl : Sl f w A l) (h1 : ∀ x, (f x).oneCell' = true)
    (hn : n + l.length ≤ 2000000000000) (hbase : base ≤ w.heap.size)
    (h : ∀ v' w', w'.ownsRow base e 1 v' (n + l.length) (xs ++ l.map f) → w.grownBy w' v.ownBlock → (v'.ownBlock = v.ownBlock ∨ ∃ k, v'.ownBlock = some k ∧ w.heap.size ≤ k) → K (a.put o.dst v') w') : o.wp P a w K Q := by
  subst hm
  obtain ⟨v', w', hr, h2, h3, h4⟩ := run_append_list (P := P) base t o.type e z bytes ht hinfo hzs hby v n xs hown f A l cap hsl h1 hn hbase
  unfold Oper.wp execOp
  simp only [ho, resolve, invoke, builtin, Sem.run_bind, Sem.run_pure, Result.andThen_ok, List.map_toArray, List.map_cons, List.map_nil, hs, hx, hr]
  exact h v' w' h2 h3 h4

theorem wpList_append_list (hgd : o.guard = none) (s x : Operand) (t : TypeId)
    (ho : o.op = .call { callee := .builtin .append, args := #[s, x], argTypes := #[t, t] })
    (base : Nat) (e : TypeId) (z : Value) (bytes : Nat) (ht : P.underlying t = some (.slice e)) (hinfo : (P.info? e).map (fun i => (i.zero, i.size, i.bytes)) = some (some z, 1, bytes))
    (hzs : z.cells.size = 1) (hby : bytes ≤ 64) (v : Value) (n : Nat) (xs : List Value) (hs : a.eval s = v) (hown : w.ownsRow base e 1 v n xs)
    {α : Type} (f : α → Value) (A : Option Addr) (l : List α) (m cap : Nat) (hm : m = l.length) (hx : a.eval x = .slice A m cap) (hsl : Sl f w A l) (h1 : ∀ x, (f x).oneCell' = true)
    (hn : n + l.length ≤ 2000000000000) (hbase : base ≤ w.heap.size)
    (h : ∀ v' w', w'.ownsRow base e 1 v' (n + l.length) (xs ++ l.map f) → w.grownBy w' v.ownBlock → (v'.ownBlock = v.ownBlock ∨ ∃ k, v'.ownBlock = some k ∧ w.heap.size ≤ k) → wpList P ops Q rest (a.put o.dst v') w') :
    wpList P ops Q (o :: rest) a w :=
  wpList_plain hgd fun _ hK => wp_append_list s x t ho base e z bytes ht hinfo hzs hby v n xs hs hown f A l m cap hm hx hsl h1 hn hbase fun v' w' h2 h3 h4 => hK _ _ (h v' w' h2 h3 h4)
end

/-! ### copy of a whole list into a row of the same length -/
section
variable {P : Program} {w : World}
theorem run_copy_all {α : Type} (f : α → Value) (dT sT ty elem : TypeId) (hu : P.underlying dT = some (.slice elem)) (hsz : (P.info? elem).map (·.size) = some 1) (h1 : ∀ x, (f x).oneCell' = true)
    (g : Nat) (t : TypeId) (cur : Array Value) (l : List α) (A : Option Addr) (dCap cap : Nat) (hg : Blk w g t cur) (hc : cur.size = l.length) (hs : Sl f w A l) :
    ∃ w', (Builtin.copy_ #[dT, sT] ty #[.slice (some ⟨g, 0, none⟩) l.length dCap, .slice A l.length cap]).run P w = .ok (.int .i64 l.length) w' ∧ Blk w' g t (l.map f).toArray ∧ w.grownBy w' (some g) := by
  cases l with
  | nil =>
    refine ⟨w, run_copy_none w dT sT ty elem _ A 0 dCap 0 cap hu hsz rfl, ?_, grown_refl w _⟩
    have : cur = #[] := Array.eq_empty_of_size_eq_zero hc
    subst this
    exact hg
  | cons x r =>
    obtain ⟨b, o, rfl, _⟩ := hs 0 x rfl
    have hsrc : ∀ (j : Nat) v, ((x :: r).map f)[j]? = some v → w.cell? ((⟨b, o, none⟩ : Addr).add j) = some v := by
      intro j v hj
      rw [List.getElem?_map] at hj
      obtain ⟨y, hy, rfl⟩ := Option.map_eq_some_iff.1 hj
      obtain ⟨b', o', e, hcl⟩ := hs j y hy
      injection e with e
      injection e with e1 e2
      subst e1; subst e2
      rw [Go.WideShapes.add_plain]
      exact hcl
    have hr := run_copy_row (P := P) w dT sT ty elem g 0 (x :: r).length dCap ⟨b, o, none⟩ (x :: r).length cap cur t ((x :: r).map f) hu hsz hg (by rw [List.length_map]; exact (Nat.min_self _).symm) hsrc (by rw [List.length_map]; omega) (by
      intro v hv
      obtain ⟨y, _, rfl⟩ := List.mem_map.1 hv
      exact h1 y)
    have hrow : cur.toList.take 0 ++ (x :: r).map f ++ cur.toList.drop (0 + ((x :: r).map f).length) = (x :: r).map f := by
      rw [List.take_zero, List.nil_append, List.drop_of_length_le (by simp; simp at hc; omega), List.append_nil]
    rw [hrow] at hr
    refine ⟨_, by rw [hr, List.length_map]; rfl, setRow_heap w g cur _ t _ hg, ⟨rfl, rfl, rfl, by simp [World.setRow], fun k _ hk => setRow_other w g k _ (fun e => hk (by rw [e]))⟩⟩
end

/-! ### Bytes and strings -/
section
variable {P : Program} {w : World}
/-- the string of some bytes -/
def str (l : List UInt8) : ByteArray := ⟨l.toArray⟩
theorem str_size (l : List UInt8) : (str l).size = l.length := by simp [str, ByteArray.size]
theorem str_inj {a b : List UInt8} (h : str a = str b) : a = b := by
  have := congrArg (fun s : ByteArray => s.data.toList) h
  simpa [str] using this
theorem str_toList (l : List UInt8) : (str l).data.toList = l := by simp [str]
/-- 'string(b)' -/
theorem run_str (src dst e : TypeId) (A : Option Addr) (l : List UInt8) (cap : Nat) (hs : P.underlying src = some (.slice e)) (he : P.underlying e = some (.int .u8)) (hd : P.underlying dst = some .string) (hsl : Sl u8 w A l) :
    (convert src dst (.slice A l.length cap)).run P w = .ok (.string (str l)) w := by
  rcases A with _ | ad
  · have hl : l = [] := by
      cases l with
      | nil => rfl
      | cons x r => obtain ⟨b, o, e, _⟩ := hsl 0 x rfl; cases e
    subst hl
    exact run_convert_bytes_nil w src e hs he 0 cap dst hd
  · refine run_convert_bytes_back w src dst e ad cap l hs he hd (fun j hj => ?_)
    obtain ⟨b, o, e, hc⟩ := hsl j l[j] (List.getElem?_eq_getElem hj)
    injection e with e
    subst e
    rw [Go.WideShapes.add_plain]
    exact hc
end

theorem info_byte : (Try.prog.info? 5).map (fun i => (i.zero, i.size, i.bytes)) = some (some (.int .u8 0), 1, 1) := by kernel_rfl
theorem size_byte : (Try.prog.info? 5).map (·.size) = some 1 := by kernel_rfl
theorem cells_byte : Try.prog.cellsOf 5 = 1 := by kernel_rfl
end Go.Proofs.Ytkdcbidbciognaa

namespace Go.Proofs.Ytkdcbidbciognaa
set_option linter.unusedVariables false
set_option linter.unusedSimpArgs false
open Go.RowKit

/-- where a list has its first x, as Go's int, counted from k -/
def idx (x : Int) : List Int → Int → Int
  | [], _ => -1
  | y :: l, k => if x = y then k else idx x l (k + 1)

theorem idx_ge (x : Int) : ∀ (l : List Int) (k : Int), 0 ≤ k → (0 ≤ idx x l k ↔ x ∈ l)
  | [], k, _ => by simp [idx]
  | y :: l, k, h => by
    unfold idx
    by_cases e : x = y
    · simp [e, h]
    · rw [if_neg e, idx_ge x l (k + 1) (by omega)]; simp [e]

theorem index_any (A : Option Addr) (cap : Nat) (l : List Int) (x : Int) (w : World) (hbig : l.length ≤ 9223372036854775807) (hs : Sl i64 w A l) :
    Calls Try.prog 90 #[.slice A l.length cap, .int .i64 x] w fun e w' => e = .returned (.int .i64 (idx x l 0)) ∧ w = w' := by
  obtain ⟨n, hn⟩ : ∃ n, n = l.length := ⟨_, rfl⟩
  rw [← hn] at hbig ⊢
  have HN := Lib.hid hn
  have HS := Lib.hid hs
  clear hn hs
  go_enter Try.func90, Try.ntmps90
  go_wp2
  go_loop [8] (fun i => ∃ k : Nat, k ≤ n ∧ i = .int .i64 k ∧ Hid (idx x l 0 = idx x (l.drop k) k)) (fun i => n - (intOf i).toNat)
  case atStart => exact ⟨0, Nat.zero_le _, rfl, rfl⟩
  case round =>
    obtain ⟨k, hk, rfl, Hi⟩ := hrel
    by_cases hlt : k < n
    · obtain ⟨b, o, rfl, hcell⟩ := HS.out.at_ (k := k) (by rw [← HN.out]; exact hlt)
      have hd : l.drop k = l[k]'(by rw [← HN.out]; exact hlt) :: l.drop (k + 1) := List.drop_eq_getElem_cons _
      have Hd := Lib.hid hd
      clear hd
      generalize l[k]'(by rw [← HN.out]; exact hlt) = y at *
      unfold i64 at hcell
      go_wp2
      · go_ret
        exact ⟨by rw [Hi.out, Hd.out]; simp_all [idx], rfl⟩
      · go_round
        case rel => exact ⟨k + 1, by omega, by go_num, by show _ = _; rw [Hi.out, Hd.out]; simp_all [idx]⟩
        case measure => simp [intOf]; omega
    · go_wp2
      go_ret
      exact ⟨by rw [Hi.out, List.drop_of_length_le (by have := HN.out; omega)]; rfl, rfl⟩

theorem contains_any (A : Option Addr) (cap : Nat) (l : List Int) (x : Int) (w : World) (hbig : l.length ≤ 9223372036854775807) (hs : Sl i64 w A l) :
    Calls Try.prog 83 #[.slice A l.length cap, .int .i64 x] w fun e w' => e = .returned (.bool (decide (x ∈ l))) ∧ w = w' := by
  have hi := index_any A cap l x w hbig hs
  have hg := idx_ge x l 0 (by omega)
  have HG := Lib.hid hg
  clear hg
  generalize l.length = n at *
  generalize idx x l 0 = r at *
  have HI := Lib.hid hi
  clear hi hs
  go_enter Try.func83, Try.ntmps83
  go_wp2_with (go_at_call 90; refine HI.out.mono ?_; rintro e w' ⟨rfl, rfl⟩)
  go_ret
  exact ⟨ret_bool (by simp [HG.out]), rfl⟩
end Go.Proofs.Ytkdcbidbciognaa

namespace Go.Proofs.Ytkdcbidbciognaa
set_option linter.unusedVariables false
set_option linter.unusedSimpArgs false
open Go.RowKit

/-- which nodes may stand behind others: each below five, none twice -/
def okNodes : List Int → List Int → Bool
  | _, [] => true
  | pre, x :: r => decide (0 ≤ x ∧ x ≤ 4) && !decide (x ∈ pre) && okNodes (pre ++ [x]) r
/-- which chains may be -/
def mayChainB (ep : Int) (l : List Int) : Bool := decide (0 ≤ ep ∧ ep ≤ 1073741824) && decide (1 ≤ l.length ∧ l.length ≤ 5) && okNodes [] l

theorem withinC_any (n lo hi : Int) (w : World) : Calls Try.prog 82 #[.int .i64 n, .int .i64 lo, .int .i64 hi] w fun e w' => e = .returned (.bool (decide (lo ≤ n ∧ n ≤ hi))) ∧ w = w' := by
  generalize hr : decide (lo ≤ n ∧ n ≤ hi) = r
  have HR := Lib.hid hr
  clear hr
  by_cases h1 : lo ≤ n
  all_goals
    go_enter Try.func82, Try.ntmps82
    go_wp2
    go_ret
    exact ⟨ret_bool (by rw [← HR.out]; first | exact dec_false (by omega) | exact dec_iff (by omega)), rfl⟩

theorem Sl.take {α : Type} {f : α → Value} {w : World} {A : Option Addr} {l : List α} (h : Sl f w A l) (k : Nat) : Sl f w A (l.take k) := fun j v hj => by
  rw [List.getElem?_take] at hj
  split at hj
  · exact h j v hj
  · cases hj

theorem okNodes_step (l : List Int) (k : Nat) (h : k < l.length) : okNodes (l.take k) (l.drop k) = (decide (0 ≤ l[k] ∧ l[k] ≤ 4) && !decide (l[k] ∈ l.take k) && okNodes (l.take (k + 1)) (l.drop (k + 1))) := by
  rw [List.drop_eq_getElem_cons h, okNodes, List.take_succ_eq_append_getElem h]
theorem okNodes_end (l : List Int) (k : Nat) (h : l.length ≤ k) : okNodes (l.take k) (l.drop k) = true := by
  rw [List.drop_of_length_le h]; rfl

set_option maxHeartbeats 1000000 in
theorem mayChain_any (ep : Int) (A : Option Addr) (cap : Nat) (l : List Int) (w : World) (hl : l.length ≤ 9223372036854775807) (hcap : l.length ≤ cap) (hs : Sl i64 w A l) :
    Calls Try.prog 45 #[.agg #[.int .i64 ep, .slice A l.length cap]] w fun e w' => e = .returned (.bool (mayChainB ep l)) ∧ Below w.heap.size w w' := by
  generalize hr : mayChainB ep l = r
  have HR := Lib.hid hr
  clear hr
  unfold mayChainB at HR
  obtain ⟨n, hn⟩ : ∃ n, n = l.length := ⟨_, rfl⟩
  rw [← hn] at hl hcap HR ⊢
  have HN := Lib.hid hn
  clear hn
  have HB : Hid (∀ o, Below w.heap.size w (w.alloc o)) := fun o => (Below.refl _ _).alloc (Nat.le_refl _) _
  have HS : Hid (∀ o, Sl i64 (w.alloc o) A l) := fun o => hs.stay (HB.out o)
  clear hs
  have HW : Hid (∀ n lo hi W b, decide (lo ≤ n ∧ n ≤ hi) = b → Calls Try.prog 82 #[.int .i64 n, .int .i64 lo, .int .i64 hi] W fun e w' => e = .returned (.bool b) ∧ W = w') := fun n lo hi W b h => by rw [← h]; exact withinC_any n lo hi W
  by_cases h1 : 0 ≤ ep ∧ ep ≤ 1073741824
  case neg =>
    have H1 : Hid (∀ W, Calls Try.prog 82 #[.int .i64 ep, .int .i64 0, .int .i64 1073741824] W fun e w' => e = .returned (.bool false) ∧ W = w') := fun W => HW.out _ _ _ W false (decide_eq_false h1)
    go_enter Try.func45, Try.ntmps45
    go_wp2_with (go_at_call 82; (with_reducible refine (H1.out _).mono ?_); rintro e w' ⟨rfl, rfl⟩)
    go_ret
    exact ⟨ret_bool (by rw [← HR.out, decide_eq_false h1]; rfl), HB.out _⟩
  have H1 : Hid (∀ W, Calls Try.prog 82 #[.int .i64 ep, .int .i64 0, .int .i64 1073741824] W fun e w' => e = .returned (.bool true) ∧ W = w') := fun W => HW.out _ _ _ W true (decide_eq_true h1)
  by_cases h2 : 1 ≤ n ∧ n ≤ 5
  case neg =>
    have H2 : Hid (∀ W, Calls Try.prog 82 #[.int .i64 n, .int .i64 1, .int .i64 5] W fun e w' => e = .returned (.bool false) ∧ W = w') := fun W => HW.out _ _ _ W false (decide_eq_false (by omega))
    go_enter Try.func45, Try.ntmps45
    go_wp2_with (first | (go_at_call 82; (with_reducible refine (H1.out _).mono ?_); rintro e w' ⟨rfl, rfl⟩) | (go_at_call 82; (with_reducible refine (H2.out _).mono ?_); rintro e w' ⟨rfl, rfl⟩))
    go_ret
    exact ⟨ret_bool (by rw [← HR.out, decide_eq_false h2]; simp), HB.out _⟩
  have H2 : Hid (∀ W, Calls Try.prog 82 #[.int .i64 n, .int .i64 1, .int .i64 5] W fun e w' => e = .returned (.bool true) ∧ W = w') := fun W => HW.out _ _ _ W true (decide_eq_true (by omega))
  have HO : Hid (okNodes [] l = r) := by show _ = _; rw [← HR.out, decide_eq_true h1, decide_eq_true h2]; rfl
  clear HR h1
  go_enter Try.func45, Try.ntmps45
  go_wp2_with (first | (go_at_call 82; (with_reducible refine (H1.out _).mono ?_); rintro e w' ⟨rfl, rfl⟩) | (go_at_call 82; (with_reducible refine (H2.out _).mono ?_); rintro e w' ⟨rfl, rfl⟩))
  clear H1 H2
  have HQ : Hid (∀ k x, Calls Try.prog 83 #[.slice A (min k l.length) cap, .int .i64 x] (w.alloc (.cells #[.int .i64 ep, .slice A n cap] 26)) fun e w' => e = .returned (.bool (decide (x ∈ l.take k))) ∧ (w.alloc (.cells #[.int .i64 ep, .slice A n cap] 26)) = w') := fun k x => by
    have := contains_any A cap (l.take k) x (w.alloc (.cells #[.int .i64 ep, .slice A n cap] 26)) (by rw [List.length_take]; have := HN.out; omega) ((HS.out _).take k)
    rwa [List.length_take] at this
  go_loop [19] (fun i => ∃ k : Nat, k ≤ n ∧ i = .int .i64 k ∧ Hid (r = okNodes (l.take k) (l.drop k))) (fun i => n - (intOf i).toNat)
  case atStart => exact ⟨0, Nat.zero_le _, rfl, HO.out.symm⟩
  case round =>
    obtain ⟨k, hk, rfl, Hi⟩ := hrel
    by_cases hlt : k < n
    · obtain ⟨b, o, rfl, hcell⟩ := (HS.out (.cells #[.int .i64 ep, .slice A n cap] 26)).at_ (k := k) (by rw [← HN.out]; exact hlt)
      have Hd := Lib.hid (okNodes_step l k (by rw [← HN.out]; exact hlt))
      generalize l[k]'(by rw [← HN.out]; exact hlt) = x at *
      have hq := HQ.out k x
      rw [show min k l.length = k by have := HN.out; omega] at hq
      unfold i64 at hcell
      have hk1 : (k : Int) ≤ (cap : Int) := by omega
      have hk2 : (0 : Int) ≤ (k : Int) := by omega
      by_cases hx : 0 ≤ x ∧ x ≤ 4
      case neg =>
        have HX : Hid (∀ W, Calls Try.prog 82 #[.int .i64 x, .int .i64 0, .int .i64 4] W fun e w' => e = .returned (.bool false) ∧ W = w') := fun W => HW.out _ _ _ W false (decide_eq_false hx)
        have HE : Hid (r = false) := by show _ = _; rw [Hi.out, Hd.out, decide_eq_false hx]; rfl
        clear hq hx
        go_wp2_with (go_at_call 82; (with_reducible refine (HX.out _).mono ?_); rintro e w' ⟨rfl, rfl⟩)
        go_ret
        exact ⟨ret_bool HE.out.symm, HB.out _⟩
      have HX : Hid (∀ W, Calls Try.prog 82 #[.int .i64 x, .int .i64 0, .int .i64 4] W fun e w' => e = .returned (.bool true) ∧ W = w') := fun W => HW.out _ _ _ W true (decide_eq_true hx)
      cases hc : decide (x ∈ l.take k)
      · have HE : Hid (r = okNodes (l.take (k + 1)) (l.drop (k + 1))) := by show _ = _; rw [Hi.out, Hd.out, decide_eq_true hx, hc]; rfl
        rw [hc] at hq
        have HC := Lib.hid hq
        clear hq hc hx
        go_wp2_with (first | (go_at_call 82; (with_reducible refine (HX.out _).mono ?_); rintro e w' ⟨rfl, rfl⟩) | (go_at_call 83; (with_reducible refine HC.out.mono ?_); rintro e w' ⟨rfl, rfl⟩))
        go_round
        case rel => exact ⟨k + 1, by omega, by go_num, HE⟩
        case measure => simp [intOf]; omega
      · have HE : Hid (r = false) := by show _ = _; rw [Hi.out, Hd.out, decide_eq_true hx, hc]; rfl
        rw [hc] at hq
        have HC := Lib.hid hq
        clear hq hc hx
        go_wp2_with (first | (go_at_call 82; (with_reducible refine (HX.out _).mono ?_); rintro e w' ⟨rfl, rfl⟩) | (go_at_call 83; (with_reducible refine HC.out.mono ?_); rintro e w' ⟨rfl, rfl⟩))
        go_ret
        exact ⟨ret_bool HE.out.symm, HB.out _⟩
    · have HE : Hid (r = true) := by show _ = _; rw [Hi.out]; exact okNodes_end l k (by have := HN.out; omega)
      go_wp2
      go_ret
      exact ⟨ret_bool HE.out.symm, HB.out _⟩
end Go.Proofs.Ytkdcbidbciognaa

namespace Go.Proofs.Ytkdcbidbciognaa
set_option linter.unusedVariables false
set_option linter.unusedSimpArgs false
open Go.RowKit
section
variable {P : Program} {ops : Array Oper} {Q : Exit → Act → World → Prop} {md : Region.Mode} {S S' : World → Prop}
theorem wpAnyH_weak (h : ∀ w, S' w → S w) : ∀ (fuel : Nat) (listed : Array Bool) (a : Act) (w : World), wpAnyH P md ops Q S' fuel listed a w → wpAnyH P md ops Q S fuel listed a w
  | 0, _, _, _, H => H
  | fuel + 1, listed, a, w, H => ⟨H.1, fun i hi => wpOp_mono (fun a' w' h' => ⟨h _ h'.1, wpAnyH_weak h fuel _ a' w' h'.2⟩) (H.2 i hi)⟩

/-- all that is in w stays -/
def Ext (w W : World) : Prop := Below w.heap.size w W
theorem Ext.refl (w : World) : Ext w w := Below.refl _ _
theorem Ext.trans {w w1 w2 : World} (h : Ext w w1) (h' : Ext w1 w2) : Ext w w2 := Below.step h h'
theorem Ext.drewR {w w1 : World} (h : Ext w w1) : Ext w w1.drew := Below.drew h
theorem Ext.alloc (w : World) (o : Obj) : Ext w (w.alloc o) := (Below.refl _ _).alloc (Nat.le_refl _) _
theorem Ext.drewN {w w1 : World} {n : Nat} (h : Ext w w1) : Ext w (w1.drewN n) := by
  refine Below.trans h ?_
  induction n with
  | zero => exact Below.refl _ _
  | succ n ih => exact ih.drew

theorem op_at {i : Nat} {oi : Oper} {rs : List Oper} (h : ops.toList.drop i = oi :: rs) : ops[i]? = some oi := by
  rw [← Array.getElem?_toList]
  have := congrArg (fun l => l[0]?) h
  simpa using this
theorem ext_begin {id : Nat} {a : Act} {w : World} (hm : P.follows .mixedOrders = true) (h : wpAnyH P .any ops Q (Ext w.drew) ops.size (Array.replicate ops.size false) a w.drew) : (Code.region id ops true).wp P Q a w :=
  wp_region_held_drew hm (Ext.refl _) (fun _ => h)

theorem ext_take {i : Nat} {oi : Oper} {rs : List Oper} {v : Value} {fuel : Nat} {listed : Array Bool} {a : Act} {w : World} (hd : ops.toList.drop i = oi :: rs)
    (hs : Region.noSelect ops = true) (hf : Region.free md ops listed i = true) (hr : (Region.ready md ops listed).contains i = true)
    (hQ : ∀ c a w, Q (.panic c) (a.put oi.dst v) w → Q (.panic c) a w) (hw : Region.wanted oi (yielded ops a.tmps) = true) (hy : ∀ W, Ext w W → (execOp a.eval oi).run P W = .ok (.value v) W)
    (h : wpAnyH P md ops Q (Ext w) fuel (listed.setIfInBounds i true) (a.put oi.dst v) w) : wpAnyH P md ops Q (Ext w) (fuel + 1) listed a w :=
  wpAnyH_take (op_at hd) hs hf hr hQ (.inl ⟨hw, hy⟩) (Ext.refl _) h
theorem ext_skip {i : Nat} {oi : Oper} {rs : List Oper} {fuel : Nat} {listed : Array Bool} {a : Act} {w : World} (hd : ops.toList.drop i = oi :: rs)
    (hs : Region.noSelect ops = true) (hf : Region.free md ops listed i = true) (hr : (Region.ready md ops listed).contains i = true)
    (hQ : ∀ c a w, Q (.panic c) (a.put oi.dst undef) w → Q (.panic c) a w) (hw : Region.wanted oi (yielded ops a.tmps) = false)
    (h : wpAnyH P md ops Q (Ext w) fuel (listed.setIfInBounds i true) (a.put oi.dst undef) w) : wpAnyH P md ops Q (Ext w) (fuel + 1) listed a w :=
  wpAnyH_take (op_at hd) hs hf hr hQ (.inr ⟨hw, rfl⟩) (Ext.refl _) h
/-- a call of a Go function, when no other operation can come up -/
theorem ext_call {i : Nat} {oi : Oper} {rs : List Oper} {fuel : Nat} {listed : Array Bool} {a : Act} {w : World} (hd : ops.toList.drop i = oi :: rs) (hr : Region.ready md ops listed = [i]) (hw : Region.wanted oi (yielded ops a.tmps) = true)
    (h : ∀ K : Act → World → Prop, (∀ a' w', Ext w w' → wpAnyH P md ops Q (Ext w') fuel (listed.setIfInBounds i true) a' w' → K a' w') → Oper.wp P oi a w K Q) : wpAnyH P md ops Q (Ext w) (fuel + 1) listed a w := by
  refine wpAnyH_ready hr (by simp) (AllReadyH.cons (op_at hd) (fun K hK => ?_) AllReadyH.nil)
  rw [if_pos hw]
  exact h K fun a' w' he hn => hK.out a' w' he (fun _ => wpAnyH_weak (fun W h => Ext.trans he h) _ _ _ _ hn)
end
end Go.Proofs.Ytkdcbidbciognaa

namespace Go.Proofs.Ytkdcbidbciognaa
set_option linter.unusedVariables false
set_option linter.unusedSimpArgs false
open Go.RowKit
section
variable {P : Program} {ops : Array Oper} {Q : Exit → Act → World → Prop} {md : Region.Mode} {s : Nat → Prop}
theorem Frm.tr {w w1 w2 : World} (h : Frm s w w1) (h' : Frm s w1 w2) : Frm s w w2 := h.trans h' (fun _ _ h => h)
theorem rx_begin {id : Nat} {a : Act} {w : World} (s : Nat → Prop) (hm : P.follows .mixedOrders = true) (h : wpAnyH P .any ops Q (Frm s w.drew) ops.size (Array.replicate ops.size false) a w.drew) : (Code.region id ops true).wp P Q a w :=
  wp_region_held_drew hm (Frm.refl _ _) (fun _ => h)
theorem rx_take {i : Nat} {oi : Oper} {rs : List Oper} {v : Value} {fuel : Nat} {listed : Array Bool} {a : Act} {w : World} (hd : ops.toList.drop i = oi :: rs)
    (hs : Region.noSelect ops = true) (hf : Region.free md ops listed i = true) (hr : (Region.ready md ops listed).contains i = true)
    (hQ : ∀ c a w, Q (.panic c) (a.put oi.dst v) w → Q (.panic c) a w) (hw : Region.wanted oi (yielded ops a.tmps) = true) (hy : ∀ W, Frm s w W → (execOp a.eval oi).run P W = .ok (.value v) W)
    (h : wpAnyH P md ops Q (Frm s w) fuel (listed.setIfInBounds i true) (a.put oi.dst v) w) : wpAnyH P md ops Q (Frm s w) (fuel + 1) listed a w :=
  wpAnyH_take (op_at hd) hs hf hr hQ (.inl ⟨hw, hy⟩) (Frm.refl _ _) h
theorem rx_skip {i : Nat} {oi : Oper} {rs : List Oper} {fuel : Nat} {listed : Array Bool} {a : Act} {w : World} (hd : ops.toList.drop i = oi :: rs)
    (hs : Region.noSelect ops = true) (hf : Region.free md ops listed i = true) (hr : (Region.ready md ops listed).contains i = true)
    (hQ : ∀ c a w, Q (.panic c) (a.put oi.dst undef) w → Q (.panic c) a w) (hw : Region.wanted oi (yielded ops a.tmps) = false)
    (h : wpAnyH P md ops Q (Frm s w) fuel (listed.setIfInBounds i true) (a.put oi.dst undef) w) : wpAnyH P md ops Q (Frm s w) (fuel + 1) listed a w :=
  wpAnyH_take (op_at hd) hs hf hr hQ (.inr ⟨hw, rfl⟩) (Frm.refl _ _) h
theorem rx_call {i : Nat} {oi : Oper} {rs : List Oper} {fuel : Nat} {listed : Array Bool} {a : Act} {w : World} (hd : ops.toList.drop i = oi :: rs) (hr : Region.ready md ops listed = [i]) (hw : Region.wanted oi (yielded ops a.tmps) = true)
    (h : ∀ K : Act → World → Prop, (∀ a' w', Frm s w w' → wpAnyH P md ops Q (Frm s w') fuel (listed.setIfInBounds i true) a' w' → K a' w') → Oper.wp P oi a w K Q) : wpAnyH P md ops Q (Frm s w) (fuel + 1) listed a w := by
  refine wpAnyH_ready hr (by simp) (AllReadyH.cons (op_at hd) (fun K hK => ?_) AllReadyH.nil)
  rw [if_pos hw]
  exact h K fun a' w' he hn => hK.out a' w' he (fun _ => wpAnyH_weak (fun W h => Frm.tr he h) _ _ _ _ hn)
/-- two that may come up, either of them first -/
theorem rx_two {i j : Nat} {oi oj : Oper} {rs rs' : List Oper} {fuel : Nat} {listed : Array Bool} {a : Act} {w : World} (hd : ops.toList.drop i = oi :: rs) (hd' : ops.toList.drop j = oj :: rs') (hr : Region.ready md ops listed = [i, j])
    (hw : Region.wanted oi (yielded ops a.tmps) = true) (hw' : Region.wanted oj (yielded ops a.tmps) = true)
    (h : ∀ K : Act → World → Prop, (∀ a' w', Frm s w w' → wpAnyH P md ops Q (Frm s w') fuel (listed.setIfInBounds i true) a' w' → K a' w') → Oper.wp P oi a w K Q)
    (h' : ∀ K : Act → World → Prop, (∀ a' w', Frm s w w' → wpAnyH P md ops Q (Frm s w') fuel (listed.setIfInBounds j true) a' w' → K a' w') → Oper.wp P oj a w K Q) : wpAnyH P md ops Q (Frm s w) (fuel + 1) listed a w := by
  refine wpAnyH_ready hr (by simp) (AllReadyH.cons (op_at hd) (fun K hK => ?_) (AllReadyH.cons (op_at hd') (fun K hK => ?_) AllReadyH.nil))
  · rw [if_pos hw]
    exact h K fun a' w' he hn => hK.out a' w' he (fun _ => wpAnyH_weak (fun W h => Frm.tr he h) _ _ _ _ hn)
  · rw [if_pos hw']
    exact h' K fun a' w' he hn => hK.out a' w' he (fun _ => wpAnyH_weak (fun W h => Frm.tr he h) _ _ _ _ hn)
end
end Go.Proofs.Ytkdcbidbciognaa

namespace Go.Proofs.Ytkdcbidbciognaa
set_option linter.unusedVariables false
set_option linter.unusedSimpArgs false
open Go.RowKit

/-- slices.Clone of ints: a slice of the call's own -/
theorem cloneI_any (A : Option Addr) (cap : Nat) (l : List Int) (w : World) (hl : l.length ≤ 1000000000000) (hs : Sl i64 w A l) :
    Calls Try.prog 84 #[.slice A l.length cap] w fun e w' => ∃ v, e = .returned v ∧ w'.ownsRow w.heap.size 3 1 v l.length (l.map i64) ∧ Below w.heap.size w w' := by
  refine hide_post fun D hD => ?_
  rcases A with _ | ad
  · have hl0 : l = [] := by
      cases l with
      | nil => rfl
      | cons x r => obtain ⟨b, o, e, _⟩ := hs 0 x rfl; cases e
    subst hl0
    have hq : ∀ w, (binOp .eql 24 (.slice none 0 cap) (.slice none 0 0)).run Try.prog w = .ok (.bool true) w := fun w => Lib.run_eql_slice_nil (P := Try.prog) w 24 3 none 0 cap 0 0 Try.underlying24
    clear hs
    go_enter Try.func84, Try.ntmps84
    go_wp2
    try go_ret
    exact hD.out _ _ ⟨.slice none 0 0, rfl, World.ownsRow_nil _ _ _ _, Below.refl _ _⟩
  · have hq : ∀ w, (binOp .eql 24 (.slice (some ad) l.length cap) (.slice none 0 0)).run Try.prog w = .ok (.bool false) w := fun w => Lib.run_eql_slice_nil (P := Try.prog) w 24 3 (some ad) l.length cap 0 0 Try.underlying24
    have HS : Hid (∀ W, Below w.heap.size w W → Sl i64 W (some ad) l) := fun W h => hs.stay h
    have hm := Lib.hid (World.ownsRow_made (base := w.heap.size) (e := 3) (size := 1) w #[] 0 (Nat.le_refl _) (Nat.zero_le _) rfl)
    have hD' : Hid (∀ v w', w'.ownsRow w.heap.size 3 1 v (0 + l.length) ([] ++ l.map i64) → (w.alloc (.cells #[] 3)).grownBy w' (some w.heap.size) → D (.returned v) w') := fun v w' h1 h2 =>
      hD.out _ _ ⟨v, rfl, by simpa using h1, (((Below.refl _ _).alloc (Nat.le_refl _) _).grown h2 (by simp) (fun k hk => by injection hk with hk; omega))⟩
    obtain ⟨n, hn⟩ : ∃ n, n = l.length := ⟨_, rfl⟩
    have HN := Lib.hid hn
    rw [← hn] at hq ⊢
    have hl' := hl
    rw [← hn] at hl'
    clear hs hn hD
    go_enter Try.func84, Try.ntmps84
    go_wp2_with (at_builtin; refine wpList_append_list rfl _ _ 24 rfl w.heap.size 3 (.int .i64 0) 8 Try.underlying24 info_int rfl (by omega) (.slice (some ⟨w.heap.size, 0, none⟩) 0 0) 0 [] rfl hm.out i64 (some ad) l n cap HN.out rfl (HS.out _ ((Below.refl _ _).alloc (Nat.le_refl _) _)) (fun _ => rfl) (by omega) (by simp) ?_; intro v' w' h1 h2 h3; have H1 := Lib.hid h1; have H2 := Lib.hid h2; clear h1 h2 h3)
    try go_ret
    exact hD'.out _ _ H1.out H2.out


set_option maxHeartbeats 2000000 in
/-- a copy of a chain: nodes of its own -/
theorem copied_any (ep : Int) (A : Option Addr) (cap : Nat) (l : List Int) (w : World) (hl : l.length ≤ 1000000000000) (hs : Sl i64 w A l) :
    Calls Try.prog 46 #[.agg #[.int .i64 ep, .slice A l.length cap]] w fun e w' => ∃ v, e = .returned (.agg #[.int .i64 ep, v]) ∧ w'.ownsRow w.heap.size 3 1 v l.length (l.map i64) ∧ Below w.heap.size w w' := by
  refine hide_post fun D hD => ?_
  obtain ⟨w0, hw0⟩ : ∃ w0, w0 = (w.alloc (.cells #[.int .i64 ep, .slice A l.length cap] 26)).alloc (.cells #[.int .i64 0, .slice none 0 0] 26) := ⟨_, rfl⟩
  have hb0 : Ext w w0 := by rw [hw0]; exact ((Below.refl _ _).alloc (Nat.le_refl _) _).alloc (by simp) _
  have K0 : Hid (Blk w0 w.heap.size 26 #[.int .i64 ep, .slice A l.length cap]) := by show Blk _ _ _ _; rw [hw0]; exact (Blk.new _ _ _).alloc _
  have K1 : Hid (Blk w0 (w.heap.size + 1) 26 #[.int .i64 0, .slice none 0 0]) := by show Blk _ _ _ _; rw [hw0]; exact Blk.new' _ _ _ _ (by simp)
  have HC : Hid (Calls Try.prog 84 #[.slice A l.length cap] w0 fun e w' => ∃ v, e = .returned v ∧ w'.ownsRow w0.heap.size 3 1 v l.length (l.map i64) ∧ Ext w0 w') := cloneI_any A cap l w0 hl (hs.stay hb0)
  have HB := Lib.hid hb0
  have HW := Lib.hid hw0
  clear hb0 hw0 hs
  go_enter Try.func46, Try.ntmps46
  go_wp2_with (go_at_call 84; rw [← HW.out]; (with_reducible refine HC.out.mono ?_); rintro e w1 ⟨v, rfl, ho, hx⟩; obtain ⟨A', c', rfl⟩ := own_shape ho; have c0 := (K0.out.stay hx).cell 0; have c1 := (K0.out.stay hx).cell 1; have f1 := (K0.out.stay hx).frozen 1; have d0 := (K1.out.stay hx).cell 0; have d1 := (K1.out.stay hx).cell 1; have g0 := (K1.out.stay hx).frozen 0; have g1 := (K1.out.stay hx).frozen 1; have HO := Lib.hid ho; have HX := Lib.hid hx; clear ho hx)
  have hlt : w0.heap.size = w.heap.size + 1 + 1 := by have h1 := HW.out; rw [h1]; simp
  have KA := Lib.hid ((((K1.out.stay HX.out).far (p := ⟨w.heap.size, 1, none⟩) (show w.heap.size + 1 ≠ w.heap.size by omega) (.slice A' l.length c')).set 0 (.int .i64 ep)).set 1 (.slice A' l.length c'))
  have HF : Hid (Frm (fun k => k = w.heap.size ∨ k = w.heap.size + 1) w1 (((w1.setCell ⟨w.heap.size, 1, none⟩ (.slice A' l.length c')).setCell ⟨w.heap.size + 1, 0, none⟩ (.int .i64 ep)).setCell ⟨w.heap.size + 1, 1, none⟩ (.slice A' l.length c'))) := Frm.tr (Frm.tr (Frm.of_set _ _ _ (Or.inl rfl)) (Frm.of_set _ _ _ (Or.inr rfl))) (Frm.of_set _ _ _ (Or.inr rfl))
  have hcA := KA.out.cell 0
  have hcB := KA.out.cell 1
  have hE := hD.out (.returned (.agg #[.int .i64 ep, .slice A' l.length c'])) _ ⟨_, rfl, own_base (base' := w.heap.size) (own_frm HO.out HF.out (fun k hk => by have := (HO.out.lt k hk).1; rintro (e | e) <;> omega)) (fun k hk => by have := (HO.out.lt k hk).1; omega), Frm.step (Ext.trans HB.out HX.out) HF.out (Ext.trans HB.out HX.out).size (by rintro k (e | e) <;> omega)⟩
  exact bodyPost_ret (v := .agg #[.int .i64 ep, .slice A' l.length c']) (by simp [results, Try.results46, go_sem, hcA, hcB]) rfl hE

theorem add_no (P j : Nat) (A : Option Addr) (cap : Nat) (l : List Int) (x : Int) (w : World) (hl : l.length ≤ 1000000000000) (hv : w.cell? ⟨P, j, none⟩ = some (.slice A l.length cap)) (hs : Sl i64 w A l) (hx : x ∈ l) :
    Calls Try.prog 47 #[.pointer (some ⟨P, j, none⟩), .int .i64 x] w fun e w' => e = .returned (.bool false) ∧ w = w' := by
  have HC : Hid (Calls Try.prog 83 #[.slice A l.length cap, .int .i64 x] w fun e w' => e = .returned (.bool true) ∧ w = w') := by
    have := contains_any A cap l x w (by omega) hs
    rw [decide_eq_true hx] at this
    exact this
  clear hs hx
  generalize l.length = n at *
  go_enter Try.func47, Try.ntmps47
  go_wp2_with (go_at_call 83; (with_reducible refine HC.out.mono ?_); rintro e w1 ⟨rfl, rfl⟩)
  go_ret
  exact ⟨rfl, rfl⟩

set_option maxHeartbeats 2000000 in
theorem add_yes (base P j : Nat) (t : TypeId) (cs : Array Value) (v : Value) (l : List Int) (x : Int) (w : World) (hB : Blk w P t cs) (hj : cs[j]? = some v) (ho : w.ownsRow base 3 1 v l.length (l.map i64)) (hne : some P ≠ v.ownBlock) (hx : ¬ x ∈ l) (hl : l.length ≤ 1000000) (hb : base ≤ w.heap.size) :
    Calls Try.prog 47 #[.pointer (some ⟨P, j, none⟩), .int .i64 x] w fun e w' => e = .returned (.bool true) ∧ ∃ v', Blk w' P t (cs.setIfInBounds j v') ∧ w'.ownsRow base 3 1 v' (l ++ [x]).length ((l ++ [x]).map i64) ∧
      Frm (fun k => k = P ∨ some k = v.ownBlock) w w' ∧ (v'.ownBlock = v.ownBlock ∨ ∃ k, v'.ownBlock = some k ∧ w.heap.size ≤ k) := by
  refine hide_post fun D hD => ?_
  obtain ⟨A, cap, rfl, hs⟩ := own_view ho
  have hc : w.cell? ⟨P, j, none⟩ = some (.slice A l.length cap) := (hB.cell j).trans hj
  have HC : Hid (Calls Try.prog 83 #[.slice A l.length cap, .int .i64 x] w fun e w' => e = .returned (.bool false) ∧ w = w') := by
    have := contains_any A cap l x w (by omega) hs
    rw [decide_eq_false hx] at this
    exact this
  have hlt : P < w.heap.size := hB.lt
  have HB := Lib.hid hB
  have HJ := Lib.hid hj
  have HO := Lib.hid ho
  have HNE := Lib.hid hne
  clear hs hx hB hj ho hne
  have HN : Hid (l.length = l.length) := rfl
  go_enter Try.func47, Try.ntmps47
  go_wp2_with (first
    | (go_at_call 83; (with_reducible refine HC.out.mono ?_); rintro e w1 ⟨rfl, rfl⟩)
    | (at_builtin; refine wpList_append_list rfl _ _ 24 rfl base 3 (.int .i64 0) 8 Try.underlying24 info_int rfl (by omega) (.slice A l.length cap) l.length (l.map i64) rfl (HO.out.alloc _) i64 (some ⟨w.heap.size, 0, none⟩) [x] 1 1 rfl rfl (Sl.of_blk (Blk.new w 3 #[.int .i64 x]) (fun j v hj => by match j, hj with | 0, hj => (simp at hj; subst hj; rfl))) (fun _ => rfl) (by simp; omega) (by simp; omega) ?_; intro v' w' h1 h2 h3; obtain ⟨A', c', rfl⟩ := own_shape h1; have q0 := ((HB.out.alloc (.cells #[.int .i64 x] 3)).grown h2 HNE.out).cell j; (rw [HJ.out] at q0); have q1 := ((HB.out.alloc (.cells #[.int .i64 x] 3)).grown h2 HNE.out).frozen j; have H1 := Lib.hid h1; have H2 := Lib.hid h2; have H3 := Lib.hid h3; clear h1 h2 h3))
  try go_ret
  have k1 : w'.ownsRow base 3 1 (.slice A' (l.length + 1) c') (l ++ [x]).length ((l ++ [x]).map i64) := by simpa using H1.out
  have kk : ∀ k, Value.ownBlock (.slice A' (l.length + 1) c') = some k → ¬ k = P := fun k hk e => by
    subst e
    rcases H3.out with h | ⟨k', h, hk'⟩
    · exact HNE.out (hk.symm.trans h)
    · have h5 := hk.symm.trans h; injection h5 with h5; subst h5; simp at hk'; omega
  have hB2 := ((HB.out.alloc (.cells #[.int .i64 x] 3)).grown H2.out HNE.out).set j (.slice A' (l.length + 1) c')
  refine hD.out _ _ ⟨rfl, .slice A' (l.length + 1) c', hB2, own_frm k1 (Frm.of_set (s := fun k => k = P) _ _ _ rfl) kk, ?_, ?_⟩
  · exact Frm.tr (Frm.tr (Frm.of_alloc _ _ _) (Frm.of_grown H2.out (fun k hk => Or.inr hk))) (Frm.of_set _ _ _ (Or.inl rfl))
  · rcases H3.out with h | ⟨k', h, hk'⟩
    · exact Or.inl h
    · exact Or.inr ⟨k', h, by simp at hk'; omega⟩
end Go.Proofs.Ytkdcbidbciognaa

namespace Go.Proofs.Ytkdcbidbciognaa
set_option linter.unusedVariables false
set_option linter.unusedSimpArgs false
open Go.RowKit

theorem ints_any (A B : Option Addr) (c1 c2 : Nat) (la lb : List Int) (w : World) (hbig : la.length ≤ 9223372036854775807) (hbig2 : lb.length ≤ 9223372036854775807) (hs : Sl i64 w A la) (hs2 : Sl i64 w B lb) :
    Calls Try.prog 50 #[.slice A la.length c1, .slice B lb.length c2] w fun e w' => e = .returned (.bool (decide (la = lb))) ∧ Below w.heap.size w w' := by
  generalize hr : decide (la = lb) = r
  have HR := Lib.hid hr
  clear hr
  have HS : Hid (∀ W, Below w.heap.size w W → Sl i64 W A la ∧ Sl i64 W B lb) := fun W h => ⟨hs.stay h, hs2.stay h⟩
  clear hs hs2
  obtain ⟨n, hn⟩ : ∃ n, n = la.length := ⟨_, rfl⟩
  obtain ⟨m, hm⟩ : ∃ m, m = lb.length := ⟨_, rfl⟩
  rw [← hn] at hbig ⊢
  rw [← hm] at hbig2 ⊢
  have HN := Lib.hid hn
  have HM := Lib.hid hm
  clear hn hm
  by_cases hnm : n = m
  case neg =>
    go_enter Try.func50, Try.ntmps50
    go_wp2
    go_ret
    exact ⟨ret_bool (by rw [← HR.out]; exact dec_false (fun e => hnm (by rw [HN.out, HM.out, e]))), Below.refl _ _⟩
  subst hnm
  have HB0 : Hid (Below w.heap.size w w) := Below.refl _ _
  go_enter Try.func50, Try.ntmps50
  go_wp2
  go_loopw [5] (fun i wr => ∃ k : Nat, k ≤ n ∧ i = .int .i64 k ∧ Hid (Below w.heap.size w wr ∧ r = decide (la.drop k = lb.drop k))) (fun i _ => n - (intOf i).toNat)
  case atStart => exact ⟨0, Nat.zero_le _, rfl, HB0.out, HR.out.symm⟩
  case round =>
    obtain ⟨k, hk, rfl, Hi⟩ := hrel
    by_cases hlt : k < n
    · obtain ⟨HA, HB⟩ := HS.out wr Hi.out.1
      obtain ⟨b1, o1, rfl, hc1⟩ := HA.at_ (k := k) (by rw [← HN.out]; exact hlt)
      obtain ⟨b2, o2, rfl, hc2⟩ := HB.at_ (k := k) (by rw [← HM.out]; exact hlt)
      have hd : la.drop k = la[k]'(by rw [← HN.out]; exact hlt) :: la.drop (k + 1) := List.drop_eq_getElem_cons _
      have hd2 : lb.drop k = lb[k]'(by rw [← HM.out]; exact hlt) :: lb.drop (k + 1) := List.drop_eq_getElem_cons _
      have Hd := Lib.hid hd
      have Hd2 := Lib.hid hd2
      clear hd hd2 HA HB
      generalize la[k]'(by rw [← HN.out]; exact hlt) = x at *
      generalize lb[k]'(by rw [← HM.out]; exact hlt) = y at *
      unfold i64 at hc1 hc2
      have hk0 : (0 : Int) ≤ (k : Int) := by omega
      have hk1 : (k : Int) < (n : Int) := by omega
      by_cases hxy : x = y
      · have HE : Hid (r = decide (la.drop (k + 1) = lb.drop (k + 1))) := by
          show _ = _
          rw [Hi.out.2, Hd.out, Hd2.out]
          exact dec_iff (by rw [hxy]; simp)
        subst hxy
        go_wp2
        go_quiet (fail)
        go_wp2
        go_roundw
        case rel => exact ⟨k + 1, by omega, by go_num, by have := Hi.out.1; exact ⟨this.os, this.tape, this.output, this.size, this.block⟩, HE.out⟩
        case measure => simp [intOf]; omega
      · have HE : Hid (r = false) := by
          show _ = _
          rw [Hi.out.2, Hd.out, Hd2.out]
          exact (dec_false (by intro e; injection e with e1 e2; exact hxy e1)).symm
        go_wp2
        go_quiet (fail)
        go_wp2
        go_ret
        exact ⟨ret_bool HE.out.symm, by have := Hi.out.1; exact ⟨this.os, this.tape, this.output, this.size, this.block⟩⟩
    · go_wp2
      go_ret
      exact ⟨ret_bool (by rw [Hi.out.2, List.drop_of_length_le (by have := HN.out; omega), List.drop_of_length_le (by have := HM.out; omega)]; simp), Hi.out.1⟩
end Go.Proofs.Ytkdcbidbciognaa

namespace Go.Proofs.Ytkdcbidbciognaa
set_option linter.unusedVariables false
set_option linter.unusedSimpArgs false
open Go.RowKit

end Go.Proofs.Ytkdcbidbciognaa

namespace Go.Proofs.Ytkdcbidbciognaa
set_option linter.unusedVariables false
set_option linter.unusedSimpArgs false
open Go.RowKit

/-- a chain as a value -/
abbrev chV (ep : Int) (A : Option Addr) (n cap : Nat) : Value := .agg #[.int .i64 ep, .slice A n cap]

/-- the first of a list, -1 -/
def headI (l : List Int) : Int := l.headD (-1)
/-- the last one, -1 -/
def tailI (l : List Int) : Int := l.getLastD (-1)

theorem sameRef_any (ep ep' : Int) (A B : Option Addr) (c1 c2 : Nat) (la lb : List Int) (w : World) (h1 : la.length ≤ 9223372036854775807) (h2 : lb.length ≤ 9223372036854775807) (hs : Sl i64 w A la) (hs2 : Sl i64 w B lb) :
    Calls Try.prog 23 #[chV ep A la.length c1, chV ep' B lb.length c2] w fun e w' => e = .returned (.bool (decide (ep = ep' ∧ la = lb))) ∧ Below w.heap.size w w' := by
  generalize hr : decide (ep = ep' ∧ la = lb) = r
  have HR := Lib.hid hr
  clear hr
  refine hide_post fun D hD => ?_
  have hB : ∀ o o', Below w.heap.size w ((w.alloc o).alloc o') := fun o o' => ((Below.refl _ _).alloc (Nat.le_refl _) _).alloc (by simp) _
  have HC : Hid (∀ o o', Calls Try.prog 50 #[.slice A la.length c1, .slice B lb.length c2] ((w.alloc o).alloc o') fun e w' => e = .returned (.bool (decide (la = lb))) ∧ Below w.heap.size w w') := fun o o' =>
    (ints_any A B c1 c2 la lb _ h1 h2 (hs.stay (hB o o')) (hs2.stay (hB o o'))).mono fun _ _ ⟨he, h⟩ => ⟨he, Below.step (hB o o') h⟩
  have HD : Hid (∀ o o' b, b = r → D (.returned (.bool b)) ((w.alloc o).alloc o')) := fun o o' b h => hD.out _ _ ⟨ret_bool h, hB o o'⟩
  clear hB hs hs2
  generalize la.length = na at *
  generalize lb.length = nb at *
  by_cases h1 : ep = ep'
  · have hE : r = decide (la = lb) := by rw [← HR.out]; exact dec_iff (by simp [h1])
    have HE := Lib.hid hE
    clear hE
    subst h1
    go_enter Try.func23, Try.ntmps23
    go_wp2_with (go_at_call 50; (with_reducible refine (HC.out _ _).mono ?_); rintro e w1 ⟨rfl, h⟩; have H := Lib.hid h; clear h)
    try go_ret
    exact hD.out _ _ ⟨ret_bool HE.out.symm, H.out⟩
  · have hE : r = false := by rw [← HR.out]; exact decide_eq_false (by simp [h1])
    have HE := Lib.hid hE
    clear hE
    go_enter Try.func23, Try.ntmps23
    go_wp2
    try go_ret
    exact HD.out _ _ _ HE.out.symm

end Go.Proofs.Ytkdcbidbciognaa

namespace Go.Proofs.Ytkdcbidbciognaa
set_option linter.unusedVariables false
set_option linter.unusedSimpArgs false
open Go.RowKit

/-- is x no node below n? -/
def badB (n x : Int) : Bool := decide (x < 0 ∨ n ≤ x)

theorem bad_any (x n : Int) (b : Nat) (w : World) (hc : w.cell? ⟨b, 0, none⟩ = some (.int .i64 n)) :
    Calls Try.prog 89 #[.int .i64 x, .pointer (some ⟨b, 0, none⟩)] w fun e w' => e = .returned (.bool (badB n x)) ∧ w = w' := by
  generalize hr : badB n x = r
  have HR := Lib.hid hr
  clear hr
  unfold badB at HR
  by_cases h0 : x < 0
  · go_enter Try.func89, Try.ntmps89
    go_wp2
    go_ret
    exact ⟨ret_bool (by rw [← HR.out]; exact dec_true (by omega)), rfl⟩
  · by_cases h1 : n ≤ x
    · go_enter Try.func89, Try.ntmps89
      go_wp2
      go_ret
      exact ⟨ret_bool (by rw [← HR.out]; exact dec_true (by omega)), rfl⟩
    · go_enter Try.func89, Try.ntmps89
      go_wp2
      go_ret
      exact ⟨ret_bool (by rw [← HR.out]; exact dec_false (by omega)), rfl⟩

/-- the first place (from k on) at which the list says yes -/
def fidx (p : Int → Bool) : List Int → Int → Int
  | [], _ => -1
  | y :: l, k => if p y then k else fidx p l (k + 1)
theorem fidx_ge (p : Int → Bool) : ∀ (l : List Int) (k : Int), 0 ≤ k → (0 ≤ fidx p l k ↔ l.any p = true)
  | [], k, _ => by simp [fidx]
  | y :: l, k, h => by
    unfold fidx
    cases hp : p y
    · rw [if_neg (by simp), fidx_ge p l (k + 1) (by omega)]; simp [hp]
    · simp [h, hp]

theorem indexFunc_any (A : Option Addr) (cap : Nat) (l : List Int) (b : Nat) (n : Int) (w : World) (hbig : l.length ≤ 9223372036854775807) (hs : Sl i64 w A l) (hc : w.cell? ⟨b, 0, none⟩ = some (.int .i64 n)) :
    Calls Try.prog 101 #[.slice A l.length cap, .func (.func 89) #[] #[.pointer (some ⟨b, 0, none⟩)]] w fun e w' => e = .returned (.int .i64 (fidx (badB n) l 0)) ∧ w = w' := by
  have HF : Hid (∀ x, Calls Try.prog 89 #[.int .i64 x, .pointer (some ⟨b, 0, none⟩)] w fun e w' => e = .returned (.bool (badB n x)) ∧ w = w') := fun x => bad_any x n b w hc
  obtain ⟨N, hN⟩ : ∃ N, N = l.length := ⟨_, rfl⟩
  rw [← hN] at hbig ⊢
  have HN := Lib.hid hN
  have HS := Lib.hid hs
  clear hN hs hc
  generalize hr : fidx (badB n) l 0 = r
  have HR := Lib.hid hr
  clear hr
  go_enter Try.func101, Try.ntmps101
  go_wp2
  go_loop [8] (fun i => ∃ k : Nat, k ≤ N ∧ i = .int .i64 k ∧ Hid (r = fidx (badB n) (l.drop k) k)) (fun i => N - (intOf i).toNat)
  case atStart => exact ⟨0, Nat.zero_le _, rfl, HR.out.symm⟩
  case round =>
    obtain ⟨k, hk, rfl, Hi⟩ := hrel
    by_cases hlt : k < N
    · obtain ⟨b1, o, rfl, hcell⟩ := HS.out.at_ (k := k) (by rw [← HN.out]; exact hlt)
      have hd : l.drop k = l[k]'(by rw [← HN.out]; exact hlt) :: l.drop (k + 1) := List.drop_eq_getElem_cons _
      have Hd := Lib.hid hd
      clear hd
      generalize l[k]'(by rw [← HN.out]; exact hlt) = y at *
      unfold i64 at hcell
      have hf := HF.out y
      cases hb : badB n y
      · have HE : Hid (r = fidx (badB n) (l.drop (k + 1)) (k + 1)) := by show _ = _; rw [Hi.out, Hd.out]; simp [fidx, hb]
        rw [hb] at hf
        have HF1 := Lib.hid hf
        clear hb hf
        go_wp2_with (go_at_call 89; refine HF1.out.mono ?_; rintro e w' ⟨rfl, rfl⟩)
        go_round
        case rel => exact ⟨k + 1, by omega, by go_num, HE⟩
        case measure => simp [intOf]; omega
      · have HE : Hid (r = k) := by show _ = _; rw [Hi.out, Hd.out]; simp [fidx, hb]
        rw [hb] at hf
        have HF1 := Lib.hid hf
        clear hb hf
        go_wp2_with (go_at_call 89; refine HF1.out.mono ?_; rintro e w' ⟨rfl, rfl⟩)
        go_ret
        exact ⟨ret_int HE.out.symm, rfl⟩
    · go_wp2
      go_ret
      exact ⟨ret_int (by rw [Hi.out, List.drop_of_length_le (by have := HN.out; omega)]; rfl), rfl⟩

theorem containsFunc_any (A : Option Addr) (cap : Nat) (l : List Int) (b : Nat) (n : Int) (w : World) (hbig : l.length ≤ 9223372036854775807) (hs : Sl i64 w A l) (hc : w.cell? ⟨b, 0, none⟩ = some (.int .i64 n)) :
    Calls Try.prog 88 #[.slice A l.length cap, .func (.func 89) #[] #[.pointer (some ⟨b, 0, none⟩)]] w fun e w' => e = .returned (.bool (l.any (badB n))) ∧ w = w' := by
  have HI := Lib.hid (indexFunc_any A cap l b n w hbig hs hc)
  have hg := fidx_ge (badB n) l 0 (by omega)
  generalize hd : l.any (badB n) = d at *
  have HG := Lib.hid hg
  clear hd hg hs hc
  generalize l.length = N at *
  generalize fidx (badB n) l 0 = r at *
  go_enter Try.func88, Try.ntmps88
  go_wp2_with (go_at_call 101; refine HI.out.mono ?_; rintro e w' ⟨rfl, rfl⟩)
  go_ret
  exact ⟨ret_bool (by have := HG.out; cases d <;> simp_all), rfl⟩


theorem fits_any (ep n : Int) (A : Option Addr) (cap : Nat) (l : List Int) (w : World) (hl : l.length ≤ 9223372036854775807) (hs : Sl i64 w A l) :
    Calls Try.prog 59 #[chV ep A l.length cap, .int .i64 n] w fun e w' => e = .returned (.bool (!l.any (badB n))) ∧ Below w.heap.size w w' := by
  have HC : Hid (∀ W, Below w.heap.size w W → W.cell? ⟨w.heap.size + 1, 0, none⟩ = some (.int .i64 n) → Calls Try.prog 88 #[.slice A l.length cap, .func (.func 89) #[] #[.pointer (some ⟨w.heap.size + 1, 0, none⟩)]] W
      fun e w' => e = .returned (.bool (l.any (badB n))) ∧ W = w') := fun W hW hc => containsFunc_any A cap l _ n W hl (hs.stay hW) hc
  clear hs
  generalize l.any (badB n) = d at *
  generalize l.length = N at *
  have HB2 : Hid (Below w.heap.size w ((w.alloc (.cells #[.int .i64 ep, .slice A N cap] 26)).alloc (.cells #[.int .i64 n] 3))) := ((Below.refl _ _).alloc (Nat.le_refl _) _).alloc (by simp) _
  have hcn : Hid (((w.alloc (.cells #[.int .i64 ep, .slice A N cap] 26)).alloc (.cells #[.int .i64 n] 3)).cell? ⟨w.heap.size + 1, 0, none⟩ = some (.int .i64 n)) :=
    (Blk.new' _ 3 #[.int .i64 n] (w.heap.size + 1) (by simp)).cell 0
  cases d
  all_goals
    go_enter Try.func59, Try.ntmps59
    go_wp2_with (go_at_call 88; (with_reducible refine (HC.out _ HB2.out hcn.out).mono ?_); rintro e w' ⟨rfl, rfl⟩)
    go_ret
    exact ⟨rfl, HB2.out⟩

/-- who stands by so many places behind x; -1: nobody -/
def besideI (l : List Int) (x y : Int) : Int := if idx x l 0 < 0 ∨ idx x l 0 + y < 0 ∨ (l.length : Int) ≤ idx x l 0 + y then -1 else l.getD (idx x l 0 + y).toNat (-1)

theorem idx_lt (x : Int) : ∀ (l : List Int) (k : Int), -1 ≤ k → -1 ≤ idx x l k ∧ idx x l k < k + l.length ∨ idx x l k = -1
  | [], k, _ => by simp [idx]
  | y :: l, k, h => by
    unfold idx
    split
    · left; simp; omega
    · rcases idx_lt x l (k + 1) (by omega) with h | h
      · left; simp; omega
      · right; exact h

end Go.Proofs.Ytkdcbidbciognaa

namespace Go.Proofs.Ytkdcbidbciognaa
set_option linter.unusedVariables false
set_option linter.unusedSimpArgs false
open Go.RowKit

end Go.Proofs.Ytkdcbidbciognaa

namespace Go.Proofs.Ytkdcbidbciognaa
set_option linter.unusedVariables false
set_option linter.unusedSimpArgs false
open Go.RowKit


set_option maxHeartbeats 4000000 in
theorem refMayChain_any (ep : Int) (A : Option Addr) (cap : Nat) (l : List Int) (w : World) (hl : l.length ≤ 9223372036854775807) (hs : Sl i64 w A l) :
    Calls Try.prog 14 #[.agg #[.int .i64 ep, .slice A l.length cap]] w fun e w' => e = .returned (.bool (mayChainB ep l)) ∧ Below w.heap.size w w' := by
  have HB : Hid (∀ o, Below w.heap.size w (w.alloc o)) := fun o => (Below.refl _ _).alloc (Nat.le_refl _) _
  have HS : Hid (∀ o, Sl i64 (w.alloc o) A l) := fun o => hs.stay (HB.out o)
  generalize hr : mayChainB ep l = r
  have HR := Lib.hid hr
  clear hr hs
  unfold mayChainB at HR
  generalize hn : l.length = n at *
  have HN := Lib.hid hn
  clear hn
  by_cases h : (0 ≤ ep ∧ ep ≤ 1073741824) ∧ 1 ≤ n ∧ n ≤ 5
  case neg =>
    have HR' : Hid (r = false) := by (show _ = _); rw [← HR.out]; simp; intro a b c d; omega
    rcases (show ep < 0 ∨ (¬ ep < 0 ∧ 1073741824 < ep) ∨ (¬ ep < 0 ∧ ¬ 1073741824 < ep ∧ n < 1) ∨ (¬ ep < 0 ∧ ¬ 1073741824 < ep ∧ ¬ n < 1 ∧ 5 < n) by omega) with t | ⟨t, t1⟩ | ⟨t, t1, t2⟩ | ⟨t, t1, t2, t3⟩
    all_goals
      clear h
      go_enter Try.func14, Try.ntmps14
      go_wp2
      go_ret
      exact ⟨ret_bool HR'.out.symm, HB.out _⟩
  obtain ⟨⟨t0, t1⟩, t2, t3⟩ := h
  have HO : Hid (okNodes [] l = r) := by (show _ = _); rw [← HR.out, decide_eq_true ⟨t0, t1⟩, decide_eq_true ⟨t2, t3⟩]; rfl
  clear HR
  obtain ⟨w0, hw0⟩ : ∃ w0, w0 = w.alloc (.cells #[.int .i64 ep, .slice A n cap] 26) := ⟨_, rfl⟩
  have hb0 : Ext w w0 := by rw [hw0]; exact (Below.refl _ _).alloc (Nat.le_refl _) _
  have K0 : Hid (Blk w0 w.heap.size 26 #[.int .i64 ep, .slice A n cap]) := by (show Blk _ _ _ _); rw [hw0]; exact Blk.new w _ _
  have HSX : Hid (∀ W, Ext w0 W → Sl i64 W A l) := fun W hW => ((by rw [hw0]; exact HS.out _ : Sl i64 w0 A l)).stay hW
  have HB0 := Lib.hid hb0
  have HW0 := Lib.hid hw0
  clear hb0 hw0 HS HB
  go_enter Try.func14, Try.ntmps14
  go_wp2
  rw [← HW0.out]
  clear t0 t1
  go_loopw [3] (fun i wr => ∃ k : Nat, k ≤ n ∧ i = .int .i64 k ∧ Hid (r = okNodes (l.take k) (l.drop k)) ∧ Hid (Ext w0 wr)) (fun i _ => n - (intOf i).toNat)
  case atStart => exact ⟨0, Nat.zero_le _, rfl, HO.out.symm, Ext.refl _⟩
  case round =>
    obtain ⟨k, hk, rfl, Hi, E0⟩ := hrel
    have c0 := (K0.out.stay E0.out).cell 0
    have c1 := (K0.out.stay E0.out).cell 1
    simp at c0 c1
    by_cases hlt : k < n
    · obtain ⟨b, o, rfl, hcell⟩ := (HSX.out _ E0.out).at_ (k := k) (by rw [HN.out]; exact hlt)
      have Hd := Lib.hid (okNodes_step l k (by rw [HN.out]; exact hlt))
      have Hk := Lib.hid (List.getElem?_eq_getElem (l := l) (i := k) (by rw [HN.out]; exact hlt))
      generalize l[k]'(by rw [HN.out]; exact hlt) = x at *
      unfold i64 at hcell
      by_cases hx : 0 ≤ x ∧ x ≤ 4
      case neg =>
        have HE : Hid (r = false) := by (show _ = _); rw [Hi.out, Hd.out, decide_eq_false hx]; rfl
        rcases (show x < 0 ∨ (¬ x < 0 ∧ 5 ≤ x) by omega) with t | ⟨t, t1⟩
        all_goals
          clear hx
          go_wp2
          go_ret
          exact ⟨ret_bool HE.out.symm, Ext.trans HB0.out E0.out⟩
      obtain ⟨x0, x1⟩ := hx
      have HE : Hid (r = (!decide (x ∈ l.take k) && okNodes (l.take (k + 1)) (l.drop (k + 1)))) := by (show _ = _); rw [Hi.out, Hd.out, decide_eq_true ⟨x0, x1⟩]; rfl
      go_wp2
      clear hcell c0 c1
      obtain ⟨wo, rfl⟩ : ∃ wo : World, wo = wr := ⟨_, rfl⟩
      go_loopw [4] (fun i wr => ∃ j : Nat, j ≤ k ∧ i = .int .i64 j ∧ Hid (¬ x ∈ l.take j) ∧ Hid (Ext w0 wr)) (fun i _ => k - (intOf i).toNat)
      case atStart => exact ⟨0, Nat.zero_le _, rfl, by (show ¬ _); simp, E0⟩
      case round =>
        obtain ⟨j, hj, rfl, Hj, E1⟩ := hrel
        have c0 := (K0.out.stay E1.out).cell 0
        have c1 := (K0.out.stay E1.out).cell 1
        simp at c0 c1
        by_cases hjk : j < k
        · obtain ⟨b8, o8, e8, hc8⟩ := HSX.out _ E1.out k x Hk.out
          obtain ⟨b9, o9, e9, hc9⟩ := (HSX.out _ E1.out).at_ (k := j) (by rw [HN.out]; omega)
          injection e8 with e8
          injection e8 with e1 e2
          subst e1 e2
          injection e9 with e9
          injection e9 with e1 e2
          subst e1 e2
          have ht : l.take (j + 1) = l.take j ++ [l[j]'(by rw [HN.out]; omega)] := List.take_succ_eq_append_getElem _
          have hin : l[j]'(by rw [HN.out]; omega) ∈ l.take k := by
            have h1 : (l.take k)[j]? = some (l[j]'(by rw [HN.out]; omega)) := by rw [List.getElem?_take, if_pos hjk]; exact List.getElem?_eq_getElem _
            exact List.mem_of_getElem? h1
          have HT := Lib.hid ht
          have HI := Lib.hid hin
          clear ht hin
          generalize l[j]'(by rw [HN.out]; omega) = y at *
          unfold i64 at hc8 hc9
          have j0 : (0 : Int) ≤ (j : Int) := by omega
          have j1 : (j : Int) < (n : Int) := by omega
          have k0 : (0 : Int) ≤ (k : Int) := by omega
          have k1 : (k : Int) < (n : Int) := by omega
          by_cases hy : y = x
          · have HE2 : Hid (r = false) := by (show _ = _); rw [HE.out, decide_eq_true (show x ∈ l.take k by rw [← hy]; exact HI.out)]; rfl
            subst hy
            go_wp2
            go_quiet (fail)
            go_wp2
            go_ret
            exact ⟨ret_bool HE2.out.symm, Ext.trans HB0.out E1.out.drewN⟩
          · have HJ2 : Hid (¬ x ∈ l.take (j + 1)) := by (show ¬ _); rw [HT.out]; simp; exact ⟨Hj.out, fun e => hy e.symm⟩
            go_wp2
            go_quiet (fail)
            go_wp2
            go_roundw
            case rel => exact ⟨j + 1, by omega, by go_num, HJ2, E1.out.drewN⟩
            case measure => simp [intOf]; omega
        · obtain rfl : j = k := by omega
          have HE2 : Hid (r = okNodes (l.take (j + 1)) (l.drop (j + 1))) := by (show _ = _); rw [HE.out, decide_eq_false Hj.out]; rfl
          go_wp2
          go_roundw
          case rel => exact ⟨j + 1, by omega, by go_num, HE2, E1⟩
          case measure => simp [intOf]; omega
    · go_wp2
      go_ret
      exact ⟨ret_bool (by rw [Hi.out, List.drop_of_length_le (by have := HN.out; omega)]; rfl), Ext.trans HB0.out E0.out⟩
end Go.Proofs.Ytkdcbidbciognaa

namespace Go.Proofs.Ytkdcbidbciognaa
set_option linter.unusedVariables false
set_option linter.unusedSimpArgs false
open Go.RowKit

/-- block P of the call's own holds a chain; all below P is as it was in w0 -/
structure Loc (w0 w : World) (P : Nat) (ep : Int) (A : Option Addr) (cap : Nat) (l : List Int) : Prop where
  low : Below P w0 w
  blk : Blk w P 26 #[.int .i64 ep, .slice A l.length cap]
  own : w.ownsRow (P + 1) 3 1 (.slice A l.length cap) l.length (l.map i64)

section
variable {w0 w w1 : World} {P : Nat} {ep : Int} {A : Option Addr} {cap : Nat} {l : List Int}
theorem Loc.lt (h : Loc w0 w P ep A cap l) : P + 1 ≤ w.heap.size := h.blk.lt
theorem Loc.sl (h : Loc w0 w P ep A cap l) : Sl i64 w A l := by
  obtain ⟨A', c', e, hs⟩ := own_view h.own
  injection e with e1 e2 e3
  subst e1
  exact hs
theorem Loc.capOk (h : Loc w0 w P ep A cap l) : l.length ≤ cap := by
  rcases h.own.2 with ⟨e, hn⟩ | ⟨g, c, cur, e, _, _, h1, h2, _⟩
  · injection e with e1 e2 e3; omega
  · injection e with e1 e2 e3; omega
theorem Loc.stay (h : Loc w0 w P ep A cap l) (hx : Ext w w1) : Loc w0 w1 P ep A cap l :=
  ⟨h.low.trans (Below.mono hx (by have := h.lt; omega)), h.blk.stay hx, own_frm (s := fun _ => False) h.own (Frm.of_below hx _) (fun _ _ h => h)⟩
theorem Loc.start (hb : Below P w0 w) (hB : Blk w P 26 #[.int .i64 ep, .slice none 0 0]) : Loc w0 w P ep none 0 [] :=
  ⟨hb, hB, World.ownsRow_nil _ _ _ _⟩
/-- one node more: laid, appended, put back -/
theorem Loc.push (h : Loc w0 w P ep A cap l) (x : Int) {w' : World} {A' : Option Addr} {cap' : Nat} (hg : (w.alloc (.cells #[.int .i64 x] 3)).grownBy w' (Value.slice A l.length cap).ownBlock)
    (ho : w'.ownsRow (P + 1) 3 1 (.slice A' (l.length + 1) cap') (l.length + 1) (l.map i64 ++ [i64 x])) :
    Blk w' P 26 #[.int .i64 ep, .slice A l.length cap] ∧ Loc w0 (w'.setCell ⟨P, 1, none⟩ (.slice A' (l.length + 1) cap')) P ep A' cap' (l ++ [x]) := by
  have hne : some P ≠ (Value.slice A l.length cap).ownBlock := own_ne h.own (by omega)
  have hB1 : Blk w' P 26 #[.int .i64 ep, .slice A l.length cap] := (h.blk.alloc _).grown hg hne
  refine ⟨hB1, ?_, ?_, ?_⟩
  · have h1 : Below P w0 (w.alloc (.cells #[.int .i64 x] 3)) := h.low.alloc (by have := h.lt; omega) _
    have h2 : Below P w0 w' := h1.grown hg (by have := h.lt; simp; omega) (fun k hk => by have := (h.own.lt k hk).1; omega)
    exact h2.setCell (p := ⟨P, 1, none⟩) (Nat.le_refl _) _
  · have := hB1.set 1 (.slice A' (l.length + 1) cap')
    simpa using this
  · have h1 := own_frm (s := fun k => k = P) ho (Frm.of_set w' ⟨P, 1, none⟩ (.slice A' (l.length + 1) cap') rfl) (fun k hk e => by have := (ho.lt k hk).1; omega)
    simpa using h1
end

/-- 0, 1, .., n - 1 -/
def upTo (n : Nat) : List Int := (List.range n).map fun i : Nat => (i : Int)
theorem upTo_len (n : Nat) : (upTo n).length = n := by simp [upTo]
theorem upTo_succ (n : Nat) : upTo (n + 1) = upTo n ++ [(n : Int)] := by simp [upTo, List.range_succ]

theorem chFirst_no (n : Int) (w : World) (h : n < 1 ∨ 5 < n) :
    Calls Try.prog 51 #[.int .i64 n] w fun e w' => e = .returned (.tuple #[chV 0 none 0 0, .int .i64 1]) ∧ Below w.heap.size w w' := by
  rcases h with h | h
  · go_enter Try.func51, Try.ntmps51
    go_wp2
    exact bodyPost_ret (v := .tuple #[chV 0 none 0 0, .int .i64 1]) (by simp [results, Try.results51, go_sem]) rfl ⟨rfl, (Below.refl _ _).alloc (Nat.le_refl _) _⟩
  · have h' : ¬ n < 1 := by omega
    go_enter Try.func51, Try.ntmps51
    go_wp2
    exact bodyPost_ret (v := .tuple #[chV 0 none 0 0, .int .i64 1]) (by simp [results, Try.results51, go_sem]) rfl ⟨rfl, (Below.refl _ _).alloc (Nat.le_refl _) _⟩

set_option maxHeartbeats 2000000 in
theorem chFirst_yes (n : Nat) (w : World) (h1 : 1 ≤ n) (h5 : n ≤ 5) :
    Calls Try.prog 51 #[.int .i64 n] w fun e w' => ∃ v, e = .returned (.tuple #[.agg #[.int .i64 1, v], .int .i64 0]) ∧ w'.ownsRow w.heap.size 3 1 v n ((upTo n).map i64) ∧ Below w.heap.size w w' := by
  refine hide_post fun D hD => ?_
  obtain ⟨w0, hw0⟩ : ∃ w0, w0 = (w.alloc (.cells #[.int .i64 0, .slice none 0 0] 26)).alloc (.cells #[.int .i64 1, .slice none 0 0] 26) := ⟨_, rfl⟩
  have hb0 : Ext w w0 := by rw [hw0]; exact ((Below.refl _ _).alloc (Nat.le_refl _) _).alloc (by simp) _
  have K0 : Hid (Blk w0 w.heap.size 26 #[.int .i64 0, .slice none 0 0]) := by (show Blk _ _ _ _); rw [hw0]; exact (Blk.new w _ _).alloc _
  have K1 : Blk w0 (w.heap.size + 1) 26 #[.int .i64 1, .slice none 0 0] := by rw [hw0]; exact Blk.new' _ _ _ _ (by simp)
  have HL0 : Hid (Loc w0 w0 (w.heap.size + 1) 1 none 0 (upTo 0)) := Loc.start (Below.refl _ _) K1
  have HB := Lib.hid hb0
  have HW := Lib.hid hw0
  clear hb0 hw0 K1
  go_enter Try.func51, Try.ntmps51
  go_wp2
  rw [← HW.out]
  go_loopw [15] (fun i wr => ∃ k : Nat, k ≤ n ∧ i = .int .i64 k ∧ Hid (∃ A cap, Loc w0 wr (w.heap.size + 1) 1 A cap (upTo k))) (fun i _ => n - (intOf i).toNat)
  case atStart => exact ⟨0, Nat.zero_le _, rfl, _, _, HL0.out⟩
  case round =>
    obtain ⟨k, hk, rfl, HR⟩ := hrel
    obtain ⟨A, cap, hL⟩ := HR.out
    have HN := Lib.hid (upTo_len k)
    by_cases hlt : k < n
    · have HP : Hid (∀ w' A' c', (wr.alloc (.cells #[.int .i64 k] 3)).grownBy w' (Value.slice A (upTo k).length cap).ownBlock → w'.ownsRow (w.heap.size + 1 + 1) 3 1 (.slice A' ((upTo k).length + 1) c') ((upTo k).length + 1) ((upTo k).map i64 ++ [i64 k]) → 
          Blk w' (w.heap.size + 1) 26 #[.int .i64 1, .slice A (upTo k).length cap] ∧ Loc w0 (w'.setCell ⟨w.heap.size + 1, 1, none⟩ (.slice A' ((upTo k).length + 1) c')) (w.heap.size + 1) 1 A' c' (upTo (k + 1))) := fun w' A' c' h1 h2 => by rw [upTo_succ]; exact hL.push k h1 h2
      have c1 := hL.blk.cell 1
      simp at c1
      have HO := Lib.hid hL.own
      have hlt2 := hL.lt
      have HC1 := Lib.hid ((Blk.new wr 3 #[.int .i64 k]).cell 0)
      clear hL HR
      generalize hq : upTo k = L at *
      have hLk : L.length ≤ 5 := by have := HN.out; omega
      clear HN
      go_wp2_with (at_builtin; refine wpList_append_one rfl _ _ 24 rfl (w.heap.size + 1 + 1) 3 (.int .i64 0) 8 Try.underlying24 info_int rfl (by omega) (.slice A L.length cap) L.length (L.map i64) rfl (HO.out.alloc _) wr.heap.size (i64 k) rfl HC1.out rfl (by omega) (by simp; omega) ?_; intro v' w' hown' hg'; obtain ⟨A', cap', rfl⟩ := own_shape hown'; obtain ⟨hB, hLL⟩ := HP.out w' A' cap' hg' hown'; have hc6 := hB.cell 1; have hf6 := hB.frozen 1; simp at hc6; have HL := Lib.hid hLL; clear hB hLL hown' hg')
      go_roundw
      case rel => exact ⟨k + 1, by omega, by go_num, _, _, HL.out⟩
      case measure => simp [intOf]; omega
    · obtain rfl : k = n := by omega
      have a0 := hL.blk.cell 0
      have a1 := hL.blk.cell 1
      have hKR : Blk wr w.heap.size 26 #[.int .i64 0, .slice none 0 0] := K0.out.below hL.low (by omega)
      have f0 := hKR.frozen 0
      have f1 := hKR.frozen 1
      have b0 := hKR.cell 0
      have b1 := hKR.cell 1
      simp at a0 a1 b0 b1
      have HL := Lib.hid hL
      have HKR := Lib.hid hKR
      clear hL HR hKR
      generalize hq : upTo k = L at *
      go_wp2_with fail
      have KA := Lib.hid ((HKR.out.set 0 (.int .i64 1)).set 1 (.slice A L.length cap))
      have hcA := KA.out.cell 0
      have hcB := KA.out.cell 1
      have HF : Hid (Frm (fun k => k = w.heap.size) wr ((wr.setCell ⟨w.heap.size, 0, none⟩ (.int .i64 1)).setCell ⟨w.heap.size, 1, none⟩ (.slice A L.length cap))) := Frm.tr (Frm.of_set _ _ _ rfl) (Frm.of_set _ _ _ rfl)
      have hE := hD.out (.returned (.tuple #[.agg #[.int .i64 1, .slice A L.length cap], .int .i64 0])) _ ⟨_, rfl, by
          have h1 := own_frm HL.out.own HF.out (fun k hk e => by have := (HL.out.own.lt k hk).1; omega)
          rw [HN.out] at h1
          rw [HN.out]
          exact own_base h1 (fun k hk => by have := (h1.lt k hk).1; omega),
        Frm.step (Below.trans HB.out (Below.mono HL.out.low (by omega))) HF.out (by have := HL.out.lt; omega) (by rintro k e; omega)⟩
      exact bodyPost_ret (v := .tuple #[.agg #[.int .i64 1, .slice A L.length cap], .int .i64 0]) (by simp [results, Try.results51, go_sem, hcA, hcB]) rfl hE

theorem refFirst_no (n : Int) (w : World) (h : n < 1 ∨ 5 < n) :
    Calls Try.prog 38 #[.int .i64 n] w fun e w' => e = .returned (.tuple #[chV 0 none 0 0, .int .i64 1]) ∧ Below w.heap.size w w' := by
  rcases h with h | h
  · go_enter Try.func38, Try.ntmps38
    go_wp2
    exact bodyPost_ret (v := .tuple #[chV 0 none 0 0, .int .i64 1]) (by simp [results, Try.results38, go_sem]) rfl ⟨rfl, (Below.refl _ _).alloc (Nat.le_refl _) _⟩
  · have h' : ¬ n < 1 := by omega
    go_enter Try.func38, Try.ntmps38
    go_wp2
    exact bodyPost_ret (v := .tuple #[chV 0 none 0 0, .int .i64 1]) (by simp [results, Try.results38, go_sem]) rfl ⟨rfl, (Below.refl _ _).alloc (Nat.le_refl _) _⟩

set_option maxHeartbeats 2000000 in
theorem refFirst_yes (n : Nat) (w : World) (h1 : 1 ≤ n) (h5 : n ≤ 5) :
    Calls Try.prog 38 #[.int .i64 n] w fun e w' => ∃ v, e = .returned (.tuple #[.agg #[.int .i64 1, v], .int .i64 0]) ∧ w'.ownsRow w.heap.size 3 1 v n ((upTo n).map i64) ∧ Below w.heap.size w w' := by
  refine hide_post fun D hD => ?_
  obtain ⟨w0, hw0⟩ : ∃ w0, w0 = (w.alloc (.cells #[.int .i64 0, .slice none 0 0] 26)).alloc (.cells #[.int .i64 1, .slice none 0 0] 26) := ⟨_, rfl⟩
  have hb0 : Ext w w0 := by rw [hw0]; exact ((Below.refl _ _).alloc (Nat.le_refl _) _).alloc (by simp) _
  have K0 : Hid (Blk w0 w.heap.size 26 #[.int .i64 0, .slice none 0 0]) := by (show Blk _ _ _ _); rw [hw0]; exact (Blk.new w _ _).alloc _
  have K1 : Blk w0 (w.heap.size + 1) 26 #[.int .i64 1, .slice none 0 0] := by rw [hw0]; exact Blk.new' _ _ _ _ (by simp)
  have HL0 : Hid (Loc w0 w0 (w.heap.size + 1) 1 none 0 (upTo 0)) := Loc.start (Below.refl _ _) K1
  have HB := Lib.hid hb0
  have HW := Lib.hid hw0
  clear hb0 hw0 K1
  go_enter Try.func38, Try.ntmps38
  go_wp2
  rw [← HW.out]
  go_loopw [5] (fun i wr => ∃ k : Nat, k ≤ n ∧ i = .int .i64 k ∧ Hid (∃ A cap, Loc w0 wr (w.heap.size + 1) 1 A cap (upTo k))) (fun i _ => n - (intOf i).toNat)
  case atStart => exact ⟨0, Nat.zero_le _, rfl, _, _, HL0.out⟩
  case round =>
    obtain ⟨k, hk, rfl, HR⟩ := hrel
    obtain ⟨A, cap, hL⟩ := HR.out
    have HN := Lib.hid (upTo_len k)
    by_cases hlt : k < n
    · have HP : Hid (∀ w' A' c', (wr.alloc (.cells #[.int .i64 k] 3)).grownBy w' (Value.slice A (upTo k).length cap).ownBlock → w'.ownsRow (w.heap.size + 1 + 1) 3 1 (.slice A' ((upTo k).length + 1) c') ((upTo k).length + 1) ((upTo k).map i64 ++ [i64 k]) → 
          Blk w' (w.heap.size + 1) 26 #[.int .i64 1, .slice A (upTo k).length cap] ∧ Loc w0 (w'.setCell ⟨w.heap.size + 1, 1, none⟩ (.slice A' ((upTo k).length + 1) c')) (w.heap.size + 1) 1 A' c' (upTo (k + 1))) := fun w' A' c' h1 h2 => by rw [upTo_succ]; exact hL.push k h1 h2
      have c1 := hL.blk.cell 1
      simp at c1
      have HO := Lib.hid hL.own
      have hlt2 := hL.lt
      have HC1 := Lib.hid ((Blk.new wr 3 #[.int .i64 k]).cell 0)
      clear hL HR
      generalize hq : upTo k = L at *
      have hLk : L.length ≤ 5 := by have := HN.out; omega
      clear HN
      go_wp2_with (at_builtin; refine wpList_append_one rfl _ _ 24 rfl (w.heap.size + 1 + 1) 3 (.int .i64 0) 8 Try.underlying24 info_int rfl (by omega) (.slice A L.length cap) L.length (L.map i64) rfl (HO.out.alloc _) wr.heap.size (i64 k) rfl HC1.out rfl (by omega) (by simp; omega) ?_; intro v' w' hown' hg'; obtain ⟨A', cap', rfl⟩ := own_shape hown'; obtain ⟨hB, hLL⟩ := HP.out w' A' cap' hg' hown'; have hc6 := hB.cell 1; have hf6 := hB.frozen 1; simp at hc6; have HL := Lib.hid hLL; clear hB hLL hown' hg')
      go_roundw
      case rel => exact ⟨k + 1, by omega, by go_num, _, _, HL.out⟩
      case measure => simp [intOf]; omega
    · obtain rfl : k = n := by omega
      have a0 := hL.blk.cell 0
      have a1 := hL.blk.cell 1
      have hKR : Blk wr w.heap.size 26 #[.int .i64 0, .slice none 0 0] := K0.out.below hL.low (by omega)
      have f0 := hKR.frozen 0
      have f1 := hKR.frozen 1
      have b0 := hKR.cell 0
      have b1 := hKR.cell 1
      simp at a0 a1 b0 b1
      have HL := Lib.hid hL
      have HKR := Lib.hid hKR
      clear hL HR hKR
      generalize hq : upTo k = L at *
      go_wp2_with fail
      have KA := Lib.hid ((HKR.out.set 0 (.int .i64 1)).set 1 (.slice A L.length cap))
      have hcA := KA.out.cell 0
      have hcB := KA.out.cell 1
      have HF : Hid (Frm (fun k => k = w.heap.size) wr ((wr.setCell ⟨w.heap.size, 0, none⟩ (.int .i64 1)).setCell ⟨w.heap.size, 1, none⟩ (.slice A L.length cap))) := Frm.tr (Frm.of_set _ _ _ rfl) (Frm.of_set _ _ _ rfl)
      have hE := hD.out (.returned (.tuple #[.agg #[.int .i64 1, .slice A L.length cap], .int .i64 0])) _ ⟨_, rfl, by
          have h1 := own_frm HL.out.own HF.out (fun k hk e => by have := (HL.out.own.lt k hk).1; omega)
          rw [HN.out] at h1
          rw [HN.out]
          exact own_base h1 (fun k hk => by have := (h1.lt k hk).1; omega),
        Frm.step (Below.trans HB.out (Below.mono HL.out.low (by omega))) HF.out (by have := HL.out.lt; omega) (by rintro k e; omega)⟩
      exact bodyPost_ret (v := .tuple #[.agg #[.int .i64 1, .slice A L.length cap], .int .i64 0]) (by simp [results, Try.results38, go_sem, hcA, hcB]) rfl hE

end Go.Proofs.Ytkdcbidbciognaa

namespace Go.Proofs.Ytkdcbidbciognaa
set_option linter.unusedVariables false
set_option linter.unusedSimpArgs false
open Go.RowKit

theorem place_any (ep x : Int) (A : Option Addr) (cap : Nat) (l : List Int) (w : World) (hl : l.length ≤ 9223372036854775807) (hs : Sl i64 w A l) :
    Calls Try.prog 70 #[chV ep A l.length cap, .int .i64 x] w fun e w' => e = .returned (.int .i64 (idx x l 0)) ∧ Below w.heap.size w w' := by
  have HB : Hid (∀ o, Below w.heap.size w (w.alloc o)) := fun o => (Below.refl _ _).alloc (Nat.le_refl _) _
  obtain ⟨n, hn⟩ : ∃ n, n = l.length := ⟨_, rfl⟩
  rw [← hn] at hl ⊢
  have HN := Lib.hid hn
  have HS := Lib.hid hs
  clear hn hs
  generalize hr : idx x l 0 = r
  have HR := Lib.hid hr
  clear hr
  go_enter Try.func70, Try.ntmps70
  go_wp2
  go_loop [5] (fun i => ∃ k : Nat, k ≤ n ∧ i = .int .i64 k ∧ Hid (r = idx x (l.drop k) k)) (fun i => n - (intOf i).toNat)
  case atStart => exact ⟨0, Nat.zero_le _, rfl, HR.out.symm⟩
  case round =>
    obtain ⟨k, hk, rfl, Hi⟩ := hrel
    by_cases hlt : k < n
    · obtain ⟨b1, o, rfl, hcell⟩ := HS.out.at_ (k := k) (by rw [← HN.out]; exact hlt)
      have hd : l.drop k = l[k]'(by rw [← HN.out]; exact hlt) :: l.drop (k + 1) := List.drop_eq_getElem_cons _
      have Hd := Lib.hid hd
      clear hd
      generalize l[k]'(by rw [← HN.out]; exact hlt) = y at *
      have hc2 := fun oo => cell_stay (HB.out oo) hcell
      unfold i64 at hc2
      clear hcell
      by_cases hb : y = x
      · have HE : Hid (r = k) := by show _ = _; rw [Hi.out, Hd.out, idx, if_pos hb.symm]
        subst hb
        go_wp2
        go_ret
        exact ⟨ret_int HE.out.symm, HB.out _⟩
      · have HE : Hid (r = idx x (l.drop (k + 1)) (k + 1)) := by show _ = _; rw [Hi.out, Hd.out, idx, if_neg (fun e => hb e.symm)]
        go_wp2
        go_round
        case rel => exact ⟨k + 1, by omega, by go_num, HE⟩
        case measure => simp [intOf]; omega
    · go_wp2
      go_ret
      exact ⟨ret_int (by rw [Hi.out, List.drop_of_length_le (by have := HN.out; omega)]; rfl), HB.out _⟩

theorem belowRef_any (ep x : Int) (A : Option Addr) (cap : Nat) (l : List Int) (w : World) (hl : l.length ≤ 9223372036854775807) (hs : Sl i64 w A l) :
    Calls Try.prog 69 #[chV ep A l.length cap, .int .i64 x] w fun e w' => e = .returned (.bool (l.all fun y => decide (y < x))) ∧ Below w.heap.size w w' := by
  have HB : Hid (∀ o, Below w.heap.size w (w.alloc o)) := fun o => (Below.refl _ _).alloc (Nat.le_refl _) _
  obtain ⟨n, hn⟩ : ∃ n, n = l.length := ⟨_, rfl⟩
  rw [← hn] at hl ⊢
  have HN := Lib.hid hn
  have HS := Lib.hid hs
  clear hn hs
  generalize hr : (l.all fun y => decide (y < x)) = r
  have HR := Lib.hid hr
  clear hr
  go_enter Try.func69, Try.ntmps69
  go_wp2
  go_loop [5] (fun i => ∃ k : Nat, k ≤ n ∧ i = .int .i64 k ∧ Hid (r = (l.drop k).all fun y => decide (y < x))) (fun i => n - (intOf i).toNat)
  case atStart => exact ⟨0, Nat.zero_le _, rfl, HR.out.symm⟩
  case round =>
    obtain ⟨k, hk, rfl, Hi⟩ := hrel
    by_cases hlt : k < n
    · obtain ⟨b1, o, rfl, hcell⟩ := HS.out.at_ (k := k) (by rw [← HN.out]; exact hlt)
      have hd : l.drop k = l[k]'(by rw [← HN.out]; exact hlt) :: l.drop (k + 1) := List.drop_eq_getElem_cons _
      have Hd := Lib.hid hd
      clear hd
      generalize l[k]'(by rw [← HN.out]; exact hlt) = y at *
      have hc2 := fun oo => cell_stay (HB.out oo) hcell
      unfold i64 at hc2
      clear hcell
      by_cases hb : y < x
      · have HE : Hid (r = (l.drop (k + 1)).all fun y => decide (y < x)) := by show _ = _; rw [Hi.out, Hd.out, List.all_cons, decide_eq_true hb, Bool.true_and]
        go_wp2
        go_round
        case rel => exact ⟨k + 1, by omega, by go_num, HE⟩
        case measure => simp [intOf]; omega
      · have HE : Hid (r = false) := by show _ = _; rw [Hi.out, Hd.out, List.all_cons, decide_eq_false hb, Bool.false_and]
        go_wp2
        go_ret
        exact ⟨ret_bool HE.out.symm, HB.out _⟩
    · go_wp2
      go_ret
      exact ⟨ret_bool (by rw [Hi.out, List.drop_of_length_le (by have := HN.out; omega)]; rfl), HB.out _⟩
end Go.Proofs.Ytkdcbidbciognaa
