/-
  What a past holds (law 22): its acts, each with its list of versions; who waits.
-/
import Derived.Test.YtnionfddejaalaaPastLaw
import Derived.Test.YtnionfddejaalaaFrm
import Derived.Test.YtnionfddejaalaaHeldZ
import Derived.Maps.AppendAt
namespace Go.Proofs.Ytnionfddejaalaa
set_option linter.unusedVariables false
set_option linter.unusedSimpArgs false
open Go.RowKit Go.ChangeShapes Go.WideShapes Go.Joins Go.Deep

theorem ext_al' (w : World) (o : Obj) : Ext w (w.alloc o) := (Below.refl _ _).alloc (Nat.le_refl _) _
/-- numbers in a block of their own -/
def In (w : World) (A : Option Addr) (cap : Nat) (ns : List Int) : Prop := ns.length ≤ cap ∧ ((A = none ∧ ns = []) ∨ ∃ g cur, A = some ⟨g, 0, none⟩ ∧ Blk w g 3 cur ∧ ∀ (j : Nat) (v : Int), ns[j]? = some v → cur[j]? = some (i64 v))
theorem In.of {w w' : World} {A : Option Addr} {cap : Nat} {ns : List Int} (h : In w A cap ns) (hk : ∀ g cs, Blk w g 3 cs → Blk w' g 3 cs) : In w' A cap ns := by
  obtain ⟨hc, h | ⟨g, cur, h1, h2, h3⟩⟩ := h
  · exact ⟨hc, .inl h⟩
  · exact ⟨hc, .inr ⟨g, cur, h1, hk _ _ h2, h3⟩⟩
theorem In.stay {w w' : World} {A : Option Addr} {cap : Nat} {ns : List Int} (h : In w A cap ns) (hx : Ext w w') : In w' A cap ns := h.of fun g cs hb => hb.stay hx
theorem In.sl {w : World} {A : Option Addr} {cap : Nat} {ns : List Int} (h : In w A cap ns) : Sl i64 w A ns := by
  obtain ⟨_, ⟨rfl, rfl⟩ | ⟨g, cur, rfl, h2, h3⟩⟩ := h
  · exact Sl.nil _ _ _
  · exact Sl.of_blk h2 h3
theorem In.nil (w : World) : In w none 0 [] := ⟨Nat.le_refl _, .inl ⟨rfl, rfl⟩⟩
theorem In.own {w : World} {base : Nat} {v : Value} {l : List Int} (h : w.ownsRow base 3 1 v l.length (l.map i64)) : ∃ A cap, v = .slice A l.length cap ∧ In w A cap l := by
  rcases h.2 with ⟨rfl, hn⟩ | ⟨g, cap, cur, rfl, _, hg, hc1, hc2, hcs, htake⟩
  · have : l = [] := List.eq_nil_of_length_eq_zero hn
    subst this
    exact ⟨none, 0, rfl, Nat.le_refl _, .inl ⟨rfl, rfl⟩⟩
  · have hle : l.length ≤ cap := by omega
    refine ⟨_, cap, rfl, hle, .inr ⟨g, cur, rfl, hg, fun j x hj => ?_⟩⟩
    have hlt : j < l.length := (List.getElem?_eq_some_iff.1 hj).1
    have h2 : (l.map i64)[j]? = some (i64 x) := by rw [List.getElem?_map, hj]; rfl
    rw [← htake, List.getElem?_take, if_pos (by omega)] at h2
    simpa using h2

def qcells (q : Rqv) : Array Value := #[.int .i64 q.c, .int .i64 q.s, .int .i64 q.k, .int .i64 q.i, .int .i64 q.m, .string q.d]
def Rqv.zero : Rqv := ⟨0, 0, 0, 0, 0, ⟨#[]⟩⟩
/-- an act, and where its versions lie -/
structure At where
  x : Ac
  A : Option Addr
  cap : Nat
def acRow (x : Ac) (A : Option Addr) (cap : Nat) : List Value := [.int .i64 x.cl, .int .i64 x.sq, .bool x.ans, .int .i64 x.q.c, .int .i64 x.q.s, .int .i64 x.q.k, .int .i64 x.q.i, .int .i64 x.q.m, .string x.q.d, .int .i64 x.r.c, .int .i64 x.r.v, .string x.r.d, .slice A x.r.l.length cap, .int .i64 x.at_]
def flatA : List At → List Value
  | [] => []
  | t :: l => acRow t.x t.A t.cap ++ flatA l
theorem flatA_append (a b : List At) : flatA (a ++ b) = flatA a ++ flatA b := by
  induction a with
  | nil => rfl
  | cons x r ih => simp [flatA, ih]
theorem flatA_length (a : List At) : (flatA a).length = a.length * 14 := by
  induction a with
  | nil => rfl
  | cons x r ih => simp [flatA, acRow, ih]; omega
theorem flatA_at (l : List At) : ∀ (j : Nat) (t : At), l[j]? = some t → ∀ k, k < 14 → (flatA l)[j * 14 + k]? = (acRow t.x t.A t.cap)[k]? := by
  induction l with
  | nil => intro j x h; simp at h
  | cons y r ih =>
    intro j t h k hk
    have hl : (acRow y.x y.A y.cap).length = 14 := rfl
    cases j with
    | zero =>
      simp at h
      subst h
      rw [flatA, List.getElem?_append_left (by omega)]
      simp
    | succ j =>
      rw [flatA, List.getElem?_append_right (by omega), hl, show (j + 1) * 14 + k - 14 = j * 14 + k by omega]
      exact ih j t (by simpa using h) k hk
/-- a slice of acts reads as the list -/
def Acs (w : World) (A : Option Addr) (L : List At) : Prop :=
  ∀ (j : Nat) (t : At), L[j]? = some t → ∃ b o, A = some ⟨b, o, none⟩ ∧ (∀ k, k < 14 → w.cell? ⟨b, o + j * 14 + k, none⟩ = (acRow t.x t.A t.cap)[k]?) ∧ Sl i64 w t.A t.x.r.l
theorem Acs.stay {w w' : World} {A : Option Addr} {L : List At} (h : Acs w A L) (hb : Ext w w') : Acs w' A L := fun j t hj => by
  obtain ⟨b, o, e, hc, hs⟩ := h j t hj
  refine ⟨b, o, e, fun k hk => ?_, hs.stay hb⟩
  have h1 := hc k hk
  have h2 : ∃ v, (acRow t.x t.A t.cap)[k]? = some v := ⟨(acRow t.x t.A t.cap)[k]'(by show k < 14; exact hk), List.getElem?_eq_getElem (by show k < 14; exact hk)⟩
  obtain ⟨v, hv⟩ := h2
  rw [hv] at h1 ⊢
  exact cell_stay hb h1
theorem ownA_view {w : World} {base n : Nat} {v : Value} {L : List At} (h : w.ownsRow base 50 14 v n (flatA L)) (hi : ∀ t ∈ L, Sl i64 w t.A t.x.r.l) : n = L.length ∧ ∃ A cap, v = .slice A n cap ∧ n ≤ cap ∧ Acs w A L := by
  have h1 := h.1
  rw [flatA_length] at h1
  have hn : n = L.length := by omega
  refine ⟨hn, ?_⟩
  rcases h.2 with ⟨rfl, hn0⟩ | ⟨g, cap, cur, rfl, _, hg, hc1, hc2, hcs, htake⟩
  · have : L = [] := List.eq_nil_of_length_eq_zero (by omega)
    subst this
    exact ⟨none, 0, by rw [hn0], by omega, fun j x hj => by simp at hj⟩
  · refine ⟨_, cap, rfl, by omega, fun j t hj => ⟨g, 0, rfl, fun k hk => ?_, hi t (List.mem_of_getElem? hj)⟩⟩
    have hlt : j < L.length := (List.getElem?_eq_some_iff.1 hj).1
    have q := flatA_at L j t hj k hk
    rw [← htake, List.getElem?_take, if_pos (by omega)] at q
    rw [Nat.zero_add, cell_of_row w g _ cur _ (0, 0) hg]
    simpa using q
theorem info_act : (Try.prog.info? 50).map (fun i => (i.zero, i.size, i.bytes)) = some (some (.agg #[.int .i64 0, .int .i64 0, .bool false, .int .i64 0, .int .i64 0, .int .i64 0, .int .i64 0, .int .i64 0, .string ⟨#[]⟩, .int .i64 0, .int .i64 0, .string ⟨#[]⟩, .slice none 0 0, .int .i64 0]), 14, 144) := by kernel_rfl
theorem own_frmN {s : Nat → Prop} {w w' : World} {base n size : Nat} {e : TypeId} {v : Value} {xs : List Value} (h : w.ownsRow base e size v n xs) (hf : Frm s w w') (hg : ∀ k, v.ownBlock = some k → ¬ s k) : w'.ownsRow base e size v n xs := by
  refine ⟨h.1, ?_⟩
  rcases h.2 with hn | ⟨g, cap, cur, rfl, hb, hgg, r⟩
  · exact .inl hn
  · exact .inr ⟨g, cap, cur, rfl, hb, (hf.block g (Array.getElem?_eq_some_iff.1 hgg).1 (hg g rfl)).trans hgg, r⟩
/-- an owned row's block is one of its element type -/
theorem own_blk {w : World} {base n size k : Nat} {e : TypeId} {v : Value} {xs : List Value} (h : w.ownsRow base e size v n xs) (hk : v.ownBlock = some k) : ∃ cs, Blk w k e cs := by
  rcases h.2 with ⟨rfl, _⟩ | ⟨g, cap, cur, rfl, _, hg, _⟩
  · cases hk
  · injection hk with hk
    subst hk
    exact ⟨_, hg⟩

theorem own_blkne {w : World} {base n size g : Nat} {e t : TypeId} {v : Value} {xs : List Value} {cs : Array Value} (h : w.ownsRow base e size v n xs) (hb : Blk w g t cs) (hne : e ≠ t) : ∀ k, v.ownBlock = some k → ¬ k = g := by
  rintro k hk rfl
  obtain ⟨cs', hc⟩ := own_blk h hk
  exact Blk.apart hc hb hne rfl

section
variable {P : Program} {w : World} {ops : Array Oper} {rest : List Oper} {o : Oper} {a : Act} {Q : Exit → Act → World → Prop}
/-- append of one element of several cells onto a slice of the call's own: what it comes to -/
theorem wp_append_wide {K : Act → World → Prop} (s x : Operand) (t : TypeId)
    (ho : o.op = .call { callee := .builtin .append, args := #[s, x], argTypes := #[t, t] })
    (base : Nat) (e : TypeId) (z : Value) (size bytes : Nat) (ht : P.underlying t = some (.slice e)) (hinfo : (P.info? e).map (fun i => (i.zero, i.size, i.bytes)) = some (some z, size, bytes))
    (hzs : z.cells.size = size) (hsz : 0 < size) (hby : bytes ≤ 1000) (v : Value) (n : Nat) (xs : List Value) (hs : a.eval s = v) (hown : w.ownsRow base e size v n xs)
    (g : Nat) (u : List Value) (hu : u.length = size) (hx : a.eval x = .slice (some ⟨g, 0, none⟩) 1 1) (hB : Blk w g e u.toArray) (h1 : ∀ y ∈ u, y.oneCell' = true)
    (hn : n ≤ 1000000000) (hbase : base ≤ w.heap.size)
    (h : ∀ v' w', w'.ownsRow base e size v' (n + 1) (xs ++ u) → w.grownBy w' v.ownBlock → (v'.ownBlock = v.ownBlock ∨ v'.ownBlock = some w.heap.size) → K (a.put o.dst v') w') : o.wp P a w K Q := by
  obtain ⟨i0, hi, hz0, hz1, hz2⟩ := info_parts hinfo
  obtain ⟨v', w', hr, h2, h3, _, h5⟩ := run_append_own_at (P := P) w base t o.type e i0 z size bytes ht hi hz0 hz1 hz2 hzs hsz v n xs hown ⟨g, 0, none⟩ 1 1 u (by rw [hu]; omega) (fun j y hj => by
      rw [Go.WideShapes.add_plain, Nat.zero_add, hB.cell j, List.getElem?_toArray]
      exact hj) h1 (by unfold maxLen; omega) (by
      calc (n + 1) * bytes ≤ 1000000001 * 1000 := Nat.mul_le_mul (by omega) hby
        _ ≤ 140737488355328 := by omega) hbase
  unfold Oper.wp execOp
  simp only [ho, resolve, invoke, builtin, Sem.run_bind, Sem.run_pure, Result.andThen_ok, List.map_toArray, List.map_cons, List.map_nil, hs, hx, hr]
  exact h v' w' h2 h3 h5
end

def WtAt (w : World) (p : Value) : Option Rqv → Prop
  | none => p = .pointer none
  | some q => ∃ g, p = .pointer (some ⟨g, 0, none⟩) ∧ Blk w g 29 (qcells q)
theorem WtAt.of {w w' : World} {p : Value} {o : Option Rqv} (h : WtAt w p o) (hk : ∀ g cs, Blk w g 29 cs → Blk w' g 29 cs) : WtAt w' p o := by
  cases o with
  | none => exact h
  | some q => obtain ⟨g, e, hb⟩ := h; exact ⟨g, e, hk _ _ hb⟩
def PAt (w : World) (base P : Nat) (G : Option Nat) (st : Ps) : Prop :=
  base ≤ P ∧ ∃ v l0 l1 l2 l3 p0 p1 p2 p3 o0 o1 o2 o3 L, Blk w P 77 #[v, .int .i64 l0, .int .i64 l1, .int .i64 l2, .int .i64 l3, p0, p1, p2, p3] ∧ st.last = [l0, l1, l2, l3] ∧ st.wait = [o0, o1, o2, o3] ∧ (WtAt w p0 o0 ∧ WtAt w p1 o1 ∧ WtAt w p2 o2 ∧ WtAt w p3 o3) ∧
    w.ownsRow base 50 14 v L.length (flatA L) ∧ v.ownBlock = G ∧ L.map At.x = st.acts ∧ ∀ t ∈ L, In w t.A t.cap t.x.r.l
theorem PAt.lt {w : World} {base P : Nat} {G : Option Nat} {st : Ps} (h : PAt w base P G st) : P < w.heap.size := by
  obtain ⟨_, v, l0, l1, l2, l3, p0, p1, p2, p3, o0, o1, o2, o3, L, h1, _⟩ := h
  exact h1.lt
/-- what a past shares nothing with leaves it -/
theorem PAt.frm {s : Nat → Prop} {w w' : World} {base P : Nat} {G : Option Nat} {st : Ps} (h : PAt w base P G st) (hf : Frm s w w') (h1 : ¬ s P) (h2 : ∀ k, G = some k → ¬ s k) (h3 : ∀ k cs, Blk w k 29 cs ∨ Blk w k 3 cs → ¬ s k) : PAt w' base P G st := by
  obtain ⟨hb, v, l0, l1, l2, l3, p0, p1, p2, p3, o0, o1, o2, o3, L, k1, k2, k3, ⟨k40, k41, k42, k43⟩, k5, k6, k7, k8⟩ := h
  have hq : ∀ g cs, Blk w g 29 cs → Blk w' g 29 cs := fun g cs hg => hg.frm hf (h3 g cs (.inl hg))
  have hi : ∀ g cs, Blk w g 3 cs → Blk w' g 3 cs := fun g cs hg => hg.frm hf (h3 g cs (.inr hg))
  exact ⟨hb, v, l0, l1, l2, l3, p0, p1, p2, p3, o0, o1, o2, o3, L, k1.frm hf h1, k2, k3, ⟨k40.of hq, k41.of hq, k42.of hq, k43.of hq⟩, own_frmN k5 hf (fun k hk => h2 k (k6.symm.trans hk)), k6, k7, fun t ht => (k8 t ht).of hi⟩
theorem PAt.stay {w w' : World} {base P : Nat} {G : Option Nat} {st : Ps} (h : PAt w base P G st) (hx : Ext w w') : PAt w' base P G st :=
  h.frm (Frm.of_below hx (fun _ => False)) (fun h => h) (fun _ _ h => h) (fun _ _ _ h => h)
def Psel (P : Nat) (G : Option Nat) : Nat → Prop := fun k => k = P ∨ some k = G
/-- what a call on a past leaves -/
def POut (w w' : World) (base P : Nat) (G : Option Nat) (st : Ps) : Prop := ∃ G', PAt w' base P G' st ∧ Frm (Psel P G) w w' ∧ (G' = G ∨ ∃ k, G' = some k ∧ w.heap.size ≤ k)
theorem POut.ext {w w' : World} {base P : Nat} {G : Option Nat} {st : Ps} (h : PAt w base P G st) (hx : Ext w w') : POut w w' base P G st := ⟨G, h.stay hx, Frm.of_below hx _, .inl rfl⟩
/-- the own blocks lie where they may -/
theorem PAt.sel {w : World} {base P : Nat} {G : Option Nat} {st : Ps} (h : PAt w base P G st) : ∀ k, Psel P G k → base ≤ k ∧ ∃ cs, Blk w k 77 cs ∨ Blk w k 50 cs := by
  obtain ⟨hb, v, l0, l1, l2, l3, p0, p1, p2, p3, o0, o1, o2, o3, L, k1, k2, k3, k4, k5, k6, k7, k8⟩ := h
  rintro k (rfl | e)
  · exact ⟨hb, _, .inl k1⟩
  · have hv : v.ownBlock = some k := k6.trans e.symm
    obtain ⟨cs, hc⟩ := own_blk k5 hv
    exact ⟨(k5.lt k hv).1, cs, .inr hc⟩
theorem PAt.new (w : World) (base : Nat) (hb : base ≤ w.heap.size) : PAt (w.alloc (.cells #[.slice none 0 0, .int .i64 0, .int .i64 0, .int .i64 0, .int .i64 0, .pointer none, .pointer none, .pointer none, .pointer none] 77)) base w.heap.size none .init :=
  ⟨hb, _, _, _, _, _, _, _, _, _, none, none, none, none, [], Blk.new _ _ _, rfl, rfl, ⟨rfl, rfl, rfl, rfl⟩, World.ownsRow_nil _ _ _ _, rfl, rfl, fun t ht => by cases ht⟩
end Go.Proofs.Ytnionfddejaalaa
