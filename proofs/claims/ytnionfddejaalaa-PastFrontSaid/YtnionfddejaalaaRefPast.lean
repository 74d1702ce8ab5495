/-
  What the document's past holds (law 22).
-/
import Derived.Test.YtnionfddejaalaaPastAsk
namespace Go.Proofs.Ytnionfddejaalaa
set_option linter.unusedVariables false
set_option linter.unusedSimpArgs false
open Go.RowKit

def wq (o : Option Rqv) : Rqv := o.getD Rqv.zero
def RAt (w : World) (base P : Nat) (G : Option Nat) (st : Ps) : Prop :=
  base ≤ P ∧ ∃ v l0 l1 l2 l3 o0 o1 o2 o3 L, Blk w P 32 #[v, .int .i64 l0, .int .i64 l1, .int .i64 l2, .int .i64 l3, .int .i64 (wq o0).c, .int .i64 (wq o0).s, .int .i64 (wq o0).k, .int .i64 (wq o0).i, .int .i64 (wq o0).m, .string (wq o0).d, .int .i64 (wq o1).c, .int .i64 (wq o1).s, .int .i64 (wq o1).k, .int .i64 (wq o1).i, .int .i64 (wq o1).m, .string (wq o1).d, .int .i64 (wq o2).c, .int .i64 (wq o2).s, .int .i64 (wq o2).k, .int .i64 (wq o2).i, .int .i64 (wq o2).m, .string (wq o2).d, .int .i64 (wq o3).c, .int .i64 (wq o3).s, .int .i64 (wq o3).k, .int .i64 (wq o3).i, .int .i64 (wq o3).m, .string (wq o3).d] ∧ st.last = [l0, l1, l2, l3] ∧ st.wait = [o0, o1, o2, o3] ∧
    w.ownsRow base 50 14 v L.length (flatA L) ∧ v.ownBlock = G ∧ L.map At.x = st.acts ∧ ∀ t ∈ L, In w t.A t.cap t.x.r.l
theorem RAt.lt {w : World} {base P : Nat} {G : Option Nat} {st : Ps} (h : RAt w base P G st) : P < w.heap.size := by
  obtain ⟨_, v, l0, l1, l2, l3, o0, o1, o2, o3, L, h1, _⟩ := h
  exact h1.lt
theorem RAt.frm {s : Nat → Prop} {w w' : World} {base P : Nat} {G : Option Nat} {st : Ps} (h : RAt w base P G st) (hf : Frm s w w') (h1 : ¬ s P) (h2 : ∀ k, G = some k → ¬ s k) (h3 : ∀ k cs, Blk w k 29 cs ∨ Blk w k 3 cs → ¬ s k) : RAt w' base P G st := by
  obtain ⟨hb, v, l0, l1, l2, l3, o0, o1, o2, o3, L, k1, k2, k3, k5, k6, k7, k8⟩ := h
  have hi : ∀ g cs, Blk w g 3 cs → Blk w' g 3 cs := fun g cs hg => hg.frm hf (h3 g cs (.inr hg))
  exact ⟨hb, v, l0, l1, l2, l3, o0, o1, o2, o3, L, k1.frm hf h1, k2, k3, own_frmN k5 hf (fun k hk => h2 k (k6.symm.trans hk)), k6, k7, fun t ht => (k8 t ht).of hi⟩
theorem RAt.stay {w w' : World} {base P : Nat} {G : Option Nat} {st : Ps} (h : RAt w base P G st) (hx : Ext w w') : RAt w' base P G st :=
  h.frm (Frm.of_below hx (fun _ => False)) (fun h => h) (fun _ _ h => h) (fun _ _ _ h => h)
def ROut (w w' : World) (base P : Nat) (G : Option Nat) (st : Ps) : Prop := ∃ G', RAt w' base P G' st ∧ Frm (Psel P G) w w' ∧ (G' = G ∨ ∃ k, G' = some k ∧ w.heap.size ≤ k)
theorem ROut.ext {w w' : World} {base P : Nat} {G : Option Nat} {st : Ps} (h : RAt w base P G st) (hx : Ext w w') : ROut w w' base P G st := ⟨G, h.stay hx, Frm.of_below hx _, .inl rfl⟩
theorem RAt.sel {w : World} {base P : Nat} {G : Option Nat} {st : Ps} (h : RAt w base P G st) : ∀ k, Psel P G k → base ≤ k ∧ ∃ cs, Blk w k 32 cs ∨ Blk w k 50 cs := by
  obtain ⟨hb, v, l0, l1, l2, l3, o0, o1, o2, o3, L, k1, k2, k3, k5, k6, k7, k8⟩ := h
  rintro k (rfl | e)
  · exact ⟨hb, _, .inl k1⟩
  · have hv : v.ownBlock = some k := k6.trans e.symm
    obtain ⟨cs, hc⟩ := own_blk k5 hv
    exact ⟨(k5.lt k hv).1, cs, .inr hc⟩
theorem RAt.new (w : World) (base : Nat) (hb : base ≤ w.heap.size) : RAt (w.alloc (.cells #[.slice none 0 0, .int .i64 0, .int .i64 0, .int .i64 0, .int .i64 0, .int .i64 0, .int .i64 0, .int .i64 0, .int .i64 0, .int .i64 0, .string ⟨#[]⟩, .int .i64 0, .int .i64 0, .int .i64 0, .int .i64 0, .int .i64 0, .string ⟨#[]⟩, .int .i64 0, .int .i64 0, .int .i64 0, .int .i64 0, .int .i64 0, .string ⟨#[]⟩, .int .i64 0, .int .i64 0, .int .i64 0, .int .i64 0, .int .i64 0, .string ⟨#[]⟩] 32)) base w.heap.size none .init :=
  ⟨hb, _, _, _, _, _, none, none, none, none, [], Blk.new _ _ _, rfl, rfl, World.ownsRow_nil _ _ _ _, rfl, rfl, fun t ht => by cases ht⟩
end Go.Proofs.Ytnionfddejaalaa
