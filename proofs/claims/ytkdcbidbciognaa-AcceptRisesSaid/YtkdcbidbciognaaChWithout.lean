/-
  Package chain: a chain without some of its nodes, which ranges over the iterator.
-/
import Derived.Test.YtkdcbidbciognaaChLeft
import Derived.Maps.AppendAt
namespace Go.Proofs.Ytkdcbidbciognaa
set_option linter.unusedVariables false
set_option linter.unusedSimpArgs false
open Go.RowKit Go.Shelf
attribute [local go_sem] Oper.semAt_some

def withoutL (ep : Int) (l gone : List Int) : Int × List Int × Int := if mayChainB ep l then chOk (ep + 1) (leftL l gone) else noCh

/-- the chain that grows in block P, its nodes in blocks from B on -/
structure Out (B : Nat) (wz w : World) (P : Nat) (ep : Int) (l : List Int) : Prop where
  low : Below P wz w
  big : B ≤ w.heap.size
  row : ∃ A cap, Blk w P 26 #[.int .i64 ep, .slice A l.length cap] ∧ w.ownsRow B 3 1 (.slice A l.length cap) l.length (l.map i64)

theorem Out.own {B P : Nat} {wz : World} {ep : Int} (hP : P < B) : OwnFrom B (fun l W => Out B wz W P ep l) := by
  rintro l W W' row ⟨hlow, hbig, A, cap, hb, ho⟩ hg hr
  have hne : some P ≠ row := fun e => by have := (hr P e.symm).1; omega
  refine ⟨hlow.grown hg (by have := hb.lt; omega) (fun k hk => by have := (hr k hk).1; omega), Nat.le_trans hbig hg.size, A, cap, hb.grown hg hne, ho.kept hg ?_⟩
  rcases ho.2 with ⟨e, _⟩ | ⟨g, c, cur, e, _, hgb, _⟩
  · exact .inl (by rw [e]; rfl)
  · refine .inr fun e' => ?_
    rw [e] at e'
    obtain ⟨_, o, h1, h2⟩ := hr g (by simpa [Value.ownBlock] using e'.symm)
    rw [hgb] at h1
    cases h1
    cases h2

theorem Out.push {B P : Nat} {wz w : World} {ep : Int} {l : List Int} (hP : P < B) (hlow : Below P wz w) (hbig : B ≤ w.heap.size) {A : Option Addr} {cap : Nat} (hb : Blk w P 26 #[.int .i64 ep, .slice A l.length cap]) (ho : w.ownsRow B 3 1 (.slice A l.length cap) l.length (l.map i64))
    (x : Int) {w' : World} {A' : Option Addr} {cap' : Nat} (hg : (w.alloc (.cells #[.int .i64 x] 3)).grownBy w' (Value.slice A l.length cap).ownBlock)
    (ho' : w'.ownsRow B 3 1 (.slice A' (l.length + 1) cap') (l.length + 1) (l.map i64 ++ [i64 x])) :
    Blk w' P 26 #[.int .i64 ep, .slice A l.length cap] ∧ KeepsFrom B w (w'.setCell ⟨P, 1, none⟩ (.slice A' (l.length + 1) cap')) ∧ Frm (fun k => k = P ∨ B ≤ k) w (w'.setCell ⟨P, 1, none⟩ (.slice A' (l.length + 1) cap')) ∧
      Out B wz (w'.setCell ⟨P, 1, none⟩ (.slice A' (l.length + 1) cap')) P ep (l ++ [x]) := by
  have hne : some P ≠ (Value.slice A l.length cap).ownBlock := own_ne ho hP
  have hlt : ∀ k, (Value.slice A l.length cap).ownBlock = some k → B ≤ k := fun k hk => (ho.lt k hk).1
  have hB1 : Blk w' P 26 #[.int .i64 ep, .slice A l.length cap] := (hb.alloc _).grown hg hne
  have hF : Frm (fun k => k = P ∨ B ≤ k) w (w'.setCell ⟨P, 1, none⟩ (.slice A' (l.length + 1) cap')) :=
    Frm.tr (Frm.tr (Frm.of_alloc _ _ _) (Frm.of_grown hg (fun k hk => .inr (hlt k hk.symm)))) (Frm.of_set _ _ _ (.inl rfl))
  refine ⟨hB1, ?_, hF, ?_, Nat.le_trans hbig hF.size, A', cap', ?_, ?_⟩
  · refine ((KeepsOthers.alloc _ _).trans ((KeepsOthers.of_grownBy hg ?_).trans (KeepsOthers.setCell _ _ _))).from B
    intro j o hj hoo
    have ho2 := ho.alloc (.cells #[.int .i64 x] 3)
    rcases ho2.2 with ⟨e, _⟩ | ⟨g, c, cur, e, _, hgb, _⟩
    · rw [e] at hj; simp [Value.ownBlock] at hj
    · rw [e] at hj
      simp [Value.ownBlock] at hj
      subst hj
      rw [hgb] at hoo
      cases hoo
      rfl
  · exact hlow.trans (hF.below (by have := hb.lt; omega) (by rintro k (e | e) <;> omega))
  · have := hB1.set 1 (.slice A' (l.length + 1) cap')
    simpa using this
  · have h1 := own_frm (s := fun k => k = P) ho' (Frm.of_set w' ⟨P, 1, none⟩ (.slice A' (l.length + 1) cap') rfl) (fun k hk e => by have := (ho'.lt k hk).1; omega)
    simpa using h1

end Go.Proofs.Ytkdcbidbciognaa
