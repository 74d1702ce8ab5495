/-
  The program's past and the document's in one world (law 22).
-/
import Derived.Test.YtnionfddejaalaaRefPastStep
import Derived.Test.YtnionfddejaalaaRefPastPend
import Derived.Test.YtnionfddejaalaaPastPend
import Derived.Test.YtnionfddejaalaaReqs22
namespace Go.Proofs.Ytnionfddejaalaa
set_option linter.unusedVariables false
set_option linter.unusedSimpArgs false
open Go.RowKit

/-- both, sharing nothing -/
structure Two (w0 w : World) (b P1 P2 : Nat) (G1 G2 : Option Nat) (s1 s2 : Ps) : Prop where
  p : PAt w b P1 G1 s1
  r : RAt w b P2 G2 s2
  ne : ∀ k, G1 = some k → ¬ G2 = some k
  base : w0.heap.size ≤ b
  ext : Ext w0 w
def sel2 (P1 P2 : Nat) (G1 G2 : Option Nat) : Nat → Prop := fun k => Psel P1 G1 k ∨ Psel P2 G2 k
theorem PAt.own_lt {w : World} {base P : Nat} {G : Option Nat} {st : Ps} (h : PAt w base P G st) : ∀ k, G = some k → k < w.heap.size := by
  obtain ⟨hb, v, l0, l1, l2, l3, p0, p1, p2, p3, o0, o1, o2, o3, L, k1, k2, k3, k4, k5, k6, k7, k8⟩ := h
  intro k hk
  obtain ⟨cs, hc⟩ := own_blk k5 (k6.trans hk)
  exact hc.lt
theorem RAt.own_lt {w : World} {base P : Nat} {G : Option Nat} {st : Ps} (h : RAt w base P G st) : ∀ k, G = some k → k < w.heap.size := by
  obtain ⟨hb, v, l0, l1, l2, l3, o0, o1, o2, o3, L, k1, k2, k3, k5, k6, k7, k8⟩ := h
  intro k hk
  obtain ⟨cs, hc⟩ := own_blk k5 (k6.trans hk)
  exact hc.lt
theorem PAt.blk {w : World} {base P : Nat} {G : Option Nat} {st : Ps} (h : PAt w base P G st) : (∃ cs, Blk w P 77 cs) ∧ ∀ k, G = some k → ∃ cs, Blk w k 50 cs := by
  obtain ⟨hb, v, l0, l1, l2, l3, p0, p1, p2, p3, o0, o1, o2, o3, L, k1, k2, k3, k4, k5, k6, k7, k8⟩ := h
  exact ⟨⟨_, k1⟩, fun k hk => own_blk k5 (k6.trans hk)⟩
theorem RAt.blk {w : World} {base P : Nat} {G : Option Nat} {st : Ps} (h : RAt w base P G st) : (∃ cs, Blk w P 32 cs) ∧ ∀ k, G = some k → ∃ cs, Blk w k 50 cs := by
  obtain ⟨hb, v, l0, l1, l2, l3, o0, o1, o2, o3, L, k1, k2, k3, k5, k6, k7, k8⟩ := h
  exact ⟨⟨_, k1⟩, fun k hk => own_blk k5 (k6.trans hk)⟩
/-- blocks of other types lie apart from what the two turn -/
theorem Two.apart {w0 w : World} {b P1 P2 : Nat} {G1 G2 : Option Nat} {s1 s2 : Ps} (h : Two w0 w b P1 P2 G1 G2 s1 s2) {g : Nat} {t : TypeId} {cs : Array Value} (hb : Blk w g t cs) (h1 : t ≠ 77) (h2 : t ≠ 32) (h3 : t ≠ 50) : ¬ sel2 P1 P2 G1 G2 g := by
  rintro (hk | hk)
  · obtain ⟨_, cs', h' | h'⟩ := h.p.sel g hk
    · exact Blk.apart hb h' h1 rfl
    · exact Blk.apart hb h' h3 rfl
  · obtain ⟨_, cs', h' | h'⟩ := h.r.sel g hk
    · exact Blk.apart hb h' h2 rfl
    · exact Blk.apart hb h' h3 rfl
theorem Two.stay {w0 w w' : World} {b P1 P2 : Nat} {G1 G2 : Option Nat} {s1 s2 : Ps} (h : Two w0 w b P1 P2 G1 G2 s1 s2) (hx : Ext w w') : Two w0 w' b P1 P2 G1 G2 s1 s2 :=
  ⟨h.p.stay hx, h.r.stay hx, h.ne, h.base, Ext.trans h.ext hx⟩
theorem Two.pout {w0 w w' : World} {b P1 P2 : Nat} {G1 G2 : Option Nat} {s1 s1' s2 : Ps} (h : Two w0 w b P1 P2 G1 G2 s1 s2) (ho : POut w w' b P1 G1 s1') : ∃ G1', Two w0 w' b P1 P2 G1' G2 s1' s2 ∧ Frm (Psel P1 G1) w w' := by
  obtain ⟨G', h1, hF, hG⟩ := ho
  refine ⟨G', ⟨h1, h.r.frm hF ?_ ?_ ?_, ?_, h.base, Frm.step h.ext hF h.ext.size (fun k hk => Nat.le_trans h.base (h.p.sel k hk).1)⟩, hF⟩
  · intro hk
    obtain ⟨cs, hc⟩ := h.r.blk.1
    obtain ⟨_, cs', h' | h'⟩ := h.p.sel P2 hk
    · exact Blk.apart hc h' (by decide) rfl
    · exact Blk.apart hc h' (by decide) rfl
  · intro k hk hs
    obtain ⟨cs, hc⟩ := h.r.blk.2 k hk
    rcases hs with rfl | hs
    · obtain ⟨cs', h'⟩ := h.p.blk.1
      exact Blk.apart hc h' (by decide) rfl
    · exact h.ne k hs.symm hk
  · rintro k cs hkc hs
    rcases hkc with hc | hc <;>
    · obtain ⟨_, cs', h' | h'⟩ := h.p.sel k hs
      · exact Blk.apart hc h' (by decide) rfl
      · exact Blk.apart hc h' (by decide) rfl
  · intro k hk hk2
    rcases hG with rfl | ⟨k', hk', hge⟩
    · exact h.ne k hk hk2
    · rw [hk'] at hk
      injection hk with hk
      subst hk
      have := h.r.own_lt _ hk2
      omega
theorem Two.rout {w0 w w' : World} {b P1 P2 : Nat} {G1 G2 : Option Nat} {s1 s2 s2' : Ps} (h : Two w0 w b P1 P2 G1 G2 s1 s2) (ho : ROut w w' b P2 G2 s2') : ∃ G2', Two w0 w' b P1 P2 G1 G2' s1 s2' ∧ Frm (Psel P2 G2) w w' := by
  obtain ⟨G', h1, hF, hG⟩ := ho
  refine ⟨G', ⟨h.p.frm hF ?_ ?_ ?_, h1, ?_, h.base, Frm.step h.ext hF h.ext.size (fun k hk => Nat.le_trans h.base (h.r.sel k hk).1)⟩, hF⟩
  · intro hk
    obtain ⟨cs, hc⟩ := h.p.blk.1
    obtain ⟨_, cs', h' | h'⟩ := h.r.sel P1 hk
    · exact Blk.apart hc h' (by decide) rfl
    · exact Blk.apart hc h' (by decide) rfl
  · intro k hk hs
    obtain ⟨cs, hc⟩ := h.p.blk.2 k hk
    rcases hs with rfl | hs
    · obtain ⟨cs', h'⟩ := h.r.blk.1
      exact Blk.apart hc h' (by decide) rfl
    · exact h.ne k hk hs.symm
  · rintro k cs hkc hs
    rcases hkc with hc | hc <;>
    · obtain ⟨_, cs', h' | h'⟩ := h.r.sel k hs
      · exact Blk.apart hc h' (by decide) rfl
      · exact Blk.apart hc h' (by decide) rfl
  · intro k hk hk2
    rcases hG with rfl | ⟨k', hk', hge⟩
    · exact h.ne k hk hk2
    · rw [hk'] at hk2
      injection hk2 with hk2
      subst hk2
      have := h.p.own_lt _ hk
      omega
/-- what is asked and answered stays small -/
structure Sm (st : Ps) (j : Nat) : Prop where
  ok : PsOk st
  run : runF .init st.acts = some st
  len : st.acts.length ≤ j
  sm : ∀ a ∈ st.acts, a.r.l.length ≤ 60
  qd : ∀ a ∈ st.acts, a.q.d.size ≤ maxLen
theorem Sm.init : Sm .init 0 := ⟨PsOk.init, rfl, Nat.le_refl _, (fun a ha => by cases ha), (fun a ha => by cases ha)⟩
theorem Sm.more {st : Ps} {j : Nat} (h : Sm st j) : Sm st (j + 1) := ⟨h.ok, h.run, Nat.le_trans h.len (Nat.le_succ j), h.sm, h.qd⟩
theorem mayQ_size {q : Rqv} (h : mayQ q = true) : q.d.size ≤ maxLen := by
  unfold mayQ mayReqB at h
  have h := of_decide_eq_true h
  unfold maxLen
  omega
theorem Sm.ask {st : Ps} {j : Nat} (h : Sm st j) (q : Rqv) : Sm (askN st q) (j + 1) := by
  unfold askN
  split
  · rename_i he
    refine ⟨h.ok.ask (askE_ok he).1, run_ask h.run he, ?_, fun a ha => ?_, fun a ha => ?_⟩
    · unfold askS; simp; exact h.len
    · rcases List.mem_append.1 (show a ∈ st.acts ++ [_] from ha) with ha | ha
      · exact h.sm a ha
      · simp at ha; subst ha; exact Nat.zero_le _
    · rcases List.mem_append.1 (show a ∈ st.acts ++ [_] from ha) with ha | ha
      · exact h.qd a ha
      · simp at ha; subst ha; exact mayQ_size (askE_ok he).1
  · exact h.more
theorem Sm.ans {st : Ps} {j : Nat} (h : Sm st j) (c sq : Int) (r : Rpv) (at_ : Int) (hr : r.l.length ≤ 60) : Sm (ansN st c sq r at_) (j + 1) := by
  unfold ansN
  split
  · rename_i he
    have hb := ansE_ok he
    refine ⟨h.ok.ans ⟨hb.2.2.1, hb.2.2.2.1⟩, run_ans h.run he, ?_, fun a ha => ?_, fun a ha => ?_⟩
    · unfold ansS; simp; exact h.len
    · rcases List.mem_append.1 (show a ∈ st.acts ++ [_] from ha) with ha | ha
      · exact h.sm a ha
      · simp at ha; subst ha; exact hr
    · rcases List.mem_append.1 (show a ∈ st.acts ++ [_] from ha) with ha | ha
      · exact h.qd a ha
      · simp at ha; subst ha
        obtain ⟨q, hq, _⟩ := hb.2.2.2.2
        show ((st.w c).getD _).d.size ≤ _
        rw [hq]
        exact mayQ_size (h.ok.may c q hb.2.2.1 hb.2.2.2.1 hq).1
  · exact h.more
theorem Two.pend {w0 w : World} {b P1 P2 : Nat} {G1 G2 : Option Nat} {s1 s2 : Ps} (h : Two w0 w b P1 P2 G1 G2 s1 s2) :
    Calls Try.prog 16 #[.pointer (some ⟨P1, 0, none⟩)] w fun e w' => ∃ A c, e = .returned (.slice A (pendL s1.wait 4).length c) ∧ (pendL s1.wait 4).length ≤ c ∧ Rqs w' A (pendL s1.wait 4) ∧ Ext w w' := by
  refine (pend_any b P1 G1 s1 w h.p).mono ?_
  rintro e w' ⟨A, c, he, ho, hx⟩
  obtain ⟨_, A', c', e', hc, hq⟩ := ownQ_view ho
  injection e' with e1 e2 e3
  subst e1 e3
  exact ⟨A, c, he, hc, hq, hx⟩
theorem Two.rpend {w0 w : World} {b P1 P2 : Nat} {G1 G2 : Option Nat} {s1 s2 : Ps} (h : Two w0 w b P1 P2 G1 G2 s1 s2) (K : PsOk s2) :
    Calls Try.prog 17 #[.pointer (some ⟨P2, 0, none⟩)] w fun e w' => ∃ A c, e = .returned (.slice A (pendL s2.wait 4).length c) ∧ (pendL s2.wait 4).length ≤ c ∧ Rqs w' A (pendL s2.wait 4) ∧ Ext w w' := by
  refine (rpend_any b P2 G2 s2 w h.r K).mono ?_
  rintro e w' ⟨A, c, he, ho, hx⟩
  obtain ⟨_, A', c', e', hc, hq⟩ := ownQ_view ho
  injection e' with e1 e2 e3
  subst e1 e3
  exact ⟨A, c, he, hc, hq, hx⟩
end Go.Proofs.Ytnionfddejaalaa
