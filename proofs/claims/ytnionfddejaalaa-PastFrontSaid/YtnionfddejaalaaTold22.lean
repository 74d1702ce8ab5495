/-
  told of law 22: what the program tells of a few acts.
-/
import Derived.Test.YtnionfddejaalaaPastActs
import Derived.Test.YtnionfddejaalaaPastMay
namespace Go.Proofs.Ytnionfddejaalaa
set_option linter.unusedVariables false
set_option linter.unusedSimpArgs false
open Go.RowKit

def q22 : Rqv := ⟨1, 2, 4, 3, 0, ⟨#[]⟩⟩
def s22a : Ps := askS .init q22
def s22b : Ps := ansS s22a 1 2 ⟨2, 0, ⟨#[]⟩, []⟩ 0
theorem t22_1 : ansE .init 1 2 0 = 4 := by kernel_rfl
theorem t22_2 : askE .init q22 = 0 := by kernel_rfl
theorem t22_3 : askE s22a q22 = 4 := by kernel_rfl
theorem t22_4 : ansE s22a 1 2 0 = 0 := by kernel_rfl
theorem t22_5 : askE s22b q22 = 9 := by kernel_rfl
theorem t22_may : mayF s22b.acts := ⟨s22b, run_ans (run_ask rfl t22_2) t22_4⟩
theorem a22b : s22b.acts = [⟨1, 2, false, q22, .zero, 0⟩, ⟨1, 2, true, q22, ⟨2, 0, ⟨#[]⟩, []⟩, 0⟩] := by kernel_rfl
theorem l22b : s22b.acts.length ≤ 1000000 := by rw [a22b]; simp
theorem l22a : s22a.acts.length ≤ 1000000 := by rw [show s22a.acts = [⟨1, 2, false, q22, .zero, 0⟩] by kernel_rfl]; simp
theorem r22b : ∀ a ∈ s22b.acts, a.r.l.length ≤ 1000000 := by rw [a22b]; simp [Rpv.zero]
theorem t22_not : ¬ mayF (s22b.acts.drop 1) := fun h => by
  have := may_first (a := ⟨1, 2, true, q22, ⟨2, 0, ⟨#[]⟩, []⟩, 0⟩) (l := []) (by rw [a22b] at h; exact h)
  cases this
theorem ok22a : PsOk s22a := PsOk.init.ask (by kernel_rfl)
theorem ok22b : PsOk s22b := ok22a.ans ⟨by decide, by decide⟩
theorem list_two {α : Type} : ∀ (L : List α), L.length = 2 → ∃ t0 t1, L = [t0, t1]
  | [a, b], _ => ⟨a, b, rfl⟩
  | [], h => by cases h
  | [a], h => by cases h
  | a :: b :: c :: l, h => by simp at h
theorem POut.to {w w' : World} {P : Nat} {G : Option Nat} {st : Ps} {g : Nat} {t : TypeId} {cs : Array Value} (h : POut w w' P P G st) (hp : ∃ st0, PAt w P P G st0) (hb : Blk w g t cs) (ht : t ≠ 77) (ht2 : t ≠ 50) :
    (∃ G', PAt w' P P G' st) ∧ Blk w' g t cs ∧ (∀ w0, P = w0.heap.size → Ext w0 w → Ext w0 w') := by
  obtain ⟨G', h1, hF, _⟩ := h
  obtain ⟨st0, hp⟩ := hp
  refine ⟨⟨G', h1⟩, hb.frm hF (fun hk => ?_), fun w0 hw0 hx => Frm.step hx hF hx.size (fun k hk => by rw [← hw0]; exact (hp.sel k hk).1)⟩
  obtain ⟨_, cs', h | h⟩ := hp.sel g hk
  · exact Blk.apart hb h ht rfl
  · exact Blk.apart hb h ht2 rfl

open Classical in
set_option maxRecDepth 8000 in
set_option maxHeartbeats 16000000 in
theorem told22_any (w : World) : Calls Try.prog 10 #[] w fun e w' => e = .returned (.bool true) ∧ Ext w w' := by
  refine hide_post fun D hD => ?_
  obtain ⟨P, hP⟩ : ∃ P, P = w.heap.size := ⟨_, rfl⟩
  have CN : Hid (Calls Try.prog 8 #[] w fun e w' => e = .returned (.pointer (some ⟨P, 0, none⟩)) ∧ PAt w' P P none .init ∧ Ext w w') := by rw [hP]; exact pastNew_any w.heap.size w (Nat.le_refl _)
  have HP := Lib.hid hP
  have C1 : Hid (∀ G V, PAt V P P G .init → Calls Try.prog 13 #[.pointer (some ⟨P, 0, none⟩), .int .i64 1, .int .i64 2, .agg #[.int .i64 0, .int .i64 0, .string ⟨#[]⟩, .slice none 0 0], .int .i64 0] V fun e w' => e = .returned (.int .i64 4) ∧ POut V w' P P G .init) := fun G V h => by
    have h7 := ans_any P P G .init 2 0 0 ⟨#[]⟩ none 0 [] 0 1 V h PsOk.init (by decide) (by decide) (Sl.nil _ _ _)
    rw [show ansN .init 1 2 ⟨0, 0, ⟨#[]⟩, []⟩ 0 = .init from by unfold ansN; rw [t22_1]; rfl, t22_1] at h7
    exact h7
  have C2 : Hid (∀ G V, PAt V P P G .init → Calls Try.prog 11 #[.pointer (some ⟨P, 0, none⟩), .agg #[.int .i64 1, .int .i64 2, .int .i64 4, .int .i64 3, .int .i64 0, .string ⟨#[]⟩]] V fun e w' => e = .returned (.int .i64 0) ∧ POut V w' P P G s22a) := fun G V h => by
    have h7 := ask_any P P G .init 1 2 4 3 0 ⟨#[]⟩ V h PsOk.init (by decide) (by decide)
    rw [show askN .init ⟨1, 2, 4, 3, 0, ⟨#[]⟩⟩ = s22a from by unfold askN; rw [if_pos (show askE .init ⟨1, 2, 4, 3, 0, ⟨#[]⟩⟩ = 0 from t22_2)]; rfl, show askE .init ⟨1, 2, 4, 3, 0, ⟨#[]⟩⟩ = 0 from t22_2] at h7
    exact h7
  have C3 : Hid (∀ G V, PAt V P P G s22a → Calls Try.prog 11 #[.pointer (some ⟨P, 0, none⟩), .agg #[.int .i64 1, .int .i64 2, .int .i64 4, .int .i64 3, .int .i64 0, .string ⟨#[]⟩]] V fun e w' => e = .returned (.int .i64 4) ∧ POut V w' P P G s22a) := fun G V h => by
    have h7 := ask_any P P G s22a 1 2 4 3 0 ⟨#[]⟩ V h ok22a (by decide) l22a
    rw [show askN s22a ⟨1, 2, 4, 3, 0, ⟨#[]⟩⟩ = s22a from by unfold askN; rw [show askE s22a ⟨1, 2, 4, 3, 0, ⟨#[]⟩⟩ = 4 from t22_3]; rfl, show askE s22a ⟨1, 2, 4, 3, 0, ⟨#[]⟩⟩ = 4 from t22_3] at h7
    exact h7
  have C4 : Hid (∀ G V, PAt V P P G s22a → Calls Try.prog 13 #[.pointer (some ⟨P, 0, none⟩), .int .i64 1, .int .i64 2, .agg #[.int .i64 2, .int .i64 0, .string ⟨#[]⟩, .slice none 0 0], .int .i64 0] V fun e w' => e = .returned (.int .i64 0) ∧ POut V w' P P G s22b) := fun G V h => by
    have h7 := ans_any P P G s22a 2 2 0 ⟨#[]⟩ none 0 [] 0 1 V h ok22a l22a (by decide) (Sl.nil _ _ _)
    rw [show ansN s22a 1 2 ⟨2, 0, ⟨#[]⟩, []⟩ 0 = s22b from by unfold ansN; rw [if_pos t22_4]; rfl, t22_4] at h7
    exact h7
  have C5 : Hid (∀ G V, PAt V P P G s22b → Calls Try.prog 11 #[.pointer (some ⟨P, 0, none⟩), .agg #[.int .i64 1, .int .i64 2, .int .i64 4, .int .i64 3, .int .i64 0, .string ⟨#[]⟩]] V fun e w' => e = .returned (.int .i64 9) ∧ POut V w' P P G s22b) := fun G V h => by
    have h7 := ask_any P P G s22b 1 2 4 3 0 ⟨#[]⟩ V h ok22b (by decide) l22b
    rw [show askN s22b ⟨1, 2, 4, 3, 0, ⟨#[]⟩⟩ = s22b from by unfold askN; rw [show askE s22b ⟨1, 2, 4, 3, 0, ⟨#[]⟩⟩ = 9 from t22_5]; rfl, show askE s22b ⟨1, 2, 4, 3, 0, ⟨#[]⟩⟩ = 9 from t22_5] at h7
    exact h7
  have C6 : Hid (∀ G V, PAt V P P G s22b → Calls Try.prog 19 #[.pointer (some ⟨P, 0, none⟩)] V fun e w' => ∃ b o c t0 t1, e = .returned (.slice (some ⟨b, o, none⟩) 2 c) ∧ [t0, t1].map At.x = s22b.acts ∧ 2 ≤ c ∧ Acs w' (some ⟨b, o, none⟩) [t0, t1] ∧ Ext V w') := fun G V h => by
    have h7 := acts_any P P G s22b V h l22b r22b
    have hlen : s22b.acts.length = 2 := by rw [a22b]; rfl
    generalize s22b.acts = l9 at *
    refine h7.mono ?_
    rintro e w' ⟨A, c, L, he, hL, hc, ha, hx⟩
    have hl : L.length = 2 := by rw [← hlen, ← hL, List.length_map]
    obtain ⟨t0, t1, rfl⟩  := list_two L hl
    obtain ⟨b, o, hA, _⟩ := ha 0 t0 rfl
    rw [hA] at he ha
    exact ⟨b, o, c, t0, t1, he, hL, hc, ha, hx⟩
  clear hP
  go_enter Try.func10, Try.ntmps10
  go_upto_region 5 with (go_at_call 8; (with_reducible refine CN.out.mono ?_); rintro e w1 ⟨rfl, hp1, hx1⟩; have HP1 := Lib.hid hp1; have HX1 := Lib.hid hx1; clear hp1 hx1)
  have hPg : ¬ P = w1.heap.size := by have := HP1.out.lt; omega
  obtain ⟨g, hg⟩ : ∃ g, g = w1.heap.size := ⟨_, rfl⟩
  rw [← hg]
  obtain ⟨W1, hW1⟩ : ∃ W1, W1 = w1.alloc (.cells #[.int .i64 1, .int .i64 2, .int .i64 4, .int .i64 3, .int .i64 0, .string ⟨#[]⟩] 29) := ⟨_, rfl⟩
  rw [← hW1]
  have HX : Hid (Ext w W1) := by show Ext _ _; rw [hW1]; exact Ext.trans HX1.out (Ext.alloc _ _)
  have HPA : Hid (∃ G, PAt W1 P P G .init) := ⟨none, by rw [hW1]; exact HP1.out.stay (Ext.alloc _ _)⟩
  have HB : Hid (Blk W1 g 29 #[.int .i64 1, .int .i64 2, .int .i64 4, .int .i64 3, .int .i64 0, .string ⟨#[]⟩]) := by show Blk _ _ _ _; rw [hW1, hg]; exact Blk.new _ _ _
  clear hW1 hg hPg HX1 HP1 CN
  obtain ⟨G1, hp1⟩ := HPA.out
  have D1 := Lib.hid (C1.out G1 W1 hp1)
  have HQ1 := Lib.hid hp1
  clear hp1
  go_upto_region 6 with (go_at_call 13; (with_reducible refine D1.out.mono ?_); rintro e W2 ⟨rfl, hout⟩; have HO := Lib.hid hout; clear hout)
  obtain ⟨hp, hb, hx⟩ := HO.out.to ⟨_, HQ1.out⟩ HB.out (by decide) (by decide)
  replace HPA := Lib.hid hp
  replace HB := Lib.hid hb
  replace HX := Lib.hid (hx w HP.out HX.out)
  clear hp hb hx HO
  obtain ⟨G2, hp1⟩ := HPA.out
  have D2 := Lib.hid (C2.out G2 W2 hp1)
  have HQ2 := Lib.hid hp1
  have q0 := HB.out.cell 0
  have q1 := HB.out.cell 1
  have q2 := HB.out.cell 2
  have q3 := HB.out.cell 3
  have q4 := HB.out.cell 4
  have q5 := HB.out.cell 5
  simp at q0 q1 q2 q3 q4 q5
  clear hp1 D1
  go_upto_region 7 with (go_at_call 11; (with_reducible refine D2.out.mono ?_); rintro e W3 ⟨rfl, hout⟩; have HO := Lib.hid hout; clear hout)
  obtain ⟨hp, hb, hx⟩ := HO.out.to ⟨_, HQ2.out⟩ HB.out (by decide) (by decide)
  replace HPA := Lib.hid hp
  replace HB := Lib.hid hb
  replace HX := Lib.hid (hx w HP.out HX.out)
  clear hp hb hx HO
  obtain ⟨G3, hp1⟩ := HPA.out
  have D3 := Lib.hid (C3.out G3 W3 hp1)
  have HQ3 := Lib.hid hp1
  have q0 := HB.out.cell 0
  have q1 := HB.out.cell 1
  have q2 := HB.out.cell 2
  have q3 := HB.out.cell 3
  have q4 := HB.out.cell 4
  have q5 := HB.out.cell 5
  simp at q0 q1 q2 q3 q4 q5
  clear hp1 D2
  go_upto_region 8 with (go_at_call 11; (with_reducible refine D3.out.mono ?_); rintro e W4 ⟨rfl, hout⟩; have HO := Lib.hid hout; clear hout)
  obtain ⟨hp, hb, hx⟩ := HO.out.to ⟨_, HQ3.out⟩ HB.out (by decide) (by decide)
  replace HPA := Lib.hid hp
  replace HB := Lib.hid hb
  replace HX := Lib.hid (hx w HP.out HX.out)
  clear hp hb hx HO
  obtain ⟨G4, hp1⟩ := HPA.out
  have D4 := Lib.hid (C4.out G4 W4 hp1)
  have HQ4 := Lib.hid hp1
  have q0 := HB.out.cell 0
  have q1 := HB.out.cell 1
  have q2 := HB.out.cell 2
  have q3 := HB.out.cell 3
  have q4 := HB.out.cell 4
  have q5 := HB.out.cell 5
  simp at q0 q1 q2 q3 q4 q5
  clear hp1 D3
  go_upto_region 9 with (go_at_call 13; (with_reducible refine D4.out.mono ?_); rintro e W5 ⟨rfl, hout⟩; have HO := Lib.hid hout; clear hout)
  obtain ⟨hp, hb, hx⟩ := HO.out.to ⟨_, HQ4.out⟩ HB.out (by decide) (by decide)
  replace HPA := Lib.hid hp
  replace HB := Lib.hid hb
  replace HX := Lib.hid (hx w HP.out HX.out)
  clear hp hb hx HO
  obtain ⟨G5, hp1⟩ := HPA.out
  have D5 := Lib.hid (C5.out G5 W5 hp1)
  have HQ5 := Lib.hid hp1
  have q0 := HB.out.cell 0
  have q1 := HB.out.cell 1
  have q2 := HB.out.cell 2
  have q3 := HB.out.cell 3
  have q4 := HB.out.cell 4
  have q5 := HB.out.cell 5
  simp at q0 q1 q2 q3 q4 q5
  clear hp1 D4
  go_upto_region 10 with (go_at_call 11; (with_reducible refine D5.out.mono ?_); rintro e W6 ⟨rfl, hout⟩; have HO := Lib.hid hout; clear hout)
  obtain ⟨hp, hb, hx⟩ := HO.out.to ⟨_, HQ5.out⟩ HB.out (by decide) (by decide)
  replace HPA := Lib.hid hp
  replace HB := Lib.hid hb
  replace HX := Lib.hid (hx w HP.out HX.out)
  clear hp hb hx HO
  obtain ⟨G6, hp1⟩ := HPA.out
  have D6 := Lib.hid (C6.out G6 W6 hp1)
  have HQ6 := Lib.hid hp1
  have q0 := HB.out.cell 0
  have q1 := HB.out.cell 1
  have q2 := HB.out.cell 2
  have q3 := HB.out.cell 3
  have q4 := HB.out.cell 4
  have q5 := HB.out.cell 5
  simp at q0 q1 q2 q3 q4 q5
  clear hp1 D5
  go_upto_region 11 with (go_at_call 19; (with_reducible refine D6.out.mono ?_); rintro e W7 ⟨b, o, c, t0, t1, rfl, hL, hc, ha, hx⟩; have HL := Lib.hid hL; have HC := Lib.hid hc; have HA := Lib.hid ha; have HX7 := Lib.hid hx; clear hL hc ha hx)
  have hans : t1.x = ⟨1, 2, true, q22, ⟨2, 0, ⟨#[]⟩, []⟩, 0⟩ := by
    have h5 := congrArg (fun l => l[1]?) HL.out
    rw [a22b] at h5
    simpa using h5
  have c16 : W7.cell? ⟨b, o + (14 + 2), none⟩ = some (.bool true) := by
    obtain ⟨b', o', e, hc, _⟩ := HA.out 1 t1 rfl
    injection e with e; injection e with e1 e2; subst e1 e2
    have := hc 2 (by decide)
    rw [hans] at this
    exact this
  have hlens : ∀ t ∈ [t0, t1], t.x.r.l.length ≤ 17592186043904 ∧ t.x.q.d.size ≤ maxLen := fun t ht => by
    have h5 : t.x ∈ s22b.acts := by rw [← HL.out]; exact List.mem_map_of_mem ht
    rw [a22b] at h5
    simp at h5
    rcases h5 with h5 | h5 <;> rw [h5] <;> exact ⟨by simp [Rpv.zero], by decide⟩
  have CM1 : Hid (∀ V, Ext W7 V → Calls Try.prog 20 #[.slice (some ⟨b, o, none⟩) 2 c] V fun e w' => e = .returned (.bool true) ∧ Ext V w') := fun V h => by
    have h7 := may_any (some ⟨b, o, none⟩) c [t0, t1] V (by simp) (fun t ht => (hlens t ht).1) (fun t ht => (hlens t ht).2) (HA.out.stay h)
    rw [HL.out, decide_eq_true t22_may] at h7
    exact h7
  have CM2 : Hid (∀ V, Ext W7 V → Calls Try.prog 20 #[.slice (some ⟨b, o + 14, none⟩) 1 (c - 1)] V fun e w' => e = .returned (.bool false) ∧ Ext V w') := fun V h => by
    have h7 := may_any (some ⟨b, o + 14, none⟩) (c - 1) [t1] V (by simp) (fun t ht => (hlens t (by simp at ht; simp [ht])).1) (fun t ht => (hlens t (by simp at ht; simp [ht])).2) (fun j t hj => by
      have hj0 : j = 0 := by
        cases j with
        | zero => rfl
        | succ j => simp at hj
      subst hj0
      obtain ⟨b', o', e, hc, hs⟩ := HA.out.stay h 1 t (by simpa using hj)
      injection e with e; injection e with e1 e2; subst e1 e2
      exact ⟨b, o + 14, rfl, fun k hk => by rw [← hc k hk], hs⟩)
    rw [show [t1].map At.x = s22b.acts.drop 1 by rw [← HL.out]; rfl, decide_eq_false t22_not] at h7
    exact h7
  have CP : Hid (∀ V, Ext W7 V → Calls Try.prog 16 #[.pointer (some ⟨P, 0, none⟩)] V fun e w' => ∃ A c, e = .returned (.slice A 0 c) ∧ Ext V w') := fun V h => by
    refine (pend_any P P G6 s22b V (HQ6.out.stay (Ext.trans HX7.out h))).mono ?_
    rintro e w' ⟨A, c, he, _, hx⟩
    have h0 : pendL s22b.wait 4 = [] := by kernel_rfl
    rw [h0] at he
    exact ⟨A, c, he, hx⟩
  have hc2 : 2 ≤ c := HC.out
  have X7 : Hid (Ext w W7) := Ext.trans HX.out HX7.out
  clear q0 q1 q2 q3 q4 q5 hlens hans
  go_wp2_with (first
    | (go_at_call 20; (with_reducible refine (CM1.out _ (Ext.refl _)).mono ?_); rintro e W8 ⟨rfl, hx⟩; have X8 := Lib.hid hx; clear hx)
    | (go_at_call 20; (with_reducible refine (CM2.out _ X8.out).mono ?_); rintro e W9 ⟨rfl, hx⟩; have X9 := Lib.hid (Ext.trans X8.out hx); clear hx)
    | (go_at_call 16; (with_reducible refine (CP.out _ X9.out).mono ?_); rintro e W10 ⟨A2, c3, rfl, hx⟩; have X10 := Lib.hid (Ext.trans X9.out hx); clear hx))
  try go_ret
  exact hD.out _ _ ⟨rfl, Ext.trans X7.out X10.out⟩

end Go.Proofs.Ytnionfddejaalaa
