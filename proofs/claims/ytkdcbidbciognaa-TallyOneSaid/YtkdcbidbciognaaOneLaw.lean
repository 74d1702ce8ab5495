/-
  TallyOne, plain: what a majority accepted stays the one chain.
-/
import Derived.Test.YtkdcbidbciognaaTallyP
import Derived.Test.YtkdcbidbciognaaAccStep
namespace Go.Proofs.Ytkdcbidbciognaa
set_option linter.unusedVariables false
set_option linter.unusedSimpArgs false

theorem nd_len : ∀ (n : Nat) (l : List Nat), l.Nodup → (∀ x, x ∈ l → x < n) → l.length ≤ n
  | 0, l, _, h => by
    cases l with
    | nil => simp
    | cons a r => exact absurd (h a (by simp)) (by omega)
  | n + 1, l, hn, h => by
    have h1 := nd_len n (l.erase n) (hn.erase n) (fun x hx => by
      have h2 := h x (List.mem_of_mem_erase hx)
      have h3 : x ≠ n := fun e => by
        subst e
        exact absurd hx (by simpa using hn.not_mem_erase)
      omega)
    have h4 : l.length - 1 ≤ (l.erase n).length := by
      rw [List.length_erase]
      split <;> omega
    omega
/-- two majorities of five meet -/
theorem meet (A B : List Nat) (hA : A.Nodup) (hB : B.Nodup) (h5A : ∀ x, x ∈ A → x < 5) (h5B : ∀ x, x ∈ B → x < 5) (lA : 3 ≤ A.length) (lB : 3 ≤ B.length) : ∃ x, x ∈ A ∧ x ∈ B := by
  refine Classical.byContradiction fun h => ?_
  have hd : (A ++ B).Nodup := by
    rw [List.nodup_append]
    exact ⟨hA, hB, fun a ha b hb e => h ⟨a, ha, by rw [e]; exact hb⟩⟩
  have := nd_len 5 (A ++ B) hd (fun x hx => by
    rcases List.mem_append.1 hx with h' | h'
    · exact h5A x h'
    · exact h5B x h')
  simp at this
  omega
theorem cmp_le_trans {a b c d e f : Int} (h : cmpBal a b c d ≤ 0) (h2 : cmpBal c d e f ≤ 0) : cmpBal a b e f ≤ 0 := by unfold cmpBal at *; grind
theorem cmp_le_lt {a b c d e f : Int} (h : cmpBal a b c d ≤ 0) (h2 : cmpBal c d e f < 0) : cmpBal a b e f < 0 := by unfold cmpBal at *; grind
theorem cmp_flip {a b c d : Int} (h : cmpBal a b c d < 0) : ¬ cmpBal c d a b ≤ 0 := by unfold cmpBal at *; grind
theorem cmp_nlt {a b c d : Int} (h : ¬ 0 < cmpBal a b c d) : cmpBal a b c d ≤ 0 := by omega
theorem cmp_gt {a b c d : Int} (h : 0 < cmpBal a b c d) : cmpBal c d a b ≤ 0 := by unfold cmpBal at *; grind
theorem cmp_refl (a b : Int) : cmpBal a b a b ≤ 0 := by unfold cmpBal; simp

def Hit (vs : Nat → AV) (k : Nat) (x y : Int) : Prop := (vs k).has = true ∧ cmpBal x y (vs k).ar (vs k).an ≤ 0
/-- a majority has accepted this chain, and whoever accepted as late has it, too -/
def Ch (vs : Nat → AV) (r n cep : Int) (cl : List Int) : Prop := ∃ x y, cmpBal x y r n ≤ 0 ∧ (∃ M : List Nat, M.Nodup ∧ 3 ≤ M.length ∧ ∀ k, k ∈ M → k < 5 ∧ Hit vs k x y) ∧ ∀ k, k < 5 → Hit vs k x y → (vs k).vep = cep ∧ (vs k).vns = cl
/-- the acceptors: as they may be, none has promised more than the greatest ballot so far -/
def VOk (vs : Nat → AV) (r n : Int) : Prop := ∀ k, k < 5 → AOk (vs k) ∧ cmpBal (vs k).pr (vs k).pn r n ≤ 0
theorem VOk.acc {vs : Nat → AV} {r n : Int} (h : VOk vs r n) {k : Nat} (hk : k < 5) (hh : (vs k).has = true) : cmpBal (vs k).ar (vs k).an r n ≤ 0 := cmp_le_trans ((h k hk).1.yes hh).2.1 (h k hk).2
theorem VOk.mono {vs : Nat → AV} {r n r' n' : Int} (h : VOk vs r n) (hb : cmpBal r n r' n' < 0) : VOk vs r' n' := fun k hk => ⟨(h k hk).1, cmp_le_trans (h k hk).2 (Int.le_of_lt hb)⟩
def upd (vs : Nat → AV) (k : Nat) (v : AV) : Nat → AV := fun m => if m = k then v else vs m
theorem upd_eq (vs : Nat → AV) (k : Nat) (v : AV) : upd vs k v k = v := by unfold upd; simp
theorem upd_ne (vs : Nat → AV) {k m : Nat} (v : AV) (h : m ≠ k) : upd vs k v m = vs m := by unfold upd; simp [h]
theorem upd_same (vs : Nat → AV) (k : Nat) : upd vs k (vs k) = vs := by
  funext m
  unfold upd
  split
  · subst_vars; rfl
  · rfl
/-- what of an acceptor a promise leaves -/
def SameA (a b : AV) : Prop := a.has = b.has ∧ a.ar = b.ar ∧ a.an = b.an ∧ a.vep = b.vep ∧ a.vns = b.vns

/-- while the votes are asked -/
structure P1 (vs0 : Nat → AV) (r n want : Int) (k : Nat) (vs : Nat → AV) (v : TV) : Prop where
  ok : VOk vs r n
  same : ∀ m, SameA (vs m) (vs0 m)
  fix : v.n = 5 ∧ v.br = r ∧ v.bn = n ∧ v.ep = 2 ∧ v.cl = [want] ∧ v.sl = []
  xl : v.xl.length ≤ 5
  best : ∃ M : List Nat, v.pl = M.map (fun (x : Nat) => (x : Int)) ∧ M.Nodup ∧ (∀ m, m ∈ M → m < k) ∧ (v.has = false → ∀ m, m ∈ M → (vs0 m).has = false) ∧
    (v.has = true → (∀ m, m ∈ M → (vs0 m).has = true → cmpBal (vs0 m).ar (vs0 m).an v.xr v.xn ≤ 0) ∧ ∃ m, m < 5 ∧ (vs0 m).has = true ∧ v.xr = (vs0 m).ar ∧ v.xn = (vs0 m).an ∧ v.xep = (vs0 m).vep ∧ v.xl = (vs0 m).vns)
theorem P1.start {vs0 : Nat → AV} {r n want : Int} (h : VOk vs0 r n) : P1 vs0 r n want 0 vs0 ⟨5, r, n, 2, [want], [], [], false, 0, 0, 0, []⟩ :=
  ⟨h, fun m => ⟨rfl, rfl, rfl, rfl, rfl⟩, ⟨rfl, rfl, rfl, rfl, rfl, rfl⟩, by simp, [], rfl, List.nodup_nil, fun m h => (by cases h), fun _ m h => (by cases h), fun h => by cases h⟩
theorem P1.len {vs0 : Nat → AV} {r n want : Int} {k : Nat} {vs : Nat → AV} {v : TV} (h : P1 vs0 r n want k vs v) : v.pl.length ≤ k := by
  obtain ⟨M, h1, h2, h3, _⟩ := h.best
  rw [h1, List.length_map]
  exact nd_len k M h2 h3
theorem P1.next {vs0 : Nat → AV} {r n want : Int} {k : Nat} {vs : Nat → AV} {v : TV} (h : P1 vs0 r n want k vs v) : P1 vs0 r n want (k + 1) vs v := by
  obtain ⟨h1, h2, h3, h4, M, m1, m2, m3, m4⟩ := h
  exact ⟨h1, h2, h3, h4, M, m1, m2, fun m hm => by have := m3 m hm; omega, m4⟩
theorem P1.prep {vs0 : Nat → AV} {r n want : Int} {k : Nat} {vs : Nat → AV} {v : TV} (h : P1 vs0 r n want k vs v) (hk : k < 5) : P1 vs0 r n want k (upd vs k (prepV (vs k) 2 r n)) v := by
  obtain ⟨h1, h2, h3, h4, h5⟩ := h
  refine ⟨fun m hm => ?_, fun m => ?_, h3, h4, h5⟩
  · by_cases e : m = k
    · subst e
      rw [upd_eq]
      refine ⟨(h1 m hm).1.prep _ _ _, ?_⟩
      unfold prepV
      split
      · exact cmp_refl _ _
      · exact (h1 m hm).2
    · rw [upd_ne _ _ e]
      exact h1 m hm
  · by_cases e : m = k
    · subst e
      rw [upd_eq]
      have h6 := h2 m
      unfold prepV
      split
      · exact h6
      · exact h6
    · rw [upd_ne _ _ e]
      exact h2 m
theorem P1.prom {vs0 : Nat → AV} {r n want : Int} {k : Nat} {vs : Nat → AV} {v : TV} (h : P1 vs0 r n want k vs v) (hk : k < 5) (t : Vt) (ht : t.has = (vs0 k).has ∧ t.ar = (vs0 k).ar ∧ t.an = (vs0 k).an ∧ t.cep = (vs0 k).vep ∧ t.l = (vs0 k).vns) (hl : t.l.length ≤ 5) : P1 vs0 r n want (k + 1) vs (vNext v k t) := by
  unfold vNext
  split
  case isFalse => exact h.next
  case isTrue hok =>
    obtain ⟨h1, h2, h3, h4, M, m1, m2, m3, m4, m5⟩ := h
    obtain ⟨t1, t2, t3, t4, t5⟩ := ht
    have hnk : ¬ k ∈ M := fun hm => by have := m3 k hm; omega
    have hM : (M ++ [k]).Nodup := by
      rw [List.nodup_append]
      refine ⟨m2, by simp, fun a ha b hb e => ?_⟩
      simp at hb
      subst hb
      subst e
      exact hnk ha
    have hlt : ∀ m, m ∈ M ++ [k] → m < k + 1 := fun m hm => by
      rcases List.mem_append.1 hm with h | h
      · have := m3 m h; omega
      · simp at h; omega
    unfold vPut
    split
    case isTrue hc =>
      refine ⟨h1, h2, h3, hl, M ++ [k], by simp [m1], hM, hlt, fun h => (by cases h), fun _ => ⟨fun m hm hh => ?_, k, hk, by rw [← t1]; exact hc.1, t2, t3, t4, t5⟩⟩
      rw [t2, t3]
      rcases List.mem_append.1 hm with h | h
      · rcases hc.2 with hv | hv
        · rw [m4 hv m h] at hh
          cases hh
        · cases hvh : v.has with
          | false => rw [m4 hvh m h] at hh; cases hh
          | true =>
            rw [t2, t3] at hv
            exact cmp_le_trans ((m5 hvh).1 m h hh) (cmp_gt hv)
      · simp at h
        subst h
        exact cmp_refl _ _
    case isFalse hc =>
      refine ⟨h1, h2, h3, h4, M ++ [k], by simp [m1], hM, hlt, fun hv m hm => ?_, fun hv => ⟨fun m hm hh => ?_, (m5 hv).2⟩⟩
      · simp only at hv
        rcases List.mem_append.1 hm with h | h
        · exact m4 hv m h
        · simp at h
          subst h
          cases hh : (vs0 m).has with
          | false => rfl
          | true => exact absurd ⟨by rw [t1]; exact hh, Or.inl hv⟩ hc
      · simp only at hv ⊢
        rcases List.mem_append.1 hm with h | h
        · exact (m5 hv).1 m h hh
        · simp at h
          subst h
          refine cmp_nlt fun hx => hc ⟨by rw [t1]; exact hh, Or.inr ?_⟩
          rw [t2, t3]
          exact hx

/-- the chain that is proposed -/
def proE (v : TV) : Int := if v.has then v.xep else v.ep
def proL (v : TV) : List Int := if v.has then v.xl else v.cl
theorem P1.proLen {vs0 : Nat → AV} {r n want : Int} {k : Nat} {vs : Nat → AV} {v : TV} (h : P1 vs0 r n want k vs v) : (proL v).length ≤ 5 := by
  unfold proL
  split
  · exact h.xl
  · rw [h.fix.2.2.2.2.1]; simp
theorem P1.chosen {vs0 : Nat → AV} {r0 n0 r n want ce : Int} {cl : List Int} {vs : Nat → AV} {v : TV} (h : P1 vs0 r n want 5 vs v) (hm : 3 ≤ v.pl.length) (hc : Ch vs0 r0 n0 ce cl) : proE v = ce ∧ proL v = cl := by
  obtain ⟨x, y, _, ⟨M, q1, q2, q3⟩, q4⟩ := hc
  obtain ⟨M', m1, m2, m3, m4, m5⟩ := h.best
  rw [m1, List.length_map] at hm
  obtain ⟨k, hk, hk'⟩ := meet M M' q1 m2 (fun x hx => (q3 x hx).1) m3 q2 hm
  obtain ⟨hk5, hh⟩ := q3 k hk
  cases hv : v.has with
  | false => have := m4 hv k hk'; rw [hh.1] at this; cases this
  | true =>
    obtain ⟨b1, m, hm5, b2, b3, b4, b5, b6⟩ := m5 hv
    have h7 := cmp_le_trans hh.2 (b1 k hk' hh.1)
    rw [b3, b4] at h7
    obtain ⟨e1, e2⟩ := q4 m hm5 ⟨b2, h7⟩
    unfold proE proL
    rw [hv, if_pos rfl, if_pos rfl, b5, b6]
    exact ⟨e1, e2⟩

/-- it has accepted what is proposed -/
def NewA (r n ce : Int) (cl : List Int) (a : AV) : Prop := a.has = true ∧ a.ar = r ∧ a.an = n ∧ a.vep = ce ∧ a.vns = cl
/-- while it is proposed -/
structure P2 (vs1 : Nat → AV) (r n ce : Int) (cl : List Int) (k : Nat) (vs : Nat → AV) (v : TV) : Prop where
  ok : VOk vs r n
  same : ∀ m, m < 5 → SameA (vs m) (vs1 m) ∨ NewA r n ce cl (vs m)
  fix : v.n = 5
  said : ∃ M : List Nat, v.sl = M.map (fun (x : Nat) => (x : Int)) ∧ M.Nodup ∧ (∀ m, m ∈ M → m < k) ∧ ∀ m, m ∈ M → NewA r n ce cl (vs m)
theorem P1.two {vs0 : Nat → AV} {r n want : Int} {vs : Nat → AV} {v : TV} (h : P1 vs0 r n want 5 vs v) : P2 vs0 r n (proE v) (proL v) 0 vs v :=
  ⟨h.ok, fun m _ => .inl (h.same m), h.fix.1, [], by rw [h.fix.2.2.2.2.2]; rfl, List.nodup_nil, fun m h => (by cases h), fun m h => by cases h⟩
theorem P1.any {vs0 : Nat → AV} {r n want : Int} {k : Nat} {vs : Nat → AV} {v : TV} (h : P1 vs0 r n want k vs v) (ce : Int) (cl : List Int) : P2 vs0 r n ce cl 0 vs v :=
  ⟨h.ok, fun m _ => .inl (h.same m), h.fix.1, [], by rw [h.fix.2.2.2.2.2]; rfl, List.nodup_nil, fun m h => (by cases h), fun m h => (by cases h)⟩
theorem P2.len {vs1 : Nat → AV} {r n ce : Int} {cl : List Int} {k : Nat} {vs : Nat → AV} {v : TV} (h : P2 vs1 r n ce cl k vs v) : v.sl.length ≤ k := by
  obtain ⟨M, h1, h2, h3, _⟩ := h.said
  rw [h1, List.length_map]
  exact nd_len k M h2 h3
theorem P2.next {vs1 : Nat → AV} {r n ce : Int} {cl : List Int} {k : Nat} {vs : Nat → AV} {v : TV} (h : P2 vs1 r n ce cl k vs v) : P2 vs1 r n ce cl (k + 1) vs v := by
  obtain ⟨h1, h2, h3, M, m1, m2, m3, m4⟩ := h
  exact ⟨h1, h2, h3, M, m1, m2, fun m hm => by have := m3 m hm; omega, m4⟩
theorem P2.acc {vs1 : Nat → AV} {r n ce : Int} {cl : List Int} {k : Nat} {vs : Nat → AV} {v : TV} (h : P2 vs1 r n ce cl k vs v) (hk : k < 5) : P2 vs1 r n ce cl k (upd vs k (accV (vs k) ce cl r n false)) v := by
  obtain ⟨h1, h2, h3, M, m1, m2, m3, m4⟩ := h
  refine ⟨fun m hm => ?_, fun m hm => ?_, h3, M, m1, m2, m3, fun m hm => ?_⟩
  · by_cases e : m = k
    · subst e
      rw [upd_eq]
      refine ⟨(h1 m hm).1.acc _ _ _ _ _, ?_⟩
      unfold accV
      split
      · exact cmp_refl _ _
      · exact (h1 m hm).2
    · rw [upd_ne _ _ e]
      exact h1 m hm
  · by_cases e : m = k
    · subst e
      rw [upd_eq]
      unfold accV
      split
      · exact .inr ⟨rfl, rfl, rfl, rfl, rfl⟩
      · exact h2 m hm
    · rw [upd_ne _ _ e]
      exact h2 m hm
  · have : m ≠ k := by have := m3 m hm; omega
    rw [upd_ne _ _ this]
    exact m4 m hm
theorem P2.yes {vs1 : Nat → AV} {r n ce : Int} {cl : List Int} {k : Nat} {vs : Nat → AV} {v : TV} (h : P2 vs1 r n ce cl k vs v) (hn : NewA r n ce cl (vs k)) : P2 vs1 r n ce cl (k + 1) vs (yNext v k) := by
  unfold yNext
  split
  case isFalse => exact h.next
  case isTrue =>
    obtain ⟨h1, h2, h3, M, m1, m2, m3, m4⟩ := h
    refine ⟨h1, h2, h3, M ++ [k], by simp [m1], ?_, fun m hm => ?_, fun m hm => ?_⟩
    · rw [List.nodup_append]
      refine ⟨m2, by simp, fun a ha b hb e => ?_⟩
      simp at hb
      subst hb
      subst e
      have := m3 a ha
      omega
    · rcases List.mem_append.1 hm with h | h
      · have := m3 m h; omega
      · simp at h; omega
    · rcases List.mem_append.1 hm with h | h
      · exact m4 m h
      · simp at h
        subst h
        exact hn
/-- what was chosen stays chosen -/
theorem P2.stays {vs1 : Nat → AV} {r0 n0 r n ce : Int} {cl : List Int} {k : Nat} {vs : Nat → AV} {v : TV} (h : P2 vs1 r n ce cl k vs v) (hb : cmpBal r0 n0 r n < 0) (hc : Ch vs1 r0 n0 ce cl) : Ch vs r n ce cl := by
  obtain ⟨x, y, hx, ⟨M, q1, q2, q3⟩, q4⟩ := hc
  have hxb := cmp_le_lt hx hb
  refine ⟨x, y, Int.le_of_lt hxb, ⟨M, q1, q2, fun m hm => ⟨(q3 m hm).1, ?_⟩⟩, fun m hm hh => ?_⟩
  · rcases h.same m (q3 m hm).1 with ⟨e1, e2, e3, e4, e5⟩ | ⟨e1, e2, e3, e4, e5⟩
    · obtain ⟨_, h1, h2⟩ := q3 m hm
      exact ⟨by rw [e1]; exact h1, by rw [e2, e3]; exact h2⟩
    · exact ⟨e1, by rw [e2, e3]; exact Int.le_of_lt hxb⟩
  · rcases h.same m hm with ⟨e1, e2, e3, e4, e5⟩ | ⟨e1, e2, e3, e4, e5⟩
    · obtain ⟨h1, h2⟩ := hh
      rw [e4, e5]
      exact q4 m hm ⟨by rw [← e1]; exact h1, by rw [← e2, ← e3]; exact h2⟩
    · exact ⟨e4, e5⟩
/-- what a majority says yes to is chosen -/
theorem P2.done {vs1 : Nat → AV} {r0 n0 r n ce : Int} {cl : List Int} {vs : Nat → AV} {v : TV} (h : P2 vs1 r n ce cl 5 vs v) (hb : cmpBal r0 n0 r n < 0) (hv : VOk vs1 r0 n0) (hd : 3 ≤ v.sl.length) : Ch vs r n ce cl := by
  obtain ⟨M, m1, m2, m3, m4⟩ := h.said
  rw [m1, List.length_map] at hd
  refine ⟨r, n, cmp_refl _ _, ⟨M, m2, hd, fun m hm => ⟨m3 m hm, (m4 m hm).1, ?_⟩⟩, fun m hm hh => ?_⟩
  · rw [(m4 m hm).2.1, (m4 m hm).2.2.1]
    exact cmp_refl _ _
  · rcases h.same m hm with ⟨e1, e2, e3, e4, e5⟩ | ⟨e1, e2, e3, e4, e5⟩
    · obtain ⟨h1, h2⟩ := hh
      rw [e1] at h1
      rw [e2, e3] at h2
      exact absurd h2 (cmp_flip (cmp_le_lt (hv.acc hm h1) hb))
    · exact ⟨e4, e5⟩
end Go.Proofs.Ytkdcbidbciognaa
