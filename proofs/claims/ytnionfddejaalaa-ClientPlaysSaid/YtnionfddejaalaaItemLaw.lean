/-
  A request's bytes: which bytes are a request, and of which one: plain law.
-/
import Derived.Test.YtnionfddejaalaaCanon
import Derived.Test.YtnionfddejaalaaNumLaw
import Derived.Test.YtnionfddejaalaaRefTy
import Derived.Test.YtnionfddejaalaaMayReq
namespace Go.Proofs.Ytnionfddejaalaa
set_option linter.unusedVariables false
set_option linter.unusedSimpArgs false
open Go.RowKit

theorem rdGo_split (most : Nat) : ∀ (l : List UInt8) (i v : Nat) (x : Nat × List UInt8), i ≤ 9 → rdGo most i v l = some x →
    ∃ d c, l = d ++ c :: x.2 ∧ (∀ y ∈ d, 128 ≤ y.toNat) ∧ c.toNat < 128 ∧ x.1 = v + valL (d ++ [c]) * 2 ^ (7 * i) ∧ ¬ (c.toNat = 0 ∧ 0 < i + d.length) ∧ i + d.length ≤ 9 ∧ x.1 ≤ most
  | [], i, v, x, hi, h => by simp [rdGo] at h
  | c :: r, i, v, x, hi, h => by
    unfold rdGo at h
    split at h
    · cases h
    · rename_i h9
      split at h
      · rename_i hc
        have h9' : i ≤ 8 := by
          by_cases e : i = 9
          · exact absurd ⟨e, by omega⟩ h9
          · omega
        obtain ⟨d, c', e1, e2, e3, e4, e5, e6, e7⟩ := rdGo_split most r (i + 1) _ x (by omega) h
        refine ⟨c :: d, c', by rw [e1]; rfl, ?_, e3, ?_, ?_, ?_, e7⟩
        · intro y hy
          rcases List.mem_cons.1 hy with rfl | hy
          · exact hc
          · exact e2 y hy
        · rw [e4, List.cons_append, valL, pow_next, Nat.add_mul]
          rw [show valL (d ++ [c']) * (128 * 2 ^ (7 * i)) = 128 * valL (d ++ [c']) * 2 ^ (7 * i) by rw [Nat.mul_comm 128 (valL _), Nat.mul_assoc]]
          omega
        · rintro ⟨q1, q2⟩
          exact e5 ⟨q1, by omega⟩
        · simp; omega
      · rename_i hc
        split at h
        · cases h
        · rename_i hn
          injection h with h
          subst h
          refine ⟨[], c, rfl, by simp, by omega, ?_, ?_, by simpa using hi, by simp; omega⟩
          · simp [valL]
          · rintro ⟨q1, q2⟩
            exact hn (.inl ⟨q1, by simpa using q2⟩)

theorem rdGo_canon {most : Nat} {l : List UInt8} {v : Nat} {r : List UInt8} (hm : most < 18446744073709551616) (h : rdGo most 0 0 l = some (v, r)) : l = numB v ++ r ∧ v ≤ most := by
  obtain ⟨d, c, e1, e2, e3, e4, e5, e6, e7⟩ := rdGo_split most l 0 0 (v, r) (by omega) h
  simp only [Nat.mul_zero, Nat.pow_zero, Nat.mul_one, Nat.zero_add] at e4 e5 e6
  have := (num_canon d c e2 e3 e6 (by simp only at e7; omega)).2 e5
  rw [← e4] at this
  refine ⟨?_, e7⟩
  rw [this, e1, List.append_assoc]
  rfl

theorem rdNum_ok {l : List UInt8} {b : Bool} {most v : Nat} {r : List UInt8} (hm : most < 18446744073709551616) (h : rdNum l b most = (v, r, false)) : b = false ∧ l = numB v ++ r ∧ v ≤ most := by
  cases b with
  | true => rw [rdNum_bad] at h; injection h with h1 h2; injection h2 with h2 h3; cases h3
  | false =>
    refine ⟨rfl, ?_⟩
    unfold rdNum at h
    simp only [Bool.false_eq_true, if_false] at h
    cases hg : rdGo most 0 0 l with
    | none => rw [hg] at h; injection h with h1 h2; injection h2 with h2 h3; cases h3
    | some x =>
      obtain ⟨v', r'⟩ := x
      rw [hg] at h
      injection h with h1 h2
      injection h2 with h2 h3
      subst h1 h2
      exact rdGo_canon hm hg

theorem str_list (s : ByteArray) : str s.data.toList = s := by
  apply ByteArray.ext
  simp [str]
theorem textB_str (t : List UInt8) : textB (str t) = numB t.length ++ t := by unfold textB; rw [str_size, str_toList]

theorem rdText_ok {l : List UInt8} {b : Bool} {most : Nat} {t r : List UInt8} (hm : most < 18446744073709551616) (h : rdText l b most = (t, r, false)) : b = false ∧ l = textB (str t) ++ r := by
  unfold rdText at h
  split at h
  · injection h with h1 h2; injection h2 with h2 h3; cases h3
  · rename_i hb
    split at h
    · injection h with h1 h2; injection h2 with h2 h3; cases h3
    · rename_i hl
      have hn : rdNum l b most = ((rdNum l b most).1, (rdNum l b most).2.1, false) := by
        generalize rdNum l b most = x at *
        obtain ⟨x1, x2, x3⟩ := x
        simp only at hb
        cases x3 with
        | true => exact absurd rfl hb
        | false => rfl
      obtain ⟨e1, e2, e3⟩ := rdNum_ok hm hn
      refine ⟨e1, ?_⟩
      generalize rdNum l b most = x at *
      obtain ⟨x1, x2, x3⟩ := x
      simp only at *
      injection h with h1 h2
      injection h2 with h2 h3
      rw [textB_str, ← h1, ← h2, List.length_take, Nat.min_eq_left (by omega), List.append_assoc, List.take_append_drop]
      exact e2

/-! ### requests -/
structure Rq where
  c : Nat
  s : Nat
  k : Nat
  i : Nat
  m : Nat
  d : ByteArray
def Rq.may (q : Rq) : Bool := mayReqB q.c q.s q.k q.i q.m q.d.size
def Rq.zero : Rq := ⟨0, 0, 0, 0, 0, ByteArray.empty⟩
def Rq.val (q : Rq) : Value := .agg #[.int .i64 q.c, .int .i64 q.s, .int .i64 q.k, .int .i64 q.i, .int .i64 q.m, .string q.d]
def numsB : List Nat → List UInt8
  | [] => []
  | x :: r => numB x ++ numsB r
def putB (q : Rq) : List UInt8 := numsB [q.c, q.s, q.k, q.i, q.m] ++ textB q.d
theorem putB_eq (q : Rq) (r : List UInt8) : putB q ++ r = numB q.c ++ (numB q.s ++ (numB q.k ++ (numB q.i ++ (numB q.m ++ (textB q.d ++ r))))) := by simp [putB, numsB]
theorem Rq.may_le {q : Rq} (h : q.may = true) : q.c ≤ 3 ∧ 1 ≤ q.s ∧ q.s ≤ 1073741824 ∧ 1 ≤ q.k ∧ q.k ≤ 6 ∧ q.i ≤ 31 ∧ q.m ≤ 100 ∧ q.d.size ≤ 64 := by
  unfold Rq.may mayReqB at h
  have := of_decide_eq_true h
  omega

/-- a request read from l on: what each step answered -/
def RdQ (M1 M2 M3 M4 M5 MT : Nat) (l : List UInt8) (b : Bool) (q : Rq) (l' : List UInt8) (b' : Bool) : Prop :=
  ∃ l1 b1 l2 b2 l3 b3 l4 b4 l5 b5, rdNum l b M1 = (q.c, l1, b1) ∧ rdNum l1 b1 M2 = (q.s, l2, b2) ∧ rdNum l2 b2 M3 = (q.k, l3, b3) ∧ rdNum l3 b3 M4 = (q.i, l4, b4) ∧ rdNum l4 b4 M5 = (q.m, l5, b5) ∧ rdText l5 b5 MT = (q.d.data.toList, l', b')

theorem RdQ.ok {M1 M2 M3 M4 M5 MT : Nat} {l : List UInt8} {b : Bool} {q : Rq} {l' : List UInt8} (h : RdQ M1 M2 M3 M4 M5 MT l b q l' false)
    (h1 : M1 < 18446744073709551616) (h2 : M2 < 18446744073709551616) (h3 : M3 < 18446744073709551616) (h4 : M4 < 18446744073709551616) (h5 : M5 < 18446744073709551616) (h6 : MT < 18446744073709551616) : l = putB q ++ l' := by
  obtain ⟨l1, b1, l2, b2, l3, b3, l4, b4, l5, b5, e1, e2, e3, e4, e5, e6⟩ := h
  obtain ⟨rfl, f6⟩ := rdText_ok h6 e6
  obtain ⟨rfl, f5, _⟩ := rdNum_ok h5 e5
  obtain ⟨rfl, f4, _⟩ := rdNum_ok h4 e4
  obtain ⟨rfl, f3, _⟩ := rdNum_ok h3 e3
  obtain ⟨rfl, f2, _⟩ := rdNum_ok h2 e2
  obtain ⟨rfl, f1, _⟩ := rdNum_ok h1 e1
  rw [putB_eq, f1, f2, f3, f4, f5, f6, str_list]

theorem rdText_put (s : ByteArray) (m : Nat) (r : List UInt8) (hs : s.size < 18446744073709551616) (h : s.size ≤ m) : rdText (textB s ++ r) false m = (s.data.toList, r, false) := by
  have hz : s.data.toList.length = s.size := by rw [Array.length_toList]; rfl
  unfold textB
  rw [List.append_assoc]
  have hn := rdNum_numB m s.size (s.data.toList ++ r) hs
  rw [if_neg (show ¬ m < s.size by omega)] at hn
  unfold rdText
  rw [hn]
  simp only [Bool.false_eq_true, if_false]
  rw [if_neg (by rw [List.length_append, hz]; omega), ← hz, List.take_left, List.drop_left]

theorem RdQ.det {M1 M2 M3 M4 M5 MT : Nat} {b' : Bool} {p q : Rq} {r l' : List UInt8} (h : RdQ M1 M2 M3 M4 M5 MT (putB p ++ r) false q l' b')
    (h1 : p.c ≤ M1) (h2 : p.s ≤ M2) (h3 : p.k ≤ M3) (h4 : p.i ≤ M4) (h5 : p.m ≤ M5) (h6 : p.d.size ≤ MT) (hp : p.may = true) : q = p ∧ l' = r ∧ b' = false := by
  have hb := Rq.may_le hp
  obtain ⟨l1, b1, l2, b2, l3, b3, l4, b4, l5, b5, e1, e2, e3, e4, e5, e6⟩ := h
  rw [putB_eq, rdNum_numB _ _ _ (by omega), if_neg (by omega)] at e1
  injection e1 with f1 g1; injection g1 with g1 k1; subst g1 k1
  rw [rdNum_numB _ _ _ (by omega), if_neg (by omega)] at e2
  injection e2 with f2 g2; injection g2 with g2 k2; subst g2 k2
  rw [rdNum_numB _ _ _ (by omega), if_neg (by omega)] at e3
  injection e3 with f3 g3; injection g3 with g3 k3; subst g3 k3
  rw [rdNum_numB _ _ _ (by omega), if_neg (by omega)] at e4
  injection e4 with f4 g4; injection g4 with g4 k4; subst g4 k4
  rw [rdNum_numB _ _ _ (by omega), if_neg (by omega)] at e5
  injection e5 with f5 g5; injection g5 with g5 k5; subst g5 k5
  rw [rdText_put _ _ _ (by omega) (by omega)] at e6
  injection e6 with f6 g6; injection g6 with g6 k6; subst g6 k6
  have hd : q.d = p.d := by rw [← str_list q.d, ← f6, str_list]
  obtain ⟨qc, qs, qk, qi, qm, qd⟩ := q
  obtain ⟨pc, ps, pk, pi, pm, pd⟩ := p
  simp only at f1 f2 f3 f4 f5 hd
  subst f1 f2 f3 f4 f5 hd
  exact ⟨rfl, rfl, rfl⟩

/-- every list is read somehow -/
theorem RdQ.is (M1 M2 M3 M4 M5 MT : Nat) (l : List UInt8) (b : Bool) : ∃ q l' b', RdQ M1 M2 M3 M4 M5 MT l b q l' b' := by
  rcases h1 : rdNum l b M1 with ⟨v1, l1, b1⟩
  rcases h2 : rdNum l1 b1 M2 with ⟨v2, l2, b2⟩
  rcases h3 : rdNum l2 b2 M3 with ⟨v3, l3, b3⟩
  rcases h4 : rdNum l3 b3 M4 with ⟨v4, l4, b4⟩
  rcases h5 : rdNum l4 b4 M5 with ⟨v5, l5, b5⟩
  rcases h6 : rdText l5 b5 MT with ⟨t, l6, b6⟩
  exact ⟨⟨v1, v2, v3, v4, v5, str t⟩, l6, b6, l1, b1, l2, b2, l3, b3, l4, b4, l5, b5, h1, h2, h3, h4, h5, by rw [h6]; simp [str_toList]⟩

/-- the request of bytes, or none -/
def GotQ (l : List UInt8) (q : Rq) (e : Int) : Prop := (q.may = true ∧ l = putB q ∧ e = 0) ∨ ((∀ p : Rq, p.may = true → l ≠ putB p) ∧ q = Rq.zero ∧ e = 2)

theorem endN_ok {l : List UInt8} {b : Bool} : endN l b = 0 ↔ b = false ∧ l = [] := by
  unfold endN
  cases b <;> cases l <;> simp <;> omega

theorem RdQ.got {M1 M2 M3 M4 M5 MT : Nat} {l : List UInt8} {q : Rq} {l' : List UInt8} {b' : Bool} (h : RdQ M1 M2 M3 M4 M5 MT l false q l' b')
    (h1 : 4 ≤ M1 ∧ M1 < 18446744073709551616) (h2 : 1073741824 ≤ M2 ∧ M2 < 18446744073709551616) (h3 : 6 ≤ M3 ∧ M3 < 18446744073709551616) (h4 : 31 ≤ M4 ∧ M4 < 18446744073709551616) (h5 : 100 ≤ M5 ∧ M5 < 18446744073709551616) (h6 : 64 ≤ MT ∧ MT < 18446744073709551616) :
    (endN l' b' = 0 ∧ q.may = true → GotQ l q 0) ∧ (¬ (endN l' b' = 0 ∧ q.may = true) → GotQ l Rq.zero 2) := by
  constructor
  · rintro ⟨he, hm⟩
    obtain ⟨rfl, rfl⟩ := endN_ok.1 he
    have := h.ok h1.2 h2.2 h3.2 h4.2 h5.2 h6.2
    rw [List.append_nil] at this
    exact .inl ⟨hm, this, rfl⟩
  · intro hn
    refine .inr ⟨fun p hp e => hn ?_, rfl, rfl⟩
    have hb := Rq.may_le hp
    rw [e, ← List.append_nil (putB p)] at h
    obtain ⟨rfl, rfl, rfl⟩ := h.det (by omega) (by omega) (by omega) (by omega) (by omega) (by omega) hp
    exact ⟨rfl, hp⟩

theorem putB_inj {p q : Rq} {r r' : List UInt8} (hp : p.may = true) (hq : q.may = true) (h : putB p ++ r = putB q ++ r') : p = q ∧ r = r' := by
  have hb := Rq.may_le hp
  have hc := Rq.may_le hq
  obtain ⟨x, l', b', hx⟩ := RdQ.is 4 1073741824 6 31 100 64 (putB p ++ r) false
  obtain ⟨e1, e2, _⟩ := hx.det (by omega) (by omega) (by omega) (by omega) (by omega) (by omega) hp
  rw [h] at hx
  obtain ⟨f1, f2, _⟩ := hx.det (by omega) (by omega) (by omega) (by omega) (by omega) (by omega) hq
  exact ⟨e1.symm.trans f1, e2.symm.trans f2⟩

theorem GotQ.det {l : List UInt8} {q q' : Rq} {e e' : Int} (h : GotQ l q e) (h' : GotQ l q' e') : q = q' ∧ e = e' := by
  rcases h with ⟨h1, h2, h3⟩ | ⟨h1, h2, h3⟩
  · rcases h' with ⟨g1, g2, g3⟩ | ⟨g1, g2, g3⟩
    · have := putB_inj (r := []) (r' := []) h1 g1 (by rw [List.append_nil, List.append_nil, ← h2, ← g2])
      exact ⟨this.1, by rw [h3, g3]⟩
    · exact absurd h2 (g1 q h1)
  · rcases h' with ⟨g1, g2, g3⟩ | ⟨g1, g2, g3⟩
    · exact absurd g2 (h1 q' g1)
    · exact ⟨by rw [h2, g2], by rw [h3, g3]⟩
theorem GotQ.put {p : Rq} (hp : p.may = true) {q : Rq} {e : Int} (h : GotQ (putB p) q e) : q = p ∧ e = 0 := GotQ.det h (.inl ⟨hp, rfl, rfl⟩)
/-- a part of a request's bytes is none -/
theorem GotQ.cut {p : Rq} (hp : p.may = true) {k : Nat} (hk : k < (putB p).length) {q : Rq} {e : Int} (h : GotQ ((putB p).take k) q e) : e = 2 := by
  rcases h with ⟨h1, h2, h3⟩ | ⟨h1, h2, h3⟩
  · have e1 : putB q ++ (putB p).drop k = putB p ++ [] := by rw [← h2, List.take_append_drop, List.append_nil]
    have := (putB_inj h1 hp e1).2
    have hl := congrArg List.length this
    simp at hl
    omega
  · exact h3
end Go.Proofs.Ytnionfddejaalaa
