/-
  A chain's bytes: which bytes are a chain, and of which one; the document's reader reads the same: plain law.
-/
import Derived.Test.YtnionfddejaalaaItemLaw
import Derived.Test.YtnionfddejaalaaMayChain
namespace Go.Proofs.Ytnionfddejaalaa
set_option linter.unusedVariables false
set_option linter.unusedSimpArgs false
open Go.RowKit

/-- the document's reader, a request -/
def RfQ (M1 M2 M3 M4 M5 MT : Nat) (l : List UInt8) (b : Bool) (q : Rq) (l' : List UInt8) (b' : Bool) : Prop :=
  ∃ l1 b1 l2 b2 l3 b3 l4 b4 l5 b5, rfNum l b M1 = (q.c, l1, b1) ∧ rfNum l1 b1 M2 = (q.s, l2, b2) ∧ rfNum l2 b2 M3 = (q.k, l3, b3) ∧ rfNum l3 b3 M4 = (q.i, l4, b4) ∧ rfNum l4 b4 M5 = (q.m, l5, b5) ∧ rfText l5 b5 MT = (q.d.data.toList, l', b')

theorem rel_num' {l l' : List UInt8} {b b' : Bool} (h : Rel (l, b) (l', b')) {most v : Nat} {r' : List UInt8} {c' : Bool} (e : rfNum l' b' most = (v, r', c')) : ∃ r c, rdNum l b most = (v, r, c) ∧ Rel (r, c) (r', c') := by
  have := rel_num h most
  rw [e] at this
  rcases hx : rdNum l b most with ⟨v2, r, c⟩
  rw [hx] at this
  obtain ⟨h1, h2⟩ := this
  simp only at h1
  subst h1
  exact ⟨r, c, rfl, h2⟩
theorem rel_text' {l l' : List UInt8} {b b' : Bool} (h : Rel (l, b) (l', b')) {most : Nat} {t r' : List UInt8} {c' : Bool} (e : rfText l' b' most = (t, r', c')) : ∃ r c, rdText l b most = (t, r, c) ∧ Rel (r, c) (r', c') := by
  have := rel_text h most
  rw [e] at this
  rcases hx : rdText l b most with ⟨v2, r, c⟩
  rw [hx] at this
  obtain ⟨h1, h2⟩ := this
  simp only at h1
  subst h1
  exact ⟨r, c, rfl, h2⟩
theorem RfQ.rd {M1 M2 M3 M4 M5 MT : Nat} {l : List UInt8} {b : Bool} {q : Rq} {l' : List UInt8} {b' : Bool} (h : RfQ M1 M2 M3 M4 M5 MT l b q l' b') {l0 : List UInt8} {b0 : Bool} (hr : Rel (l0, b0) (l, b)) :
    ∃ l'' b'', RdQ M1 M2 M3 M4 M5 MT l0 b0 q l'' b'' ∧ endN l'' b'' = endN l' b' := by
  obtain ⟨l1, b1, l2, b2, l3, b3, l4, b4, l5, b5, e1, e2, e3, e4, e5, e6⟩ := h
  obtain ⟨k1, c1, f1, r1⟩ := rel_num' hr e1
  obtain ⟨k2, c2, f2, r2⟩ := rel_num' r1 e2
  obtain ⟨k3, c3, f3, r3⟩ := rel_num' r2 e3
  obtain ⟨k4, c4, f4, r4⟩ := rel_num' r3 e4
  obtain ⟨k5, c5, f5, r5⟩ := rel_num' r4 e5
  obtain ⟨k6, c6, f6, r6⟩ := rel_text' r5 e6
  exact ⟨k6, c6, ⟨k1, c1, k2, c2, k3, c3, k4, c4, k5, c5, f1, f2, f3, f4, f5, f6⟩, rel_end r6⟩

/-! ### chains -/
/-- numbers read one behind the other -/
def RdL (M : Nat) : List Nat → List UInt8 → Bool → List UInt8 → Bool → Prop
  | [], l, b, l', b' => l' = l ∧ b' = b
  | x :: r, l, b, l', b' => ∃ l1 b1, rdNum l b M = (x, l1, b1) ∧ RdL M r l1 b1 l' b'
theorem RdL.snoc {M : Nat} : ∀ {ns : List Nat} {l : List UInt8} {b : Bool} {l1 : List UInt8} {b1 : Bool} {x : Nat} {l2 : List UInt8} {b2 : Bool}, RdL M ns l b l1 b1 → rdNum l1 b1 M = (x, l2, b2) → RdL M (ns ++ [x]) l b l2 b2
  | [], l, b, l1, b1, x, l2, b2, h, e => by
    obtain ⟨rfl, rfl⟩ := h
    exact ⟨l2, b2, e, rfl, rfl⟩
  | y :: r, l, b, l1, b1, x, l2, b2, h, e => by
    obtain ⟨l3, b3, h1, h2⟩ := h
    exact ⟨l3, b3, h1, h2.snoc e⟩
theorem RdL.ok {M : Nat} (hM : M < 18446744073709551616) : ∀ {ns : List Nat} {l : List UInt8} {b : Bool} {l' : List UInt8}, RdL M ns l b l' false → b = false ∧ l = numsB ns ++ l'
  | [], l, b, l', h => by
    obtain ⟨rfl, rfl⟩ := h
    exact ⟨rfl, rfl⟩
  | x :: r, l, b, l', h => by
    obtain ⟨l1, b1, h1, h2⟩ := h
    obtain ⟨rfl, e2⟩ := h2.ok hM
    obtain ⟨rfl, e1, _⟩ := rdNum_ok hM h1
    exact ⟨rfl, by rw [e1, e2, numsB, List.append_assoc]⟩
theorem RdL.det {M : Nat} (hM : M < 18446744073709551616) : ∀ {ns ms : List Nat} {r l' : List UInt8} {b' : Bool}, RdL M ns (numsB ms ++ r) false l' b' → ns.length = ms.length → (∀ x ∈ ms, x ≤ M) → ns = ms ∧ l' = r ∧ b' = false
  | [], [], r, l', b', h, _, _ => by
    obtain ⟨rfl, rfl⟩ := h
    exact ⟨rfl, rfl, rfl⟩
  | x :: ns, y :: ms, r, l', b', h, hl, hm => by
    obtain ⟨l1, b1, h1, h2⟩ := h
    have hy := hm y (List.mem_cons_self ..)
    rw [numsB, List.append_assoc, rdNum_numB _ _ _ (by omega), if_neg (by omega)] at h1
    injection h1 with e1 e2; injection e2 with e2 e3; subst e1 e2 e3
    obtain ⟨rfl, rfl, rfl⟩ := h2.det hM (by simpa using hl) (fun x hx => hm x (List.mem_cons_of_mem _ hx))
    exact ⟨rfl, rfl, rfl⟩
theorem RdL.is (M : Nat) : ∀ (n : Nat) (l : List UInt8) (b : Bool), ∃ ns l' b', ns.length = n ∧ RdL M ns l b l' b'
  | 0, l, b => ⟨[], l, b, rfl, rfl, rfl⟩
  | n + 1, l, b => by
    rcases h1 : rdNum l b M with ⟨v, l1, b1⟩
    obtain ⟨ns, l', b', hl, h⟩ := RdL.is M n l1 b1
    exact ⟨v :: ns, l', b', by simp [hl], l1, b1, h1, h⟩
theorem RdL.bad {M : Nat} : ∀ {ns : List Nat} {l l' : List UInt8} {b' : Bool}, RdL M ns l true l' b' → b' = true
  | [], l, l', b', h => h.2
  | x :: r, l, l', b', h => by
    obtain ⟨l1, b1, h1, h2⟩ := h
    rw [rdNum_bad] at h1
    injection h1 with e1 e2; injection e2 with e2 e3; subst e1 e2 e3
    exact h2.bad

def ints (ns : List Nat) : List Int := ns.map fun (n : Nat) => (n : Int)
def putC (ep : Nat) (ns : List Nat) : List UInt8 := numsB [ep, ns.length] ++ numsB ns
theorem putC_eq (ep : Nat) (ns : List Nat) (r : List UInt8) : putC ep ns ++ r = numB ep ++ (numB ns.length ++ (numsB ns ++ r)) := by simp [putC, numsB]
theorem okNodes_mem : ∀ (l pre : List Int), okNodes pre l = true → ∀ x ∈ l, 0 ≤ x ∧ x ≤ 4
  | [], _, _, x, hx => by cases hx
  | y :: r, pre, h, x, hx => by
    rw [okNodes, Bool.and_eq_true, Bool.and_eq_true] at h
    rcases List.mem_cons.1 hx with rfl | hx
    · exact of_decide_eq_true h.1.1
    · exact okNodes_mem r _ h.2 x hx
theorem mayChainB_le {ep : Nat} {ns : List Nat} (h : mayChainB ep (ints ns) = true) : ep ≤ 1073741824 ∧ 1 ≤ ns.length ∧ ns.length ≤ 5 ∧ ∀ x ∈ ns, x ≤ 4 := by
  unfold mayChainB at h
  rw [Bool.and_eq_true, Bool.and_eq_true] at h
  obtain ⟨⟨h1, h2⟩, h3⟩ := h
  have h1 := of_decide_eq_true h1
  have h2 := of_decide_eq_true h2
  simp only [ints, List.length_map] at h2
  refine ⟨by omega, h2.1, h2.2, fun x hx => ?_⟩
  have := okNodes_mem _ _ h3 x (by unfold ints; exact List.mem_map.2 ⟨x, hx, rfl⟩)
  omega

/-- a chain read from l on -/
def RdC (M1 M2 M3 : Nat) (l : List UInt8) (ep : Nat) (ns : List Nat) (l' : List UInt8) (b' : Bool) : Prop :=
  ∃ l1 b1 l2 b2, rdNum l false M1 = (ep, l1, b1) ∧ rdNum l1 b1 M2 = (ns.length, l2, b2) ∧ RdL M3 ns l2 b2 l' b'
def GotC (l : List UInt8) (ep : Nat) (ns : List Nat) (e : Int) : Prop := (mayChainB ep (ints ns) = true ∧ l = putC ep ns ∧ e = 0) ∨ ((∀ ep' ns', mayChainB (ep' : Nat) (ints ns') = true → l ≠ putC ep' ns') ∧ ep = 0 ∧ ns = [] ∧ e = 2)

theorem RdC.det {M1 M2 M3 : Nat} {ep ep' : Nat} {ns ms : List Nat} {r l' : List UInt8} {b' : Bool} (h : RdC M1 M2 M3 (putC ep ms ++ r) ep' ns l' b') (h1 : ep ≤ M1) (h2 : ms.length ≤ M2) (h3 : ∀ x ∈ ms, x ≤ M3) (hM : M1 < 18446744073709551616 ∧ M2 < 18446744073709551616 ∧ M3 < 18446744073709551616) : ep' = ep ∧ ns = ms ∧ l' = r ∧ b' = false := by
  obtain ⟨l1, b1, l2, b2, e1, e2, e3⟩ := h
  rw [putC_eq, rdNum_numB _ _ _ (by omega), if_neg (by omega)] at e1
  injection e1 with f1 g1; injection g1 with g1 k1; subst f1 g1 k1
  rw [rdNum_numB _ _ _ (by omega), if_neg (by omega)] at e2
  injection e2 with f2 g2; injection g2 with g2 k2; subst g2 k2
  obtain ⟨f3, f4, f5⟩ := e3.det hM.2.2 f2.symm h3
  exact ⟨rfl, f3, f4, f5⟩
theorem RdC.got {M1 M2 M3 : Nat} {l : List UInt8} {ep : Nat} {ns : List Nat} {l' : List UInt8} {b' : Bool} (h : RdC M1 M2 M3 l ep ns l' b')
    (h1 : 1073741824 ≤ M1 ∧ M1 < 18446744073709551616) (h2 : 5 ≤ M2 ∧ M2 < 18446744073709551616) (h3 : 4 ≤ M3 ∧ M3 < 18446744073709551616) :
    (endN l' b' = 0 ∧ mayChainB ep (ints ns) = true → GotC l ep ns 0) ∧ (¬ (endN l' b' = 0 ∧ mayChainB ep (ints ns) = true) → GotC l 0 [] 2) := by
  constructor
  · rintro ⟨he, hm⟩
    obtain ⟨rfl, rfl⟩ := endN_ok.1 he
    obtain ⟨l1, b1, l2, b2, e1, e2, e3⟩ := h
    obtain ⟨rfl, f3⟩ := e3.ok h3.2
    obtain ⟨rfl, f2, _⟩ := rdNum_ok h2.2 e2
    obtain ⟨_, f1, _⟩ := rdNum_ok h1.2 e1
    refine .inl ⟨hm, ?_, rfl⟩
    have := putC_eq ep ns []
    rw [List.append_nil] at this
    rw [this, f1, f2, f3]
  · intro hn
    refine .inr ⟨fun p ms hp e => hn ?_, rfl, rfl, rfl⟩
    have hb := mayChainB_le hp
    rw [e, ← List.append_nil (putC p ms)] at h
    obtain ⟨rfl, rfl, rfl, rfl⟩ := h.det (by omega) (by omega) (fun x hx => by have := hb.2.2.2 x hx; omega) ⟨h1.2, h2.2, h3.2⟩
    exact ⟨rfl, hp⟩
theorem RdC.is (M1 M2 M3 : Nat) (l : List UInt8) : ∃ ep ns l' b', RdC M1 M2 M3 l ep ns l' b' := by
  rcases h1 : rdNum l false M1 with ⟨ep, l1, b1⟩
  rcases h2 : rdNum l1 b1 M2 with ⟨n, l2, b2⟩
  obtain ⟨ns, l', b', hl, h⟩ := RdL.is M3 n l2 b2
  subst hl
  exact ⟨ep, ns, l', b', l1, b1, l2, b2, h1, h2, h⟩
theorem putC_inj {ep ep' : Nat} {ns ns' : List Nat} {r r' : List UInt8} (hp : mayChainB ep (ints ns) = true) (hq : mayChainB ep' (ints ns') = true) (h : putC ep ns ++ r = putC ep' ns' ++ r') : ep = ep' ∧ ns = ns' ∧ r = r' := by
  have hb := mayChainB_le hp
  have hc := mayChainB_le hq
  obtain ⟨x, y, l', b', hx⟩ := RdC.is 1073741824 5 5 (putC ep ns ++ r)
  obtain ⟨e1, e2, e3, _⟩ := hx.det (by omega) (by omega) (fun x hx => by have := hb.2.2.2 x hx; omega) ⟨by omega, by omega, by omega⟩
  rw [h] at hx
  obtain ⟨f1, f2, f3, _⟩ := hx.det (by omega) (by omega) (fun x hx => by have := hc.2.2.2 x hx; omega) ⟨by omega, by omega, by omega⟩
  exact ⟨e1.symm.trans f1, e2.symm.trans f2, e3.symm.trans f3⟩
theorem GotC.det {l : List UInt8} {ep ep' : Nat} {ns ns' : List Nat} {e e' : Int} (h : GotC l ep ns e) (h' : GotC l ep' ns' e') : ep = ep' ∧ ns = ns' ∧ e = e' := by
  rcases h with ⟨h1, h2, h3⟩ | ⟨h1, h2, h3, h4⟩
  · rcases h' with ⟨g1, g2, g3⟩ | ⟨g1, g2, g3, g4⟩
    · obtain ⟨p1, p2, _⟩ := putC_inj (r := []) (r' := []) h1 g1 (by rw [List.append_nil, List.append_nil, ← h2, ← g2])
      exact ⟨p1, p2, by rw [h3, g3]⟩
    · exact absurd h2 (g1 _ _ h1)
  · rcases h' with ⟨g1, g2, g3⟩ | ⟨g1, g2, g3, g4⟩
    · exact absurd g2 (h1 _ _ g1)
    · exact ⟨by rw [h2, g2], by rw [h3, g3], by rw [h4, g4]⟩
theorem GotC.put {ep : Nat} {ns : List Nat} (hp : mayChainB ep (ints ns) = true) {ep' : Nat} {ns' : List Nat} {e : Int} (h : GotC (putC ep ns) ep' ns' e) : ep' = ep ∧ ns' = ns ∧ e = 0 := GotC.det h (.inl ⟨hp, rfl, rfl⟩)

/-- the document's reader, numbers one behind the other -/
def RfL (M : Nat) : List Nat → List UInt8 → Bool → List UInt8 → Bool → Prop
  | [], l, b, l', b' => l' = l ∧ b' = b
  | x :: r, l, b, l', b' => ∃ l1 b1, rfNum l b M = (x, l1, b1) ∧ RfL M r l1 b1 l' b'
theorem RfL.snoc {M : Nat} : ∀ {ns : List Nat} {l : List UInt8} {b : Bool} {l1 : List UInt8} {b1 : Bool} {x : Nat} {l2 : List UInt8} {b2 : Bool}, RfL M ns l b l1 b1 → rfNum l1 b1 M = (x, l2, b2) → RfL M (ns ++ [x]) l b l2 b2
  | [], l, b, l1, b1, x, l2, b2, h, e => by
    obtain ⟨rfl, rfl⟩ := h
    exact ⟨l2, b2, e, rfl, rfl⟩
  | y :: r, l, b, l1, b1, x, l2, b2, h, e => by
    obtain ⟨l3, b3, h1, h2⟩ := h
    exact ⟨l3, b3, h1, h2.snoc e⟩
theorem RfL.rd {M : Nat} : ∀ {ns : List Nat} {l : List UInt8} {b : Bool} {l' : List UInt8} {b' : Bool}, RfL M ns l b l' b' → ∀ {l0 : List UInt8} {b0 : Bool}, Rel (l0, b0) (l, b) → ∃ l'' b'', RdL M ns l0 b0 l'' b'' ∧ Rel (l'', b'') (l', b')
  | [], l, b, l', b', h, l0, b0, hr => by
    obtain ⟨rfl, rfl⟩ := h
    exact ⟨l0, b0, ⟨rfl, rfl⟩, hr⟩
  | x :: r, l, b, l', b', h, l0, b0, hr => by
    obtain ⟨l1, b1, h1, h2⟩ := h
    obtain ⟨k1, c1, f1, r1⟩ := rel_num' hr h1
    obtain ⟨k2, c2, f2, r2⟩ := h2.rd r1
    exact ⟨k2, c2, ⟨k1, c1, f1, f2⟩, r2⟩
def RfC (M1 M2 M3 : Nat) (l : List UInt8) (ep : Nat) (ns : List Nat) (l' : List UInt8) (b' : Bool) : Prop :=
  ∃ l1 b1 l2 b2, rfNum l false M1 = (ep, l1, b1) ∧ rfNum l1 b1 M2 = (ns.length, l2, b2) ∧ RfL M3 ns l2 b2 l' b'
theorem RfC.rd {M1 M2 M3 : Nat} {l : List UInt8} {ep : Nat} {ns : List Nat} {l' : List UInt8} {b' : Bool} (h : RfC M1 M2 M3 l ep ns l' b') : ∃ l'' b'', RdC M1 M2 M3 l ep ns l'' b'' ∧ endN l'' b'' = endN l' b' := by
  obtain ⟨l1, b1, l2, b2, e1, e2, e3⟩ := h
  obtain ⟨k1, c1, f1, r1⟩ := rel_num' (.inl ⟨rfl, rfl, rfl⟩ : Rel (l, false) (l, false)) e1
  obtain ⟨k2, c2, f2, r2⟩ := rel_num' r1 e2
  obtain ⟨k3, c3, f3, r3⟩ := e3.rd r2
  exact ⟨k3, c3, ⟨k1, c1, k2, c2, f1, f2, f3⟩, rel_end r3⟩
end Go.Proofs.Ytnionfddejaalaa
