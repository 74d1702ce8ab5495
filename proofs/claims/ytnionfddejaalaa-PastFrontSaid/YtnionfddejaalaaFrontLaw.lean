/-
  For the law PastFront: which act is answered; rows of acts as a list that is appended.
-/
import Derived.Test.YtnionfddejaalaaPast
import Derived.Test.YtnionfddejaalaaMayLaw
namespace Go.Proofs.Ytnionfddejaalaa
set_option linter.unusedVariables false
set_option linter.unusedSimpArgs false
open Go.RowKit Go.ChangeShapes Go.WideShapes Go.Joins Go.Deep

def answers (x y : Ac) : Bool := y.ans && decide (y.cl = x.cl) && decide (y.sq = x.sq)
/-- is x answered among those from j + 1 on, up to i? -/
def scanA (l : List Ac) (x : Ac) (j i : Nat) : Bool := ((l.take i).drop (j + 1)).any (answers x)
theorem scanA_start (l : List Ac) (x : Ac) (j : Nat) : scanA l x j (j + 1) = false := by
  unfold scanA
  rw [List.drop_eq_nil_of_le (by rw [List.length_take]; omega)]
  rfl
theorem scanA_step {l : List Ac} {x y : Ac} {j i : Nat} (hi : l[i]? = some y) (hj : j + 1 ≤ i) : scanA l x j (i + 1) = (scanA l x j i || answers x y) := by
  have hlt : i < l.length := (List.getElem?_eq_some_iff.1 hi).1
  unfold scanA
  rw [List.take_add_one, hi, Option.toList_some, List.drop_append_of_le_length (by rw [List.length_take]; omega), List.any_append]
  simp
theorem scanA_all {l : List Ac} {x : Ac} {j : Nat} (hx : l[j]? = some x) (hxa : x.ans = false) (hm : mayF l) (h : scanA l x j l.length = true) : ¬ mayF (l.take j ++ l.drop (j + 1)) := by
  unfold scanA at h
  rw [List.take_length, List.any_eq_true] at h
  obtain ⟨y, hy, h⟩ := h
  unfold answers at h
  simp only [Bool.and_eq_true, decide_eq_true_eq] at h
  have hj : j < l.length := (List.getElem?_eq_some_iff.1 hx).1
  have hl : l = l.take j ++ x :: l.drop (j + 1) := by
    have h1 := List.take_append_drop j l
    rw [List.drop_eq_getElem_cons hj] at h1
    rw [← (List.getElem?_eq_some_iff.1 hx).2]
    exact h1.symm
  rw [hl] at hm
  exact may_without hm hxa hy h.1.1 h.1.2 h.2
theorem acs_flat {w : World} {b o : Nat} {L : List At} (h : Acs w (some ⟨b, o, none⟩) L) : ∀ (k : Nat) (u : Value), (flatA L)[k]? = some u → w.cell? ⟨b, o + k, none⟩ = some u := by
  intro k u hk
  have hlt : k < (flatA L).length := (List.getElem?_eq_some_iff.1 hk).1
  rw [flatA_length] at hlt
  have hj : k / 14 < L.length := by omega
  obtain ⟨t, ht⟩ : ∃ t, L[k / 14]? = some t := ⟨_, List.getElem?_eq_getElem hj⟩
  obtain ⟨b', o', e, hc, _⟩ := h _ t ht
  injection e with e
  injection e with e1 e2
  subst e1 e2
  have h1 := flatA_at L _ t ht (k % 14) (Nat.mod_lt _ (by decide))
  have h2 : k / 14 * 14 + k % 14 = k := by omega
  rw [h2, hk] at h1
  have h3 := hc (k % 14) (Nat.mod_lt _ (by decide))
  rw [Nat.add_assoc, h2] at h3
  rw [h3, ← h1]
theorem Acs.take {w : World} {A : Option Addr} {L : List At} (h : Acs w A L) (k : Nat) : Acs w A (L.take k) := fun j t hj => by
  rw [List.getElem?_take] at hj
  split at hj
  · exact h j t hj
  · cases hj
theorem Acs.drop {w : World} {b o : Nat} {L : List At} (h : Acs w (some ⟨b, o, none⟩) L) (k : Nat) : Acs w (some ⟨b, o + k * 14, none⟩) (L.drop k) := fun j t hj => by
  rw [List.getElem?_drop] at hj
  obtain ⟨b', o', e, hc, hs⟩ := h (k + j) t hj
  injection e with e
  injection e with e1 e2
  subst e1 e2
  refine ⟨b, o + k * 14, rfl, fun i hi => ?_, hs⟩
  have := hc i hi
  rw [← this]
  congr 2
  omega
theorem flat_cells {L : List At} : ∀ y ∈ flatA L, y.oneCell' = true := by
  induction L with
  | nil => intro y hy; cases hy
  | cons t r ih =>
    intro y hy
    rcases List.mem_append.1 (show y ∈ acRow t.x t.A t.cap ++ flatA r from hy) with hy | hy
    · unfold acRow at hy
      simp at hy
      rcases hy with rfl | rfl | rfl | rfl | rfl | rfl | rfl | rfl | rfl | rfl | rfl | rfl | rfl | rfl <;> rfl
    · exact ih y hy

section
variable {P : Program} {w : World} {o : Oper} {a : Act} {Q : Exit → Act → World → Prop}
/-- append of several elements of several cells each onto a slice of the call's own -/
theorem wp_append_wides {K : Act → World → Prop} (s x : Operand) (t : TypeId)
    (ho : o.op = .call { callee := .builtin .append, args := #[s, x], argTypes := #[t, t] })
    (base : Nat) (e : TypeId) (z : Value) (size bytes : Nat) (ht : P.underlying t = some (.slice e)) (hinfo : (P.info? e).map (fun i => (i.zero, i.size, i.bytes)) = some (some z, size, bytes))
    (hzs : z.cells.size = size) (hsz : 0 < size) (hby : bytes ≤ 1000) (v : Value) (n : Nat) (xs : List Value) (hs : a.eval s = v) (hown : w.ownsRow base e size v n xs)
    (ad : Addr) (m c : Nat) (news : List Value) (hx : a.eval x = .slice (some ad) m c) (hl : news.length = m * size) (hnews : ∀ (j : Nat) (u : Value), news[j]? = some u → w.cell? (ad.add j) = some u) (h1 : ∀ y ∈ news, y.oneCell' = true)
    (hn : n + m ≤ 1000000000) (hbase : base ≤ w.heap.size)
    (h : ∀ v' w', w'.ownsRow base e size v' (n + m) (xs ++ news) → w.grownBy w' v.ownBlock → (v'.ownBlock = v.ownBlock ∨ v'.ownBlock = some w.heap.size) → K (a.put o.dst v') w') : o.wp P a w K Q := by
  obtain ⟨i0, hi, hz0, hz1, hz2⟩ := info_parts hinfo
  obtain ⟨v', w', hr, h2, h3, _, h5⟩ := run_append_own_at (P := P) w base t o.type e i0 z size bytes ht hi hz0 hz1 hz2 hzs hsz v n xs hown ad m c news hl hnews h1 (by unfold maxLen; omega) (by
      calc (n + m) * bytes ≤ 1000000000 * 1000 := Nat.mul_le_mul (by omega) hby
        _ ≤ 140737488355328 := by omega) hbase
  unfold Oper.wp execOp
  simp only [ho, resolve, invoke, builtin, Sem.run_bind, Sem.run_pure, Result.andThen_ok, List.map_toArray, List.map_cons, List.map_nil, hs, hx, hr]
  exact h v' w' h2 h3 h5
end
end Go.Proofs.Ytnionfddejaalaa
