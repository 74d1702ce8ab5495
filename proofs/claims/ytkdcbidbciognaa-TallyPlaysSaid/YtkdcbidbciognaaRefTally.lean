/-
  The document's count: what it holds; has, Most.
-/
import Derived.Test.YtkdcbidbciognaaTally3
import Derived.Test.YtkdcbidbciognaaRefMayCh
import Derived.Test.YtkdcbidbciognaaHeldZ2
namespace Go.Proofs.Ytkdcbidbciognaa
set_option linter.unusedVariables false
set_option linter.unusedSimpArgs false
open Go.RowKit

theorem refMost_any (n : Int) (w : World) (h0 : -9223372036854775808 ≤ n) (h1 : n ≤ 9223372036854775807) : Calls Try.prog 16 #[.int .i64 n] w fun e w' => e = .returned (.int .i64 (mostI n)) ∧ w = w' := by
  generalize hr : mostI n = r
  have HR := Lib.hid hr
  clear hr
  unfold mostI at HR
  by_cases h : n < 1
  · have HE : Hid (0 = r) := by show _ = _; rw [← HR.out, if_pos h]
    go_enter Try.func16, Try.ntmps16
    go_wp2
    go_ret
    exact ⟨ret_int HE.out, rfl⟩
  · have HE : Hid (n / 2 + 1 = r) := by show _ = _; rw [← HR.out, if_neg h]
    have h2 : 0 ≤ n := by omega
    go_enter Try.func16, Try.ntmps16
    go_wp2
    go_ret
    exact ⟨ret_int HE.out, rfl⟩
theorem most_big (n : Int) (w : World) (h0 : -9223372036854775808 ≤ n) (h1 : n ≤ 9223372036854775807) : Calls Try.prog 15 #[.int .i64 n] w fun e w' => e = .returned (.int .i64 (mostI n)) ∧ w = w' := by
  generalize hr : mostI n = r
  have HR := Lib.hid hr
  clear hr
  unfold mostI at HR
  by_cases h : n < 1
  · have HE : Hid (0 = r) := by show _ = _; rw [← HR.out, if_pos h]
    go_enter Try.func15, Try.ntmps15
    go_wp2
    go_ret
    exact ⟨ret_int HE.out, rfl⟩
  · have HE : Hid (n / 2 + 1 = r) := by show _ = _; rw [← HR.out, if_neg h]
    have h2 : 0 ≤ n := by omega
    go_enter Try.func15, Try.ntmps15
    go_wp2
    go_ret
    exact ⟨ret_int HE.out, rfl⟩

set_option maxHeartbeats 2000000 in
theorem has11_any (A : Option Addr) (cap : Nat) (l : List Int) (x : Int) (w : World) (hl : l.length ≤ 1000000) (hs : Sl i64 w A l) :
    Calls Try.prog 49 #[.slice A l.length cap, .int .i64 x] w fun e w' => e = .returned (.bool (decide (x ∈ l))) ∧ Ext w w' := by
  refine hide_post fun D hD => ?_
  obtain ⟨n, hn⟩ : ∃ n, n = l.length := ⟨_, rfl⟩
  rw [← hn] at hl ⊢
  have HN := Lib.hid hn
  have HS := Lib.hid hs
  clear hn hs
  go_enter Try.func49, Try.ntmps49
  go_wp2
  go_loopw [5] (fun i wr => ∃ (j : Nat), j ≤ n ∧ i = .int .i64 j ∧ Hid (¬ x ∈ l.take j) ∧ Hid (Ext w wr)) (fun i _ => n - (intOf i).toNat)
  case atStart => exact ⟨0, by omega, rfl, (by show ¬ _; simp), Ext.refl _⟩
  case round =>
    obtain ⟨j, hj, rfl, HX0, HX⟩ := hrel
    by_cases hlt : j < n
    · obtain ⟨y, hy⟩ : ∃ y, l[j]? = some y := ⟨_, List.getElem?_eq_getElem (by rw [← HN.out]; exact hlt)⟩
      obtain ⟨b, o, rfl, hc⟩ := HS.out j y hy
      have c0 := cell_stay HX.out hc
      unfold i64 at c0
      have hj1 : (j : Int) < (n : Int) := by omega
      have hj0 : (0 : Int) ≤ (j : Int) := by omega
      by_cases hxy : y = x
      · have HE : Hid (decide (x ∈ l) = true) := by (show _ = _); rw [decide_eq_true_eq, ← hxy]; exact List.mem_of_getElem? hy
        clear hy hc
        subst hxy
        go_wp2
        try go_ret
        exact hD.out _ _ ⟨by first | (rw [HE.out]; done) | (rw [HE.out]; rfl), HX.out⟩
      · have HE : Hid (¬ x ∈ l.take (j + 1)) := by
          show ¬ _
          rw [List.take_add_one, hy]
          intro h
          rcases List.mem_append.1 h with h | h
          · exact HX0.out h
          · simp at h; exact hxy h.symm
        have hb : (y == x) = false := by simp [hxy]
        clear hy hc
        go_wp2
        go_roundw
        case rel => exact ⟨j + 1, by omega, by go_num, HE, HX⟩
        case measure => simp [intOf]; omega
    · have h3 : ¬ (j : Int) < (n : Int) := by omega
      have HE : Hid (decide (x ∈ l) = false) := by
        show _ = _
        rw [decide_eq_false_iff_not]
        have h := HX0.out
        rwa [List.take_of_length_le (by rw [← HN.out]; omega)] at h
      go_wp2
      try go_ret
      exact hD.out _ _ ⟨by first | (rw [HE.out]; done) | (rw [HE.out]; rfl), HX.out⟩

/-- a vote, and where its nodes lie -/
structure Vt where
  pr : Int
  pn : Int
  ar : Int
  an : Int
  has : Bool
  cep : Int
  A : Option Addr
  cap : Nat
  l : List Int
def vtRow (t : Vt) : List Value := [.int .i64 t.pr, .int .i64 t.pn, .int .i64 t.ar, .int .i64 t.an, .bool t.has, .int .i64 t.cep, .slice t.A t.l.length t.cap]
def flatV : List Vt → List Value
  | [] => []
  | t :: l => vtRow t ++ flatV l
theorem flatV_append (a b : List Vt) : flatV (a ++ b) = flatV a ++ flatV b := by
  induction a with
  | nil => rfl
  | cons x r ih => simp [flatV, ih]
theorem flatV_length (a : List Vt) : (flatV a).length = a.length * 7 := by
  induction a with
  | nil => rfl
  | cons x r ih => simp [flatV, vtRow, ih]; omega
theorem flatV_at (l : List Vt) : ∀ (j : Nat) (t : Vt), l[j]? = some t → ∀ k, k < 7 → (flatV l)[j * 7 + k]? = (vtRow t)[k]? := by
  induction l with
  | nil => intro j x h; simp at h
  | cons y r ih =>
    intro j t h k hk
    have hl : (vtRow y).length = 7 := rfl
    cases j with
    | zero =>
      simp at h
      subst h
      rw [flatV, List.getElem?_append_left (by omega)]
      simp
    | succ j =>
      rw [flatV, List.getElem?_append_right (by omega), hl, show (j + 1) * 7 + k - 7 = j * 7 + k by omega]
      exact ih j t (by simpa using h) k hk
/-- the best vote of some -/
def better (b : Option Vt) (t : Vt) : Bool := t.has && (match b with | none => true | some y => decide (0 < cmpBal t.ar t.an y.ar y.an))
def stepV (b : Option Vt) (t : Vt) : Option Vt := if better b t then some t else b
def bestV (l : List Vt) : Option Vt := l.foldl stepV none
theorem bestV_snoc (l : List Vt) (t : Vt) : bestV (l ++ [t]) = stepV (bestV l) t := by unfold bestV; rw [List.foldl_append]; rfl

/-- the document's count at block P: what the count v says, with the votes behind it -/
def XAt (w : World) (base P : Nat) (s : Nat → Prop) (v : TV) (L : List Vt) : Prop :=
  base ≤ P ∧ ∃ cA ccap V F S, Blk w P 38 #[.int .i64 v.n, .int .i64 v.br, .int .i64 v.bn, .int .i64 v.ep, .slice cA v.cl.length ccap, V, F, S] ∧
    w.ownsRow base 40 7 V L.length (flatV L) ∧ w.ownsRow base 3 1 F v.pl.length (v.pl.map i64) ∧ w.ownsRow base 3 1 S v.sl.length (v.sl.map i64) ∧
    (∀ k, F.ownBlock = some k → S.ownBlock ≠ some k) ∧ (Sl i64 w cA v.cl ∧ ∀ a, cA = some a → a.block < base) ∧ (∀ t ∈ L, Sl i64 w t.A t.l ∧ (t.l ≠ [] → ∀ a, t.A = some a → a.block < base)) ∧
    (∀ k, s k ↔ k = P ∨ V.ownBlock = some k ∨ F.ownBlock = some k ∨ S.ownBlock = some k)
end Go.Proofs.Ytkdcbidbciognaa
