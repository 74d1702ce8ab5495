/-
  The acceptor (law 13): what it holds; the first error that applies; what it knows, its vote.
-/
import Derived.Test.YtkdcbidbciognaaSet
import Derived.Test.YtkdcbidbciognaaChWith
import Derived.Shelf.Abstract
namespace Go.Proofs.Ytkdcbidbciognaa
set_option linter.unusedVariables false
set_option linter.unusedSimpArgs false
open Go.RowKit

/-! ### the first error that applies -/
/-- the first that is not nought -/
def firstI : List Int → Int
  | [] => 0
  | x :: r => if x = 0 then firstI r else x
theorem firstI_app {a b : List Int} (h : firstI a = 0) : firstI (a ++ b) = firstI b := by
  induction a with
  | nil => rfl
  | cons x l ih =>
    rw [List.cons_append]
    rw [firstI] at h ⊢
    split at h
    case isTrue hx => rw [if_pos hx]; exact ih h
    case isFalse hx => exact absurd h hx
/-- a function value that answers a number, whatever was made since -/
def Fv (w : World) (v : Value) (r : Int) : Prop := ∃ (k : Nat) (caps : Array Value), v = .func (.func k) #[] caps ∧ Enters Try.prog k ∧ ∀ W, Ext w W → Calls Try.prog k caps W fun e w' => e = .returned (.int .i64 r) ∧ Ext W w'
theorem Fv.stay {w w' : World} {v : Value} {r : Int} (h : Fv w v r) (hx : Ext w w') : Fv w' v r := by
  obtain ⟨k, caps, e, he, h⟩ := h
  exact ⟨k, caps, e, he, fun W hW => h W (Ext.trans hx hW)⟩

theorem when1_any (k g g' : Nat) (caps : Array Value) (b : Bool) (e : Int) (w : World) (he : Enters Try.prog k) (h1 : Blk w g 28 #[.func (.func k) #[] caps]) (h2 : Blk w g' 3 #[.int .i64 e])
    (hc : Calls Try.prog k caps w fun e w' => e = .returned (.bool b) ∧ Ext w w') :
    Calls Try.prog 87 #[.pointer (some ⟨g, 0, none⟩), .pointer (some ⟨g', 0, none⟩)] w fun r w' => r = .returned (.int .i64 (if b then e else 0)) ∧ Ext w w' := by
  refine hide_post fun D hD => ?_
  have he' : ∀ (args : Array Value) (w : World), (callFunc k args).run Try.prog w = .ok (.enter k args) w := he
  have c0 := h1.cell 0
  simp at c0
  have HC := Lib.hid hc
  have H2 := Lib.hid h2
  clear h1 h2 hc he
  cases b
  all_goals
    go_enter Try.func87, Try.ntmps87
    go_wp2_with ((with_reducible refine HC.out.mono ?_); rintro r w1 ⟨rfl, hx⟩; have c1 := (H2.out.stay hx).cell 0; simp at c1; have X1 := Lib.hid hx; clear hx)
    try go_ret
    exact hD.out _ _ ⟨rfl, X1.out⟩

theorem first_any (fs : List Value) (rs : List Int) (g cap : Nat) (w : World) (hlen : rs.length = fs.length) (hn : fs.length ≤ 1000) (hB : Blk w g 95 fs.toArray)
    (hf : ∀ (j : Nat) (v : Value) (r : Int), fs[j]? = some v → rs[j]? = some r → firstI (rs.take j) = 0 → Fv w v r) :
    Calls Try.prog 52 #[.slice (some ⟨g, 0, none⟩) fs.length cap] w fun e w' => e = .returned (.int .i64 (firstI rs)) ∧ Ext w w' := by
  refine hide_post fun D hD => ?_
  obtain ⟨N, hN⟩ : ∃ N, N = fs.length := ⟨_, rfl⟩
  rw [← hN] at hn ⊢
  have HN := Lib.hid hN
  have HL := Lib.hid hlen
  have HF := Lib.hid hf
  have HB := Lib.hid hB
  clear hN hlen hf hB
  have E0 : Hid (Ext w w) := Ext.refl _
  go_enter Try.func52, Try.ntmps52
  go_wp2_with fail
  go_loopw [8] (fun i wr => ∃ k : Nat, k ≤ N ∧ i = .int .i64 k ∧ Hid (Ext w wr ∧ firstI (rs.take k) = 0 ∧ firstI rs = firstI (rs.drop k))) (fun i _ => N - (intOf i).toNat)
  case atStart => exact ⟨0, Nat.zero_le _, rfl, E0.out, rfl, rfl⟩
  case round =>
    obtain ⟨k, hk, rfl, Hi⟩ := hrel
    by_cases hlt : k < N
    · have hk0 : (0 : Int) ≤ (k : Int) := by omega
      have hk1 : (k : Int) < (N : Int) := by omega
      obtain ⟨v, hv⟩ : ∃ v, fs[k]? = some v := ⟨fs[k]'(by have := HN.out; omega), List.getElem?_eq_getElem _⟩
      obtain ⟨r, hr⟩ : ∃ r, rs[k]? = some r := ⟨rs[k]'(by have := HN.out; have := HL.out; omega), List.getElem?_eq_getElem _⟩
      have hfv := (HF.out k v r hv hr Hi.out.2.1).stay Hi.out.1
      obtain ⟨m, caps, rfl, he, hc⟩ := hfv
      have he' : ∀ (args : Array Value) (w : World), (callFunc m args).run Try.prog w = .ok (.enter m args) w := he
      clear he
      have hcell : wr.cell? ⟨g, k, none⟩ = some (.func (.func m) #[] caps) := by rw [(HB.out.stay Hi.out.1).cell k, List.getElem?_toArray, hv]
      have hd : rs.drop k = r :: rs.drop (k + 1) := by
        obtain ⟨h1, h2⟩ := List.getElem?_eq_some_iff.1 hr
        rw [List.drop_eq_getElem_cons h1, h2]
      have ht : rs.take (k + 1) = rs.take k ++ [r] := by
        obtain ⟨h1, h2⟩ := List.getElem?_eq_some_iff.1 hr
        rw [List.take_succ_eq_append_getElem h1, h2]
      have HC := Lib.hid (hc wr (Ext.refl _))
      have HD1 := Lib.hid hd
      have HT := Lib.hid ht
      clear hv hr hc hd ht
      by_cases hz : r = 0
      · subst hz
        go_wp2_with ((with_reducible refine HC.out.mono ?_); rintro e w1 ⟨rfl, hx⟩; have X1 := Lib.hid hx; clear hx)
        go_roundw
        case rel =>
          have hone : Ext w w1 := Ext.trans Hi.out.1 X1.out
          exact ⟨k + 1, by omega, by go_num, by first | exact hone | exact (Ext.drewR hone), by rw [HT.out, firstI_app Hi.out.2.1]; rfl, by rw [Hi.out.2.2, HD1.out]; rfl⟩
        case measure => simp [intOf]; omega
      · go_wp2_with ((with_reducible refine HC.out.mono ?_); rintro e w1 ⟨rfl, hx⟩; have X1 := Lib.hid hx; clear hx)
        try go_ret
        exact hD.out _ _ ⟨by rw [Hi.out.2.2, HD1.out]; simp [firstI, hz], Ext.trans Hi.out.1 X1.out⟩
    · go_wp2_with fail
      try go_ret
      exact hD.out _ _ ⟨by rw [Hi.out.2.2, List.drop_of_length_le (by have := HN.out; have := HL.out; omega)]; rfl, Hi.out.1⟩

set_option maxRecDepth 4000 in
theorem when_any (f : Value) (e : Int) (w : World) (hf : ∃ k caps, f = .func (.func k) #[] caps) :
    Calls Try.prog 53 #[f, .int .i64 e] w fun r w' => ∃ g, r = .returned (.func (.func 87) #[] #[.pointer (some ⟨g, 0, none⟩), .pointer (some ⟨g + 1, 0, none⟩)]) ∧ Blk w' g 28 #[f] ∧ Blk w' (g + 1) 3 #[.int .i64 e] ∧ Ext w w' := by
  refine hide_post fun D hD => ?_
  obtain ⟨k, caps, rfl⟩ := hf
  go_enter Try.func53, Try.ntmps53
  go_wp2_with fail
  try go_ret
  exact hD.out _ _ ⟨_, rfl, (Blk.new _ _ _).alloc _, Blk.new' _ _ _ _ (by simp), Ext.trans (ext_al _ _) (ext_al _ _)⟩
/-- what a 'when' makes answers the error just if its question says yes -/
theorem fv_when {w : World} {g k : Nat} {caps : Array Value} {b : Bool} {e : Int} (he : Enters Try.prog k) (h1 : Blk w g 28 #[.func (.func k) #[] caps]) (h2 : Blk w (g + 1) 3 #[.int .i64 e])
    (hc : ∀ W, Ext w W → Calls Try.prog k caps W fun e w' => e = .returned (.bool b) ∧ Ext W w') :
    Fv w (.func (.func 87) #[] #[.pointer (some ⟨g, 0, none⟩), .pointer (some ⟨g + 1, 0, none⟩)]) (if b then e else 0) :=
  ⟨_, _, rfl, enters_of Try.func87 (by kernel_rfl) rfl, fun W hW => when1_any k g (g + 1) caps b e W he (h1.stay hW) (h2.stay hW) (hc W hW)⟩

end Go.Proofs.Ytkdcbidbciognaa
