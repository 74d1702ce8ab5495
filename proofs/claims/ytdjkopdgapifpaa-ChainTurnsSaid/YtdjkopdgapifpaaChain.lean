/-
  Walks of package chain that only read: Has, Head, Tail, Above, Below, Same; the reference's SameChain.
-/
import Derived.Test.YtdjkopdgapifpaaMayChain
import Derived.Test.YtdjkopdgapifpaaInts
import Derived.Test.YtdjkopdgapifpaaEqual
namespace Go.Proofs.Ytdjkopdgapifpaa
set_option linter.unusedVariables false
set_option linter.unusedSimpArgs false
open Go.RowKit

/-- a chain as a value -/
abbrev chV (ep : Int) (A : Option Addr) (n cap : Nat) : Value := .agg #[.int .i64 ep, .slice A n cap]

theorem has_any (ep : Int) (A : Option Addr) (cap : Nat) (l : List Int) (x : Int) (w : World) (hl : l.length ≤ 9223372036854775807) (hs : Sl i64 w A l) :
    Calls Try.prog 39 #[chV ep A l.length cap, .int .i64 x] w fun e w' => e = .returned (.bool (decide (x ∈ l))) ∧ Below w.heap.size w w' := by
  have HB : Hid (∀ o, Below w.heap.size w (w.alloc o)) := fun o => (Below.refl _ _).alloc (Nat.le_refl _) _
  have HC : Hid (∀ o, Calls Try.prog 65 #[.slice A l.length cap, .int .i64 x] (w.alloc o) fun e w' => e = .returned (.bool (decide (x ∈ l))) ∧ w.alloc o = w') := fun o => contains_any A cap l x _ hl (hs.stay (HB.out o))
  clear hs
  generalize decide (x ∈ l) = r at *
  generalize l.length = n at *
  go_enter Try.func39, Try.ntmps39
  go_wp2_with (go_at_call 65; (with_reducible refine (HC.out _).mono ?_); rintro e w' ⟨rfl, rfl⟩)
  go_ret
  exact ⟨rfl, HB.out _⟩

/-- the first of a list, -1 -/
def headI (l : List Int) : Int := l.headD (-1)
/-- the last one, -1 -/
def tailI (l : List Int) : Int := l.getLastD (-1)

theorem head_any (ep : Int) (A : Option Addr) (cap : Nat) (l : List Int) (w : World) (hl : l.length ≤ 9223372036854775807) (hs : Sl i64 w A l) :
    Calls Try.prog 51 #[chV ep A l.length cap] w fun e w' => e = .returned (.int .i64 (headI l)) ∧ Below w.heap.size w w' := by
  have HB : Hid (∀ o, Below w.heap.size w (w.alloc o)) := fun o => (Below.refl _ _).alloc (Nat.le_refl _) _
  cases l with
  | nil =>
    rw [List.length_nil]
    go_enter Try.func51, Try.ntmps51
    go_wp2
    go_ret
    exact ⟨rfl, HB.out _⟩
  | cons x r =>
    obtain ⟨b, o, rfl, hc⟩ := hs.at_ (k := 0) (by simp)
    have hc2 := fun oo => cell_stay (HB.out oo) hc
    simp only [List.getElem_cons_zero, Nat.add_zero] at hc2
    unfold i64 at hc2
    have HX : Hid (headI (x :: r) = x) := rfl
    have hpos : 0 < (x :: r).length := by simp
    clear hc hs
    generalize (x :: r).length = n at *
    have hn0 : ((n : Int) == 0) = false := by rw [beq_eq_false_iff_ne]; omega
    go_enter Try.func51, Try.ntmps51
    go_wp2
    go_ret
    exact ⟨ret_int HX.out.symm, HB.out _⟩

theorem tail_any (ep : Int) (A : Option Addr) (cap : Nat) (l : List Int) (w : World) (hl : l.length ≤ 9223372036854775807) (hs : Sl i64 w A l) :
    Calls Try.prog 42 #[chV ep A l.length cap] w fun e w' => e = .returned (.int .i64 (tailI l)) ∧ Below w.heap.size w w' := by
  have HB : Hid (∀ o, Below w.heap.size w (w.alloc o)) := fun o => (Below.refl _ _).alloc (Nat.le_refl _) _
  by_cases h0 : l = []
  · subst h0
    rw [List.length_nil]
    go_enter Try.func42, Try.ntmps42
    go_wp2
    go_ret
    exact ⟨rfl, HB.out _⟩
  · have hpos : 0 < l.length := List.length_pos_iff.2 h0
    obtain ⟨m, hm⟩ : ∃ m, l.length = m + 1 := ⟨l.length - 1, by omega⟩
    obtain ⟨b, o, rfl, hc⟩ := hs.at_ (k := m) (by omega)
    have hc2 := fun oo => cell_stay (HB.out oo) hc
    have HX : Hid (l[m]'(by omega) = tailI l) := by
      show _ = _
      unfold tailI
      rw [List.getLastD_eq_getLast?, List.getLast?_eq_getElem?]
      rw [show l.length - 1 = m by omega, List.getElem?_eq_getElem (by omega)]
      rfl
    rw [HX.out] at hc2
    unfold i64 at hc2
    clear hc hs HX
    rw [hm] at hl ⊢
    clear hm hpos h0
    generalize tailI l = x at *
    have e1 : (((m + 1 : Nat) : Int)) = (m : Int) + 1 := by omega
    go_enter Try.func42, Try.ntmps42
    go_wp2
    go_ret
    exact ⟨rfl, HB.out _⟩

theorem sameRef_any (ep ep' : Int) (A B : Option Addr) (c1 c2 : Nat) (la lb : List Int) (w : World) (h1 : la.length ≤ 9223372036854775807) (h2 : lb.length ≤ 9223372036854775807) (hs : Sl i64 w A la) (hs2 : Sl i64 w B lb) :
    Calls Try.prog 33 #[chV ep A la.length c1, chV ep' B lb.length c2] w fun e w' => e = .returned (.bool (decide (ep = ep' ∧ la = lb))) ∧ Below w.heap.size w w' := by
  generalize hr : decide (ep = ep' ∧ la = lb) = r
  have HR := Lib.hid hr
  clear hr
  refine hide_post fun D hD => ?_
  have hB : ∀ o o', Below w.heap.size w ((w.alloc o).alloc o') := fun o o' => ((Below.refl _ _).alloc (Nat.le_refl _) _).alloc (by simp) _
  have HC : Hid (∀ o o', Calls Try.prog 55 #[.slice A la.length c1, .slice B lb.length c2] ((w.alloc o).alloc o') fun e w' => e = .returned (.bool (decide (la = lb))) ∧ Below w.heap.size w w') := fun o o' =>
    (ints_any A B c1 c2 la lb _ h1 h2 (hs.stay (hB o o')) (hs2.stay (hB o o'))).mono fun _ _ ⟨he, h⟩ => ⟨he, Below.step (hB o o') h⟩
  have HD : Hid (∀ o o' b, b = r → D (.returned (.bool b)) ((w.alloc o).alloc o')) := fun o o' b h => hD.out _ _ ⟨ret_bool h, hB o o'⟩
  clear hB hs hs2
  generalize la.length = na at *
  generalize lb.length = nb at *
  by_cases h1 : ep = ep'
  · have hE : r = decide (la = lb) := by rw [← HR.out]; exact dec_iff (by simp [h1])
    have HE := Lib.hid hE
    clear hE
    subst h1
    go_enter Try.func33, Try.ntmps33
    go_wp2_with (go_at_call 55; (with_reducible refine (HC.out _ _).mono ?_); rintro e w1 ⟨rfl, h⟩; have H := Lib.hid h; clear h)
    try go_ret
    exact hD.out _ _ ⟨ret_bool HE.out.symm, H.out⟩
  · have hE : r = false := by rw [← HR.out]; exact decide_eq_false (by simp [h1])
    have HE := Lib.hid hE
    clear hE
    go_enter Try.func33, Try.ntmps33
    go_wp2
    try go_ret
    exact HD.out _ _ _ HE.out.symm

theorem same_ch (ep ep' : Int) (A B : Option Addr) (c1 c2 : Nat) (la lb : List Int) (w : World) (h1 : la.length ≤ 9223372036854775807) (h2 : lb.length ≤ 9223372036854775807) (hs : Sl i64 w A la) (hs2 : Sl i64 w B lb) :
    Calls Try.prog 49 #[chV ep A la.length c1, chV ep' B lb.length c2] w fun e w' => e = .returned (.bool (decide (ep = ep' ∧ la = lb))) ∧ Below w.heap.size w w' := by
  generalize hr : decide (ep = ep' ∧ la = lb) = r
  have HR := Lib.hid hr
  clear hr
  refine hide_post fun D hD => ?_
  have hB : ∀ o o', Below w.heap.size w ((w.alloc o).alloc o') := fun o o' => ((Below.refl _ _).alloc (Nat.le_refl _) _).alloc (by simp) _
  have HC : Hid (∀ o o', Calls Try.prog 72 #[.slice A la.length c1, .slice B lb.length c2] ((w.alloc o).alloc o') fun e w' => e = .returned (.bool (decide (la = lb))) ∧ Below w.heap.size w w') := fun o o' =>
    (equal_any A B c1 c2 la lb _ h1 h2 (hs.stay (hB o o')) (hs2.stay (hB o o'))).mono fun _ _ ⟨he, h⟩ => ⟨he, Below.step (hB o o') h⟩
  have HD : Hid (∀ o o' b, b = r → D (.returned (.bool b)) ((w.alloc o).alloc o')) := fun o o' b h => hD.out _ _ ⟨ret_bool h, hB o o'⟩
  clear hB hs hs2
  generalize la.length = na at *
  generalize lb.length = nb at *
  by_cases h1 : ep = ep'
  · have hE : r = decide (la = lb) := by rw [← HR.out]; exact dec_iff (by simp [h1])
    have HE := Lib.hid hE
    clear hE
    subst h1
    go_enter Try.func49, Try.ntmps49
    go_wp2_with (go_at_call 72; (with_reducible refine (HC.out _ _).mono ?_); rintro e w1 ⟨rfl, h⟩; have H := Lib.hid h; clear h)
    try go_ret
    exact hD.out _ _ ⟨ret_bool HE.out.symm, H.out⟩
  · have hE : r = false := by rw [← HR.out]; exact decide_eq_false (by simp [h1])
    have HE := Lib.hid hE
    clear hE
    go_enter Try.func49, Try.ntmps49
    go_wp2
    try go_ret
    exact HD.out _ _ _ HE.out.symm
end Go.Proofs.Ytdjkopdgapifpaa
