/-
  Walks of package chain that only read: Has, Head, Tail, Above, Below, Same; the reference's SameChain.
-/
import Derived.Test.YtkdcbidbciognaaMayChain
import Derived.Test.YtkdcbidbciognaaInts
import Derived.Test.YtkdcbidbciognaaEqual
namespace Go.Proofs.Ytkdcbidbciognaa
set_option linter.unusedVariables false
set_option linter.unusedSimpArgs false
open Go.RowKit

/-- a chain as a value -/
abbrev chV (ep : Int) (A : Option Addr) (n cap : Nat) : Value := .agg #[.int .i64 ep, .slice A n cap]

/-- the first of a list, -1 -/
def headI (l : List Int) : Int := l.headD (-1)
/-- the last one, -1 -/
def tailI (l : List Int) : Int := l.getLastD (-1)

theorem sameRef_any (ep ep' : Int) (A B : Option Addr) (c1 c2 : Nat) (la lb : List Int) (w : World) (h1 : la.length ≤ 9223372036854775807) (h2 : lb.length ≤ 9223372036854775807) (hs : Sl i64 w A la) (hs2 : Sl i64 w B lb) :
    Calls Try.prog 23 #[chV ep A la.length c1, chV ep' B lb.length c2] w fun e w' => e = .returned (.bool (decide (ep = ep' ∧ la = lb))) ∧ Below w.heap.size w w' := by
  generalize hr : decide (ep = ep' ∧ la = lb) = r
  have HR := Lib.hid hr
  clear hr
  refine hide_post fun D hD => ?_
  have hB : ∀ o o', Below w.heap.size w ((w.alloc o).alloc o') := fun o o' => ((Below.refl _ _).alloc (Nat.le_refl _) _).alloc (by simp) _
  have HC : Hid (∀ o o', Calls Try.prog 50 #[.slice A la.length c1, .slice B lb.length c2] ((w.alloc o).alloc o') fun e w' => e = .returned (.bool (decide (la = lb))) ∧ Below w.heap.size w w') := fun o o' =>
    (ints_any A B c1 c2 la lb _ h1 h2 (hs.stay (hB o o')) (hs2.stay (hB o o'))).mono fun _ _ ⟨he, h⟩ => ⟨he, Below.step (hB o o') h⟩
  have HD : Hid (∀ o o' b, b = r → D (.returned (.bool b)) ((w.alloc o).alloc o')) := fun o o' b h => hD.out _ _ ⟨ret_bool h, hB o o'⟩
  clear hB hs hs2
  generalize la.length = na at *
  generalize lb.length = nb at *
  by_cases h1 : ep = ep'
  · have hE : r = decide (la = lb) := by rw [← HR.out]; exact dec_iff (by simp [h1])
    have HE := Lib.hid hE
    clear hE
    subst h1
    go_enter Try.func23, Try.ntmps23
    go_wp2_with (go_at_call 50; (with_reducible refine (HC.out _ _).mono ?_); rintro e w1 ⟨rfl, h⟩; have H := Lib.hid h; clear h)
    try go_ret
    exact hD.out _ _ ⟨ret_bool HE.out.symm, H.out⟩
  · have hE : r = false := by rw [← HR.out]; exact decide_eq_false (by simp [h1])
    have HE := Lib.hid hE
    clear hE
    go_enter Try.func23, Try.ntmps23
    go_wp2
    try go_ret
    exact HD.out _ _ _ HE.out.symm

end Go.Proofs.Ytkdcbidbciognaa
