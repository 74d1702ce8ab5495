/-
  Walks of package chain, further: a chain that may be, or an error; the document's place of a node.
-/
import Derived.Test.YtdjkopdgapifpaaFits
import Derived.Test.YtdjkopdgapifpaaHeldR
namespace Go.Proofs.Ytdjkopdgapifpaa
set_option linter.unusedVariables false
set_option linter.unusedSimpArgs false
open Go.RowKit

theorem may_yes (ep : Int) (A : Option Addr) (cap : Nat) (l : List Int) (w : World) (hl : l.length ≤ 9223372036854775807) (hcap : l.length ≤ cap) (hs : Sl i64 w A l) (hm : mayChainB ep l = true) :
    Calls Try.prog 66 #[chV ep A l.length cap] w fun e w' => e = .returned (.tuple #[chV ep A l.length cap, .int .i64 0]) ∧ Below w.heap.size w w' := by
  refine hide_post fun D hD => ?_
  have HB : Hid (∀ o o', Below w.heap.size w ((w.alloc o).alloc o')) := fun o o' => ((Below.refl _ _).alloc (Nat.le_refl _) _).alloc (by simp) _
  have HC : Hid (∀ o o', Calls Try.prog 61 #[.agg #[.int .i64 ep, .slice A l.length cap]] ((w.alloc o).alloc o') fun e w' => e = .returned (.bool true) ∧ Ext ((w.alloc o).alloc o') w') := fun o o' => by rw [← hm]; exact mayChain_any ep A cap l _ hl hcap (hs.stay (HB.out o o'))
  clear hs hm
  generalize l.length = N at *
  have HK : Hid (∀ W, Ext ((w.alloc (.cells #[.int .i64 ep, .slice A N cap] 50)).alloc (.cells #[.int .i64 0, .slice none 0 0] 50)) W → Blk W w.heap.size 50 #[.int .i64 ep, .slice A N cap] ∧ Blk W (w.heap.size + 1) 50 #[.int .i64 0, .slice none 0 0]) := fun W hW =>
    ⟨((Blk.new w _ _).stay ((Below.refl _ _).alloc (Nat.le_refl _) _)).stay hW, (Blk.new' _ _ _ (w.heap.size + 1) (by simp)).stay hW⟩
  go_enter Try.func66, Try.ntmps66
  go_wp2_with (go_at_call 61; (with_reducible refine (HC.out _ _).mono ?_); rintro e w1 ⟨rfl, hx⟩; obtain ⟨k0, k1⟩ := HK.out _ hx; have HX := Lib.hid (Below.step (HB.out _ _) hx); have K1 := Lib.hid k1; have a0 := k0.cell 0; have a1 := k0.cell 1; have b0 := k1.cell 0; have b1 := k1.cell 1; have f0 := k1.frozen 0; have f1 := k1.frozen 1; clear k0 k1 hx; simp at a0 a1 b0 b1)
  have KA := (K1.out.set 0 (.int .i64 ep)).set 1 (.slice A N cap)
  have hcA := KA.cell 0
  have hcB := KA.cell 1
  simp at hcA hcB
  have hE := hD.out (.returned (.tuple #[chV ep A N cap, .int .i64 0])) _ ⟨rfl, Frm.step HX.out (Frm.tr (Frm.of_set (s := fun k => k = w.heap.size + 1) w1 ⟨w.heap.size + 1, 0, none⟩ (.int .i64 ep) rfl) (Frm.of_set _ ⟨w.heap.size + 1, 1, none⟩ (.slice A N cap) rfl)) HX.out.size (by rintro k e; omega)⟩
  exact bodyPost_ret (v := .tuple #[chV ep A N cap, .int .i64 0]) (by simp [results, Try.results66, go_sem, hcA, hcB]) rfl hE

theorem may_no (ep : Int) (A : Option Addr) (cap : Nat) (l : List Int) (w : World) (hl : l.length ≤ 9223372036854775807) (hcap : l.length ≤ cap) (hs : Sl i64 w A l) (hm : mayChainB ep l = false) :
    Calls Try.prog 66 #[chV ep A l.length cap] w fun e w' => e = .returned (.tuple #[chV 0 none 0 0, .int .i64 1]) ∧ Below w.heap.size w w' := by
  refine hide_post fun D hD => ?_
  have HB : Hid (∀ o o', Below w.heap.size w ((w.alloc o).alloc o')) := fun o o' => ((Below.refl _ _).alloc (Nat.le_refl _) _).alloc (by simp) _
  have HC : Hid (∀ o o', Calls Try.prog 61 #[.agg #[.int .i64 ep, .slice A l.length cap]] ((w.alloc o).alloc o') fun e w' => e = .returned (.bool false) ∧ Ext ((w.alloc o).alloc o') w') := fun o o' => by rw [← hm]; exact mayChain_any ep A cap l _ hl hcap (hs.stay (HB.out o o'))
  clear hs hm
  generalize l.length = N at *
  have HK : Hid (∀ W, Ext ((w.alloc (.cells #[.int .i64 ep, .slice A N cap] 50)).alloc (.cells #[.int .i64 0, .slice none 0 0] 50)) W → Blk W w.heap.size 50 #[.int .i64 ep, .slice A N cap] ∧ Blk W (w.heap.size + 1) 50 #[.int .i64 0, .slice none 0 0]) := fun W hW =>
    ⟨((Blk.new w _ _).stay ((Below.refl _ _).alloc (Nat.le_refl _) _)).stay hW, (Blk.new' _ _ _ (w.heap.size + 1) (by simp)).stay hW⟩
  go_enter Try.func66, Try.ntmps66
  go_wp2_with (go_at_call 61; (with_reducible refine (HC.out _ _).mono ?_); rintro e w1 ⟨rfl, hx⟩; obtain ⟨k0, k1⟩ := HK.out _ hx; have HX := Lib.hid (Below.step (HB.out _ _) hx); have K1 := Lib.hid k1; have a0 := k0.cell 0; have a1 := k0.cell 1; have b0 := k1.cell 0; have b1 := k1.cell 1; have f0 := k1.frozen 0; have f1 := k1.frozen 1; clear k0 k1 hx; simp at a0 a1 b0 b1)
  have KA := (K1.out.set 0 (.int .i64 0)).set 1 (.slice none 0 0)
  have hcA := KA.cell 0
  have hcB := KA.cell 1
  simp at hcA hcB
  have hE := hD.out (.returned (.tuple #[chV 0 none 0 0, .int .i64 1])) _ ⟨rfl, Frm.step HX.out (Frm.tr (Frm.of_set (s := fun k => k = w.heap.size + 1) w1 ⟨w.heap.size + 1, 0, none⟩ (.int .i64 0) rfl) (Frm.of_set _ ⟨w.heap.size + 1, 1, none⟩ (.slice none 0 0) rfl)) HX.out.size (by rintro k e; omega)⟩
  exact bodyPost_ret (v := .tuple #[chV 0 none 0 0, .int .i64 1]) (by simp [results, Try.results66, go_sem, hcA, hcB]) rfl hE

end Go.Proofs.Ytdjkopdgapifpaa
