/-
  Walks of package pack, further: all that was put; a writer that is none; a reader: made, failed.
-/
import Derived.Test.YtdbnaflaobncgaaPack2
namespace Go.Proofs.Ytdbnaflaobncgaa
set_option linter.unusedVariables false
set_option linter.unusedSimpArgs false
open Go.RowKit

theorem numW_nil (v : Int) (w : World) : Calls Try.prog 67 #[.pointer none, .int .u64 v] w fun e w' => e = .returned (.tuple #[]) ∧ w = w' := by
  go_enter Try.func67, Try.ntmps67
  go_wp2
  refine bodyPost_ret (results_none rfl _ _ _) rfl ?_
  exact ⟨rfl, rfl⟩
theorem textW_nil (s : ByteArray) (w : World) : Calls Try.prog 51 #[.pointer none, .string s] w fun e w' => e = .returned (.tuple #[]) ∧ w = w' := by
  go_enter Try.func51, Try.ntmps51
  go_wp2
  go_end0
  exact ⟨rfl, rfl⟩
theorem bytes_nil (w : World) : Calls Try.prog 52 #[.pointer none] w fun e w' => e = .returned (.slice none 0 0) ∧ w = w' := by
  go_enter Try.func52, Try.ntmps52
  go_wp2
  go_ret
  exact ⟨rfl, rfl⟩

set_option maxRecDepth 8000 in
theorem bytes_any (base P : Nat) (l : List UInt8) (g : Option Nat) (w : World) (H : WrAt w base P l g) (hl : l.length ≤ 1000000000) :
    Calls Try.prog 52 #[.pointer (some ⟨P, 0, none⟩)] w fun e w' => ∃ A cap, e = .returned (.slice A l.length cap) ∧ w'.ownsRow w.heap.size 5 1 (.slice A l.length cap) l.length (l.map u8) ∧ Ext w w' := by
  refine hide_post fun D hD => ?_
  obtain ⟨A, cap, c0, hs, ho, hob, hcap, fz, kB⟩ := H.cells
  have c1 : ∀ o, (w.alloc o).cell? ⟨P, 0, none⟩ = some (.slice A l.length cap) := fun o => (kB.alloc o).cell 0
  have hm := Lib.hid (World.ownsRow_made (base := w.heap.size) (e := 5) (size := 1) w #[] 0 (Nat.le_refl _) (Nat.zero_le _) rfl)
  have HS : Hid (Sl u8 (w.alloc (.cells #[] 5)) A l) := hs.stay (Ext.alloc _ _)
  have hD' : Hid (∀ v w', w'.ownsRow w.heap.size 5 1 v (0 + l.length) ([] ++ l.map u8) → (w.alloc (.cells #[] 5)).grownBy w' (some w.heap.size) → D (.returned v) w') := fun v w' h1 h2 => by
    obtain ⟨A', c', rfl⟩ := own_shape h1
    have h1' : w'.ownsRow w.heap.size 5 1 (.slice A' (0 + l.length) c') l.length (l.map u8) := by simpa using h1
    rw [Nat.zero_add] at h1' ⊢
    exact hD.out _ _ ⟨A', c', rfl, h1', ((Below.refl _ _).alloc (Nat.le_refl _) _).grown h2 (by simp) (fun k hk => by injection hk with hk; omega)⟩
  clear hs ho hob hcap kB H hD c0 fz
  go_enter Try.func52, Try.ntmps52
  go_wp2_with (at_builtin; refine wpList_append_list rfl _ _ 54 rfl w.heap.size 5 (.int .u8 0) 1 Try.underlying54 info_byte rfl (by omega) (.slice (some ⟨w.heap.size, 0, none⟩) 0 0) 0 [] rfl hm.out u8 A l l.length cap rfl rfl HS.out (fun _ => rfl) (by omega) (by simp) ?_; intro v' w' h1 h2 h3; have H1 := Lib.hid h1; have H2 := Lib.hid h2; clear h1 h2 h3)
  try go_ret
  exact hD'.out _ _ H1.out H2.out

/-- a reader at block P: what it has still to take, and whether it is wrong -/
def RdAt (w : World) (P : Nat) (l : List UInt8) (bad : Bool) : Prop :=
  ∃ A cap, Blk w P 103 #[.slice A l.length cap, .bool bad] ∧ Sl u8 w A l ∧ l.length ≤ cap ∧ ∀ a, A = some a → ∃ b o, a = ⟨b, o, none⟩ ∧ b ≠ P
section
variable {w w' : World} {P : Nat} {l : List UInt8} {b : Bool}
theorem RdAt.stay (H : RdAt w P l b) (hx : Below w.heap.size w w') : RdAt w' P l b := by
  obtain ⟨A, cap, h1, h2, h3, h4⟩ := H
  exact ⟨A, cap, h1.stay hx, h2.stay hx, h3, h4⟩
theorem RdAt.lt (H : RdAt w P l b) : P < w.heap.size := by obtain ⟨A, cap, h1, _⟩ := H; exact h1.lt
theorem Sl.frm' {α : Type} {f : α → Value} {s : Nat → Prop} {A : Option Addr} {l : List α} (h : Sl f w A l) (hf : Frm s w w') (hg : ∀ a, A = some a → ¬ s a.block) : Sl f w' A l := by
  rcases A with _ | a
  · intro j v hj
    obtain ⟨b, o, e, _⟩ := h j v hj
    cases e
  · exact Sl.frm h hf (hg a rfl)
end

set_option maxRecDepth 8000 in
theorem new_any (A : Option Addr) (cap : Nat) (l : List UInt8) (w : World) (hs : Sl u8 w A l) (hl : l.length ≤ 1000000000) :
    Calls Try.prog 56 #[.slice A l.length cap] w fun e w' => ∃ P, e = .returned (.pointer (some ⟨P, 0, none⟩)) ∧ RdAt w' P l false ∧ Ext w w' ∧ w.heap.size ≤ P := by
  refine hide_post fun D hD => ?_
  have hm := Lib.hid (World.ownsRow_made (base := w.heap.size) (e := 5) (size := 1) w #[] 0 (Nat.le_refl _) (Nat.zero_le _) rfl)
  have HS : Hid (Sl u8 (w.alloc (.cells #[] 5)) A l) := hs.stay (Ext.alloc _ _)
  have hD' : Hid (∀ A' c' w', w'.ownsRow w.heap.size 5 1 (.slice A' l.length c') l.length (l.map u8) → (w.alloc (.cells #[] 5)).grownBy w' (some w.heap.size) → D (.returned (.pointer (some ⟨w'.heap.size, 0, none⟩))) (w'.alloc (.cells #[.slice A' l.length c', .bool false] 103))) := fun A' c' w' h1 h2 => by
    have hx : Ext w w' := ((Below.refl _ _).alloc (Nat.le_refl _) _).grown h2 (by simp) (fun k hk => by injection hk with hk; omega)
    have hsl : Sl u8 w' A' l := by
      obtain ⟨A2, c2, e, h⟩ := own_view h1
      injection e with e1 e2 e3
      subst e1
      exact h
    have hc : l.length ≤ c' := by
      rcases h1.2 with ⟨e, hn⟩ | ⟨g, c, cur, e, _, _, k1, _⟩
      · injection e with e1 e2 e3; omega
      · injection e with e1 e2 e3; omega
    exact hD.out _ _ ⟨w'.heap.size, rfl, ⟨A', c', Blk.new _ _ _, hsl.stay (Ext.alloc _ _), hc, fun a ha => by
      subst ha
      have h5 := (h1.lt a.block rfl).2
      rcases h1.2 with ⟨e, hn⟩ | ⟨g, c, cur, e, _⟩
      · cases e
      · injection e with e1 e2 e3
        injection e1 with e1
        subst e1
        exact ⟨g, 0, rfl, by simp at h5; omega⟩⟩, Ext.trans hx (Ext.alloc _ _), hx.size⟩
  clear hs hD
  go_enter Try.func56, Try.ntmps56
  go_wp2_with (at_builtin; refine wpList_append_list rfl _ _ 54 rfl w.heap.size 5 (.int .u8 0) 1 Try.underlying54 info_byte rfl (by omega) (.slice (some ⟨w.heap.size, 0, none⟩) 0 0) 0 [] rfl hm.out u8 A l l.length cap rfl rfl HS.out (fun _ => rfl) (by omega) (by simp) ?_; intro v' w' h1 h2 h3; rw [Nat.zero_add, List.nil_append] at h1; obtain ⟨A', c', rfl⟩ := own_shape h1; have H1 := Lib.hid h1; have H2 := Lib.hid h2; clear h1 h2 h3)
  try go_ret
  exact hD'.out _ _ _ H1.out H2.out

theorem fail_any (P : Nat) (l : List UInt8) (b : Bool) (w : World) (H : RdAt w P l b) :
    Calls Try.prog 72 #[.pointer (some ⟨P, 0, none⟩)] w fun e w' => e = .returned (.int .u64 0) ∧ RdAt w' P l true ∧ Frm (fun k => k = P) w w' := by
  refine hide_post fun D hD => ?_
  obtain ⟨A, cap, h1, h2, h3, h4⟩ := H
  have c1 := h1.cell 1
  have f1 := h1.frozen 1
  simp at c1
  have hE : Hid (D (.returned (.int .u64 0)) (w.setCell ⟨P, 1, none⟩ (.bool true))) := by
    have hF : Frm (fun k => k = P) w (w.setCell ⟨P, 1, none⟩ (.bool true)) := Frm.of_set _ _ _ rfl
    exact hD.out _ _ ⟨rfl, ⟨A, cap, by have := h1.set 1 (.bool true); simpa using this, h2.frm' hF (fun a ha => by obtain ⟨b, o, rfl, hb⟩ := h4 a ha; exact hb), h3, h4⟩, hF⟩
  clear h1 h2 hD
  go_enter Try.func72, Try.ntmps72
  go_wp2
  try go_ret
  exact hE.out
theorem fail_nil (w : World) : Calls Try.prog 72 #[.pointer none] w fun e w' => e = .returned (.int .u64 0) ∧ w = w' := by
  go_enter Try.func72, Try.ntmps72
  go_wp2
  go_ret
  exact ⟨rfl, rfl⟩
end Go.Proofs.Ytdbnaflaobncgaa
