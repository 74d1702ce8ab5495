/-
  Walks of the document's reader: wrong, End, Num.
-/
import Derived.Test.YtdbnaflaobncgaaCanon
import Derived.Test.YtdbnaflaobncgaaRefNum
namespace Go.Proofs.Ytdbnaflaobncgaa
set_option linter.unusedVariables false
set_option linter.unusedSimpArgs false
open Go.RowKit

/-- the document's reader at block Q -/
def RfAt (w : World) (Q : Nat) (l : List UInt8) (bad : Bool) : Prop := Blk w Q 96 #[.string (str l), .bool bad]
theorem refWrong_any (Q : Nat) (l : List UInt8) (bad : Bool) (w : World) (H : RfAt w Q l bad) :
    Calls Try.prog 70 #[.pointer (some ⟨Q, 0, none⟩)] w fun e w' => e = .returned (.tuple #[]) ∧ RfAt w' Q [] true ∧ Frm (fun k => k = Q) w w' := by
  have c0 := H.cell 0
  have c1 := H.cell 1
  have f0 := H.frozen 0
  have f1 := H.frozen 1
  simp at c0 c1
  have HE : RfAt ((w.setCell ⟨Q, 1, none⟩ (.bool true)).setCell ⟨Q, 0, none⟩ (.string ⟨#[]⟩)) Q [] true ∧ Frm (fun k => k = Q) w ((w.setCell ⟨Q, 1, none⟩ (.bool true)).setCell ⟨Q, 0, none⟩ (.string ⟨#[]⟩)) :=
    ⟨by have := (Blk.set H 1 (.bool true)).set 0 (.string ⟨#[]⟩); simpa [RfAt, str] using this, Frm.tr (Frm.of_set _ _ _ rfl) (Frm.of_set _ _ _ rfl)⟩
  have HE := Lib.hid HE
  clear H
  go_enter Try.func70, Try.ntmps70
  go_wp2
  go_end0
  exact ⟨rfl, HE.out⟩
theorem refEnd_any (Q : Nat) (l : List UInt8) (bad : Bool) (w : World) (H : RfAt w Q l bad) (hl : l.length ≤ 1000000000) :
    Calls Try.prog 61 #[.pointer (some ⟨Q, 0, none⟩)] w fun e w' => e = .returned (.int .i64 (endN l bad)) ∧ w = w' := by
  have c0 := H.cell 0
  have c1 := H.cell 1
  simp at c0 c1
  have hz := str_size l
  unfold endN
  clear H
  generalize str l = s at *
  generalize l.length = n at *
  subst hz
  cases bad
  · by_cases hn : s.size = 0
    · rw [if_neg (by decide), if_pos hn]
      go_enter Try.func61, Try.ntmps61
      go_wp2
      try go_ret
      exact ⟨rfl, rfl⟩
    · have hp : (0 : Int) < (s.size : Int) := by omega
      rw [if_neg (by decide), if_neg hn]
      go_enter Try.func61, Try.ntmps61
      go_wp2
      try go_ret
      exact ⟨rfl, rfl⟩
  · rw [if_pos rfl]
    go_enter Try.func61, Try.ntmps61
    go_wp2
    try go_ret
    exact ⟨rfl, rfl⟩
end Go.Proofs.Ytdbnaflaobncgaa
