/-
  A request's bytes, the document's; whether a request writes, both.
-/
import Derived.Test.YtnionfddejaalaaItemPut
import Derived.Test.YtnionfddejaalaaRefNum
import Derived.Test.YtnionfddejaalaaHeld
import Derived.Laws.Concat
namespace Go.Proofs.Ytnionfddejaalaa
set_option linter.unusedVariables false
set_option linter.unusedSimpArgs false
open Go.RowKit Go.ChangeShapes Go.WideShapes

theorem str_app (a b : List UInt8) : str (a ++ b) = str a ++ str b := by
  apply ByteArray.ext
  rw [ByteArray.data_append]
  simp [str]

set_option maxHeartbeats 4000000 in
theorem writes_any (c s k i m : Int) (d : ByteArray) (w : World) :
    Calls Try.prog 55 #[.agg #[.int .i64 c, .int .i64 s, .int .i64 k, .int .i64 i, .int .i64 m, .string d]] w fun e w' => e = .returned (.bool (decide (k = 1 ∨ k = 2 ∨ k = 3))) ∧ Ext w w' := by
  by_cases h1 : k = 1
  · subst h1
    go_enter Try.func55, Try.ntmps55
    go_wp2
    go_ret
    exact ⟨by simp, Ext.alloc _ _⟩
  by_cases h2 : k = 2
  · subst h2
    go_enter Try.func55, Try.ntmps55
    go_wp2
    go_ret
    exact ⟨by simp, Ext.alloc _ _⟩
  by_cases h3 : k = 3
  · subst h3
    go_enter Try.func55, Try.ntmps55
    go_wp2
    go_ret
    exact ⟨by simp, Ext.alloc _ _⟩
  go_enter Try.func55, Try.ntmps55
  go_wp2
  go_ret
  exact ⟨ret_bool (by simp [h1, h2, h3]), Ext.alloc _ _⟩

set_option maxHeartbeats 4000000 in
theorem refWrites_any (c s k i m : Int) (d : ByteArray) (w : World) :
    Calls Try.prog 44 #[.agg #[.int .i64 c, .int .i64 s, .int .i64 k, .int .i64 i, .int .i64 m, .string d]] w fun e w' => e = .returned (.bool (decide (k = 1 ∨ k = 2 ∨ k = 3))) ∧ Ext w w' := by
  by_cases h1 : k = 1
  · subst h1
    go_enter Try.func44, Try.ntmps44
    go_wp2
    go_ret
    exact ⟨by simp, Ext.alloc _ _⟩
  by_cases h2 : k = 2
  · subst h2
    go_enter Try.func44, Try.ntmps44
    go_wp2
    go_ret
    exact ⟨by simp, Ext.alloc _ _⟩
  by_cases h3 : k = 3
  · subst h3
    go_enter Try.func44, Try.ntmps44
    go_wp2
    go_ret
    exact ⟨by simp, Ext.alloc _ _⟩
  go_enter Try.func44, Try.ntmps44
  go_wp2
  go_ret
  exact ⟨ret_bool (by simp [h1, h2, h3]), Ext.alloc _ _⟩

end Go.Proofs.Ytnionfddejaalaa
