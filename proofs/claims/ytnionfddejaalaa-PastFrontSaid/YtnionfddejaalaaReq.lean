/-
  Walks of package req: which requests and replies are alike, their keys, which are newer.
-/
import Derived.Test.YtnionfddejaalaaMayReq
import Derived.Test.YtnionfddejaalaaAlike
import Derived.Laws.StructEq
namespace Go.Proofs.Ytnionfddejaalaa
set_option linter.unusedVariables false
set_option linter.unusedSimpArgs false
open Go.RowKit

/-- a request as a value -/
abbrev reqV (c s k i m : Int) (d : ByteArray) : Value := .agg #[.int .i64 c, .int .i64 s, .int .i64 k, .int .i64 i, .int .i64 m, .string d]
/-- a reply as a value -/
abbrev repV (c v : Int) (d : ByteArray) (A : Option Addr) (n cap : Nat) : Value := .agg #[.int .i64 c, .int .i64 v, .string d, .slice A n cap]

theorem newer_any (c s k i m : Int) (d : ByteArray) (n : Int) (w : World) (hd : d.size ≤ maxLen) :
    Calls Try.prog 36 #[reqV c s k i m d, .int .i64 n] w fun e w' => e = .returned (.bool (mayReqB c s k i m d.size && decide (n < s))) ∧ Below w.heap.size w w' := by
  have HM : Hid (∀ W, Calls Try.prog 35 #[.agg #[.int .i64 c, .int .i64 s, .int .i64 k, .int .i64 i, .int .i64 m, .string d]] W fun e w' => e = .returned (.bool (mayReqB c s k i m d.size)) ∧ Below W.heap.size W w') := fun W => mayReq_any c s k i m d W hd
  have HB : Hid (∀ o, Below w.heap.size w (w.alloc o)) := fun o => (Below.refl _ _).alloc (Nat.le_refl _) _
  clear hd
  generalize mayReqB c s k i m d.size = b at *
  refine hide_post fun D hD => ?_
  have HC : Hid (∀ (o : Obj) (w' : World), Below (w.alloc o).heap.size (w.alloc o) w' → w'.cell? ⟨w.heap.size, 1, none⟩ = (w.alloc o).cell? ⟨w.heap.size, 1, none⟩) := fun o w' h => h.cell (p := ⟨w.heap.size, 1, none⟩) (by simp)
  cases b
  all_goals
    go_enter Try.func36, Try.ntmps36
    go_wp2_with (go_at_call 35; (with_reducible refine (HM.out _).mono ?_); rintro e w' ⟨rfl, h⟩; have hc3 := HC.out _ w' h; (rw [World.cell?_alloc_mark] at hc3); have H := Lib.hid h; clear h)
    try go_ret
    exact hD.out _ _ ⟨ret_bool (by simp), Below.step (HB.out _) H.out⟩

end Go.Proofs.Ytnionfddejaalaa
