/-
  Walks of package tally: what each call does to a count.
-/
import Derived.Test.YtkdcbidbciognaaSet
import Derived.Test.YtkdcbidbciognaaBalCmp
import Derived.Test.YtkdcbidbciognaaChain
namespace Go.Proofs.Ytkdcbidbciognaa
set_option linter.unusedVariables false
set_option linter.unusedSimpArgs false
open Go.RowKit

/-- how many are a majority -/
def mostI (n : Int) : Int := if n < 1 then 0 else n / 2 + 1

theorem most_any (n : Int) (w : World) (h0 : -1000000 ≤ n) (h1 : n ≤ 1000000) : Calls Try.prog 15 #[.int .i64 n] w fun e w' => e = .returned (.int .i64 (mostI n)) ∧ w = w' := by
  generalize hr : mostI n = r
  have HR := Lib.hid hr
  clear hr
  unfold mostI at HR
  by_cases h : n < 1
  · have HE : Hid (0 = r) := by show _ = _; rw [← HR.out, if_pos h]
    go_enter Try.func15, Try.ntmps15
    go_wp2
    go_ret
    exact ⟨ret_int HE.out, rfl⟩
  · have HE : Hid (n / 2 + 1 = r) := by show _ = _; rw [← HR.out, if_neg h]
    have h2 : 0 ≤ n := by omega
    go_enter Try.func15, Try.ntmps15
    go_wp2
    go_ret
    exact ⟨ret_int HE.out, rfl⟩

/-- a count at block P: its numbers, and the blocks of its slices -/
structure TV where
  n : Int
  br : Int
  bn : Int
  ep : Int
  cl : List Int
  pl : List Int
  sl : List Int
  has : Bool
  xr : Int
  xn : Int
  xep : Int
  xl : List Int

/-- the cells of a count, its slices being these -/
abbrev tcells (v : TV) (c p s x : Value) : Array Value := #[.int .i64 v.n, .int .i64 v.br, .int .i64 v.bn, .int .i64 v.ep, c, p, s, .bool v.has, .int .i64 v.xr, .int .i64 v.xn, .int .i64 v.xep, x]

/-- a count at block P that shares nothing that is written with the blocks of K -/
def TAt (w : World) (base P : Nat) (K : Nat → Prop) (v : TV) : Prop :=
  base ≤ P ∧ ∃ c p s x, Blk w P 89 (tcells v c p s x) ∧ w.ownsRow base 3 1 c v.cl.length (v.cl.map i64) ∧ w.ownsRow base 3 1 p v.pl.length (v.pl.map i64) ∧ w.ownsRow base 3 1 s v.sl.length (v.sl.map i64) ∧ w.ownsRow base 3 1 x v.xl.length (v.xl.map i64) ∧
    (∀ k, p.ownBlock = some k → c.ownBlock ≠ some k ∧ s.ownBlock ≠ some k ∧ x.ownBlock ≠ some k) ∧ (∀ k, s.ownBlock = some k → c.ownBlock ≠ some k ∧ x.ownBlock ≠ some k) ∧
    (∀ k, K k → k < w.heap.size ∧ k ≠ P ∧ p.ownBlock ≠ some k ∧ s.ownBlock ≠ some k ∧ c.ownBlock ≠ some k ∧ x.ownBlock ≠ some k)
/-- the blocks of K are as they were -/
def Keep (K : Nat → Prop) (w w' : World) : Prop := ∀ k, K k → w'.heap[k]? = w.heap[k]?
section
variable {w w' w1 : World} {base P : Nat} {v : TV} {K : Nat → Prop}
theorem Keep.trans (h : Keep K w w1) (h' : Keep K w1 w') : Keep K w w' := fun k hk => (h' k hk).trans (h k hk)
theorem Blk.keep {g : Nat} {t : TypeId} {cs : Array Value} (h : Blk w g t cs) (hk : Keep K w w') (hg : K g) : Blk w' g t cs := (hk g hg).trans h
theorem Sl.keepK {α : Type} {f : α → Value} {a : Addr} {l : List α} (h : Sl f w (some a) l) (hk : Keep K w w') (hg : K a.block) : Sl f w' (some a) l := fun j v hj => by
  obtain ⟨b, o, e, hc⟩ := h j v hj
  injection e with e
  subst e
  exact ⟨b, o, rfl, (World.cell?_of_block (hk b hg)).trans hc⟩
theorem TAt.stay (H : TAt w base P K v) (h : Below w.heap.size w w') : TAt w' base P K v := by
  obtain ⟨hP, c, p, s, x, h1, h2, h3, h4, h5, h6, h7, h8⟩ := H
  exact ⟨hP, c, p, s, x, h1.stay h, own_frm h2 (Frm.of_below h (fun _ => False)) (fun _ _ h => h), own_frm h3 (Frm.of_below h (fun _ => False)) (fun _ _ h => h), own_frm h4 (Frm.of_below h (fun _ => False)) (fun _ _ h => h), own_frm h5 (Frm.of_below h (fun _ => False)) (fun _ _ h => h), h6, h7,
    fun k hk => ⟨Nat.lt_of_lt_of_le (h8 k hk).1 h.size, (h8 k hk).2⟩⟩
/-- what was made since shares nothing with it -/
theorem TAt.more (H : TAt w base P K v) (h : Below w.heap.size w w') : TAt w' base P (fun k => K k ∨ (w.heap.size ≤ k ∧ k < w'.heap.size)) v := by
  obtain ⟨hP, c, p, s, x, h1, h2, h3, h4, h5, h6, h7, h8⟩ := H
  refine ⟨hP, c, p, s, x, h1.stay h, own_frm h2 (Frm.of_below h (fun _ => False)) (fun _ _ h => h), own_frm h3 (Frm.of_below h (fun _ => False)) (fun _ _ h => h), own_frm h4 (Frm.of_below h (fun _ => False)) (fun _ _ h => h), own_frm h5 (Frm.of_below h (fun _ => False)) (fun _ _ h => h), h6, h7, fun k hk => ?_⟩
  rcases hk with hk | ⟨k1, k2⟩
  · exact ⟨Nat.lt_of_lt_of_le (h8 k hk).1 h.size, (h8 k hk).2⟩
  · refine ⟨k2, ?_, ?_, ?_, ?_, ?_⟩
    · have := h1.lt; omega
    · intro e; have := (h3.lt k e).2; omega
    · intro e; have := (h4.lt k e).2; omega
    · intro e; have := (h2.lt k e).2; omega
    · intro e; have := (h5.lt k e).2; omega
theorem TAt.weak {K' : Nat → Prop} (H : TAt w base P K v) (h : ∀ k, K' k → K k) : TAt w base P K' v := by
  obtain ⟨hP, c, p, s, x, h1, h2, h3, h4, h5, h6, h7, h8⟩ := H
  exact ⟨hP, c, p, s, x, h1, h2, h3, h4, h5, h6, h7, fun k hk => h8 k (h k hk)⟩
theorem TAt.lt (H : TAt w base P K v) : P < w.heap.size := by obtain ⟨_, c, p, s, x, h1, _⟩ := H; exact h1.lt
theorem below_drewN (w : World) (n : Nat) : Below w.heap.size w (w.drewN n) := by
  have := Below.refl w.heap.size w
  exact ⟨this.os, this.tape, this.output, this.size, this.block⟩
end

set_option maxHeartbeats 2000000 in
theorem ready_any (base P : Nat) (K : Nat → Prop) (v : TV) (w : World) (H : TAt w base P K v) (hn : 0 ≤ v.n ∧ v.n ≤ 5) :
    Calls Try.prog 21 #[.pointer (some ⟨P, 0, none⟩)] w fun e w' => e = .returned (.bool (decide (mostI v.n ≤ v.pl.length))) ∧ Below w.heap.size w w' := by
  obtain ⟨hP, c, p, s, x, h1, h2, h3, h4, h5, h6, h7, h8⟩ := H
  obtain ⟨A, cap, rfl, _⟩ := own_view h3
  obtain ⟨n, br, bn, ep, cl, pl, sl, has, xr, xn, xep, xl⟩ := v
  have c0 : w.cell? ⟨P, 0, none⟩ = some (.int .i64 n) := h1.cell 0
  have c5 : w.cell? ⟨P, 5, none⟩ = some (.slice A pl.length cap) := h1.cell 5
  have HM : Hid (∀ W, Calls Try.prog 15 #[.int .i64 n] W fun e w' => e = .returned (.int .i64 (mostI n)) ∧ W = w') := fun W => most_any n W (by have := hn.1; simp at this; omega) (by have := hn.2; simp at this; omega)
  simp only
  clear h1 h2 h3 h4 h5 h6 h7 h8 hn
  generalize pl.length = m at *
  generalize mostI n = q at *
  go_enter Try.func21, Try.ntmps21
  go_wp2_with fail
  go_quiet ((go_at_call 15; exact Calls.quiet_of_same ((HM.out _).mono fun _ _ ⟨he, hw⟩ => ⟨he, hw.symm⟩)))
  go_wp2
  go_ret
  exact ⟨rfl, below_drewN w _⟩

set_option maxHeartbeats 2000000 in
theorem done_any (base P : Nat) (K : Nat → Prop) (v : TV) (w : World) (H : TAt w base P K v) (hn : 0 ≤ v.n ∧ v.n ≤ 5) :
    Calls Try.prog 22 #[.pointer (some ⟨P, 0, none⟩)] w fun e w' => e = .returned (.bool (decide (mostI v.n ≤ v.sl.length))) ∧ Below w.heap.size w w' := by
  obtain ⟨hP, c, p, s, x, h1, h2, h3, h4, h5, h6, h7, h8⟩ := H
  obtain ⟨A, cap, rfl, _⟩ := own_view h4
  obtain ⟨n, br, bn, ep, cl, pl, sl, has, xr, xn, xep, xl⟩ := v
  have c0 : w.cell? ⟨P, 0, none⟩ = some (.int .i64 n) := h1.cell 0
  have c5 : w.cell? ⟨P, 6, none⟩ = some (.slice A sl.length cap) := h1.cell 6
  have HM : Hid (∀ W, Calls Try.prog 15 #[.int .i64 n] W fun e w' => e = .returned (.int .i64 (mostI n)) ∧ W = w') := fun W => most_any n W (by have := hn.1; simp at this; omega) (by have := hn.2; simp at this; omega)
  simp only
  clear h1 h2 h3 h4 h5 h6 h7 h8 hn
  generalize sl.length = m at *
  generalize mostI n = q at *
  go_enter Try.func22, Try.ntmps22
  go_wp2_with fail
  go_quiet ((go_at_call 15; exact Calls.quiet_of_same ((HM.out _).mono fun _ _ ⟨he, hw⟩ => ⟨he, hw.symm⟩)))
  go_wp2
  go_ret
  exact ⟨rfl, below_drewN w _⟩

end Go.Proofs.Ytkdcbidbciognaa
