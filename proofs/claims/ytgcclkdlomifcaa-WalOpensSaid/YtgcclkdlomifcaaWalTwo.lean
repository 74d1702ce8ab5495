/-
  Two lists that grow side by side: where records end, and the records; a string's bytes.
-/
import Derived.Test.YtgcclkdlomifcaaOpenRecs
import Derived.Laws.IdiomStrings
namespace Go.Proofs.Ytgcclkdlomifcaa
set_option linter.unusedVariables false
set_option linter.unusedSimpArgs false
open Go.RowKit

theorem run_bytes2 (l : List UInt8) (w : World) (hl : l.length ≤ 1000000000) : ∃ c w', (convert 9 22 (.string (str l))).run Try.prog w = .ok (.slice (some ⟨w.heap.size, 0, none⟩) l.length c) w' ∧ Ext w w' ∧ Sl u8 w' (some ⟨w.heap.size, 0, none⟩) l ∧ l.length ≤ c ∧ c ≤ 9223372036854775807 ∧ ∀ k, k < l.length → w'.frozen? ⟨w.heap.size, k, none⟩ = false := by
  have h := run_bytes_of_string (P := Try.prog) w 9 22 5 (str l) Try.underlying9 Try.underlying22 Try.underlying5
  rw [str_size] at h
  refine ⟨_, _, h, Ext.trans (Ext.drewR (Ext.refl w)) (Ext.alloc w.drew _), ?_, grownCap_ge w _ _ _, ?_, fun k hk => ?_⟩
  · intro j v hj
    refine ⟨w.heap.size, 0, rfl, ?_⟩
    have hjl : j < l.length := (List.getElem?_eq_some_iff.1 hj).1
    rw [Nat.zero_add]
    have e : (w.drew.alloc (.cells (bytesRow (str l) (grownCap w l.length 0 5)) 5 ((bytesRow (str l) (grownCap w l.length 0 5)).size, (bytesRow (str l) (grownCap w l.length 0 5)).size + 1))).cell? ⟨w.heap.size, j, none⟩ = (bytesRow (str l) (grownCap w l.length 0 5))[j]? := World.cell?_alloc_mark w.drew _ _ _ j
    rw [e]
    rw [bytesRow_at (str l) _ j (by simpa [str] using hjl)]
    obtain ⟨_, hv⟩ := List.getElem?_eq_some_iff.1 hj
    subst hv
    rfl
  · have := grownCap_le_maxLen w l.length 0 5 (by unfold maxLen; omega)
    unfold maxLen at this
    exact this
  · have e : (w.drew.alloc (.cells (bytesRow (str l) (grownCap w l.length 0 5)) 5 ((bytesRow (str l) (grownCap w l.length 0 5)).size, (bytesRow (str l) (grownCap w l.length 0 5)).size + 1))).frozen? ⟨w.heap.size, k, none⟩ = _ := World.frozen?_alloc_mark w.drew _ _ _ _ k
    rw [e]
    have hz : l.length ≤ (bytesRow (str l) (grownCap w l.length 0 5)).size := by simp [bytesRow, str]
    rw [decide_eq_false (by omega)]
    rfl

/-- the ends (numbers) and the records (strings) that the call has collected -/
structure Two (w W : World) (j : Nat) (A6 : Option Addr) (c6 : Nat) (es : List Int) (A7 : Option Addr) (c7 : Nat) (xs : List (List UInt8)) : Prop where
  e : W.ownsRow w.heap.size 3 1 (.slice A6 j c6) j (es.map i64)
  a : W.ownsRow w.heap.size 9 1 (.slice A7 j c7) j (xs.map strV)
  x : Ext w W
section
variable {w W W' : World} {j : Nat} {A6 A6' A7 A7' : Option Addr} {c6 c6' c7 c7' : Nat} {es es' : List Int} {xs xs' : List (List UInt8)}
theorem Two.nil (w : World) : Two w w 0 none 0 [] none 0 [] := ⟨World.ownsRow_nil _ _ _ _, World.ownsRow_nil _ _ _ _, Ext.refl _⟩
theorem Two.ext (h : Two w W j A6 c6 es A7 c7 xs) (hx : Ext W W') : Two w W' j A6 c6 es A7 c7 xs := ⟨own_ext h.e hx, own_ext h.a hx, Ext.trans h.x hx⟩
/-- the ends have grown -/
theorem Two.grewE (h : Two w W j A6 c6 es A7 c7 xs) (hg : W.grownBy W' (Value.slice A6 j c6).ownBlock) : W'.ownsRow w.heap.size 9 1 (.slice A7 j c7) j (xs.map strV) ∧ Ext w W' := by
  refine ⟨h.a.kept hg ?_, h.x.grown hg h.x.size (fun k hk => (h.e.lt k hk).1)⟩
  cases hu : (Value.slice A7 j c7).ownBlock with
  | none => exact .inl rfl
  | some k => exact .inr (fun e => own_apart h.a h.e (by decide) k hu e.symm)
theorem Two.grewA {v6 : Value} {n6 : Nat} {ys : List Value} (he : W.ownsRow w.heap.size 3 1 v6 n6 ys) (ha : W.ownsRow w.heap.size 9 1 (.slice A7 j c7) j (xs.map strV)) (hx : Ext w W) (hg : W.grownBy W' (Value.slice A7 j c7).ownBlock) : W'.ownsRow w.heap.size 3 1 v6 n6 ys ∧ Ext w W' := by
  refine ⟨he.kept hg ?_, hx.grown hg hx.size (fun k hk => (ha.lt k hk).1)⟩
  cases hu : v6.ownBlock with
  | none => exact .inl rfl
  | some k => exact .inr (fun e => own_apart he ha (by decide) k hu e.symm)
theorem Two.grewE2 {v7 : Value} {n7 : Nat} {ys zs : List Value} (he : W.ownsRow w.heap.size 3 1 (.slice A6 j c6) j zs) (ha : W.ownsRow w.heap.size 9 1 v7 n7 ys) (hx : Ext w W) (hg : W.grownBy W' (Value.slice A6 j c6).ownBlock) : W'.ownsRow w.heap.size 9 1 v7 n7 ys ∧ Ext w W' := by
  refine ⟨ha.kept hg ?_, hx.grown hg hx.size (fun k hk => (he.lt k hk).1)⟩
  cases hu : v7.ownBlock with
  | none => exact .inl rfl
  | some k => exact .inr (fun e => own_apart ha he (by decide) k hu e.symm)
theorem Two.slE (h : Two w W es.length A6 c6 es A7 c7 xs) : Sl i64 W A6 es := by
  obtain ⟨A9, c9, e, hs⟩ := own_view h.e
  injection e with e1 e2 e3
  subst e1
  exact hs
theorem Two.slA (h : Two w W xs.length A6 c6 es A7 c7 xs) : Sl strV W A7 xs := by
  obtain ⟨A9, c9, e, hs⟩ := own_view h.a
  injection e with e1 e2 e3
  subst e1
  exact hs
end
end Go.Proofs.Ytgcclkdlomifcaa
