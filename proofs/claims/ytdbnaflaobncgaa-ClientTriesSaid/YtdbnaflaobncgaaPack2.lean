/-
  Walks of package pack, further: texts, yes, all that was put; a writer that is none; a reader of bytes.
-/
import Derived.Test.YtdbnaflaobncgaaPack
import Derived.Lib.AppendStr
namespace Go.Proofs.Ytdbnaflaobncgaa
set_option linter.unusedVariables false
set_option linter.unusedSimpArgs false
open Go.RowKit

section
variable {P : Program} {w : World} {ops : Array Oper} {rest : List Oper} {o : Oper} {a : Act} {Q : Exit → Act → World → Prop}
/-- append of a string's bytes onto a slice of the call's own: what it comes to, and where it lies -/
theorem run_append_str (base : Nat) (t u ty e : TypeId) (ht : P.underlying t = some (.slice e)) (hu : P.underlying u = some .string) (hinfo : (P.info? e).map (fun i => (i.zero, i.size, i.bytes)) = some (some (.int .u8 0), 1, 1))
    (v : Value) (n : Nat) (xs : List Value) (hown : w.ownsRow base e 1 v n xs) (s : ByteArray) (hn : n + s.size ≤ 2000000000000) (hbase : base ≤ w.heap.size) :
    ∃ v' w', (Builtin.append_ #[t, u] ty #[v, .string s]).run P w = .ok v' w' ∧ w'.ownsRow base e 1 v' (n + s.size) (xs ++ s.data.toList.map u8) ∧ w.grownBy w' v.ownBlock ∧
      (v'.ownBlock = v.ownBlock ∨ ∃ k, v'.ownBlock = some k ∧ w.heap.size ≤ k) := by
  obtain ⟨i0, hi, hz0, hz1, hz2⟩ := info_parts hinfo
  have h63 : n + s.size ≤ maxLen := by unfold maxLen; omega
  have h48 : n + s.size ≤ 140737488355328 := by omega
  rcases hown.2 with ⟨rfl, rfl⟩ | ⟨g, cap, cur, rfl, hbg, hg, hnc, hcm, hcs, htake⟩
  · have hx : xs = [] := List.eq_nil_of_length_eq_zero (by simpa using hown.1)
    subst hx
    obtain ⟨v', w', hr, h2, h3, _⟩ := Lib.run_append_own_string (P := P) w w.heap.size t u ty e i0 ht hu hi hz0 hz1 hz2 (.slice none 0 0) 0 [] (World.ownsRow_nil _ _ _ _) s h63 h48 (Nat.le_refl _)
    refine ⟨v', w', hr, own_base h2 (fun k hk => by have := (h2.lt k hk).1; omega), h3, ?_⟩
    cases hk : v'.ownBlock with
    | none => exact .inl rfl
    | some k => exact .inr ⟨k, rfl, (h2.lt k hk).1⟩
  · obtain ⟨v', w', hr, h2, h3, _⟩ := Lib.run_append_own_string (P := P) w base t u ty e i0 ht hu hi hz0 hz1 hz2 (.slice (some ⟨g, 0, none⟩) n cap) n xs hown s h63 h48 hbase
    refine ⟨v', w', hr, h2, h3, ?_⟩
    by_cases hroom : n + s.size ≤ cap
    · have hr2 := Lib.run_append_room_string (P := P) w t u ty e i0 ht hu hi hz1 g n cap cur hg s hroom (by simp at hcs; omega)
      rw [hr] at hr2
      injection hr2 with e1 e2
      exact .inl (by rw [e1]; rfl)
    · have hr2 := Lib.run_append_grow_string (P := P) w t u ty e i0 (.int .u8 0) ht hu hi hz0 ⟨g, 0, none⟩ n cap xs (by rw [hz1]; simpa using hown.1) (hown.cells (g := g) rfl) s (by omega) (by omega) (by rw [hz2]; exact growslice_fits (by omega) (by omega))
      rw [hr] at hr2
      injection hr2 with e1 e2
      exact .inr ⟨w.heap.size, by rw [e1]; rfl, Nat.le_refl _⟩
theorem wpList_append_str (hgd : o.guard = none) (s x : Operand) (t u : TypeId)
    (ho : o.op = .call { callee := .builtin .append, args := #[s, x], argTypes := #[t, u] })
    (base : Nat) (e : TypeId) (ht : P.underlying t = some (.slice e)) (hu : P.underlying u = some .string) (hinfo : (P.info? e).map (fun i => (i.zero, i.size, i.bytes)) = some (some (.int .u8 0), 1, 1))
    (v : Value) (n : Nat) (xs : List Value) (hs : a.eval s = v) (hown : w.ownsRow base e 1 v n xs) (str : ByteArray) (hx : a.eval x = .string str)
    (hn : n + str.size ≤ 2000000000000) (hbase : base ≤ w.heap.size)
    (h : ∀ v' w', w'.ownsRow base e 1 v' (n + str.size) (xs ++ str.data.toList.map u8) → w.grownBy w' v.ownBlock → (v'.ownBlock = v.ownBlock ∨ ∃ k, v'.ownBlock = some k ∧ w.heap.size ≤ k) → wpList P ops Q rest (a.put o.dst v') w') :
    wpList P ops Q (o :: rest) a w := by
  refine wpList_plain hgd fun K hK => ?_
  obtain ⟨v', w', hr, h2, h3, h4⟩ := run_append_str (P := P) base t u o.type e ht hu hinfo v n xs hown str hn hbase
  unfold Oper.wp execOp
  simp only [ho, resolve, invoke, builtin, Sem.run_bind, Sem.run_pure, Result.andThen_ok, List.map_toArray, List.map_cons, List.map_nil, hs, hx, hr]
  exact hK _ _ (h v' w' h2 h3 h4)
end

/-- other bytes are stored -/
theorem WrAt.put {w W : World} {base P : Nat} {l l' : List UInt8} {g : Option Nat} (H : WrAt w base P l g) (hg : w.grownBy W g) {v' : Value} (ho : W.ownsRow base 5 1 v' l'.length (l'.map u8)) (hor : v'.ownBlock = g ∨ ∃ k, v'.ownBlock = some k ∧ w.heap.size ≤ k) :
    (∃ v, Blk W P 84 #[v] ∧ w.cell? ⟨P, 0, none⟩ = some v) ∧ WrTo w (W.setCell ⟨P, 0, none⟩ v') base P l' g := by
  obtain ⟨v, h1, h2, h3⟩ := H
  have hne : some P ≠ g := fun e => own_type h2 h1 (by decide) P (h3.trans e.symm) rfl
  have hB1 := h1.grown hg hne
  refine ⟨⟨v, hB1, h1.cell 0⟩, v'.ownBlock, ⟨v', by have := hB1.set 0 v'; simpa using this, own_frm ho (Frm.of_set (s := fun k => k = P) W ⟨P, 0, none⟩ _ rfl) (own_type ho hB1 (by decide)), rfl⟩, ?_, hor⟩
  exact Frm.tr (Frm.of_grown hg (fun k hk => .inr hk)) (Frm.of_set _ _ _ (.inl rfl))

def textB (s : ByteArray) : List UInt8 := numB s.size ++ s.data.toList
def yesB (b : Bool) : List UInt8 := if b then [1] else [0]

set_option maxRecDepth 8000 in
theorem textW_any (base P : Nat) (l : List UInt8) (g : Option Nat) (s : ByteArray) (w : World) (H : WrAt w base P l g) (hs : s.size ≤ 1000000000) (hl : l.length ≤ 1000000000) (hb : base ≤ w.heap.size) :
    Calls Try.prog 51 #[.pointer (some ⟨P, 0, none⟩), .string s] w fun e w' => e = .returned (.tuple #[]) ∧ WrTo w w' base P (l ++ textB s) g := by
  have HC : Hid (Calls Try.prog 67 #[.pointer (some ⟨P, 0, none⟩), .int .u64 (s.size : Int)] w fun e w' => e = .returned (.tuple #[]) ∧ WrTo w w' base P (l ++ numB s.size) g) := numW_any base P l g s.size w H (by omega) hl hb
  have hnl := numF_len 10 s.size
  have HNL : Hid ((l ++ numB s.size).length ≤ 1000000010) := by (show _ ≤ _); rw [List.length_append]; unfold numB; omega
  have hst : s.data.toList.length = s.size := by rw [Array.length_toList]; rfl
  have HST := Lib.hid hst
  clear H hnl hst
  refine hide_post fun D hD => ?_
  go_enter Try.func51, Try.ntmps51
  go_wp2_with fail
  go_at_call 67
  with_reducible refine HC.out.mono ?_
  rintro e w1 ⟨rfl, hx⟩
  have HX := Lib.hid hx
  clear hx
  obtain ⟨g1, h1, h2, h3⟩ := HX.out
  obtain ⟨A, cap, c0, hsl, ho, hob, hcap, fz, kB⟩ := h1.cells
  obtain ⟨L, hL⟩ : ∃ L, L = l ++ numB s.size := ⟨_, rfl⟩
  rw [← hL] at h1 c0 ho hob HNL
  have HO := Lib.hid ho
  have hbz : base ≤ w1.heap.size := Nat.le_trans hb h2.size
  have hN1 : L.length + s.size ≤ 3000000000 := by have := HNL.out; omega
  have HP : Hid (∀ W v', W.ownsRow base 5 1 v' (L.length + s.size) (L.map u8 ++ s.data.toList.map u8) → w1.grownBy W (Value.slice A L.length cap).ownBlock → (v'.ownBlock = (Value.slice A L.length cap).ownBlock ∨ ∃ k, v'.ownBlock = some k ∧ w1.heap.size ≤ k) →
      Blk W P 84 #[.slice A L.length cap] ∧ WrTo w (W.setCell ⟨P, 0, none⟩ v') base P (l ++ textB s) g) := fun W v' k1 k2 k3 => by
    rw [hob] at k2 k3
    have k4 : W.ownsRow base 5 1 v' (L ++ s.data.toList).length ((L ++ s.data.toList).map u8) := by rw [List.length_append, HST.out, List.map_append]; exact k1
    obtain ⟨⟨v, q1, q2⟩, q3⟩ := h1.put k2 k4 k3
    rw [c0] at q2
    injection q2 with q2
    subst q2
    refine ⟨q1, ?_⟩
    have e : l ++ textB s = L ++ s.data.toList := by rw [hL, textB, List.append_assoc]
    rw [e]
    exact WrTo.trans (by rw [hL] at h1; exact ⟨h1, h2, h3⟩) q3
  clear HX h1 h2 h3 hsl ho hob hcap kB hL HNL
  go_wp2_with (at_builtin; refine wpList_append_str rfl _ _ 54 9 rfl base 5 Try.underlying54 Try.underlying9 info_byte (.slice A L.length cap) L.length (L.map u8) rfl HO.out s rfl (by omega) hbz ?_; intro v' W k1 k2 k3; obtain ⟨A', c', rfl⟩ := own_shape k1; obtain ⟨hB, hT⟩ := HP.out W _ k1 k2 k3; have q0 := hB.cell 0; have q1 := hB.frozen 0; simp at q0; have HT := Lib.hid hT; clear hB hT k1 k2 k3)
  go_end0
  exact hD.out _ _ ⟨rfl, HT.out⟩
end Go.Proofs.Ytdbnaflaobncgaa
