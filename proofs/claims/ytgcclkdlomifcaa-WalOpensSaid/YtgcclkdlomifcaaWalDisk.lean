/-
  Records on a disk: put, opened.
-/
import Derived.Test.YtgcclkdlomifcaaWalTwo
import Derived.Test.YtgcclkdlomifcaaToldDisk
namespace Go.Proofs.Ytgcclkdlomifcaa
set_option linter.unusedVariables false
set_option linter.unusedSimpArgs false
open Go.RowKit

theorem endOf_len (l : List UInt8) : endOf (framesB l) ≤ l.length := by
  unfold endOf
  cases h : (framesB l).getLast? with
  | none => simp
  | some x =>
    have key : ∀ (f k : Nat) (l : List UInt8) (x : Nat × List UInt8), x ∈ walkGo f k l → x.1 ≤ k + l.length := by
      intro f
      induction f with
      | zero => intro k l x h; simp [walkGo] at h
      | succ f ih =>
        intro k l x h
        rw [walkGo] at h
        split at h
        · simp at h
        · rename_i y hy
          have hs := stepB_some hy
          rcases List.mem_cons.1 h with rfl | h
          · simp only; omega
          · have := ih _ _ _ h
            rw [List.length_drop] at this
            omega
    have := key _ _ _ x (List.mem_of_getLast? h)
    simp only
    omega
theorem own_oth {w w' : World} {base n : Nat} {e : TypeId} {v : Value} {xs : List Value} (h : w.ownsRow base e 1 v n xs) (ho : Oth w w') (h1 : e ≠ 127) (h2 : e ≠ 5) : w'.ownsRow base e 1 v n xs := by
  refine ⟨h.1, ?_⟩
  rcases h.2 with hn | ⟨g, cap, cur, rfl, hb, hgg, r⟩
  · exact .inl hn
  · exact .inr ⟨g, cap, cur, rfl, hb, ho g e cur hgg h1 h2, r⟩

section
variable {W w : World} {P s : Nat} {l : List UInt8}
theorem putD_yes (H : Dk W w P l s) (A : Option Addr) (cap : Nat) (b : List UInt8) (hs : Sl u8 w A b) (h1 : 1 ≤ b.length) (h2 : b.length ≤ 4096) (hl : l.length ≤ 1000000) :
    Calls Try.prog 52 #[.pointer (some ⟨P, 0, none⟩), .slice A b.length cap] w fun e w' => e = .returned (.int .i64 0) ∧ Dk W w' P (l ++ frameB b) s ∧ Oth w w' := by
  refine hide_post fun D hD => ?_
  have CF := Lib.hid (frame_yes A cap b w hs h1 h2)
  have HA : Hid (∀ V A' c', Ext w V → V.ownsRow w.heap.size 5 1 (.slice A' (b.length + 6) c') (b.length + 6) ((frameB b).map u8) → Calls Try.prog 77 #[.pointer (some ⟨P, 0, none⟩), .slice A' (b.length + 6) c'] V fun e w' => e = .returned (.tuple #[]) ∧ Dk W w' P (l ++ frameB b) s ∧ Oth w w') := fun V A' c' hV ho => by
    have hs9 : Sl u8 V A' (frameB b) := by
      obtain ⟨A9, c9, e, hs⟩ := own_view (l := frameB b) (by rw [frameB_len]; exact ho)
      injection e with e1 e2 e3
      subst e1
      exact hs
    have := dk_append (H.stay hV) A' c' (frameB b) hs9 (by rw [frameB_len]; omega)
    rw [frameB_len] at this
    exact this.mono fun e w' ⟨h1, h2, h3⟩ => ⟨h1, h2, (Oth.of_below hV).trans h3⟩
  clear hs H
  generalize b.length = n at *
  go_enter Try.func52, Try.ntmps52
  go_wp2_with (first
    | (go_at_call 15; (with_reducible refine CF.out.mono ?_); rintro e w1 ⟨A', c', rfl, ho, hx⟩; have HA1 := Lib.hid (HA.out w1 A' c' hx ho); clear ho hx)
    | (go_at_call 77; (with_reducible refine HA1.out.mono ?_); rintro e w2 ⟨rfl, hk, ho⟩; have HK := Lib.hid (And.intro hk ho); clear hk ho))
  try go_ret
  exact hD.out _ _ ⟨rfl, HK.out⟩
theorem putD_nil (w : World) (P : Nat) :
    Calls Try.prog 52 #[.pointer (some ⟨P, 0, none⟩), .slice none 0 0] w fun e w' => e = .returned (.int .i64 1) ∧ w = w' := by
  have CF : Hid (Calls Try.prog 15 #[.slice none 0 0] w fun e w' => e = .returned (.tuple #[.slice none 0 0, .int .i64 1]) ∧ w = w') := frame_no none 0 0 w (by omega) (.inl (by omega))
  go_enter Try.func52, Try.ntmps52
  go_wp2_with (go_at_call 15; (with_reducible refine CF.out.mono ?_); rintro e w1 ⟨rfl, rfl⟩)
  try go_ret
  exact ⟨rfl, rfl⟩
theorem openD_any (H : Dk W w P l s) (hl : l.length ≤ 1000000) :
    Calls Try.prog 56 #[.pointer (some ⟨P, 0, none⟩)] w fun e w' => ∃ A' c', e = .returned (.slice A' (readB l).length c') ∧ Sls w' A' (readB l) ∧ (readB l).length ≤ c' ∧ Dk W w' P (l.take (endOf (framesB l))) (endOf (framesB l)) ∧ Oth w w' ∧ Frm (fun k => k = P) w w' := by
  refine hide_post fun D hD => ?_
  have CB := Lib.hid (dk_bytes H (by omega))
  have HLT : Hid (P < w.heap.size) := by obtain ⟨_, _, _, g, h4⟩ := H; exact h4.lt
  have CR : Hid (∀ V, Ext w V → Blk V w.heap.size 5 (l.map u8).toArray → Calls Try.prog 17 #[.slice (some ⟨w.heap.size, 0, none⟩) l.length l.length] V fun e w' => ∃ A' c', e = .returned (.tuple #[.slice A' (readB l).length c', .int .i64 (endOf (framesB l))]) ∧ SlsB w' V.heap.size A' (readB l) ∧ (readB l).length ≤ c' ∧ Ext V w') := fun V hV hb =>
    read_any0 _ l.length l V hl (Nat.le_refl _) (by omega) (Sl.of_blk hb (fun j v hj => by simp [hj]))
  have CC : Hid (∀ V, Ext w V → Calls Try.prog 78 #[.pointer (some ⟨P, 0, none⟩), .int .i64 (endOf (framesB l) : Nat)] V fun e w' => e = .returned (.int .i64 0) ∧ Dk W w' P (l.take (endOf (framesB l))) (endOf (framesB l)) ∧ Frm (fun k => k = P) V w' ∧ Oth V w') := fun V hV => by
    obtain ⟨h1, h2, h3, g, h4⟩ := H.stay hV
    exact (cut_yes _ P s l g (endOf (framesB l)) V h4 (by omega) (endOf_len l) h1.size).mono fun e w' ⟨he, g', q1, q2, q3⟩ => ⟨he, ⟨Dk.step h1 h2 h4 (frm_one q2), h2, by rw [List.length_take]; have := endOf_len l; omega, g', q1⟩, q2, h4.oth (frm_one q2)⟩
  clear H
  have HEL := Lib.hid (endOf_len l)
  generalize hrb : (readB l).length = rl at *
  have HRB := Lib.hid hrb
  clear hrb
  generalize endOf (framesB l) = ef at *
  generalize hll : l.length = n at *
  have HLL := Lib.hid hll
  clear hll
  have hef : ef ≤ 1000000 := Nat.le_trans HEL.out hl
  go_enter Try.func56, Try.ntmps56
  go_wp2_with (first
    | (go_at_call 55; (with_reducible refine CB.out.mono ?_); rintro e w1 ⟨rfl, hx, hb, _⟩; have HX1 : Hid (Ext w w1) := hx; have CR1 := Lib.hid (CR.out w1 hx hb); clear hx hb)
    | (go_at_call 17; (with_reducible refine CR1.out.mono ?_); rintro e w2 ⟨A', c', rfl, hs, hc, hx⟩; have HS2 := Lib.hid (And.intro hs hc); have HX2 : Hid (Ext w w2) := Ext.trans HX1.out hx; have CC2 := Lib.hid (CC.out w2 HX2.out); clear hs hc hx)
    | (go_at_call 78; (with_reducible refine CC2.out.mono ?_); rintro e w3 ⟨rfl, hk, hf, ho⟩; have HK := Lib.hid (And.intro hk (And.intro hf ho)); clear hk hf ho))
  try go_ret
  exact hD.out _ _ ⟨A', c', rfl, (HS2.out.1.frm HK.out.2.1 (fun k hk => by rw [hk]; exact Nat.lt_of_lt_of_le HLT.out HX1.out.size)).sls, HS2.out.2, HK.out.1, (Oth.of_below HX2.out).trans HK.out.2.2, Frm.tr (Frm.of_below HX2.out _) HK.out.2.1⟩
/-- strings stay where just the disk's own block turns -/
theorem Dk.strs {w' : World} {A : Option Addr} {xs : List (List UInt8)} (H : Dk W w P l s) (hs : Sl strV w A xs) (hf : Frm (fun k => k = P) w w') : Sl strV w' A xs := fun j v hj => by
  obtain ⟨b, o, e, hc⟩ := hs j v hj
  refine ⟨b, o, e, (World.cell?_of_block (hf.block b (World.block_lt_of_cell? w _ hc) ?_)).trans hc⟩
  intro hb
  subst hb
  obtain ⟨_, _, _, g, v0, hB, ho0, _⟩ := H
  obtain ⟨A0, c0, rfl⟩ := own_shape ho0
  rw [hB.cell] at hc
  match o + j, hc with
  | 0, hc => simp [strV] at hc
  | 1, hc => simp [strV] at hc
  | n + 2, hc => simp at hc
theorem Dk.grown {w' : World} {v : Value} {n : Nat} {xs : List Value} (H : Dk W w P l s) (hg : w.grownBy w' v.ownBlock) (ho : w.ownsRow W.heap.size 9 1 v n xs) : Dk W w' P l s := by
  obtain ⟨h1, h2, h3, g, v0, hb, ho0, hv⟩ := H
  refine ⟨h1.grown hg h1.size (fun k hk => (ho.lt k hk).1), h2, h3, g, v0, hb.grown hg (fun e => own_type ho hb (by decide) P e.symm rfl), ho0.kept hg ?_, hv⟩
  cases hu : v0.ownBlock with
  | none => exact .inl rfl
  | some k => exact .inr (fun e => own_apart ho0 ho (by decide) k hu e.symm)
theorem Dk.ext (H : Dk W w P l s) : Ext W w := H.1
end
end Go.Proofs.Ytgcclkdlomifcaa
