/-
  Walks of package disk: what each call does to a disk, told as its bytes and how many of them are synced.
-/
import Derived.Test.YtgcclkdlomifcaaFrm
import Derived.StillTailTactics
import Derived.Deep.RegionHeld3
namespace Go.Proofs.Ytgcclkdlomifcaa
set_option linter.unusedVariables false
set_option linter.unusedSimpArgs false
set_option maxRecDepth 20000
open Go.RowKit

/-- slices.Clone of bytes: a slice of the call's own -/
theorem clone_any (A : Option Addr) (cap : Nat) (l : List UInt8) (w : World) (hl : l.length ≤ 1000000000000) (hs : Sl u8 w A l) :
    Calls Try.prog 61 #[.slice A l.length cap] w fun e w' => ∃ v, e = .returned v ∧ w'.ownsRow w.heap.size 5 1 v l.length (l.map u8) ∧ Below w.heap.size w w' := by
  refine hide_post fun D hD => ?_
  rcases A with _ | ad
  · have hl0 : l = [] := by
      cases l with
      | nil => rfl
      | cons x r => obtain ⟨b, o, e, _⟩ := hs 0 x rfl; cases e
    subst hl0
    have hq : ∀ w, (binOp .eql 22 (.slice none 0 cap) (.slice none 0 0)).run Try.prog w = .ok (.bool true) w := fun w => Lib.run_eql_slice_nil (P := Try.prog) w 22 5 none 0 cap 0 0 Try.underlying22
    clear hs
    go_enter Try.func61, Try.ntmps61
    go_wp2
    try go_ret
    exact hD.out _ _ ⟨.slice none 0 0, rfl, World.ownsRow_nil _ _ _ _, Below.refl _ _⟩
  · have hq : ∀ w, (binOp .eql 22 (.slice (some ad) l.length cap) (.slice none 0 0)).run Try.prog w = .ok (.bool false) w := fun w => Lib.run_eql_slice_nil (P := Try.prog) w 22 5 (some ad) l.length cap 0 0 Try.underlying22
    have HS : Hid (∀ W, Below w.heap.size w W → Sl u8 W (some ad) l) := fun W h => hs.stay h
    have hm := Lib.hid (World.ownsRow_made (base := w.heap.size) (e := 5) (size := 1) w #[] 0 (Nat.le_refl _) (Nat.zero_le _) rfl)
    have hD' : Hid (∀ v w', w'.ownsRow w.heap.size 5 1 v (0 + l.length) ([] ++ l.map u8) → (w.alloc (.cells #[] 5)).grownBy w' (some w.heap.size) → D (.returned v) w') := fun v w' h1 h2 =>
      hD.out _ _ ⟨v, rfl, by simpa using h1, (((Below.refl _ _).alloc (Nat.le_refl _) _).grown h2 (by simp) (fun k hk => by injection hk with hk; omega))⟩
    obtain ⟨n, hn⟩ : ∃ n, n = l.length := ⟨_, rfl⟩
    have HN := Lib.hid hn
    rw [← hn] at hq ⊢
    have hl' := hl
    rw [← hn] at hl'
    clear hs hn hD
    go_enter Try.func61, Try.ntmps61
    go_wp2_with (at_builtin; refine wpList_append_list rfl _ _ 22 rfl w.heap.size 5 (.int .u8 0) 1 Try.underlying22 info_byte rfl (by omega) (.slice (some ⟨w.heap.size, 0, none⟩) 0 0) 0 [] rfl hm.out u8 (some ad) l n cap HN.out rfl (HS.out _ ((Below.refl _ _).alloc (Nat.le_refl _) _)) (fun _ => rfl) (by omega) (by simp) ?_; intro v' w' h1 h2 h3; have H1 := Lib.hid h1; have H2 := Lib.hid h2; clear h1 h2 h3)
    try go_ret
    exact hD'.out _ _ H1.out H2.out

/-- a disk at block P: its bytes (in block g, if anywhere), how many are synced -/
def DiskAt (w : World) (base P : Nat) (l : List UInt8) (s : Nat) (g : Option Nat) : Prop :=
  ∃ v, Blk w P 127 #[v, .int .i64 s] ∧ w.ownsRow base 5 1 v l.length (l.map u8) ∧ v.ownBlock = g

section
variable {w w' : World} {base P s : Nat} {l : List UInt8} {g : Option Nat}
theorem DiskAt.stay (H : DiskAt w base P l s g) (hb : Below w.heap.size w w') : DiskAt w' base P l s g := by
  obtain ⟨v, h1, h2, h3⟩ := H
  exact ⟨v, h1.stay hb, own_frm h2 (Frm.of_below hb (fun _ => False)) (fun _ _ h => h), h3⟩
theorem DiskAt.frm {t : Nat → Prop} (H : DiskAt w base P l s g) (hf : Frm t w w') (h1 : ¬ t P) (h2 : ∀ k, g = some k → ¬ t k) : DiskAt w' base P l s g := by
  obtain ⟨v, h3, h4, h5⟩ := H
  exact ⟨v, h3.frm hf h1, own_frm h4 hf (fun k hk => h2 k (h5.symm.trans hk)), h5⟩
theorem DiskAt.lt (H : DiskAt w base P l s g) : P < w.heap.size := by obtain ⟨v, h1, _⟩ := H; exact h1.lt
/-- its cells, as the walk reads them -/
theorem DiskAt.cells (H : DiskAt w base P l s g) : ∃ A cap, w.cell? ⟨P, 0, none⟩ = some (.slice A l.length cap) ∧ w.cell? ⟨P, 1, none⟩ = some (.int .i64 s) ∧ Sl u8 w A l ∧ w.ownsRow base 5 1 (.slice A l.length cap) l.length (l.map u8) ∧
    Value.ownBlock (.slice A l.length cap) = g ∧ l.length ≤ cap ∧ w.frozen? ⟨P, 0, none⟩ = false ∧ w.frozen? ⟨P, 1, none⟩ = false := by
  obtain ⟨v, h1, h2, h3⟩ := H
  obtain ⟨A, cap, rfl, hs⟩ := own_view h2
  refine ⟨A, cap, h1.cell 0, h1.cell 1, hs, h2, h3, ?_, h1.frozen 0, h1.frozen 1⟩
  rcases h2.2 with ⟨e, hn⟩ | ⟨g', cap', cur, e, _, _, hc, _⟩
  · omega
  · injection e with _ _ e; omega
/-- other bytes are stored -/
theorem DiskAt.put {b : List UInt8} {v' : Value} (H : DiskAt w base P l s g) (ho : w.ownsRow base 5 1 v' b.length (b.map u8)) :
    DiskAt (w.setCell ⟨P, 0, none⟩ v') base P b s v'.ownBlock ∧ Frm (fun k => k = P) w (w.setCell ⟨P, 0, none⟩ v') := by
  obtain ⟨v, h1, h2, h3⟩ := H
  exact ⟨⟨v', by have := h1.set 0 v'; simpa using this, own_frm ho (Frm.of_set (s := fun k => k = P) w ⟨P, 0, none⟩ _ rfl) (own_type ho h1 (by decide)), rfl⟩, Frm.of_set w _ _ rfl⟩
end

theorem diskNew_any (w : World) : Calls Try.prog 51 #[] w fun e w' => e = .returned (.pointer (some ⟨w.heap.size, 0, none⟩)) ∧ Below w.heap.size w w' ∧ ∀ base, DiskAt w' base w.heap.size [] 0 none := by
  go_enter Try.func51, Try.ntmps51
  go_wp2
  go_ret
  exact ⟨rfl, (Below.refl _ _).alloc (Nat.le_refl _) _, fun base => ⟨.slice none 0 0, Blk.new _ _ _, World.ownsRow_nil _ _ _ _, rfl⟩⟩

theorem len_any (base P s : Nat) (l : List UInt8) (g : Option Nat) (w : World) (H : DiskAt w base P l s g) (hl : l.length ≤ 1000000000000) :
    Calls Try.prog 57 #[.pointer (some ⟨P, 0, none⟩)] w fun e w' => e = .returned (.int .i64 l.length) ∧ w = w' := by
  obtain ⟨A, cap, c0, c1, _⟩ := H.cells
  generalize l.length = n at *
  go_enter Try.func57, Try.ntmps57
  go_wp2
  go_ret
  exact ⟨rfl, rfl⟩

theorem synced_any (base P s : Nat) (l : List UInt8) (g : Option Nat) (w : World) (H : DiskAt w base P l s g) :
    Calls Try.prog 58 #[.pointer (some ⟨P, 0, none⟩)] w fun e w' => e = .returned (.int .i64 s) ∧ w = w' := by
  obtain ⟨A, cap, c0, c1, _⟩ := H.cells
  go_enter Try.func58, Try.ntmps58
  go_wp2
  go_ret
  exact ⟨rfl, rfl⟩

theorem append_any (base P s : Nat) (l : List UInt8) (g : Option Nat) (A : Option Addr) (cap : Nat) (b : List UInt8) (w : World) (H : DiskAt w base P l s g) (hs : Sl u8 w A b) (hl : l.length + b.length ≤ 1000000000000) (hb : base ≤ w.heap.size) :
    Calls Try.prog 77 #[.pointer (some ⟨P, 0, none⟩), .slice A b.length cap] w fun e w' => e = .returned (.tuple #[]) ∧
      ∃ g', DiskAt w' base P (l ++ b) s g' ∧ Frm (fun k => k = P ∨ some k = g) w w' ∧ (g' = g ∨ ∃ k, g' = some k ∧ w.heap.size ≤ k) := by
  refine hide_post fun D hD => ?_
  obtain ⟨B, cp, c0, c1, _, h7, h8, hcp, f0, f1⟩ := H.cells
  have HS := Lib.hid hs
  have HO := Lib.hid h7
  have hP : Hid (∀ v' w', w'.ownsRow base 5 1 v' (l.length + b.length) (l.map u8 ++ b.map u8) → w.grownBy w' g → (v'.ownBlock = g ∨ ∃ k, v'.ownBlock = some k ∧ w.heap.size ≤ k) →
      (w'.cell? ⟨P, 0, none⟩ = some (.slice B l.length cp) ∧ w'.frozen? ⟨P, 0, none⟩ = false) ∧ D (.returned (.tuple #[])) (w'.setCell ⟨P, 0, none⟩ v')) := fun v' w' k1 k2 k3 => by
    obtain ⟨v, h1, h2, h3⟩ := H
    have hlt := h1.lt
    have hne : some P ≠ g := fun e => own_type h2 h1 (by decide) P (h3.trans e.symm) rfl
    have hB := h1.grown k2 hne
    have hv : v = .slice B l.length cp := by
      have := h1.cell 0
      rw [c0] at this
      injection this with this
      exact this.symm
    refine ⟨⟨by rw [hB.cell 0, hv]; rfl, hB.frozen 0⟩, hD.out _ _ ⟨rfl, v'.ownBlock, ⟨v', by have := hB.set 0 v'; simpa using this, ?_, rfl⟩, ?_, k3⟩⟩
    · have k1' : w'.ownsRow base 5 1 v' (l ++ b).length ((l ++ b).map u8) := by simpa using k1
      exact own_frm k1' (Frm.of_set (s := fun k => k = P) w' ⟨P, 0, none⟩ _ rfl) (own_type k1' hB (by decide))
    · exact (Frm.of_grown k2 (fun k hk => .inr hk)).trans (Frm.of_set (s := fun k => k = P) w' ⟨P, 0, none⟩ _ rfl) (fun k _ h => .inl h)
  clear H h7 hs hD c1 f1
  generalize hn : l.length = n at *
  generalize hm : b.length = m at *
  have HM := Lib.hid hm.symm
  have H8 := Lib.hid h8
  clear hn hm h8
  go_enter Try.func77, Try.ntmps77
  go_wp2_with (at_builtin; refine wpList_append_list rfl _ _ 22 rfl base 5 (.int .u8 0) 1 Try.underlying22 info_byte rfl (by omega) (.slice B n cp) n (l.map u8) rfl HO.out u8 A b m cap HM.out rfl HS.out (fun _ => rfl) (by rw [← HM.out]; omega) hb ?_; intro v' w' h1 h2 h3; rw [H8.out] at h2 h3; rw [← HM.out] at h1; obtain ⟨A', cap', rfl⟩ := own_shape h1; obtain ⟨⟨e1, e2⟩, e3⟩ := hP.out _ _ h1 h2 h3; have E3 := Lib.hid e3; clear h1 h2 h3 e3)
  go_end0
  exact E3.out

theorem sync_any (base P s : Nat) (l : List UInt8) (g : Option Nat) (w : World) (H : DiskAt w base P l s g) (hl : l.length ≤ 1000000000000) :
    Calls Try.prog 53 #[.pointer (some ⟨P, 0, none⟩)] w fun e w' => e = .returned (.tuple #[]) ∧ DiskAt w' base P l l.length g ∧ Frm (fun k => k = P) w w' := by
  obtain ⟨A, cap, c0, c1, _, h7, h8, _, f0, f1⟩ := H.cells
  refine hide_post fun D hD => ?_
  have hP : Hid (∀ W, W = w.setCell ⟨P, 1, none⟩ (.int .i64 l.length) → D (.returned (.tuple #[])) W) := by
    rintro W rfl
    obtain ⟨v, h1, h2, h3⟩ := H
    exact hD.out _ _ ⟨rfl, ⟨v, h1.set 1 _, own_frm h2 (Frm.of_set (s := fun k => k = P) w ⟨P, 1, none⟩ _ rfl) (own_type h2 h1 (by decide)), h3⟩, Frm.of_set w _ _ rfl⟩
  clear h7 h8 H hD
  generalize l.length = n at *
  go_enter Try.func53, Try.ntmps53
  go_wp2
  go_end0
  exact hP.out _ rfl

theorem cut_bad (base P s : Nat) (l : List UInt8) (g : Option Nat) (n : Int) (w : World) (H : DiskAt w base P l s g) (hl : l.length ≤ 1000000000000) (hn : n < 0 ∨ (l.length : Int) < n) :
    Calls Try.prog 78 #[.pointer (some ⟨P, 0, none⟩), .int .i64 n] w fun e w' => e = .returned (.int .i64 6) ∧ w = w' := by
  obtain ⟨A, cap, c0, c1, _⟩ := H.cells
  generalize l.length = m at *
  by_cases h : n < 0
  · go_enter Try.func78, Try.ntmps78
    go_wp2
    go_ret
    exact ⟨rfl, rfl⟩
  · have h2 : (m : Int) < n := by omega
    clear hn
    go_enter Try.func78, Try.ntmps78
    go_wp2
    go_ret
    exact ⟨rfl, rfl⟩

theorem cut_yes (base P s : Nat) (l : List UInt8) (g : Option Nat) (n : Nat) (w : World) (H : DiskAt w base P l s g) (hl : l.length ≤ 1000000000000) (hn : n ≤ l.length) (hb : base ≤ w.heap.size) :
    Calls Try.prog 78 #[.pointer (some ⟨P, 0, none⟩), .int .i64 n] w fun e w' => e = .returned (.int .i64 0) ∧
      ∃ g', DiskAt w' base P (l.take n) n g' ∧ Frm (fun k => k = P) w w' ∧ (g' = none ∨ ∃ k, g' = some k ∧ w.heap.size ≤ k) := by
  refine hide_post fun D hD => ?_
  obtain ⟨A, cap, c0, c1, hs, _, _, hcap, f0, f1⟩ := H.cells
  have hlt := H.lt
  have hst : Hid (Sl u8 w A (l.take n)) := fun j v hj => by
    rw [List.getElem?_take] at hj
    split at hj
    · exact hs j v hj
    · cases hj
  have HC := Lib.hid (clone_any A cap (l.take n) w (by rw [List.length_take]; omega) hst.out)
  have hlen : (l.take n).length = n := by rw [List.length_take]; omega
  rw [hlen] at HC
  have HP : Hid (∀ v' w1, w1.ownsRow w.heap.size 5 1 v' n ((l.take n).map u8) → Below w.heap.size w w1 → (w1.cell? ⟨P, 0, none⟩ = some (.slice A l.length cap) ∧ w1.frozen? ⟨P, 0, none⟩ = false) ∧
      Calls Try.prog 53 #[.pointer (some ⟨P, 0, none⟩)] (w1.setCell ⟨P, 0, none⟩ v') fun e w' => e = .returned (.tuple #[]) ∧ D (.returned (.int .i64 0)) w') := fun v' w1 k1 k2 => by
    refine ⟨⟨cell_stay k2 c0, by rw [k2.frozen (p := ⟨P, 0, none⟩) hlt]; exact f0⟩, ?_⟩
    have ho : w1.ownsRow base 5 1 v' (l.take n).length ((l.take n).map u8) := by
      rw [hlen]
      exact own_base k1 (fun k hk => Nat.le_trans hb (k1.lt k hk).1)
    obtain ⟨q1, q2⟩ := (H.stay k2).put ho
    refine (sync_any base P s (l.take n) _ _ q1 (by rw [hlen]; omega)).mono fun e w' ⟨he, q3, q4⟩ => ⟨he, hD.out _ _ ⟨rfl, _, by rw [hlen] at q3; exact q3, ?_, ?_⟩⟩
    · exact ((Frm.of_below k2 (fun k => k = P)).trans q2 (fun _ _ h => h)).trans q4 (fun _ _ h => h)
    · cases hv : v'.ownBlock with
      | none => exact .inl rfl
      | some k => exact .inr ⟨k, rfl, (k1.lt k hv).1⟩
  clear hs hst H hD c1 f1 f0 hlt hlen
  generalize l.length = m at *
  go_enter Try.func78, Try.ntmps78
  go_wp2_with (first
    | (go_at_call 61; refine HC.out.mono ?_; rintro e w1 ⟨v, rfl, k1, k2⟩; obtain ⟨A', cap', rfl⟩ := own_shape k1; obtain ⟨⟨e1, e2⟩, e3⟩ := HP.out _ _ k1 k2; have E3 := Lib.hid e3; clear k1 k2 e3)
    | (go_at_call 53; refine E3.out.mono ?_; rintro e w3 ⟨rfl, hd⟩; have HD3 := Lib.hid hd; clear hd))
  try go_ret
  exact HD3.out

/-- what a crash leaves: so many bytes -/
def keepN (n s : Nat) (keep : Int) : Nat := s + (min (max keep 0) ((n : Int) - s)).toNat

theorem crash_any (base P s : Nat) (l : List UInt8) (g : Option Nat) (keep : Int) (w : World) (H : DiskAt w base P l s g) (hl : l.length ≤ 1000000000000) (hs : s ≤ l.length) (hb : base ≤ w.heap.size) :
    Calls Try.prog 54 #[.pointer (some ⟨P, 0, none⟩), .int .i64 keep] w fun e w' => e = .returned (.tuple #[]) ∧
      ∃ g', DiskAt w' base P (l.take (keepN l.length s keep)) (keepN l.length s keep) g' ∧ Frm (fun k => k = P) w w' ∧ (g' = none ∨ ∃ k, g' = some k ∧ w.heap.size ≤ k) := by
  have hk : keepN l.length s keep ≤ l.length := by unfold keepN; omega
  have HC : Hid (∀ W, W = w.drew → Calls Try.prog 78 #[.pointer (some ⟨P, 0, none⟩), .int .i64 (keepN l.length s keep : Nat)] W fun e w' => e = .returned (.int .i64 0) ∧
      ∃ g', DiskAt w' base P (l.take (keepN l.length s keep)) (keepN l.length s keep) g' ∧ Frm (fun k => k = P) w w' ∧ (g' = none ∨ ∃ k, g' = some k ∧ w.heap.size ≤ k)) := by
    rintro W rfl
    exact (cut_yes base P s l g _ w.drew H hl hk hb).mono fun _ _ ⟨he, g', h1, h2, h3⟩ => ⟨he, g', h1, h2.of_drew, h3⟩
  obtain ⟨A, cap, c0, c1, _, _, _, _, f0, f1⟩ := H.cells
  clear H hk
  generalize hq : keepN l.length s keep = q at *
  generalize l.length = m at *
  refine hide_post fun D hD => ?_
  have HQ : Hid ((s : Int) + min (max keep 0) ((m : Int) - s) = (q : Int)) := by show _ = _; unfold keepN at hq; omega
  clear hq
  go_enter Try.func54, Try.ntmps54
  have hE : Hid (IntKind.i64.wrap ((s : Int) + if IntKind.i64.wrap ((m : Int) - s) < if keep < 0 then 0 else keep then IntKind.i64.wrap ((m : Int) - s) else if keep < 0 then 0 else keep) = (q : Int)) := by
    have hq := HQ.out
    show _ = _
    rw [IntWalk.i64_in ((m : Int) - s) (by omega)]
    have : ((s : Int) + if (m : Int) - s < if keep < 0 then 0 else keep then (m : Int) - s else if keep < 0 then 0 else keep) = q := by
      (repeat' split) <;> omega
    rw [this]
    exact IntWalk.i64_in _ (by omega)
  go_wp2_with fail
  go_still_tail 19, (by kernel_rfl)
  rw [hE.out]
  change wpList _ _ _ _ _ w.drew
  clear hE HQ c0 c1 f0 f1
  go_wp2_with (go_at_call 78; refine (HC.out _ rfl).mono ?_; rintro e w1 ⟨rfl, h1⟩; have H1 := Lib.hid h1; clear h1)
  all_goals try go_end0
  all_goals exact hD.out _ _ ⟨rfl, H1.out⟩

theorem dBytes_any (base P s : Nat) (l : List UInt8) (g : Option Nat) (w : World) (H : DiskAt w base P l s g) (hl : l.length ≤ 1000000000000) :
    Calls Try.prog 55 #[.pointer (some ⟨P, 0, none⟩)] w fun e w' => e = .returned (.slice (some ⟨w.heap.size, 0, none⟩) l.length l.length) ∧ Below w.heap.size w w' ∧ Blk w' w.heap.size 5 (l.map u8).toArray := by
  refine hide_post fun D hD => ?_
  obtain ⟨A, cap, c0, c1, hs, _, _, _, f0, f1⟩ := H.cells
  have HS : Hid (∀ W, Below w.heap.size w W → Sl u8 W A l) := fun W h => hs.stay h
  have hmk := run_make_row' (P := Try.prog) 22 5 (.int .u8 0) 1 Try.underlying22 info_byte rfl .i64 .i64 l.length (by omega) (by omega)
  have HM : Hid (Below w.heap.size w (w.alloc (.cells (madeCells #[.int .u8 0] l.length) 5)) ∧ Blk (w.alloc (.cells (madeCells #[.int .u8 0] l.length) 5)) w.heap.size 5 (madeCells #[.int .u8 0] l.length).toList.toArray) :=
    ⟨(Below.refl _ _).alloc (Nat.le_refl _) _, by simpa using Blk.new w _ _⟩
  have c0' := cell_stay HM.out.1 c0
  have hlen : (madeCells #[.int .u8 0] l.length).toList.length = l.length := by simp [madeCells]
  obtain ⟨w2, hrun, hB2, hg2⟩ := run_copy_all (P := Try.prog) u8 22 22 3 5 Try.underlying22 size_byte (fun _ => rfl) w.heap.size 5 _ l A l.length cap HM.out.2 (by simpa using hlen) (HS.out _ HM.out.1)
  have HE : Hid (D (.returned (.slice (some ⟨w.heap.size, 0, none⟩) l.length l.length)) w2) := hD.out _ _ ⟨rfl, below_grown HM.out.1 hg2 (by simp) (Nat.le_refl _), hB2⟩
  clear hs H f0 f1 c1 hB2 hg2 HM HS hlen hD
  generalize l.length = n at *
  go_enter Try.func55, Try.ntmps55
  go_wp2
  try go_ret
  exact HE.out

end Go.Proofs.Ytgcclkdlomifcaa
