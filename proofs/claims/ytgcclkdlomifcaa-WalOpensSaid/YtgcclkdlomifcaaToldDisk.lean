/-
  What the laws of a disk need of each call, told as bytes and a number; a disk that is none; the document's own Crash; the law package's own small questions of package disk: answered yes.
-/
import Derived.Test.YtgcclkdlomifcaaDisk
import Derived.Test.YtgcclkdlomifcaaHeld
import Derived.Lib.SlBytesConst
namespace Go.Proofs.Ytgcclkdlomifcaa
set_option linter.unusedVariables false
set_option linter.unusedSimpArgs false
open Go.RowKit

/-- a disk (block P) that lies behind all that was there in W -/
def Dk (W w : World) (P : Nat) (l : List UInt8) (s : Nat) : Prop := Below W.heap.size W w ∧ W.heap.size ≤ P ∧ s ≤ l.length ∧ ∃ g, DiskAt w W.heap.size P l s g
/-- and a second one -/
def Dk2 (W w : World) (P : Nat) (l : List UInt8) (s : Nat) (P2 : Nat) (l2 : List UInt8) (s2 : Nat) : Prop :=
  Below W.heap.size W w ∧ W.heap.size ≤ P ∧ W.heap.size ≤ P2 ∧ s ≤ l.length ∧ s2 ≤ l2.length ∧ P2 ≠ P ∧ ∃ g g2, DiskAt w W.heap.size P l s g ∧ DiskAt w W.heap.size P2 l2 s2 g2 ∧ ∀ k, g2 = some k → g ≠ some k
/-- blocks that are no disk's stay -/
def Oth (w w' : World) : Prop := ∀ X t cs, Blk w X t cs → t ≠ 127 → t ≠ 5 → Blk w' X t cs

section
variable {W w w' w1 : World} {P P2 s s2 : Nat} {l l2 : List UInt8} {g g2 : Option Nat}
theorem Oth.of_below (h : Below w.heap.size w w') : Oth w w' := fun _ _ _ hB _ _ => hB.stay h
theorem Oth.trans (h : Oth w w1) (h' : Oth w1 w') : Oth w w' := fun _ _ _ hB h1 h2 => h' _ _ _ (h _ _ _ hB h1 h2) h1 h2
theorem DiskAt.base (H : DiskAt w W.heap.size P l s g) : ∀ k, g = some k → W.heap.size ≤ k := by
  obtain ⟨v, _, h2, h3⟩ := H
  exact fun k hk => (h2.lt k (h3.trans hk)).1
theorem DiskAt.far (H : DiskAt w W.heap.size P l s g) {X : Nat} {t : TypeId} {cs : Array Value} (hB : Blk w X t cs) (h1 : t ≠ 127) (h2 : t ≠ 5) : X ≠ P ∧ some X ≠ g := by
  obtain ⟨v, hb, ho, hg⟩ := H
  exact ⟨hB.apart hb h1, fun e => own_type ho hB (fun e => h2 e.symm) X (hg.trans e.symm) rfl⟩
theorem DiskAt.oth (H : DiskAt w W.heap.size P l s g) (hf : Frm (fun k => k = P ∨ some k = g) w w') : Oth w w' := fun X t cs hB h1 h2 =>
  hB.frm hf (fun h => by obtain ⟨q1, q2⟩ := H.far hB h1 h2; rcases h with h | h; exact q1 h; exact q2 h)
theorem DiskAt.other (H : DiskAt w W.heap.size P l s g) (H2 : DiskAt w W.heap.size P2 l2 s2 g2) (hP : P2 ≠ P) (hg : ∀ k, g2 = some k → g ≠ some k) (hf : Frm (fun k => k = P ∨ some k = g) w w') : DiskAt w' W.heap.size P2 l2 s2 g2 := by
  obtain ⟨v, hb, ho, hv⟩ := H
  obtain ⟨v2, hb2, ho2, hv2⟩ := H2
  refine DiskAt.frm ⟨v2, hb2, ho2, hv2⟩ hf ?_ ?_
  · rintro (h | h)
    · exact hP h
    · exact own_type ho hb2 (by decide) P2 (hv.trans h.symm) rfl
  · rintro k hk (h | h)
    · exact own_type ho2 hb (by decide) k (hv2.trans hk) h
    · exact hg k hk h.symm
theorem Dk.fst (H : Dk2 W w P l s P2 l2 s2) : Dk W w P l s := by obtain ⟨h1, h2, h3, h4, h5, h6, g, g2, h7, h8, _⟩ := H; exact ⟨h1, h2, h4, g, h7⟩
theorem Dk.snd (H : Dk2 W w P l s P2 l2 s2) : Dk W w P2 l2 s2 := by obtain ⟨h1, h2, h3, h4, h5, h6, g, g2, h7, h8, _⟩ := H; exact ⟨h1, h3, h5, g2, h8⟩
theorem Dk.stay (H : Dk W w P l s) (hb : Below w.heap.size w w') : Dk W w' P l s := by obtain ⟨h1, h2, h3, g, h4⟩ := H; exact ⟨Below.step h1 hb, h2, h3, g, h4.stay hb⟩
theorem Dk2.stay (H : Dk2 W w P l s P2 l2 s2) (hb : Below w.heap.size w w') : Dk2 W w' P l s P2 l2 s2 := by
  obtain ⟨h1, h2, h3, h4, h5, h6, g, g2, h7, h8, h9⟩ := H; exact ⟨Below.step h1 hb, h2, h3, h4, h5, h6, g, g2, h7.stay hb, h8.stay hb, h9⟩
theorem Dk.step (h1 : Below W.heap.size W w) (h2 : W.heap.size ≤ P) (H : DiskAt w W.heap.size P l s g) (hf : Frm (fun k => k = P ∨ some k = g) w w') : Below W.heap.size W w' :=
  Frm.step h1 hf h1.size (fun k hk => by rcases hk with rfl | hk; exact h2; exact H.base k hk.symm)
theorem frm_one (hf : Frm (fun k => k = P) w w') : Frm (fun k => k = P ∨ some k = g) w w' := hf.mono fun _ h => .inl h

/-! ### What the calls do -/
theorem dk_new (W w : World) (hb : Below W.heap.size W w) : Calls Try.prog 51 #[] w fun e w' => e = .returned (.pointer (some ⟨w.heap.size, 0, none⟩)) ∧ Dk W w' w.heap.size [] 0 ∧ Below w.heap.size w w' :=
  (diskNew_any w).mono fun _ _ ⟨he, h1, h2⟩ => ⟨he, ⟨Below.step hb h1, hb.size, Nat.zero_le _, none, h2 _⟩, h1⟩
theorem dk_append (H : Dk W w P l s) (A : Option Addr) (cap : Nat) (b : List UInt8) (hs : Sl u8 w A b) (hl : l.length + b.length ≤ 1000000000000) :
    Calls Try.prog 77 #[.pointer (some ⟨P, 0, none⟩), .slice A b.length cap] w fun e w' => e = .returned (.tuple #[]) ∧ Dk W w' P (l ++ b) s ∧ Oth w w' := by
  obtain ⟨h1, h2, h3, g, h4⟩ := H
  exact (append_any _ P s l g A cap b w h4 hs hl h1.size).mono fun e w' ⟨he, g', q1, q2, q3⟩ => ⟨he, ⟨Dk.step h1 h2 h4 q2, h2, by simp; omega, g', q1⟩, h4.oth q2⟩
theorem dk_sync (H : Dk W w P l s) (hl : l.length ≤ 1000000000000) :
    Calls Try.prog 53 #[.pointer (some ⟨P, 0, none⟩)] w fun e w' => e = .returned (.tuple #[]) ∧ Dk W w' P l l.length ∧ Oth w w' := by
  obtain ⟨h1, h2, h3, g, h4⟩ := H
  exact (sync_any _ P s l g w h4 hl).mono fun e w' ⟨he, q1, q2⟩ => ⟨he, ⟨Dk.step h1 h2 h4 (frm_one q2), h2, Nat.le_refl _, g, q1⟩, h4.oth (frm_one q2)⟩
theorem dk_cut (H : Dk W w P l s) (n : Nat) (hl : l.length ≤ 1000000000000) (hn : n ≤ l.length) :
    Calls Try.prog 78 #[.pointer (some ⟨P, 0, none⟩), .int .i64 n] w fun e w' => e = .returned (.int .i64 0) ∧ Dk W w' P (l.take n) n ∧ Oth w w' := by
  obtain ⟨h1, h2, h3, g, h4⟩ := H
  exact (cut_yes _ P s l g n w h4 hl hn h1.size).mono fun e w' ⟨he, g', q1, q2, q3⟩ => ⟨he, ⟨Dk.step h1 h2 h4 (frm_one q2), h2, by simp; omega, g', q1⟩, h4.oth (frm_one q2)⟩
theorem dk_cut_no (H : Dk W w P l s) (n : Int) (hl : l.length ≤ 1000000000000) (hn : n < 0 ∨ (l.length : Int) < n) :
    Calls Try.prog 78 #[.pointer (some ⟨P, 0, none⟩), .int .i64 n] w fun e w' => e = .returned (.int .i64 6) ∧ w = w' := by
  obtain ⟨h1, h2, h3, g, h4⟩ := H
  exact cut_bad _ P s l g n w h4 hl hn
theorem dk_crash (H : Dk W w P l s) (keep : Int) (hl : l.length ≤ 1000000000000) :
    Calls Try.prog 54 #[.pointer (some ⟨P, 0, none⟩), .int .i64 keep] w fun e w' => e = .returned (.tuple #[]) ∧ Dk W w' P (l.take (keepN l.length s keep)) (keepN l.length s keep) ∧ Oth w w' := by
  obtain ⟨h1, h2, h3, g, h4⟩ := H
  exact (crash_any _ P s l g keep w h4 hl h3 h1.size).mono fun e w' ⟨he, g', q1, q2, q3⟩ => ⟨he, ⟨Dk.step h1 h2 h4 (frm_one q2), h2, by simp [keepN]; omega, g', q1⟩, h4.oth (frm_one q2)⟩
theorem dk_crash2 (H : Dk2 W w P l s P2 l2 s2) (keep : Int) (hl : l.length ≤ 1000000000000) :
    Calls Try.prog 54 #[.pointer (some ⟨P, 0, none⟩), .int .i64 keep] w fun e w' => e = .returned (.tuple #[]) ∧ Dk2 W w' P (l.take (keepN l.length s keep)) (keepN l.length s keep) P2 l2 s2 ∧ Oth w w' := by
  obtain ⟨h1, h2, h3, h4, h5, h6, g, g2, h7, h8, h9⟩ := H
  refine (crash_any _ P s l g keep w h7 hl h4 h1.size).mono fun e w' ⟨he, g', q1, q2, q3⟩ => ⟨he, ⟨Dk.step h1 h2 h7 (frm_one q2), h2, h3, by simp [keepN]; omega, h5, h6, g', g2, q1, h7.other h8 h6 h9 (frm_one q2), ?_⟩, h7.oth (frm_one q2)⟩
  rintro k rfl e
  rcases q3 with q3 | ⟨k', q3, q4⟩
  · rw [q3] at e; cases e
  · rw [q3] at e
    injection e with e
    obtain ⟨v2, hb2, ho2, hv2⟩ := h8
    have := (ho2.lt k hv2).2
    omega
theorem dk_append2 (H : Dk2 W w P l s P2 l2 s2) (A : Option Addr) (cap : Nat) (b : List UInt8) (hs : Sl u8 w A b) (hl : l.length + b.length ≤ 1000000000000) :
    Calls Try.prog 77 #[.pointer (some ⟨P, 0, none⟩), .slice A b.length cap] w fun e w' => e = .returned (.tuple #[]) ∧ Dk2 W w' P (l ++ b) s P2 l2 s2 ∧ Oth w w' := by
  obtain ⟨h1, h2, h3, h4, h5, h6, g, g2, h7, h8, h9⟩ := H
  refine (append_any _ P s l g A cap b w h7 hs hl h1.size).mono fun e w' ⟨he, g', q1, q2, q3⟩ => ⟨he, ⟨Dk.step h1 h2 h7 q2, h2, h3, by simp; omega, h5, h6, g', g2, q1, h7.other h8 h6 h9 q2, ?_⟩, h7.oth q2⟩
  rintro k rfl e
  rcases q3 with q3 | ⟨k', q3, q4⟩
  · exact h9 k rfl (q3 ▸ e)
  · rw [q3] at e
    injection e with e
    obtain ⟨v2, hb2, ho2, hv2⟩ := h8
    have := (ho2.lt k hv2).2
    omega
theorem dk_len (H : Dk W w P l s) (hl : l.length ≤ 1000000000000) :
    Calls Try.prog 57 #[.pointer (some ⟨P, 0, none⟩)] w fun e w' => e = .returned (.int .i64 l.length) ∧ w = w' := by
  obtain ⟨h1, h2, h3, g, h4⟩ := H
  exact len_any _ P s l g w h4 hl
theorem dk_synced (H : Dk W w P l s) :
    Calls Try.prog 58 #[.pointer (some ⟨P, 0, none⟩)] w fun e w' => e = .returned (.int .i64 s) ∧ w = w' := by
  obtain ⟨h1, h2, h3, g, h4⟩ := H
  exact synced_any _ P s l g w h4
theorem dk_bytes (H : Dk W w P l s) (hl : l.length ≤ 1000000000000) :
    Calls Try.prog 55 #[.pointer (some ⟨P, 0, none⟩)] w fun e w' => e = .returned (.slice (some ⟨w.heap.size, 0, none⟩) l.length l.length) ∧ Below w.heap.size w w' ∧
      Blk w' w.heap.size 5 (l.map u8).toArray ∧ (convert 22 9 (.slice (some ⟨w.heap.size, 0, none⟩) l.length l.length)).run Try.prog w' = .ok (.string (str l)) w' := by
  obtain ⟨h1, h2, h3, g, h4⟩ := H
  refine (dBytes_any _ P s l g w h4 hl).mono fun e w' ⟨he, q1, q2⟩ => ⟨he, q1, q2, ?_⟩
  refine run_str _ _ 5 _ l _ Try.underlying22 Try.underlying5 Try.underlying9 (Sl.of_blk q2 (fun j v hj => ?_))
  simp [hj]
theorem dk_bytes' (H : Dk W w P l s) (hl : l.length ≤ 1000000000000) :
    Calls Try.prog 55 #[.pointer (some ⟨P, 0, none⟩)] w fun e w' => ∃ A, e = .returned (.slice A l.length l.length) ∧ Ext w w' ∧ ∀ W', Ext w' W' → (convert 22 9 (.slice A l.length l.length)).run Try.prog W' = .ok (.string (str l)) W' := by
  refine (dk_bytes H hl).mono fun e w' ⟨he, q1, q2, _⟩ => ⟨_, he, q1, fun W' hW => ?_⟩
  refine run_str _ _ 5 _ l _ Try.underlying22 Try.underlying5 Try.underlying9 (Sl.of_blk (q2.stay hW) (fun j v hj => ?_))
  simp [hj]
end

/-! ### A disk that is none -/
theorem nil_append (b : Value) (w : World) : Calls Try.prog 77 #[.pointer none, b] w fun e w' => e = .returned (.tuple #[]) ∧ w = w' := by
  go_enter Try.func77, Try.ntmps77
  go_wp2
  go_end0
  exact ⟨rfl, rfl⟩
theorem nil_sync (w : World) : Calls Try.prog 53 #[.pointer none] w fun e w' => e = .returned (.tuple #[]) ∧ w = w' := by
  go_enter Try.func53, Try.ntmps53
  go_wp2
  go_end0
  exact ⟨rfl, rfl⟩
theorem nil_crash (n : Int) (w : World) : Calls Try.prog 54 #[.pointer none, .int .i64 n] w fun e w' => e = .returned (.tuple #[]) ∧ w = w' := by
  go_enter Try.func54, Try.ntmps54
  go_wp2
  go_end0
  exact ⟨rfl, rfl⟩
theorem nil_len (w : World) : Calls Try.prog 57 #[.pointer none] w fun e w' => e = .returned (.int .i64 0) ∧ w = w' := by
  go_enter Try.func57, Try.ntmps57
  go_wp2
  go_ret
  exact ⟨rfl, rfl⟩
theorem nil_synced (w : World) : Calls Try.prog 58 #[.pointer none] w fun e w' => e = .returned (.int .i64 0) ∧ w = w' := by
  go_enter Try.func58, Try.ntmps58
  go_wp2
  go_ret
  exact ⟨rfl, rfl⟩
theorem nil_bytes (w : World) : Calls Try.prog 55 #[.pointer none] w fun e w' => e = .returned (.slice none 0 0) ∧ w = w' := by
  go_enter Try.func55, Try.ntmps55
  go_wp2
  go_ret
  exact ⟨rfl, rfl⟩
theorem nil_cut (n : Int) (w : World) : Calls Try.prog 78 #[.pointer none, .int .i64 n] w fun e w' => e = .returned (.int .i64 6) ∧ w = w' := by
  go_enter Try.func78, Try.ntmps78
  go_wp2
  go_ret
  exact ⟨rfl, rfl⟩

/-! ### told -/
theorem kc (w : World) (C : Array Value) (n c : Nat) : (convert 22 22 (.slice (some ⟨w.heap.size, 0, none⟩) n c)).run Try.prog (w.alloc (.cells C 5)) = .ok (.slice (some ⟨w.heap.size, 0, none⟩) n c) (w.alloc (.cells C 5 (C.size, C.size + 1))) :=
  Lib.run_convert_bytes_const (P := Try.prog) w _ _ C n c Try.underlying22 Try.underlying5
theorem sl_const (w : World) (b : List UInt8) (m : Nat × Nat) : Sl u8 (w.alloc (.cells (b.map u8).toArray 5 m)) (some ⟨w.heap.size, 0, none⟩) b := fun j v hj =>
  ⟨_, 0, rfl, by rw [Nat.zero_add, World.cell?_alloc_mark]; simp [hj]⟩
theorem dk_const {W w : World} {P s : Nat} {l : List UInt8} (H : Dk W w P l s) (b : List UInt8) (hl : l.length + b.length ≤ 1000000000000) :
    Calls Try.prog 77 #[.pointer (some ⟨P, 0, none⟩), .slice (some ⟨w.heap.size, 0, none⟩) b.length b.length] (w.alloc (.cells (b.map u8).toArray 5 (b.length, b.length + 1))) fun e w' => e = .returned (.tuple #[]) ∧ Dk W w' P (l ++ b) s ∧ Oth w w' :=
  (dk_append (H.stay ((Below.refl _ _).alloc (Nat.le_refl _) _)) _ _ b (sl_const w b _) hl).mono fun _ _ ⟨he, h1, h2⟩ => ⟨he, h1, (Oth.of_below ((Below.refl _ _).alloc (Nat.le_refl _) _)).trans h2⟩
theorem dk_const2 {W w : World} {P s P2 s2 : Nat} {l l2 : List UInt8} (H : Dk2 W w P l s P2 l2 s2) (b : List UInt8) (hl : l.length + b.length ≤ 1000000000000) :
    Calls Try.prog 77 #[.pointer (some ⟨P, 0, none⟩), .slice (some ⟨w.heap.size, 0, none⟩) b.length b.length] (w.alloc (.cells (b.map u8).toArray 5 (b.length, b.length + 1))) fun e w' => e = .returned (.tuple #[]) ∧ Dk2 W w' P (l ++ b) s P2 l2 s2 ∧ Oth w w' :=
  (dk_append2 (H.stay ((Below.refl _ _).alloc (Nat.le_refl _) _)) _ _ b (sl_const w b _) hl).mono fun _ _ ⟨he, h1, h2⟩ => ⟨he, h1, (Oth.of_below ((Below.refl _ _).alloc (Nat.le_refl _) _)).trans h2⟩

end Go.Proofs.Ytgcclkdlomifcaa
