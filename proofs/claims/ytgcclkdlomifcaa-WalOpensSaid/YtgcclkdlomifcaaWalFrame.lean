/-
  Frames of records: what they are; the walks that make them.
-/
import Derived.Test.YtgcclkdlomifcaaRefCrc
import Derived.Test.YtgcclkdlomifcaaFrm
import Derived.Laws.OwnMore
namespace Go.Proofs.Ytgcclkdlomifcaa
set_option linter.unusedVariables false
set_option linter.unusedSimpArgs false
open Go.RowKit

/-- the six bytes ahead of a record -/
def headB (n c : Nat) : List UInt8 := [UInt8.ofNat (n / 256), UInt8.ofNat n, UInt8.ofNat (c / 16777216), UInt8.ofNat (c / 65536), UInt8.ofNat (c / 256), UInt8.ofNat c]
def frameB (r : List UInt8) : List UInt8 := headB r.length (crcN r) ++ r
theorem frameB_len (r : List UInt8) : (frameB r).length = r.length + 6 := by simp [frameB, headB]
theorem crcN_lt (l : List UInt8) : crcN l < 4294967296 := by
  have : ∀ (l : List UInt8) (c : Nat), c < 4294967296 → rcGo c l < 4294967296 := by
    intro l
    induction l with
    | nil => intro c h; exact h
    | cons x r ih => intro c h; exact ih _ (stepsN_lt 8 _ (xor32_lt _ _ h (by have := x.toNat_lt; omega)))
  unfold crcN
  rw [rc_eq]
  exact xor32_lt _ _ (by decide) (this l _ (by decide))

theorem frame_no (A : Option Addr) (cap n : Nat) (w : World) (hl : n ≤ 9223372036854775807) (h : n < 1 ∨ 4096 < n) :
    Calls Try.prog 15 #[.slice A n cap] w fun e w' => e = .returned (.tuple #[.slice none 0 0, .int .i64 1]) ∧ w = w' := by
  rcases h with h | h
  · obtain rfl : n = 0 := by omega
    go_enter Try.func15, Try.ntmps15
    go_wp2
    go_ret2
    exact ⟨rfl, rfl⟩
  · have h1 : ¬ (n : Int) < 1 := by omega
    have h2 : (4096 : Int) < (n : Int) := by omega
    go_enter Try.func15, Try.ntmps15
    go_wp2
    go_ret2
    exact ⟨rfl, rfl⟩

set_option maxRecDepth 8000 in
set_option maxHeartbeats 4000000 in
theorem frame_yes (A : Option Addr) (cap : Nat) (l : List UInt8) (w : World) (hs : Sl u8 w A l) (h1 : 1 ≤ l.length) (h2 : l.length ≤ 4096) :
    Calls Try.prog 15 #[.slice A l.length cap] w fun e w' => ∃ A' c', e = .returned (.tuple #[.slice A' (l.length + 6) c', .int .i64 0]) ∧ w'.ownsRow w.heap.size 5 1 (.slice A' (l.length + 6) c') (l.length + 6) ((frameB l).map u8) ∧ Ext w w' := by
  refine hide_post fun D hD => ?_
  have HC : Hid (Calls Try.prog 59 #[.slice A l.length cap] w fun e w' => e = .returned (.int .u32 (crcN l)) ∧ Ext w w') := crc_any A cap l w hs (by omega)
  have hc := crcN_lt l
  have HS : Hid (∀ V, Below w.heap.size w V → Sl u8 V A l) := fun V h => hs.stay h
  have HFB : Hid ((frameB l).map u8 = (headB l.length (crcN l)).map u8 ++ l.map u8) := by (show _ = _); simp [frameB]
  rw [HFB.out] at hD
  clear hs
  obtain ⟨c, hce⟩ : ∃ c, c = crcN l := ⟨_, rfl⟩
  rw [← hce] at HC hc hD
  clear hce HFB
  obtain ⟨n, hn⟩ : ∃ n, n = l.length := ⟨_, rfl⟩
  rw [← hn] at h1 h2 HC hD ⊢
  have HN := Lib.hid hn
  clear hn
  have h1' : ¬ (n : Int) < 1 := by omega
  have h2' : ¬ (4096 : Int) < (n : Int) := by omega
  obtain ⟨cs, hcs⟩ : ∃ cs : Array Value, cs = #[.int .u8 ((n : Int) / 256), .int .u8 ((n : Int) % 256), .int .u8 ((c : Int) / 16777216), .int .u8 ((c : Int) / 65536 % 256), .int .u8 ((c : Int) / 256 % 256), .int .u8 ((c : Int) % 256)] := ⟨_, rfl⟩
  have hh : cs.toList = (headB n c).map u8 := by
    rw [hcs]
    unfold headB u8
    simp only [List.map_cons, List.map_nil, UInt8.toNat_ofNat']
    simp only [List.cons.injEq, Value.int.injEq, true_and, and_true]
    omega
  have hsz : cs.size = 6 := by rw [hcs]; rfl
  have HM : Hid (∀ V : World, w.heap.size ≤ V.heap.size → (V.alloc (.cells cs 5)).ownsRow w.heap.size 5 1 (.slice (some ⟨V.heap.size, 0, none⟩) 6 6) 6 ((headB n c).map u8)) := fun V hV => by
    have := World.ownsRow_lit (base := w.heap.size) (e := 5) (size := 1) V cs 6 hV (by unfold maxLen; omega) (by rw [hsz])
    rwa [hh] at this
  have HCS := Lib.hid hcs
  clear hh hsz hcs
  have HD2 : Hid (∀ A' c' (V w' : World), Ext w V → w'.ownsRow w.heap.size 5 1 (.slice A' (6 + l.length) c') (6 + l.length) ((headB n c).map u8 ++ l.map u8) → (V.alloc (.cells cs 5)).grownBy w' (some V.heap.size) → D (.returned (.tuple #[.slice A' (6 + l.length) c', .int .i64 0])) w') := fun A' c' V w' hV h1 h2 => by
    refine hD.out _ _ ⟨A', c', by rw [HN.out, Nat.add_comm], ?_, ?_⟩
    · rw [HN.out, Nat.add_comm, ← HN.out]
      rw [← HN.out] at h1
      exact h1
    · exact below_grown (Below.trans hV ((Below.refl _ V).alloc hV.size _)) h2 (Nat.le_trans hV.size (by simp)) hV.size
  clear hD
  go_enter Try.func15, Try.ntmps15
  go_wp2_with (first
    | (go_at_call 59; (with_reducible refine HC.out.mono ?_); rintro e w1 ⟨rfl, hx⟩; have HX := Lib.hid hx; have HM1 := Lib.hid (HM.out w1 hx.size); have HS1 := Lib.hid (HS.out _ (Ext.trans hx (Ext.alloc w1 (.cells cs 5)))); rw [HCS.out] at HM1 HS1; clear hx)
    | (at_builtin; refine wpList_append_list rfl _ _ 22 rfl w.heap.size 5 (.int .u8 0) 1 Try.underlying22 info_byte rfl (by omega) (.slice (some ⟨w1.heap.size, 0, none⟩) 6 6) 6 ((headB n c).map u8) rfl HM1.out u8 A l n cap HN.out rfl HS1.out (fun _ => rfl) (by have := HN.out; omega) (by have := HX.out.size; simp; omega) ?_; intro v' w' h1 h2 h3; obtain ⟨A', c', rfl⟩ := own_shape h1; have H1 := Lib.hid h1; have H2 := Lib.hid h2; clear h1 h2 h3))
  try go_ret2
  have h2 := H2.out
  rw [← HCS.out] at h2
  exact HD2.out A' c' w1 _ HX.out H1.out h2
end Go.Proofs.Ytgcclkdlomifcaa
