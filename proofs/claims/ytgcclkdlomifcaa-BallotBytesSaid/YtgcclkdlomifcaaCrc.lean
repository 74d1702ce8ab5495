/-
  Walks of package pack, further: the check sum, by its table.
-/
import Derived.Test.YtgcclkdlomifcaaPackRt
namespace Go.Proofs.Ytgcclkdlomifcaa
set_option linter.unusedVariables false
set_option linter.unusedSimpArgs false
open Go.RowKit

/-- one bit's step -/
def stepN (c : Nat) : Nat := (c / 2) ^^^ (3988292384 * (c % 2))
def stepsN : Nat → Nat → Nat
  | 0, c => c
  | k + 1, c => stepN (stepsN k c)
def crcGo : Nat → List UInt8 → Nat
  | c, [] => c
  | c, x :: r => crcGo ((c / 256) ^^^ stepsN 8 ((c % 256) ^^^ x.toNat)) r
def crcN (l : List UInt8) : Nat := 4294967295 ^^^ crcGo 4294967295 l

theorem stepN_lt (x : Nat) (h : x < 4294967296) : stepN x < 4294967296 := by
  unfold stepN
  exact Nat.xor_lt_two_pow (n := 32) (by omega) (by omega)
theorem stepsN_lt : ∀ (k x : Nat), x < 4294967296 → stepsN k x < 4294967296
  | 0, x, h => h
  | k + 1, x, h => stepN_lt _ (stepsN_lt k x h)
theorem step_int (x : Nat) (h : x < 4294967296) : bits BinOp.xor IntKind.u32 ((x : Int) / 2) (3988292384 * bits BinOp.and IntKind.u32 (x : Int) 1 % 4294967296) = (stepN x : Nat) := by
  have h1 : bits BinOp.and IntKind.u32 (x : Int) 1 = ((x % 2 : Nat) : Int) := by
    have := u32_and_nat x 1 h (by decide)
    rw [nat_mask1] at this
    exact this
  rw [h1]
  have e1 : ((x : Int) / 2) = ((x / 2 : Nat) : Int) := by omega
  have e2 : (3988292384 * ((x % 2 : Nat) : Int) % 4294967296) = ((3988292384 * (x % 2) : Nat) : Int) := by omega
  rw [e1, e2, u32_xor_nat _ _ (by omega) (by omega)]
  rfl
theorem xor32_int (a b : Nat) (ha : a < 4294967296) (hb : b < 4294967296) : bits BinOp.xor IntKind.u32 (a : Int) (b : Int) = ((a ^^^ b : Nat) : Int) := u32_xor_nat a b ha hb
theorem xor32_int' (a b : Nat) (ha : a < 4294967296) (hb : b < 4294967296) : bits BinOp.xor IntKind.u32 ((a : Int) / 256) (b : Int) = ((a / 256 ^^^ b : Nat) : Int) := by
  rw [show ((a : Int) / 256) = ((a / 256 : Nat) : Int) by omega]
  exact u32_xor_nat _ b (by omega) hb
theorem not_int (a : Nat) (ha : a < 4294967296) : bits BinOp.xor IntKind.u32 IntKind.u32.max (a : Int) = ((4294967295 ^^^ a : Nat) : Int) := u32_xor_nat 4294967295 a (by decide) ha
theorem xor32_lt (a b : Nat) (ha : a < 4294967296) (hb : b < 4294967296) : a ^^^ b < 4294967296 := Nat.xor_lt_two_pow (n := 32) ha hb
theorem xor8_int (x : Nat) (c : UInt8) : bits BinOp.xor IntKind.u8 ((x : Int) % 256) (c.toNat : Int) = (((x % 256) ^^^ c.toNat : Nat) : Int) := by
  have e1 : ((x : Int) % 256) = ((x % 256 : Nat) : Int) := by omega
  rw [e1, u8_xor_nat _ _ (by omega) c.toNat_lt]
theorem idx_lt256 (x : Nat) (c : UInt8) : (x % 256) ^^^ c.toNat < 256 := Nat.xor_lt_two_pow (n := 8) (by omega) c.toNat_lt
/-- the table when k of its cells are made -/
def tabC (k : Nat) : Array Value := ((List.range 256).map fun i => Value.int .u32 (if i < k then (stepsN 8 i : Nat) else 0 : Int)).toArray
theorem tabC_size (k : Nat) : (tabC k).size = 256 := by simp [tabC]
theorem tabC_get (k i : Nat) (hi : i < 256) : (tabC k)[i]? = some (.int .u32 (if i < k then (stepsN 8 i : Nat) else 0 : Int)) := by
  simp [tabC, hi]
theorem tabC_succ (k : Nat) : (tabC k).setIfInBounds k (.int .u32 (stepsN 8 k : Nat)) = tabC (k + 1) := by
  apply Array.ext
  · simp [tabC]
  · intro i h1 h2
    have hi : i < 256 := by rw [tabC_size] at h2; exact h2
    rw [Array.getElem_setIfInBounds]
    split
    · rename_i e
      subst e
      simp only [tabC, List.getElem_toArray, List.getElem_map, List.getElem_range]
      rw [if_pos (by omega)]
    · rename_i e
      simp only [tabC, List.getElem_toArray, List.getElem_map, List.getElem_range]
      by_cases h : i < k
      · rw [if_pos h, if_pos (by omega)]
      · rw [if_neg h, if_neg (by omega)]
    · rw [tabC_size]; exact hi

set_option maxRecDepth 100000 in
set_option maxHeartbeats 8000000 in
theorem crc_any (A : Option Addr) (cap : Nat) (l : List UInt8) (w : World) (hs : Sl u8 w A l) (hl : l.length ≤ 1000000000) :
    Calls Try.prog 59 #[.slice A l.length cap] w fun e w' => e = .returned (.int .u32 (crcN l)) ∧ Ext w w' := by
  refine hide_post fun D hD => ?_
  have hz : ∀ w, (zeroValue 130).run Try.prog w = .ok (.agg (tabC 0)) w := fun _ => by kernel_rfl
  obtain ⟨w0, hw0⟩ : ∃ w0, w0 = w.alloc (.cells (tabC 0) 130) := ⟨_, rfl⟩
  have hb0 : Ext w w0 := by rw [hw0]; exact Ext.alloc _ _
  have KT : Hid (Blk w0 w.heap.size 130 (tabC 0)) := by (show Blk _ _ _ _); rw [hw0]; exact Blk.new _ _ _
  have HS : Hid (∀ V, Below w.heap.size w V → Sl u8 V A l) := fun V h => hs.stay h
  have HB0 := Lib.hid hb0
  have HW0 := Lib.hid hw0
  clear hb0 hw0 hs
  go_enter Try.func59, Try.ntmps59
  go_wp2
  rw [← HW0.out]
  clear hz
  go_loopw [9] (fun i wr => ∃ k : Nat, k ≤ 256 ∧ i = .int .i64 k ∧ Hid (Blk wr w.heap.size 130 (tabC k)) ∧ Hid (Below w.heap.size w wr)) (fun i _ => 256 - (intOf i).toNat)
  case atStart => exact ⟨0, by omega, rfl, KT, HB0⟩
  case round =>
    obtain ⟨k, hk, rfl, HT, HL⟩ := hrel
    by_cases hlt : k < 256
    · go_wp2
      go_loop [5, 14] (fun c j => ∃ (m x : Nat), m ≤ 8 ∧ c = .int .u32 x ∧ j = .int .i64 m ∧ Hid (x = stepsN m k) ∧ x < 4294967296) (fun _ j => 8 - (intOf j).toNat)
      case atStart => exact ⟨0, k, by omega, by rfl, rfl, (by (show _ = _); rfl), by omega⟩
      case round =>
        obtain ⟨m, x, hm, rfl, rfl, HX, hx⟩ := hrel
        by_cases hlm : m < 8
        · have hst := step_int x hx
          have hlt2 := stepN_lt x hx
          have HX2 : Hid (stepN x = stepsN (m + 1) k) := by (show _ = _); rw [HX.out, stepsN]
          generalize stepN x = y at *
          clear HX
          go_wp2
          go_round
          case rel => exact ⟨m + 1, y, by omega, rfl, by go_num, HX2, hlt2⟩
          case measure => simp [intOf]; omega
        · obtain rfl : m = 8 := by omega
          have c0 : wr.cell? ⟨w.heap.size, k, none⟩ = some (.int .u32 0) := by rw [HT.out.cell k, tabC_get k k hlt, if_neg (by omega)]
          have f0 := HT.out.frozen k
          have HT2 : Hid (Blk (wr.setCell ⟨w.heap.size, k, none⟩ (.int .u32 x)) w.heap.size 130 (tabC (k + 1))) := by
            show Blk _ _ _ _
            have := HT.out.set k (.int .u32 x)
            rw [HX.out, tabC_succ] at this
            rw [HX.out]
            exact this
          have HL2 : Hid (Below w.heap.size w (wr.setCell ⟨w.heap.size, k, none⟩ (.int .u32 x))) := HL.out.setCell (p := ⟨w.heap.size, k, none⟩) (Nat.le_refl _) _
          have hki : (k : Int) < 256 := by omega
          have hk0 : (0 : Int) ≤ (k : Int) := by omega
          clear HX
          go_wp2
          go_roundw
          case rel => exact ⟨k + 1, by omega, by go_num, HT2, HL2⟩
          case measure => simp [intOf]; omega
    · obtain rfl : k = 256 := by omega
      have HSl := Lib.hid (HS.out _ HL.out)
      have HEND : Hid (∀ x : Nat, x = crcGo 4294967295 l → x < 4294967296 → D (.returned (.int .u32 ((4294967295 ^^^ x : Nat) : Int))) wr) := fun x hx hlt => hD.out _ _ ⟨by rw [crcN, ← hx], HL.out⟩
      obtain ⟨n, hn⟩ : ∃ n, n = l.length := ⟨_, rfl⟩
      rw [← hn] at hl ⊢
      have HN := Lib.hid hn
      clear hn hD HS HL KT
      go_wp2
      go_loop [6, 29] (fun c i => ∃ (k x : Nat), k ≤ n ∧ c = .int .u32 x ∧ i = .int .i64 k ∧ Hid (crcGo 4294967295 l = crcGo x (l.drop k)) ∧ x < 4294967296) (fun _ i => n - (intOf i).toNat)
      case atStart => exact ⟨0, 4294967295, by omega, by rfl, rfl, (by (show _ = _); rfl), by omega⟩
      case round =>
        obtain ⟨k, x, hk2, rfl, rfl, HX, hx⟩ := hrel
        by_cases hlk : k < n
        · obtain ⟨b, o, rfl, hcell⟩ := HSl.out.at_ (k := k) (by rw [← HN.out]; exact hlk)
          have hd : l.drop k = l[k]'(by rw [← HN.out]; exact hlk) :: l.drop (k + 1) := List.drop_eq_getElem_cons _
          have Hd := Lib.hid hd
          clear hd
          generalize l[k]'(by rw [← HN.out]; exact hlk) = c at *
          have hx8 := xor8_int x c
          have hi256 := idx_lt256 x c
          have HY : Hid (crcGo 4294967295 l = crcGo ((x / 256) ^^^ stepsN 8 ((x % 256) ^^^ c.toNat)) (l.drop (k + 1))) := by (show _ = _); rw [HX.out, Hd.out, crcGo]
          have hs8 := stepsN_lt 8 ((x % 256) ^^^ c.toNat) (by omega)
          generalize (x % 256) ^^^ c.toNat = i at *
          have ct : wr.cell? ⟨w.heap.size, i, none⟩ = some (.int .u32 (stepsN 8 i : Nat)) := by rw [HT.out.cell i, tabC_get 256 i hi256, if_pos hi256]
          have hxx := xor32_int' x (stepsN 8 i) hx hs8
          have hxl := xor32_lt (x / 256) (stepsN 8 i) (by omega) hs8
          generalize stepsN 8 i = t at *
          generalize (x / 256) ^^^ t = z at *
          unfold Go.Proofs.Ytgcclkdlomifcaa.u8 at hcell
          have hii : (i : Int) < 256 := by omega
          have hi0 : (0 : Int) ≤ (i : Int) := by omega
          go_wp2
          go_round
          case rel => exact ⟨k + 1, z, by omega, rfl, by go_num, HY, hxl⟩
          case measure => simp [intOf]; omega
        · have HZ : Hid (x = crcGo 4294967295 l) := by (show _ = _); rw [HX.out, List.drop_of_length_le (by have := HN.out; omega), crcGo]
          have hno := not_int x hx
          have HE := Lib.hid (HEND.out x HZ.out hx)
          generalize 4294967295 ^^^ x = z at *
          go_wp2
          try go_ret
          exact HE.out
end Go.Proofs.Ytgcclkdlomifcaa
