/-
  The walk of the document's check sum, bit by bit; it is the table's.
-/
import Derived.Test.YtgcclkdlomifcaaTold1
import Derived.Lib.SmallJoins
namespace Go.Proofs.Ytgcclkdlomifcaa
set_option linter.unusedVariables false
set_option linter.unusedSimpArgs false
open Go.RowKit

/-- bit by bit -/
def rcGo : Nat → List UInt8 → Nat
  | c, [] => c
  | c, x :: r => rcGo (stepsN 8 (c ^^^ x.toNat)) r

theorem stepN_xor (a b : Nat) : stepN (a ^^^ b) = stepN a ^^^ stepN b := by
  unfold stepN
  have h1 : (a ^^^ b) / 2 = a / 2 ^^^ b / 2 := Nat.xor_div_two
  have h2 : (a ^^^ b) % 2 = (a % 2) ^^^ (b % 2) := by
    have := @Nat.xor_mod_two_pow a b 1
    simpa using this
  rw [h1, h2]
  rcases Nat.mod_two_eq_zero_or_one a with ha | ha <;> rcases Nat.mod_two_eq_zero_or_one b with hb | hb <;> rw [ha, hb]
  · simp
  · simp [Nat.xor_assoc]
  · simp only [Nat.mul_one, Nat.mul_zero, Nat.xor_zero]
    rw [Nat.xor_assoc, Nat.xor_comm (b / 2), ← Nat.xor_assoc]
  · have h3 : a / 2 ^^^ 3988292384 ^^^ (b / 2 ^^^ 3988292384) = a / 2 ^^^ b / 2 := by
      rw [Nat.xor_assoc, Nat.xor_comm (b / 2), ← Nat.xor_assoc 3988292384, Nat.xor_self, Nat.zero_xor]
    simp [h3]
theorem stepsN_xor : ∀ (k a b : Nat), stepsN k (a ^^^ b) = stepsN k a ^^^ stepsN k b
  | 0, _, _ => rfl
  | k + 1, a, b => by simp only [stepsN]; rw [stepsN_xor k, stepN_xor]
theorem stepN_even (a : Nat) : stepN (2 * a) = a := by
  unfold stepN
  rw [Nat.mul_mod_right, Nat.mul_zero, Nat.xor_zero]
  omega
theorem stepsN_shift : ∀ (k a : Nat), stepsN k (2 ^ k * a) = a
  | 0, a => by simp [stepsN]
  | k + 1, a => by
    rw [stepsN, show 2 ^ (k + 1) * a = 2 ^ k * (2 * a) by rw [Nat.pow_succ, Nat.mul_assoc], stepsN_shift k, stepN_even]
/-- the table's step is eight bits' steps -/
theorem table_step (c x : Nat) (hx : x < 256) : (c / 256) ^^^ stepsN 8 ((c % 256) ^^^ x) = stepsN 8 (c ^^^ x) := by
  have h1 : c = (2 ^ 8 * (c / 256)) ^^^ (c % 256) := by
    have h := Nat.div_add_mod c 256
    have e : (2 ^ 8 * (c / 256)) ^^^ (c % 256) = 2 ^ 8 * (c / 256) + c % 256 := by
      apply Nat.eq_of_testBit_eq
      intro i
      rw [Nat.testBit_xor]
      by_cases hi : i < 8
      · rw [Nat.testBit_two_pow_mul, Nat.testBit_two_pow_mul_add _ (Nat.mod_lt _ (by decide) : c % 256 < 2 ^ 8)]
        simp [hi, Nat.not_le.2 hi]
      · have hb : c % 256 < 2 ^ i := Nat.lt_of_lt_of_le (Nat.mod_lt c (by decide)) (show 2 ^ 8 ≤ 2 ^ i from Nat.pow_le_pow_right (by decide) (by omega))
        have h0 : (c % 256).testBit i = false := Nat.testBit_lt_two_pow hb
        rw [Nat.testBit_two_pow_mul, Nat.testBit_two_pow_mul_add _ (Nat.mod_lt _ (by decide) : c % 256 < 2 ^ 8), h0]
        simp [hi, Nat.le_of_not_lt hi]
    omega
  have h2 : stepsN 8 (c ^^^ x) = stepsN 8 ((2 ^ 8 * (c / 256)) ^^^ ((c % 256) ^^^ x)) := by
    rw [← Nat.xor_assoc, ← h1]
  rw [h2, stepsN_xor 8 (2 ^ 8 * (c / 256)), stepsN_shift]
theorem rc_eq : ∀ (l : List UInt8) (c : Nat), crcGo c l = rcGo c l
  | [], _ => rfl
  | x :: r, c => by
    rw [crcGo, rcGo, table_step c x.toNat x.toNat_lt, rc_eq r]
theorem and1_int (x : Nat) (h : x < 4294967296) : bits BinOp.and IntKind.u32 (x : Int) 1 = ((x % 2 : Nat) : Int) := by
  have := u32_and_nat x 1 h (by decide)
  rw [nat_mask1] at this
  exact this
theorem odd_int (x : Nat) (h : x < 4294967296) : bits BinOp.xor IntKind.u32 ((x : Int) / 2) 3988292384 = ((x / 2 ^^^ 3988292384 : Nat) : Int) := by
  rw [show ((x : Int) / 2) = ((x / 2 : Nat) : Int) by omega]
  exact u32_xor_nat _ 3988292384 (by omega) (by decide)

set_option maxRecDepth 8000 in
set_option maxHeartbeats 8000000 in
theorem refCrc_any (s : ByteArray) (w : World) (hl : s.size ≤ 1000000000) :
    Calls Try.prog 20 #[.string s] w fun e w' => e = .returned (.int .u32 (crcN s.data.toList)) ∧ w = w' := by
  refine hide_post fun D hD => ?_
  have HEND : Hid (∀ x : Nat, x = rcGo 4294967295 s.data.toList → D (.returned (.int .u32 ((4294967295 ^^^ x : Nat) : Int))) w) := fun x hx => hD.out _ _ ⟨by rw [crcN, rc_eq, ← hx], rfl⟩
  have hsz : s.data.toList.length = s.size := by rw [Array.length_toList]; rfl
  have HSZ := Lib.hid hsz
  clear hD hsz
  go_enter Try.func20, Try.ntmps20
  go_wp2
  go_loop [3, 4] (fun c i => ∃ (k x : Nat), k ≤ s.size ∧ c = .int .u32 x ∧ i = .int .i64 k ∧ Hid (rcGo 4294967295 s.data.toList = rcGo x (s.data.toList.drop k)) ∧ x < 4294967296) (fun _ i => s.size - (intOf i).toNat)
  case atStart => exact ⟨0, 4294967295, by omega, by rfl, rfl, (by (show _ = _); rfl), by omega⟩
  case round =>
    obtain ⟨k, x, hk, rfl, rfl, HX, hx⟩ := hrel
    by_cases hlt : k < s.size
    · have hd : s.data.toList.drop k = s.data.toList[k]'(by have := HSZ.out; omega) :: s.data.toList.drop (k + 1) := List.drop_eq_getElem_cons _
      have Hd := Lib.hid hd
      clear hd
      have hxo : bits BinOp.xor IntKind.u32 (x : Int) (((s[k].toNat : Nat) : Int) % 4294967296) = ((x ^^^ s[k].toNat : Nat) : Int) := by
        have h8 := (s[k]).toNat_lt
        rw [show (((s[k].toNat : Nat) : Int) % 4294967296) = ((s[k].toNat : Nat) : Int) by omega]
        exact u32_xor_nat x s[k].toNat hx (by omega)
      have hxl : x ^^^ s[k].toNat < 4294967296 := Nat.xor_lt_two_pow (n := 32) hx (by have h8 := (s[k]).toNat_lt; omega)
      have HY : Hid (rcGo 4294967295 s.data.toList = rcGo (stepsN 8 (x ^^^ s[k].toNat)) (s.data.toList.drop (k + 1))) := by
        show _ = _
        rw [HX.out, Hd.out, rcGo]
        rfl
      clear HX Hd
      go_wp2
      generalize x ^^^ s[k].toNat = y at *
      go_loop [3, 5] (fun c j => ∃ (m z : Nat), m ≤ 8 ∧ c = .int .u32 z ∧ j = .int .i64 m ∧ Hid (z = stepsN m y) ∧ z < 4294967296) (fun _ j => 8 - (intOf j).toNat)
      case atStart => exact ⟨0, y, by omega, rfl, rfl, (by (show _ = _); rfl), hxl⟩
      case round =>
        obtain ⟨m, z, hm, rfl, rfl, HZ, hz⟩ := hrel
        by_cases hlm : m < 8
        · have h1 := and1_int z hz
          have h2 := odd_int z hz
          have hlt2 := stepN_lt z hz
          have HX2 : Hid (stepN z = stepsN (m + 1) y) := by (show _ = _); rw [HZ.out, stepsN]
          clear HZ
          rcases Nat.mod_two_eq_zero_or_one z with hm2 | hm2 <;> rw [hm2] at h1
          · have he : stepN z = z / 2 := by unfold stepN; rw [hm2]; simp
            have he2 : ((z : Int) / 2) = ((z / 2 : Nat) : Int) := by omega
            rw [he] at HX2 hlt2
            clear h2 he
            generalize z / 2 = t at *
            go_wp2
            go_round
            case rel => exact ⟨m + 1, t, by omega, rfl, by go_num, HX2, hlt2⟩
            case measure => simp [intOf]; omega
          · have he : stepN z = z / 2 ^^^ 3988292384 := by unfold stepN; rw [hm2]
            rw [he] at HX2 hlt2
            clear he
            generalize (z / 2) ^^^ 3988292384 = t at *
            go_wp2
            go_round
            case rel => exact ⟨m + 1, t, by omega, rfl, by go_num, HX2, hlt2⟩
            case measure => simp [intOf]; omega
        · obtain rfl : m = 8 := by omega
          have HY2 : Hid (rcGo 4294967295 s.data.toList = rcGo z (s.data.toList.drop (k + 1))) := by (show _ = _); rw [HY.out, HZ.out]
          go_wp2
          go_round
          case rel => exact ⟨k + 1, z, by omega, rfl, by go_num, HY2, hz⟩
          case measure => simp [intOf]; omega
    · have HZ := Lib.hid (HEND.out x (by rw [HX.out, List.drop_of_length_le (by have := HSZ.out; omega), rcGo]))
      have hno := not_int x hx
      generalize 4294967295 ^^^ x = z at *
      go_wp2
      try go_ret
      exact HZ.out
end Go.Proofs.Ytgcclkdlomifcaa
