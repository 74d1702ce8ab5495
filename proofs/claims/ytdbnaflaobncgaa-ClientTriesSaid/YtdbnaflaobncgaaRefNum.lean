/-
  Walks of the document's Num, Text, Yes: the same bytes.
-/
import Derived.Test.YtdbnaflaobncgaaNumLaw
namespace Go.Proofs.Ytdbnaflaobncgaa
set_option linter.unusedVariables false
set_option linter.unusedSimpArgs false
open Go.RowKit

theorem below_put {w wr W : World} {base : Nat} {e : TypeId} {v y : Value} {n : Nat} {xs : List Value} (hB : base ≤ w.heap.size) (hw : w.heap.size ≤ base) (hb : Below w.heap.size w wr) (ho : wr.ownsRow base e 1 v n xs) {t : TypeId} (h : (wr.alloc (.cells #[y] t)).grownBy W v.ownBlock) : Below w.heap.size w W :=
  Below.trans hb (((Below.refl w.heap.size wr).alloc hb.size _).grown h (Nat.le_trans hb.size (by simp)) (fun k hk => by have := ho.lt k hk; omega))

set_option maxRecDepth 8000 in
set_option maxHeartbeats 4000000 in
theorem refNum_any (v : Nat) (w : World) (hv : v < 18446744073709551616) :
    Calls Try.prog 54 #[.int .u64 v] w fun e w' => e = .returned (.string (str (numB v))) ∧ Ext w w' := by
  refine hide_post fun D hD => ?_
  have HV : Hid (v < 128 ^ 10) := by (show _ < _); omega
  clear hv
  go_enter Try.func54, Try.ntmps54
  go_wp2
  go_loopw [0, 3] (fun i c wr => ∃ (x f : Nat) (d : List UInt8) (A : Option Addr) (cap : Nat), x ≤ v ∧ i = .int .u64 x ∧ c = .slice A d.length cap ∧ Hid (numB v = d ++ numF (f + 1) x ∧ x < 128 ^ (f + 1) ∧ d.length + f = 9) ∧ Hid (wr.ownsRow w.heap.size 5 1 (.slice A d.length cap) d.length (d.map Go.Proofs.Ytdbnaflaobncgaa.u8) ∧ Below w.heap.size w wr)) (fun i _ _ => (intOf i).toNat)
  case atStart => exact ⟨v, 9, [], none, 0, Nat.le_refl _, rfl, rfl, ⟨rfl, HV.out, rfl⟩, ⟨World.ownsRow_nil _ _ _ _, Below.refl _ _⟩⟩
  case round =>
    obtain ⟨x, f, d, A, cap, hx, rfl, rfl, HN, HW⟩ := hrel
    have HO := Lib.hid HW.out.1
    have HBW : Hid (∀ (y : Value) W, (wr.alloc (.cells #[y] 5)).grownBy W (Value.slice A d.length cap).ownBlock → Below w.heap.size w W) := fun y W h => below_put (Nat.le_refl _) (Nat.le_refl _) HW.out.2 HO.out h
    have hbz : w.heap.size ≤ wr.heap.size := HW.out.2.size
    have hdl : d.length ≤ 9 := by have := HN.out.2.2; omega
    clear HW
    by_cases hlt : 128 ≤ x
    · have HY := Lib.hid (or128 x)
      have HN2 : Hid (numB v = (d ++ [UInt8.ofNat (x % 128 + 128)]) ++ numF f (x / 128) ∧ x / 128 < 128 ^ f ∧ d.length + f = 9 ∧ 1 ≤ f) := by
        obtain ⟨e1, e2, e3⟩ := HN.out
        have hf : 1 ≤ f := by
          rcases Nat.eq_zero_or_pos f with h | h
          · subst h; omega
          · exact h
        refine ⟨by rw [e1, numF, if_neg (by omega)]; simp, ?_, e3, hf⟩
        rw [Nat.pow_succ] at e2
        exact Nat.div_lt_of_lt_mul (by rw [Nat.mul_comm]; exact e2)
      generalize UInt8.ofNat (x % 128 + 128) = y at *
      have hy := HY.out
      clear HN
      go_wp2_with (at_builtin; refine wpList_append_list rfl _ _ 54 rfl w.heap.size 5 (.int .u8 0) 1 Try.underlying54 info_byte rfl (by omega) (.slice A d.length cap) d.length (d.map Go.Proofs.Ytdbnaflaobncgaa.u8) rfl (HO.out.alloc _) Go.Proofs.Ytdbnaflaobncgaa.u8 (some ⟨wr.heap.size, 0, none⟩) [y] 1 1 rfl rfl (Sl.of_blk (Blk.new wr 5 #[Go.Proofs.Ytdbnaflaobncgaa.u8 y]) (fun j v hj => by match j, hj with | 0, hj => (simp at hj; subst hj; rfl))) (fun _ => rfl) (by simp; omega) (by simp; omega) ?_; intro v' W h1 h2 h3; obtain ⟨A', c', rfl⟩ := own_shape h1; have H1 := Lib.hid h1; have H2 := Lib.hid (HBW.out _ _ h2); clear h1 h2 h3)
      obtain ⟨f', hf'⟩ : ∃ f', f = f' + 1 := ⟨f - 1, by have := HN2.out.2.2.2; omega⟩
      subst hf'
      go_roundw
      case rel => exact ⟨x / 128, f', d ++ [y], A', c', by omega, by go_num, by simp, ⟨HN2.out.1, HN2.out.2.1, by have := HN2.out.2.2.1; simp; omega⟩, ⟨by have := H1.out; simpa using this, H2.out⟩⟩
      case measure => simp [intOf]; omega
    · obtain ⟨y, rfl⟩ : ∃ y : UInt8, x = y.toNat := ⟨UInt8.ofNat x, by rw [UInt8.toNat_ofNat']; omega⟩
      have HN2 : Hid (numB v = d ++ [y]) := by
        show _ = _
        rw [HN.out.1, numF, if_pos (by omega), UInt8.ofNat_toNat]
      clear HN
      have HCV : Hid (∀ W A' c', W.ownsRow w.heap.size 5 1 (.slice A' (d.length + 1) c') (d.length + 1) (d.map Go.Proofs.Ytdbnaflaobncgaa.u8 ++ [Go.Proofs.Ytdbnaflaobncgaa.u8 y]) → (convert 54 9 (.slice A' (d.length + 1) c')).run Try.prog W = .ok (.string (str (numB v))) W) := fun W A' c' h => by
        have hsl : Sl Go.Proofs.Ytdbnaflaobncgaa.u8 W A' (d ++ [y]) := by
          obtain ⟨A9, c9, e, hs⟩ := own_view (l := d ++ [y]) (by simpa using h)
          injection e with e1 e2 e3
          subst e1
          exact hs
        have := run_str (P := Try.prog) (w := W) 54 9 5 A' (d ++ [y]) c' Try.underlying54 Try.underlying5 Try.underlying9 hsl
        rw [List.length_append] at this
        rw [HN2.out]
        exact this
      have HEND := Lib.hid (fun W (h : Below w.heap.size w W) => hD.out _ W ⟨rfl, h⟩)
      clear hD
      go_wp2_with (at_builtin; refine wpList_append_list rfl _ _ 54 rfl w.heap.size 5 (.int .u8 0) 1 Try.underlying54 info_byte rfl (by omega) (.slice A d.length cap) d.length (d.map Go.Proofs.Ytdbnaflaobncgaa.u8) rfl (HO.out.alloc _) Go.Proofs.Ytdbnaflaobncgaa.u8 (some ⟨wr.heap.size, 0, none⟩) [y] 1 1 rfl rfl (Sl.of_blk (Blk.new wr 5 #[Go.Proofs.Ytdbnaflaobncgaa.u8 y]) (fun j v hj => by match j, hj with | 0, hj => (simp at hj; subst hj; rfl))) (fun _ => rfl) (by simp; omega) (by simp; omega) ?_; intro v' W h1 h2 h3; obtain ⟨A', c', rfl⟩ := own_shape h1; have hcv := HCV.out W A' c' h1; have H2 := Lib.hid (HBW.out _ _ h2); clear h1 h2 h3)
      try go_ret
      exact HEND.out _ H2.out

set_option maxRecDepth 8000 in
theorem refText_any (s : ByteArray) (w : World) (hs : s.size ≤ 1000000000) :
    Calls Try.prog 55 #[.string s] w fun e w' => e = .returned (.string (str (numB s.size ++ s.data.toList))) ∧ Ext w w' := by
  refine hide_post fun D hD => ?_
  have HC : Hid (Calls Try.prog 54 #[.int .u64 s.size] w fun e w' => e = .returned (.string (str (numB s.size))) ∧ Ext w w') := refNum_any s.size w (by omega)
  have HE : Hid (∀ W, Ext w W → D (.returned (.string (str (numB s.size) ++ s))) W) := fun W h => hD.out _ W ⟨by
    have : str (numB s.size ++ s.data.toList) = str (numB s.size) ++ s := by
      apply ByteArray.ext
      simp [str]
    rw [this], h⟩
  have hts : (str (numB s.size)).size ≤ 10 := by
    show (numB s.size).toArray.size ≤ 10
    rw [List.size_toArray]
    exact numF_len 10 _
  generalize str (numB s.size) = t at *
  have hsum : t.size + s.size ≤ 1000000010 := by omega
  clear hD
  go_enter Try.func55, Try.ntmps55
  go_wp2_with (go_at_call 54; (with_reducible refine HC.out.mono ?_); rintro e w1 ⟨rfl, hx⟩; have HX := Lib.hid hx; clear hx)
  try go_ret
  exact HE.out _ HX.out

end Go.Proofs.Ytdbnaflaobncgaa
