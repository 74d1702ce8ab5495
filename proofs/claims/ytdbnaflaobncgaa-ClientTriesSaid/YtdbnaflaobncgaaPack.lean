/-
  Walks of package pack: what a writer puts.
-/
import Derived.Test.YtdbnaflaobncgaaFrm
import Derived.Test.YtdbnaflaobncgaaHeldR
import Derived.Laws.BitsAllLaws
namespace Go.Proofs.Ytdbnaflaobncgaa
set_option linter.unusedVariables false
set_option linter.unusedSimpArgs false
open Go.RowKit

/-- a number's bytes, seven bits a byte; at most f of them -/
def numF : Nat → Nat → List UInt8
  | 0, _ => []
  | f + 1, n => if n < 128 then [UInt8.ofNat n] else UInt8.ofNat (n % 128 + 128) :: numF f (n / 128)
def numB (n : Nat) : List UInt8 := numF 10 n
theorem numF_len : ∀ (f n : Nat), (numF f n).length ≤ f
  | 0, _ => by simp [numF]
  | f + 1, n => by
    unfold numF
    split
    · simp
    · simp; exact numF_len f _

/-- a writer at block P: its bytes (in block g, if anywhere) -/
def WrAt (w : World) (base P : Nat) (l : List UInt8) (g : Option Nat) : Prop :=
  ∃ v, Blk w P 84 #[v] ∧ w.ownsRow base 5 1 v l.length (l.map u8) ∧ v.ownBlock = g

section
variable {w w' : World} {base P : Nat} {l : List UInt8} {g : Option Nat}
theorem WrAt.stay (H : WrAt w base P l g) (hb : Below w.heap.size w w') : WrAt w' base P l g := by
  obtain ⟨v, h1, h2, h3⟩ := H
  exact ⟨v, h1.stay hb, own_frm h2 (Frm.of_below hb (fun _ => False)) (fun _ _ h => h), h3⟩
theorem WrAt.frm {t : Nat → Prop} (H : WrAt w base P l g) (hf : Frm t w w') (h1 : ¬ t P) (h2 : ∀ k, g = some k → ¬ t k) : WrAt w' base P l g := by
  obtain ⟨v, h3, h4, h5⟩ := H
  exact ⟨v, h3.frm hf h1, own_frm h4 hf (fun k hk => h2 k (h5.symm.trans hk)), h5⟩
theorem WrAt.lt (H : WrAt w base P l g) : P < w.heap.size := by obtain ⟨v, h1, _⟩ := H; exact h1.lt
theorem WrAt.glt (H : WrAt w base P l g) : ∀ k, g = some k → base ≤ k ∧ k < w.heap.size ∧ k ≠ P := fun k hk => by
  obtain ⟨v, h1, h2, h3⟩ := H
  have := h2.lt k (h3.trans hk)
  exact ⟨this.1, this.2, own_type h2 h1 (by decide) k (h3.trans hk)⟩
/-- its cells, as the walk reads them -/
theorem WrAt.cells (H : WrAt w base P l g) : ∃ A cap, w.cell? ⟨P, 0, none⟩ = some (.slice A l.length cap) ∧ Sl u8 w A l ∧ w.ownsRow base 5 1 (.slice A l.length cap) l.length (l.map u8) ∧
    Value.ownBlock (.slice A l.length cap) = g ∧ l.length ≤ cap ∧ w.frozen? ⟨P, 0, none⟩ = false ∧ Blk w P 84 #[.slice A l.length cap] := by
  obtain ⟨v, h1, h2, h3⟩ := H
  obtain ⟨A, cap, rfl, hs⟩ := own_view h2
  refine ⟨A, cap, h1.cell 0, hs, h2, h3, ?_, h1.frozen 0, h1⟩
  rcases h2.2 with ⟨e, hn⟩ | ⟨g', cap', cur, e, _, _, hc, _⟩
  · omega
  · injection e with _ _ e; omega
/-- what a writer's call leaves: only P and its own bytes have turned, its bytes lie where they lay or in a new block -/
def WrTo (w w' : World) (base P : Nat) (l : List UInt8) (g : Option Nat) : Prop :=
  ∃ g', WrAt w' base P l g' ∧ Frm (fun k => k = P ∨ some k = g) w w' ∧ (g' = g ∨ ∃ k, g' = some k ∧ w.heap.size ≤ k)
theorem WrTo.refl (H : WrAt w base P l g) : WrTo w w base P l g := ⟨g, H, Frm.refl _ _, .inl rfl⟩
theorem WrTo.trans {w1 : World} {l1 l2 : List UInt8} {g1 : Option Nat} (h : WrAt w1 base P l1 g1 ∧ Frm (fun k => k = P ∨ some k = g) w w1 ∧ (g1 = g ∨ ∃ k, g1 = some k ∧ w.heap.size ≤ k)) (h' : WrTo w1 w' base P l2 g1) : WrTo w w' base P l2 g := by
  obtain ⟨h1, h2, h3⟩ := h
  obtain ⟨g2, h4, h5, h6⟩ := h'
  refine ⟨g2, h4, h2.trans h5 (fun k hk hs => ?_), ?_⟩
  · rcases hs with hs | hs
    · exact .inl hs
    · rcases h3 with h3 | ⟨k', h3, hk'⟩
      · exact .inr (hs.trans h3)
      · rw [h3] at hs; injection hs with hs; omega
  · rcases h6 with h6 | ⟨k, h6, hk⟩
    · rcases h3 with h3 | ⟨k, h3, hk⟩
      · exact .inl (h6.trans h3)
      · exact .inr ⟨k, h6.trans h3, hk⟩
    · exact .inr ⟨k, h6, by have := h2.size; omega⟩
/-- one byte more: laid, appended, put back -/
theorem WrAt.push (H : WrAt w base P l g) {A : Option Addr} {cap : Nat} (hc : w.cell? ⟨P, 0, none⟩ = some (.slice A l.length cap)) (x : UInt8) {W : World} {A' : Option Addr} {cap' : Nat}
    (hg : (w.alloc (.cells #[u8 x] 5)).grownBy W g)
    (ho : W.ownsRow base 5 1 (.slice A' (l.length + 1) cap') (l.length + 1) (l.map u8 ++ [u8 x])) (hor : (Value.slice A' (l.length + 1) cap').ownBlock = g ∨ ∃ k, (Value.slice A' (l.length + 1) cap').ownBlock = some k ∧ w.heap.size ≤ k) :
    Blk W P 84 #[.slice A l.length cap] ∧ WrTo w (W.setCell ⟨P, 0, none⟩ (.slice A' (l.length + 1) cap')) base P (l ++ [x]) g := by
  obtain ⟨v, h1, h2, h3⟩ := H
  have hv : v = .slice A l.length cap := by
    have := h1.cell 0
    rw [hc] at this
    simpa using this.symm
  subst hv
  have hne : some P ≠ g := fun e => own_type h2 h1 (by decide) P (h3.trans e.symm) rfl
  have hB1 := (h1.alloc (.cells #[u8 x] 5)).grown hg hne
  refine ⟨hB1, (Value.slice A' (l.length + 1) cap').ownBlock, ⟨.slice A' (l.length + 1) cap', ?_, ?_, rfl⟩, ?_, hor⟩
  · have := hB1.set 0 (.slice A' (l.length + 1) cap'); simpa using this
  · have k1' : W.ownsRow base 5 1 (.slice A' (l.length + 1) cap') (l ++ [x]).length ((l ++ [x]).map u8) := by simpa using ho
    exact own_frm k1' (Frm.of_set (s := fun k => k = P) W ⟨P, 0, none⟩ _ rfl) (own_type k1' hB1 (by decide))
  · exact Frm.tr (Frm.tr (Frm.of_alloc _ _ _) (Frm.of_grown hg (fun k hk => .inr hk))) (Frm.of_set _ _ _ (.inl rfl))
end

theorem or_all : ∀ n : Fin 256, bits BinOp.or IntKind.u8 (n.val : Int) 128 = ((n.val % 128 + 128 : Nat) : Int) := by decide +kernel
theorem or128 (x : Nat) : bits BinOp.or IntKind.u8 ((x : Int) % 256) 128 = ((UInt8.ofNat (x % 128 + 128)).toNat : Int) := by
  have h := or_all ⟨x % 256, by omega⟩
  simp only at h
  rw [show ((x : Int) % 256) = ((x % 256 : Nat) : Int) by omega, h, UInt8.toNat_ofNat']
  omega

set_option maxRecDepth 8000 in
set_option maxHeartbeats 4000000 in
theorem numW_any (base P : Nat) (l : List UInt8) (g : Option Nat) (v : Nat) (w : World) (H : WrAt w base P l g) (hv : v < 18446744073709551616) (hl : l.length ≤ 1000000000) (hb : base ≤ w.heap.size) :
    Calls Try.prog 67 #[.pointer (some ⟨P, 0, none⟩), .int .u64 v] w fun e w' => e = .returned (.tuple #[]) ∧ WrTo w w' base P (l ++ numB v) g := by
  refine hide_post fun D hD => ?_
  have H0 := Lib.hid H
  have HV : Hid (v < 128 ^ 10) := by (show _ < _); omega
  clear H hv
  go_enter Try.func67, Try.ntmps67
  go_wp2
  go_loopw [1] (fun i wr => ∃ (x f : Nat) (d : List UInt8) (g1 : Option Nat), x ≤ v ∧ i = .int .u64 x ∧ Hid (numB v = d ++ numF (f + 1) x ∧ x < 128 ^ (f + 1) ∧ d.length + f = 9) ∧ Hid (WrAt wr base P (l ++ d) g1 ∧ Frm (fun k => k = P ∨ some k = g) w wr ∧ (g1 = g ∨ ∃ k, g1 = some k ∧ w.heap.size ≤ k))) (fun i _ => (intOf i).toNat)
  case atStart => exact ⟨v, 9, [], g, Nat.le_refl _, rfl, ⟨rfl, HV.out, rfl⟩, by (show WrAt _ _ _ _ _ ∧ _); rw [List.append_nil]; exact ⟨H0.out, Frm.refl _ _, .inl rfl⟩⟩
  case round =>
    obtain ⟨x, f, d, g1, hx, rfl, HN, HW⟩ := hrel
    obtain ⟨A, cap, c0, hs, ho, hob, hcap, fz, kB⟩ := HW.out.1.cells
    have HLN : Hid ((l ++ d).length ≤ 1000000009) := by (show _ ≤ _); rw [List.length_append]; have := HN.out.2.2; omega
    obtain ⟨L, hL⟩ : ∃ L, L = l ++ d := ⟨_, rfl⟩
    rw [← hL] at c0 hs ho hob hcap kB HLN
    have HO := Lib.hid ho
    have HP : Hid (∀ (y : UInt8) W A' c', W.ownsRow base 5 1 (.slice A' (L.length + 1) c') (L.length + 1) (L.map Go.Proofs.Ytdbnaflaobncgaa.u8 ++ [Go.Proofs.Ytdbnaflaobncgaa.u8 y]) → (wr.alloc (.cells #[Go.Proofs.Ytdbnaflaobncgaa.u8 y] 5)).grownBy W (Value.slice A L.length cap).ownBlock → ((Value.slice A' (L.length + 1) c').ownBlock = (Value.slice A L.length cap).ownBlock ∨ ∃ k, (Value.slice A' (L.length + 1) c').ownBlock = some k ∧ (wr.alloc (.cells #[Go.Proofs.Ytdbnaflaobncgaa.u8 y] 5)).heap.size ≤ k) →
        Blk W P 84 #[.slice A L.length cap] ∧ WrTo w (W.setCell ⟨P, 0, none⟩ (.slice A' (L.length + 1) c')) base P (l ++ (d ++ [y])) g) := fun y W A' c' h1 h2 h3 => by
      rw [hob] at h2 h3
      have hw := HW.out.1
      rw [← hL] at hw
      obtain ⟨k1, k2⟩ := hw.push c0 y h2 h1 (h3.imp id (fun ⟨k, e, hk⟩ => ⟨k, e, by simp at hk; omega⟩))
      refine ⟨k1, ?_⟩
      have e : l ++ (d ++ [y]) = L ++ [y] := by rw [hL, List.append_assoc]
      rw [e]
      exact WrTo.trans HW.out k2
    have hbz : base ≤ wr.heap.size := Nat.le_trans hb HW.out.2.1.size
    have hN1 : L.length + 1 ≤ 2000000000 := by have := HLN.out; omega
    clear hs ho hob hcap kB hL HLN HW
    by_cases hlt : 128 ≤ x
    · have HY := Lib.hid (or128 x)
      have HN2 : Hid (numB v = (d ++ [UInt8.ofNat (x % 128 + 128)]) ++ numF f (x / 128) ∧ x / 128 < 128 ^ f ∧ d.length + f = 9 ∧ 1 ≤ f) := by
        obtain ⟨e1, e2, e3⟩ := HN.out
        have hf : 1 ≤ f := by
          rcases Nat.eq_zero_or_pos f with h | h
          · subst h; omega
          · exact h
        refine ⟨by rw [e1, numF, if_neg (by omega)]; simp, ?_, e3, hf⟩
        rw [Nat.pow_succ] at e2
        exact Nat.div_lt_of_lt_mul (by rw [Nat.mul_comm]; exact e2)
      generalize UInt8.ofNat (x % 128 + 128) = y at *
      have hy := HY.out
      clear HN
      go_wp2_with (at_builtin; refine wpList_append_list rfl _ _ 54 rfl base 5 (.int .u8 0) 1 Try.underlying54 info_byte rfl (by omega) (.slice A L.length cap) L.length (L.map Go.Proofs.Ytdbnaflaobncgaa.u8) rfl (HO.out.alloc _) Go.Proofs.Ytdbnaflaobncgaa.u8 (some ⟨wr.heap.size, 0, none⟩) [y] 1 1 rfl rfl (Sl.of_blk (Blk.new wr 5 #[Go.Proofs.Ytdbnaflaobncgaa.u8 y]) (fun j v hj => by match j, hj with | 0, hj => (simp at hj; subst hj; rfl))) (fun _ => rfl) (by simp; omega) (by simp; omega) ?_; intro v' W h1 h2 h3; obtain ⟨A', c', rfl⟩ := own_shape h1; obtain ⟨hB, hT⟩ := HP.out y W A' c' h1 h2 h3; have q0 := hB.cell 0; have q1 := hB.frozen 0; simp at q0; have HT := Lib.hid hT; clear hB hT h1 h2 h3)
      obtain ⟨g2, k1, k2, k3⟩ := HT.out
      obtain ⟨f', hf'⟩ : ∃ f', f = f' + 1 := ⟨f - 1, by have := HN2.out.2.2.2; omega⟩
      subst hf'
      have HW2 := Lib.hid (And.intro k1 (And.intro k2 k3))
      go_roundw
      case rel => exact ⟨x / 128, f', d ++ [y], g2, by omega, by go_num, ⟨HN2.out.1, HN2.out.2.1, by have := HN2.out.2.2.1; simp; omega⟩, HW2.out⟩
      case measure => simp [intOf]; omega
    · obtain ⟨y, rfl⟩ : ∃ y : UInt8, x = y.toNat := ⟨UInt8.ofNat x, by rw [UInt8.toNat_ofNat']; omega⟩
      have HN2 : Hid (numB v = d ++ [y]) := by
        show _ = _
        rw [HN.out.1, numF, if_pos (by omega), UInt8.ofNat_toNat]
      clear HN
      go_wp2_with (at_builtin; refine wpList_append_list rfl _ _ 54 rfl base 5 (.int .u8 0) 1 Try.underlying54 info_byte rfl (by omega) (.slice A L.length cap) L.length (L.map Go.Proofs.Ytdbnaflaobncgaa.u8) rfl (HO.out.alloc _) Go.Proofs.Ytdbnaflaobncgaa.u8 (some ⟨wr.heap.size, 0, none⟩) [y] 1 1 rfl rfl (Sl.of_blk (Blk.new wr 5 #[Go.Proofs.Ytdbnaflaobncgaa.u8 y]) (fun j v hj => by match j, hj with | 0, hj => (simp at hj; subst hj; rfl))) (fun _ => rfl) (by simp; omega) (by simp; omega) ?_; intro v' W h1 h2 h3; obtain ⟨A', c', rfl⟩ := own_shape h1; obtain ⟨hB, hT⟩ := HP.out y W A' c' h1 h2 h3; have q0 := hB.cell 0; have q1 := hB.frozen 0; simp at q0; have HT := Lib.hid hT; clear hB hT h1 h2 h3)
      go_end0
      exact hD.out _ _ ⟨rfl, by rw [HN2.out]; exact HT.out⟩
end Go.Proofs.Ytdbnaflaobncgaa
