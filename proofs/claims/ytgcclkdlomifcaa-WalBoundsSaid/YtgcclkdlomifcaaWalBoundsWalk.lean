/-
  The walk of the law WalBounds.
-/
import Derived.Test.YtgcclkdlomifcaaWalPlain
namespace Go.Proofs.Ytgcclkdlomifcaa
set_option linter.unusedVariables false
set_option linter.unusedSimpArgs false
open Go.RowKit Go.ChangeShapes Go.WideShapes

/-- 0, 1, 2, .. as bytes -/
def cntL (k : Nat) : List UInt8 := (List.range k).map UInt8.ofNat
def cntC (k i : Nat) : Array Value := ((List.range k).map fun j => if j < i then u8 (UInt8.ofNat j) else .int .u8 0).toArray
theorem cntC_size (k i : Nat) : (cntC k i).size = k := by simp [cntC]
theorem cntC_zero (k : Nat) : cntC k 0 = Array.replicate k (.int .u8 0) := by
  apply Array.ext
  · simp [cntC]
  · intro j h1 h2
    simp [cntC]
theorem cntC_get (k i j : Nat) (hj : j < k) : (cntC k i)[j]? = some (if j < i then u8 (UInt8.ofNat j) else .int .u8 0) := by
  simp [cntC, hj]
theorem cntC_set (k i : Nat) (hi : i < k) : (cntC k i).setIfInBounds i (u8 (UInt8.ofNat i)) = cntC k (i + 1) := by
  apply Array.ext
  · simp [cntC]
  · intro j h1 h2
    have hj : j < k := by rw [cntC_size] at h2; exact h2
    rw [Array.getElem_setIfInBounds (by rw [cntC_size]; exact hj)]
    simp only [cntC, List.getElem_toArray, List.getElem_map, List.getElem_range]
    by_cases hij : i = j
    · subst hij; simp
    · rw [if_neg hij]
      by_cases h : j < i
      · rw [if_pos h, if_pos (by omega)]
      · rw [if_neg h, if_neg (by omega)]
theorem cnt_sl (w : World) (B k : Nat) (h : Blk w B 5 (cntC k k)) : Sl Go.Proofs.Ytgcclkdlomifcaa.u8 w (some ⟨B, 0, none⟩) (cntL k) := Sl.of_blk h (fun j v hj => by
  unfold cntL at hj
  rw [List.getElem?_map] at hj
  obtain ⟨x, hx, rfl⟩ := Option.map_eq_some_iff.1 hj
  obtain ⟨hx1, hx2⟩ := List.getElem?_eq_some_iff.1 hx
  simp at hx1 hx2
  subst hx2
  rw [cntC_get k k j hx1, if_pos hx1])
theorem cntL_len (k : Nat) : (cntL k).length = k := by simp [cntL]

set_option maxRecDepth 100000 in
set_option maxHeartbeats 16000000 in
theorem walk_walBounds (n : Int) (w : World) (hn : -9223372036854775808 ≤ n ∧ n ≤ 9223372036854775807) :
    Calls Try.prog 6 #[.int .i64 n] w fun e w' => e = .returned (.bool true) ∧ Below w.heap.size w w' := by
  refine hide_post fun D hD => ?_
  have HTO : Hid (∀ V, Calls Try.prog 14 #[] V fun e w' => e = .returned (.bool true) ∧ Ext V w') := told8
  obtain ⟨t, ht10, htm⟩ : ∃ t : Nat, t < 10 ∧ (IntKind.u64.wrap n).tmod 10 = (t : Int) := by
    have hw : 0 ≤ IntKind.u64.wrap n := by
      rw [show IntKind.u64.wrap n = n % 18446744073709551616 by simp [IntKind.wrap, IntKind.bits, IntKind.signed]]; omega
    have e := Int.tmod_eq_emod_of_nonneg (b := 10) hw
    exact ⟨((IntKind.u64.wrap n).tmod 10).toNat, by omega, by omega⟩
  obtain ⟨tab, htab⟩ : ∃ tab : Array Value, tab = #[.int .i64 0, .int .i64 1, .int .i64 2, .int .i64 255, .int .i64 256, .int .i64 257, .int .i64 4095, .int .i64 4096, .int .i64 4097, .int .i64 5000] := ⟨_, rfl⟩
  obtain ⟨k, hk5, hkt⟩ : ∃ k : Nat, k ≤ 5000 ∧ tab[t]? = some (.int .i64 k) := by
    subst htab
    match t, ht10 with
    | 0, _ => exact ⟨0, by omega, rfl⟩
    | 1, _ => exact ⟨1, by omega, rfl⟩
    | 2, _ => exact ⟨2, by omega, rfl⟩
    | 3, _ => exact ⟨255, by omega, rfl⟩
    | 4, _ => exact ⟨256, by omega, rfl⟩
    | 5, _ => exact ⟨257, by omega, rfl⟩
    | 6, _ => exact ⟨4095, by omega, rfl⟩
    | 7, _ => exact ⟨4096, by omega, rfl⟩
    | 8, _ => exact ⟨4097, by omega, rfl⟩
    | 9, _ => exact ⟨5000, by omega, rfl⟩
  have hc0 : (w.alloc (.cells tab 3)).cell? ⟨w.heap.size, t, none⟩ = some (.int .i64 k) := ((Blk.new w 3 tab).cell t).trans hkt
  have HZ0 : Hid (∀ o, Ext w (w.alloc o)) := fun o => Ext.alloc _ _
  rw [htab] at hc0
  clear htab hkt
  have ht0 : (0 : Int) ≤ (t : Int) := by omega
  have ht1 : (t : Int) < 10 := by omega
  have hk50 : (k : Int) ≤ 5000 := by omega
  have hmk : ∀ V, (Instr.makeSlice 22 (.int .i64 k) (.int .i64 k)).run Try.prog V = .ok (.slice (some ⟨V.heap.size, 0, none⟩) k k) (V.alloc (.cells (cntC k 0) 5)) := fun V => by
    obtain ⟨i0, hi, hz0, hz1, hz2⟩ := info_parts info_byte
    have := run_make (P := Try.prog) V 22 5 i0 (.int .u8 0) Try.underlying22 hi hz0 .i64 .i64 k k (by omega) (Int.le_refl _) (by rw [hz2]; omega) (by omega)
    rw [hz1, Int.toNat_natCast, Nat.mul_one] at this
    rw [this, cntC_zero]
    congr 3
    apply Array.ext
    · simp [size_madeCells]
    · intro j h1 h2
      have hcz : (Value.int IntKind.u8 0).cells = #[.int .u8 0] := rfl
      simp [madeCells, hcz, Nat.mod_one]
  obtain ⟨w1, hw1⟩ : ∃ w1, w1 = (w.alloc (.cells #[.int .i64 0, .int .i64 1, .int .i64 2, .int .i64 255, .int .i64 256, .int .i64 257, .int .i64 4095, .int .i64 4096, .int .i64 4097, .int .i64 5000] 3)).alloc (.cells (cntC k 0) 5) := ⟨_, rfl⟩
  have hb1 : Blk w1 (w.heap.size + 1) 5 (cntC k 0) := by rw [hw1]; exact Blk.new' _ _ _ _ (by simp)
  have hx1 : Ext w w1 := by rw [hw1]; exact Ext.trans (Ext.alloc _ _) (Ext.alloc _ _)
  have HST : Hid (Blk w1 (w.heap.size + 1) 5 (cntC k 0) ∧ Ext w w1) := ⟨hb1, hx1⟩
  have HW1 := Lib.hid hw1
  clear hb1 hx1 hw1 HZ0
  go_enter Try.func6, Try.ntmps6
  go_wp2
  rw [← HW1.out]
  clear hmk hc0 htm hn
  go_loopw [5] (fun i wr => ∃ j : Nat, j ≤ k ∧ i = .int .i64 j ∧ Hid (Blk wr (w.heap.size + 1) 5 (cntC k j) ∧ Ext w wr)) (fun i _ => k - (intOf i).toNat)
  case atStart => exact ⟨0, Nat.zero_le _, rfl, HST.out⟩
  case round =>
    obtain ⟨j, hj, rfl, HQ⟩ := hrel
    by_cases hlt : j < k
    · have hcj : wr.cell? ⟨w.heap.size + 1, j, none⟩ = some (.int .u8 0) := by rw [HQ.out.1.cell j, cntC_get k j j hlt, if_neg (by omega)]
      have hfj := HQ.out.1.frozen j
      have HQ2 : Hid (Blk (wr.setCell ⟨w.heap.size + 1, j, none⟩ (.int .u8 ((j : Int) % 256))) (w.heap.size + 1) 5 (cntC k (j + 1)) ∧ Ext w (wr.setCell ⟨w.heap.size + 1, j, none⟩ (.int .u8 ((j : Int) % 256)))) := by
        refine ⟨?_, HQ.out.2.setCell (p := ⟨w.heap.size + 1, j, none⟩) (by simp) _⟩
        have := HQ.out.1.set j (u8 (UInt8.ofNat j))
        rw [cntC_set k j hlt] at this
        have e : u8 (UInt8.ofNat j) = .int .u8 ((j : Int) % 256) := by
          unfold Go.Proofs.Ytgcclkdlomifcaa.u8
          rw [UInt8.toNat_ofNat']
          rfl
        rw [e] at this
        exact this
      have hj0 : (0 : Int) ≤ (j : Int) := by omega
      have hjk : (j : Int) < (k : Int) := by omega
      clear HST
      go_wp2
      go_roundw
      case rel => exact ⟨j + 1, by omega, by go_num, HQ2.out⟩
      case measure => simp [intOf]; omega
    · obtain rfl : j = k := by omega
      have HSL : Hid (Sl Go.Proofs.Ytgcclkdlomifcaa.u8 wr (some ⟨w.heap.size + 1, 0, none⟩) (cntL j)) := cnt_sl wr _ j HQ.out.1
      have HX := Lib.hid HQ.out.2
      clear HST HQ
      have hcl := cntL_len j
      by_cases g1 : (j : Int) < 1
      · have CF : Hid (Calls Try.prog 15 #[.slice (some ⟨w.heap.size + 1, 0, none⟩) j j] wr fun e w' => e = .returned (.tuple #[.slice none 0 0, .int .i64 1]) ∧ wr = w') := frame_no _ j j wr (by omega) (.inl (by omega))
        clear hcl
        go_wp2_with (first | (go_at_call 15; (with_reducible refine CF.out.mono ?_); rintro e w2 ⟨rfl, rfl⟩) | (go_at_call 14; (with_reducible refine (HTO.out _).mono ?_); rintro e w5 ⟨rfl, hx⟩; have HX5 := Lib.hid hx; clear hx))
        try go_ret
        exact hD.out _ _ ⟨rfl, Ext.trans HX.out HX5.out⟩
      by_cases g2 : (4096 : Int) < (j : Int)
      · have CF : Hid (Calls Try.prog 15 #[.slice (some ⟨w.heap.size + 1, 0, none⟩) j j] wr fun e w' => e = .returned (.tuple #[.slice none 0 0, .int .i64 1]) ∧ wr = w') := frame_no _ j j wr (by omega) (.inr (by omega))
        clear hcl
        go_wp2_with (first | (go_at_call 15; (with_reducible refine CF.out.mono ?_); rintro e w2 ⟨rfl, rfl⟩) | (go_at_call 14; (with_reducible refine (HTO.out _).mono ?_); rintro e w5 ⟨rfl, hx⟩; have HX5 := Lib.hid hx; clear hx))
        try go_ret
        exact hD.out _ _ ⟨rfl, Ext.trans HX.out HX5.out⟩
      have CF : Hid (Calls Try.prog 15 #[.slice (some ⟨w.heap.size + 1, 0, none⟩) j j] wr fun e w' => ∃ A' c', e = .returned (.tuple #[.slice A' (j + 6) c', .int .i64 0]) ∧ w'.ownsRow wr.heap.size 5 1 (.slice A' (j + 6) c') (j + 6) ((frameB (cntL j)).map Go.Proofs.Ytgcclkdlomifcaa.u8) ∧ Ext wr w') := by
        have := frame_yes (some ⟨w.heap.size + 1, 0, none⟩) j (cntL j) wr HSL.out (by omega) (by omega)
        rwa [hcl] at this
      have HCL := Lib.hid hcl
      clear hcl
      go_wp2_with fail
      go_at_call 15
      with_reducible refine CF.out.mono ?_
      rintro e w2 ⟨A2, c2, rfl, ho, hx⟩
      have hfl : (frameB (cntL j)).length = j + 6 := by rw [frameB_len, HCL.out]
      have HS2 : Hid (Sl Go.Proofs.Ytgcclkdlomifcaa.u8 w2 A2 (frameB (cntL j))) := by
        obtain ⟨A9, c9, e, hs⟩ := own_view (l := frameB (cntL j)) (by rw [hfl]; exact ho)
        injection e with e1 e2 e3
        subst e1
        exact hs
      obtain ⟨hc2, hc2m⟩ : j + 6 ≤ c2 ∧ c2 ≤ 9223372036854775807 := by
        rcases ho.2 with ⟨e, hn⟩ | ⟨g, c, cur, e, _, _, h1, h2, _⟩
        · injection e with e1 e2 e3; omega
        · injection e with e1 e2 e3; unfold maxLen at h2; exact ⟨by omega, by omega⟩
      have X2 : Hid (Ext w w2) := Ext.trans HX.out hx
      have HSB2 : Hid (Sl Go.Proofs.Ytgcclkdlomifcaa.u8 w2 (some ⟨w.heap.size + 1, 0, none⟩) (cntL j)) := HSL.out.stay hx
      have hok : okR [cntL j] := fun x hx => by rw [List.mem_singleton.1 hx, HCL.out]; omega
      have hcat : catB [cntL j] ++ [] = frameB (cntL j) := by simp [catB]
      have hrd := read_cat [cntL j] [] hok stepB_nil
      have hre := end_cat [cntL j] [] hok stepB_nil
      rw [hcat] at hrd hre
      rw [show (catB [cntL j]).length = j + 6 by simp [catB]; exact hfl] at hre
      have CR : Hid (Calls Try.prog 17 #[.slice A2 (j + 6) c2] w2 fun e w' => ∃ A' c', e = .returned (.tuple #[.slice A' 1 c', .int .i64 (j + 6 : Nat)]) ∧ Sls w' A' [cntL j] ∧ Ext w2 w') := by
        have := read_any A2 c2 (frameB (cntL j)) w2 (by omega) (by omega) hc2m HS2.out
        rw [hfl, hrd, hre] at this
        exact this.mono fun e w' ⟨A', c', h1, h2, _, h4⟩ => ⟨A', c', h1, h2, h4⟩
      have HFL := Lib.hid hfl
      have HC2 := Lib.hid hc2
      clear ho hx hok hcat hrd hre hfl CF HSL hc2m hc2
      go_wp2_with fail
      go_at_call 17
      with_reducible refine CR.out.mono ?_
      rintro e w3 ⟨A3, c3, rfl, hs3, hx⟩
      obtain ⟨b3, o3, A4, c4, rfl, cl, hs4⟩ := hs3.at_ (j := 0) (by simp)
      have cl : w3.cell? ⟨b3, o3, none⟩ = some (.slice A4 (cntL j).length c4) := cl
      have hs4 : Sl Go.Proofs.Ytgcclkdlomifcaa.u8 w3 A4 (cntL j) := hs4
      rw [HCL.out] at cl
      have hs2' := HS2.out.stay hx
      have hsb' := HSB2.out.stay hx
      have X3 : Hid (Ext w w3) := Ext.trans X2.out hx
      obtain ⟨b2, o2, rfl, f0⟩ := hs2'.at_ (k := 0) (by rw [HFL.out]; omega)
      obtain ⟨b2', o2', e2, f1⟩ := hs2'.at_ (k := 1) (by rw [HFL.out]; omega)
      injection e2 with e2
      injection e2 with e3 e4
      subst e3 e4
      have f0' : w3.cell? ⟨b2, o2, none⟩ = some (.int .u8 ((j / 256 : Nat) : Int)) := by
        have e : u8 ((frameB (cntL j))[0]'(by rw [HFL.out]; omega)) = .int .u8 ((j / 256 : Nat) : Int) := by
          unfold Go.Proofs.Ytgcclkdlomifcaa.u8
          have : (frameB (cntL j))[0]'(by rw [HFL.out]; omega) = UInt8.ofNat ((cntL j).length / 256) := rfl
          rw [this, HCL.out, UInt8.toNat_ofNat', Nat.mod_eq_of_lt (by omega)]
        rw [e] at f0
        exact f0
      have f1' : w3.cell? ⟨b2, o2 + 1, none⟩ = some (.int .u8 ((j % 256 : Nat) : Int)) := by
        have e : u8 ((frameB (cntL j))[1]'(by rw [HFL.out]; omega)) = .int .u8 ((j % 256 : Nat) : Int) := by
          unfold Go.Proofs.Ytgcclkdlomifcaa.u8
          have : (frameB (cntL j))[1]'(by rw [HFL.out]; omega) = UInt8.ofNat ((cntL j).length) := rfl
          rw [this, HCL.out, UInt8.toNat_ofNat']
        rw [e] at f1
        exact f1
      obtain ⟨p0, hp0⟩ : ∃ p0, p0 = j / 256 := ⟨_, rfl⟩
      obtain ⟨p1, hp1⟩ : ∃ p1, p1 = j % 256 := ⟨_, rfl⟩
      have hpp : p0 * 256 + p1 = j := by omega
      have hpi : (p0 : Int) * 256 + (p1 : Int) = (j : Int) := by omega
      rw [← hp0] at f0'
      rw [← hp1] at f1'
      have hp16 : p0 ≤ 16 := by omega
      have hp256 : p1 < 256 := by omega
      have q1 : IntKind.i64.wrap (p0 : Int) = (p0 : Int) := IntWalk.i64_in _ (by omega)
      have q2 : IntKind.i64.wrap ((p0 : Int) * 256) = (p0 : Int) * 256 := IntWalk.i64_in _ (by omega)
      have q3 : IntKind.i64.wrap (p1 : Int) = (p1 : Int) := IntWalk.i64_in _ (by omega)
      have q4 : IntKind.i64.wrap ((p0 : Int) * 256 + (p1 : Int)) = (j : Int) := by rw [hpi]; exact IntWalk.i64_in _ (by omega)
      have q6 : IntKind.i64.wrap (j : Int) = (j : Int) := IntWalk.i64_in _ (by omega)
      have q5 : IntKind.i64.wrap ((j : Int) + 6) = (j : Int) + 6 := IntWalk.i64_in _ (by omega)
      have fz0 : ∀ V, Ext w3 V → V.cell? ⟨b2, o2, none⟩ = some (.int .u8 (p0 : Int)) := fun V h => cell_stay h f0'
      have fz1 : ∀ V, Ext w3 V → V.cell? ⟨b2, o2 + 1, none⟩ = some (.int .u8 (p1 : Int)) := fun V h => cell_stay h f1'
      have fz2 : ∀ V, Ext w3 V → V.cell? ⟨b3, o3, none⟩ = some (.slice A4 j c4) := fun V h => cell_stay h cl
      have hcvf : ∀ V, Ext w3 V → (convert 22 9 (.slice (some ⟨b2, o2, none⟩) (j + 6) c2)).run Try.prog V = .ok (.string (str (frameB (cntL j)))) V := fun V h => by
        have := run_strB (some ⟨b2, o2, none⟩) (frameB (cntL j)) c2 V (hs2'.stay h)
        rwa [HFL.out] at this
      have hcvb : ∀ V, Ext w3 V → (convert 22 9 (.slice (some ⟨w.heap.size + 1, 0, none⟩) j j)).run Try.prog V = .ok (.string (str (cntL j))) V := fun V h => by
        have := run_strB (some ⟨w.heap.size + 1, 0, none⟩) (cntL j) j V (hsb'.stay h)
        rwa [HCL.out] at this
      have hcvl : ∀ V, Ext w3 V → (convert 22 9 (.slice A4 j c4)).run Try.prog V = .ok (.string (str (cntL j))) V := fun V h => by
        have := run_strB A4 (cntL j) c4 V (hs4.stay h)
        rwa [HCL.out] at this
      have CRF : Hid (∀ V, Ext w3 V → Calls Try.prog 16 #[.string (str (cntL j))] V fun e w' => e = .returned (.string (str (frameB (cntL j)))) ∧ Ext V w') := fun V _ => refFrame_any (cntL j) V (by rw [HCL.out]; omega)
      have CTO : Hid (∀ V, Ext w3 V → Calls Try.prog 14 #[] V fun e w' => e = .returned (.bool true) ∧ Ext V w') := fun V _ => HTO.out V
      have E3 : Hid (Ext w3 w3) := Ext.refl _
      have i0 : (0 : Int) < (j : Int) + 6 := by omega
      have i1 : (1 : Int) < (j : Int) + 6 := by omega
      clear hs3 hs4 hs2' hsb' hx cl f0 f1 f0' f1' hp0 hp1 HS2 HSB2 CR hpp
      generalize str (frameB (cntL j)) = sf at *
      generalize str (cntL j) = sb at *
      go_wp2
      refine ext_begin (by kernel_rfl) ?_
      have E3d := Lib.hid (Ext.drewR E3.out)
      refine ext_call (i := 0) rfl (by kernel_rfl) (by rfl) (fun K' hK => ?_)
      go_simp
      (go_at_call 14; (with_reducible refine (CTO.out _ E3d.out).mono ?_); rintro e w5 ⟨rfl, hx⟩; refine hK _ _ hx ?_; clear hK)
      have Ew5 := Lib.hid (Ext.trans E3d.out hx)
      clear hx
      try simp only [Act.put, List.setIfInBounds_toArray, List.set_cons_zero, List.set_cons_succ]
      refine ext_take (i := 1) (v := ?_) rfl (by kernel_rfl) (by kernel_rfl) (by kernel_rfl) (fun _ _ _ h => h) (by rfl) ?_ ?_
      rotate_left
      · intro W hW; have hW0 := Ext.trans Ew5.out hW; clear hW; go_simp <;> with_reducible rfl
      try simp only [Act.put, List.setIfInBounds_toArray, List.set_cons_zero, List.set_cons_succ]
      refine ext_take (i := 2) (v := ?_) rfl (by kernel_rfl) (by kernel_rfl) (by kernel_rfl) (fun _ _ _ h => h) (by rfl) ?_ ?_
      rotate_left
      · intro W hW; have hW0 := Ext.trans Ew5.out hW; clear hW; go_simp <;> with_reducible rfl
      try simp only [Act.put, List.setIfInBounds_toArray, List.set_cons_zero, List.set_cons_succ]
      refine ext_take (i := 3) (v := .bool true) rfl (by kernel_rfl) (by kernel_rfl) (by kernel_rfl) (fun _ _ _ h => h) (by rfl) ?_ ?_
      · intro W hW; have hW0 := Ext.trans Ew5.out hW; clear hW; go_simp; all_goals (first | done | (simp; done) | omega)
      try simp only [Act.put, List.setIfInBounds_toArray, List.set_cons_zero, List.set_cons_succ]
      refine ext_take (i := 4) (v := ?_) rfl (by kernel_rfl) (by kernel_rfl) (by kernel_rfl) (fun _ _ _ h => h) (by rfl) ?_ ?_
      rotate_left
      · intro W hW; have hW0 := Ext.trans Ew5.out hW; clear hW; go_simp <;> with_reducible rfl
      try simp only [Act.put, List.setIfInBounds_toArray, List.set_cons_zero, List.set_cons_succ]
      refine ext_take (i := 5) (v := ?_) rfl (by kernel_rfl) (by kernel_rfl) (by kernel_rfl) (fun _ _ _ h => h) (by rfl) ?_ ?_
      rotate_left
      · intro W hW; have hW0 := Ext.trans Ew5.out hW; clear hW; go_simp <;> with_reducible rfl
      try simp only [Act.put, List.setIfInBounds_toArray, List.set_cons_zero, List.set_cons_succ]
      refine ext_take (i := 6) (v := ?_) rfl (by kernel_rfl) (by kernel_rfl) (by kernel_rfl) (fun _ _ _ h => h) (by rfl) ?_ ?_
      rotate_left
      · intro W hW; have hW0 := Ext.trans Ew5.out hW; clear hW; go_simp <;> with_reducible rfl
      try simp only [Act.put, List.setIfInBounds_toArray, List.set_cons_zero, List.set_cons_succ]
      refine ext_take (i := 7) (v := ?_) rfl (by kernel_rfl) (by kernel_rfl) (by kernel_rfl) (fun _ _ _ h => h) (by rfl) ?_ ?_
      rotate_left
      · intro W hW; have hW0 := Ext.trans Ew5.out hW; clear hW; go_simp <;> with_reducible rfl
      try simp only [Act.put, List.setIfInBounds_toArray, List.set_cons_zero, List.set_cons_succ]
      refine ext_take (i := 8) (v := ?_) rfl (by kernel_rfl) (by kernel_rfl) (by kernel_rfl) (fun _ _ _ h => h) (by rfl) ?_ ?_
      rotate_left
      · intro W hW; have hW0 := Ext.trans Ew5.out hW; clear hW; go_simp <;> with_reducible rfl
      try simp only [Act.put, List.setIfInBounds_toArray, List.set_cons_zero, List.set_cons_succ]
      refine ext_take (i := 9) (v := ?_) rfl (by kernel_rfl) (by kernel_rfl) (by kernel_rfl) (fun _ _ _ h => h) (by rfl) ?_ ?_
      rotate_left
      · intro W hW; have hW0 := Ext.trans Ew5.out hW; clear hW; go_simp <;> with_reducible rfl
      try simp only [Act.put, List.setIfInBounds_toArray, List.set_cons_zero, List.set_cons_succ]
      refine ext_take (i := 10) (v := .bool true) rfl (by kernel_rfl) (by kernel_rfl) (by kernel_rfl) (fun _ _ _ h => h) (by rfl) ?_ ?_
      · intro W hW; have hW0 := Ext.trans Ew5.out hW; clear hW; go_simp; all_goals (first | done | (simp; done) | omega)
      try simp only [Act.put, List.setIfInBounds_toArray, List.set_cons_zero, List.set_cons_succ]
      refine ext_take (i := 11) (v := ?_) rfl (by kernel_rfl) (by kernel_rfl) (by kernel_rfl) (fun _ _ _ h => h) (by rfl) ?_ ?_
      rotate_left
      · intro W hW; have hW0 := Ext.trans Ew5.out hW; clear hW; go_simp <;> with_reducible rfl
      try simp only [Act.put, List.setIfInBounds_toArray, List.set_cons_zero, List.set_cons_succ]
      refine ext_take (i := 12) (v := ?_) rfl (by kernel_rfl) (by kernel_rfl) (by kernel_rfl) (fun _ _ _ h => h) (by rfl) ?_ ?_
      rotate_left
      · intro W hW; have hW0 := Ext.trans Ew5.out hW; clear hW; go_simp <;> with_reducible rfl
      try simp only [Act.put, List.setIfInBounds_toArray, List.set_cons_zero, List.set_cons_succ]
      refine ext_take (i := 13) (v := ?_) rfl (by kernel_rfl) (by kernel_rfl) (by kernel_rfl) (fun _ _ _ h => h) (by rfl) ?_ ?_
      rotate_left
      · intro W hW; have hW0 := Ext.trans Ew5.out hW; clear hW; go_simp <;> with_reducible rfl
      try simp only [Act.put, List.setIfInBounds_toArray, List.set_cons_zero, List.set_cons_succ]
      refine ext_take (i := 14) (v := ?_) rfl (by kernel_rfl) (by kernel_rfl) (by kernel_rfl) (fun _ _ _ h => h) (by rfl) ?_ ?_
      rotate_left
      · intro W hW; have hW0 := Ext.trans Ew5.out hW; clear hW; go_simp <;> with_reducible rfl
      try simp only [Act.put, List.setIfInBounds_toArray, List.set_cons_zero, List.set_cons_succ]
      refine ext_take (i := 15) (v := ?_) rfl (by kernel_rfl) (by kernel_rfl) (by kernel_rfl) (fun _ _ _ h => h) (by rfl) ?_ ?_
      rotate_left
      · intro W hW; have hW0 := Ext.trans Ew5.out hW; clear hW; go_simp <;> with_reducible rfl
      try simp only [Act.put, List.setIfInBounds_toArray, List.set_cons_zero, List.set_cons_succ]
      refine ext_take (i := 16) (v := ?_) rfl (by kernel_rfl) (by kernel_rfl) (by kernel_rfl) (fun _ _ _ h => h) (by rfl) ?_ ?_
      rotate_left
      · intro W hW; have hW0 := Ext.trans Ew5.out hW; clear hW; go_simp <;> with_reducible rfl
      try simp only [Act.put, List.setIfInBounds_toArray, List.set_cons_zero, List.set_cons_succ]
      refine ext_take (i := 17) (v := ?_) rfl (by kernel_rfl) (by kernel_rfl) (by kernel_rfl) (fun _ _ _ h => h) (by rfl) ?_ ?_
      rotate_left
      · intro W hW; have hW0 := Ext.trans Ew5.out hW; clear hW; go_simp <;> with_reducible rfl
      try simp only [Act.put, List.setIfInBounds_toArray, List.set_cons_zero, List.set_cons_succ]
      refine ext_take (i := 18) (v := ?_) rfl (by kernel_rfl) (by kernel_rfl) (by kernel_rfl) (fun _ _ _ h => h) (by rfl) ?_ ?_
      rotate_left
      · intro W hW; have hW0 := Ext.trans Ew5.out hW; clear hW; go_simp <;> with_reducible rfl
      try simp only [Act.put, List.setIfInBounds_toArray, List.set_cons_zero, List.set_cons_succ]
      refine ext_take (i := 19) (v := ?_) rfl (by kernel_rfl) (by kernel_rfl) (by kernel_rfl) (fun _ _ _ h => h) (by rfl) ?_ ?_
      rotate_left
      · intro W hW; have hW0 := Ext.trans Ew5.out hW; clear hW; go_simp <;> with_reducible rfl
      try simp only [Act.put, List.setIfInBounds_toArray, List.set_cons_zero, List.set_cons_succ]
      refine ext_take (i := 20) (v := ?_) rfl (by kernel_rfl) (by kernel_rfl) (by kernel_rfl) (fun _ _ _ h => h) (by rfl) ?_ ?_
      rotate_left
      · intro W hW; have hW0 := Ext.trans Ew5.out hW; clear hW; go_simp <;> with_reducible rfl
      try simp only [Act.put, List.setIfInBounds_toArray, List.set_cons_zero, List.set_cons_succ]
      refine ext_take (i := 21) (v := ?_) rfl (by kernel_rfl) (by kernel_rfl) (by kernel_rfl) (fun _ _ _ h => h) (by rfl) ?_ ?_
      rotate_left
      · intro W hW; have hW0 := Ext.trans Ew5.out hW; clear hW; go_simp <;> with_reducible rfl
      try simp only [Act.put, List.setIfInBounds_toArray, List.set_cons_zero, List.set_cons_succ]
      refine ext_take (i := 22) (v := ?_) rfl (by kernel_rfl) (by kernel_rfl) (by kernel_rfl) (fun _ _ _ h => h) (by rfl) ?_ ?_
      rotate_left
      · intro W hW; have hW0 := Ext.trans Ew5.out hW; clear hW; go_simp <;> with_reducible rfl
      try simp only [Act.put, List.setIfInBounds_toArray, List.set_cons_zero, List.set_cons_succ]
      refine ext_take (i := 23) (v := ?_) rfl (by kernel_rfl) (by kernel_rfl) (by kernel_rfl) (fun _ _ _ h => h) (by rfl) ?_ ?_
      rotate_left
      · intro W hW; have hW0 := Ext.trans Ew5.out hW; clear hW; go_simp <;> with_reducible rfl
      try simp only [Act.put, List.setIfInBounds_toArray, List.set_cons_zero, List.set_cons_succ]
      refine ext_take (i := 24) (v := .bool true) rfl (by kernel_rfl) (by kernel_rfl) (by kernel_rfl) (fun _ _ _ h => h) (by rfl) ?_ ?_
      · intro W hW; have hW0 := Ext.trans Ew5.out hW; clear hW; go_simp; all_goals (first | done | (simp; done) | omega)
      try simp only [Act.put, List.setIfInBounds_toArray, List.set_cons_zero, List.set_cons_succ]
      refine ext_take (i := 25) (v := ?_) rfl (by kernel_rfl) (by kernel_rfl) (by kernel_rfl) (fun _ _ _ h => h) (by rfl) ?_ ?_
      rotate_left
      · intro W hW; have hW0 := Ext.trans Ew5.out hW; clear hW; go_simp <;> with_reducible rfl
      try simp only [Act.put, List.setIfInBounds_toArray, List.set_cons_zero, List.set_cons_succ]
      refine ext_take (i := 26) (v := ?_) rfl (by kernel_rfl) (by kernel_rfl) (by kernel_rfl) (fun _ _ _ h => h) (by rfl) ?_ ?_
      rotate_left
      · intro W hW; have hW0 := Ext.trans Ew5.out hW; clear hW; go_simp <;> with_reducible rfl
      try simp only [Act.put, List.setIfInBounds_toArray, List.set_cons_zero, List.set_cons_succ]
      refine ext_take (i := 27) (v := ?_) rfl (by kernel_rfl) (by kernel_rfl) (by kernel_rfl) (fun _ _ _ h => h) (by rfl) ?_ ?_
      rotate_left
      · intro W hW; have hW0 := Ext.trans Ew5.out hW; clear hW; go_simp <;> with_reducible rfl
      try simp only [Act.put, List.setIfInBounds_toArray, List.set_cons_zero, List.set_cons_succ]
      refine ext_take (i := 28) (v := .string sf) rfl (by kernel_rfl) (by kernel_rfl) (by kernel_rfl) (fun _ _ _ h => h) (by rfl) ?_ ?_
      · intro W hW; have hW0 := Ext.trans Ew5.out hW; have hcw := hcvf _ hW0; go_simp; first | done | exact hcw | (rw [hcw])
      try simp only [Act.put, List.setIfInBounds_toArray, List.set_cons_zero, List.set_cons_succ]
      refine ext_take (i := 29) (v := ?_) rfl (by kernel_rfl) (by kernel_rfl) (by kernel_rfl) (fun _ _ _ h => h) (by rfl) ?_ ?_
      rotate_left
      · intro W hW; have hW0 := Ext.trans Ew5.out hW; clear hW; go_simp <;> with_reducible rfl
      try simp only [Act.put, List.setIfInBounds_toArray, List.set_cons_zero, List.set_cons_succ]
      refine ext_take (i := 30) (v := .string sb) rfl (by kernel_rfl) (by kernel_rfl) (by kernel_rfl) (fun _ _ _ h => h) (by rfl) ?_ ?_
      · intro W hW; have hW0 := Ext.trans Ew5.out hW; have hcw := hcvb _ hW0; go_simp; first | done | exact hcw | (rw [hcw])
      try simp only [Act.put, List.setIfInBounds_toArray, List.set_cons_zero, List.set_cons_succ]
      refine ext_call (i := 31) rfl (by kernel_rfl) (by rfl) (fun K' hK => ?_)
      go_simp
      (go_at_call 16; (with_reducible refine (CRF.out _ Ew5.out).mono ?_); rintro e w6 ⟨rfl, hx⟩; refine hK _ _ hx ?_; clear hK)
      have Ew6 := Lib.hid (Ext.trans Ew5.out hx)
      clear hx
      try simp only [Act.put, List.setIfInBounds_toArray, List.set_cons_zero, List.set_cons_succ]
      refine ext_take (i := 32) (v := .bool true) rfl (by kernel_rfl) (by kernel_rfl) (by kernel_rfl) (fun _ _ _ h => h) (by rfl) ?_ ?_
      · intro W hW; have hW0 := Ext.trans Ew6.out hW; clear hW; go_simp; all_goals (first | done | (simp; done) | omega)
      try simp only [Act.put, List.setIfInBounds_toArray, List.set_cons_zero, List.set_cons_succ]
      refine ext_take (i := 33) (v := ?_) rfl (by kernel_rfl) (by kernel_rfl) (by kernel_rfl) (fun _ _ _ h => h) (by rfl) ?_ ?_
      rotate_left
      · intro W hW; have hW0 := Ext.trans Ew6.out hW; clear hW; go_simp <;> with_reducible rfl
      try simp only [Act.put, List.setIfInBounds_toArray, List.set_cons_zero, List.set_cons_succ]
      refine ext_take (i := 34) (v := ?_) rfl (by kernel_rfl) (by kernel_rfl) (by kernel_rfl) (fun _ _ _ h => h) (by rfl) ?_ ?_
      rotate_left
      · intro W hW; have hW0 := Ext.trans Ew6.out hW; clear hW; go_simp <;> with_reducible rfl
      try simp only [Act.put, List.setIfInBounds_toArray, List.set_cons_zero, List.set_cons_succ]
      refine ext_take (i := 35) (v := ?_) rfl (by kernel_rfl) (by kernel_rfl) (by kernel_rfl) (fun _ _ _ h => h) (by rfl) ?_ ?_
      rotate_left
      · intro W hW; have hW0 := Ext.trans Ew6.out hW; clear hW; go_simp <;> with_reducible rfl
      try simp only [Act.put, List.setIfInBounds_toArray, List.set_cons_zero, List.set_cons_succ]
      refine ext_take (i := 36) (v := ?_) rfl (by kernel_rfl) (by kernel_rfl) (by kernel_rfl) (fun _ _ _ h => h) (by rfl) ?_ ?_
      rotate_left
      · intro W hW; have hW0 := Ext.trans Ew6.out hW; clear hW; go_simp <;> with_reducible rfl
      try simp only [Act.put, List.setIfInBounds_toArray, List.set_cons_zero, List.set_cons_succ]
      refine ext_take (i := 37) (v := .bool true) rfl (by kernel_rfl) (by kernel_rfl) (by kernel_rfl) (fun _ _ _ h => h) (by rfl) ?_ ?_
      · intro W hW; have hW0 := Ext.trans Ew6.out hW; clear hW; go_simp; all_goals (first | done | (simp; done) | omega)
      try simp only [Act.put, List.setIfInBounds_toArray, List.set_cons_zero, List.set_cons_succ]
      refine ext_take (i := 38) (v := ?_) rfl (by kernel_rfl) (by kernel_rfl) (by kernel_rfl) (fun _ _ _ h => h) (by rfl) ?_ ?_
      rotate_left
      · intro W hW; have hW0 := Ext.trans Ew6.out hW; clear hW; go_simp <;> with_reducible rfl
      try simp only [Act.put, List.setIfInBounds_toArray, List.set_cons_zero, List.set_cons_succ]
      refine ext_take (i := 39) (v := ?_) rfl (by kernel_rfl) (by kernel_rfl) (by kernel_rfl) (fun _ _ _ h => h) (by rfl) ?_ ?_
      rotate_left
      · intro W hW; have hW0 := Ext.trans Ew6.out hW; clear hW; go_simp <;> with_reducible rfl
      try simp only [Act.put, List.setIfInBounds_toArray, List.set_cons_zero, List.set_cons_succ]
      refine ext_take (i := 40) (v := ?_) rfl (by kernel_rfl) (by kernel_rfl) (by kernel_rfl) (fun _ _ _ h => h) (by rfl) ?_ ?_
      rotate_left
      · intro W hW; have hW0 := Ext.trans Ew6.out hW; clear hW; go_simp <;> with_reducible rfl
      try simp only [Act.put, List.setIfInBounds_toArray, List.set_cons_zero, List.set_cons_succ]
      refine ext_take (i := 41) (v := ?_) rfl (by kernel_rfl) (by kernel_rfl) (by kernel_rfl) (fun _ _ _ h => h) (by rfl) ?_ ?_
      rotate_left
      · intro W hW; have hW0 := Ext.trans Ew6.out hW; clear hW; go_simp <;> with_reducible rfl
      try simp only [Act.put, List.setIfInBounds_toArray, List.set_cons_zero, List.set_cons_succ]
      refine ext_take (i := 42) (v := ?_) rfl (by kernel_rfl) (by kernel_rfl) (by kernel_rfl) (fun _ _ _ h => h) (by rfl) ?_ ?_
      rotate_left
      · intro W hW; have hW0 := Ext.trans Ew6.out hW; clear hW; go_simp <;> with_reducible rfl
      try simp only [Act.put, List.setIfInBounds_toArray, List.set_cons_zero, List.set_cons_succ]
      refine ext_take (i := 43) (v := .bool true) rfl (by kernel_rfl) (by kernel_rfl) (by kernel_rfl) (fun _ _ _ h => h) (by rfl) ?_ ?_
      · intro W hW; have hW0 := Ext.trans Ew6.out hW; clear hW; go_simp; all_goals (first | done | (simp; done) | omega)
      try simp only [Act.put, List.setIfInBounds_toArray, List.set_cons_zero, List.set_cons_succ]
      refine ext_take (i := 44) (v := ?_) rfl (by kernel_rfl) (by kernel_rfl) (by kernel_rfl) (fun _ _ _ h => h) (by rfl) ?_ ?_
      rotate_left
      · intro W hW; have hW0 := Ext.trans Ew6.out hW; clear hW; go_simp <;> with_reducible rfl
      try simp only [Act.put, List.setIfInBounds_toArray, List.set_cons_zero, List.set_cons_succ]
      refine ext_take (i := 45) (v := ?_) rfl (by kernel_rfl) (by kernel_rfl) (by kernel_rfl) (fun _ _ _ h => h) (by rfl) ?_ ?_
      rotate_left
      · intro W hW; have hW0 := Ext.trans Ew6.out hW; clear hW; go_simp <;> with_reducible rfl
      try simp only [Act.put, List.setIfInBounds_toArray, List.set_cons_zero, List.set_cons_succ]
      refine ext_take (i := 46) (v := ?_) rfl (by kernel_rfl) (by kernel_rfl) (by kernel_rfl) (fun _ _ _ h => h) (by rfl) ?_ ?_
      rotate_left
      · intro W hW; have hW0 := Ext.trans Ew6.out hW; clear hW; go_simp <;> with_reducible rfl
      try simp only [Act.put, List.setIfInBounds_toArray, List.set_cons_zero, List.set_cons_succ]
      refine ext_take (i := 47) (v := ?_) rfl (by kernel_rfl) (by kernel_rfl) (by kernel_rfl) (fun _ _ _ h => h) (by rfl) ?_ ?_
      rotate_left
      · intro W hW; have hW0 := Ext.trans Ew6.out hW; clear hW; go_simp <;> with_reducible rfl
      try simp only [Act.put, List.setIfInBounds_toArray, List.set_cons_zero, List.set_cons_succ]
      refine ext_take (i := 48) (v := ?_) rfl (by kernel_rfl) (by kernel_rfl) (by kernel_rfl) (fun _ _ _ h => h) (by rfl) ?_ ?_
      rotate_left
      · intro W hW; have hW0 := Ext.trans Ew6.out hW; clear hW; go_simp <;> with_reducible rfl
      try simp only [Act.put, List.setIfInBounds_toArray, List.set_cons_zero, List.set_cons_succ]
      refine ext_take (i := 49) (v := .string sb) rfl (by kernel_rfl) (by kernel_rfl) (by kernel_rfl) (fun _ _ _ h => h) (by rfl) ?_ ?_
      · intro W hW; have hW0 := Ext.trans Ew6.out hW; have hcw := hcvl _ hW0; go_simp; first | done | exact hcw | (rw [hcw])
      try simp only [Act.put, List.setIfInBounds_toArray, List.set_cons_zero, List.set_cons_succ]
      refine ext_take (i := 50) (v := ?_) rfl (by kernel_rfl) (by kernel_rfl) (by kernel_rfl) (fun _ _ _ h => h) (by rfl) ?_ ?_
      rotate_left
      · intro W hW; have hW0 := Ext.trans Ew6.out hW; clear hW; go_simp <;> with_reducible rfl
      try simp only [Act.put, List.setIfInBounds_toArray, List.set_cons_zero, List.set_cons_succ]
      refine ext_take (i := 51) (v := .string sb) rfl (by kernel_rfl) (by kernel_rfl) (by kernel_rfl) (fun _ _ _ h => h) (by rfl) ?_ ?_
      · intro W hW; have hW0 := Ext.trans Ew6.out hW; have hcw := hcvb _ hW0; go_simp; first | done | exact hcw | (rw [hcw])
      try simp only [Act.put, List.setIfInBounds_toArray, List.set_cons_zero, List.set_cons_succ]
      refine ext_take (i := 52) (v := .bool true) rfl (by kernel_rfl) (by kernel_rfl) (by kernel_rfl) (fun _ _ _ h => h) (by rfl) ?_ ?_
      · intro W hW; have hW0 := Ext.trans Ew6.out hW; clear hW; go_simp; all_goals (first | done | (simp; done) | omega)
      try simp only [Act.put, List.setIfInBounds_toArray, List.set_cons_zero, List.set_cons_succ]
      refine ext_take (i := 53) (v := ?_) rfl (by kernel_rfl) (by kernel_rfl) (by kernel_rfl) (fun _ _ _ h => h) (by rfl) ?_ ?_
      rotate_left
      · intro W hW; have hW0 := Ext.trans Ew6.out hW; clear hW; go_simp <;> with_reducible rfl
      try simp only [Act.put, List.setIfInBounds_toArray, List.set_cons_zero, List.set_cons_succ]
      refine ext_take (i := 54) (v := ?_) rfl (by kernel_rfl) (by kernel_rfl) (by kernel_rfl) (fun _ _ _ h => h) (by rfl) ?_ ?_
      rotate_left
      · intro W hW; have hW0 := Ext.trans Ew6.out hW; clear hW; go_simp <;> with_reducible rfl
      try simp only [Act.put, List.setIfInBounds_toArray, List.set_cons_zero, List.set_cons_succ]
      refine wpAnyH_done (by kernel_rfl) ?_ _
      clear hcvf hcvb hcvl fz0 fz1 fz2
      go_wp2
      try go_ret
      exact hD.out _ _ ⟨rfl, Ext.trans X3.out Ew6.out⟩

set_option maxRecDepth 100000 in
theorem law_walBounds {H : Type} {enc : TypeId × Value → H} (W : World) (base : Nat) (args : Array Value) (ds : List (DataW H)) (p : List MemPlace)
    (hval : ∀ (j : Nat) t v, Try.f6.params[j]? = some t → args[j]? = some v → Value.okWide Try.prog W .any base t v)
    (hA : DataW.TrodAll enc Try.prog W 0 (fun _ => true) true Try.f6.params.toList args.toList ds p) :
    Calls Try.prog 6 args W fun e W' => e = .returned (.bool true) ∧ Below W.heap.size W W' := by
  rw [Try.params6] at hA hval
  obtain ⟨v0, vs0, d0, ds0, p0, q0, hargs, rfl, rfl, h0, r0⟩ := trodAll_cons hA
  obtain ⟨rfl, rfl, rfl⟩ := trodAll_nil r0
  obtain rfl : args = #[v0] := by cases args; simp_all
  obtain ⟨a0, rfl, rfl, rfl, w0⟩ := open_int Try.underlying3 (hval 0 3 v0 rfl rfl) h0
  exact walk_walBounds a0 W (bounds_i64 w0)

end Go.Proofs.Ytgcclkdlomifcaa
