/-
  The walk of the law RetryFirst.
-/
import Derived.Test.YtbjekbbokhjfmaaToldRetry
import Derived.Test.YtbjekbbokhjfmaaOpen
import Derived.Test.YtbjekbbokhjfmaaOwn
import Derived.Deep.Cut
namespace Go.Proofs.Ytbjekbbokhjfmaa
set_option linter.unusedVariables false
set_option linter.unusedSimpArgs false
open Go.RowKit Go.ChangeShapes Go.WideShapes

/-- the law's chain so far (its box: block g), which nodes are in it (block g + 1) -/
def Fst (w0 W : World) (D : List Int) : Prop :=
  Below w0.heap.size w0 W ∧ (∃ v, Blk W w0.heap.size 24 #[.int .i64 3, v] ∧ W.ownsRow (w0.heap.size + 1 + 1) 3 1 v D.length (D.map i64)) ∧
    (∃ cs : Array Value, Blk W (w0.heap.size + 1) 32 cs ∧ cs.size = 5 ∧ ∀ r : Nat, r < 5 → cs[r]? = some (.bool (decide ((r : Int) ∈ D)))) ∧ D.all (fun x => decide (0 ≤ x ∧ x < 5)) = true

section
variable {w0 W W' : World} {D : List Int}
theorem Fst.stay (H : Fst w0 W D) (hb : Below W.heap.size W W') : Fst w0 W' D := by
  obtain ⟨h1, ⟨v, h2, h3⟩, ⟨cs, h4, h5, h6⟩, h7⟩ := H
  exact ⟨Below.step h1 hb, ⟨v, h2.stay hb, h3.kept (grown_below hb none) (by cases hv : v.ownBlock <;> simp)⟩, ⟨cs, h4.stay hb, h5, h6⟩, h7⟩
theorem Fst.mark (H : Fst w0 W D) (r : Nat) (hr : r < 5) : W.cell? ⟨w0.heap.size + 1, r, none⟩ = some (.bool (decide ((r : Int) ∈ D))) ∧ W.frozen? ⟨w0.heap.size + 1, r, none⟩ = false := by
  obtain ⟨_, _, ⟨cs, h4, h5, h6⟩, _⟩ := H
  exact ⟨by rw [h4.cell, h6 r hr], h4.frozen _⟩
theorem Fst.view (H : Fst w0 W D) : ∃ A cap, W.cell? ⟨w0.heap.size, 0, none⟩ = some (.int .i64 3) ∧ W.cell? ⟨w0.heap.size, 1, none⟩ = some (.slice A D.length cap) ∧ Sl i64 W A D := by
  obtain ⟨_, ⟨v, h2, h3⟩, _, _⟩ := H
  obtain ⟨A, cap, rfl, hs⟩ := own_view h3
  exact ⟨A, cap, h2.cell 0, h2.cell 1, hs⟩
theorem Fst.start (w : World) : Fst w ((w.alloc (.cells #[.int .i64 3, .slice none 0 0] 24)).alloc (.cells #[.bool false, .bool false, .bool false, .bool false, .bool false] 32)) [] :=
  ⟨((Below.refl _ _).alloc (Nat.le_refl _) _).alloc (by simp) _, ⟨.slice none 0 0, (Blk.new _ _ _).alloc _, World.ownsRow_nil _ _ _ _⟩,
    ⟨_, Blk.new' _ _ _ _ (by simp), rfl, fun r hr => by match r, hr with | 0, _ => rfl | 1, _ => rfl | 2, _ => rfl | 3, _ => rfl | 4, _ => rfl⟩, rfl⟩
/-- x is marked, then appended: 'Mid' between the two -/
theorem Fst.put {v : Value} {cs : Array Value} (x : Nat) (hx : x < 5) (h1 : Below w0.heap.size w0 W) (h2 : Blk W w0.heap.size 24 #[.int .i64 3, v]) (h3 : W.ownsRow (w0.heap.size + 1 + 1) 3 1 v D.length (D.map i64))
    (h4 : Blk W (w0.heap.size + 1) 32 cs) (h5 : cs.size = 5) (h6 : ∀ r : Nat, r < 5 → cs[r]? = some (.bool (decide ((r : Int) ∈ D)))) (h7 : D.all (fun x => decide (0 ≤ x ∧ x < 5)) = true) {v' : Value}
    (hg : ((W.setCell ⟨w0.heap.size + 1, x, none⟩ (.bool true)).alloc (.cells #[.int .i64 x] 3)).grownBy W' v.ownBlock) (ho : W'.ownsRow (w0.heap.size + 1 + 1) 3 1 v' (D.length + 1) (D.map i64 ++ [i64 x])) :
    Fst w0 (W'.setCell ⟨w0.heap.size, 1, none⟩ v') (D ++ [(x : Int)]) ∧ Blk W' w0.heap.size 24 #[.int .i64 3, v] := by
  have hown : ∀ k, v.ownBlock = some k → w0.heap.size + 1 + 1 ≤ k := fun k hk => (h3.lt k hk).1
  have hne : ∀ g, g < w0.heap.size + 1 + 1 → some g ≠ v.ownBlock := fun g hg he => by have := hown g he.symm; omega
  have hlt := h4.lt
  have k2 : Blk W' w0.heap.size 24 #[.int .i64 3, v] := ((h2.far (p := ⟨w0.heap.size + 1, x, none⟩) (by show w0.heap.size ≠ w0.heap.size + 1; omega) _).alloc _).grown hg (hne _ (by omega))
  have k4 := ((h4.set x (.bool true)).alloc (.cells #[.int .i64 x] 3)).grown hg (hne _ (by omega))
  refine ⟨⟨?_, ⟨v', ?_, ?_⟩, ⟨cs.setIfInBounds x (.bool true), k4.far (by show w0.heap.size + 1 ≠ w0.heap.size; omega) _, by simp [h5], fun r hr => ?_⟩, ?_⟩, k2⟩
  · refine Below.setCell (p := ⟨w0.heap.size, 1, none⟩) ?_ (Nat.le_refl _) _
    exact ((h1.setCell (by show w0.heap.size ≤ w0.heap.size + 1; omega) _).alloc (by simp [World.setCell]; omega) _).grown hg (by simp [World.setCell]; omega) (fun k hk => by have := hown k hk; omega)
  · have := k2.set 1 v'; simpa using this
  · have := ownsRow_setCell_below ho (a := ⟨w0.heap.size, 1, none⟩) (by show w0.heap.size < w0.heap.size + 1 + 1; omega) v'
    simpa using this
  · rw [Array.getElem?_setIfInBounds]
    by_cases e : x = r
    · subst e; rw [if_pos rfl, if_pos (by omega)]; simp
    · rw [if_neg e, h6 r hr]
      have : ¬ (r : Int) = x := by omega
      simp [this]
  · simp only [List.all_append, h7, Bool.true_and, List.all_cons, List.all_nil, Bool.and_true, decide_eq_true_eq]
    omega
end

/-- those of the first i of a list, each mod 5, each once -/
def firsts (l : List Int) : Nat → List Int
  | 0 => []
  | i + 1 => if wrap64 ((IntKind.u64.wrap (l.getD i 0)).tmod 5) ∈ firsts l i then firsts l i else firsts l i ++ [wrap64 ((IntKind.u64.wrap (l.getD i 0)).tmod 5)]
theorem firsts_len (l : List Int) : ∀ i, (firsts l i).length ≤ i
  | 0 => Nat.le_refl _
  | i + 1 => by have := firsts_len l i; unfold firsts; split <;> simp <;> omega
theorem firsts_hit {l : List Int} {i : Nat} {x : Int} (hx : wrap64 ((IntKind.u64.wrap (l.getD i 0)).tmod 5) = x) (h : x ∈ firsts l i) : firsts l (i + 1) = firsts l i := by
  subst hx; exact if_pos h
theorem firsts_new {l : List Int} {i : Nat} {x : Int} (hx : wrap64 ((IntKind.u64.wrap (l.getD i 0)).tmod 5) = x) (h : ¬ x ∈ firsts l i) : firsts l (i + 1) = firsts l i ++ [x] := by
  subst hx; exact if_neg h

theorem target_empty_list (t : Int) (b : Bool) (h1 : 1 ≤ t) (h2 : t ≤ 2) : targetF [] 5 t b = t := by
  unfold targetF; simp; omega
theorem target_seven (t : Int) (b : Bool) (h1 : 1 ≤ t) (h2 : t ≤ 2) : targetF [7] 5 t b = t := by
  unfold targetF
  rw [if_neg (by omega), if_pos (by simp [badB])]
  omega
theorem target_some {D : List Int} (t : Int) (b : Bool) (h1 : 1 ≤ t) (h2 : t ≤ 2) (hne : D ≠ []) (hD : D.all (fun x => decide (0 ≤ x ∧ x < 5)) = true) :
    ∃ x : Nat, targetF D 5 t b = (x : Int) ∧ x < 5 ∧ (x : Int) ∈ D ∧ (b = true → D.getD 0 0 = (x : Int)) := by
  have hpos : 0 < D.length := List.length_pos_iff.2 hne
  have hbad : D.any (badB 5) = false := by
    rw [List.any_eq_false]
    intro x hx
    have := List.all_eq_true.1 hD x hx
    simp only [decide_eq_true_eq] at this
    simp only [badB, decide_eq_true_eq]
    omega
  have key : ∀ i : Nat, i < D.length → ∃ x : Nat, D.getD i 0 = (x : Int) ∧ x < 5 ∧ (x : Int) ∈ D := fun i hi => by
    have hm : D.getD i 0 ∈ D := by rw [List.getD, List.getElem?_eq_getElem hi]; exact List.getElem_mem hi
    have := List.all_eq_true.1 hD _ hm
    simp only [decide_eq_true_eq] at this
    exact ⟨(D.getD i 0).toNat, by omega, by omega, by rw [Int.toNat_of_nonneg this.1]; exact hm⟩
  unfold targetF
  rw [if_neg (by omega), if_neg (by rw [hbad]; simp only [hne, Bool.false_eq_true, or_false]; omega)]
  cases b
  · rw [if_neg (by simp)]
    have hm0 : 0 ≤ t % (D.length : Int) := Int.emod_nonneg _ (by omega)
    have hm1 : t % (D.length : Int) < D.length := Int.emod_lt_of_pos _ (by omega)
    obtain ⟨x, e, hx, hm⟩ := key (t % (D.length : Int)).toNat (by omega)
    exact ⟨x, e, hx, hm, by simp⟩
  · rw [if_pos rfl]
    obtain ⟨x, e, hx, hm⟩ := key 0 hpos
    exact ⟨x, e, hx, hm, fun _ => e⟩
theorem Fst.target {w0 W : World} {D : List Int} (H : Fst w0 W D) (hl : D.length ≤ 1000) (A : Option Addr) (cap : Nat) (hs : Sl i64 W A D) (t : Int) (b : Bool) :
    Calls Try.prog 16 #[.agg #[.int .i64 3, .slice A D.length cap], .int .i64 5, .int .i64 t, .bool b] W fun e w' => e = .returned (.int .i64 (targetF D 5 t b)) ∧ Fst w0 w' D :=
  (target_any 3 A cap D 5 t b W (by omega) hs).mono fun _ _ ⟨he, hb⟩ => ⟨he, H.stay hb⟩
theorem Fst.told {w0 W : World} {D : List Int} (H : Fst w0 W D) : Calls Try.prog 15 #[] W fun e w' => e = .returned (.bool true) ∧ Fst w0 w' D :=
  (told_retry W).mono fun _ _ ⟨he, hb⟩ => ⟨he, H.stay hb⟩
theorem Fst.seven {w0 W : World} {D : List Int} (H : Fst w0 W D) (t : Int) (b : Bool) (h1 : 1 ≤ t) (h2 : t ≤ 2) :
    Calls Try.prog 16 #[.agg #[.int .i64 0, .slice (some ⟨W.heap.size, 0, none⟩) 1 1], .int .i64 5, .int .i64 t, .bool b] (W.alloc (.cells #[.int .i64 7] 3)) fun e w' => e = .returned (.int .i64 t) ∧ Below w0.heap.size w0 w' :=
  (target_any 0 _ 1 [7] 5 t b _ (by simp) (Sl.of_blk (Blk.new W _ _) (fun j v hj => by match j, hj with | 0, hj => (simp at hj; subst hj; rfl)))).mono fun _ _ ⟨he, hb⟩ =>
    ⟨by rw [he, target_seven t b h1 h2], Below.step (Below.step H.1 ((Below.refl _ _).alloc (Nat.le_refl _) _)) hb⟩

set_option maxHeartbeats 4000000 in
theorem walk_retryFirst (A : Option Addr) (cap : Nat) (l : List Int) (b c : Bool) (w : World) (hbig : l.length ≤ 9223372036854775807) (hs : Sl i64 w A l) :
    Calls Try.prog 4 #[.slice A l.length cap, .bool b, .bool c] w fun e w' => e = .returned (.bool true) ∧ Below w.heap.size w w' := by
  obtain ⟨N, hN⟩ : ∃ N, N = l.length := ⟨_, rfl⟩
  rw [← hN] at hbig ⊢
  have HN := Lib.hid hN
  have HS := Lib.hid hs
  have H0 := Lib.hid (Fst.start w)
  clear hN hs
  go_enter Try.func4, Try.ntmps4
  go_wp2
  go_loopw [9] (fun i wr => ∃ k : Nat, k ≤ N ∧ k ≤ 20 ∧ i = .int .i64 k ∧ Hid (Fst w wr (firsts l k))) (fun i _ => N - (intOf i).toNat)
  case atStart => exact ⟨0, Nat.zero_le _, by omega, rfl, H0⟩
  case round =>
    obtain ⟨k, hk, hk2, rfl, HR⟩ := hrel
    by_cases hgo : k < N ∧ k < 20
    · obtain ⟨hlt, h20⟩ := hgo
      obtain ⟨b1, o1, rfl, hcell⟩ := (HS.out.stay (Below.mono HR.out.1 (Nat.le_refl _))).at_ (k := k) (by rw [← HN.out]; exact hlt)
      have hget : l[k]'(by rw [← HN.out]; exact hlt) = l.getD k 0 := by rw [List.getD, List.getElem?_eq_getElem]; rfl
      rw [hget] at hcell
      unfold i64 at hcell
      have hl := firsts_len l k
      obtain ⟨x0, x5⟩ := umod_bd (l.getD k 0) 5 (by omega) (by omega)
      obtain ⟨x, hx⟩ : ∃ x : Nat, wrap64 ((IntKind.u64.wrap (l.getD k 0)).tmod 5) = (x : Int) := ⟨_, (Int.toNat_of_nonneg x0).symm⟩
      have hx5 : x < 5 := by omega
      obtain ⟨hm, hf⟩ := HR.out.mark x hx5
      have HX := Lib.hid hx
      clear x0 x5 hget
      by_cases hin : (x : Int) ∈ firsts l k
      · have HE : Hid (Fst w wr (firsts l (k + 1))) := by show Fst _ _ _; rw [firsts_hit HX.out hin]; exact HR.out
        rw [decide_eq_true hin] at hm
        clear hin
        generalize l.getD k 0 = y at *
        go_wp2
        go_roundw
        case rel => exact ⟨k + 1, by omega, by omega, by go_num, HE⟩
        case measure => simp [intOf]; omega
      · have HU := Lib.hid (firsts_new HX.out hin)
        rw [decide_eq_false hin] at hm
        clear hin
        generalize l.getD k 0 = y at *
        obtain ⟨h1, ⟨v, h2, h3⟩, ⟨cs, h4, h5, h6⟩, h7⟩ := HR.out
        have HP : Hid (∀ v' w', ((wr.setCell ⟨w.heap.size + 1, x, none⟩ (.bool true)).alloc (.cells #[.int .i64 x] 3)).grownBy w' v.ownBlock → w'.ownsRow (w.heap.size + 1 + 1) 3 1 v' ((firsts l k).length + 1) ((firsts l k).map i64 ++ [i64 x]) →
            Fst w (w'.setCell ⟨w.heap.size, 1, none⟩ v') (firsts l (k + 1)) ∧ Blk w' w.heap.size 24 #[.int .i64 3, v]) := fun v' w' hg ho => by
          rw [HU.out]; exact Fst.put x hx5 h1 h2 h3 h4 h5 h6 h7 hg ho
        have HO : Hid (((wr.setCell ⟨w.heap.size + 1, x, none⟩ (.bool true)).alloc (.cells #[.int .i64 x] 3)).ownsRow (w.heap.size + 1 + 1) 3 1 v (firsts l k).length ((firsts l k).map i64)) :=
          (ownsRow_setCell_below h3 (a := ⟨w.heap.size + 1, x, none⟩) (by show w.heap.size + 1 < w.heap.size + 1 + 1; omega) _).alloc _
        have HC : Hid (((wr.setCell ⟨w.heap.size + 1, x, none⟩ (.bool true)).alloc (.cells #[.int .i64 x] 3)).cell? ⟨wr.heap.size, 0, none⟩ = some (i64 x)) :=
          (Blk.new' _ 3 #[.int .i64 x] wr.heap.size (by simp [World.setCell])).cell 0
        have hsz := h4.lt
        have k2 := (h2.far (p := ⟨w.heap.size + 1, x, none⟩) (by show w.heap.size ≠ w.heap.size + 1; omega) (.bool true))
        have k2c := k2.cell 1
        simp at k2c
        clear h1 h2 h3 h4 h5 h6 h7 k2
        generalize firsts l k = L at *
        go_upto_region 7 with (fail)
        rw [hx]
        clear hx
        go_wp2_with (at_builtin; refine wpList_append_one rfl _ _ 22 rfl (w.heap.size + 1 + 1) 3 (.int .i64 0) 8 Try.underlying22 info_int rfl (by omega) v L.length (L.map i64) rfl HO.out wr.heap.size (i64 x) rfl HC.out rfl (by omega) (by simp [World.setCell]; omega) ?_; intro v' w' hown' hg'; obtain ⟨A', cap', rfl⟩ := own_shape hown'; obtain ⟨hL, hB⟩ := HP.out _ w' hg' hown'; have hc6 := hB.cell 1; have hf6 := hB.frozen 1; simp at hc6; have HL := Lib.hid hL; clear hL hB hown' hg')
        go_roundw
        case rel => exact ⟨k + 1, by omega, by omega, by go_num, HL⟩
        case measure => simp [intOf]; omega
    · have hl := firsts_len l k
      generalize firsts l k = D at *
      obtain ⟨A1, cap1, c0, c1, hsl⟩ := HR.out.view
      have HSl := Lib.hid hsl
      have HT : Hid (∀ (t : Int) (b : Bool), Calls Try.prog 16 #[.agg #[.int .i64 3, .slice A1 D.length cap1], .int .i64 5, .int .i64 t, .bool b] wr fun e w' => e = .returned (.int .i64 (targetF D 5 t b)) ∧ Fst w w' D) := fun t b => HR.out.target (by omega) A1 cap1 HSl.out t b
      have hD := HR.out.2.2.2
      clear hsl HSl HS H0
      have hgo2 : ¬ k < N ∨ (k < N ∧ ¬ k < 20) := by omega
      clear hgo
      by_cases hne : D = []
      · subst hne
        have HT1 : Hid (∀ b, Calls Try.prog 16 #[.agg #[.int .i64 3, .slice A1 0 cap1], .int .i64 5, .int .i64 1, .bool b] wr fun e w' => e = .returned (.int .i64 1) ∧ Fst w w' []) := fun b => by have := HT.out 1 b; rwa [target_empty_list 1 b (by omega) (by omega)] at this
        have HT2 : Hid (∀ b, Calls Try.prog 16 #[.agg #[.int .i64 3, .slice A1 0 cap1], .int .i64 5, .int .i64 2, .bool b] wr fun e w' => e = .returned (.int .i64 2) ∧ Fst w w' []) := fun b => by have := HT.out 2 b; rwa [target_empty_list 2 b (by omega) (by omega)] at this
        simp only [List.length_nil] at c1
        rcases hgo2 with h1 | ⟨h1, h2⟩
        all_goals cases b
        all_goals
          go_wp2_with (first
            | (go_at_call 16; (with_reducible refine (HT1.out _).mono ?_); rintro e w1 ⟨rfl, hF⟩; obtain ⟨A2, cap2, d0, d1, _⟩ := hF.view; have HF := Lib.hid hF; clear hF; simp only [List.length_nil] at d1)
            | (go_at_call 16; (with_reducible refine (HT2.out _).mono ?_); rintro e w1 ⟨rfl, hF⟩; obtain ⟨A2, cap2, d0, d1, _⟩ := hF.view; have HF := Lib.hid hF; clear hF; simp only [List.length_nil] at d1)
            | (go_at_call 15; (with_reducible refine HF.out.told.mono ?_); rintro e w2 ⟨rfl, hF2⟩; have HF2 := Lib.hid hF2; clear hF2))
          go_ret
          exact ⟨rfl, HF2.out.1⟩
      · have HX : Hid (∀ (t : Int) (b : Bool), 1 ≤ t → t ≤ 2 → ∃ x : Nat, targetF D 5 t b = (x : Int) ∧ x < 5 ∧ (x : Int) ∈ D ∧ (b = true → D.getD 0 0 = (x : Int))) := fun t b h1 h2 => target_some t b h1 h2 hne hD
        have hpos : 0 < D.length := List.length_pos_iff.2 hne
        clear hne hD
        have hn0 : ((D.length : Int) == 0) = false := by rw [beq_eq_false_iff_ne]; omega
        rcases hgo2 with h1 | ⟨h1, h2⟩
        all_goals cases b
        · obtain ⟨x, hx, hx5, hxD, hxw⟩ := HX.out 1 c (by omega) (by omega)
          have HT1 : Hid (Calls Try.prog 16 #[.agg #[.int .i64 3, .slice A1 D.length cap1], .int .i64 5, .int .i64 1, .bool c] wr fun e w' => e = .returned (.int .i64 x) ∧ Fst w w' D) := by rw [← hx]; exact HT.out 1 c
          have HM : Hid (∀ W, Fst w W D → W.cell? ⟨w.heap.size + 1, x, none⟩ = some (.bool true)) := fun W H => by have := (H.mark x hx5).1; rwa [decide_eq_true hxD] at this
          have HV : Hid (∀ W, Fst w W D → ∃ b0 o0 cap, W.cell? ⟨w.heap.size, 0, none⟩ = some (.int .i64 3) ∧ W.cell? ⟨w.heap.size, 1, none⟩ = some (.slice (some ⟨b0, o0, none⟩) D.length cap) ∧ W.cell? ⟨b0, o0, none⟩ = some (.int .i64 (D.getD 0 0))) := fun W H => by
            obtain ⟨A, cap, e0, e1, hs⟩ := H.view
            obtain ⟨b0, o0, rfl, hc⟩ := hs.at_ hpos
            refine ⟨b0, o0, cap, e0, e1, ?_⟩
            have hg : D[0] = D.getD 0 0 := by rw [List.getD, List.getElem?_eq_getElem hpos]; rfl
            rw [hg] at hc
            exact hc
          have hxx : ((x : Int) == (x : Int)) = true := beq_self_eq_true _
          clear hx hxD HX
          generalize D.getD 0 0 = y at *
          have HS7 : Hid (∀ W, Fst w W D → Calls Try.prog 16 #[.agg #[.int .i64 0, .slice (some ⟨W.heap.size, 0, none⟩) 1 1], .int .i64 5, .int .i64 1, .bool c] (W.alloc (.cells #[.int .i64 7] 3)) fun e w' => e = .returned (.int .i64 1) ∧ Below w.heap.size w w') := fun W H => H.seven 1 c (by omega) (by omega)
          cases c
          all_goals
            try (obtain rfl := hxw rfl)
            clear hxw
            go_wp2_with (first
              | (go_at_call 16; (with_reducible refine HT1.out.mono ?_); rintro e w1 ⟨rfl, hF⟩; obtain ⟨b2, o2, cap2, d0, d1, _⟩ := HV.out _ hF; have HF := Lib.hid hF; clear hF)
              | (go_at_call 15; (with_reducible refine HF.out.told.mono ?_); rintro e w2 ⟨rfl, hF2⟩; have m2 := HM.out _ hF2; obtain ⟨b3, o3, cap3, e0, e1, e2⟩ := HV.out _ hF2; have HF2 := Lib.hid hF2; clear hF2)
              | (go_at_call 16; (with_reducible refine (HS7.out _ HF2.out).mono ?_); rintro e w3 ⟨rfl, hB3⟩; have HB3 := Lib.hid hB3; clear hB3))
            go_ret
            exact ⟨rfl, HB3.out⟩
        · obtain ⟨x, hx, hx5, hxD, hxw⟩ := HX.out 2 c (by omega) (by omega)
          have HT1 : Hid (Calls Try.prog 16 #[.agg #[.int .i64 3, .slice A1 D.length cap1], .int .i64 5, .int .i64 2, .bool c] wr fun e w' => e = .returned (.int .i64 x) ∧ Fst w w' D) := by rw [← hx]; exact HT.out 2 c
          have HM : Hid (∀ W, Fst w W D → W.cell? ⟨w.heap.size + 1, x, none⟩ = some (.bool true)) := fun W H => by have := (H.mark x hx5).1; rwa [decide_eq_true hxD] at this
          have HV : Hid (∀ W, Fst w W D → ∃ b0 o0 cap, W.cell? ⟨w.heap.size, 0, none⟩ = some (.int .i64 3) ∧ W.cell? ⟨w.heap.size, 1, none⟩ = some (.slice (some ⟨b0, o0, none⟩) D.length cap) ∧ W.cell? ⟨b0, o0, none⟩ = some (.int .i64 (D.getD 0 0))) := fun W H => by
            obtain ⟨A, cap, e0, e1, hs⟩ := H.view
            obtain ⟨b0, o0, rfl, hc⟩ := hs.at_ hpos
            refine ⟨b0, o0, cap, e0, e1, ?_⟩
            have hg : D[0] = D.getD 0 0 := by rw [List.getD, List.getElem?_eq_getElem hpos]; rfl
            rw [hg] at hc
            exact hc
          have hxx : ((x : Int) == (x : Int)) = true := beq_self_eq_true _
          clear hx hxD HX
          generalize D.getD 0 0 = y at *
          have HS7 : Hid (∀ W, Fst w W D → Calls Try.prog 16 #[.agg #[.int .i64 0, .slice (some ⟨W.heap.size, 0, none⟩) 1 1], .int .i64 5, .int .i64 2, .bool c] (W.alloc (.cells #[.int .i64 7] 3)) fun e w' => e = .returned (.int .i64 2) ∧ Below w.heap.size w w') := fun W H => H.seven 2 c (by omega) (by omega)
          cases c
          all_goals
            try (obtain rfl := hxw rfl)
            clear hxw
            go_wp2_with (first
              | (go_at_call 16; (with_reducible refine HT1.out.mono ?_); rintro e w1 ⟨rfl, hF⟩; obtain ⟨b2, o2, cap2, d0, d1, _⟩ := HV.out _ hF; have HF := Lib.hid hF; clear hF)
              | (go_at_call 15; (with_reducible refine HF.out.told.mono ?_); rintro e w2 ⟨rfl, hF2⟩; have m2 := HM.out _ hF2; obtain ⟨b3, o3, cap3, e0, e1, e2⟩ := HV.out _ hF2; have HF2 := Lib.hid hF2; clear hF2)
              | (go_at_call 16; (with_reducible refine (HS7.out _ HF2.out).mono ?_); rintro e w3 ⟨rfl, hB3⟩; have HB3 := Lib.hid hB3; clear hB3))
            go_ret
            exact ⟨rfl, HB3.out⟩
        · obtain ⟨x, hx, hx5, hxD, hxw⟩ := HX.out 1 c (by omega) (by omega)
          have HT1 : Hid (Calls Try.prog 16 #[.agg #[.int .i64 3, .slice A1 D.length cap1], .int .i64 5, .int .i64 1, .bool c] wr fun e w' => e = .returned (.int .i64 x) ∧ Fst w w' D) := by rw [← hx]; exact HT.out 1 c
          have HM : Hid (∀ W, Fst w W D → W.cell? ⟨w.heap.size + 1, x, none⟩ = some (.bool true)) := fun W H => by have := (H.mark x hx5).1; rwa [decide_eq_true hxD] at this
          have HV : Hid (∀ W, Fst w W D → ∃ b0 o0 cap, W.cell? ⟨w.heap.size, 0, none⟩ = some (.int .i64 3) ∧ W.cell? ⟨w.heap.size, 1, none⟩ = some (.slice (some ⟨b0, o0, none⟩) D.length cap) ∧ W.cell? ⟨b0, o0, none⟩ = some (.int .i64 (D.getD 0 0))) := fun W H => by
            obtain ⟨A, cap, e0, e1, hs⟩ := H.view
            obtain ⟨b0, o0, rfl, hc⟩ := hs.at_ hpos
            refine ⟨b0, o0, cap, e0, e1, ?_⟩
            have hg : D[0] = D.getD 0 0 := by rw [List.getD, List.getElem?_eq_getElem hpos]; rfl
            rw [hg] at hc
            exact hc
          have hxx : ((x : Int) == (x : Int)) = true := beq_self_eq_true _
          clear hx hxD HX
          generalize D.getD 0 0 = y at *
          have HS7 : Hid (∀ W, Fst w W D → Calls Try.prog 16 #[.agg #[.int .i64 0, .slice (some ⟨W.heap.size, 0, none⟩) 1 1], .int .i64 5, .int .i64 1, .bool c] (W.alloc (.cells #[.int .i64 7] 3)) fun e w' => e = .returned (.int .i64 1) ∧ Below w.heap.size w w') := fun W H => H.seven 1 c (by omega) (by omega)
          cases c
          all_goals
            try (obtain rfl := hxw rfl)
            clear hxw
            go_wp2_with (first
              | (go_at_call 16; (with_reducible refine HT1.out.mono ?_); rintro e w1 ⟨rfl, hF⟩; obtain ⟨b2, o2, cap2, d0, d1, _⟩ := HV.out _ hF; have HF := Lib.hid hF; clear hF)
              | (go_at_call 15; (with_reducible refine HF.out.told.mono ?_); rintro e w2 ⟨rfl, hF2⟩; have m2 := HM.out _ hF2; obtain ⟨b3, o3, cap3, e0, e1, e2⟩ := HV.out _ hF2; have HF2 := Lib.hid hF2; clear hF2)
              | (go_at_call 16; (with_reducible refine (HS7.out _ HF2.out).mono ?_); rintro e w3 ⟨rfl, hB3⟩; have HB3 := Lib.hid hB3; clear hB3))
            go_ret
            exact ⟨rfl, HB3.out⟩
        · obtain ⟨x, hx, hx5, hxD, hxw⟩ := HX.out 2 c (by omega) (by omega)
          have HT1 : Hid (Calls Try.prog 16 #[.agg #[.int .i64 3, .slice A1 D.length cap1], .int .i64 5, .int .i64 2, .bool c] wr fun e w' => e = .returned (.int .i64 x) ∧ Fst w w' D) := by rw [← hx]; exact HT.out 2 c
          have HM : Hid (∀ W, Fst w W D → W.cell? ⟨w.heap.size + 1, x, none⟩ = some (.bool true)) := fun W H => by have := (H.mark x hx5).1; rwa [decide_eq_true hxD] at this
          have HV : Hid (∀ W, Fst w W D → ∃ b0 o0 cap, W.cell? ⟨w.heap.size, 0, none⟩ = some (.int .i64 3) ∧ W.cell? ⟨w.heap.size, 1, none⟩ = some (.slice (some ⟨b0, o0, none⟩) D.length cap) ∧ W.cell? ⟨b0, o0, none⟩ = some (.int .i64 (D.getD 0 0))) := fun W H => by
            obtain ⟨A, cap, e0, e1, hs⟩ := H.view
            obtain ⟨b0, o0, rfl, hc⟩ := hs.at_ hpos
            refine ⟨b0, o0, cap, e0, e1, ?_⟩
            have hg : D[0] = D.getD 0 0 := by rw [List.getD, List.getElem?_eq_getElem hpos]; rfl
            rw [hg] at hc
            exact hc
          have hxx : ((x : Int) == (x : Int)) = true := beq_self_eq_true _
          clear hx hxD HX
          generalize D.getD 0 0 = y at *
          have HS7 : Hid (∀ W, Fst w W D → Calls Try.prog 16 #[.agg #[.int .i64 0, .slice (some ⟨W.heap.size, 0, none⟩) 1 1], .int .i64 5, .int .i64 2, .bool c] (W.alloc (.cells #[.int .i64 7] 3)) fun e w' => e = .returned (.int .i64 2) ∧ Below w.heap.size w w') := fun W H => H.seven 2 c (by omega) (by omega)
          cases c
          all_goals
            try (obtain rfl := hxw rfl)
            clear hxw
            go_wp2_with (first
              | (go_at_call 16; (with_reducible refine HT1.out.mono ?_); rintro e w1 ⟨rfl, hF⟩; obtain ⟨b2, o2, cap2, d0, d1, _⟩ := HV.out _ hF; have HF := Lib.hid hF; clear hF)
              | (go_at_call 15; (with_reducible refine HF.out.told.mono ?_); rintro e w2 ⟨rfl, hF2⟩; have m2 := HM.out _ hF2; obtain ⟨b3, o3, cap3, e0, e1, e2⟩ := HV.out _ hF2; have HF2 := Lib.hid hF2; clear hF2)
              | (go_at_call 16; (with_reducible refine (HS7.out _ HF2.out).mono ?_); rintro e w3 ⟨rfl, hB3⟩; have HB3 := Lib.hid hB3; clear hB3))
            go_ret
            exact ⟨rfl, HB3.out⟩

theorem law_retryFirst {H : Type} {enc : TypeId × Value → H} (W : World) (base : Nat) (args : Array Value) (ds : List (DataW H)) (p : List MemPlace)
    (hval : ∀ (j : Nat) t v, Try.f4.params[j]? = some t → args[j]? = some v → Value.okWide Try.prog W .any base t v)
    (hA : DataW.TrodAll enc Try.prog W 0 (fun _ => true) true Try.f4.params.toList args.toList ds p) :
    Calls Try.prog 4 args W fun e W' => e = .returned (.bool true) ∧ Below W.heap.size W W' := by
  rw [Try.params4] at hA hval
  obtain ⟨v0, vs0, d0, ds0, p0, q0, hargs, rfl, rfl, h0, r0⟩ := trodAll_cons hA
  obtain ⟨v1, vs1, d1, ds1, p1, q1, rfl, rfl, rfl, h1, r1⟩ := trodAll_cons r0
  obtain ⟨v2, vs2, d2, ds2, p2, q2, rfl, rfl, rfl, h2, r2⟩ := trodAll_cons r1
  obtain ⟨rfl, rfl, rfl⟩ := trodAll_nil r2
  obtain rfl : args = #[v0, v1, v2] := by cases args; simp_all
  obtain ⟨A0, n0, c0, rfl⟩ := okWide_slice Try.underlying22 (hval 0 22 v0 rfl rfl)
  obtain ⟨fuel0, hf0⟩ := h0
  obtain ⟨B0, e0, l0, hcs0, x0, y0, z0, g0⟩ := trod_ints_sl Try.underlying22 Try.underlying3 cells_int hf0
  simp only [Value.cells, List.cons.injEq, Value.slice.injEq, and_true] at hcs0
  obtain ⟨rfl, rfl, rfl⟩ := hcs0
  obtain ⟨a1, rfl, rfl, rfl⟩ := open_bool Try.underlying4 (hval 1 4 v1 rfl rfl) h1
  obtain ⟨a2, rfl, rfl, rfl⟩ := open_bool Try.underlying4 (hval 2 4 v2 rfl rfl) h2
  exact walk_retryFirst A0 c0 l0 a1 a2 W (Nat.le_trans x0 y0) z0
end Go.Proofs.Ytbjekbbokhjfmaa
