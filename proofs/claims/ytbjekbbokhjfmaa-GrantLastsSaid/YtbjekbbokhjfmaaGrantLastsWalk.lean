/-
  The walk of the law GrantLasts.
-/
import Derived.Test.YtbjekbbokhjfmaaToldGrant
import Derived.Test.YtbjekbbokhjfmaaOwn
namespace Go.Proofs.Ytbjekbbokhjfmaa
open Go.RowKit Go.ChangeShapes Go.WideShapes

/-- those of 0, 1, .. below i that are not k -/
def but (k : Int) : Nat → List Int
  | 0 => []
  | i + 1 => if (i : Int) = k then but k i else but k i ++ [(i : Int)]
theorem but_hit {k : Int} {i : Nat} (h : (i : Int) = k) : but k (i + 1) = but k i := by unfold but; rw [if_pos h]; cases i <;> rfl
theorem but_miss {k : Int} {i : Nat} (h : ¬ (i : Int) = k) : but k (i + 1) = but k i ++ [(i : Int)] := if_neg h
theorem but_len (k : Int) : ∀ i, (but k i).length ≤ i
  | 0 => Nat.le_refl _
  | i + 1 => by have := but_len k i; unfold but; split <;> simp <;> omega

/-- the promises (block P) and the law's two chains: 'all' (blocks h, h + 1), and the one that is filled (its box: block h + 2) -/
def Lst (w0 W : World) (P h : Nat) (u0 u1 u2 : Int) (l : List Int) : Prop :=
  Below P w0 W ∧ P < h ∧ GrantAt W P 3 0 u0 u1 u2 0 0 ∧ Sl i64 W (some ⟨h, 0, none⟩) [0, 1, 2] ∧ Blk W (h + 1) 24 #[.int .i64 1, .slice (some ⟨h, 0, none⟩) 3 3] ∧
    ∃ v, Blk W (h + 1 + 1) 24 #[.int .i64 0, v] ∧ W.ownsRow (h + 1 + 1 + 1) 3 1 v l.length (l.map i64)

section
variable {w0 W W' : World} {P h : Nat} {u0 u1 u2 : Int} {l : List Int}
theorem Lst.size (H : Lst w0 W P h u0 u1 u2 l) : h + 1 + 1 < W.heap.size := by obtain ⟨_, _, _, _, _, v, hb, _⟩ := H; exact hb.lt
theorem own_stay {base n : Nat} {e : TypeId} {v : Value} {xs : List Value} (h : W.ownsRow base e 1 v n xs) (hb : Below W.heap.size W W') : W'.ownsRow base e 1 v n xs := by
  refine h.kept (grown_below hb none) ?_
  cases hv : v.ownBlock <;> simp
theorem Lst.stay (H : Lst w0 W P h u0 u1 u2 l) (hb : Below W.heap.size W W') : Lst w0 W' P h u0 u1 u2 l := by
  obtain ⟨h1, h2, h3, h4, h5, v, h6, h7⟩ := H
  exact ⟨h1.trans (hb.mono (Nat.le_of_lt (Blk.lt h3))), h2, Blk.stay h3 hb, h4.stay hb, h5.stay hb, v, h6.stay hb, own_stay h7 hb⟩
/-- behind the append, and its store into the box -/
theorem Lst.put {v v' : Value} {x : Int} (h1 : Below P w0 W) (h2 : P < h) (h3 : GrantAt W P 3 0 u0 u1 u2 0 0) (h4 : Sl i64 W (some ⟨h, 0, none⟩) [0, 1, 2])
    (h5 : Blk W (h + 1) 24 #[.int .i64 1, .slice (some ⟨h, 0, none⟩) 3 3]) (h6 : Blk W (h + 1 + 1) 24 #[.int .i64 0, v])
    (hown : (W.alloc (.cells #[.int .i64 x] 3)).ownsRow (h + 1 + 1 + 1) 3 1 v l.length (l.map i64))
    (hg : (W.alloc (.cells #[.int .i64 x] 3)).grownBy W' v.ownBlock) (hown' : W'.ownsRow (h + 1 + 1 + 1) 3 1 v' (l.length + 1) (l.map i64 ++ [i64 x])) :
    Lst w0 (W'.setCell ⟨h + 1 + 1, 1, none⟩ v') P h u0 u1 u2 (l ++ [x]) := by
  have hne : ∀ g, g < h + 1 + 1 + 1 → some g ≠ v.ownBlock := fun g hg => own_ne hown hg
  have hlt := h6.lt
  refine ⟨?_, h2, ?_, ?_, ?_, v', ?_, ?_⟩
  · refine Below.setCell ?_ (by show P ≤ h + 1 + 1; omega) _
    exact ((h1.alloc (by omega) _).trans ((Below.refl _ _).grown hg (by simp; omega) (fun k hk => by have := (hown.lt k hk).1; omega)))
  · exact Blk.far (Blk.grown (Blk.alloc h3 _) hg (hne _ (by omega))) (by show P ≠ h + 1 + 1; omega) _
  · exact ((h4.stay ((Below.refl _ _).alloc (Nat.le_refl _) _)).grown hg (hne h (by omega))).far (by show h ≠ h + 1 + 1; omega) _
  · exact Blk.far (Blk.grown (Blk.alloc h5 _) hg (hne _ (by omega))) (by show h + 1 ≠ h + 1 + 1; omega) _
  · have := Blk.set (Blk.grown (Blk.alloc h6 _) hg (hne _ (by omega))) 1 v'
    simpa using this
  · have := ownsRow_setCell_below hown' (a := ⟨h + 1 + 1, 1, none⟩) (by show h + 1 + 1 < h + 1 + 1 + 1; omega) v'
    simpa using this
end

/-- what the loop has left -/
theorem lasts_all {k : Int} (h0 : 0 ≤ k) (h3 : k < 3) (u : Int) (t : Int) (s : Int) (hu : u = t + 50) :
    vetoB 3 (if k = 0 then u else 50) (if k = 1 then u else 50) (if k = 2 then u else 50) 0 0 s (but k 3) [0, 1, 2] = decide (s < t + 50) := by
  obtain rfl | rfl | rfl : k = 0 ∨ k = 1 ∨ k = 2 := by omega
  all_goals subst hu; simp [vetoB, but, pick5]
theorem lasts_none (u0 u1 u2 s : Int) : vetoB 3 u0 u1 u2 0 0 s [0, 1, 2] [0, 1, 2] = false := by simp [vetoB]

section
variable {w0 W : World} {P h : Nat} {u0 u1 u2 : Int} {l : List Int}
theorem Lst.told (H : Lst w0 W P h u0 u1 u2 l) : Calls Try.prog 28 #[] W fun e w' => e = .returned (.bool true) ∧ Lst w0 w' P h u0 u1 u2 l :=
  (told_grant W).mono fun _ _ ⟨he, hb⟩ => ⟨he, H.stay hb⟩
/-- the two chains as values -/
theorem Lst.view (H : Lst w0 W P h u0 u1 u2 l) : ∃ A cap, Lst w0 W P h u0 u1 u2 l ∧ W.cell? ⟨h + 1, 0, none⟩ = some (.int .i64 1) ∧ W.cell? ⟨h + 1, 1, none⟩ = some (.slice (some ⟨h, 0, none⟩) 3 3) ∧
    W.cell? ⟨h + 1 + 1, 0, none⟩ = some (.int .i64 0) ∧ W.cell? ⟨h + 1 + 1, 1, none⟩ = some (.slice A l.length cap) ∧ Sl i64 W A l := by
  have H0 := H
  obtain ⟨_, _, _, _, h5, v, h6, h7⟩ := H
  obtain ⟨A, cap, rfl, hs⟩ := own_view h7
  exact ⟨A, cap, H0, h5.cell 0, h5.cell 1, h6.cell 0, h6.cell 1, hs⟩
theorem Lst.veto (H : Lst w0 W P h u0 u1 u2 l) (hl : l.length ≤ 1000) (A : Option Addr) (cap : Nat) (hs : Sl i64 W A l) (s : Int) :
    Calls Try.prog 29 #[.pointer (some ⟨P, 0, none⟩), .int .i64 s, .agg #[.int .i64 1, .slice (some ⟨h, 0, none⟩) 3 3], .agg #[.int .i64 0, .slice A l.length cap]] W
      fun e w' => e = .returned (.bool (vetoB 3 u0 u1 u2 0 0 s l [0, 1, 2])) ∧ Lst w0 w' P h u0 u1 u2 l :=
  (veto_any P 3 0 u0 u1 u2 0 0 s 1 0 _ _ [0, 1, 2] l 3 cap W H.2.2.1 (by omega) (by simp) (by omega) H.2.2.2.1 hs).mono fun _ _ ⟨he, hb⟩ => ⟨he, H.stay hb⟩
theorem Lst.veto2 (H : Lst w0 W P h u0 u1 u2 l) (s : Int) :
    Calls Try.prog 29 #[.pointer (some ⟨P, 0, none⟩), .int .i64 s, .agg #[.int .i64 1, .slice (some ⟨h, 0, none⟩) 3 3], .agg #[.int .i64 1, .slice (some ⟨h, 0, none⟩) 3 3]] W
      fun e w' => e = .returned (.bool (vetoB 3 u0 u1 u2 0 0 s [0, 1, 2] [0, 1, 2])) ∧ Lst w0 w' P h u0 u1 u2 l :=
  (veto_any P 3 0 u0 u1 u2 0 0 s 1 1 _ _ [0, 1, 2] [0, 1, 2] 3 3 W H.2.2.1 (by omega) (by simp) (by simp) H.2.2.2.1 H.2.2.2.1).mono fun _ _ ⟨he, hb⟩ => ⟨he, H.stay hb⟩
end

theorem lasts_give (w1 : World) (P : Nat) (t : Int) (k : Nat) (hk : k < 3) (ht : 50 ≤ t) (ht2 : t ≤ 2000) (hg : GrantAt w1 P 3 0 50 50 50 0 0) :
    Calls Try.prog 27 #[.pointer (some ⟨P, 0, none⟩), .int .i64 t, .int .i64 k] w1 fun e w' => e = .returned (.bool true) ∧ w1.grownBy w' (some P) ∧
      GrantAt w' P 3 0 (if (k : Int) = 0 then t + 50 else 50) (if (k : Int) = 1 then t + 50 else 50) (if (k : Int) = 2 then t + 50 else 50) 0 0 :=
  (give_yes P 3 0 50 50 50 0 0 t k w1 hg (by omega) (by omega) (by omega) (by omega) (by omega)).mono fun e w' ⟨he, hgr, y, hy, hG⟩ => by
    have : y = t + 50 := by
      rw [hy]
      have hp : pick5 50 50 50 0 0 k = 50 := by unfold pick5; (repeat' split) <;> omega
      rw [hp]; unfold mx; rw [if_pos (by omega)]
    subst this
    rw [if_neg (show ¬ k = 3 by omega), if_neg (show ¬ k = 4 by omega)] at hG
    refine ⟨he, hgr, ?_⟩
    obtain rfl | rfl | rfl : k = 0 ∨ k = 1 ∨ k = 2 := by omega
    all_goals simpa using hG

theorem lst_start {w w2 : World} {u0 u1 u2 k : Int} (hb : Below w.heap.size w w2) (hg : GrantAt w2 w.heap.size 3 0 u0 u1 u2 0 0) :
    Lst w (((w2.alloc (Obj.cells #[Value.int IntKind.i64 0, Value.int IntKind.i64 1, Value.int IntKind.i64 2] 3)).alloc
          (Obj.cells #[Value.int IntKind.i64 1, Value.slice (some { block := w2.heap.size, off := 0 }) 3 3] 24)).alloc
      (Obj.cells #[Value.int IntKind.i64 0, Value.slice none 0 0] 24)) w.heap.size w2.heap.size u0 u1 u2 (but k 0) := by
  have hlt := Blk.lt hg
  refine ⟨?_, hlt, ?_, ?_, ?_, .slice none 0 0, ?_, World.ownsRow_nil _ _ _ _⟩
  · exact ((hb.alloc (by omega) _).alloc (by simp; omega) _).alloc (by simp; omega) _
  · exact ((Blk.alloc hg _).alloc _).alloc _
  · exact Sl.of_blk (((Blk.new _ _ _).alloc _).alloc _) (fun j v hj => by match j, hj with | 0, hj => (simp at hj; subst hj; rfl) | 1, hj => (simp at hj; subst hj; rfl) | 2, hj => (simp at hj; subst hj; rfl))
  · exact (Blk.new' _ _ _ _ (by simp)).alloc _
  · exact Blk.new' _ _ _ _ (by simp)

set_option maxHeartbeats 1000000 in
theorem walk_grantLasts (a b c : Int) (w : World) : Calls Try.prog 8 #[.int .i64 a, .int .i64 b, .int .i64 c] w fun e w' => e = .returned (.bool true) ∧ Below w.heap.size w w' := by
  obtain ⟨t0, t1⟩ := umod_bd a 1000 (by omega) (by omega)
  obtain ⟨k0, k1⟩ := umod_bd b 3 (by omega) (by omega)
  obtain ⟨d0, d1⟩ := umod_bd c 100 (by omega) (by omega)
  have HN : Hid (∀ W, Calls Try.prog 26 #[.int .i64 3, .int .i64 0] W fun e w' => e = .returned (.tuple #[.pointer (some ⟨W.heap.size, 0, none⟩), .int .i64 0]) ∧ Below W.heap.size W w' ∧
      GrantAt w' W.heap.size 3 0 50 50 50 0 0) := fun W => new_three 0 W (by omega) (by omega)
  go_enter Try.func8, Try.ntmps8
  go_wp2_with fail
  refine (HN.out w).mono ?_; rintro e w1 ⟨rfl, hb1, hg1⟩; have HB1 := Lib.hid hb1; have HG1 := Lib.hid hg1; clear hb1 hg1 HN
  go_wp2_with fail
  generalize wrap64 ((IntKind.u64.wrap a).tmod 1000) = t at *
  generalize wrap64 ((IntKind.u64.wrap b).tmod 3) = k at *
  obtain ⟨k, rfl⟩ := Int.eq_ofNat_of_zero_le k0
  refine (lasts_give w1 _ (50 + t) k (by omega) (by omega) (by omega) HG1.out).mono ?_; rintro e w2 ⟨rfl, hgr2, hg2⟩
  have hlt := Blk.lt HG1.out
  have hs2 := hgr2.size
  have HB2 : Hid (Below w.heap.size w w2) := below_grown HB1.out hgr2 (by omega) (Nat.le_refl _)
  have HG2 := Lib.hid hg2
  clear hgr2 hg2 HB1 HG1
  go_wp2_with fail
  generalize hu0 : (if (k : Int) = 0 then 50 + t + 50 else 50) = u0 at *
  generalize hu1 : (if (k : Int) = 1 then 50 + t + 50 else 50) = u1 at *
  generalize hu2 : (if (k : Int) = 2 then 50 + t + 50 else 50) = u2 at *
  have HU := Lib.hid (And.intro hu0 (And.intro hu1 hu2))
  clear hu0 hu1 hu2
  have HS : Hid (Lst w _ w.heap.size w2.heap.size u0 u1 u2 (but k 0)) := lst_start HB2.out HG2.out
  have hPh : w.heap.size < w2.heap.size := Blk.lt HG2.out
  clear HB2 HG2 hlt hs2
  obtain ⟨h, hh⟩ : ∃ h, h = w2.heap.size := ⟨_, rfl⟩
  rw [← hh] at HS hPh ⊢
  clear hh
  go_loopw [13] (fun i wr => ∃ j : Nat, j ≤ 3 ∧ i = .int .i64 j ∧ Hid (Lst w wr w.heap.size h u0 u1 u2 (but k j))) (fun i _ => 3 - (intOf i).toNat)
  case atStart => exact ⟨0, by omega, rfl, HS⟩
  case round =>
    obtain ⟨j, hj, rfl, HR⟩ := hrel
    by_cases hlt : j < 3
    · by_cases hjk : (j : Int) = k
      · have HE : Hid (Lst w wr w.heap.size h u0 u1 u2 (but k (j + 1))) := by show Lst _ _ _ _ _ _ _ _; rw [but_hit hjk]; exact HR.out
        go_wp2
        go_roundw
        case rel => exact ⟨j + 1, by omega, by go_num, HE⟩
        case measure => simp [intOf]; omega
      · obtain ⟨h1, h2, h3, h4, h5, v, h6, h7⟩ := HR.out
        have hbl := but_len k j
        have HP : Hid (∀ v' w', (wr.alloc (.cells #[.int .i64 j] 3)).grownBy w' v.ownBlock → w'.ownsRow (h + 1 + 1 + 1) 3 1 v' ((but k j).length + 1) ((but k j).map i64 ++ [i64 j]) →
            Lst w (w'.setCell ⟨h + 1 + 1, 1, none⟩ v') w.heap.size h u0 u1 u2 (but k (j + 1)) ∧ Blk w' (h + 1 + 1) 24 #[.int .i64 0, v]) := fun v' w' hg' hown' => by
          have hne : some (h + 1 + 1) ≠ v.ownBlock := own_ne h7 (by omega)
          rw [but_miss hjk]
          exact ⟨Lst.put h1 h2 h3 h4 h5 h6 (h7.alloc _) hg' hown', Blk.grown (Blk.alloc h6 _) hg' hne⟩
        have h6c := h6.cell 1
        simp at h6c
        have HO := Lib.hid h7
        have hsz := h6.lt
        have hc1 : (wr.alloc (.cells #[.int .i64 j] 3)).cell? ⟨wr.heap.size, 0, none⟩ = some (i64 j) := (Blk.new _ _ _).cell 0
        have HC1 := Lib.hid hc1
        clear h1 h3 h4 h5 h6 h7 hc1
        generalize but k j = L at *
        go_wp2_with (at_builtin; refine wpList_append_one rfl _ _ 22 rfl (h + 1 + 1 + 1) 3 (.int .i64 0) 8 Try.underlying22 info_int rfl (by omega) v L.length (L.map i64) rfl (HO.out.alloc _) wr.heap.size (i64 j) rfl HC1.out rfl (by omega) (by simp; omega) ?_; intro v' w' hown' hg'; obtain ⟨A', cap', rfl⟩ := own_shape hown'; obtain ⟨hL, hB⟩ := HP.out _ w' hg' hown'; have hc6 := hB.cell 1; have hf6 := hB.frozen 1; simp at hc6; have HL := Lib.hid hL; clear hL hB hown' hg')
        go_roundw
        case rel => exact ⟨j + 1, by omega, by go_num, HL⟩
        case measure => simp [intOf]; omega
    · have hj3 : j = 3 := by omega
      subst hj3
      have HV1 : Hid (∀ s, vetoB 3 u0 u1 u2 0 0 s (but k 3) [0, 1, 2] = decide (s < 50 + t + 50)) := fun s => by
        obtain ⟨e0, e1, e2⟩ := HU.out
        subst e0; subst e1; subst e2
        exact lasts_all k0 k1 _ (50 + t) s rfl
      have HV2 : Hid (∀ s, vetoB 3 u0 u1 u2 0 0 s [0, 1, 2] [0, 1, 2] = false) := fun s => lasts_none u0 u1 u2 s
      have hbl := but_len k 3
      generalize but k 3 = L at *
      go_wp2_with fail
      refine HR.out.told.mono ?_; rintro e w3 ⟨rfl, hL3⟩
      obtain ⟨A, cap, hL, c0, c1, c2, c3, hs⟩ := hL3.view
      have HL := Lib.hid hL; have HSl := Lib.hid hs
      clear hL3 hL hs HR hlt hj
      generalize wrap64 ((IntKind.u64.wrap c).tmod 100) = d at *
      by_cases hd : d < 50
      all_goals
        go_wp2_with fail
        refine (HL.out.veto (by omega) A cap HSl.out (50 + t + d)).mono ?_; rintro e w4 ⟨rfl, hL4⟩; rw [HV1.out]
        first | rw [decide_eq_true (show 50 + t + d < 50 + t + 50 by omega)] | rw [decide_eq_false (show ¬ 50 + t + d < 50 + t + 50 by omega)]
        obtain ⟨_, _, hL4', k0, k1, _, _, _⟩ := hL4.view
        have HL4 := Lib.hid hL4'; clear hL4 hL4' c0 c1 c2 c3
        go_wp2_with fail
        refine (HL4.out.veto2 (50 + t + d)).mono ?_; rintro e w5 ⟨rfl, hL5⟩; rw [HV2.out]
        have HL5 := Lib.hid hL5; clear hL5
        go_wp2_with fail
        go_ret
        exact ⟨by first | rfl | exact ret_bool (by simp [hd]), HL5.out.1⟩

theorem law_grantLasts {H : Type} {enc : TypeId × Value → H} (W : World) (base : Nat) (args : Array Value) (ds : List (DataW H)) (p : List MemPlace)
    (hval : ∀ (j : Nat) t v, Try.f8.params[j]? = some t → args[j]? = some v → Value.okWide Try.prog W .any base t v)
    (hA : DataW.TrodAll enc Try.prog W 0 (fun _ => true) true Try.f8.params.toList args.toList ds p) :
    Calls Try.prog 8 args W fun e W' => e = .returned (.bool true) ∧ Below W.heap.size W W' := by
  rw [Try.params8] at hA hval
  obtain ⟨v0, vs0, d0, ds0, p0, q0, hargs, rfl, rfl, h0, r0⟩ := trodAll_cons hA
  obtain ⟨v1, vs1, d1, ds1, p1, q1, rfl, rfl, rfl, h1, r1⟩ := trodAll_cons r0
  obtain ⟨v2, vs2, d2, ds2, p2, q2, rfl, rfl, rfl, h2, r2⟩ := trodAll_cons r1
  obtain ⟨rfl, rfl, rfl⟩ := trodAll_nil r2
  obtain rfl : args = #[v0, v1, v2] := by cases args; simp_all
  obtain ⟨a0, rfl, rfl, rfl, w0⟩ := open_int Try.underlying3 (hval 0 3 v0 rfl rfl) h0
  obtain ⟨a1, rfl, rfl, rfl, w1⟩ := open_int Try.underlying3 (hval 1 3 v1 rfl rfl) h1
  obtain ⟨a2, rfl, rfl, rfl, w2⟩ := open_int Try.underlying3 (hval 2 3 v2 rfl rfl) h2
  exact walk_grantLasts a0 a1 a2 W
end Go.Proofs.Ytbjekbbokhjfmaa
