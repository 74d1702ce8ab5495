/-
  Walks of package chain, further: with a node more. What a chain or an error comes to, in one word for all that answer so.
-/
import Derived.Test.YtdjkopdgapifpaaLoc
import Derived.Test.YtdjkopdgapifpaaSet
import Derived.Test.YtdjkopdgapifpaaPlace
namespace Go.Proofs.Ytdjkopdgapifpaa
set_option linter.unusedVariables false
set_option linter.unusedSimpArgs false
open Go.RowKit

theorem ext_al (w : World) (o : Obj) : Ext w (w.alloc o) := (Below.refl _ _).alloc (Nat.le_refl _) _
/-- a call that answers with a chain and a number -/
def ChRes (w : World) (r : Int × List Int × Int) (e : Ending) (w' : World) : Prop :=
  ∃ A cap, e = .returned (.tuple #[chV r.1 A r.2.1.length cap, .int .i64 r.2.2]) ∧ Sl i64 w' A r.2.1 ∧ r.2.1.length ≤ cap ∧ Ext w w' ∧ ∀ a, A = some a → w.heap.size ≤ a.block
/-- no chain -/
abbrev noCh : Int × List Int × Int := (0, [], 1)
/-- a chain, if it may be -/
def chOk (ep : Int) (l : List Int) : Int × List Int × Int := if mayChainB ep l then (ep, l, 0) else noCh
def withL (ep : Int) (l : List Int) (x : Int) : Int × List Int × Int := if mayChainB ep l then chOk (ep + 1) (l ++ [x]) else noCh
def firstL (n : Int) : Int × List Int × Int := if 1 ≤ n ∧ n ≤ 5 then (1, upTo n.toNat, 0) else noCh

theorem own_sl {w : World} {base n cap : Nat} {A : Option Addr} {l : List Int} (h : w.ownsRow base 3 1 (.slice A n cap) l.length (l.map i64)) : Sl i64 w A l := by
  obtain ⟨A', c', e, hs⟩ := own_view h
  injection e with e1 e2 e3
  subst e1
  exact hs
theorem own_cap {w : World} {base n cap : Nat} {A : Option Addr} {l : List Int} (h : w.ownsRow base 3 1 (.slice A n cap) l.length (l.map i64)) : l.length ≤ cap := by
  rcases h.2 with ⟨e, hn⟩ | ⟨g, c, cur, e, _, _, h1, h2, _⟩
  · injection e with e1 e2 e3; omega
  · injection e with e1 e2 e3; omega
theorem own_fresh {w : World} {base n k cap : Nat} {A : Option Addr} {xs : List Value} (h : w.ownsRow base 3 1 (.slice A n cap) k xs) : ∀ a, A = some a → base ≤ a.block := by
  rintro a rfl
  exact (h.lt a.block rfl).1
theorem own_n {w : World} {base n k cap : Nat} {A : Option Addr} {xs : List Value} (h : w.ownsRow base 3 1 (.slice A n cap) k xs) : n = k := by
  obtain ⟨A', c', e⟩ := own_shape h
  injection e

theorem ChRes.no {w w' : World} (h : Ext w w') : ChRes w noCh (.returned (.tuple #[chV 0 none 0 0, .int .i64 1])) w' := ⟨none, 0, rfl, Sl.nil _ _ _, Nat.le_refl _, h, by simp⟩
theorem first_res (F : FuncId) (n : Int) (w : World)
    (hno : ∀ (n : Int) (w : World), n < 1 ∨ 5 < n → Calls Try.prog F #[.int .i64 n] w fun e w' => e = .returned (.tuple #[chV 0 none 0 0, .int .i64 1]) ∧ Below w.heap.size w w')
    (hyes : ∀ (n : Nat) (w : World), 1 ≤ n → n ≤ 5 → Calls Try.prog F #[.int .i64 n] w fun e w' => ∃ v, e = .returned (.tuple #[.agg #[.int .i64 1, v], .int .i64 0]) ∧ w'.ownsRow w.heap.size 3 1 v n ((upTo n).map i64) ∧ Below w.heap.size w w') :
    Calls Try.prog F #[.int .i64 n] w (ChRes w (firstL n)) := by
  by_cases h : 1 ≤ n ∧ n ≤ 5
  · obtain ⟨k, rfl⟩ := Int.eq_ofNat_of_zero_le (show 0 ≤ n by omega)
    refine (hyes k w (by omega) (by omega)).mono fun e w' ⟨v, he, ho, hb⟩ => ?_
    obtain ⟨A, cap, rfl⟩ := own_shape ho
    have ho' : w'.ownsRow w.heap.size 3 1 (.slice A k cap) (upTo k).length ((upTo k).map i64) := by rw [upTo_len]; exact ho
    refine ⟨A, cap, ?_, ?_, ?_, hb, own_fresh ho⟩
    · rw [he]; simp [firstL, h, upTo_len]
    · simp only [firstL, if_pos h, Int.toNat_natCast]; exact own_sl ho'
    · simp only [firstL, if_pos h, Int.toNat_natCast]; exact own_cap ho'
  · refine (hno n w (by omega)).mono fun e w' ⟨he, hb⟩ => ?_
    rw [he]
    simp only [firstL, if_neg h]
    exact ChRes.no hb
theorem chFirst_any (n : Int) (w : World) : Calls Try.prog 37 #[.int .i64 n] w (ChRes w (firstL n)) := first_res _ n w chFirst_no chFirst_yes
theorem refFirst_any (n : Int) (w : World) : Calls Try.prog 47 #[.int .i64 n] w (ChRes w (firstL n)) := first_res _ n w refFirst_no refFirst_yes

/-- what 'may' answers -/
def MayR (ep : Int) (A : Option Addr) (cap : Nat) (l : List Int) (E : Int) (A' : Option Addr) (N C : Nat) (c : Int) : Prop :=
  (mayChainB ep l = true ∧ E = ep ∧ A' = A ∧ N = l.length ∧ C = cap ∧ c = 0) ∨ (mayChainB ep l = false ∧ E = 0 ∧ A' = none ∧ N = 0 ∧ C = 0 ∧ c = 1)
theorem may_any (ep : Int) (A : Option Addr) (cap : Nat) (l : List Int) (w : World) (hl : l.length ≤ 9223372036854775807) (hcap : l.length ≤ cap) (hs : Sl i64 w A l) :
    Calls Try.prog 66 #[.agg #[.int .i64 ep, .slice A l.length cap]] w fun e w' => ∃ E A' N C c, e = .returned (.tuple #[.agg #[.int .i64 E, .slice A' N C], .int .i64 c]) ∧ MayR ep A cap l E A' N C c ∧ Ext w w' := by
  cases hm : mayChainB ep l
  · exact (may_no ep A cap l w hl hcap hs hm).mono fun e w' ⟨he, h⟩ => ⟨_, _, _, _, _, he, .inr ⟨hm, rfl, rfl, rfl, rfl, rfl⟩, h⟩
  · exact (may_yes ep A cap l w hl hcap hs hm).mono fun e w' ⟨he, h⟩ => ⟨_, _, _, _, _, he, .inl ⟨hm, rfl, rfl, rfl, rfl, rfl⟩, h⟩
theorem MayR.res {ep : Int} {A : Option Addr} {cap : Nat} {l : List Int} {E : Int} {A' : Option Addr} {N C : Nat} {c : Int} {w w' : World} (h : MayR ep A cap l E A' N C c) (hs : Sl i64 w' A l) (hc : l.length ≤ cap) (hf : ∀ a, A = some a → w.heap.size ≤ a.block) (hx : Ext w w') :
    ChRes w (chOk ep l) (.returned (.tuple #[.agg #[.int .i64 E, .slice A' N C], .int .i64 c])) w' := by
  rcases h with ⟨hm, rfl, rfl, rfl, rfl, rfl⟩ | ⟨hm, rfl, rfl, rfl, rfl, rfl⟩
  · unfold chOk; rw [if_pos hm]; exact ⟨_, _, rfl, hs, hc, hx, hf⟩
  · unfold chOk; rw [if_neg (by simp [hm])]; exact ChRes.no hx

set_option maxHeartbeats 4000000 in
theorem with_any (ep x : Int) (A : Option Addr) (cap : Nat) (l : List Int) (w : World) (hl : l.length ≤ 1000000) (hcap : l.length ≤ cap) (hs : Sl i64 w A l) :
    Calls Try.prog 40 #[chV ep A l.length cap, .int .i64 x] w (ChRes w (withL ep l x)) := by
  obtain ⟨w0, hw0⟩ : ∃ w0, w0 = (w.alloc (.cells #[.int .i64 ep, .slice A l.length cap] 50)).alloc (.cells #[.int .i64 0, .slice none 0 0] 50) := ⟨_, rfl⟩
  have hb0 : Ext w w0 := by rw [hw0]; exact ((Below.refl _ _).alloc (Nat.le_refl _) _).alloc (by simp) _
  have K00 : Hid (Blk w0 w.heap.size 50 #[.int .i64 ep, .slice A l.length cap]) := by (show Blk _ _ _ _); rw [hw0]; exact (Blk.new w _ _).alloc _
  have K10 : Hid (Blk w0 (w.heap.size + 1) 50 #[.int .i64 0, .slice none 0 0]) := by (show Blk _ _ _ _); rw [hw0]; exact Blk.new' _ _ _ _ (by simp)
  have HZ : Hid (w0.heap.size = w.heap.size + 2) := by (show _ = _); rw [hw0]; simp
  have HC : Hid (∀ b, mayChainB ep l = b → Calls Try.prog 61 #[.agg #[.int .i64 ep, .slice A l.length cap]] w0 fun e w' => e = .returned (.bool b) ∧ Ext w0 w') := fun b hb => by rw [← hb]; exact mayChain_any ep A cap l w0 (by omega) hcap (hs.stay hb0)
  have HSL : Hid (∀ W, Ext w0 W → Sl i64 W A l) := fun W h => hs.stay (Ext.trans hb0 h)
  have HB0 := Lib.hid hb0
  have HW0 := Lib.hid hw0
  clear hb0 hw0 hs
  cases hm : mayChainB ep l
  · have HN : Hid (withL ep l x = noCh) := by (show _ = _); simp [withL, hm]
    have HC1 := Lib.hid (HC.out false hm)
    rw [HN.out]
    clear hm HC HSL HN
    generalize l.length = n at *
    refine hide_post fun D hD => ?_
    go_enter Try.func40, Try.ntmps40
    go_wp2_with (go_at_call 61; rw [← HW0.out]; (with_reducible refine HC1.out.mono ?_); rintro e w1 ⟨rfl, hx⟩; have b0 := (K10.out.stay hx).cell 0; have b1 := (K10.out.stay hx).cell 1; have f0 := (K10.out.stay hx).frozen 0; have f1 := (K10.out.stay hx).frozen 1; have K1 := Lib.hid (K10.out.stay hx); have HX := Lib.hid hx; clear hx; simp at b0 b1)
    have KA := (K1.out.set 0 (.int .i64 0)).set 1 (.slice none 0 0)
    have hcA := KA.cell 0
    have hcB := KA.cell 1
    simp at hcA hcB
    have hE := hD.out (.returned (.tuple #[chV 0 none 0 0, .int .i64 1])) _ (ChRes.no (Frm.step (Ext.trans HB0.out HX.out) (Frm.tr (Frm.of_set (s := fun k => k = w.heap.size + 1) w1 ⟨w.heap.size + 1, 0, none⟩ (.int .i64 0) rfl) (Frm.of_set _ ⟨w.heap.size + 1, 1, none⟩ (.slice none 0 0) rfl)) (Ext.trans HB0.out HX.out).size (by rintro k e; omega)))
    exact bodyPost_ret (v := .tuple #[chV 0 none 0 0, .int .i64 1]) (by simp [results, Try.results40, go_sem, hcA, hcB]) rfl hE
  · have HN : Hid (withL ep l x = chOk (ep + 1) (l ++ [x])) := by (show _ = _); simp [withL, hm]
    have HC1 := Lib.hid (HC.out true hm)
    have he : 0 ≤ ep ∧ ep ≤ 1073741824 ∧ l.length ≤ 5 := by simp [mayChainB] at hm; omega
    obtain ⟨e0, e1, e5⟩ := he
    rw [HN.out]
    clear hm HC HN
    refine hide_post fun D' hD' => ?_
    have HL1 : Hid ((l ++ [x]).length = l.length + 1) := by (show _ = _); simp
    have hD : Hid (∀ E A' N C c w1 W A2 cap2, Ext w0 w1 → MayR (ep + 1) A2 cap2 (l ++ [x]) E A' N C c → Ext w1 W → W.ownsRow w1.heap.size 3 1 (.slice A2 (l ++ [x]).length cap2) (l ++ [x]).length ((l ++ [x]).map i64) →
        D' (.returned (.tuple #[.agg #[.int .i64 E, .slice A' N C], .int .i64 c])) ((W.setCell ⟨w.heap.size + 1, 0, none⟩ (.int .i64 E)).setCell ⟨w.heap.size + 1, 1, none⟩ (.slice A' N C))) := fun E A' N C c w1 W A2 cap2 hx1 hr hx ho => hD'.out _ _ (by
      have hF : Frm (fun k => k = w.heap.size + 1) W ((W.setCell ⟨w.heap.size + 1, 0, none⟩ (.int .i64 E)).setCell ⟨w.heap.size + 1, 1, none⟩ (.slice A' N C)) := Frm.tr (Frm.of_set _ _ _ rfl) (Frm.of_set _ _ _ rfl)
      have h1 := own_frm ho hF (fun k hk e => by have := (ho.lt k hk).1; have := hx1.size; have := HZ.out; omega)
      have h2 : Ext w W := Ext.trans (Ext.trans HB0.out hx1) hx
      exact MayR.res hr (own_sl h1) (own_cap h1) (fun a ha => by have := own_fresh h1 a ha; have := (Ext.trans HB0.out hx1).size; omega) (Frm.step h2 hF h2.size (by rintro k e; omega)))
    clear hD'
    go_enter Try.func40, Try.ntmps40
    go_wp2_with (go_at_call 61; rw [← HW0.out]; (with_reducible refine HC1.out.mono ?_); rintro e w1 ⟨rfl, hx⟩; have c0 := (K00.out.stay hx).cell 0; have c1 := (K00.out.stay hx).cell 1; have K0 := Lib.hid (K00.out.stay hx); have K1 := Lib.hid (K10.out.stay hx); have HX := Lib.hid hx; clear hx; simp at c0 c1)
    refine rx_begin (fun k => w.heap.size + 1 ≤ k) (by kernel_rfl) ?_
    obtain ⟨wd, hwd⟩ : ∃ wd, wd = w1.drew := ⟨_, rfl⟩
    have hxd : Ext w0 wd := by rw [hwd]; exact Below.drew HX.out
    have k0 : Blk wd w.heap.size 50 #[.int .i64 ep, .slice A l.length cap] := by rw [hwd]; exact K0.out
    have k1 : Hid (Blk wd (w.heap.size + 1) 50 #[.int .i64 0, .slice none 0 0]) := by (show Blk _ _ _ _); rw [hwd]; exact K1.out
    rw [← hwd]
    clear hwd c0 c1 K0 K1 HX
    have K1 := Lib.hid k1.out
    have HXD := Lib.hid hxd
    have fa0 : ∀ W, Frm (fun k => w.heap.size + 1 ≤ k) wd W → W.cell? ⟨w.heap.size, 0, none⟩ = some (.int .i64 ep) := fun W h => (k0.frm h (by omega)).cell 0
    have fa1 : ∀ W, Frm (fun k => w.heap.size + 1 ≤ k) wd W → W.cell? ⟨w.heap.size, 1, none⟩ = some (.slice A l.length cap) := fun W h => (k0.frm h (by omega)).cell 1
    have HCL : Hid (∀ W, Ext wd W → Calls Try.prog 67 #[.slice A l.length cap] W fun e w' => ∃ v, e = .returned v ∧ w'.ownsRow wd.heap.size 3 1 v l.length (l.map i64) ∧ Ext W w') := fun W h =>
      (cloneI_any A cap l W (by omega) (HSL.out _ (Ext.trans hxd h))).mono fun e w' ⟨v, he, ho, hb⟩ => ⟨v, he, own_base ho (fun k hk => by have := (ho.lt k hk).1; have := h.size; omega), hb⟩
    have HM : Hid (∀ W A2 cap2, Ext wd W → Sl i64 W A2 (l ++ [x]) → (l ++ [x]).length ≤ cap2 → Calls Try.prog 66 #[.agg #[.int .i64 (ep + 1), .slice A2 (l.length + 1) cap2]] W fun e w' => ∃ E A' N C c, e = .returned (.tuple #[.agg #[.int .i64 E, .slice A' N C], .int .i64 c]) ∧ MayR (ep + 1) A2 cap2 (l ++ [x]) E A' N C c ∧ Ext W w') := fun W A2 cap2 h hs hc => by
      have := may_any (ep + 1) A2 cap2 (l ++ [x]) W (by rw [HL1.out]; omega) hc hs
      rwa [HL1.out] at this
    clear k0 k1 hxd HL1
    have hwr : IntKind.i64.wrap (ep + 1) = ep + 1 := IntWalk.i64_in _ (by omega)
    refine rx_take (i := 0) (v := ?_) rfl (by kernel_rfl) (by kernel_rfl) (by kernel_rfl) (fun _ _ _ h => h) (by rfl) ?_ ?_
    rotate_left
    · intro W hW; go_simp <;> with_reducible rfl
    try simp only [Act.put, List.setIfInBounds_toArray, List.set_cons_zero, List.set_cons_succ]
    refine rx_take (i := 1) (v := ?_) rfl (by kernel_rfl) (by kernel_rfl) (by kernel_rfl) (fun _ _ _ h => h) (by rfl) ?_ ?_
    rotate_left
    · intro W hW; go_simp <;> with_reducible rfl
    try simp only [Act.put, List.setIfInBounds_toArray, List.set_cons_zero, List.set_cons_succ]
    refine rx_take (i := 2) (v := ?_) rfl (by kernel_rfl) (by kernel_rfl) (by kernel_rfl) (fun _ _ _ h => h) (by rfl) ?_ ?_
    rotate_left
    · intro W hW; go_simp <;> with_reducible rfl
    try simp only [Act.put, List.setIfInBounds_toArray, List.set_cons_zero, List.set_cons_succ]
    refine rx_take (i := 3) (v := ?_) rfl (by kernel_rfl) (by kernel_rfl) (by kernel_rfl) (fun _ _ _ h => h) (by rfl) ?_ ?_
    rotate_left
    · intro W hW; go_simp <;> with_reducible rfl
    try simp only [Act.put, List.setIfInBounds_toArray, List.set_cons_zero, List.set_cons_succ]
    refine rx_take (i := 4) (v := ?_) rfl (by kernel_rfl) (by kernel_rfl) (by kernel_rfl) (fun _ _ _ h => h) (by rfl) ?_ ?_
    rotate_left
    · intro W hW; go_simp <;> with_reducible rfl
    try simp only [Act.put, List.setIfInBounds_toArray, List.set_cons_zero, List.set_cons_succ]
    refine rx_take (i := 6) (v := ?_) rfl (by kernel_rfl) (by kernel_rfl) (by kernel_rfl) (fun _ _ _ h => h) (by rfl) ?_ ?_
    rotate_left
    · intro W hW; go_simp <;> with_reducible rfl
    try simp only [Act.put, List.setIfInBounds_toArray, List.set_cons_zero, List.set_cons_succ]
    clear fa0 fa1 hwr
    refine rx_two (i := 5) (j := 7) rfl rfl (by kernel_rfl) (by rfl) (by rfl) (fun K hK => ?_) (fun K hK => ?_)
    · go_simp
      (go_at_call 67; (with_reducible refine (HCL.out _ (Ext.refl _)).mono ?_); rintro e W1 ⟨v1, rfl, ho1, hx1⟩; refine hK _ _ (Frm.of_below hx1 _) ?_; clear hK K)
      have HO1 := Lib.hid ho1
      try simp only [Act.put, List.setIfInBounds_toArray, List.set_cons_zero, List.set_cons_succ]
      refine rx_call (i := 7) rfl (by kernel_rfl) (by rfl) (fun K hK => ?_)
      go_simp
      refine hK _ _ (Frm.of_alloc _ _ _) ?_; clear hK K
      try simp only [Act.put, List.setIfInBounds_toArray, List.set_cons_zero, List.set_cons_succ]
      refine rx_call (i := 8) rfl (by kernel_rfl) (by rfl) (fun K hK => ?_)
      refine wp_append_list (.tmp 15) (.tmp 17) 32 rfl wd.heap.size 3 (.int .i64 0) 8 Try.underlying32 info_int rfl (by decide) _ _ _ rfl (HO1.out.alloc _) i64 (some ⟨W1.heap.size, 0, none⟩) [x] 1 1 rfl rfl (Sl.of_blk (Blk.new W1 _ _) (fun j v hj => by match j, hj with | 0, hj => (simp at hj; subst hj; rfl))) (fun _ => rfl) (by simp; omega) ((Ext.trans hx1 (ext_al _ _)).size) ?_
      intro v2 W2 o2 g2' b2
      have x2 : Ext wd W2 := (Ext.trans hx1 (ext_al _ _)).grown g2' ((Ext.trans hx1 (ext_al _ _)).size) (fun k hk => (HO1.out.lt k hk).1)
      refine hK _ _ (Frm.of_grown g2' (fun k hk => by have := (HO1.out.lt k hk.symm).1; have := HXD.out.size; have := HZ.out; omega)) ?_
      clear hK K g2' b2
      have O2 : W2.ownsRow wd.heap.size 3 1 v2 (l ++ [x]).length ((l ++ [x]).map i64) := by simpa using o2
      obtain ⟨A2, cap2, rfl⟩ := own_shape O2
      clear o2
      have S2 : Sl i64 W2 A2 (l ++ [x]) := own_sl O2
      have c2h : (l ++ [x]).length ≤ cap2 := own_cap O2
      have HLEN : Hid ((l ++ [x]).length = l.length + 1) := by (show _ = _); simp
      rw [HLEN.out]
      try simp only [Act.put, List.setIfInBounds_toArray, List.set_cons_zero, List.set_cons_succ]
      clear hx1 ho1
      refine rx_take (i := 9) (v := ?_) rfl (by kernel_rfl) (by kernel_rfl) (by kernel_rfl) (fun _ _ _ h => h) (by rfl) ?_ ?_
      rotate_left
      · intro W hW; go_simp <;> with_reducible rfl
      try simp only [Act.put, List.setIfInBounds_toArray, List.set_cons_zero, List.set_cons_succ]
      refine rx_call (i := 10) rfl (by kernel_rfl) (by rfl) (fun K hK => ?_)
      go_simp
      (go_at_call 66; (with_reducible refine (HM.out _ _ _ x2 S2 c2h).mono ?_); rintro e W3 ⟨E, A', N, C, c, rfl, hr, hx⟩; refine hK _ _ (Frm.of_below hx _) ?_; clear hK K)
      have x3 : Ext wd W3 := Ext.trans x2 hx
      have HR3 := Lib.hid hr
      have HX3 := Lib.hid hx
      have O3 := Lib.hid (own_frm (s := fun _ => False) O2 (Frm.of_below hx _) (fun _ _ h => h))
      have X3 := Lib.hid x3
      clear hx hr x2 S2 O2
      try simp only [Act.put, List.setIfInBounds_toArray, List.set_cons_zero, List.set_cons_succ]
      refine rx_take (i := 11) (v := ?_) rfl (by kernel_rfl) (by kernel_rfl) (by kernel_rfl) (fun _ _ _ h => h) (by rfl) ?_ ?_
      rotate_left
      · intro W hW; go_simp <;> with_reducible rfl
      try simp only [Act.put, List.setIfInBounds_toArray, List.set_cons_zero, List.set_cons_succ]
      refine rx_take (i := 12) (v := ?_) rfl (by kernel_rfl) (by kernel_rfl) (by kernel_rfl) (fun _ _ _ h => h) (by rfl) ?_ ?_
      rotate_left
      · intro W hW; go_simp <;> with_reducible rfl
      try simp only [Act.put, List.setIfInBounds_toArray, List.set_cons_zero, List.set_cons_succ]
      have q0 := (K1.out.stay X3.out).cell 0
      have q1 := (K1.out.stay X3.out).cell 1
      have q2 := (K1.out.stay X3.out).frozen 0
      have q3 := (K1.out.stay X3.out).frozen 1
      simp at q0 q1
      refine rx_call (i := 13) rfl (by kernel_rfl) (by rfl) (fun K hK => ?_)
      go_simp
      refine hK _ _ (Frm.tr (Frm.of_set _ _ _ (Nat.le_refl _)) (Frm.of_set _ _ _ (Nat.le_refl _))) ?_
      clear hK K q0 q1 q2 q3
      try simp only [Act.put, List.setIfInBounds_toArray, List.set_cons_zero, List.set_cons_succ]
      refine rx_take (i := 14) (v := ?_) rfl (by kernel_rfl) (by kernel_rfl) (by kernel_rfl) (fun _ _ _ h => h) (by rfl) ?_ ?_
      rotate_left
      · intro W hW; go_simp <;> with_reducible rfl
      try simp only [Act.put, List.setIfInBounds_toArray, List.set_cons_zero, List.set_cons_succ]
      refine wpAnyH_done (by kernel_rfl) ?_ _
      have KA := Lib.hid (((K1.out.stay X3.out).set 0 (.int .i64 E)).set 1 (.slice A' N C))
      have hcA := KA.out.cell 0
      have hcB := KA.out.cell 1
      simp at hcA hcB
      have hE := hD.out E A' N C c _ _ _ _ HXD.out HR3.out X3.out O3.out
      go_wp2_with fail
      exact bodyPost_ret (v := .tuple #[.agg #[.int .i64 E, .slice A' N C], .int .i64 c]) (by simp [results, Try.results40, go_sem, hcA, hcB]) rfl hE
    · go_simp
      refine hK _ _ (Frm.of_alloc _ _ _) ?_; clear hK K
      try simp only [Act.put, List.setIfInBounds_toArray, List.set_cons_zero, List.set_cons_succ]
      refine rx_call (i := 5) rfl (by kernel_rfl) (by rfl) (fun K hK => ?_)
      go_simp
      (go_at_call 67; (with_reducible refine (HCL.out _ (ext_al _ _)).mono ?_); rintro e W1 ⟨v1, rfl, ho1, hx1⟩; refine hK _ _ (Frm.of_below hx1 _) ?_; clear hK K)
      have HO1 := Lib.hid ho1
      try simp only [Act.put, List.setIfInBounds_toArray, List.set_cons_zero, List.set_cons_succ]
      refine rx_call (i := 8) rfl (by kernel_rfl) (by rfl) (fun K hK => ?_)
      refine wp_append_list (.tmp 15) (.tmp 17) 32 rfl wd.heap.size 3 (.int .i64 0) 8 Try.underlying32 info_int rfl (by decide) _ _ _ rfl (HO1.out) i64 (some ⟨wd.heap.size, 0, none⟩) [x] 1 1 rfl rfl (Sl.of_blk ((Blk.new wd _ _).stay hx1) (fun j v hj => by match j, hj with | 0, hj => (simp at hj; subst hj; rfl))) (fun _ => rfl) (by simp; omega) ((Ext.trans (ext_al _ _) hx1).size) ?_
      intro v2 W2 o2 g2' b2
      have x2 : Ext wd W2 := (Ext.trans (ext_al _ _) hx1).grown g2' ((Ext.trans (ext_al _ _) hx1).size) (fun k hk => (HO1.out.lt k hk).1)
      refine hK _ _ (Frm.of_grown g2' (fun k hk => by have := (HO1.out.lt k hk.symm).1; have := HXD.out.size; have := HZ.out; omega)) ?_
      clear hK K g2' b2
      have O2 : W2.ownsRow wd.heap.size 3 1 v2 (l ++ [x]).length ((l ++ [x]).map i64) := by simpa using o2
      obtain ⟨A2, cap2, rfl⟩ := own_shape O2
      clear o2
      have S2 : Sl i64 W2 A2 (l ++ [x]) := own_sl O2
      have c2h : (l ++ [x]).length ≤ cap2 := own_cap O2
      have HLEN : Hid ((l ++ [x]).length = l.length + 1) := by (show _ = _); simp
      rw [HLEN.out]
      try simp only [Act.put, List.setIfInBounds_toArray, List.set_cons_zero, List.set_cons_succ]
      clear hx1 ho1
      refine rx_take (i := 9) (v := ?_) rfl (by kernel_rfl) (by kernel_rfl) (by kernel_rfl) (fun _ _ _ h => h) (by rfl) ?_ ?_
      rotate_left
      · intro W hW; go_simp <;> with_reducible rfl
      try simp only [Act.put, List.setIfInBounds_toArray, List.set_cons_zero, List.set_cons_succ]
      refine rx_call (i := 10) rfl (by kernel_rfl) (by rfl) (fun K hK => ?_)
      go_simp
      (go_at_call 66; (with_reducible refine (HM.out _ _ _ x2 S2 c2h).mono ?_); rintro e W3 ⟨E, A', N, C, c, rfl, hr, hx⟩; refine hK _ _ (Frm.of_below hx _) ?_; clear hK K)
      have x3 : Ext wd W3 := Ext.trans x2 hx
      have HR3 := Lib.hid hr
      have HX3 := Lib.hid hx
      have O3 := Lib.hid (own_frm (s := fun _ => False) O2 (Frm.of_below hx _) (fun _ _ h => h))
      have X3 := Lib.hid x3
      clear hx hr x2 S2 O2
      try simp only [Act.put, List.setIfInBounds_toArray, List.set_cons_zero, List.set_cons_succ]
      refine rx_take (i := 11) (v := ?_) rfl (by kernel_rfl) (by kernel_rfl) (by kernel_rfl) (fun _ _ _ h => h) (by rfl) ?_ ?_
      rotate_left
      · intro W hW; go_simp <;> with_reducible rfl
      try simp only [Act.put, List.setIfInBounds_toArray, List.set_cons_zero, List.set_cons_succ]
      refine rx_take (i := 12) (v := ?_) rfl (by kernel_rfl) (by kernel_rfl) (by kernel_rfl) (fun _ _ _ h => h) (by rfl) ?_ ?_
      rotate_left
      · intro W hW; go_simp <;> with_reducible rfl
      try simp only [Act.put, List.setIfInBounds_toArray, List.set_cons_zero, List.set_cons_succ]
      have q0 := (K1.out.stay X3.out).cell 0
      have q1 := (K1.out.stay X3.out).cell 1
      have q2 := (K1.out.stay X3.out).frozen 0
      have q3 := (K1.out.stay X3.out).frozen 1
      simp at q0 q1
      refine rx_call (i := 13) rfl (by kernel_rfl) (by rfl) (fun K hK => ?_)
      go_simp
      refine hK _ _ (Frm.tr (Frm.of_set _ _ _ (Nat.le_refl _)) (Frm.of_set _ _ _ (Nat.le_refl _))) ?_
      clear hK K q0 q1 q2 q3
      try simp only [Act.put, List.setIfInBounds_toArray, List.set_cons_zero, List.set_cons_succ]
      refine rx_take (i := 14) (v := ?_) rfl (by kernel_rfl) (by kernel_rfl) (by kernel_rfl) (fun _ _ _ h => h) (by rfl) ?_ ?_
      rotate_left
      · intro W hW; go_simp <;> with_reducible rfl
      try simp only [Act.put, List.setIfInBounds_toArray, List.set_cons_zero, List.set_cons_succ]
      refine wpAnyH_done (by kernel_rfl) ?_ _
      have KA := Lib.hid (((K1.out.stay X3.out).set 0 (.int .i64 E)).set 1 (.slice A' N C))
      have hcA := KA.out.cell 0
      have hcB := KA.out.cell 1
      simp at hcA hcB
      have hE := hD.out E A' N C c _ _ _ _ HXD.out HR3.out X3.out O3.out
      go_wp2_with fail
      exact bodyPost_ret (v := .tuple #[.agg #[.int .i64 E, .slice A' N C], .int .i64 c]) (by simp [results, Try.results40, go_sem, hcA, hcB]) rfl hE
end Go.Proofs.Ytdjkopdgapifpaa
