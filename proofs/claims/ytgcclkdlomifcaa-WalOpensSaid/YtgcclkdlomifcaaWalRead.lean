/-
  wal.Read: the records that stand in bytes, and where they end.
-/
import Derived.Test.YtgcclkdlomifcaaWalIter
import Derived.Test.YtgcclkdlomifcaaDisk
import Derived.Maps.AppendAt
import Derived.RangeFuncWrites
namespace Go.Proofs.Ytgcclkdlomifcaa
set_option linter.unusedVariables false
set_option linter.unusedSimpArgs false
open Go.RowKit Go.Shelf
attribute [local go_sem] Oper.semAt_some

theorem operIn_append {F : Fence} {n : Nat} {P : Program} {w : World} {o : Oper} {a : Act} {Q : Exit → Act → World → Prop} {K : Act → World → Prop}
    (hg : o.guard = none) (s x : Operand) (t : TypeId) (hop : o.op = Op.call { callee := Callee.builtin Builtin.append, args := #[s, x], argTypes := #[t, t] })
    (base : Nat) (e : TypeId) (i : TypeInfo) (z : Value) (size bytes : Nat) (h1 : P.underlying t = some (.slice e)) (h2 : P.info? e = some i) (h3 : i.zero = some z) (h4 : i.size = size) (h5 : i.bytes = bytes) (h6 : z.cells.size = size) (h7 : 0 < size)
    (v : Value) (k : Nat) (xs : List Value) (hs : a.eval s = v) (hown : w.ownsRow base e size v k xs) (ad : Addr) (m c : Nat) (news : List Value) (hx : a.eval x = .slice (some ad) m c) (hn : news.length = m * size)
    (hc : ∀ j u, news[j]? = some u → w.cell? (ad.add j) = some u) (h1c : ∀ u ∈ news, u.oneCell' = true) (b1 : k + m ≤ maxLen) (b2 : (k + m) * bytes ≤ 140737488355328) (b3 : base ≤ w.heap.size)
    (hK : ∀ v' w', w'.ownsRow base e size v' (k + m) (xs ++ news) → w.grownBy w' v.ownBlock → (v' = .slice none 0 0 ↔ v = .slice none 0 0 ∧ m = 0) → K (a.put o.dst v') w') : Oper.wpIn F n P o a w K Q := by
  obtain ⟨v', w', hrun, r1, r2, r3⟩ := run_append_own (P := P) w base t o.type e i z size bytes h1 h2 h3 h4 h5 h6 h7 v k xs hown ad m c news hn hc h1c b1 b2 b3
  unfold Oper.wpIn
  refine ⟨?_, ?_⟩
  · simp [Oper.about, hop, resolve, Target.leads, Sem.run_pure]
  · rw [Oper.semAt_plain F _ _ (by rw [hop]; intro c hc'; cases hc')]
    simp [execOp, hop, resolve, invoke, builtin, hs, hx, hrun, Result.andThen]
    exact hK v' w' r1 r2 r3

theorem keepsOthers_ext {W W' : World} (h : Ext W W') : KeepsOthers W W' := ⟨h.size, fun k o hk _ => (h.block k (Array.getElem?_eq_some_iff.1 hk).1).trans hk⟩
theorem own_ext {w w' : World} {base n : Nat} {e : TypeId} {v : Value} {xs : List Value} (h : w.ownsRow base e 1 v n xs) (hx : Ext w w') : w'.ownsRow base e 1 v n xs := own_frm (s := fun _ => False) h (Frm.of_below hx _) (fun _ _ h => h)
theorem own_one {w : World} {base n : Nat} {e : TypeId} {v : Value} {xs : List Value} (h : w.ownsRow base e 1 v n xs) : v.oneCell' = true := by
  obtain ⟨A, c, rfl⟩ := own_shape h
  rfl
/-- rows of different element types lie apart -/
theorem own_apart {w : World} {base base' n n' : Nat} {e e' : TypeId} {v v' : Value} {xs xs' : List Value} (h : w.ownsRow base e 1 v n xs) (h' : w.ownsRow base' e' 1 v' n' xs') (hne : e ≠ e') : ∀ k, v.ownBlock = some k → v'.ownBlock = some k → False := by
  intro k hk hk'
  rcases h'.2 with ⟨rfl, _⟩ | ⟨g, cap, cur, rfl, _, hgg, _⟩
  · simp [Value.ownBlock] at hk'
  · simp [Value.ownBlock] at hk'
    subst hk'
    exact own_type (t := e') (cs := cur) h hgg hne _ hk rfl

theorem info_bytes : (Try.prog.info? 22).map (fun i => (i.zero, i.size, i.bytes)) = some (some (.slice none 0 0), 1, 24) := by kernel_rfl

/-- the records that have come, each in a row of its own, from B on -/
def RVs (w : World) (B : Nat) (vs : List Value) (xs : List (List UInt8)) : Prop :=
  vs.length = xs.length ∧ ∀ (j : Nat) (v : Value) (x : List UInt8), vs[j]? = some v → xs[j]? = some x → w.ownsRow B 5 1 v x.length (x.map Go.Proofs.Ytgcclkdlomifcaa.u8)
theorem RVs.keep {w w' : World} {B : Nat} {vs : List Value} {xs : List (List UInt8)} (h : RVs w B vs xs) (hk : ∀ v n ys, w.ownsRow B 5 1 v n ys → w'.ownsRow B 5 1 v n ys) : RVs w' B vs xs :=
  ⟨h.1, fun j v x h1 h2 => hk _ _ _ (h.2 j v x h1 h2)⟩
theorem RVs.snoc {w : World} {B : Nat} {vs : List Value} {xs : List (List UInt8)} (h : RVs w B vs xs) {v : Value} {x : List UInt8} (ho : w.ownsRow B 5 1 v x.length (x.map Go.Proofs.Ytgcclkdlomifcaa.u8)) : RVs w B (vs ++ [v]) (xs ++ [x]) := by
  refine ⟨by simp [h.1], fun j v' x' h1 h2 => ?_⟩
  by_cases hj : j < vs.length
  · rw [List.getElem?_append_left hj] at h1
    rw [List.getElem?_append_left (by rw [← h.1]; exact hj)] at h2
    exact h.2 j v' x' h1 h2
  · rw [List.getElem?_append_right (by omega)] at h1
    rw [List.getElem?_append_right (by rw [← h.1]; omega)] at h2
    rw [h.1] at h1
    match hq : j - xs.length, h1, h2 with
    | 0, h1, h2 => simp at h1 h2; subst h1 h2; exact ho
    | n + 1, h1, h2 => simp at h1
/-- the list of records that grows in block z, its end in block z + 1 -/
structure ROut (B : Nat) (wz w : World) (z : Nat) (pre : List (Nat × List UInt8)) : Prop where
  low : Below z wz w
  big : B ≤ w.heap.size
  fin : Blk w (z + 1) 3 #[.int .i64 (endOf pre)]
  row : ∃ A cap vs, Blk w z 27 #[.slice A pre.length cap] ∧ w.ownsRow B 22 1 (.slice A pre.length cap) pre.length vs ∧ RVs w B vs (pre.map (·.2))
theorem own_rowkeep {W W' : World} {row : Option Nat} {B n : Nat} {e : TypeId} {v : Value} {xs : List Value} (ho : W.ownsRow B e 1 v n xs) (hg : W.grownBy W' row) (hr : ∀ r, row = some r → ∃ o : Obj, W.heap[r]? = some o ∧ o.isCells = false) : W'.ownsRow B e 1 v n xs := by
  refine ho.kept hg ?_
  rcases ho.2 with ⟨e', _⟩ | ⟨g, c, cur, e', _, hgb, _⟩
  · exact .inl (by rw [e']; rfl)
  · refine .inr fun e2 => ?_
    rw [e'] at e2
    obtain ⟨o, h1, h2⟩ := hr g (by simpa [Value.ownBlock] using e2.symm)
    rw [hgb] at h1
    cases h1
    cases h2
theorem ROut.own {b : List UInt8} {B z : Nat} {wz : World} (hz : z + 1 < B) : OwnFrom B (fun (l : List (Fr b)) W => ROut B wz W z (l.map (·.1))) := by
  rintro l W W' row ⟨hlow, hbig, hb2, A, cap, vs, hb, ho, hvs⟩ hg hr
  have hne : some z ≠ row := fun e => by have := (hr z e.symm).1; omega
  have hne2 : some (z + 1) ≠ row := fun e => by have := (hr (z + 1) e.symm).1; omega
  exact ⟨hlow.grown hg (by have := hb.lt; omega) (fun k hk => by have := (hr k hk).1; omega), Nat.le_trans hbig hg.size, hb2.grown hg hne2, A, cap, vs, hb.grown hg hne,
    own_rowkeep ho hg (fun r e => (hr r e).2), hvs.keep (fun v n ys h => own_rowkeep h hg (fun r e => (hr r e).2))⟩
theorem endOf_snoc (pre : List (Nat × List UInt8)) (x : Nat × List UInt8) : endOf (pre ++ [x]) = x.1 := by simp [endOf]
theorem ROut.push {B z : Nat} {wz w w1 w3 : World} {pre : List (Nat × List UInt8)} {A A3 : Option Addr} {c c3 : Nat} {vs : List Value} {v : Value} {x : Nat × List UInt8} (hz : z + 1 < B) (hlow : Below z wz w) (hbig : B ≤ w.heap.size)
    (hb : Blk w z 27 #[.slice A pre.length c]) (hb2 : Blk w (z + 1) 3 #[.int .i64 (endOf pre)]) (ho : w.ownsRow B 22 1 (.slice A pre.length c) pre.length vs) (hvs : RVs w B vs (pre.map (·.2))) (hcnt : pre.length ≤ 1000000000)
    (hx : Ext w w1) (hov : w1.ownsRow B 5 1 v x.2.length (x.2.map Go.Proofs.Ytgcclkdlomifcaa.u8)) (hg : (w1.alloc (.cells #[v] 22)).grownBy w3 (Value.slice A pre.length c).ownBlock) (ho3 : w3.ownsRow B 22 1 (.slice A3 (pre.length + 1) c3) (pre.length + 1) (vs ++ [v])) :
    Blk w3 z 27 #[.slice A pre.length c] ∧ Blk w3 (z + 1) 3 #[.int .i64 (endOf pre)] ∧ KeepsFrom B w1 ((w3.setCell ⟨z, 0, none⟩ (.slice A3 (pre.length + 1) c3)).setCell ⟨z + 1, 0, none⟩ (.int .i64 x.1)) ∧
      Frm (fun k => k = z ∨ k = z + 1 ∨ B ≤ k) w ((w3.setCell ⟨z, 0, none⟩ (.slice A3 (pre.length + 1) c3)).setCell ⟨z + 1, 0, none⟩ (.int .i64 x.1)) ∧
      ROut B wz ((w3.setCell ⟨z, 0, none⟩ (.slice A3 (pre.length + 1) c3)).setCell ⟨z + 1, 0, none⟩ (.int .i64 x.1)) z (pre ++ [x]) := by
  have hneU : 5 ≠ 22 := by decide
  have hlt : ∀ k, (Value.slice A pre.length c).ownBlock = some k → B ≤ k := fun k hk => (ho.lt k hk).1
  have hne : some z ≠ (Value.slice A pre.length c).ownBlock := fun e => by have := hlt z e.symm; omega
  have hne2 : some (z + 1) ≠ (Value.slice A pre.length c).ownBlock := fun e => by have := hlt (z + 1) e.symm; omega
  have ho1 : (w1.alloc (.cells #[v] 22)).ownsRow B 22 1 (.slice A pre.length c) pre.length vs := (own_ext ho hx).alloc _
  have k1 : Blk w3 z 27 #[.slice A pre.length c] := ((hb.stay hx).alloc _).grown hg hne
  have k2 : Blk w3 (z + 1) 3 #[.int .i64 (endOf pre)] := ((hb2.stay hx).alloc _).grown hg hne2
  have hF3 : Frm (fun k => B ≤ k) w w3 := Frm.tr (Frm.tr (Frm.of_below hx _) (Frm.of_alloc _ _ _)) (Frm.of_grown hg (fun k hk => hlt k hk.symm))
  have hF5 : Frm (fun k => k = z ∨ k = z + 1) w3 ((w3.setCell ⟨z, 0, none⟩ (.slice A3 (pre.length + 1) c3)).setCell ⟨z + 1, 0, none⟩ (.int .i64 x.1)) := Frm.tr (Frm.of_set _ _ _ (.inl rfl)) (Frm.of_set _ _ _ (.inr rfl))
  have hF : Frm (fun k => k = z ∨ k = z + 1 ∨ B ≤ k) w ((w3.setCell ⟨z, 0, none⟩ (.slice A3 (pre.length + 1) c3)).setCell ⟨z + 1, 0, none⟩ (.int .i64 x.1)) :=
    Frm.tr (hF3.mono (fun k h => .inr (.inr h))) (hF5.mono (fun k h => by rcases h with h | h; exact .inl h; exact .inr (.inl h)))
  have far : ∀ (u : Value) (n : Nat) (ys : List Value), w3.ownsRow B 5 1 u n ys → ((w3.setCell ⟨z, 0, none⟩ (.slice A3 (pre.length + 1) c3)).setCell ⟨z + 1, 0, none⟩ (.int .i64 x.1)).ownsRow B 5 1 u n ys := fun u n ys h =>
    own_frm h hF5 (fun k hk e => by have := (h.lt k hk).1; rcases e with e | e <;> omega)
  have grow : ∀ (u : Value) (n : Nat) (ys : List Value), (w1.alloc (.cells #[v] 22)).ownsRow B 5 1 u n ys → w3.ownsRow B 5 1 u n ys := fun u n ys h => by
    refine h.kept hg ?_
    cases hu : u.ownBlock with
    | none => exact .inl rfl
    | some k => exact .inr (fun e => own_apart h ho1 hneU k hu e.symm)
  refine ⟨k1, k2, ?_, hF, ?_⟩
  · refine ((KeepsOthers.alloc _ _).trans ((KeepsOthers.of_grownBy hg ?_).trans ((KeepsOthers.setCell _ _ _).trans (KeepsOthers.setCell _ _ _)))).from B
    intro j o hj hoo
    rcases ho1.2 with ⟨e, _⟩ | ⟨g, c', cur, e, _, hgb, _⟩
    · rw [e] at hj; simp [Value.ownBlock] at hj
    · rw [e] at hj
      simp [Value.ownBlock] at hj
      subst hj
      rw [hgb] at hoo
      cases hoo
      rfl
  · refine ⟨hlow.trans (hF.below (by have := hb.lt; omega) (by rintro k (e | e | e) <;> omega)), Nat.le_trans hbig hF.size, ?_, A3, c3, vs ++ [v], ?_, ?_, ?_⟩
    · have := (k2.far (g := z + 1) (p := ⟨z, 0, none⟩) (by simp) (.slice A3 (pre.length + 1) c3)).set 0 (.int .i64 x.1)
      rw [endOf_snoc]
      simpa using this
    · have := (k1.set 0 (.slice A3 (pre.length + 1) c3)).far (g := z) (p := ⟨z + 1, 0, none⟩) (by simp) (.int .i64 x.1)
      simpa using this
    · have := own_frm ho3 hF5 (fun k hk e => by have := (ho3.lt k hk).1; rcases e with e | e <;> omega)
      simpa using this
    · rw [List.map_append, List.map_singleton]
      refine RVs.snoc (hvs.keep fun u n ys h => far _ _ _ (grow _ _ _ ((own_ext h hx).alloc _))) (far _ _ _ (grow _ _ _ (hov.alloc _)))

theorem framesF_any (A : Option Addr) (n c : Nat) (w : World) :
    Calls Try.prog 60 #[.slice A n c] w fun e w' => e = .returned (.func (.func 79) #[] #[.pointer (some ⟨w.heap.size, 0, none⟩)]) ∧ w.alloc (.cells #[.slice A n c] 22) = w' := by
  go_enter Try.func60, Try.ntmps60
  go_wp2
  go_ret
  exact ⟨rfl, rfl⟩

theorem walkGo_len : ∀ (f k : Nat) (l : List UInt8), (walkGo f k l).length ≤ f
  | 0, _, _ => Nat.le_refl _
  | f + 1, k, l => by
    rw [walkGo]
    split
    · simp
    · simp only [List.length_cons]
      exact Nat.succ_le_succ (walkGo_len f _ _)
theorem framesB_len (l : List UInt8) : (framesB l).length ≤ l.length := walkGo_len _ _ _

/-- a slice of records, as a list -/
def Sls (w : World) (A : Option Addr) (xs : List (List UInt8)) : Prop :=
  ∀ (j : Nat) (x : List UInt8), xs[j]? = some x → ∃ b o A' c', A = some ⟨b, o, none⟩ ∧ w.cell? ⟨b, o + j, none⟩ = some (.slice A' x.length c') ∧ Sl Go.Proofs.Ytgcclkdlomifcaa.u8 w A' x
theorem Sls.stay {w w' : World} {A : Option Addr} {xs : List (List UInt8)} (h : Sls w A xs) (hb : Below w.heap.size w w') : Sls w' A xs := fun j x hj =>
  let ⟨b, o, A', c', e, hc, hs⟩ := h j x hj; ⟨b, o, A', c', e, cell_stay hb hc, hs.stay hb⟩
theorem RVs.sls {w : World} {B : Nat} {vs : List Value} {xs : List (List UInt8)} {A : Option Addr} {n c : Nat} (h : RVs w B vs xs) (hn : n = xs.length) (ho : w.ownsRow B 22 1 (.slice A n c) n vs) : Sls w A xs := fun j x hj => by
  subst hn
  have hjl : j < xs.length := (List.getElem?_eq_some_iff.1 hj).1
  have hv : vs[j]? = some (vs[j]'(by rw [h.1]; exact hjl)) := List.getElem?_eq_getElem _
  have hov := h.2 j _ x hv hj
  obtain ⟨A', c', e', hs⟩ := own_view hov
  have hw := own_view (f := fun v : Value => v) (l := vs) (v := .slice A xs.length c) (by rw [List.map_id', h.1]; exact ho)
  obtain ⟨A9, c9, e9, hsl⟩ := hw
  injection e9 with e1 e2 e3
  subst e1
  obtain ⟨b, o, e, hc⟩ := hsl j _ hv
  exact ⟨b, o, A', c', e, by rw [hc, e'], hs⟩
/-- and all of it lies from B on -/
def SlsB (w : World) (B : Nat) (A : Option Addr) (xs : List (List UInt8)) : Prop :=
  ∀ (j : Nat) (x : List UInt8), xs[j]? = some x → ∃ b o A' c', A = some ⟨b, o, none⟩ ∧ w.cell? ⟨b, o + j, none⟩ = some (.slice A' x.length c') ∧ Sl Go.Proofs.Ytgcclkdlomifcaa.u8 w A' x ∧ B ≤ b ∧ ∀ a, A' = some a → B ≤ a.block
theorem SlsB.sls {w : World} {B : Nat} {A : Option Addr} {xs : List (List UInt8)} (h : SlsB w B A xs) : Sls w A xs := fun j x hj =>
  let ⟨b, o, A', c', e, hc, hs, _⟩ := h j x hj; ⟨b, o, A', c', e, hc, hs⟩
theorem SlsB.frm {w w' : World} {B : Nat} {A : Option Addr} {xs : List (List UInt8)} {s : Nat → Prop} (h : SlsB w B A xs) (hf : Frm s w w') (hs : ∀ k, s k → k < B) : SlsB w' B A xs := fun j x hj => by
  obtain ⟨b, o, A', c', e, hc, hs', hb, ha⟩ := h j x hj
  refine ⟨b, o, A', c', e, (World.cell?_of_block (hf.block b (World.block_lt_of_cell? w _ hc) (fun hk => by have := hs b hk; omega))).trans hc, ?_, hb, ha⟩
  cases A' with
  | none => exact fun j v hj => by obtain ⟨b, o, e, _⟩ := hs' j v hj; cases e
  | some a => exact Sl.frm hs' hf (fun hk => by have := hs a.block hk; have := ha a rfl; omega)
theorem own_freshV {w : World} {base n k cap : Nat} {e : TypeId} {A : Option Addr} {xs : List Value} (h : w.ownsRow base e 1 (.slice A n cap) k xs) : ∀ a, A = some a → base ≤ a.block := by
  intro a ha
  subst ha
  exact (h.lt a.block (by simp [Value.ownBlock])).1
theorem RVs.slsB {w : World} {B : Nat} {vs : List Value} {xs : List (List UInt8)} {A : Option Addr} {n c : Nat} (h : RVs w B vs xs) (hn : n = xs.length) (ho : w.ownsRow B 22 1 (.slice A n c) n vs) : SlsB w B A xs := fun j x hj => by
  obtain ⟨b, o, A', c', e, hc, hs⟩ := h.sls hn ho j x hj
  have hjl : j < xs.length := (List.getElem?_eq_some_iff.1 hj).1
  have hv : vs[j]? = some (vs[j]'(by rw [h.1]; exact hjl)) := List.getElem?_eq_getElem _
  have hov := h.2 j _ x hv hj
  subst hn
  have hw := own_view (f := fun v : Value => v) (l := vs) (v := .slice A xs.length c) (by rw [List.map_id', h.1]; exact ho)
  obtain ⟨A9, c9, e9, hsl⟩ := hw
  injection e9 with e1 e2 e3
  subst e1
  obtain ⟨b2, o2, e2', hc2⟩ := hsl j _ hv
  rw [e] at e2'
  injection e2' with e2'
  injection e2' with e4 e5
  subst e4 e5
  rw [hc] at hc2
  injection hc2 with hc2
  replace hc2 : Value.slice A' x.length c' = vs[j]'(by rw [h.1]; exact hjl) := hc2
  rw [← hc2] at hov
  exact ⟨b, o, A', c', e, hc, hs, own_freshV ho _ e, fun a ha => own_freshV hov a ha⟩
theorem own_capV {w : World} {base n cap k : Nat} {e : TypeId} {A : Option Addr} {xs : List Value} (h : w.ownsRow base e 1 (.slice A n cap) k xs) : n ≤ cap := by
  rcases h.2 with ⟨e, hn⟩ | ⟨g, c, cur, e, _, _, h1, h2, _⟩
  · injection e with e1 e2 e3; omega
  · injection e with e1 e2 e3; omega

set_option maxRecDepth 100000 in
set_option maxHeartbeats 8000000 in
theorem read_any0 (A : Option Addr) (cap : Nat) (l : List UInt8) (w : World) (hl : l.length ≤ 1000000) (hcap : l.length ≤ cap) (hc63 : cap ≤ 9223372036854775807) (hs : Sl Go.Proofs.Ytgcclkdlomifcaa.u8 w A l) :
    Calls Try.prog 17 #[.slice A l.length cap] w fun e w' => ∃ A' c', e = .returned (.tuple #[.slice A' (readB l).length c', .int .i64 (endOf (framesB l))]) ∧ SlsB w' w.heap.size A' (readB l) ∧ (readB l).length ≤ c' ∧ Ext w w' := by
  refine hide_post fun D' HD' => ?_
  have hD' := HD'.out
  obtain ⟨bk, o, hAE⟩ : ∃ bk o, l ≠ [] → A = some ⟨bk, o, none⟩ := by
    cases hl0 : l with
    | nil => exact ⟨0, 0, fun h => absurd rfl h⟩
    | cons x r =>
      obtain ⟨b, o, e, _⟩ := hs 0 x (by rw [hl0]; rfl)
      exact ⟨b, o, fun _ => e⟩
  have hAB : l ≠ [] → bk < w.heap.size := fun hne => by
    cases hl0 : l with
    | nil => exact absurd hl0 hne
    | cons x r =>
      obtain ⟨b, o', e, hc⟩ := hs 0 x (by rw [hl0]; rfl)
      rw [hAE hne] at e
      injection e with e
      injection e with e1 e2
      subst e1
      exact World.block_lt_of_cell? w _ hc
  obtain ⟨z, hz0⟩ : ∃ z, z = w.heap.size := ⟨_, rfl⟩
  obtain ⟨wz, hwz⟩ : ∃ wz, wz = (((w.alloc (.cells #[.slice none 0 0] 27)).alloc (.cells #[.int .i64 0] 3)).alloc (.cells #[.slice A l.length cap] 22)) := ⟨_, rfl⟩
  have hzs : wz.heap.size = z + 3 := by rw [hwz, hz0]; simp
  have hxz : Ext w wz := by rw [hwz]; exact Ext.trans (Ext.trans (Ext.alloc _ _) (Ext.alloc _ _)) (Ext.alloc _ _)
  have HB0 : Blk wz z 27 #[.slice none 0 0] := by rw [hwz]; exact ((Blk.new' w _ _ z hz0).alloc _).alloc _
  have HB1 : Blk wz (z + 1) 3 #[.int .i64 0] := by rw [hwz]; exact (Blk.new' _ _ _ (z + 1) (by simp [hz0])).alloc _
  have HB2 : Blk wz (z + 1 + 1) 22 #[.slice A l.length cap] := by rw [hwz]; exact Blk.new' _ _ _ (z + 1 + 1) (by simp [hz0])
  obtain ⟨i0, hi, hz0', hz1, hz2⟩ := info_parts info_bytes
  have HSF : ∀ W W', Ext wz W → Frm (fun k => k = z ∨ k = z + 1 ∨ wz.heap.size ≤ k) W W' → Sl Go.Proofs.Ytgcclkdlomifcaa.u8 W' A l := fun W W' h hf => by
    by_cases hne : l = []
    · subst hne; exact Sl.nil _ _ _
    · have h1 := hs.stay (Ext.trans hxz h)
      rw [hAE hne] at h1 ⊢
      exact Sl.frm h1 hf (by have := hAB hne; simp; omega)
  have hstops : SeqStopsK Fence.wide 5 Try.prog 79 #[.pointer (some ⟨z + 1 + 1, 0, none⟩)] (encF l bk o cap) (Frm (fun k => k = z ∨ k = z + 1 ∨ wz.heap.size ≤ k)) (fun ys => ys.map (·.1) = framesB l) (fun pre => pre.map (·.1) <+: framesB l) l.length wz := fun y J Jx W hW hJ _ hY h0 =>
    frames_in 5 (by omega) _ y (z + 1 + 1) bk o A cap l (by omega) hcap hc63 J Jx W hAE
      (fun W' hf => ((HB2.stay hW).frm hf (by rintro (e | e | e) <;> omega)).cell 0) (fun W' hf => HSF W W' hW hf)
      (fun pre V V' hj hb => hJ pre V V' none hj (grown_below hb none) (fun r e => by cases e)) hY h0
  have HO0 : ROut wz.heap.size wz wz z [] := ⟨Below.refl _ _, Nat.le_refl _, HB1, none, 0, [], HB0, World.ownsRow_nil _ _ _ _, rfl, fun j v x h => by simp at h⟩
  have HFL := framesB_len l
  refine (callsIn_wide (n := 6)).1 ?_
  refine callsIn_of_wp_marks Try.func17 rfl trivial ?_ rfl
  simp only [Try.ntmps17, List.size_toArray, List.length_cons, List.length_nil, Nat.reduceAdd, Nat.reduceSub, Array.replicate_succ, Array.replicate_zero, List.push_toArray, List.append_toArray, List.nil_append, List.cons_append]
  gi_wp2_with (refine ⟨trivial, ?_⟩; gi_at_call 60; refine (callsIn_wide.2 (framesF_any _ _ _ _)).mono ?_; rintro e w2 ⟨rfl, rfl⟩)
  rw [← hz0, ← hwz]
  have HAE := Lib.hid hAE
  have HSW : Hid (∀ W, Below z wz W → Sl Go.Proofs.Ytgcclkdlomifcaa.u8 W A l) := fun W hb => by
    intro j v hj
    have hne : l ≠ [] := fun e => by rw [e] at hj; simp at hj
    obtain ⟨b, o', e, hc⟩ := hs.stay hxz j v hj
    have e2 := hAE hne
    rw [e] at e2
    injection e2 with e2
    injection e2 with e2 e3
    subst e2
    exact ⟨b, o', e, cell_below hb (by have := hAB hne; simp only; omega) hc⟩
  have HXZ := Lib.hid hxz
  have HZ0 := Lib.hid hz0
  clear hwz hz0 HSF hxz hs hAE hAB
  refine wpIn_rangeFunc_ownG rfl (by omega) (gf := 79) (lb := #[.pointer (some ⟨z + 1 + 1, 0, none⟩)]) rfl trivial (enters_of Try.func79 (by kernel_rfl) rfl)
    hstops (fun h h' => Frm.tr h h') (fun W q o o' hq _ _ _ => Frm.of_grown (grownBy_putObj' W q o') (fun k hk => by injection hk with hk; subst hk; exact .inr (.inr hq))) (Below.refl _ _) (fun _ => rfl)
    (fun pre W => ROut wz.heap.size wz W z (pre.map (·.1))) (fun _ _ _ => False)
    (ROut.own (by omega)) (fun _ _ _ _ _ hs _ _ => hs) HO0
    (fun x => { tmps := #[.slice A l.length cap, undef, .slice none 0 0, .int .i64 0, .pointer (some ⟨z, 0, none⟩), .pointer (some ⟨z + 1, 0, none⟩), .int .i64 x.1.1, .slice (some ⟨bk, o + (x.1.1 - x.1.2.length), none⟩) x.1.2.length (cap - (x.1.1 - x.1.2.length)), .slice A l.length cap, .func (.func 79) #[] #[.pointer (some ⟨z + 1 + 1, 0, none⟩)], .int .i64 x.1.1, .slice (some ⟨bk, o + (x.1.1 - x.1.2.length), none⟩) x.1.2.length (cap - (x.1.1 - x.1.2.length)), undef, undef, undef, undef, undef, undef, undef, undef], defers := [] }) ?assign ?body ?done ?stop
  case assign =>
    intro q x W K hK
    unfold encF
    gi_wp2
    exact hK
  case body =>
    rintro q pre x' W hR hlt
    obtain ⟨x, hxe⟩ : ∃ x, x = x'.1 := ⟨_, rfl⟩
    obtain ⟨hx1, hx2⟩ := x'.2
    have hm : (pre ++ [x']).map (·.1) = pre.map (·.1) ++ [x] := by simp [hxe]
    rw [← hxe] at hx1 hx2 ⊢
    have hne : l ≠ [] := fun e => by
      have h0 := congrArg List.length e
      rw [List.length_nil] at h0
      omega
    have hlt : (pre.map (·.1)).length < l.length := by simpa using hlt
    have HM := Lib.hid hm
    generalize pre.map (·.1) = ps at *
    obtain ⟨hlow, hbig, hb2, A2, c2, vs, hb, ho, hvs⟩ := hR
    have hAe := HAE.out hne
    have hsx : Sl Go.Proofs.Ytgcclkdlomifcaa.u8 W.drew (some ⟨bk, o + (x.1 - x.2.length), none⟩) x.2 := by
      have h1 := HSW.out W hlow
      rw [hAe] at h1
      have h2 := (sl_drop h1 (x.1 - x.2.length)).take' x.2.length
      rw [hx2] at h2
      exact h2.keep (fun _ _ h => h)
    have hxl : x.2.length ≤ l.length := by rw [← hx2, List.length_take, List.length_drop]; omega
    have CC : Hid (Calls Try.prog 61 #[.slice (some ⟨bk, o + (x.1 - x.2.length), none⟩) x.2.length (cap - (x.1 - x.2.length))] W.drew fun e w' => ∃ v, e = .returned v ∧ w'.ownsRow W.drew.heap.size 5 1 v x.2.length (x.2.map Go.Proofs.Ytgcclkdlomifcaa.u8) ∧ Ext W.drew w') := clone_any _ _ x.2 W.drew (by omega) hsx
    have HO := Lib.hid ho
    have hcnt : ps.length ≤ 1000000000 := by omega
    have hz : z + 1 < wz.heap.size := by omega
    have fz : ∀ V, Frm (fun k => wz.heap.size ≤ k) W V → V.cell? ⟨z, 0, none⟩ = some (.slice A2 ps.length c2) := fun V h => (hb.frm h (by omega)).cell 0
    have E0 : Hid (Frm (fun k => wz.heap.size ≤ k) W W) := Frm.refl _ _
    clear hzs
    have HPUSH : Hid (∀ (w1 w3 : World) (A3 : Option Addr) (c3 : Nat) (v : Value), Ext W w1 → w1.ownsRow wz.heap.size 5 1 v x.2.length (x.2.map Go.Proofs.Ytgcclkdlomifcaa.u8) → (w1.alloc (.cells #[v] 22)).grownBy w3 (Value.slice A2 ps.length c2).ownBlock → w3.ownsRow wz.heap.size 22 1 (.slice A3 (ps.length + 1) c3) (ps.length + 1) (vs ++ [v]) → _) := fun w1 w3 A3 c3 v h1 h2 h3 h4 => ROut.push hz hlow hbig hb hb2 ho hvs hcnt h1 h2 h3 h4
    have HBIG := Lib.hid hbig
    clear hlow hb hb2 ho hvs HO0 hstops HB0 HB1 HB2 hAe hsx hm hx1 hx2 hbig hxe
    generalize x.1 - x.2.length = d at *
    generalize hxn : x.2.length = xn at *
    have HXN := Lib.hid hxn
    clear hxn
    gi_wp2
    refine ri_begin (fun k => wz.heap.size ≤ k) [6, 7] (by kernel_rfl) ?_
    have E0 : Hid (Frm (fun k => wz.heap.size ≤ k) W W.drew) := Frm.drew E0.out
    refine ri_take [4, 6, 7] (i := 0) (v := ?_) rfl (by kernel_rfl) (by kernel_rfl) (by kernel_rfl) (by kernel_rfl) (by kernel_rfl) (by kernel_rfl) (by kernel_rfl) (fun _ _ _ h => h) (by rfl) (fun _ => rfl) ?_ ?_
    rotate_left
    · intro W hW; have hW0 := Frm.tr E0.out hW; clear hW; go_simp <;> with_reducible rfl
    try simp only [Act.put, List.setIfInBounds_toArray, List.set_cons_zero, List.set_cons_succ]
    refine ri_take [2, 3, 4, 6, 7] (i := 1) (v := ?_) rfl (by kernel_rfl) (by kernel_rfl) (by kernel_rfl) (by kernel_rfl) (by kernel_rfl) (by kernel_rfl) (by kernel_rfl) (fun _ _ _ h => h) (by rfl) (fun _ => rfl) ?_ ?_
    rotate_left
    · intro W hW; have hW0 := Frm.tr E0.out hW; clear hW; go_simp <;> with_reducible rfl
    try simp only [Act.put, List.setIfInBounds_toArray, List.set_cons_zero, List.set_cons_succ]
    refine ri_takew (i := 5) (v := ?_) rfl (by kernel_rfl) (by kernel_rfl) (by kernel_rfl) (by kernel_rfl) (fun _ _ _ h => h) (by rfl) (fun _ => rfl) ?_ ?_
    rotate_left
    · intro W; go_simp <;> with_reducible rfl
    try simp only [Act.put, List.setIfInBounds_toArray, List.set_cons_zero, List.set_cons_succ]
    refine ri_call (i := 2) rfl (by kernel_rfl) (by rfl) (fun K hK => ?_)
    go_simp
    refine ⟨trivial, ?_⟩
    (try refine ⟨fun _ => by omega, ?_⟩)
    gi_at_call 61
    refine (CallsIn.inRound q (callsIn_wide.2 CC.out)).mono ?_
    rintro e w1 ⟨v, rfl, ho, hx⟩
    obtain ⟨Av, cv, rfl⟩ := own_shape ho
    refine hK _ _ (Frm.of_below hx _) ?_
    clear hK K
    have HX1 : Hid (Ext W w1) := Ext.trans (Ext.drewR (Ext.refl W)) hx
    have HO1 : Hid (w1.ownsRow wz.heap.size 5 1 (.slice Av xn cv) xn (x.2.map Go.Proofs.Ytgcclkdlomifcaa.u8)) := own_base ho (fun k hk => Nat.le_trans HBIG.out (ho.lt k hk).1)
    have HKF1 : Hid (KeepsFrom wz.heap.size W w1) := ((KeepsOthers.drew W).trans (keepsOthers_ext hx)).from _
    clear ho hx
    try simp only [Act.put, List.setIfInBounds_toArray, List.set_cons_zero, List.set_cons_succ]
    refine ri_call (i := 3) rfl (by kernel_rfl) (by rfl) (fun K hK => ?_)
    go_simp
    refine hK _ _ (Frm.of_alloc _ _ _) ?_
    clear hK K
    try simp only [Act.put, List.setIfInBounds_toArray, List.set_cons_zero, List.set_cons_succ]
    refine ri_call (i := 4) rfl (by kernel_rfl) (by rfl) (fun K hK => ?_)
    refine operIn_append rfl (.tmp 12) (.tmp 15) 27 rfl wz.heap.size 22 i0 (.slice none 0 0) 1 24 Try.underlying27 hi hz0' hz1 hz2 rfl (by decide) (.slice A2 ps.length c2) ps.length vs rfl ((own_ext HO.out HX1.out).alloc _) ⟨w1.heap.size, 0, none⟩ 1 1 [.slice Av xn cv] rfl rfl (cell_one_new _ _ _) (by simp; exact own_one HO1.out) (by unfold maxLen; omega) (by omega) (by have := HX1.out.size; have := HBIG.out; simp; omega) ?_
    intro v' w3 ho3 hg3 _
    refine hK _ _ (Frm.of_grown hg3 (fun k hk => (HO.out.lt k hk.symm).1)) ?_
    clear hK K
    obtain ⟨A3, c3, rfl⟩ := own_shape ho3
    have H3 := Lib.hid (HPUSH.out w1 w3 A3 c3 (.slice Av xn cv) HX1.out HO1.out hg3 ho3)
    have k1 := H3.out.1.cell 0
    have k2 := H3.out.1.frozen 0
    have k3 := H3.out.2.1.cell 0
    have k4 := H3.out.2.1.frozen 0
    have HG3 := Lib.hid hg3
    simp at k1 k3
    clear ho3 hg3
    try simp only [Act.put, List.setIfInBounds_toArray, List.set_cons_zero, List.set_cons_succ]
    refine ri_last (i := 6) rfl (by kernel_rfl) (by rfl) (by rfl) (fun K hK => ?_)
    go_simp
    refine hK _ _ ?_; clear hK K
    try simp only [Act.put, List.setIfInBounds_toArray, List.set_cons_zero, List.set_cons_succ]
    refine ri_last (i := 7) rfl (by kernel_rfl) (by rfl) (by rfl) (fun K hK => ?_)
    go_simp
    refine hK _ _ ?_; clear hK K
    try simp only [Act.put, List.setIfInBounds_toArray, List.set_cons_zero, List.set_cons_succ]
    refine ri_done (by kernel_rfl) ?_ _
    have HFIN : Hid (ROut wz.heap.size wz ((w3.setCell ⟨z, 0, none⟩ (.slice A3 (ps.length + 1) c3)).setCell ⟨z + 1, 0, none⟩ (.int .i64 x.1)) z ((pre ++ [x']).map (·.1))) := by rw [HM.out]; exact H3.out.2.2.2.2
    gi_wp2
    exact ⟨HKF1.out.trans H3.out.2.2.1, H3.out.2.2.2.1, HFIN.out⟩
  case done =>
    rintro D ys W hD hys hR hK
    rw [hys] at hR
    obtain ⟨hlow, hbig, hb2, A2, c2, vs, hb, ho, hvs⟩ := hR
    have fz0 : ∀ V, Frm (fun _ => False) W V → V.cell? ⟨z, 0, none⟩ = some (.slice A2 (framesB l).length c2) := fun V h => (hb.stay (below_of_frm' h)).cell 0
    have fz1 : ∀ V, Frm (fun _ => False) W V → V.cell? ⟨z + 1, 0, none⟩ = some (.int .i64 (endOf (framesB l))) := fun V h => (hb2.stay (below_of_frm' h)).cell 0
    have E0 : Hid (Frm (fun _ => False) W W) := Frm.refl _ _
    have hKd : W.drew.heap[D]? = some (.deferred (some [])) := hK
    have hG := grownBy_putObj' W.drew D (.deferred none)
    have hF : Frm (fun k => k = D) W (W.drew.putObj D (.deferred none)) := Frm.tr (Frm.drew (Frm.refl _ W)) (Frm.of_grown hG (fun k hk => by injection hk))
    have hnD : ∀ (e : TypeId) (v : Value) (n : Nat) (xs : List Value), W.ownsRow wz.heap.size e 1 v n xs → ∀ k, v.ownBlock = some k → ¬ k = D := fun e v n xs ho k hk h2 => by
      subst h2
      rcases ho.2 with ⟨e, _⟩ | ⟨g, cc, cur, e, _, hgb, _⟩
      · rw [e] at hk; simp [Value.ownBlock] at hk
      · rw [e] at hk
        simp [Value.ownBlock] at hk
        subst hk
        rw [hgb] at hK
        cases hK
    have ho4 := own_frm ho hF (hnD _ _ _ _ ho)
    have hv4 := hvs.keep (w' := W.drew.putObj D (.deferred none)) (fun v n ys h => own_frm h hF (hnD _ _ _ _ h))
    have hrl : (readB l).length = (framesB l).length := by simp [readB]
    have hsls : SlsB (W.drew.putObj D (.deferred none)) w.heap.size A2 (readB l) := fun j x hj => by
      obtain ⟨b, o, A', c', e, h1, h2, h3, h4⟩ := hv4.slsB hrl.symm ho4 j x hj
      have hz9 := HXZ.out.size
      exact ⟨b, o, A', c', e, h1, h2, by omega, fun a ha => by have := h4 a ha; omega⟩
    have hE := hD' (.returned (.tuple #[.slice A2 (framesB l).length c2, .int .i64 (endOf (framesB l))])) _ ⟨A2, c2, by rw [hrl], hsls, by rw [hrl]; exact own_capV ho,
      Below.trans HXZ.out ((hlow.mono (by rw [HZ0.out]; exact Nat.le_refl _)).trans (hF.below (by have := HXZ.out.size; omega) (by rintro k rfl; have := HXZ.out.size; omega)))⟩
    have HE := Lib.hid hE
    have HKd := Lib.hid hKd
    clear hlow hbig hb hb2 ho hvs hK HO0 hstops HB0 HB1 HB2 hD hE hsls hv4 ho4 hnD hF hG hKd hrl
    generalize (framesB l).length = nf at *
    generalize endOf (framesB l) = ef at *
    gi_wp2
    refine ri_begin_n (fun _ => False) [] (by kernel_rfl) ?_
    have E0 : Hid (Frm (fun _ => False) W W.drew) := Frm.drew E0.out
    refine ri_take [2, 3] (i := 0) (v := ?_) rfl (by kernel_rfl) (by kernel_rfl) (by kernel_rfl) (by kernel_rfl) (by kernel_rfl) (by kernel_rfl) (by kernel_rfl) (fun _ _ _ h => h) (by rfl) (fun _ => rfl) ?_ ?_
    rotate_left
    · intro W hW; have hW0 := Frm.tr E0.out hW; clear hW; go_simp <;> with_reducible rfl
    try simp only [Act.put, List.setIfInBounds_toArray, List.set_cons_zero, List.set_cons_succ]
    refine ri_take [3] (i := 1) (v := ?_) rfl (by kernel_rfl) (by kernel_rfl) (by kernel_rfl) (by kernel_rfl) (by kernel_rfl) (by kernel_rfl) (by kernel_rfl) (fun _ _ _ h => h) (by rfl) (fun _ => rfl) ?_ ?_
    rotate_left
    · intro W hW; have hW0 := Frm.tr E0.out hW; clear hW; go_simp <;> with_reducible rfl
    try simp only [Act.put, List.setIfInBounds_toArray, List.set_cons_zero, List.set_cons_succ]
    refine ri_take [3] (i := 2) (v := ?_) rfl (by kernel_rfl) (by kernel_rfl) (by kernel_rfl) (by kernel_rfl) (by kernel_rfl) (by kernel_rfl) (by kernel_rfl) (fun _ _ _ h => h) (by rfl) (fun _ => rfl) ?_ ?_
    rotate_left
    · intro W hW; have hW0 := Frm.tr E0.out hW; clear hW; go_simp <;> with_reducible rfl
    try simp only [Act.put, List.setIfInBounds_toArray, List.set_cons_zero, List.set_cons_succ]
    refine ri_take [] (i := 3) (v := ?_) rfl (by kernel_rfl) (by kernel_rfl) (by kernel_rfl) (by kernel_rfl) (by kernel_rfl) (by kernel_rfl) (by kernel_rfl) (fun _ _ _ h => h) (by rfl) (fun _ => rfl) ?_ ?_
    rotate_left
    · intro W hW; have hW0 := Frm.tr E0.out hW; clear hW; go_simp <;> with_reducible rfl
    try simp only [Act.put, List.setIfInBounds_toArray, List.set_cons_zero, List.set_cons_succ]
    refine ri_done_n (by kernel_rfl) ?_ _
    gi_wp2
    refine ⟨by simp, .inl ⟨_, _, rfl, run_takeDeferred HKd.out, ?_⟩⟩
    exact ⟨_, by simp [results, Try.results17, go_sem], HE.out⟩
  case stop =>
    rintro D c pre W _ _ h _
    exact h.elim
theorem read_any (A : Option Addr) (cap : Nat) (l : List UInt8) (w : World) (hl : l.length ≤ 1000000) (hcap : l.length ≤ cap) (hc63 : cap ≤ 9223372036854775807) (hs : Sl Go.Proofs.Ytgcclkdlomifcaa.u8 w A l) :
    Calls Try.prog 17 #[.slice A l.length cap] w fun e w' => ∃ A' c', e = .returned (.tuple #[.slice A' (readB l).length c', .int .i64 (endOf (framesB l))]) ∧ Sls w' A' (readB l) ∧ (readB l).length ≤ c' ∧ Ext w w' :=
  (read_any0 A cap l w hl hcap hc63 hs).mono fun e w' ⟨A', c', h1, h2, h3, h4⟩ => ⟨A', c', h1, h2.sls, h3, h4⟩
end Go.Proofs.Ytgcclkdlomifcaa
