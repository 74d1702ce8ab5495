/-
  TallyOne: the worlds: five acceptors, a count, and the law's own variables, apart from one another.
-/
import Derived.Test.YtkdcbidbciognaaOneLaw
import Derived.Test.YtkdcbidbciognaaAccS
namespace Go.Proofs.Ytkdcbidbciognaa
set_option linter.unusedVariables false
set_option linter.unusedSimpArgs false
open Go.RowKit

theorem InS.frmK {K s : Nat → Prop} {w w' : World} {A : Option Addr} {cap : Nat} {ns : List Int} (h : InS K w A cap ns) (hf : Frm s w w') (hs : ∀ k, s k → ¬ K k) : InS K w' A cap ns := by
  obtain ⟨⟨h0, h1 | ⟨g, cur, rfl, h2, h3⟩⟩, h4⟩ := h
  · exact ⟨⟨h0, .inl h1⟩, h4⟩
  · exact ⟨⟨h0, .inr ⟨g, cur, rfl, h2.frm hf (fun hg => hs _ hg (h4 _ rfl)), h3⟩⟩, h4⟩
theorem AAtS.frmK {K s : Nat → Prop} {w w' : World} {a : Nat} {v : AV} (h : AAtS K w a v) (hf : Frm s w w') (ha : K a) (hs : ∀ k, s k → ¬ K k) : AAtS K w' a v := by
  obtain ⟨kA, kc, vA, vc, h1, h2, h3⟩ := h
  exact ⟨kA, kc, vA, vc, h1.frm hf (fun h => hs _ h ha), h2.frmK hf hs, h3.frmK hf hs⟩
theorem InS.ltS {K : Nat → Prop} {w : World} {A : Option Addr} {cap : Nat} {ns : List Int} (h : InS K w A cap ns) : InS (fun k => k < w.heap.size) w A cap ns := by
  obtain ⟨⟨h0, ⟨rfl, h1⟩ | ⟨g, cur, rfl, h2, h3⟩⟩, h4⟩ := h
  · exact ⟨⟨h0, .inl ⟨rfl, h1⟩⟩, fun _ e => by cases e⟩
  · exact ⟨⟨h0, .inr ⟨g, cur, rfl, h2, h3⟩⟩, fun ad e => by injection e with e; subst e; exact h2.lt⟩

/-- all but the count: the list of the acceptors at ga, what was chosen at g7, the greatest ballot so far at g8; K: their blocks -/
structure Rest (K : Nat → Prop) (w wr : World) (ga g7 g8 : Nat) (ad : Nat → Nat) (vs : Nat → AV) (r n ce : Int) (cl : List Int) : Prop where
  ext : Below w.heap.size w wr
  lst : ∃ cur, Blk wr ga 48 cur ∧ ∀ k, k < 5 → cur[k]? = some (pA (ad k))
  acc : ∀ k, k < 5 → AAtS K wr (ad k) (vs k)
  inj : ∀ k k', k < 5 → k' < 5 → k ≠ k' → ad k ≠ ad k'
  ch : ∃ A c, Blk wr g7 26 #[.int .i64 ce, .slice A cl.length c] ∧ InS K wr A c cl
  top : Blk wr g8 23 #[.int .i64 r, .int .i64 n]
  ks : K ga ∧ K g7 ∧ K g8 ∧ ∀ k, k < 5 → K (ad k)
  ge : w.heap.size ≤ g7 ∧ w.heap.size ≤ g8 ∧ ∀ k, k < 5 → w.heap.size ≤ ad k
variable {K K' : Nat → Prop} {w wr w' : World} {ga g7 g8 gx gb gc b P : Nat} {ad : Nat → Nat} {vs : Nat → AV} {r n ce : Int} {cl l : List Int} {v : TV} {A : Option Addr} {c : Nat} {xv cc : Array Value} {tc : TypeId}
theorem Rest.stay (h : Rest K w wr ga g7 g8 ad vs r n ce cl) (hx : Ext wr w') : Rest K w w' ga g7 g8 ad vs r n ce cl := by
  obtain ⟨h1, ⟨cur, h2, h2'⟩, h3, h4, ⟨A, c, h5, h5'⟩, h6, h7, h8⟩ := h
  exact ⟨Ext.trans h1 hx, ⟨cur, h2.stay hx, h2'⟩, fun k hk => (h3 k hk).stay hx, h4, ⟨A, c, h5.stay hx, h5'.stay hx⟩, h6.stay hx, h7, h8⟩
theorem Rest.frm {s : Nat → Prop} (h : Rest K w wr ga g7 g8 ad vs r n ce cl) (hf : Frm s wr w') (hs : ∀ k, s k → ¬ K k) (hb : Below w.heap.size w w') : Rest K w w' ga g7 g8 ad vs r n ce cl := by
  obtain ⟨h1, ⟨cur, h2, h2'⟩, h3, h4, ⟨A, c, h5, h5'⟩, h6, ⟨k1, k2, k3, k4⟩, h8⟩ := h
  exact ⟨hb, ⟨cur, h2.frm hf (fun h => hs _ h k1), h2'⟩, fun k hk => (h3 k hk).frmK hf (k4 k hk) hs, h4, ⟨A, c, h5.frm hf (fun h => hs _ h k2), h5'.frmK hf hs⟩, h6.frm hf (fun h => hs _ h k3), ⟨k1, k2, k3, k4⟩, h8⟩
theorem Rest.mono (h : Rest K w wr ga g7 g8 ad vs r n ce cl) (hK : ∀ k, K k → K' k) : Rest K' w wr ga g7 g8 ad vs r n ce cl := by
  obtain ⟨h1, h2, h3, h4, ⟨A, c, h5, h5'⟩, h6, ⟨k1, k2, k3, k4⟩, h8⟩ := h
  exact ⟨h1, h2, fun k hk => (h3 k hk).mono hK, h4, ⟨A, c, h5, h5'.mono hK⟩, h6, ⟨hK _ k1, hK _ k2, hK _ k3, fun k hk => hK _ (k4 k hk)⟩, h8⟩
theorem Rest.lt (h : Rest K w wr ga g7 g8 ad vs r n ce cl) : Rest (fun k => k < wr.heap.size) w wr ga g7 g8 ad vs r n ce cl := by
  obtain ⟨h1, ⟨cur, h2, h2'⟩, h3, h4, ⟨A, c, h5, h5'⟩, h6, ⟨k1, k2, k3, k4⟩, h8⟩ := h
  refine ⟨h1, ⟨cur, h2, h2'⟩, fun k hk => ?_, h4, ⟨A, c, h5, h5'.ltS⟩, h6, ⟨h2.lt, h5.lt, h6.lt, fun k hk => (h3 k hk).lt⟩, h8⟩
  obtain ⟨kA, kc, vA, vc, q1, q2, q3⟩ := h3 k hk
  exact ⟨kA, kc, vA, vc, q1, q2.ltS, q3.ltS⟩
/-- an acceptor's step -/
theorem Rest.accd {k : Nat} {v' : AV} (h : Rest K w wr ga g7 g8 ad vs r n ce cl) (hk : k < 5) (hf : Frm (oneA (ad k)) wr w') (hA : AAtS K' w' (ad k) v') (hK : ∀ g, K g → K' g) : Rest K' w w' ga g7 g8 ad (upd vs k v') r n ce cl := by
  obtain ⟨h1, ⟨cur, h2, h2'⟩, h3, h4, ⟨A, c, h5, h5'⟩, h6, ⟨k1, k2, k3, k4⟩, h8⟩ := h
  obtain ⟨kA, kc, vA, vc, q1, q2, q3⟩ := h3 k hk
  have hne : ∀ {g t cs}, Blk wr g t cs → t ≠ 93 → ¬ oneA (ad k) g := fun hb ht e => Blk.apart hb q1 ht e
  refine ⟨Frm.step h1 hf h1.size (fun x hx => by rw [show x = ad k from hx]; exact h8.2.2 k hk), ⟨cur, h2.frm hf (hne h2 (by decide)), h2'⟩, fun m hm => ?_, h4, ⟨A, c, h5.frm hf (hne h5 (by decide)), (h5'.frm hf (fun g cs hb => hne hb (by decide))).mono hK⟩, h6.frm hf (hne h6 (by decide)), ⟨hK _ k1, hK _ k2, hK _ k3, fun k hk => hK _ (k4 k hk)⟩, h8⟩
  by_cases e : m = k
  · subst e
    rw [upd_eq]
    exact hA
  · rw [upd_ne _ _ e]
    exact ((h3 m hm).other (h3 k hk) hf (h4 m k hm hk e)).mono hK

/-- the greatest ballot so far is written -/
theorem Rest.settop {r' n' : Int} (h : Rest (fun _ => True) w wr ga g7 g8 ad vs r n ce cl) (hf : Frm (fun k => k = g8) wr w') (hb : Blk w' g8 23 #[.int .i64 r', .int .i64 n']) : Rest (fun _ => True) w w' ga g7 g8 ad vs r' n' ce cl := by
  obtain ⟨h1, ⟨cur, h2, h2'⟩, h3, h4, ⟨A, c, h5, h5'⟩, h6, h7, h8⟩ := h
  have hne : ∀ {g t cs}, Blk wr g t cs → t ≠ 23 → ¬ g = g8 := fun hb ht e => Blk.apart hb h6 ht e
  refine ⟨Frm.step h1 hf h1.size (fun k hk => by rw [hk]; exact h8.2.1), ⟨cur, h2.frm hf (hne h2 (by decide)), h2'⟩, fun k hk => ?_, h4, ⟨A, c, h5.frm hf (hne h5 (by decide)), h5'.frm hf (fun g cs hb => hne hb (by decide))⟩, hb, h7, h8⟩
  obtain ⟨_, _, _, _, q1, _⟩ := h3 k hk
  exact (h3 k hk).frm hf (hne q1 (by decide)) (fun g cs hb => hne hb (by decide))
/-- what was chosen is written -/
theorem Rest.setch {ce' : Int} {cl' : List Int} (h : Rest (fun _ => True) w wr ga g7 g8 ad vs r n ce cl) (hf : Frm (fun k => k = g7) wr w') (hb : Blk w' g7 26 #[.int .i64 ce', .slice A cl'.length c]) (hi : In w' A c cl') : Rest (fun _ => True) w w' ga g7 g8 ad vs r n ce' cl' := by
  obtain ⟨h1, ⟨cur, h2, h2'⟩, h3, h4, ⟨A, c, h5, h5'⟩, h6, h7, h8⟩ := h
  have hne : ∀ {g t cs}, Blk wr g t cs → t ≠ 26 → ¬ g = g7 := fun hb ht e => Blk.apart hb h5 ht e
  refine ⟨Frm.step h1 hf h1.size (fun k hk => by rw [hk]; exact h8.1), ⟨cur, h2.frm hf (hne h2 (by decide)), h2'⟩, fun k hk => ?_, h4, ⟨_, _, hb, hi, fun _ _ => trivial⟩, h6.frm hf (hne h6 (by decide)), h7, h8⟩
  obtain ⟨_, _, _, _, q1, _⟩ := h3 k hk
  exact (h3 k hk).frm hf (hne q1 (by decide)) (fun g cs hb => hne hb (by decide))

/-- a count and all the rest: x and b are the law's own, and one more of its variables, and one more list of nodes -/
structure Loop (w wr : World) (b P ga g7 g8 gx gb gc : Nat) (xv : Array Value) (tc : TypeId) (cc : Array Value) (A : Option Addr) (c : Nat) (l : List Int) (ad : Nat → Nat) (vs : Nat → AV) (v : TV) (r n ce : Int) (cl : List Int) : Prop where
  at_ : ∃ K, Rest K w wr ga g7 g8 ad vs r n ce cl ∧ TAt wr b P K v ∧ (∀ x, x < b → K x) ∧ InS K wr A c l ∧ K gc
  bx : Blk wr gx 68 xv ∧ gx < b
  bb : Blk wr gb 23 #[.int .i64 r, .int .i64 n] ∧ gb < b
  bc : Blk wr gc tc cc
  tne : tc ≠ 93
  base : w.heap.size ≤ b
theorem Loop.stay (h : Loop w wr b P ga g7 g8 gx gb gc xv tc cc A c l ad vs v r n ce cl) (hx : Ext wr w') : Loop w w' b P ga g7 g8 gx gb gc xv tc cc A c l ad vs v r n ce cl := by
  obtain ⟨⟨K, h1, h2, h3, h4, h5⟩, ⟨x1, x2⟩, ⟨b1, b2⟩, c1, t, e⟩ := h
  exact ⟨⟨K, h1.stay hx, h2.stay hx, h3, h4.stay hx, h5⟩, ⟨x1.stay hx, x2⟩, ⟨b1.stay hx, b2⟩, c1.stay hx, t, e⟩
theorem Loop.rest (h : Loop w wr b P ga g7 g8 gx gb gc xv tc cc A c l ad vs v r n ce cl) : Rest (fun _ => True) w wr ga g7 g8 ad vs r n ce cl := by
  obtain ⟨⟨K, h1, _⟩, _⟩ := h
  exact h1.mono fun _ _ => trivial
theorem Loop.ext (h : Loop w wr b P ga g7 g8 gx gb gc xv tc cc A c l ad vs v r n ce cl) : Below w.heap.size w wr := h.rest.ext
theorem Loop.drop (h : Loop w wr b P ga g7 g8 gx gb gc xv tc cc A c l ad vs v r n ce cl) : Loop w wr b P ga g7 g8 gx gb gc xv tc cc none 0 [] ad vs v r n ce cl := by
  obtain ⟨⟨K, h1, h2, h3, h4, h5⟩, h6, h7, h8, h9, h10⟩ := h
  exact ⟨⟨K, h1, h2, h3, InS.nil _ _, h5⟩, h6, h7, h8, h9, h10⟩
theorem Loop.tat (h : Loop w wr b P ga g7 g8 gx gb gc xv tc cc A c l ad vs v r n ce cl) : ∃ K, TAt wr b P K v := by
  obtain ⟨⟨K, h1, h2, _⟩, _⟩ := h
  exact ⟨K, h2⟩
theorem Loop.sl (h : Loop w wr b P ga g7 g8 gx gb gc xv tc cc A c l ad vs v r n ce cl) : l.length ≤ c ∧ Sl i64 wr A l := by
  obtain ⟨⟨K, h1, h2, h3, h4, _⟩, _⟩ := h
  exact ⟨h4.1.1, h4.sl⟩
theorem Loop.inn (h : Loop w wr b P ga g7 g8 gx gb gc xv tc cc A c l ad vs v r n ce cl) : In wr A c l := by
  obtain ⟨⟨K, h1, h2, h3, h4, _⟩, _⟩ := h
  exact h4.1
/-- one more variable, and one more list: both made behind -/
theorem Loop.more {gc' : Nat} {tc' : TypeId} {cc' : Array Value} {A' : Option Addr} {c' : Nat} {l' : List Int} (h : Loop w wr b P ga g7 g8 gx gb gc xv tc cc A c l ad vs v r n ce cl) (hx : Ext wr w') (hb : Blk w' gc' tc' cc') (hge : wr.heap.size ≤ gc') (hi : InS (fun k => wr.heap.size ≤ k) w' A' c' l') (ht : tc' ≠ 93) : Loop w w' b P ga g7 g8 gx gb gc' xv tc' cc' A' c' l' ad vs v r n ce cl := by
  obtain ⟨⟨K, h1, h2, h3, h4, h5⟩, ⟨x1, x2⟩, ⟨b1, b2⟩, c1, t, e⟩ := h
  have hf : Frm (fun _ => False) wr w' := Frm.of_below hx _
  refine ⟨⟨_, (h1.stay hx).mono (fun k hk => Or.inl hk), h2.frmK hf (fun k hk => hk.elim), fun x hxb => Or.inl (h3 x hxb), ?_, Or.inr ⟨hge, hb.lt⟩⟩, ⟨x1.stay hx, x2⟩, ⟨b1.stay hx, b2⟩, hb, ht, e⟩
  have h6 := hi.ltS
  exact ⟨hi.1, fun ad e => Or.inr ⟨hi.2 ad e, h6.2 ad e⟩⟩

theorem TAt.far {base g : Nat} {cs : Array Value} (H : TAt wr base P K v) (hb : Blk wr g 40 cs) (hf : Frm (fun k => k = g) wr w') : TAt w' base P K v := by
  obtain ⟨hP, c, p, s', x, h1, h2, h3, h4, h5, h6, h7, h8⟩ := H
  have ho : ∀ {u : Value} {n xs}, wr.ownsRow base 3 1 u n xs → ∀ k, u.ownBlock = some k → ¬ k = g := fun ho k e => own_type ho hb (by decide) k e
  exact ⟨hP, c, p, s', x, h1.frm hf (Blk.apart h1 hb (by decide)), own_frm h2 hf (ho h2), own_frm h3 hf (ho h3), own_frm h4 hf (ho h4), own_frm h5 hf (ho h5), h6, h7, fun k hk => by obtain ⟨q1, q2⟩ := h8 k hk; exact ⟨Nat.lt_of_lt_of_le q1 hf.size, q2⟩⟩
/-- a store into a vote of the law's own -/
theorem Loop.vote {g : Nat} {cs : Array Value} (h : Loop w wr b P ga g7 g8 gx gb gc xv tc cc A c l ad vs v r n ce cl) (hb : Blk wr g 40 cs) (hf : Frm (fun k => k = g) wr w') (hg : w.heap.size ≤ g) (ht : tc ≠ 40) : Loop w w' b P ga g7 g8 gx gb gc xv tc cc A c l ad vs v r n ce cl := by
  obtain ⟨⟨K, ⟨h1, ⟨cur, h2, h2'⟩, h3, h4, ⟨A, c, h5, h5'⟩, h6, h7, h8⟩, k2, k3, k4, k5⟩, ⟨x1, x2⟩, ⟨b1, b2⟩, c1, t, e⟩ := h
  have hne : ∀ {q t cs}, Blk wr q t cs → t ≠ 40 → ¬ q = g := fun hb' ht e => Blk.apart hb' hb ht e
  have hi : ∀ q cs, Blk wr q 3 cs → ¬ q = g := fun q cs hb => hne hb (by decide)
  refine ⟨⟨K, ⟨Frm.step h1 hf h1.size (fun k hk => by rw [hk]; exact hg), ⟨cur, h2.frm hf (hne h2 (by decide)), h2'⟩, fun k hk => ?_, h4, ⟨A, c, h5.frm hf (hne h5 (by decide)), h5'.frm hf hi⟩, h6.frm hf (hne h6 (by decide)), h7, h8⟩, k2.far hb hf, k3, k4.frm hf hi, k5⟩, ⟨x1.frm hf (hne x1 (by decide)), x2⟩, ⟨b1.frm hf (hne b1 (by decide)), b2⟩, c1.frm hf (hne c1 ht), t, e⟩
  obtain ⟨_, _, _, _, q1, _⟩ := h3 k hk
  exact (h3 k hk).frm hf (hne q1 (by decide)) hi

/-- Prepare -/
theorem Loop.prepC {k : Nat} (h : Loop w wr b P ga g7 g8 gx gb gc xv tc cc A c l ad vs v r n ce cl) (hk : k < 5) (ok : AOk (vs k)) :
    Calls Try.prog 27 #[pA (ad k), .int .i64 2, .agg #[.int .i64 r, .int .i64 n]] wr fun e w' => ∃ A' c', e = .returned (.tuple #[.agg #[.int .i64 (prepR (vs k) 2 r n).pr, .int .i64 (prepR (vs k) 2 r n).pn, .int .i64 (prepR (vs k) 2 r n).ar, .int .i64 (prepR (vs k) 2 r n).an, .bool (prepR (vs k) 2 r n).has, .int .i64 (prepR (vs k) 2 r n).vep, .slice A' (prepR (vs k) 2 r n).vns.length c'], .int .i64 (prepE (vs k) 2 r n)]) ∧
      Loop w w' b P ga g7 g8 gx gb gc xv tc cc A' c' (prepR (vs k) 2 r n).vns ad (upd vs k (prepV (vs k) 2 r n)) v r n ce cl ∧ Frm (oneA (ad k)) wr w' := by
  obtain ⟨⟨K, h1, h2, h3, h4, h5⟩, ⟨x1, x2⟩, ⟨b1, b2⟩, c1, t, e⟩ := h
  obtain ⟨kA, kc, vA, vc, q1, q2, q3⟩ := h1.acc k hk
  have hne : ∀ {g t cs}, Blk wr g t cs → t ≠ 93 → ¬ oneA (ad k) g := fun hb ht e => Blk.apart hb q1 ht e
  refine (prep_anyS K (ad k) (vs k) 2 r n wr (h1.acc k hk) ok).mono ?_
  rintro u w' ⟨A', c', rfl, hi, hA, hf⟩
  refine ⟨A', c', rfl, ⟨⟨_, h1.accd (K' := fun g => K g ∨ (wr.heap.size ≤ g ∧ g < w'.heap.size)) hk hf (hA.mono fun g hg => Or.inl hg) (fun g hg => Or.inl hg), h2.frmK hf (fun g hg => by rw [show g = ad k from hg]; exact h1.ks.2.2.2 k hk), fun x hx => Or.inl (h3 x hx), ?_, Or.inl h5⟩, ⟨x1.frm hf (hne x1 (by decide)), x2⟩, ⟨b1.frm hf (hne b1 (by decide)), b2⟩, c1.frm hf (hne c1 t), t, e⟩, hf⟩
  have h6 := hi.ltS
  exact ⟨hi.1, fun ad e => Or.inr ⟨hi.2 ad e, h6.2 ad e⟩⟩
/-- Promise -/
theorem Loop.promC {t : Vt} (k : Nat) (h : Loop w wr b P ga g7 g8 gx gb gc xv tc cc t.A t.cap t.l ad vs v r n ce cl) (hl : v.pl.length ≤ 1000000) (ht : t.l.length ≤ 1000000) :
    Calls Try.prog 17 #[.pointer (some ⟨P, 0, none⟩), .int .i64 k, .agg #[.int .i64 t.pr, .int .i64 t.pn, .int .i64 t.ar, .int .i64 t.an, .bool t.has, .int .i64 t.cep, .slice t.A t.l.length t.cap]] wr fun e w' => e = .returned (.bool (vOk v k t)) ∧ Loop w w' b P ga g7 g8 gx gb gc xv tc cc t.A t.cap t.l ad vs (vNext v k t) r n ce cl := by
  obtain ⟨⟨K, h1, h2, h3, h4, h5⟩, ⟨x1, x2⟩, ⟨b1, b2⟩, c1, hne, e⟩ := h
  refine (tprom_any b P K v k t wr h2 hl ht h4.1.1 h4.sl (fun _ a ha => h4.2 a ha)).mono ?_
  rintro u w' ⟨rfl, hT, hk, hb⟩
  have hf := Frm.of_keep hk hb
  have hs : ∀ x, ¬ K x → ¬ K x := fun x hx => hx
  exact ⟨rfl, ⟨K, h1.frm hf hs (Below.trans h1.ext (hb.mono e)), hT, h3, h4.frmK hf hs, h5⟩, ⟨x1.frm hf (fun h => h (h3 _ x2)), x2⟩, ⟨b1.frm hf (fun h => h (h3 _ b2)), b2⟩, c1.frm hf (fun h => h h5), hne, e⟩
/-- Yes -/
theorem Loop.yesC (k : Nat) (h : Loop w wr b P ga g7 g8 gx gb gc xv tc cc A c l ad vs v r n ce cl) (hn : v.n = 5) (hl : v.sl.length ≤ 1000000) :
    Calls Try.prog 19 #[.pointer (some ⟨P, 0, none⟩), .int .i64 k] wr fun e w' => e = .returned (.bool (yOk v k)) ∧ Loop w w' b P ga g7 g8 gx gb gc xv tc cc A c l ad vs (yNext v k) r n ce cl := by
  obtain ⟨⟨K, h1, h2, h3, h4, h5⟩, ⟨x1, x2⟩, ⟨b1, b2⟩, c1, hne, e⟩ := h
  refine (tyes_any b P K v k wr h2 (by omega) hl).mono ?_
  rintro u w' ⟨rfl, hT, hk, hb⟩
  have hf := Frm.of_keep hk hb
  have hs : ∀ x, ¬ K x → ¬ K x := fun x hx => hx
  exact ⟨rfl, ⟨K, h1.frm hf hs (Below.trans h1.ext (hb.mono e)), hT, h3, h4.frmK hf hs, h5⟩, ⟨x1.frm hf (fun h => h (h3 _ x2)), x2⟩, ⟨b1.frm hf (fun h => h (h3 _ b2)), b2⟩, c1.frm hf (fun h => h h5), hne, e⟩
/-- Accept -/
theorem Loop.accC {k : Nat} {ep : Int} (h : Loop w wr b P ga g7 g8 gx gb gc xv tc cc A c l ad vs v r n ce cl) (hk : k < 5) (ok : AOk (vs k)) (hl : l.length ≤ 1000000) :
    Calls Try.prog 32 #[pA (ad k), .agg #[.int .i64 ep, .slice A l.length c], .agg #[.int .i64 r, .int .i64 n], .bool false] wr fun e w' => e = .returned (.int .i64 (accE (vs k) ep l r n false)) ∧
      Loop w w' b P ga g7 g8 gx gb gc xv tc cc A c l ad (upd vs k (accV (vs k) ep l r n false)) v r n ce cl ∧ Frm (oneA (ad k)) wr w' := by
  obtain ⟨⟨K, h1, h2, h3, h4, h5⟩, ⟨x1, x2⟩, ⟨b1, b2⟩, c1, t, e⟩ := h
  obtain ⟨kA, kc, vA, vc, q1, q2, q3⟩ := h1.acc k hk
  have hne : ∀ {g t cs}, Blk wr g t cs → t ≠ 93 → ¬ oneA (ad k) g := fun hb ht e => Blk.apart hb q1 ht e
  refine (acc_anyS K (ad k) (vs k) ep r n A c l false wr (h1.acc k hk) ok hl h4.1.1 h4.sl (h4.1.na (h1.acc k hk).weak)).mono ?_
  rintro u w' ⟨rfl, hA, hf⟩
  have hA' : AAtS (fun g => K g ∨ (wr.heap.size ≤ g ∧ g < w'.heap.size)) w' (ad k) (accV (vs k) ep l r n false) := by
    obtain ⟨kA, kc, vA, vc, q1, q2, q3⟩ := hA
    have z2 := q2.ltS
    have z3 := q3.ltS
    exact ⟨kA, kc, vA, vc, q1, ⟨q2.1, fun a e => (q2.2 a e).imp id (fun h => ⟨h, z2.2 a e⟩)⟩, ⟨q3.1, fun a e => (q3.2 a e).imp id (fun h => ⟨h, z3.2 a e⟩)⟩⟩
  exact ⟨rfl, ⟨⟨_, h1.accd hk hf hA' (fun g hg => Or.inl hg), h2.frmK hf (fun g hg => by rw [show g = ad k from hg]; exact h1.ks.2.2.2 k hk), fun x hx => Or.inl (h3 x hx), (h4.frm hf (fun g cs hb => hne hb (by decide))).mono (fun g hg => Or.inl hg), Or.inl h5⟩, ⟨x1.frm hf (hne x1 (by decide)), x2⟩, ⟨b1.frm hf (hne b1 (by decide)), b2⟩, c1.frm hf (hne c1 t), t, e⟩, hf⟩
/-- New -/
theorem Loop.newC {want : Int} {B : Option Addr} {bc : Nat} (h : Rest (fun _ => True) w wr ga g7 g8 ad vs r n ce cl) (hx : Blk wr gx 68 xv) (hb : Blk wr gb 23 #[.int .i64 r, .int .i64 n]) (hm : mayBal r n = true) (hw : 0 ≤ want ∧ want ≤ 4) (hs : Sl i64 wr B [want]) (hbc : 1 ≤ bc) :
    Calls Try.prog 12 #[.int .i64 5, .agg #[.int .i64 r, .int .i64 n], .agg #[.int .i64 2, .slice B 1 bc]] wr fun e w' => ∃ P, e = .returned (.tuple #[.pointer (some ⟨P, 0, none⟩), .int .i64 0]) ∧ Loop w w' wr.heap.size P ga g7 g8 gx gb gx xv 68 xv none 0 [] ad vs ⟨5, r, n, 2, [want], [], [], false, 0, 0, 0, []⟩ r n ce cl := by
  have hc : mayChainB 2 [want] = true := by
    have : want = 0 ∨ want = 1 ∨ want = 2 ∨ want = 3 ∨ want = 4 := by omega
    rcases this with rfl | rfl | rfl | rfl | rfl <;> decide
  refine (new_ok 5 r n 2 B bc [want] wr (by omega) hm hc (by simp) (by simpa using hbc) hs).mono ?_
  rintro e w' ⟨P, rfl, hX, hT⟩
  exact ⟨P, rfl, ⟨_, h.lt.stay hX, hT, fun x hx => hx, InS.nil _ _, hx.lt⟩, ⟨hx.stay hX, hx.lt⟩, ⟨hb.stay hX, hb.lt⟩, hx.stay hX, by decide, h.ext.size⟩
end Go.Proofs.Ytkdcbidbciognaa
