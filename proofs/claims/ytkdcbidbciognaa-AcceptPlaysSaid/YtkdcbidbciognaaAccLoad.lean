/-
  The acceptor (law 13) comes in again from its bytes.
-/
import Derived.Test.YtkdcbidbciognaaAccBytes
import Derived.Test.YtkdcbidbciognaaItemGetCI
import Derived.Laws.IdiomStrings
import Derived.Deep.Cut
import Derived.Deep.CutRange
namespace Go.Proofs.Ytkdcbidbciognaa
set_option linter.unusedVariables false
set_option linter.unusedSimpArgs false
open Go.RowKit

theorem acells_u8 (v : AV) (kA : Option Addr) (kc : Nat) (vA : Option Addr) (vc : Nat) (j : Nat) (x : UInt8) : (acells v kA kc vA vc)[j]? ≠ some (u8 x) := by
  intro h
  unfold acells u8 at h
  match j with
  | 0 | 1 | 2 | 3 | 4 | 5 | 6 | 7 | 8 | 9 => simp at h
  | k + 10 => simp at h
/-- an acceptor that is filled, a reader that fills it -/
def LS (w V : World) (a P : Nat) (v : AV) (l : List UInt8) : Prop := AAt V a v ∧ RdAt V P l false ∧ Ext w V ∧ w.heap.size ≤ a ∧ w.heap.size ≤ P
theorem LS.aside {w V : World} {a P g : Nat} {v : AV} {l : List UInt8} {t : TypeId} {cs : Array Value} (h : LS w V a P v l) (hb : Blk V g t cs) (ht : t ≠ 125) : ¬ g = P := by
  obtain ⟨_, ⟨A, cap, k1, _⟩, _⟩ := h
  exact Blk.apart hb k1 ht
theorem LS.ext {w V V' : World} {a P : Nat} {v : AV} {l : List UInt8} (h : LS w V a P v l) (hx : Ext V V') : LS w V' a P v l := ⟨h.1.stay hx, h.2.1.stay hx, Ext.trans h.2.2.1 hx, h.2.2.2⟩
theorem LS.rd {w V V' : World} {a P : Nat} {v : AV} {l l' : List UInt8} (h : LS w V a P v l) (hr : RdAt V' P l' false) (hf : Frm (fun k => k = P) V V') : LS w V' a P v l' := by
  obtain ⟨h1, ⟨A, cap, k1, k2⟩, h3, h4, h5⟩ := h
  have hA := h1
  obtain ⟨_, _, _, _, b1, _⟩ := hA
  exact ⟨h1.frm hf (Blk.apart b1 k1 (by decide)) (fun g cs hb => Blk.apart hb k1 (by decide)), hr, Frm.step h3 hf h3.size (fun k hk => by rw [hk]; exact h5), h4, h5⟩
theorem LS.st {w V : World} {a P : Nat} {v v' : AV} {l : List UInt8} (h : LS w V a P v l) {V' : World} (hA : AAt V' a v') (hr : RdAt V' P l false) (hf : Frm (oneA a) V V') : LS w V' a P v' l := ⟨hA, hr, Frm.step h.2.2.1 hf h.2.2.1.size (fun k hk => by rw [hk]; exact h.2.2.2.1), h.2.2.2⟩
theorem Blk.noU8 {V : World} {A : Option Addr} {l : List UInt8} {a : Nat} {cs : Array Value} (h : Sl u8 V A l) (hb : Blk V a 93 cs) (hc : ∀ (j : Nat) (x : UInt8), cs[j]? ≠ some (u8 x)) : ∀ j x, l[j]? = some x → ∃ b o, A = some ⟨b, o, none⟩ ∧ V.cell? ⟨b, o + j, none⟩ = some (u8 x) ∧ b ≠ a := fun j x hj => by
  obtain ⟨b, o, e, hcl⟩ := h j x hj
  refine ⟨b, o, e, hcl, fun e2 => ?_⟩
  subst e2
  rw [hb.cell] at hcl
  exact hc _ x hcl
/-- stores into the acceptor leave the reader -/
theorem RdAt.oneA {V V' : World} {P a : Nat} {l : List UInt8} {v : AV} (h : RdAt V P l false) (hA : AAt V a v) (hf : Frm (oneA a) V V') : RdAt V' P l false := by
  obtain ⟨A, cap, h1, h2, h3, h4⟩ := h
  obtain ⟨kA, kc, vA, vc, b1, _⟩ := hA
  refine ⟨A, cap, h1.frm hf (Blk.apart h1 b1 (by decide)), fun j x hj => ?_, h3, h4⟩
  obtain ⟨b, o, e, hc, hne⟩ := Blk.noU8 h2 b1 (acells_u8 v kA kc vA vc) j x hj
  exact ⟨b, o, e, (World.cell?_of_block (hf.block b (World.block_lt_of_cell? V _ hc) hne)).trans hc⟩
theorem LS.known {w V : World} {a P : Nat} {n kep : Int} {kns : List Int} {pr pn ar an : Int} {has : Bool} {vep : Int} {vns : List Int} {l : List UInt8} (h : LS w V a P ⟨n, kep, kns, pr, pn, ar, an, has, vep, vns⟩ l) (ep : Int) (A : Option Addr) (cap : Nat) (ns : List Int) (hin : In V A cap ns) :
    LS w ((V.setCell ⟨a, 1, none⟩ (.int .i64 ep)).setCell ⟨a, 2, none⟩ (.slice A ns.length cap)) a P ⟨n, ep, ns, pr, pn, ar, an, has, vep, vns⟩ l ∧ Frm (oneA a) V ((V.setCell ⟨a, 1, none⟩ (.int .i64 ep)).setCell ⟨a, 2, none⟩ (.slice A ns.length cap)) := by
  have hA0 := h.1
  obtain ⟨kA, kc, vA, vc, b1, hk, hv⟩ := h.1
  have FF : Frm (oneA a) V ((V.setCell ⟨a, 1, none⟩ (.int .i64 ep)).setCell ⟨a, 2, none⟩ (.slice A ns.length cap)) := Frm.tr (Frm.tr (Frm.refl (oneA a) V) (Frm.of_set _ _ _ rfl)) (Frm.of_set _ _ _ rfl)
  exact ⟨h.st ⟨A, cap, vA, vc, ((b1.set 1 (.int .i64 ep)).set 2 (.slice A ns.length cap)), hin.other hA0 FF, hv.other hA0 FF⟩ (h.2.1.oneA hA0 FF) FF, FF⟩
theorem LS.prom {w V : World} {a P : Nat} {n kep : Int} {kns : List Int} {pr pn ar an : Int} {has : Bool} {vep : Int} {vns : List Int} {l : List UInt8} (h : LS w V a P ⟨n, kep, kns, pr, pn, ar, an, has, vep, vns⟩ l) (x y : Int) :
    LS w ((V.setCell ⟨a, 3, none⟩ (.int .i64 x)).setCell ⟨a, 4, none⟩ (.int .i64 y)) a P ⟨n, kep, kns, x, y, ar, an, has, vep, vns⟩ l ∧ Frm (oneA a) V ((V.setCell ⟨a, 3, none⟩ (.int .i64 x)).setCell ⟨a, 4, none⟩ (.int .i64 y)) := by
  have hA0 := h.1
  obtain ⟨kA, kc, vA, vc, b1, hk, hv⟩ := h.1
  have FF : Frm (oneA a) V ((V.setCell ⟨a, 3, none⟩ (.int .i64 x)).setCell ⟨a, 4, none⟩ (.int .i64 y)) := Frm.tr (Frm.tr (Frm.refl (oneA a) V) (Frm.of_set _ _ _ rfl)) (Frm.of_set _ _ _ rfl)
  exact ⟨h.st ⟨kA, kc, vA, vc, ((b1.set 3 (.int .i64 x)).set 4 (.int .i64 y)), hk.other hA0 FF, hv.other hA0 FF⟩ (h.2.1.oneA hA0 FF) FF, FF⟩
theorem LS.hasS {w V : World} {a P : Nat} {n kep : Int} {kns : List Int} {pr pn ar an : Int} {has : Bool} {vep : Int} {vns : List Int} {l : List UInt8} (h : LS w V a P ⟨n, kep, kns, pr, pn, ar, an, has, vep, vns⟩ l) (b : Bool) :
    LS w (V.setCell ⟨a, 7, none⟩ (.bool b)) a P ⟨n, kep, kns, pr, pn, ar, an, b, vep, vns⟩ l ∧ Frm (oneA a) V (V.setCell ⟨a, 7, none⟩ (.bool b)) := by
  have hA0 := h.1
  obtain ⟨kA, kc, vA, vc, b1, hk, hv⟩ := h.1
  have FF : Frm (oneA a) V (V.setCell ⟨a, 7, none⟩ (.bool b)) := Frm.tr (Frm.refl (oneA a) V) (Frm.of_set _ _ _ rfl)
  exact ⟨h.st ⟨kA, kc, vA, vc, (b1.set 7 (.bool b)), hk.other hA0 FF, hv.other hA0 FF⟩ (h.2.1.oneA hA0 FF) FF, FF⟩
theorem LS.acc {w V : World} {a P : Nat} {n kep : Int} {kns : List Int} {pr pn ar an : Int} {has : Bool} {vep : Int} {vns : List Int} {l : List UInt8} (h : LS w V a P ⟨n, kep, kns, pr, pn, ar, an, has, vep, vns⟩ l) (x y : Int) :
    LS w ((V.setCell ⟨a, 5, none⟩ (.int .i64 x)).setCell ⟨a, 6, none⟩ (.int .i64 y)) a P ⟨n, kep, kns, pr, pn, x, y, has, vep, vns⟩ l ∧ Frm (oneA a) V ((V.setCell ⟨a, 5, none⟩ (.int .i64 x)).setCell ⟨a, 6, none⟩ (.int .i64 y)) := by
  have hA0 := h.1
  obtain ⟨kA, kc, vA, vc, b1, hk, hv⟩ := h.1
  have FF : Frm (oneA a) V ((V.setCell ⟨a, 5, none⟩ (.int .i64 x)).setCell ⟨a, 6, none⟩ (.int .i64 y)) := Frm.tr (Frm.tr (Frm.refl (oneA a) V) (Frm.of_set _ _ _ rfl)) (Frm.of_set _ _ _ rfl)
  exact ⟨h.st ⟨kA, kc, vA, vc, ((b1.set 5 (.int .i64 x)).set 6 (.int .i64 y)), hk.other hA0 FF, hv.other hA0 FF⟩ (h.2.1.oneA hA0 FF) FF, FF⟩
theorem LS.vch {w V : World} {a P : Nat} {n kep : Int} {kns : List Int} {pr pn ar an : Int} {has : Bool} {vep : Int} {vns : List Int} {l : List UInt8} (h : LS w V a P ⟨n, kep, kns, pr, pn, ar, an, has, vep, vns⟩ l) (ep : Int) (A : Option Addr) (cap : Nat) (ns : List Int) (hin : In V A cap ns) :
    LS w ((V.setCell ⟨a, 8, none⟩ (.int .i64 ep)).setCell ⟨a, 9, none⟩ (.slice A ns.length cap)) a P ⟨n, kep, kns, pr, pn, ar, an, has, ep, ns⟩ l ∧ Frm (oneA a) V ((V.setCell ⟨a, 8, none⟩ (.int .i64 ep)).setCell ⟨a, 9, none⟩ (.slice A ns.length cap)) := by
  have hA0 := h.1
  obtain ⟨kA, kc, vA, vc, b1, hk, hv⟩ := h.1
  have FF : Frm (oneA a) V ((V.setCell ⟨a, 8, none⟩ (.int .i64 ep)).setCell ⟨a, 9, none⟩ (.slice A ns.length cap)) := Frm.tr (Frm.tr (Frm.refl (oneA a) V) (Frm.of_set _ _ _ rfl)) (Frm.of_set _ _ _ rfl)
  exact ⟨h.st ⟨kA, kc, A, cap, ((b1.set 8 (.int .i64 ep)).set 9 (.slice A ns.length cap)), hk.other hA0 FF, hin.other hA0 FF⟩ (h.2.1.oneA hA0 FF) FF, FF⟩

theorem numB_yes (b : Bool) : yesB b = numB (if b then 1 else 0) := by cases b <;> decide
/-- what a reader reads of an acceptor's bytes -/
theorem lsText {w V : World} {a P : Nat} {v : AV} {r : List UInt8} (ep : Int) (ns : List Int) (most : Nat) (h : LS w V a P v (chainB ep ns ++ r)) (hm : mayChainB ep ns = true) (hl : (chainB ep ns ++ r).length ≤ most) (hmo : most ≤ 10000) :
    Calls Try.prog 77 #[.pointer (some ⟨P, 0, none⟩), .int .i64 most] V fun e w' => e = .returned (.string (str (putC ep.toNat (nats ns)))) ∧ LS w w' a P v r ∧ Frm (fun k => k = P) V w' := by
  have hc := (chainB_len hm).1
  have hsz : (str (putC ep.toNat (nats ns))).size ≤ most := by
    rw [str_size]
    rw [List.length_append] at hl
    have : (putC ep.toNat (nats ns)).length ≤ (chainB ep ns).length := by
      unfold chainB textB
      rw [List.length_append, str_toList]
      omega
    omega
  have ht := textR_any P (chainB ep ns ++ r) false most most V (.inl rfl) h.2.1 (by omega) (by omega)
  have hp := rdText_put (str (putC ep.toNat (nats ns))) most r (by rw [str_size]; omega) hsz
  unfold chainB at ht
  rw [hp] at ht
  simp only [str_toList] at ht
  exact ht.mono fun e w' ⟨h1, h2, h3⟩ => ⟨h1, h.rd h2 h3, h3⟩
theorem lsBal {w V : World} {a P : Nat} {v : AV} {r : List UInt8} (x y : Int) (h : LS w V a P v (balB x y ++ r)) (hm : mayBal x y = true) (hl : (balB x y ++ r).length ≤ 10000) :
    Calls Try.prog 78 #[.pointer (some ⟨P, 0, none⟩)] V fun e w' => e = .returned (.agg #[.int .i64 x, .int .i64 y]) ∧ LS w w' a P v r ∧ Frm (fun k => k = P) V w' := by
  obtain ⟨_, b1, b2, b3, b4⟩ := balB_len hm
  have hy : y.toNat ≤ 4 := by unfold mayBal at hm; have := of_decide_eq_true hm; omega
  have hg := getBal_any P (balB x y ++ r) false V h.2.1 (by omega)
  have e1 : rdNum (balB x y ++ r) false 1099511627776 = (x.toNat, numB y.toNat ++ r, false) := by
    unfold balB
    rw [List.append_assoc, rdNum_numB _ _ _ (by omega), if_neg (by omega)]
  have e2 : rdNum (numB y.toNat ++ r) false 4 = (y.toNat, r, false) := by rw [rdNum_numB _ _ _ (by omega), if_neg (by omega)]
  rw [e1] at hg
  simp only at hg
  rw [e2] at hg
  simp only [b3, b4] at hg
  exact hg.mono fun e w' ⟨h1, h2, h3⟩ => ⟨h1, h.rd h2 h3, h3⟩
theorem lsYes {w V : World} {a P : Nat} {v : AV} {r : List UInt8} (b : Bool) (h : LS w V a P v (yesB b ++ r)) (hl : (yesB b ++ r).length ≤ 10000) :
    Calls Try.prog 79 #[.pointer (some ⟨P, 0, none⟩)] V fun e w' => e = .returned (.bool b) ∧ LS w w' a P v r ∧ Frm (fun k => k = P) V w' := by
  have hg := yesR_any P (yesB b ++ r) false V h.2.1 (by omega)
  have e1 : rdNum (yesB b ++ r) false 1 = (if b then 1 else 0, r, false) := by
    rw [numB_yes, rdNum_numB _ _ _ (by cases b <;> simp), if_neg (by cases b <;> simp)]
  rw [e1] at hg
  exact hg.mono fun e w' ⟨h1, h2, h3⟩ => ⟨by rw [h1]; cases b <;> rfl, h.rd h2 h3, h3⟩
theorem lsEnd {w V : World} {a P : Nat} {v : AV} (h : LS w V a P v []) :
    Calls Try.prog 80 #[.pointer (some ⟨P, 0, none⟩)] V fun e w' => e = .returned (.int .i64 0) ∧ V = w' := by
  exact endR_any P [] false V h.2.1 (by simp)
theorem lsChain (ep : Int) (ns : List Int) (A : Option Addr) (cap : Nat) (V : World) (hm : mayChainB ep ns = true) (hs : Sl u8 V A (putC ep.toNat (nats ns))) :
    Calls Try.prog 76 #[.slice A (putC ep.toNat (nats ns)).length cap] V fun e w' => ∃ A' c', e = .returned (.tuple #[.agg #[.int .i64 ep, .slice A' ns.length c'], .int .i64 0]) ∧ In w' A' c' ns ∧ Ext V w' := by
  have hc := (chainB_len hm).1
  have hbd := may_bds hm
  have hmi : mayChainB (ep.toNat : Nat) (ints (nats ns)) = true := by rw [may_ints hm, Int.toNat_of_nonneg hbd.1]; exact hm
  refine (getChainI_any A cap _ V hs (by omega)).mono ?_
  rintro e w' ⟨ep', ns', ec, A', c', hg, hcap, rfl, hsl, ⟨base, ho⟩, hx⟩
  obtain ⟨rfl, rfl, rfl⟩ := hg.put hmi
  rw [nats_len] at ho hcap
  rw [may_ints hm] at ho
  obtain ⟨A2, c2, e2, hin⟩ := In.own ho
  rw [nats_len, Int.toNat_of_nonneg hbd.1]
  exact ⟨A2, c2, by rw [e2], hin, hx⟩
theorem run_bytes2 (l : List UInt8) (w : World) (hl : l.length ≤ 1000000000) : ∃ c w', (convert 9 72 (.string (str l))).run Try.prog w = .ok (.slice (some ⟨w.heap.size, 0, none⟩) l.length c) w' ∧ Ext w w' ∧ Sl u8 w' (some ⟨w.heap.size, 0, none⟩) l ∧ l.length ≤ c ∧ c ≤ 9223372036854775807 ∧ ∀ k, k < l.length → w'.frozen? ⟨w.heap.size, k, none⟩ = false := by
  have h := run_bytes_of_string (P := Try.prog) w 9 72 5 (str l) Try.underlying9 Try.underlying72 Try.underlying5
  rw [str_size] at h
  refine ⟨_, _, h, Ext.trans (Ext.drewR (Ext.refl w)) (Ext.alloc w.drew _), ?_, grownCap_ge w _ _ _, ?_, fun k hk => ?_⟩
  · intro j v hj
    refine ⟨w.heap.size, 0, rfl, ?_⟩
    have hjl : j < l.length := (List.getElem?_eq_some_iff.1 hj).1
    rw [Nat.zero_add]
    have e : (w.drew.alloc (.cells (bytesRow (str l) (grownCap w l.length 0 5)) 5 ((bytesRow (str l) (grownCap w l.length 0 5)).size, (bytesRow (str l) (grownCap w l.length 0 5)).size + 1))).cell? ⟨w.heap.size, j, none⟩ = (bytesRow (str l) (grownCap w l.length 0 5))[j]? := World.cell?_alloc_mark w.drew _ _ _ j
    rw [e]
    rw [bytesRow_at (str l) _ j (by simpa [str] using hjl)]
    obtain ⟨_, hv⟩ := List.getElem?_eq_some_iff.1 hj
    subst hv
    rfl
  · have := grownCap_le_maxLen w l.length 0 5 (by unfold maxLen; omega)
    unfold maxLen at this
    exact this
  · have e : (w.drew.alloc (.cells (bytesRow (str l) (grownCap w l.length 0 5)) 5 ((bytesRow (str l) (grownCap w l.length 0 5)).size, (bytesRow (str l) (grownCap w l.length 0 5)).size + 1))).frozen? ⟨w.heap.size, k, none⟩ = _ := World.frozen?_alloc_mark w.drew _ _ _ _ k
    rw [e]
    have hz : l.length ≤ (bytesRow (str l) (grownCap w l.length 0 5)).size := by simp [bytesRow, str]
    rw [decide_eq_false (by omega)]
    rfl

set_option maxRecDepth 8000 in
set_option maxHeartbeats 32000000 in
theorem load_n (n : Nat) (kep : Int) (kns : List Int) (pr pn : Int) (A : Option Addr) (cap : Nat) (w : World) (K : AOk ⟨(n : Int), kep, kns, pr, pn, 0, 0, false, 0, []⟩) (hs : Sl u8 w A (chainB kep kns ++ (balB pr pn ++ (yesB false ++ [])))) :
    Calls Try.prog 42 #[.int .i64 n, .slice A (chainB kep kns ++ (balB pr pn ++ (yesB false ++ []))).length cap] w fun e w' => ∃ a, e = .returned (.tuple #[pA a, .int .i64 0]) ∧ AAt w' a ⟨(n : Int), kep, kns, pr, pn, 0, 0, false, 0, []⟩ ∧ Ext w w' ∧ w.heap.size ≤ a := by
  refine hide_post fun D hD => ?_
  have hn1 : (1 : Int) ≤ n := K.n0
  have hn5 : (n : Int) ≤ 5 := K.n5
  have hmk : mayChainB kep kns = true := K.hk
  have hfit : kns.any (badB n) = false := K.fit
  have hmb : mayBal pr pn = true := K.bal
  have l1 := (chainB_len hmk).2
  have l2 := (balB_len hmb).1
  have l3 : (yesB false).length ≤ 20 := by decide
  have hLen : (chainB kep kns ++ (balB pr pn ++ (yesB false ++ []))).length ≤ 1000 := by simp only [List.length_append, List.length_nil]; omega
  obtain ⟨LL, hLL⟩ : ∃ LL, LL = (chainB kep kns ++ (balB pr pn ++ (yesB false ++ []))).length := ⟨_, rfl⟩
  have CN : Hid (Calls Try.prog 26 #[.int .i64 (n : Int)] w fun e w' => ∃ a, e = .returned (.tuple #[pA a, .int .i64 0]) ∧ AAt w' a ⟨(n : Int), 1, (upTo n), 0, 0, 0, 0, false, 0, []⟩ ∧ Ext w w' ∧ w.heap.size ≤ a) := new_yes n w (by omega) (by omega)
  have CPN : Hid (∀ V, Ext w V → Calls Try.prog 75 #[.slice A LL cap] V fun e w' => ∃ P, e = .returned (.pointer (some ⟨P, 0, none⟩)) ∧ RdAt w' P (chainB kep kns ++ (balB pr pn ++ (yesB false ++ []))) false ∧ Ext V w' ∧ V.heap.size ≤ P) := fun V hV => by rw [hLL]; exact new_any A cap (chainB kep kns ++ (balB pr pn ++ (yesB false ++ []))) V (hs.stay hV) (by omega)
  obtain ⟨DB, hDB⟩ : ∃ DB, DB = putC kep.toNat (nats kns) := ⟨_, rfl⟩
  have hDl : DB.length ≤ 100 := by rw [hDB]; exact (chainB_len hmk).1
  have CT1 : Hid (∀ V a P, LS w V a P ⟨(n : Int), 1, (upTo n), 0, 0, 0, 0, false, 0, []⟩ (chainB kep kns ++ (balB pr pn ++ (yesB false ++ []))) → Calls Try.prog 77 #[.pointer (some ⟨P, 0, none⟩), .int .i64 LL] V fun e w' => e = .returned (.string (str DB)) ∧ LS w w' a P ⟨(n : Int), 1, (upTo n), 0, 0, 0, 0, false, 0, []⟩ (balB pr pn ++ (yesB false ++ [])) ∧ Frm (fun k => k = P) V w') := fun V a P h => by rw [hDB]; exact lsText kep kns LL h hmk (by omega) (by omega)
  have CG1 : Hid (∀ V A cap, Sl u8 V A DB → Calls Try.prog 76 #[.slice A DB.length cap] V fun e w' => ∃ A' c', e = .returned (.tuple #[.agg #[.int .i64 kep, .slice A' kns.length c'], .int .i64 0]) ∧ In w' A' c' kns ∧ Ext V w') := fun V A cap h => by rw [hDB] at h ⊢; exact lsChain kep kns A cap V hmk h
  have CB1 : Hid (∀ V a P, LS w V a P ⟨(n : Int), kep, kns, 0, 0, 0, 0, false, 0, []⟩ (balB pr pn ++ (yesB false ++ [])) → Calls Try.prog 78 #[.pointer (some ⟨P, 0, none⟩)] V fun e w' => e = .returned (.agg #[.int .i64 pr, .int .i64 pn]) ∧ LS w w' a P ⟨(n : Int), kep, kns, 0, 0, 0, 0, false, 0, []⟩ (yesB false ++ []) ∧ Frm (fun k => k = P) V w') := fun V a P h => lsBal pr pn h hmb (by simp only [List.length_append, List.length_nil] at hLen ⊢; omega)
  have CF : Hid (∀ V A c, In V A c kns → Calls Try.prog 59 #[.agg #[.int .i64 kep, .slice A kns.length c], .int .i64 (n : Int)] V fun e w' => e = .returned (.bool true) ∧ Ext V w') := fun V A c h => (fits_any kep n A c kns V (by have := (may_bds hmk).2.2.2; omega) h.sl).mono fun e w' ⟨h1, h2⟩ => ⟨by rw [h1, hfit]; rfl, h2⟩
  have CY : Hid (∀ V a P, LS w V a P ⟨(n : Int), kep, kns, pr, pn, 0, 0, false, 0, []⟩ (yesB false ++ []) → Calls Try.prog 79 #[.pointer (some ⟨P, 0, none⟩)] V fun e w' => e = .returned (.bool false) ∧ LS w w' a P ⟨(n : Int), kep, kns, pr, pn, 0, 0, false, 0, []⟩ [] ∧ Frm (fun k => k = P) V w') := fun V a P h => lsYes false h (by simp only [List.length_append, List.length_nil] at hLen ⊢; omega)
  have CE : Hid (∀ V a P v, LS w V a P v [] → Calls Try.prog 80 #[.pointer (some ⟨P, 0, none⟩)] V fun e w' => e = .returned (.int .i64 0) ∧ V = w') := fun V a P v h => lsEnd h
  have HRB1 : Hid (∀ V, ∃ c w', (convert 9 72 (.string (str DB))).run Try.prog V = .ok (.slice (some ⟨V.heap.size, 0, none⟩) DB.length c) w' ∧ Ext V w' ∧ Sl u8 w' (some ⟨V.heap.size, 0, none⟩) DB) := fun V => by
    obtain ⟨c, w', h1, h2, h3, _⟩ := run_bytes2 DB V (by omega)
    exact ⟨c, w', h1, h2, h3⟩
  have HLL := Lib.hid hLL
  have HLE : Hid (LL ≤ 1000) := by (show _ ≤ _); omega
  clear hs hLen hLL hmk hfit hmb l1 l2 l3 K hDB 
  rw [← HLL.out]
  unfold pA at CN
  generalize (chainB kep kns ++ (balB pr pn ++ (yesB false ++ []))) = q0 at *
  generalize (balB pr pn ++ (yesB false ++ [])) = q1 at *
  generalize (yesB false ++ []) = q2 at *
  go_enter Try.func42, Try.ntmps42
  go_upto_region 8 with (first
    | (go_at_call 78; rw [← HWG.out]; have hk1 := LS.known L4.out kep A4 c4 kns I4.out; have K9b := K9.out.frm hk1.2 (fun e => by subst e; obtain ⟨_, _, _, _, h3, _⟩ := L4.out.1; exact Blk.apart K9.out h3 (by decide) rfl); have I4b := I4.out.other L4.out.1 hk1.2; (with_reducible refine (CB1.out _ _ _ hk1.1).mono ?_); rintro e w5 ⟨rfl, hl, hf⟩; have L5 := Lib.hid hl; have K95 : Hid (Blk w5 w4.heap.size 26 #[.int .i64 kep, .slice A4 kns.length c4]) := K9b.frm hf (hk1.1.aside K9b (by decide)); have I45 : Hid (In w5 A4 c4 kns) := I4b.of (fun g cs hb => hb.frm hf (hk1.1.aside hb (by decide))); obtain ⟨kA_w5, kc_w5, vA_w5, vc_w5, kB, _, _⟩ := L5.out.1; have a3_w5 := kB.cell 3; have f3_w5 := kB.frozen 3; have a4_w5 := kB.cell 4; have f4_w5 := kB.frozen 4; simp [acells] at a3_w5 a4_w5; clear kB; clear hl hf hk1 K9b I4b)
    | (go_at_call 76; (with_reducible refine (CG1.out _ _ _ SB.out).mono ?_); rintro e w4 ⟨A4, c4, rfl, hin, hx⟩; obtain ⟨wg, hwg⟩ : ∃ wg, wg = w4.alloc (.cells #[.int .i64 kep, .slice A4 kns.length c4] 26) := ⟨_, rfl⟩; have hxg : Ext w4 wg := (by rw [hwg]; exact ext_al _ _); have L4 := Lib.hid ((L3.out.ext hx).ext hxg); have I4 := Lib.hid (hin.stay hxg); have K9 : Hid (Blk wg w4.heap.size 26 #[.int .i64 kep, .slice A4 kns.length c4]) := (by (show Blk _ _ _ _); rw [hwg]; exact Blk.new _ _ _); have HWG := Lib.hid hwg; obtain ⟨kA_wg, kc_wg, vA_wg, vc_wg, kB, _, _⟩ := L4.out.1; have a1_wg := kB.cell 1; have f1_wg := kB.frozen 1; have a2_wg := kB.cell 2; have f2_wg := kB.frozen 2; simp [acells] at a1_wg a2_wg; clear kB; have hg0 := K9.out.cell 0; have hg1 := K9.out.cell 1; simp at hg0 hg1; rw [hwg] at a1_wg f1_wg a2_wg f2_wg hg0 hg1; clear hin hx hwg hxg)
    | (go_at_call 77; (with_reducible refine (CT1.out _ _ _ L2.out).mono ?_); rintro e w3 ⟨rfl, hl, hf⟩; obtain ⟨cb, wb, hcv, hxb, hsb⟩ := HRB1.out w3; have L3 := Lib.hid (hl.ext hxb); have SB := Lib.hid hsb; clear hl hf hxb hsb)
    | (go_at_call 75; (with_reducible refine (CPN.out _ X1.out).mono ?_); rintro e w2 ⟨P, rfl, hr, hx, hbp⟩; have L2 : Hid (LS w w2 a P ⟨(n : Int), 1, (upTo n), 0, 0, 0, 0, false, 0, []⟩ q0) := ⟨A1.out.stay hx, hr, Ext.trans X1.out hx, HBA.out, Nat.le_trans X1.out.size hbp⟩; clear hr hx hbp)
    | (go_at_call 26; (with_reducible refine CN.out.mono ?_); rintro e w1 ⟨a, rfl, hA, hx, hba⟩; have A1 := Lib.hid hA; have X1 := Lib.hid hx; have HBA : Hid (w.heap.size ≤ a) := hba; clear hA hx hba))
  have hk2 := LS.prom L5.out pr pn
  obtain ⟨W2, hW2⟩ : ∃ W2, W2 = ((w5.setCell ⟨a, 3, none⟩ (.int .i64 pr)).setCell ⟨a, 4, none⟩ (.int .i64 pn)) := ⟨_, rfl⟩
  rw [← hW2] at hk2
  try rw [← hW2]
  clear hW2
  have L6 := Lib.hid hk2.1
  have K96 : Hid (Blk W2 w4.heap.size 26 #[.int .i64 kep, .slice A4 kns.length c4]) := K95.out.frm hk2.2 (fun e => by subst e; obtain ⟨_, _, _, _, h3, _⟩ := L5.out.1; exact Blk.apart K95.out h3 (by decide) rfl)
  have I46 : Hid (In W2 A4 c4 kns) := I45.out.other L5.out.1 hk2.2
  clear hk2
  have g0 := K96.out.cell 0
  have g1 := K96.out.cell 1
  simp at g0 g1
  go_upto_region 10 with (first
    | (go_at_call 79; (with_reducible refine (CY.out _ _ _ L7.out).mono ?_); rintro e w8 ⟨rfl, hl, hf⟩; have K98 : Hid (Blk w8 w4.heap.size 26 #[.int .i64 kep, .slice A4 kns.length c4]) := K97.out.frm hf (LS.aside L7.out K97.out (by decide)); have I48 : Hid (In w8 A4 c4 kns) := I47.out.of (fun g cs hb => hb.frm hf (LS.aside L7.out hb (by decide))); have L8 := Lib.hid hl; obtain ⟨kA_w8, kc_w8, vA_w8, vc_w8, kB, _, _⟩ := L8.out.1; have a7_w8 := kB.cell 7; have f7_w8 := kB.frozen 7; simp [acells] at a7_w8; clear kB; clear hl hf)
    | (go_at_call 59; (with_reducible refine (CF.out _ _ _ I46.out).mono ?_); rintro e w7 ⟨rfl, hx⟩; have L7 := Lib.hid (L6.out.ext hx); have K97 := Lib.hid (K96.out.stay hx); have I47 := Lib.hid (I46.out.stay hx); clear hx))
  have hk3 := LS.hasS L8.out false
  obtain ⟨W3, hW3⟩ : ∃ W3, W3 = w8.setCell ⟨a, 7, none⟩ (.bool false) := ⟨_, rfl⟩
  rw [← hW3] at hk3
  try rw [← hW3]
  clear hW3
  have L9 := Lib.hid hk3.1
  have K99 : Hid (Blk W3 w4.heap.size 26 #[.int .i64 kep, .slice A4 kns.length c4]) := K98.out.frm hk3.2 (fun e => by subst e; obtain ⟨_, _, _, _, h3, _⟩ := L8.out.1; exact Blk.apart K98.out h3 (by decide) rfl)
  have I49 : Hid (In W3 A4 c4 kns) := I48.out.other L8.out.1 hk3.2
  clear hk3
  obtain ⟨kA_W3, kc_W3, vA_W3, vc_W3, kB, _, _⟩ := L9.out.1
  have a7_W3 := kB.cell 7
  have f7_W3 := kB.frozen 7
  simp [acells] at a7_W3
  clear kB
  go_wp2_with (go_at_call 80; (with_reducible refine (CE.out _ _ _ _ L9.out).mono ?_); rintro e wz ⟨rfl, rfl⟩)
  try go_ret
  exact hD.out _ _ ⟨a, rfl, L9.out.1, L9.out.2.2.1, HBA.out⟩

set_option maxRecDepth 8000 in
set_option maxHeartbeats 32000000 in
theorem load_y (n : Nat) (kep : Int) (kns : List Int) (pr pn ar an vep : Int) (vns : List Int) (A : Option Addr) (cap : Nat) (w : World) (K : AOk ⟨(n : Int), kep, kns, pr, pn, ar, an, true, vep, vns⟩) (hs : Sl u8 w A (chainB kep kns ++ (balB pr pn ++ (yesB true ++ (balB ar an ++ (chainB vep vns ++ [])))))) :
    Calls Try.prog 42 #[.int .i64 n, .slice A (chainB kep kns ++ (balB pr pn ++ (yesB true ++ (balB ar an ++ (chainB vep vns ++ []))))).length cap] w fun e w' => ∃ a, e = .returned (.tuple #[pA a, .int .i64 0]) ∧ AAt w' a ⟨(n : Int), kep, kns, pr, pn, ar, an, true, vep, vns⟩ ∧ Ext w w' ∧ w.heap.size ≤ a := by
  refine hide_post fun D hD => ?_
  have hn1 : (1 : Int) ≤ n := K.n0
  have hn5 : (n : Int) ≤ 5 := K.n5
  have hmk : mayChainB kep kns = true := K.hk
  have hfit : kns.any (badB n) = false := K.fit
  have hmb : mayBal pr pn = true := K.bal
  have l1 := (chainB_len hmk).2
  have l2 := (balB_len hmb).1
  have l3 : (yesB true).length ≤ 20 := by decide
  have hy := K.yes rfl
  simp only at hy
  obtain ⟨hya, hyc, hyn⟩ := hy
  have hmv := (nextB_bds hyn).2.1
  have l4 := (balB_len hya).1
  have l5 := (chainB_len hmv).2
  have hLen : (chainB kep kns ++ (balB pr pn ++ (yesB true ++ (balB ar an ++ (chainB vep vns ++ []))))).length ≤ 1000 := by simp only [List.length_append, List.length_nil]; omega
  obtain ⟨LL, hLL⟩ : ∃ LL, LL = (chainB kep kns ++ (balB pr pn ++ (yesB true ++ (balB ar an ++ (chainB vep vns ++ []))))).length := ⟨_, rfl⟩
  have CN : Hid (Calls Try.prog 26 #[.int .i64 (n : Int)] w fun e w' => ∃ a, e = .returned (.tuple #[pA a, .int .i64 0]) ∧ AAt w' a ⟨(n : Int), 1, (upTo n), 0, 0, 0, 0, false, 0, []⟩ ∧ Ext w w' ∧ w.heap.size ≤ a) := new_yes n w (by omega) (by omega)
  have CPN : Hid (∀ V, Ext w V → Calls Try.prog 75 #[.slice A LL cap] V fun e w' => ∃ P, e = .returned (.pointer (some ⟨P, 0, none⟩)) ∧ RdAt w' P (chainB kep kns ++ (balB pr pn ++ (yesB true ++ (balB ar an ++ (chainB vep vns ++ []))))) false ∧ Ext V w' ∧ V.heap.size ≤ P) := fun V hV => by rw [hLL]; exact new_any A cap (chainB kep kns ++ (balB pr pn ++ (yesB true ++ (balB ar an ++ (chainB vep vns ++ []))))) V (hs.stay hV) (by omega)
  obtain ⟨DB, hDB⟩ : ∃ DB, DB = putC kep.toNat (nats kns) := ⟨_, rfl⟩
  have hDl : DB.length ≤ 100 := by rw [hDB]; exact (chainB_len hmk).1
  have CT1 : Hid (∀ V a P, LS w V a P ⟨(n : Int), 1, (upTo n), 0, 0, 0, 0, false, 0, []⟩ (chainB kep kns ++ (balB pr pn ++ (yesB true ++ (balB ar an ++ (chainB vep vns ++ []))))) → Calls Try.prog 77 #[.pointer (some ⟨P, 0, none⟩), .int .i64 LL] V fun e w' => e = .returned (.string (str DB)) ∧ LS w w' a P ⟨(n : Int), 1, (upTo n), 0, 0, 0, 0, false, 0, []⟩ (balB pr pn ++ (yesB true ++ (balB ar an ++ (chainB vep vns ++ [])))) ∧ Frm (fun k => k = P) V w') := fun V a P h => by rw [hDB]; exact lsText kep kns LL h hmk (by omega) (by omega)
  have CG1 : Hid (∀ V A cap, Sl u8 V A DB → Calls Try.prog 76 #[.slice A DB.length cap] V fun e w' => ∃ A' c', e = .returned (.tuple #[.agg #[.int .i64 kep, .slice A' kns.length c'], .int .i64 0]) ∧ In w' A' c' kns ∧ Ext V w') := fun V A cap h => by rw [hDB] at h ⊢; exact lsChain kep kns A cap V hmk h
  have CB1 : Hid (∀ V a P, LS w V a P ⟨(n : Int), kep, kns, 0, 0, 0, 0, false, 0, []⟩ (balB pr pn ++ (yesB true ++ (balB ar an ++ (chainB vep vns ++ [])))) → Calls Try.prog 78 #[.pointer (some ⟨P, 0, none⟩)] V fun e w' => e = .returned (.agg #[.int .i64 pr, .int .i64 pn]) ∧ LS w w' a P ⟨(n : Int), kep, kns, 0, 0, 0, 0, false, 0, []⟩ (yesB true ++ (balB ar an ++ (chainB vep vns ++ []))) ∧ Frm (fun k => k = P) V w') := fun V a P h => lsBal pr pn h hmb (by simp only [List.length_append, List.length_nil] at hLen ⊢; omega)
  have CF : Hid (∀ V A c, In V A c kns → Calls Try.prog 59 #[.agg #[.int .i64 kep, .slice A kns.length c], .int .i64 (n : Int)] V fun e w' => e = .returned (.bool true) ∧ Ext V w') := fun V A c h => (fits_any kep n A c kns V (by have := (may_bds hmk).2.2.2; omega) h.sl).mono fun e w' ⟨h1, h2⟩ => ⟨by rw [h1, hfit]; rfl, h2⟩
  have CY : Hid (∀ V a P, LS w V a P ⟨(n : Int), kep, kns, pr, pn, 0, 0, false, 0, []⟩ (yesB true ++ (balB ar an ++ (chainB vep vns ++ []))) → Calls Try.prog 79 #[.pointer (some ⟨P, 0, none⟩)] V fun e w' => e = .returned (.bool true) ∧ LS w w' a P ⟨(n : Int), kep, kns, pr, pn, 0, 0, false, 0, []⟩ (balB ar an ++ (chainB vep vns ++ [])) ∧ Frm (fun k => k = P) V w') := fun V a P h => lsYes true h (by simp only [List.length_append, List.length_nil] at hLen ⊢; omega)
  obtain ⟨EB, hEB⟩ : ∃ EB, EB = putC vep.toNat (nats vns) := ⟨_, rfl⟩
  have hEl : EB.length ≤ 100 := by rw [hEB]; exact (chainB_len hmv).1
  have CB2 : Hid (∀ V a P, LS w V a P ⟨(n : Int), kep, kns, pr, pn, 0, 0, true, 0, []⟩ (balB ar an ++ (chainB vep vns ++ [])) → Calls Try.prog 78 #[.pointer (some ⟨P, 0, none⟩)] V fun e w' => e = .returned (.agg #[.int .i64 ar, .int .i64 an]) ∧ LS w w' a P ⟨(n : Int), kep, kns, pr, pn, 0, 0, true, 0, []⟩ (chainB vep vns ++ []) ∧ Frm (fun k => k = P) V w') := fun V a P h => lsBal ar an h hya (by simp only [List.length_append, List.length_nil] at hLen ⊢; omega)
  have CT2 : Hid (∀ V a P, LS w V a P ⟨(n : Int), kep, kns, pr, pn, ar, an, true, 0, []⟩ (chainB vep vns ++ []) → Calls Try.prog 77 #[.pointer (some ⟨P, 0, none⟩), .int .i64 LL] V fun e w' => e = .returned (.string (str EB)) ∧ LS w w' a P ⟨(n : Int), kep, kns, pr, pn, ar, an, true, 0, []⟩ [] ∧ Frm (fun k => k = P) V w') := fun V a P h => by rw [hEB]; exact lsText vep vns LL h hmv (by simp only [List.length_append, List.length_nil] at hLL hLen ⊢; omega) (by omega)
  have CG2 : Hid (∀ V A cap, Sl u8 V A EB → Calls Try.prog 76 #[.slice A EB.length cap] V fun e w' => ∃ A' c', e = .returned (.tuple #[.agg #[.int .i64 vep, .slice A' vns.length c'], .int .i64 0]) ∧ In w' A' c' vns ∧ Ext V w') := fun V A cap h => by rw [hEB] at h ⊢; exact lsChain vep vns A cap V hmv h
  have CX : Hid (∀ V A c A' c', In V A c kns → In V A' c' vns → Calls Try.prog 66 #[.agg #[.int .i64 kep, .slice A kns.length c], .agg #[.int .i64 vep, .slice A' vns.length c'], .int .i64 (n : Int)] V fun e w' => e = .returned (.bool true) ∧ Ext V w') := fun V A c A' c' h1 h2 => (chNext_any kep vep n A A' c c' kns vns V (by have := (may_bds hmk).2.2.2; omega) (by have := (may_bds hmv).2.2.2; omega) h1.1 h2.1 h1.sl h2.sl).mono fun e w' ⟨g1, g2⟩ => ⟨by rw [g1, hyn], g2⟩
  have CC : Hid (∀ V, Calls Try.prog 48 #[.agg #[.int .i64 ar, .int .i64 an], .agg #[.int .i64 pr, .int .i64 pn]] V fun e w' => e = .returned (.int .i64 (cmpBal ar an pr pn)) ∧ Ext V w') := fun V => balCmp_any ar an pr pn V
  have CE : Hid (∀ V a P v, LS w V a P v [] → Calls Try.prog 80 #[.pointer (some ⟨P, 0, none⟩)] V fun e w' => e = .returned (.int .i64 0) ∧ V = w') := fun V a P v h => lsEnd h
  have HRB1 : Hid (∀ V, ∃ c w', (convert 9 72 (.string (str DB))).run Try.prog V = .ok (.slice (some ⟨V.heap.size, 0, none⟩) DB.length c) w' ∧ Ext V w' ∧ Sl u8 w' (some ⟨V.heap.size, 0, none⟩) DB) := fun V => by
    obtain ⟨c, w', h1, h2, h3, _⟩ := run_bytes2 DB V (by omega)
    exact ⟨c, w', h1, h2, h3⟩
  have HRB2 : Hid (∀ V, ∃ c w', (convert 9 72 (.string (str EB))).run Try.prog V = .ok (.slice (some ⟨V.heap.size, 0, none⟩) EB.length c) w' ∧ Ext V w' ∧ Sl u8 w' (some ⟨V.heap.size, 0, none⟩) EB) := fun V => by
    obtain ⟨c, w', h1, h2, h3, _⟩ := run_bytes2 EB V (by omega)
    exact ⟨c, w', h1, h2, h3⟩
  have HLL := Lib.hid hLL
  have HLE : Hid (LL ≤ 1000) := by (show _ ≤ _); omega
  clear hs hLen hLL hmk hfit hmb l1 l2 l3 K hDB hya hmv l4 l5 hEB
  have hcm : cmpBal ar an pr pn ≤ 0 := hyc
  clear hyc hyn
  generalize cmpBal ar an pr pn = cm at *
  rw [← HLL.out]
  unfold pA at CN
  generalize (chainB kep kns ++ (balB pr pn ++ (yesB true ++ (balB ar an ++ (chainB vep vns ++ []))))) = q0 at *
  generalize (balB pr pn ++ (yesB true ++ (balB ar an ++ (chainB vep vns ++ [])))) = q1 at *
  generalize (yesB true ++ (balB ar an ++ (chainB vep vns ++ []))) = q2 at *
  generalize (balB ar an ++ (chainB vep vns ++ [])) = q3 at *
  generalize (chainB vep vns ++ []) = q4 at *
  go_enter Try.func42, Try.ntmps42
  go_upto_region 8 with (first
    | (go_at_call 78; rw [← HWG.out]; have hk1 := LS.known L4.out kep A4 c4 kns I4.out; have K9b := K9.out.frm hk1.2 (fun e => by subst e; obtain ⟨_, _, _, _, h3, _⟩ := L4.out.1; exact Blk.apart K9.out h3 (by decide) rfl); have I4b := I4.out.other L4.out.1 hk1.2; (with_reducible refine (CB1.out _ _ _ hk1.1).mono ?_); rintro e w5 ⟨rfl, hl, hf⟩; have L5 := Lib.hid hl; have K95 : Hid (Blk w5 w4.heap.size 26 #[.int .i64 kep, .slice A4 kns.length c4]) := K9b.frm hf (hk1.1.aside K9b (by decide)); have I45 : Hid (In w5 A4 c4 kns) := I4b.of (fun g cs hb => hb.frm hf (hk1.1.aside hb (by decide))); obtain ⟨kA_w5, kc_w5, vA_w5, vc_w5, kB, _, _⟩ := L5.out.1; have a3_w5 := kB.cell 3; have f3_w5 := kB.frozen 3; have a4_w5 := kB.cell 4; have f4_w5 := kB.frozen 4; simp [acells] at a3_w5 a4_w5; clear kB; clear hl hf hk1 K9b I4b)
    | (go_at_call 76; (with_reducible refine (CG1.out _ _ _ SB.out).mono ?_); rintro e w4 ⟨A4, c4, rfl, hin, hx⟩; obtain ⟨wg, hwg⟩ : ∃ wg, wg = w4.alloc (.cells #[.int .i64 kep, .slice A4 kns.length c4] 26) := ⟨_, rfl⟩; have hxg : Ext w4 wg := (by rw [hwg]; exact ext_al _ _); have L4 := Lib.hid ((L3.out.ext hx).ext hxg); have I4 := Lib.hid (hin.stay hxg); have K9 : Hid (Blk wg w4.heap.size 26 #[.int .i64 kep, .slice A4 kns.length c4]) := (by (show Blk _ _ _ _); rw [hwg]; exact Blk.new _ _ _); have HWG := Lib.hid hwg; obtain ⟨kA_wg, kc_wg, vA_wg, vc_wg, kB, _, _⟩ := L4.out.1; have a1_wg := kB.cell 1; have f1_wg := kB.frozen 1; have a2_wg := kB.cell 2; have f2_wg := kB.frozen 2; simp [acells] at a1_wg a2_wg; clear kB; have hg0 := K9.out.cell 0; have hg1 := K9.out.cell 1; simp at hg0 hg1; rw [hwg] at a1_wg f1_wg a2_wg f2_wg hg0 hg1; clear hin hx hwg hxg)
    | (go_at_call 77; (with_reducible refine (CT1.out _ _ _ L2.out).mono ?_); rintro e w3 ⟨rfl, hl, hf⟩; obtain ⟨cb, wb, hcv, hxb, hsb⟩ := HRB1.out w3; have L3 := Lib.hid (hl.ext hxb); have SB := Lib.hid hsb; clear hl hf hxb hsb)
    | (go_at_call 75; (with_reducible refine (CPN.out _ X1.out).mono ?_); rintro e w2 ⟨P, rfl, hr, hx, hbp⟩; have L2 : Hid (LS w w2 a P ⟨(n : Int), 1, (upTo n), 0, 0, 0, 0, false, 0, []⟩ q0) := ⟨A1.out.stay hx, hr, Ext.trans X1.out hx, HBA.out, Nat.le_trans X1.out.size hbp⟩; clear hr hx hbp)
    | (go_at_call 26; (with_reducible refine CN.out.mono ?_); rintro e w1 ⟨a, rfl, hA, hx, hba⟩; have A1 := Lib.hid hA; have X1 := Lib.hid hx; have HBA : Hid (w.heap.size ≤ a) := hba; clear hA hx hba))
  have hk2 := LS.prom L5.out pr pn
  obtain ⟨W2, hW2⟩ : ∃ W2, W2 = ((w5.setCell ⟨a, 3, none⟩ (.int .i64 pr)).setCell ⟨a, 4, none⟩ (.int .i64 pn)) := ⟨_, rfl⟩
  rw [← hW2] at hk2
  try rw [← hW2]
  clear hW2
  have L6 := Lib.hid hk2.1
  have K96 : Hid (Blk W2 w4.heap.size 26 #[.int .i64 kep, .slice A4 kns.length c4]) := K95.out.frm hk2.2 (fun e => by subst e; obtain ⟨_, _, _, _, h3, _⟩ := L5.out.1; exact Blk.apart K95.out h3 (by decide) rfl)
  have I46 : Hid (In W2 A4 c4 kns) := I45.out.other L5.out.1 hk2.2
  clear hk2
  have g0 := K96.out.cell 0
  have g1 := K96.out.cell 1
  simp at g0 g1
  go_upto_region 10 with (first
    | (go_at_call 79; (with_reducible refine (CY.out _ _ _ L7.out).mono ?_); rintro e w8 ⟨rfl, hl, hf⟩; have K98 : Hid (Blk w8 w4.heap.size 26 #[.int .i64 kep, .slice A4 kns.length c4]) := K97.out.frm hf (LS.aside L7.out K97.out (by decide)); have I48 : Hid (In w8 A4 c4 kns) := I47.out.of (fun g cs hb => hb.frm hf (LS.aside L7.out hb (by decide))); have L8 := Lib.hid hl; obtain ⟨kA_w8, kc_w8, vA_w8, vc_w8, kB, _, _⟩ := L8.out.1; have a7_w8 := kB.cell 7; have f7_w8 := kB.frozen 7; simp [acells] at a7_w8; clear kB; clear hl hf)
    | (go_at_call 59; (with_reducible refine (CF.out _ _ _ I46.out).mono ?_); rintro e w7 ⟨rfl, hx⟩; have L7 := Lib.hid (L6.out.ext hx); have K97 := Lib.hid (K96.out.stay hx); have I47 := Lib.hid (I46.out.stay hx); clear hx))
  have hk3 := LS.hasS L8.out true
  obtain ⟨W3, hW3⟩ : ∃ W3, W3 = w8.setCell ⟨a, 7, none⟩ (.bool true) := ⟨_, rfl⟩
  rw [← hW3] at hk3
  try rw [← hW3]
  clear hW3
  have L9 := Lib.hid hk3.1
  have K99 : Hid (Blk W3 w4.heap.size 26 #[.int .i64 kep, .slice A4 kns.length c4]) := K98.out.frm hk3.2 (fun e => by subst e; obtain ⟨_, _, _, _, h3, _⟩ := L8.out.1; exact Blk.apart K98.out h3 (by decide) rfl)
  have I49 : Hid (In W3 A4 c4 kns) := I48.out.other L8.out.1 hk3.2
  clear hk3
  obtain ⟨kA_W3, kc_W3, vA_W3, vc_W3, kB, _, _⟩ := L9.out.1
  have a7_W3 := kB.cell 7
  have f7_W3 := kB.frozen 7
  simp [acells] at a7_W3
  clear kB
  go_upto_region 12 with (go_at_call 78; (with_reducible refine (CB2.out _ _ _ L9.out).mono ?_); rintro e w10 ⟨rfl, hl, hf⟩; have K910 : Hid (Blk w10 w4.heap.size 26 #[.int .i64 kep, .slice A4 kns.length c4]) := K99.out.frm hf (LS.aside L9.out K99.out (by decide)); have I410 : Hid (In w10 A4 c4 kns) := I49.out.of (fun g cs hb => hb.frm hf (LS.aside L9.out hb (by decide))); have L10 := Lib.hid hl; obtain ⟨kA_w10, kc_w10, vA_w10, vc_w10, kB, _, _⟩ := L10.out.1; have a5_w10 := kB.cell 5; have f5_w10 := kB.frozen 5; have a6_w10 := kB.cell 6; have f6_w10 := kB.frozen 6; simp [acells] at a5_w10 a6_w10; clear kB; clear hl hf)
  have hk4 := LS.acc L10.out ar an
  obtain ⟨W4, hW4⟩ : ∃ W4, W4 = ((w10.setCell ⟨a, 5, none⟩ (.int .i64 ar)).setCell ⟨a, 6, none⟩ (.int .i64 an)) := ⟨_, rfl⟩
  rw [← hW4] at hk4
  try rw [← hW4]
  clear hW4
  have L11 := Lib.hid hk4.1
  have K911 : Hid (Blk W4 w4.heap.size 26 #[.int .i64 kep, .slice A4 kns.length c4]) := K910.out.frm hk4.2 (fun e => by subst e; obtain ⟨_, _, _, _, h3, _⟩ := L10.out.1; exact Blk.apart K910.out h3 (by decide) rfl)
  have I411 : Hid (In W4 A4 c4 kns) := I410.out.other L10.out.1 hk4.2
  clear hk4
  go_upto_region 13 with (first
    | (go_at_call 76; (with_reducible refine (CG2.out _ _ _ SB2.out).mono ?_); rintro e w13 ⟨A5, c5, rfl, hin, hx⟩; have L13 := Lib.hid (L12.out.ext hx); have K913 := Lib.hid (K912.out.stay hx); have I413 := Lib.hid (I412.out.stay hx); have I5 := Lib.hid hin; obtain ⟨kA_w13, kc_w13, vA_w13, vc_w13, kB, _, _⟩ := L13.out.1; have a8_w13 := kB.cell 8; have f8_w13 := kB.frozen 8; have a9_w13 := kB.cell 9; have f9_w13 := kB.frozen 9; simp [acells] at a8_w13 a9_w13; clear kB; clear hin hx)
    | (go_at_call 77; (with_reducible refine (CT2.out _ _ _ L11.out).mono ?_); rintro e w12 ⟨rfl, hl, hf⟩; obtain ⟨cb2, wb2, hcv2, hxb, hsb⟩ := HRB2.out w12; have K9q : Hid (Blk w12 w4.heap.size 26 #[.int .i64 kep, .slice A4 kns.length c4]) := K911.out.frm hf (LS.aside L11.out K911.out (by decide)); have I4q : Hid (In w12 A4 c4 kns) := I411.out.of (fun g cs hb => hb.frm hf (LS.aside L11.out hb (by decide))); have K912 := Lib.hid (K9q.out.stay hxb); have I412 := Lib.hid (I4q.out.stay hxb); have L12 := Lib.hid (hl.ext hxb); have SB2 := Lib.hid hsb; clear hl hf hxb hsb))
  have hk5 := LS.vch L13.out vep A5 c5 vns I5.out
  obtain ⟨W5, hW5⟩ : ∃ W5, W5 = ((w13.setCell ⟨a, 8, none⟩ (.int .i64 vep)).setCell ⟨a, 9, none⟩ (.slice A5 vns.length c5)) := ⟨_, rfl⟩
  rw [← hW5] at hk5
  try rw [← hW5]
  clear hW5
  have L14 := Lib.hid hk5.1
  have K914 : Hid (Blk W5 w4.heap.size 26 #[.int .i64 kep, .slice A4 kns.length c4]) := K913.out.frm hk5.2 (fun e => by subst e; obtain ⟨_, _, _, _, h3, _⟩ := L13.out.1; exact Blk.apart K913.out h3 (by decide) rfl)
  have I414 : Hid (In W5 A4 c4 kns) := I413.out.other L13.out.1 hk5.2
  clear hk5
  obtain ⟨kA, kc, vA, vc, kB, hkk, hvv⟩ := L14.out.1
  have HKB := Lib.hid kB
  have HVV := Lib.hid hvv
  have E0 : Hid (Ext W5 W5) := Ext.refl _
  have y3 : ∀ V, Ext W5 V → V.cell? ⟨a, 3, none⟩ = some (.int .i64 pr) := fun V hV => (HKB.out.stay hV).cell 3
  have y4 : ∀ V, Ext W5 V → V.cell? ⟨a, 4, none⟩ = some (.int .i64 pn) := fun V hV => (HKB.out.stay hV).cell 4
  have y5 : ∀ V, Ext W5 V → V.cell? ⟨a, 5, none⟩ = some (.int .i64 ar) := fun V hV => (HKB.out.stay hV).cell 5
  have y6 : ∀ V, Ext W5 V → V.cell? ⟨a, 6, none⟩ = some (.int .i64 an) := fun V hV => (HKB.out.stay hV).cell 6
  have y8 : ∀ V, Ext W5 V → V.cell? ⟨a, 8, none⟩ = some (.int .i64 vep) := fun V hV => (HKB.out.stay hV).cell 8
  have y9 : ∀ V, Ext W5 V → V.cell? ⟨a, 9, none⟩ = some (.slice vA vns.length vc) := fun V hV => (HKB.out.stay hV).cell 9
  have z0 : ∀ V, Ext W5 V → V.cell? ⟨w4.heap.size, 0, none⟩ = some (.int .i64 kep) := fun V hV => (K914.out.stay hV).cell 0
  have z1 : ∀ V, Ext W5 V → V.cell? ⟨w4.heap.size, 1, none⟩ = some (.slice A4 kns.length c4) := fun V hV => (K914.out.stay hV).cell 1
  clear kB hkk hvv
  refine ext_begin (by kernel_rfl) ?_
  have E0d := Lib.hid (Ext.drewR E0.out)
  refine ext_take (i := 0) (v := ?_) rfl (by kernel_rfl) (by kernel_rfl) (by kernel_rfl) (fun _ _ _ h => h) (by rfl) ?_ ?_
  rotate_left
  · intro W hW; have hW0 := Ext.trans E0d.out hW; clear hW; go_simp <;> with_reducible rfl
  try simp only [Act.put, List.setIfInBounds_toArray, List.set_cons_zero, List.set_cons_succ]
  refine ext_take (i := 1) (v := ?_) rfl (by kernel_rfl) (by kernel_rfl) (by kernel_rfl) (fun _ _ _ h => h) (by rfl) ?_ ?_
  rotate_left
  · intro W hW; have hW0 := Ext.trans E0d.out hW; clear hW; go_simp <;> with_reducible rfl
  try simp only [Act.put, List.setIfInBounds_toArray, List.set_cons_zero, List.set_cons_succ]
  refine ext_take (i := 2) (v := ?_) rfl (by kernel_rfl) (by kernel_rfl) (by kernel_rfl) (fun _ _ _ h => h) (by rfl) ?_ ?_
  rotate_left
  · intro W hW; have hW0 := Ext.trans E0d.out hW; clear hW; go_simp <;> with_reducible rfl
  try simp only [Act.put, List.setIfInBounds_toArray, List.set_cons_zero, List.set_cons_succ]
  refine ext_take (i := 3) (v := ?_) rfl (by kernel_rfl) (by kernel_rfl) (by kernel_rfl) (fun _ _ _ h => h) (by rfl) ?_ ?_
  rotate_left
  · intro W hW; have hW0 := Ext.trans E0d.out hW; clear hW; go_simp <;> with_reducible rfl
  try simp only [Act.put, List.setIfInBounds_toArray, List.set_cons_zero, List.set_cons_succ]
  refine ext_take (i := 4) (v := ?_) rfl (by kernel_rfl) (by kernel_rfl) (by kernel_rfl) (fun _ _ _ h => h) (by rfl) ?_ ?_
  rotate_left
  · intro W hW; have hW0 := Ext.trans E0d.out hW; clear hW; go_simp <;> with_reducible rfl
  try simp only [Act.put, List.setIfInBounds_toArray, List.set_cons_zero, List.set_cons_succ]
  refine ext_take (i := 5) (v := ?_) rfl (by kernel_rfl) (by kernel_rfl) (by kernel_rfl) (fun _ _ _ h => h) (by rfl) ?_ ?_
  rotate_left
  · intro W hW; have hW0 := Ext.trans E0d.out hW; clear hW; go_simp <;> with_reducible rfl
  try simp only [Act.put, List.setIfInBounds_toArray, List.set_cons_zero, List.set_cons_succ]
  refine ext_take (i := 6) (v := ?_) rfl (by kernel_rfl) (by kernel_rfl) (by kernel_rfl) (fun _ _ _ h => h) (by rfl) ?_ ?_
  rotate_left
  · intro W hW; have hW0 := Ext.trans E0d.out hW; clear hW; go_simp <;> with_reducible rfl
  try simp only [Act.put, List.setIfInBounds_toArray, List.set_cons_zero, List.set_cons_succ]
  refine ext_take (i := 7) (v := ?_) rfl (by kernel_rfl) (by kernel_rfl) (by kernel_rfl) (fun _ _ _ h => h) (by rfl) ?_ ?_
  rotate_left
  · intro W hW; have hW0 := Ext.trans E0d.out hW; clear hW; go_simp <;> with_reducible rfl
  try simp only [Act.put, List.setIfInBounds_toArray, List.set_cons_zero, List.set_cons_succ]
  refine ext_take (i := 8) (v := ?_) rfl (by kernel_rfl) (by kernel_rfl) (by kernel_rfl) (fun _ _ _ h => h) (by rfl) ?_ ?_
  rotate_left
  · intro W hW; have hW0 := Ext.trans E0d.out hW; clear hW; go_simp <;> with_reducible rfl
  try simp only [Act.put, List.setIfInBounds_toArray, List.set_cons_zero, List.set_cons_succ]
  refine ext_take (i := 9) (v := ?_) rfl (by kernel_rfl) (by kernel_rfl) (by kernel_rfl) (fun _ _ _ h => h) (by rfl) ?_ ?_
  rotate_left
  · intro W hW; have hW0 := Ext.trans E0d.out hW; clear hW; go_simp <;> with_reducible rfl
  try simp only [Act.put, List.setIfInBounds_toArray, List.set_cons_zero, List.set_cons_succ]
  refine ext_take (i := 10) (v := ?_) rfl (by kernel_rfl) (by kernel_rfl) (by kernel_rfl) (fun _ _ _ h => h) (by rfl) ?_ ?_
  rotate_left
  · intro W hW; have hW0 := Ext.trans E0d.out hW; clear hW; go_simp <;> with_reducible rfl
  try simp only [Act.put, List.setIfInBounds_toArray, List.set_cons_zero, List.set_cons_succ]
  refine ext_take (i := 11) (v := ?_) rfl (by kernel_rfl) (by kernel_rfl) (by kernel_rfl) (fun _ _ _ h => h) (by rfl) ?_ ?_
  rotate_left
  · intro W hW; have hW0 := Ext.trans E0d.out hW; clear hW; go_simp <;> with_reducible rfl
  try simp only [Act.put, List.setIfInBounds_toArray, List.set_cons_zero, List.set_cons_succ]
  refine ext_take (i := 12) (v := ?_) rfl (by kernel_rfl) (by kernel_rfl) (by kernel_rfl) (fun _ _ _ h => h) (by rfl) ?_ ?_
  rotate_left
  · intro W hW; have hW0 := Ext.trans E0d.out hW; clear hW; go_simp <;> with_reducible rfl
  try simp only [Act.put, List.setIfInBounds_toArray, List.set_cons_zero, List.set_cons_succ]
  refine ext_call (i := 13) rfl (by kernel_rfl) (by rfl) (fun K' hK => ?_)
  go_simp
  (go_at_call 66; (with_reducible refine (CX.out _ _ _ _ _ (I414.out.stay E0d.out) (HVV.out.stay E0d.out)).mono ?_); rintro e w15 ⟨rfl, hx⟩; refine hK _ _ hx ?_; clear hK)
  have Ew15 := Lib.hid (Ext.trans E0d.out hx)
  clear hx
  try simp only [Act.put, List.setIfInBounds_toArray, List.set_cons_zero, List.set_cons_succ]
  refine ext_take (i := 14) (v := ?_) rfl (by kernel_rfl) (by kernel_rfl) (by kernel_rfl) (fun _ _ _ h => h) (by rfl) ?_ ?_
  rotate_left
  · intro W hW; have hW0 := Ext.trans Ew15.out hW; clear hW; go_simp <;> with_reducible rfl
  try simp only [Act.put, List.setIfInBounds_toArray, List.set_cons_zero, List.set_cons_succ]
  refine ext_take (i := 15) (v := ?_) rfl (by kernel_rfl) (by kernel_rfl) (by kernel_rfl) (fun _ _ _ h => h) (by rfl) ?_ ?_
  rotate_left
  · intro W hW; have hW0 := Ext.trans Ew15.out hW; clear hW; go_simp <;> with_reducible rfl
  try simp only [Act.put, List.setIfInBounds_toArray, List.set_cons_zero, List.set_cons_succ]
  refine ext_take (i := 16) (v := ?_) rfl (by kernel_rfl) (by kernel_rfl) (by kernel_rfl) (fun _ _ _ h => h) (by rfl) ?_ ?_
  rotate_left
  · intro W hW; have hW0 := Ext.trans Ew15.out hW; clear hW; go_simp <;> with_reducible rfl
  try simp only [Act.put, List.setIfInBounds_toArray, List.set_cons_zero, List.set_cons_succ]
  refine ext_take (i := 17) (v := ?_) rfl (by kernel_rfl) (by kernel_rfl) (by kernel_rfl) (fun _ _ _ h => h) (by rfl) ?_ ?_
  rotate_left
  · intro W hW; have hW0 := Ext.trans Ew15.out hW; clear hW; go_simp <;> with_reducible rfl
  try simp only [Act.put, List.setIfInBounds_toArray, List.set_cons_zero, List.set_cons_succ]
  refine ext_take (i := 18) (v := ?_) rfl (by kernel_rfl) (by kernel_rfl) (by kernel_rfl) (fun _ _ _ h => h) (by rfl) ?_ ?_
  rotate_left
  · intro W hW; have hW0 := Ext.trans Ew15.out hW; clear hW; go_simp <;> with_reducible rfl
  try simp only [Act.put, List.setIfInBounds_toArray, List.set_cons_zero, List.set_cons_succ]
  refine ext_take (i := 19) (v := ?_) rfl (by kernel_rfl) (by kernel_rfl) (by kernel_rfl) (fun _ _ _ h => h) (by rfl) ?_ ?_
  rotate_left
  · intro W hW; have hW0 := Ext.trans Ew15.out hW; clear hW; go_simp <;> with_reducible rfl
  try simp only [Act.put, List.setIfInBounds_toArray, List.set_cons_zero, List.set_cons_succ]
  refine ext_take (i := 20) (v := ?_) rfl (by kernel_rfl) (by kernel_rfl) (by kernel_rfl) (fun _ _ _ h => h) (by rfl) ?_ ?_
  rotate_left
  · intro W hW; have hW0 := Ext.trans Ew15.out hW; clear hW; go_simp <;> with_reducible rfl
  try simp only [Act.put, List.setIfInBounds_toArray, List.set_cons_zero, List.set_cons_succ]
  refine ext_take (i := 21) (v := ?_) rfl (by kernel_rfl) (by kernel_rfl) (by kernel_rfl) (fun _ _ _ h => h) (by rfl) ?_ ?_
  rotate_left
  · intro W hW; have hW0 := Ext.trans Ew15.out hW; clear hW; go_simp <;> with_reducible rfl
  try simp only [Act.put, List.setIfInBounds_toArray, List.set_cons_zero, List.set_cons_succ]
  refine ext_take (i := 22) (v := ?_) rfl (by kernel_rfl) (by kernel_rfl) (by kernel_rfl) (fun _ _ _ h => h) (by rfl) ?_ ?_
  rotate_left
  · intro W hW; have hW0 := Ext.trans Ew15.out hW; clear hW; go_simp <;> with_reducible rfl
  try simp only [Act.put, List.setIfInBounds_toArray, List.set_cons_zero, List.set_cons_succ]
  refine ext_take (i := 23) (v := ?_) rfl (by kernel_rfl) (by kernel_rfl) (by kernel_rfl) (fun _ _ _ h => h) (by rfl) ?_ ?_
  rotate_left
  · intro W hW; have hW0 := Ext.trans Ew15.out hW; clear hW; go_simp <;> with_reducible rfl
  try simp only [Act.put, List.setIfInBounds_toArray, List.set_cons_zero, List.set_cons_succ]
  refine ext_take (i := 24) (v := ?_) rfl (by kernel_rfl) (by kernel_rfl) (by kernel_rfl) (fun _ _ _ h => h) (by rfl) ?_ ?_
  rotate_left
  · intro W hW; have hW0 := Ext.trans Ew15.out hW; clear hW; go_simp <;> with_reducible rfl
  try simp only [Act.put, List.setIfInBounds_toArray, List.set_cons_zero, List.set_cons_succ]
  refine ext_take (i := 25) (v := ?_) rfl (by kernel_rfl) (by kernel_rfl) (by kernel_rfl) (fun _ _ _ h => h) (by rfl) ?_ ?_
  rotate_left
  · intro W hW; have hW0 := Ext.trans Ew15.out hW; clear hW; go_simp <;> with_reducible rfl
  try simp only [Act.put, List.setIfInBounds_toArray, List.set_cons_zero, List.set_cons_succ]
  refine ext_call (i := 26) rfl (by kernel_rfl) (by rfl) (fun K' hK => ?_)
  go_simp
  (go_at_call 48; (with_reducible refine (CC.out _).mono ?_); rintro e w16 ⟨rfl, hx⟩; refine hK _ _ hx ?_; clear hK)
  have Ew16 := Lib.hid (Ext.trans Ew15.out hx)
  clear hx
  try simp only [Act.put, List.setIfInBounds_toArray, List.set_cons_zero, List.set_cons_succ]
  refine ext_take (i := 27) (v := ?_) rfl (by kernel_rfl) (by kernel_rfl) (by kernel_rfl) (fun _ _ _ h => h) (by rfl) ?_ ?_
  rotate_left
  · intro W hW; have hW0 := Ext.trans Ew16.out hW; clear hW; go_simp <;> with_reducible rfl
  try simp only [Act.put, List.setIfInBounds_toArray, List.set_cons_zero, List.set_cons_succ]
  refine ext_take (i := 28) (v := ?_) rfl (by kernel_rfl) (by kernel_rfl) (by kernel_rfl) (fun _ _ _ h => h) (by rfl) ?_ ?_
  rotate_left
  · intro W hW; have hW0 := Ext.trans Ew16.out hW; clear hW; go_simp <;> with_reducible rfl
  try simp only [Act.put, List.setIfInBounds_toArray, List.set_cons_zero, List.set_cons_succ]
  refine ext_take (i := 29) (v := ?_) rfl (by kernel_rfl) (by kernel_rfl) (by kernel_rfl) (fun _ _ _ h => h) (by rfl) ?_ ?_
  rotate_left
  · intro W hW; have hW0 := Ext.trans Ew16.out hW; clear hW; go_simp <;> with_reducible rfl
  try simp only [Act.put, List.setIfInBounds_toArray, List.set_cons_zero, List.set_cons_succ]
  refine wpAnyH_done (by kernel_rfl) ?_ _
  have L16 := Lib.hid (L14.out.ext Ew16.out)
  clear Ew15 Ew16 E0 E0d y3 y4 y5 y6 y8 y9 z0 z1
  go_wp2_with (go_at_call 80; (with_reducible refine (CE.out _ _ _ _ L16.out).mono ?_); rintro e wz ⟨rfl, rfl⟩)
  try go_ret
  exact hD.out _ _ ⟨a, rfl, L16.out.1, L16.out.2.2.1, HBA.out⟩

theorem load_any (n : Nat) (v : AV) (A : Option Addr) (cap : Nat) (w : World) (K : AOk v) (hn : v.n = n) (hs : Sl u8 w A (bytesA v)) :
    Calls Try.prog 42 #[.int .i64 n, .slice A (bytesA v).length cap] w fun e w' => ∃ a, e = .returned (.tuple #[pA a, .int .i64 0]) ∧ AAt w' a v ∧ Ext w w' ∧ w.heap.size ≤ a := by
  obtain ⟨m, kep, kns, pr, pn, ar, an, has, vep, vns⟩ := v
  simp only at hn
  subst hn
  cases has
  · obtain ⟨rfl, rfl, rfl, rfl⟩ := K.no rfl
    have e : bytesA ⟨(n : Int), kep, kns, pr, pn, 0, 0, false, 0, []⟩ = chainB kep kns ++ (balB pr pn ++ (yesB false ++ [])) := by unfold bytesA; simp
    rw [e] at hs ⊢
    exact load_n n kep kns pr pn A cap w K hs
  · have e : bytesA ⟨(n : Int), kep, kns, pr, pn, ar, an, true, vep, vns⟩ = chainB kep kns ++ (balB pr pn ++ (yesB true ++ (balB ar an ++ (chainB vep vns ++ [])))) := by unfold bytesA; simp
    rw [e] at hs ⊢
    exact load_y n kep kns pr pn ar an vep vns A cap w K hs

end Go.Proofs.Ytkdcbidbciognaa
