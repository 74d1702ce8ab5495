/-
  The acceptor (law 13) as bytes.
-/
import Derived.Test.YtkdcbidbciognaaAccStep
import Derived.Test.YtkdcbidbciognaaM3
namespace Go.Proofs.Ytkdcbidbciognaa
set_option linter.unusedVariables false
set_option linter.unusedSimpArgs false
open Go.RowKit

/-- numbers that are not below nought, as such -/
def nats (l : List Int) : List Nat := l.map Int.toNat
theorem ints_nats {l : List Int} (h : ∀ x ∈ l, 0 ≤ x) : ints (nats l) = l := by
  induction l with
  | nil => rfl
  | cons x r ih =>
    have hx := h x (by simp)
    have := ih (fun y hy => h y (by simp [hy]))
    simp only [nats, ints, List.map_cons] at this ⊢
    rw [this]
    congr 1
    omega
theorem nats_len (l : List Int) : (nats l).length = l.length := by simp [nats]
theorem may_ints {ep : Int} {l : List Int} (h : mayChainB ep l = true) : ints (nats l) = l := by
  apply ints_nats
  intro x hx
  unfold mayChainB at h
  simp only [Bool.and_eq_true, decide_eq_true_eq] at h
  exact (okNodes_mem l [] h.2 x hx).1
/-- a chain as a text -/
def chainB (ep : Int) (l : List Int) : List UInt8 := textB (str (putC ep.toNat (nats l)))
def balB (r n : Int) : List UInt8 := numB r.toNat ++ numB n.toNat
/-- all that an acceptor knows -/
def bytesA (v : AV) : List UInt8 := chainB v.kep v.kns ++ balB v.pr v.pn ++ yesB v.has ++ (if v.has then balB v.ar v.an ++ chainB v.vep v.vns else [])

theorem WrTo.pre {w w1 w' : World} {base P : Nat} {l : List UInt8} {g : Option Nat} (hx : Ext w w1) (h : WrTo w1 w' base P l g) : WrTo w w' base P l g := by
  obtain ⟨g', h1, h2, h3⟩ := h
  refine ⟨g', h1, Frm.tr (Frm.of_below hx _) h2, ?_⟩
  rcases h3 with h3 | ⟨k, h3, h4⟩
  · exact .inl h3
  · exact .inr ⟨k, h3, Nat.le_trans hx.size h4⟩

theorem chainB_len {ep : Int} {l : List Int} (h : mayChainB ep l = true) : (putC ep.toNat (nats l)).length ≤ 100 ∧ (chainB ep l).length ≤ 200 := by
  have hl := (may_bds h).2.2.2
  have h1 : (putC ep.toNat (nats l)).length ≤ 100 := by
    have h3 := numsB_len [ep.toNat, (nats l).length]
    have h4 := numsB_len (nats l)
    rw [nats_len] at h4
    unfold putC
    rw [List.length_append]
    simp at h3
    omega
  refine ⟨h1, ?_⟩
  have h2 : (numB (str (putC ep.toNat (nats l))).size).length ≤ 10 := numF_len 10 _
  unfold chainB textB
  rw [List.length_append, str_toList]
  omega

set_option maxHeartbeats 4000000 in
theorem aputChain_any (base P : Nat) (L : List UInt8) (g : Option Nat) (ep : Int) (A : Option Addr) (cap : Nat) (l : List Int) (w : World) (H : WrAt w base P L g) (hm : mayChainB ep l = true) (hcap : l.length ≤ cap) (hs : Sl i64 w A l) (hl : L.length ≤ 100000000) (hb : base ≤ w.heap.size) :
    Calls Try.prog 71 #[.pointer (some ⟨P, 0, none⟩), .agg #[.int .i64 ep, .slice A l.length cap]] w fun e w' => e = .returned (.tuple #[]) ∧ WrTo w w' base P (L ++ chainB ep l) g := by
  refine hide_post fun D hD => ?_
  have hbd := may_bds hm
  have hlen := (chainB_len hm).1
  obtain ⟨w0, hw0⟩ : ∃ w0, w0 = w.alloc (.cells #[.int .i64 ep, .slice A l.length cap] 26) := ⟨_, rfl⟩
  have hb0 : Ext w w0 := by rw [hw0]; exact ext_al _ _
  have CP : Hid (Calls Try.prog 91 #[.agg #[.int .i64 ep, .slice A l.length cap]] w0 fun e w' => ∃ A' cap', e = .returned (.tuple #[.slice A' (putC ep.toNat (nats l)).length cap', .int .i64 0]) ∧ Sl u8 w' A' (putC ep.toNat (nats l)) ∧ Ext w0 w') := by
    have h1 := putChain_yes ep.toNat A cap (nats l) w0 (by rw [nats_len]; exact hcap) (by rw [may_ints hm]; exact hs.stay hb0) (by rw [may_ints hm, Int.toNat_of_nonneg hbd.1]; exact hm)
    rw [nats_len, Int.toNat_of_nonneg hbd.1] at h1
    exact h1
  have HB := Lib.hid hb0
  have HW := Lib.hid hw0
  have HWR := Lib.hid H
  have HD2 : Hid (∀ w', WrTo w w' base P (L ++ chainB ep l) g → D (.returned (.tuple #[])) w') := fun w' h => hD.out _ _ ⟨rfl, h⟩
  have CT : Hid (∀ V, WrAt V base P L g → base ≤ V.heap.size → Calls Try.prog 92 #[.pointer (some ⟨P, 0, none⟩), .string (str (putC ep.toNat (nats l)))] V fun e w' => e = .returned (.tuple #[]) ∧ WrTo V w' base P (L ++ chainB ep l) g) := fun V HV hv => textW_any base P L g (str (putC ep.toNat (nats l))) V HV (by rw [str_size]; omega) (by omega) hv
  have HBS : Hid (base ≤ w.heap.size) := hb
  clear hb0 hw0 H hs hm hbd hb hD
  generalize chainB ep l = CB at *
  obtain ⟨DB, hDB⟩ : ∃ DB, DB = putC ep.toNat (nats l) := ⟨_, rfl⟩
  rw [← hDB] at CP CT hlen
  clear hDB
  obtain ⟨n, hn⟩ : ∃ n, n = DB.length := ⟨_, rfl⟩
  rw [← hn] at CP
  have HN := Lib.hid hn
  clear hn
  go_enter Try.func71, Try.ntmps71
  go_wp2_with (first
    | (go_at_call 91; rw [← HW.out]; (with_reducible refine CP.out.mono ?_); rintro e w1 ⟨A', c', rfl, hs, hx⟩; have X1 : Hid (Ext w w1) := Ext.trans HB.out hx; have hcv : (convert 72 9 (.slice A' n c')).run Try.prog w1 = .ok (.string (str DB)) w1 := (by rw [HN.out]; exact run_str _ _ 5 A' DB c' Try.underlying72 Try.underlying5 Try.underlying9 hs); clear hs hx)
    | (go_at_call 92; have hq := CT.out w1 (HWR.out.stay X1.out) (Nat.le_trans HBS.out X1.out.size); (with_reducible refine hq.mono ?_); clear hq; rintro e w2 ⟨rfl, h⟩; have HT := Lib.hid (WrTo.pre X1.out h); clear h))
  try go_ret
  first | exact HD2.out _ HT.out | exact bodyPost_ret (v := .tuple #[]) (by simp [results, Try.results71, go_sem]) rfl (HD2.out _ HT.out)

theorem balB_len {r n : Int} (h : mayBal r n = true) : (balB r n).length ≤ 20 ∧ r.toNat ≤ 1099511627776 ∧ n.toNat ≤ 1099511627776 ∧ ((r.toNat : Nat) : Int) = r ∧ ((n.toNat : Nat) : Int) = n := by
  unfold mayBal at h
  have h := of_decide_eq_true h
  have h1 : (numB r.toNat).length ≤ 10 := numF_len 10 _
  have h2 : (numB n.toNat).length ≤ 10 := numF_len 10 _
  refine ⟨by unfold balB; rw [List.length_append]; omega, by omega, by omega, by omega, by omega⟩
/-- a writer of the call's own that holds so much -/
def Wr0 (w V : World) (P : Nat) (l : List UInt8) : Prop := ∃ g, WrAt V w.heap.size P l g ∧ Ext w V ∧ w.heap.size ≤ P
theorem Wr0.to {w V V' : World} {P : Nat} {l l' : List UInt8} (h : Wr0 w V P l) (h' : ∀ g, WrAt V w.heap.size P l g → WrTo V V' w.heap.size P l' g) : Wr0 w V' P l' := by
  obtain ⟨g, h1, h2, h3⟩ := h
  obtain ⟨g', k1, k2, k3⟩ := h' g h1
  refine ⟨g', k1, Frm.step h2 k2 h2.size ?_, h3⟩
  rintro k (rfl | e)
  · exact h3
  · exact (h1.glt k e.symm).1

set_option maxHeartbeats 4000000 in
theorem w0chain {w V : World} {P : Nat} {L : List UInt8} (h : Wr0 w V P L) (ep : Int) (A : Option Addr) (cap : Nat) (l : List Int) (hm : mayChainB ep l = true) (hcap : l.length ≤ cap) (hs : Sl i64 V A l) (hl : L.length ≤ 10000) :
    Calls Try.prog 71 #[.pointer (some ⟨P, 0, none⟩), .agg #[.int .i64 ep, .slice A l.length cap]] V fun e w' => e = .returned (.tuple #[]) ∧ Wr0 w w' P (L ++ chainB ep l) := by
  obtain ⟨g, h1, h2, h3⟩ := h
  refine (aputChain_any w.heap.size P L g ep A cap l V h1 hm hcap hs (by omega) h2.size).mono fun e w' ⟨he, hw⟩ => ⟨he, Wr0.to ⟨g, h1, h2, h3⟩ (fun g' hg' => ?_)⟩
  have : g' = g := by
    obtain ⟨v, k1, k2, k3⟩ := h1
    obtain ⟨v', j1, j2, j3⟩ := hg'
    have e1 : V.heap[P]? = some (.cells #[v] 101 (0, 0)) := k1
    have e2 : V.heap[P]? = some (.cells #[v'] 101 (0, 0)) := j1
    rw [e1] at e2
    injection e2 with e2
    injection e2 with e2
    simp at e2
    rw [← k3, ← j3, e2]
  rw [this]
  exact hw
theorem WrAt.same {V : World} {base P : Nat} {L L' : List UInt8} {g g' : Option Nat} (h1 : WrAt V base P L g) (h2 : WrAt V base P L' g') : g' = g := by
  obtain ⟨v, k1, k2, k3⟩ := h1
  obtain ⟨v', j1, j2, j3⟩ := h2
  have e1 : V.heap[P]? = some (.cells #[v] 101 (0, 0)) := k1
  have e2 : V.heap[P]? = some (.cells #[v'] 101 (0, 0)) := j1
  rw [e1] at e2
  injection e2 with e2
  injection e2 with e2
  simp at e2
  rw [← k3, ← j3, e2]
theorem w0bal {w V : World} {P : Nat} {L : List UInt8} (h : Wr0 w V P L) (r n : Int) (hm : mayBal r n = true) (hl : L.length ≤ 10000) :
    Calls Try.prog 72 #[.pointer (some ⟨P, 0, none⟩), .agg #[.int .i64 r, .int .i64 n]] V fun e w' => e = .returned (.tuple #[]) ∧ Wr0 w w' P (L ++ balB r n) := by
  obtain ⟨g, h1, h2, h3⟩ := h
  obtain ⟨_, b1, b2, b3, b4⟩ := balB_len hm
  have := putBal_any w.heap.size P L g r.toNat n.toNat V h1 b1 b2 (by omega) h2.size
  rw [b3, b4] at this
  exact this.mono fun e w' ⟨he, hw⟩ => ⟨he, Wr0.to ⟨g, h1, h2, h3⟩ (fun g' hg' => by rw [h1.same hg']; exact hw)⟩
theorem w0yes {w V : World} {P : Nat} {L : List UInt8} (h : Wr0 w V P L) (b : Bool) (hl : L.length ≤ 10000) :
    Calls Try.prog 73 #[.pointer (some ⟨P, 0, none⟩), .bool b] V fun e w' => e = .returned (.tuple #[]) ∧ Wr0 w w' P (L ++ yesB b) := by
  obtain ⟨g, h1, h2, h3⟩ := h
  exact (yesW_any w.heap.size P L g b V h1 (by omega) h2.size).mono fun e w' ⟨he, hw⟩ => ⟨he, Wr0.to ⟨g, h1, h2, h3⟩ (fun g' hg' => by rw [h1.same hg']; exact hw)⟩
theorem w0bytes {w V : World} {P : Nat} {L : List UInt8} (h : Wr0 w V P L) (hl : L.length ≤ 10000) :
    Calls Try.prog 74 #[.pointer (some ⟨P, 0, none⟩)] V fun e w' => ∃ A c, e = .returned (.slice A L.length c) ∧ Sl u8 w' A L ∧ Ext w w' := by
  obtain ⟨g, h1, h2, h3⟩ := h
  refine (bytes_any w.heap.size P L g V h1 (by omega)).mono fun e w' ⟨A, c, he, ho, hx⟩ => ⟨A, c, he, ?_, Ext.trans h2 hx⟩
  obtain ⟨A', c', e, hs⟩ := own_view ho
  injection e with e1
  rw [e1]
  exact hs

set_option maxRecDepth 4000 in
set_option maxHeartbeats 8000000 in
theorem bytesA_n (a : Nat) (n kep : Int) (kns : List Int) (pr pn ar an vep : Int) (vns : List Int) (w : World) (H : AAt w a ⟨n, kep, kns, pr, pn, ar, an, false, vep, vns⟩) (K : AOk ⟨n, kep, kns, pr, pn, ar, an, false, vep, vns⟩) :
    Calls Try.prog 37 #[pA a] w fun e w' => ∃ A c, e = .returned (.slice A (chainB kep kns ++ balB pr pn ++ yesB false).length c) ∧ Sl u8 w' A (chainB kep kns ++ balB pr pn ++ yesB false) ∧ Ext w w' := by
  refine hide_post fun D hD => ?_
  have hH := H
  obtain ⟨kA, kc, vA, vc, kB, hk, hv⟩ := H
  simp only at hk hv
  have hmk : mayChainB kep kns = true := K.hk
  have hmb : mayBal pr pn = true := K.bal
  have l1 := (chainB_len hmk).2
  have l2 := (balB_len hmb).1
  have l3 : (yesB false).length ≤ 20 := by decide
  obtain ⟨w0, hw0⟩ : ∃ w0, w0 = w.alloc (.cells #[.slice none 0 0] 101) := ⟨_, rfl⟩
  have hb0 : Ext w w0 := by rw [hw0]; exact ext_al _ _
  have HW0 : Hid (Wr0 w w0 w.heap.size []) := ⟨none, ⟨.slice none 0 0, by rw [hw0]; exact Blk.new _ _ _, World.ownsRow_nil _ _ _ _, rfl⟩, hb0, Nat.le_refl _⟩
  have C1 : Hid (∀ V, Wr0 w V w.heap.size [] → Calls Try.prog 71 #[.pointer (some ⟨w.heap.size, 0, none⟩), .agg #[.int .i64 kep, .slice kA kns.length kc]] V fun e w' => e = .returned (.tuple #[]) ∧ Wr0 w w' w.heap.size (chainB kep kns)) := fun V h => w0chain h kep kA kc kns hmk hk.1 (hk.sl.stay (by obtain ⟨_, _, h5, _⟩ := h; exact h5)) (by simp)
  have C2 : Hid (∀ V, Wr0 w V w.heap.size (chainB kep kns) → Calls Try.prog 72 #[.pointer (some ⟨w.heap.size, 0, none⟩), .agg #[.int .i64 pr, .int .i64 pn]] V fun e w' => e = .returned (.tuple #[]) ∧ Wr0 w w' w.heap.size (chainB kep kns ++ balB pr pn)) := fun V h => w0bal h pr pn hmb (by omega)
  have C3 : Hid (∀ V, Wr0 w V w.heap.size (chainB kep kns ++ balB pr pn) → Calls Try.prog 73 #[.pointer (some ⟨w.heap.size, 0, none⟩), .bool false] V fun e w' => e = .returned (.tuple #[]) ∧ Wr0 w w' w.heap.size (chainB kep kns ++ balB pr pn ++ yesB false)) := fun V h => w0yes h false (by simp only [List.length_append]; omega)
  have C6 : Hid (∀ V, Wr0 w V w.heap.size (chainB kep kns ++ balB pr pn ++ yesB false) → Calls Try.prog 74 #[.pointer (some ⟨w.heap.size, 0, none⟩)] V fun e w' => ∃ A c, e = .returned (.slice A (chainB kep kns ++ balB pr pn ++ yesB false).length c) ∧ Sl u8 w' A (chainB kep kns ++ balB pr pn ++ yesB false) ∧ Ext w w') := fun V h => w0bytes h (by simp only [List.length_append]; omega)
  have KB : Hid (Blk w a 93 #[.int .i64 n, .int .i64 kep, .slice kA kns.length kc, .int .i64 pr, .int .i64 pn, .int .i64 ar, .int .i64 an, .bool false, .int .i64 vep, .slice vA vns.length vc]) := kB
  have HE : Hid (∀ A c w', Sl u8 w' A (chainB kep kns ++ balB pr pn ++ yesB false) → Ext w w' → D (.returned (.slice A (chainB kep kns ++ balB pr pn ++ yesB false).length c)) w') := fun A c w' h1 h2 => hD.out _ _ ⟨A, c, rfl, h1, h2⟩
  have halt := kB.lt
  have a1' : ∀ o, (w.alloc o).cell? ⟨a, 1, none⟩ = some (.int .i64 kep) := fun o => (KB.out.stay (ext_al _ o)).cell 1
  have a2' : ∀ o, (w.alloc o).cell? ⟨a, 2, none⟩ = some (.slice kA kns.length kc) := fun o => (KB.out.stay (ext_al _ o)).cell 2
  have a3' : ∀ o, (w.alloc o).cell? ⟨a, 3, none⟩ = some (.int .i64 pr) := fun o => (KB.out.stay (ext_al _ o)).cell 3
  have a4' : ∀ o, (w.alloc o).cell? ⟨a, 4, none⟩ = some (.int .i64 pn) := fun o => (KB.out.stay (ext_al _ o)).cell 4
  have a5' : ∀ o, (w.alloc o).cell? ⟨a, 5, none⟩ = some (.int .i64 ar) := fun o => (KB.out.stay (ext_al _ o)).cell 5
  have a6' : ∀ o, (w.alloc o).cell? ⟨a, 6, none⟩ = some (.int .i64 an) := fun o => (KB.out.stay (ext_al _ o)).cell 6
  have a7' : ∀ o, (w.alloc o).cell? ⟨a, 7, none⟩ = some (.bool false) := fun o => (KB.out.stay (ext_al _ o)).cell 7
  have a8' : ∀ o, (w.alloc o).cell? ⟨a, 8, none⟩ = some (.int .i64 vep) := fun o => (KB.out.stay (ext_al _ o)).cell 8
  have a9' : ∀ o, (w.alloc o).cell? ⟨a, 9, none⟩ = some (.slice vA vns.length vc) := fun o => (KB.out.stay (ext_al _ o)).cell 9
  have HW := Lib.hid hw0
  clear hH kB hk hv hmk hmb l1 l2 l3  hb0 hw0 K hD
  generalize (chainB kep kns ++ balB pr pn ++ yesB false) = D3 at *
  generalize (chainB kep kns ++ balB pr pn) = D2 at *
  generalize (chainB kep kns) = D1 at *
  unfold pA
  go_enter Try.func37, Try.ntmps37
  go_wp2_with (first
    | (go_at_call 71; rw [← HW.out]; (with_reducible refine (C1.out _ HW0.out).mono ?_); rintro e w1 ⟨rfl, h⟩; have W1 := Lib.hid h; have X1 : Hid (Ext w w1) := (by obtain ⟨_, _, h5, _⟩ := h; exact h5); have a1_w1 : w1.cell? ⟨a, 1, none⟩ = some (.int .i64 kep) := (KB.out.stay X1.out).cell 1; have a2_w1 : w1.cell? ⟨a, 2, none⟩ = some (.slice kA kns.length kc) := (KB.out.stay X1.out).cell 2; have a3_w1 : w1.cell? ⟨a, 3, none⟩ = some (.int .i64 pr) := (KB.out.stay X1.out).cell 3; have a4_w1 : w1.cell? ⟨a, 4, none⟩ = some (.int .i64 pn) := (KB.out.stay X1.out).cell 4; have a5_w1 : w1.cell? ⟨a, 5, none⟩ = some (.int .i64 ar) := (KB.out.stay X1.out).cell 5; have a6_w1 : w1.cell? ⟨a, 6, none⟩ = some (.int .i64 an) := (KB.out.stay X1.out).cell 6; have a7_w1 : w1.cell? ⟨a, 7, none⟩ = some (.bool false) := (KB.out.stay X1.out).cell 7; have a8_w1 : w1.cell? ⟨a, 8, none⟩ = some (.int .i64 vep) := (KB.out.stay X1.out).cell 8; have a9_w1 : w1.cell? ⟨a, 9, none⟩ = some (.slice vA vns.length vc) := (KB.out.stay X1.out).cell 9; clear h)
    | (go_at_call 72; (with_reducible refine (C2.out _ W1.out).mono ?_); rintro e w2 ⟨rfl, h⟩; have W2 := Lib.hid h; have X2 : Hid (Ext w w2) := (by obtain ⟨_, _, h5, _⟩ := h; exact h5); have a1_w2 : w2.cell? ⟨a, 1, none⟩ = some (.int .i64 kep) := (KB.out.stay X2.out).cell 1; have a2_w2 : w2.cell? ⟨a, 2, none⟩ = some (.slice kA kns.length kc) := (KB.out.stay X2.out).cell 2; have a3_w2 : w2.cell? ⟨a, 3, none⟩ = some (.int .i64 pr) := (KB.out.stay X2.out).cell 3; have a4_w2 : w2.cell? ⟨a, 4, none⟩ = some (.int .i64 pn) := (KB.out.stay X2.out).cell 4; have a5_w2 : w2.cell? ⟨a, 5, none⟩ = some (.int .i64 ar) := (KB.out.stay X2.out).cell 5; have a6_w2 : w2.cell? ⟨a, 6, none⟩ = some (.int .i64 an) := (KB.out.stay X2.out).cell 6; have a7_w2 : w2.cell? ⟨a, 7, none⟩ = some (.bool false) := (KB.out.stay X2.out).cell 7; have a8_w2 : w2.cell? ⟨a, 8, none⟩ = some (.int .i64 vep) := (KB.out.stay X2.out).cell 8; have a9_w2 : w2.cell? ⟨a, 9, none⟩ = some (.slice vA vns.length vc) := (KB.out.stay X2.out).cell 9; clear h)
    | (go_at_call 73; (with_reducible refine (C3.out _ W2.out).mono ?_); rintro e w3 ⟨rfl, h⟩; have W3 := Lib.hid h; have X3 : Hid (Ext w w3) := (by obtain ⟨_, _, h5, _⟩ := h; exact h5); have a1_w3 : w3.cell? ⟨a, 1, none⟩ = some (.int .i64 kep) := (KB.out.stay X3.out).cell 1; have a2_w3 : w3.cell? ⟨a, 2, none⟩ = some (.slice kA kns.length kc) := (KB.out.stay X3.out).cell 2; have a3_w3 : w3.cell? ⟨a, 3, none⟩ = some (.int .i64 pr) := (KB.out.stay X3.out).cell 3; have a4_w3 : w3.cell? ⟨a, 4, none⟩ = some (.int .i64 pn) := (KB.out.stay X3.out).cell 4; have a5_w3 : w3.cell? ⟨a, 5, none⟩ = some (.int .i64 ar) := (KB.out.stay X3.out).cell 5; have a6_w3 : w3.cell? ⟨a, 6, none⟩ = some (.int .i64 an) := (KB.out.stay X3.out).cell 6; have a7_w3 : w3.cell? ⟨a, 7, none⟩ = some (.bool false) := (KB.out.stay X3.out).cell 7; have a8_w3 : w3.cell? ⟨a, 8, none⟩ = some (.int .i64 vep) := (KB.out.stay X3.out).cell 8; have a9_w3 : w3.cell? ⟨a, 9, none⟩ = some (.slice vA vns.length vc) := (KB.out.stay X3.out).cell 9; clear h)
    | (go_at_call 74; (with_reducible refine (C6.out _ W3.out).mono ?_); rintro e w6 ⟨A', c', rfl, hs, hx⟩; have X6 := Lib.hid hx; have S6 := Lib.hid hs; clear hs hx))
  try go_ret
  exact HE.out _ _ _ S6.out X6.out

set_option maxRecDepth 4000 in
set_option maxHeartbeats 8000000 in
theorem bytesA_y (a : Nat) (n kep : Int) (kns : List Int) (pr pn ar an vep : Int) (vns : List Int) (w : World) (H : AAt w a ⟨n, kep, kns, pr, pn, ar, an, true, vep, vns⟩) (K : AOk ⟨n, kep, kns, pr, pn, ar, an, true, vep, vns⟩) :
    Calls Try.prog 37 #[pA a] w fun e w' => ∃ A c, e = .returned (.slice A (chainB kep kns ++ balB pr pn ++ yesB true ++ balB ar an ++ chainB vep vns).length c) ∧ Sl u8 w' A (chainB kep kns ++ balB pr pn ++ yesB true ++ balB ar an ++ chainB vep vns) ∧ Ext w w' := by
  refine hide_post fun D hD => ?_
  have hH := H
  obtain ⟨kA, kc, vA, vc, kB, hk, hv⟩ := H
  simp only at hk hv
  have hmk : mayChainB kep kns = true := K.hk
  have hmb : mayBal pr pn = true := K.bal
  have l1 := (chainB_len hmk).2
  have l2 := (balB_len hmb).1
  have l3 : (yesB true).length ≤ 20 := by decide
  have hy := K.yes rfl
  simp only at hy
  have hmv := (nextB_bds hy.2.2).2.1
  have l4 := (balB_len hy.1).1
  have l5 := (chainB_len hmv).2
  obtain ⟨w0, hw0⟩ : ∃ w0, w0 = w.alloc (.cells #[.slice none 0 0] 101) := ⟨_, rfl⟩
  have hb0 : Ext w w0 := by rw [hw0]; exact ext_al _ _
  have HW0 : Hid (Wr0 w w0 w.heap.size []) := ⟨none, ⟨.slice none 0 0, by rw [hw0]; exact Blk.new _ _ _, World.ownsRow_nil _ _ _ _, rfl⟩, hb0, Nat.le_refl _⟩
  have C1 : Hid (∀ V, Wr0 w V w.heap.size [] → Calls Try.prog 71 #[.pointer (some ⟨w.heap.size, 0, none⟩), .agg #[.int .i64 kep, .slice kA kns.length kc]] V fun e w' => e = .returned (.tuple #[]) ∧ Wr0 w w' w.heap.size (chainB kep kns)) := fun V h => w0chain h kep kA kc kns hmk hk.1 (hk.sl.stay (by obtain ⟨_, _, h5, _⟩ := h; exact h5)) (by simp)
  have C2 : Hid (∀ V, Wr0 w V w.heap.size (chainB kep kns) → Calls Try.prog 72 #[.pointer (some ⟨w.heap.size, 0, none⟩), .agg #[.int .i64 pr, .int .i64 pn]] V fun e w' => e = .returned (.tuple #[]) ∧ Wr0 w w' w.heap.size (chainB kep kns ++ balB pr pn)) := fun V h => w0bal h pr pn hmb (by omega)
  have C3 : Hid (∀ V, Wr0 w V w.heap.size (chainB kep kns ++ balB pr pn) → Calls Try.prog 73 #[.pointer (some ⟨w.heap.size, 0, none⟩), .bool true] V fun e w' => e = .returned (.tuple #[]) ∧ Wr0 w w' w.heap.size (chainB kep kns ++ balB pr pn ++ yesB true)) := fun V h => w0yes h true (by simp only [List.length_append]; omega)
  have C4 : Hid (∀ V, Wr0 w V w.heap.size (chainB kep kns ++ balB pr pn ++ yesB true) → Calls Try.prog 72 #[.pointer (some ⟨w.heap.size, 0, none⟩), .agg #[.int .i64 ar, .int .i64 an]] V fun e w' => e = .returned (.tuple #[]) ∧ Wr0 w w' w.heap.size (chainB kep kns ++ balB pr pn ++ yesB true ++ balB ar an)) := fun V h => w0bal h ar an hy.1 (by simp only [List.length_append]; omega)
  have C5 : Hid (∀ V, Wr0 w V w.heap.size (chainB kep kns ++ balB pr pn ++ yesB true ++ balB ar an) → Calls Try.prog 71 #[.pointer (some ⟨w.heap.size, 0, none⟩), .agg #[.int .i64 vep, .slice vA vns.length vc]] V fun e w' => e = .returned (.tuple #[]) ∧ Wr0 w w' w.heap.size (chainB kep kns ++ balB pr pn ++ yesB true ++ balB ar an ++ chainB vep vns)) := fun V h => w0chain h vep vA vc vns hmv hv.1 (hv.sl.stay (by obtain ⟨_, _, h5, _⟩ := h; exact h5)) (by simp only [List.length_append]; omega)
  have C6 : Hid (∀ V, Wr0 w V w.heap.size (chainB kep kns ++ balB pr pn ++ yesB true ++ balB ar an ++ chainB vep vns) → Calls Try.prog 74 #[.pointer (some ⟨w.heap.size, 0, none⟩)] V fun e w' => ∃ A c, e = .returned (.slice A (chainB kep kns ++ balB pr pn ++ yesB true ++ balB ar an ++ chainB vep vns).length c) ∧ Sl u8 w' A (chainB kep kns ++ balB pr pn ++ yesB true ++ balB ar an ++ chainB vep vns) ∧ Ext w w') := fun V h => w0bytes h (by simp only [List.length_append]; omega)
  have KB : Hid (Blk w a 93 #[.int .i64 n, .int .i64 kep, .slice kA kns.length kc, .int .i64 pr, .int .i64 pn, .int .i64 ar, .int .i64 an, .bool true, .int .i64 vep, .slice vA vns.length vc]) := kB
  have HE : Hid (∀ A c w', Sl u8 w' A (chainB kep kns ++ balB pr pn ++ yesB true ++ balB ar an ++ chainB vep vns) → Ext w w' → D (.returned (.slice A (chainB kep kns ++ balB pr pn ++ yesB true ++ balB ar an ++ chainB vep vns).length c)) w') := fun A c w' h1 h2 => hD.out _ _ ⟨A, c, rfl, h1, h2⟩
  have halt := kB.lt
  have a1' : ∀ o, (w.alloc o).cell? ⟨a, 1, none⟩ = some (.int .i64 kep) := fun o => (KB.out.stay (ext_al _ o)).cell 1
  have a2' : ∀ o, (w.alloc o).cell? ⟨a, 2, none⟩ = some (.slice kA kns.length kc) := fun o => (KB.out.stay (ext_al _ o)).cell 2
  have a3' : ∀ o, (w.alloc o).cell? ⟨a, 3, none⟩ = some (.int .i64 pr) := fun o => (KB.out.stay (ext_al _ o)).cell 3
  have a4' : ∀ o, (w.alloc o).cell? ⟨a, 4, none⟩ = some (.int .i64 pn) := fun o => (KB.out.stay (ext_al _ o)).cell 4
  have a5' : ∀ o, (w.alloc o).cell? ⟨a, 5, none⟩ = some (.int .i64 ar) := fun o => (KB.out.stay (ext_al _ o)).cell 5
  have a6' : ∀ o, (w.alloc o).cell? ⟨a, 6, none⟩ = some (.int .i64 an) := fun o => (KB.out.stay (ext_al _ o)).cell 6
  have a7' : ∀ o, (w.alloc o).cell? ⟨a, 7, none⟩ = some (.bool true) := fun o => (KB.out.stay (ext_al _ o)).cell 7
  have a8' : ∀ o, (w.alloc o).cell? ⟨a, 8, none⟩ = some (.int .i64 vep) := fun o => (KB.out.stay (ext_al _ o)).cell 8
  have a9' : ∀ o, (w.alloc o).cell? ⟨a, 9, none⟩ = some (.slice vA vns.length vc) := fun o => (KB.out.stay (ext_al _ o)).cell 9
  have HW := Lib.hid hw0
  clear hH kB hk hv hmk hmb l1 l2 l3 hy hmv l4 l5 hb0 hw0 K hD
  generalize (chainB kep kns ++ balB pr pn ++ yesB true ++ balB ar an ++ chainB vep vns) = D5 at *
  generalize (chainB kep kns ++ balB pr pn ++ yesB true ++ balB ar an) = D4 at *
  generalize (chainB kep kns ++ balB pr pn ++ yesB true) = D3 at *
  generalize (chainB kep kns ++ balB pr pn) = D2 at *
  generalize (chainB kep kns) = D1 at *
  unfold pA
  go_enter Try.func37, Try.ntmps37
  go_wp2_with (first
    | (go_at_call 71; (with_reducible refine (C5.out _ W4.out).mono ?_); rintro e w5 ⟨rfl, h⟩; have W5 := Lib.hid h; clear h)
    | (go_at_call 72; (with_reducible refine (C4.out _ W3.out).mono ?_); rintro e w4 ⟨rfl, h⟩; have W4 := Lib.hid h; have X4 : Hid (Ext w w4) := (by obtain ⟨_, _, h5, _⟩ := h; exact h5); have a1_w4 : w4.cell? ⟨a, 1, none⟩ = some (.int .i64 kep) := (KB.out.stay X4.out).cell 1; have a2_w4 : w4.cell? ⟨a, 2, none⟩ = some (.slice kA kns.length kc) := (KB.out.stay X4.out).cell 2; have a3_w4 : w4.cell? ⟨a, 3, none⟩ = some (.int .i64 pr) := (KB.out.stay X4.out).cell 3; have a4_w4 : w4.cell? ⟨a, 4, none⟩ = some (.int .i64 pn) := (KB.out.stay X4.out).cell 4; have a5_w4 : w4.cell? ⟨a, 5, none⟩ = some (.int .i64 ar) := (KB.out.stay X4.out).cell 5; have a6_w4 : w4.cell? ⟨a, 6, none⟩ = some (.int .i64 an) := (KB.out.stay X4.out).cell 6; have a7_w4 : w4.cell? ⟨a, 7, none⟩ = some (.bool true) := (KB.out.stay X4.out).cell 7; have a8_w4 : w4.cell? ⟨a, 8, none⟩ = some (.int .i64 vep) := (KB.out.stay X4.out).cell 8; have a9_w4 : w4.cell? ⟨a, 9, none⟩ = some (.slice vA vns.length vc) := (KB.out.stay X4.out).cell 9; clear h)
    | (go_at_call 73; (with_reducible refine (C3.out _ W2.out).mono ?_); rintro e w3 ⟨rfl, h⟩; have W3 := Lib.hid h; have X3 : Hid (Ext w w3) := (by obtain ⟨_, _, h5, _⟩ := h; exact h5); have a1_w3 : w3.cell? ⟨a, 1, none⟩ = some (.int .i64 kep) := (KB.out.stay X3.out).cell 1; have a2_w3 : w3.cell? ⟨a, 2, none⟩ = some (.slice kA kns.length kc) := (KB.out.stay X3.out).cell 2; have a3_w3 : w3.cell? ⟨a, 3, none⟩ = some (.int .i64 pr) := (KB.out.stay X3.out).cell 3; have a4_w3 : w3.cell? ⟨a, 4, none⟩ = some (.int .i64 pn) := (KB.out.stay X3.out).cell 4; have a5_w3 : w3.cell? ⟨a, 5, none⟩ = some (.int .i64 ar) := (KB.out.stay X3.out).cell 5; have a6_w3 : w3.cell? ⟨a, 6, none⟩ = some (.int .i64 an) := (KB.out.stay X3.out).cell 6; have a7_w3 : w3.cell? ⟨a, 7, none⟩ = some (.bool true) := (KB.out.stay X3.out).cell 7; have a8_w3 : w3.cell? ⟨a, 8, none⟩ = some (.int .i64 vep) := (KB.out.stay X3.out).cell 8; have a9_w3 : w3.cell? ⟨a, 9, none⟩ = some (.slice vA vns.length vc) := (KB.out.stay X3.out).cell 9; clear h)
    | (go_at_call 72; (with_reducible refine (C2.out _ W1.out).mono ?_); rintro e w2 ⟨rfl, h⟩; have W2 := Lib.hid h; have X2 : Hid (Ext w w2) := (by obtain ⟨_, _, h5, _⟩ := h; exact h5); have a1_w2 : w2.cell? ⟨a, 1, none⟩ = some (.int .i64 kep) := (KB.out.stay X2.out).cell 1; have a2_w2 : w2.cell? ⟨a, 2, none⟩ = some (.slice kA kns.length kc) := (KB.out.stay X2.out).cell 2; have a3_w2 : w2.cell? ⟨a, 3, none⟩ = some (.int .i64 pr) := (KB.out.stay X2.out).cell 3; have a4_w2 : w2.cell? ⟨a, 4, none⟩ = some (.int .i64 pn) := (KB.out.stay X2.out).cell 4; have a5_w2 : w2.cell? ⟨a, 5, none⟩ = some (.int .i64 ar) := (KB.out.stay X2.out).cell 5; have a6_w2 : w2.cell? ⟨a, 6, none⟩ = some (.int .i64 an) := (KB.out.stay X2.out).cell 6; have a7_w2 : w2.cell? ⟨a, 7, none⟩ = some (.bool true) := (KB.out.stay X2.out).cell 7; have a8_w2 : w2.cell? ⟨a, 8, none⟩ = some (.int .i64 vep) := (KB.out.stay X2.out).cell 8; have a9_w2 : w2.cell? ⟨a, 9, none⟩ = some (.slice vA vns.length vc) := (KB.out.stay X2.out).cell 9; clear h)
    | (go_at_call 71; rw [← HW.out]; (with_reducible refine (C1.out _ HW0.out).mono ?_); rintro e w1 ⟨rfl, h⟩; have W1 := Lib.hid h; have X1 : Hid (Ext w w1) := (by obtain ⟨_, _, h5, _⟩ := h; exact h5); have a1_w1 : w1.cell? ⟨a, 1, none⟩ = some (.int .i64 kep) := (KB.out.stay X1.out).cell 1; have a2_w1 : w1.cell? ⟨a, 2, none⟩ = some (.slice kA kns.length kc) := (KB.out.stay X1.out).cell 2; have a3_w1 : w1.cell? ⟨a, 3, none⟩ = some (.int .i64 pr) := (KB.out.stay X1.out).cell 3; have a4_w1 : w1.cell? ⟨a, 4, none⟩ = some (.int .i64 pn) := (KB.out.stay X1.out).cell 4; have a5_w1 : w1.cell? ⟨a, 5, none⟩ = some (.int .i64 ar) := (KB.out.stay X1.out).cell 5; have a6_w1 : w1.cell? ⟨a, 6, none⟩ = some (.int .i64 an) := (KB.out.stay X1.out).cell 6; have a7_w1 : w1.cell? ⟨a, 7, none⟩ = some (.bool true) := (KB.out.stay X1.out).cell 7; have a8_w1 : w1.cell? ⟨a, 8, none⟩ = some (.int .i64 vep) := (KB.out.stay X1.out).cell 8; have a9_w1 : w1.cell? ⟨a, 9, none⟩ = some (.slice vA vns.length vc) := (KB.out.stay X1.out).cell 9; clear h)
    | (go_at_call 74; (with_reducible refine (C6.out _ W5.out).mono ?_); rintro e w6 ⟨A', c', rfl, hs, hx⟩; have X6 := Lib.hid hx; have S6 := Lib.hid hs; clear hs hx))
  try go_ret
  exact HE.out _ _ _ S6.out X6.out

theorem bytesA_any (a : Nat) (v : AV) (w : World) (H : AAt w a v) (K : AOk v) :
    Calls Try.prog 37 #[pA a] w fun e w' => ∃ A c, e = .returned (.slice A (bytesA v).length c) ∧ Sl u8 w' A (bytesA v) ∧ Ext w w' := by
  obtain ⟨n, kep, kns, pr, pn, ar, an, has, vep, vns⟩ := v
  cases has
  · have := bytesA_n a n kep kns pr pn ar an vep vns w H K
    unfold bytesA
    simpa using this
  · have := bytesA_y a n kep kns pr pn ar an vep vns w H K
    unfold bytesA
    simpa using this

end Go.Proofs.Ytkdcbidbciognaa
