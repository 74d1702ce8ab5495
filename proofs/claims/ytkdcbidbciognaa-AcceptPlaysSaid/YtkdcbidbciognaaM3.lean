/-
  Walks of package pack: what a writer puts.
  Walks of package pack, further: texts, yes, all that was put; a writer that is none; a reader of bytes.
  Walks of package pack, further: all that was put; a writer that is none; a reader: made, failed.
  Walks of package pack, further: a reader takes a number, a text, a yes; its end.
  Walks of package pack, further: a reader takes a text, a yes; its end; a reader that is none.
  Walks of package pack, further: the check sum, by its table.
  The told rows of the laws of chapter 1.
  What was put as a number is read as that number; a longer form of it is none.
  Walks of the document's Num, Text, Yes: the same bytes.
  A ballot's bytes: written, read; the document's.
  The one form of a number.
  Walks of the document's reader: wrong, End, Num.
  Walks of the document's reader, further: Num.
  Walks of the document's reader, further: a text, a yes; and the program's reader answers the same.
  Walks of item.MayReq and of the reference's MayReq: which requests may be.
  A request's bytes: which bytes are a request, and of which one: plain law.
  A chain's bytes: which bytes are a chain, and of which one; the document's reader reads the same: plain law.
  A request's bytes, written: item.PutReq; numbers of a list.
  A chain's bytes, written: item.PutChain.
  A reader whose bytes stand at blocks of a set S.
  The chain of bytes: item.GetChain.
-/
import Derived.Test.YtkdcbidbciognaaM1
import Derived.Laws.BitsAllLaws
import Derived.Lib.AppendStr
import Derived.Test.YtkdcbidbciognaaM2
import Derived.Laws.Concat
namespace Go.Proofs.Ytkdcbidbciognaa
set_option linter.unusedVariables false
set_option linter.unusedSimpArgs false
open Go.RowKit

/-- a number's bytes, seven bits a byte; at most f of them -/
def numF : Nat → Nat → List UInt8
  | 0, _ => []
  | f + 1, n => if n < 128 then [UInt8.ofNat n] else UInt8.ofNat (n % 128 + 128) :: numF f (n / 128)
def numB (n : Nat) : List UInt8 := numF 10 n
theorem numF_len : ∀ (f n : Nat), (numF f n).length ≤ f
  | 0, _ => by simp [numF]
  | f + 1, n => by
    unfold numF
    split
    · simp
    · simp; exact numF_len f _

/-- a writer at block P: its bytes (in block g, if anywhere) -/
def WrAt (w : World) (base P : Nat) (l : List UInt8) (g : Option Nat) : Prop :=
  ∃ v, Blk w P 101 #[v] ∧ w.ownsRow base 5 1 v l.length (l.map u8) ∧ v.ownBlock = g

section
variable {w w' : World} {base P : Nat} {l : List UInt8} {g : Option Nat}
theorem WrAt.stay (H : WrAt w base P l g) (hb : Below w.heap.size w w') : WrAt w' base P l g := by
  obtain ⟨v, h1, h2, h3⟩ := H
  exact ⟨v, h1.stay hb, own_frm h2 (Frm.of_below hb (fun _ => False)) (fun _ _ h => h), h3⟩
theorem WrAt.frm {t : Nat → Prop} (H : WrAt w base P l g) (hf : Frm t w w') (h1 : ¬ t P) (h2 : ∀ k, g = some k → ¬ t k) : WrAt w' base P l g := by
  obtain ⟨v, h3, h4, h5⟩ := H
  exact ⟨v, h3.frm hf h1, own_frm h4 hf (fun k hk => h2 k (h5.symm.trans hk)), h5⟩
theorem WrAt.lt (H : WrAt w base P l g) : P < w.heap.size := by obtain ⟨v, h1, _⟩ := H; exact h1.lt
theorem WrAt.glt (H : WrAt w base P l g) : ∀ k, g = some k → base ≤ k ∧ k < w.heap.size ∧ k ≠ P := fun k hk => by
  obtain ⟨v, h1, h2, h3⟩ := H
  have := h2.lt k (h3.trans hk)
  exact ⟨this.1, this.2, own_type h2 h1 (by decide) k (h3.trans hk)⟩
/-- its cells, as the walk reads them -/
theorem WrAt.cells (H : WrAt w base P l g) : ∃ A cap, w.cell? ⟨P, 0, none⟩ = some (.slice A l.length cap) ∧ Sl u8 w A l ∧ w.ownsRow base 5 1 (.slice A l.length cap) l.length (l.map u8) ∧
    Value.ownBlock (.slice A l.length cap) = g ∧ l.length ≤ cap ∧ w.frozen? ⟨P, 0, none⟩ = false ∧ Blk w P 101 #[.slice A l.length cap] := by
  obtain ⟨v, h1, h2, h3⟩ := H
  obtain ⟨A, cap, rfl, hs⟩ := own_view h2
  refine ⟨A, cap, h1.cell 0, hs, h2, h3, ?_, h1.frozen 0, h1⟩
  rcases h2.2 with ⟨e, hn⟩ | ⟨g', cap', cur, e, _, _, hc, _⟩
  · omega
  · injection e with _ _ e; omega
/-- what a writer's call leaves: only P and its own bytes have turned, its bytes lie where they lay or in a new block -/
def WrTo (w w' : World) (base P : Nat) (l : List UInt8) (g : Option Nat) : Prop :=
  ∃ g', WrAt w' base P l g' ∧ Frm (fun k => k = P ∨ some k = g) w w' ∧ (g' = g ∨ ∃ k, g' = some k ∧ w.heap.size ≤ k)
theorem WrTo.refl (H : WrAt w base P l g) : WrTo w w base P l g := ⟨g, H, Frm.refl _ _, .inl rfl⟩
theorem WrTo.trans {w1 : World} {l1 l2 : List UInt8} {g1 : Option Nat} (h : WrAt w1 base P l1 g1 ∧ Frm (fun k => k = P ∨ some k = g) w w1 ∧ (g1 = g ∨ ∃ k, g1 = some k ∧ w.heap.size ≤ k)) (h' : WrTo w1 w' base P l2 g1) : WrTo w w' base P l2 g := by
  obtain ⟨h1, h2, h3⟩ := h
  obtain ⟨g2, h4, h5, h6⟩ := h'
  refine ⟨g2, h4, h2.trans h5 (fun k hk hs => ?_), ?_⟩
  · rcases hs with hs | hs
    · exact .inl hs
    · rcases h3 with h3 | ⟨k', h3, hk'⟩
      · exact .inr (hs.trans h3)
      · rw [h3] at hs; injection hs with hs; omega
  · rcases h6 with h6 | ⟨k, h6, hk⟩
    · rcases h3 with h3 | ⟨k, h3, hk⟩
      · exact .inl (h6.trans h3)
      · exact .inr ⟨k, h6.trans h3, hk⟩
    · exact .inr ⟨k, h6, by have := h2.size; omega⟩
/-- one byte more: laid, appended, put back -/
theorem WrAt.push (H : WrAt w base P l g) {A : Option Addr} {cap : Nat} (hc : w.cell? ⟨P, 0, none⟩ = some (.slice A l.length cap)) (x : UInt8) {W : World} {A' : Option Addr} {cap' : Nat}
    (hg : (w.alloc (.cells #[u8 x] 5)).grownBy W g)
    (ho : W.ownsRow base 5 1 (.slice A' (l.length + 1) cap') (l.length + 1) (l.map u8 ++ [u8 x])) (hor : (Value.slice A' (l.length + 1) cap').ownBlock = g ∨ ∃ k, (Value.slice A' (l.length + 1) cap').ownBlock = some k ∧ w.heap.size ≤ k) :
    Blk W P 101 #[.slice A l.length cap] ∧ WrTo w (W.setCell ⟨P, 0, none⟩ (.slice A' (l.length + 1) cap')) base P (l ++ [x]) g := by
  obtain ⟨v, h1, h2, h3⟩ := H
  have hv : v = .slice A l.length cap := by
    have := h1.cell 0
    rw [hc] at this
    simpa using this.symm
  subst hv
  have hne : some P ≠ g := fun e => own_type h2 h1 (by decide) P (h3.trans e.symm) rfl
  have hB1 := (h1.alloc (.cells #[u8 x] 5)).grown hg hne
  refine ⟨hB1, (Value.slice A' (l.length + 1) cap').ownBlock, ⟨.slice A' (l.length + 1) cap', ?_, ?_, rfl⟩, ?_, hor⟩
  · have := hB1.set 0 (.slice A' (l.length + 1) cap'); simpa using this
  · have k1' : W.ownsRow base 5 1 (.slice A' (l.length + 1) cap') (l ++ [x]).length ((l ++ [x]).map u8) := by simpa using ho
    exact own_frm k1' (Frm.of_set (s := fun k => k = P) W ⟨P, 0, none⟩ _ rfl) (own_type k1' hB1 (by decide))
  · exact Frm.tr (Frm.tr (Frm.of_alloc _ _ _) (Frm.of_grown hg (fun k hk => .inr hk))) (Frm.of_set _ _ _ (.inl rfl))
end

theorem or_all : ∀ n : Fin 256, bits BinOp.or IntKind.u8 (n.val : Int) 128 = ((n.val % 128 + 128 : Nat) : Int) := by decide +kernel
theorem or128 (x : Nat) : bits BinOp.or IntKind.u8 ((x : Int) % 256) 128 = ((UInt8.ofNat (x % 128 + 128)).toNat : Int) := by
  have h := or_all ⟨x % 256, by omega⟩
  simp only at h
  rw [show ((x : Int) % 256) = ((x % 256 : Nat) : Int) by omega, h, UInt8.toNat_ofNat']
  omega

set_option maxRecDepth 8000 in
set_option maxHeartbeats 4000000 in
theorem numW_any (base P : Nat) (l : List UInt8) (g : Option Nat) (v : Nat) (w : World) (H : WrAt w base P l g) (hv : v < 18446744073709551616) (hl : l.length ≤ 1000000000) (hb : base ≤ w.heap.size) :
    Calls Try.prog 93 #[.pointer (some ⟨P, 0, none⟩), .int .u64 v] w fun e w' => e = .returned (.tuple #[]) ∧ WrTo w w' base P (l ++ numB v) g := by
  refine hide_post fun D hD => ?_
  have H0 := Lib.hid H
  have HV : Hid (v < 128 ^ 10) := by (show _ < _); omega
  clear H hv
  go_enter Try.func93, Try.ntmps93
  go_wp2
  go_loopw [1] (fun i wr => ∃ (x f : Nat) (d : List UInt8) (g1 : Option Nat), x ≤ v ∧ i = .int .u64 x ∧ Hid (numB v = d ++ numF (f + 1) x ∧ x < 128 ^ (f + 1) ∧ d.length + f = 9) ∧ Hid (WrAt wr base P (l ++ d) g1 ∧ Frm (fun k => k = P ∨ some k = g) w wr ∧ (g1 = g ∨ ∃ k, g1 = some k ∧ w.heap.size ≤ k))) (fun i _ => (intOf i).toNat)
  case atStart => exact ⟨v, 9, [], g, Nat.le_refl _, rfl, ⟨rfl, HV.out, rfl⟩, by (show WrAt _ _ _ _ _ ∧ _); rw [List.append_nil]; exact ⟨H0.out, Frm.refl _ _, .inl rfl⟩⟩
  case round =>
    obtain ⟨x, f, d, g1, hx, rfl, HN, HW⟩ := hrel
    obtain ⟨A, cap, c0, hs, ho, hob, hcap, fz, kB⟩ := HW.out.1.cells
    have HLN : Hid ((l ++ d).length ≤ 1000000009) := by (show _ ≤ _); rw [List.length_append]; have := HN.out.2.2; omega
    obtain ⟨L, hL⟩ : ∃ L, L = l ++ d := ⟨_, rfl⟩
    rw [← hL] at c0 hs ho hob hcap kB HLN
    have HO := Lib.hid ho
    have HP : Hid (∀ (y : UInt8) W A' c', W.ownsRow base 5 1 (.slice A' (L.length + 1) c') (L.length + 1) (L.map Go.Proofs.Ytkdcbidbciognaa.u8 ++ [Go.Proofs.Ytkdcbidbciognaa.u8 y]) → (wr.alloc (.cells #[Go.Proofs.Ytkdcbidbciognaa.u8 y] 5)).grownBy W (Value.slice A L.length cap).ownBlock → ((Value.slice A' (L.length + 1) c').ownBlock = (Value.slice A L.length cap).ownBlock ∨ ∃ k, (Value.slice A' (L.length + 1) c').ownBlock = some k ∧ (wr.alloc (.cells #[Go.Proofs.Ytkdcbidbciognaa.u8 y] 5)).heap.size ≤ k) →
        Blk W P 101 #[.slice A L.length cap] ∧ WrTo w (W.setCell ⟨P, 0, none⟩ (.slice A' (L.length + 1) c')) base P (l ++ (d ++ [y])) g) := fun y W A' c' h1 h2 h3 => by
      rw [hob] at h2 h3
      have hw := HW.out.1
      rw [← hL] at hw
      obtain ⟨k1, k2⟩ := hw.push c0 y h2 h1 (h3.imp id (fun ⟨k, e, hk⟩ => ⟨k, e, by simp at hk; omega⟩))
      refine ⟨k1, ?_⟩
      have e : l ++ (d ++ [y]) = L ++ [y] := by rw [hL, List.append_assoc]
      rw [e]
      exact WrTo.trans HW.out k2
    have hbz : base ≤ wr.heap.size := Nat.le_trans hb HW.out.2.1.size
    have hN1 : L.length + 1 ≤ 2000000000 := by have := HLN.out; omega
    clear hs ho hob hcap kB hL HLN HW
    by_cases hlt : 128 ≤ x
    · have HY := Lib.hid (or128 x)
      have HN2 : Hid (numB v = (d ++ [UInt8.ofNat (x % 128 + 128)]) ++ numF f (x / 128) ∧ x / 128 < 128 ^ f ∧ d.length + f = 9 ∧ 1 ≤ f) := by
        obtain ⟨e1, e2, e3⟩ := HN.out
        have hf : 1 ≤ f := by
          rcases Nat.eq_zero_or_pos f with h | h
          · subst h; omega
          · exact h
        refine ⟨by rw [e1, numF, if_neg (by omega)]; simp, ?_, e3, hf⟩
        rw [Nat.pow_succ] at e2
        exact Nat.div_lt_of_lt_mul (by rw [Nat.mul_comm]; exact e2)
      generalize UInt8.ofNat (x % 128 + 128) = y at *
      have hy := HY.out
      clear HN
      go_wp2_with (at_builtin; refine wpList_append_list rfl _ _ 72 rfl base 5 (.int .u8 0) 1 Try.underlying72 info_byte rfl (by omega) (.slice A L.length cap) L.length (L.map Go.Proofs.Ytkdcbidbciognaa.u8) rfl (HO.out.alloc _) Go.Proofs.Ytkdcbidbciognaa.u8 (some ⟨wr.heap.size, 0, none⟩) [y] 1 1 rfl rfl (Sl.of_blk (Blk.new wr 5 #[Go.Proofs.Ytkdcbidbciognaa.u8 y]) (fun j v hj => by match j, hj with | 0, hj => (simp at hj; subst hj; rfl))) (fun _ => rfl) (by simp; omega) (by simp; omega) ?_; intro v' W h1 h2 h3; obtain ⟨A', c', rfl⟩ := own_shape h1; obtain ⟨hB, hT⟩ := HP.out y W A' c' h1 h2 h3; have q0 := hB.cell 0; have q1 := hB.frozen 0; simp at q0; have HT := Lib.hid hT; clear hB hT h1 h2 h3)
      obtain ⟨g2, k1, k2, k3⟩ := HT.out
      obtain ⟨f', hf'⟩ : ∃ f', f = f' + 1 := ⟨f - 1, by have := HN2.out.2.2.2; omega⟩
      subst hf'
      have HW2 := Lib.hid (And.intro k1 (And.intro k2 k3))
      go_roundw
      case rel => exact ⟨x / 128, f', d ++ [y], g2, by omega, by go_num, ⟨HN2.out.1, HN2.out.2.1, by have := HN2.out.2.2.1; simp; omega⟩, HW2.out⟩
      case measure => simp [intOf]; omega
    · obtain ⟨y, rfl⟩ : ∃ y : UInt8, x = y.toNat := ⟨UInt8.ofNat x, by rw [UInt8.toNat_ofNat']; omega⟩
      have HN2 : Hid (numB v = d ++ [y]) := by
        show _ = _
        rw [HN.out.1, numF, if_pos (by omega), UInt8.ofNat_toNat]
      clear HN
      go_wp2_with (at_builtin; refine wpList_append_list rfl _ _ 72 rfl base 5 (.int .u8 0) 1 Try.underlying72 info_byte rfl (by omega) (.slice A L.length cap) L.length (L.map Go.Proofs.Ytkdcbidbciognaa.u8) rfl (HO.out.alloc _) Go.Proofs.Ytkdcbidbciognaa.u8 (some ⟨wr.heap.size, 0, none⟩) [y] 1 1 rfl rfl (Sl.of_blk (Blk.new wr 5 #[Go.Proofs.Ytkdcbidbciognaa.u8 y]) (fun j v hj => by match j, hj with | 0, hj => (simp at hj; subst hj; rfl))) (fun _ => rfl) (by simp; omega) (by simp; omega) ?_; intro v' W h1 h2 h3; obtain ⟨A', c', rfl⟩ := own_shape h1; obtain ⟨hB, hT⟩ := HP.out y W A' c' h1 h2 h3; have q0 := hB.cell 0; have q1 := hB.frozen 0; simp at q0; have HT := Lib.hid hT; clear hB hT h1 h2 h3)
      go_end0
      exact hD.out _ _ ⟨rfl, by rw [HN2.out]; exact HT.out⟩
end Go.Proofs.Ytkdcbidbciognaa

namespace Go.Proofs.Ytkdcbidbciognaa
set_option linter.unusedVariables false
set_option linter.unusedSimpArgs false
open Go.RowKit

section
variable {P : Program} {w : World} {ops : Array Oper} {rest : List Oper} {o : Oper} {a : Act} {Q : Exit → Act → World → Prop}
/-- append of a string's bytes onto a slice of the call's own: what it comes to, and where it lies -/
theorem run_append_str (base : Nat) (t u ty e : TypeId) (ht : P.underlying t = some (.slice e)) (hu : P.underlying u = some .string) (hinfo : (P.info? e).map (fun i => (i.zero, i.size, i.bytes)) = some (some (.int .u8 0), 1, 1))
    (v : Value) (n : Nat) (xs : List Value) (hown : w.ownsRow base e 1 v n xs) (s : ByteArray) (hn : n + s.size ≤ 2000000000000) (hbase : base ≤ w.heap.size) :
    ∃ v' w', (Builtin.append_ #[t, u] ty #[v, .string s]).run P w = .ok v' w' ∧ w'.ownsRow base e 1 v' (n + s.size) (xs ++ s.data.toList.map u8) ∧ w.grownBy w' v.ownBlock ∧
      (v'.ownBlock = v.ownBlock ∨ ∃ k, v'.ownBlock = some k ∧ w.heap.size ≤ k) := by
  obtain ⟨i0, hi, hz0, hz1, hz2⟩ := info_parts hinfo
  have h63 : n + s.size ≤ maxLen := by unfold maxLen; omega
  have h48 : n + s.size ≤ 140737488355328 := by omega
  rcases hown.2 with ⟨rfl, rfl⟩ | ⟨g, cap, cur, rfl, hbg, hg, hnc, hcm, hcs, htake⟩
  · have hx : xs = [] := List.eq_nil_of_length_eq_zero (by simpa using hown.1)
    subst hx
    obtain ⟨v', w', hr, h2, h3, _⟩ := Lib.run_append_own_string (P := P) w w.heap.size t u ty e i0 ht hu hi hz0 hz1 hz2 (.slice none 0 0) 0 [] (World.ownsRow_nil _ _ _ _) s h63 h48 (Nat.le_refl _)
    refine ⟨v', w', hr, own_base h2 (fun k hk => by have := (h2.lt k hk).1; omega), h3, ?_⟩
    cases hk : v'.ownBlock with
    | none => exact .inl rfl
    | some k => exact .inr ⟨k, rfl, (h2.lt k hk).1⟩
  · obtain ⟨v', w', hr, h2, h3, _⟩ := Lib.run_append_own_string (P := P) w base t u ty e i0 ht hu hi hz0 hz1 hz2 (.slice (some ⟨g, 0, none⟩) n cap) n xs hown s h63 h48 hbase
    refine ⟨v', w', hr, h2, h3, ?_⟩
    by_cases hroom : n + s.size ≤ cap
    · have hr2 := Lib.run_append_room_string (P := P) w t u ty e i0 ht hu hi hz1 g n cap cur hg s hroom (by simp at hcs; omega)
      rw [hr] at hr2
      injection hr2 with e1 e2
      exact .inl (by rw [e1]; rfl)
    · have hr2 := Lib.run_append_grow_string (P := P) w t u ty e i0 (.int .u8 0) ht hu hi hz0 ⟨g, 0, none⟩ n cap xs (by rw [hz1]; simpa using hown.1) (hown.cells (g := g) rfl) s (by omega) (by omega) (by rw [hz2]; exact growslice_fits (by omega) (by omega))
      rw [hr] at hr2
      injection hr2 with e1 e2
      exact .inr ⟨w.heap.size, by rw [e1]; rfl, Nat.le_refl _⟩
theorem wpList_append_str (hgd : o.guard = none) (s x : Operand) (t u : TypeId)
    (ho : o.op = .call { callee := .builtin .append, args := #[s, x], argTypes := #[t, u] })
    (base : Nat) (e : TypeId) (ht : P.underlying t = some (.slice e)) (hu : P.underlying u = some .string) (hinfo : (P.info? e).map (fun i => (i.zero, i.size, i.bytes)) = some (some (.int .u8 0), 1, 1))
    (v : Value) (n : Nat) (xs : List Value) (hs : a.eval s = v) (hown : w.ownsRow base e 1 v n xs) (str : ByteArray) (hx : a.eval x = .string str)
    (hn : n + str.size ≤ 2000000000000) (hbase : base ≤ w.heap.size)
    (h : ∀ v' w', w'.ownsRow base e 1 v' (n + str.size) (xs ++ str.data.toList.map u8) → w.grownBy w' v.ownBlock → (v'.ownBlock = v.ownBlock ∨ ∃ k, v'.ownBlock = some k ∧ w.heap.size ≤ k) → wpList P ops Q rest (a.put o.dst v') w') :
    wpList P ops Q (o :: rest) a w := by
  refine wpList_plain hgd fun K hK => ?_
  obtain ⟨v', w', hr, h2, h3, h4⟩ := run_append_str (P := P) base t u o.type e ht hu hinfo v n xs hown str hn hbase
  unfold Oper.wp execOp
  simp only [ho, resolve, invoke, builtin, Sem.run_bind, Sem.run_pure, Result.andThen_ok, List.map_toArray, List.map_cons, List.map_nil, hs, hx, hr]
  exact hK _ _ (h v' w' h2 h3 h4)
end

/-- other bytes are stored -/
theorem WrAt.put {w W : World} {base P : Nat} {l l' : List UInt8} {g : Option Nat} (H : WrAt w base P l g) (hg : w.grownBy W g) {v' : Value} (ho : W.ownsRow base 5 1 v' l'.length (l'.map u8)) (hor : v'.ownBlock = g ∨ ∃ k, v'.ownBlock = some k ∧ w.heap.size ≤ k) :
    (∃ v, Blk W P 101 #[v] ∧ w.cell? ⟨P, 0, none⟩ = some v) ∧ WrTo w (W.setCell ⟨P, 0, none⟩ v') base P l' g := by
  obtain ⟨v, h1, h2, h3⟩ := H
  have hne : some P ≠ g := fun e => own_type h2 h1 (by decide) P (h3.trans e.symm) rfl
  have hB1 := h1.grown hg hne
  refine ⟨⟨v, hB1, h1.cell 0⟩, v'.ownBlock, ⟨v', by have := hB1.set 0 v'; simpa using this, own_frm ho (Frm.of_set (s := fun k => k = P) W ⟨P, 0, none⟩ _ rfl) (own_type ho hB1 (by decide)), rfl⟩, ?_, hor⟩
  exact Frm.tr (Frm.of_grown hg (fun k hk => .inr hk)) (Frm.of_set _ _ _ (.inl rfl))

def textB (s : ByteArray) : List UInt8 := numB s.size ++ s.data.toList
def yesB (b : Bool) : List UInt8 := if b then [1] else [0]

set_option maxRecDepth 8000 in
theorem yesW_any (base P : Nat) (l : List UInt8) (g : Option Nat) (b : Bool) (w : World) (H : WrAt w base P l g) (hl : l.length ≤ 1000000000) (hb : base ≤ w.heap.size) :
    Calls Try.prog 73 #[.pointer (some ⟨P, 0, none⟩), .bool b] w fun e w' => e = .returned (.tuple #[]) ∧ WrTo w w' base P (l ++ yesB b) g := by
  cases b
  · have HC : Hid (Calls Try.prog 93 #[.pointer (some ⟨P, 0, none⟩), .int .u64 0] w fun e w' => e = .returned (.tuple #[]) ∧ WrTo w w' base P (l ++ numB 0) g) := numW_any base P l g 0 w H (by omega) hl hb
    clear H
    refine hide_post fun D hD => ?_
    go_enter Try.func73, Try.ntmps73
    go_wp2_with (go_at_call 93; (with_reducible refine HC.out.mono ?_); rintro e w1 ⟨rfl, hx⟩; have HX := Lib.hid hx; clear hx)
    go_end0
    exact hD.out _ _ ⟨rfl, HX.out⟩
  · have HC : Hid (Calls Try.prog 93 #[.pointer (some ⟨P, 0, none⟩), .int .u64 1] w fun e w' => e = .returned (.tuple #[]) ∧ WrTo w w' base P (l ++ numB 1) g) := numW_any base P l g 1 w H (by omega) hl hb
    clear H
    refine hide_post fun D hD => ?_
    go_enter Try.func73, Try.ntmps73
    go_wp2_with (go_at_call 93; (with_reducible refine HC.out.mono ?_); rintro e w1 ⟨rfl, hx⟩; have HX := Lib.hid hx; clear hx)
    go_end0
    exact hD.out _ _ ⟨rfl, HX.out⟩

set_option maxRecDepth 8000 in
theorem textW_any (base P : Nat) (l : List UInt8) (g : Option Nat) (s : ByteArray) (w : World) (H : WrAt w base P l g) (hs : s.size ≤ 1000000000) (hl : l.length ≤ 1000000000) (hb : base ≤ w.heap.size) :
    Calls Try.prog 92 #[.pointer (some ⟨P, 0, none⟩), .string s] w fun e w' => e = .returned (.tuple #[]) ∧ WrTo w w' base P (l ++ textB s) g := by
  have HC : Hid (Calls Try.prog 93 #[.pointer (some ⟨P, 0, none⟩), .int .u64 (s.size : Int)] w fun e w' => e = .returned (.tuple #[]) ∧ WrTo w w' base P (l ++ numB s.size) g) := numW_any base P l g s.size w H (by omega) hl hb
  have hnl := numF_len 10 s.size
  have HNL : Hid ((l ++ numB s.size).length ≤ 1000000010) := by (show _ ≤ _); rw [List.length_append]; unfold numB; omega
  have hst : s.data.toList.length = s.size := by rw [Array.length_toList]; rfl
  have HST := Lib.hid hst
  clear H hnl hst
  refine hide_post fun D hD => ?_
  go_enter Try.func92, Try.ntmps92
  go_wp2_with fail
  go_at_call 93
  with_reducible refine HC.out.mono ?_
  rintro e w1 ⟨rfl, hx⟩
  have HX := Lib.hid hx
  clear hx
  obtain ⟨g1, h1, h2, h3⟩ := HX.out
  obtain ⟨A, cap, c0, hsl, ho, hob, hcap, fz, kB⟩ := h1.cells
  obtain ⟨L, hL⟩ : ∃ L, L = l ++ numB s.size := ⟨_, rfl⟩
  rw [← hL] at h1 c0 ho hob HNL
  have HO := Lib.hid ho
  have hbz : base ≤ w1.heap.size := Nat.le_trans hb h2.size
  have hN1 : L.length + s.size ≤ 3000000000 := by have := HNL.out; omega
  have HP : Hid (∀ W v', W.ownsRow base 5 1 v' (L.length + s.size) (L.map u8 ++ s.data.toList.map u8) → w1.grownBy W (Value.slice A L.length cap).ownBlock → (v'.ownBlock = (Value.slice A L.length cap).ownBlock ∨ ∃ k, v'.ownBlock = some k ∧ w1.heap.size ≤ k) →
      Blk W P 101 #[.slice A L.length cap] ∧ WrTo w (W.setCell ⟨P, 0, none⟩ v') base P (l ++ textB s) g) := fun W v' k1 k2 k3 => by
    rw [hob] at k2 k3
    have k4 : W.ownsRow base 5 1 v' (L ++ s.data.toList).length ((L ++ s.data.toList).map u8) := by rw [List.length_append, HST.out, List.map_append]; exact k1
    obtain ⟨⟨v, q1, q2⟩, q3⟩ := h1.put k2 k4 k3
    rw [c0] at q2
    injection q2 with q2
    subst q2
    refine ⟨q1, ?_⟩
    have e : l ++ textB s = L ++ s.data.toList := by rw [hL, textB, List.append_assoc]
    rw [e]
    exact WrTo.trans (by rw [hL] at h1; exact ⟨h1, h2, h3⟩) q3
  clear HX h1 h2 h3 hsl ho hob hcap kB hL HNL
  go_wp2_with (at_builtin; refine wpList_append_str rfl _ _ 72 9 rfl base 5 Try.underlying72 Try.underlying9 info_byte (.slice A L.length cap) L.length (L.map u8) rfl HO.out s rfl (by omega) hbz ?_; intro v' W k1 k2 k3; obtain ⟨A', c', rfl⟩ := own_shape k1; obtain ⟨hB, hT⟩ := HP.out W _ k1 k2 k3; have q0 := hB.cell 0; have q1 := hB.frozen 0; simp at q0; have HT := Lib.hid hT; clear hB hT k1 k2 k3)
  go_end0
  exact hD.out _ _ ⟨rfl, HT.out⟩
end Go.Proofs.Ytkdcbidbciognaa

namespace Go.Proofs.Ytkdcbidbciognaa
set_option linter.unusedVariables false
set_option linter.unusedSimpArgs false
open Go.RowKit

theorem numW_nil (v : Int) (w : World) : Calls Try.prog 93 #[.pointer none, .int .u64 v] w fun e w' => e = .returned (.tuple #[]) ∧ w = w' := by
  go_enter Try.func93, Try.ntmps93
  go_wp2
  refine bodyPost_ret (results_none rfl _ _ _) rfl ?_
  exact ⟨rfl, rfl⟩
theorem textW_nil (s : ByteArray) (w : World) : Calls Try.prog 92 #[.pointer none, .string s] w fun e w' => e = .returned (.tuple #[]) ∧ w = w' := by
  go_enter Try.func92, Try.ntmps92
  go_wp2
  go_end0
  exact ⟨rfl, rfl⟩
theorem yesW_nil (b : Bool) (w : World) : Calls Try.prog 73 #[.pointer none, .bool b] w fun e w' => e = .returned (.tuple #[]) ∧ w = w' := by
  cases b
  all_goals
    go_enter Try.func73, Try.ntmps73
    go_wp2_with (go_at_call 93; (with_reducible refine (numW_nil _ _).mono ?_); rintro e w1 ⟨rfl, rfl⟩)
    go_end0
    exact ⟨rfl, rfl⟩
theorem bytes_nil (w : World) : Calls Try.prog 74 #[.pointer none] w fun e w' => e = .returned (.slice none 0 0) ∧ w = w' := by
  go_enter Try.func74, Try.ntmps74
  go_wp2
  go_ret
  exact ⟨rfl, rfl⟩

set_option maxRecDepth 8000 in
theorem bytes_any (base P : Nat) (l : List UInt8) (g : Option Nat) (w : World) (H : WrAt w base P l g) (hl : l.length ≤ 1000000000) :
    Calls Try.prog 74 #[.pointer (some ⟨P, 0, none⟩)] w fun e w' => ∃ A cap, e = .returned (.slice A l.length cap) ∧ w'.ownsRow w.heap.size 5 1 (.slice A l.length cap) l.length (l.map u8) ∧ Ext w w' := by
  refine hide_post fun D hD => ?_
  obtain ⟨A, cap, c0, hs, ho, hob, hcap, fz, kB⟩ := H.cells
  have c1 : ∀ o, (w.alloc o).cell? ⟨P, 0, none⟩ = some (.slice A l.length cap) := fun o => (kB.alloc o).cell 0
  have hm := Lib.hid (World.ownsRow_made (base := w.heap.size) (e := 5) (size := 1) w #[] 0 (Nat.le_refl _) (Nat.zero_le _) rfl)
  have HS : Hid (Sl u8 (w.alloc (.cells #[] 5)) A l) := hs.stay (Ext.alloc _ _)
  have hD' : Hid (∀ v w', w'.ownsRow w.heap.size 5 1 v (0 + l.length) ([] ++ l.map u8) → (w.alloc (.cells #[] 5)).grownBy w' (some w.heap.size) → D (.returned v) w') := fun v w' h1 h2 => by
    obtain ⟨A', c', rfl⟩ := own_shape h1
    have h1' : w'.ownsRow w.heap.size 5 1 (.slice A' (0 + l.length) c') l.length (l.map u8) := by simpa using h1
    rw [Nat.zero_add] at h1' ⊢
    exact hD.out _ _ ⟨A', c', rfl, h1', ((Below.refl _ _).alloc (Nat.le_refl _) _).grown h2 (by simp) (fun k hk => by injection hk with hk; omega)⟩
  clear hs ho hob hcap kB H hD c0 fz
  go_enter Try.func74, Try.ntmps74
  go_wp2_with (at_builtin; refine wpList_append_list rfl _ _ 72 rfl w.heap.size 5 (.int .u8 0) 1 Try.underlying72 info_byte rfl (by omega) (.slice (some ⟨w.heap.size, 0, none⟩) 0 0) 0 [] rfl hm.out u8 A l l.length cap rfl rfl HS.out (fun _ => rfl) (by omega) (by simp) ?_; intro v' w' h1 h2 h3; have H1 := Lib.hid h1; have H2 := Lib.hid h2; clear h1 h2 h3)
  try go_ret
  exact hD'.out _ _ H1.out H2.out

/-- a reader at block P: what it has still to take, and whether it is wrong -/
def RdAt (w : World) (P : Nat) (l : List UInt8) (bad : Bool) : Prop :=
  ∃ A cap, Blk w P 125 #[.slice A l.length cap, .bool bad] ∧ Sl u8 w A l ∧ l.length ≤ cap ∧ ∀ a, A = some a → ∃ b o, a = ⟨b, o, none⟩ ∧ b ≠ P
section
variable {w w' : World} {P : Nat} {l : List UInt8} {b : Bool}
theorem RdAt.stay (H : RdAt w P l b) (hx : Below w.heap.size w w') : RdAt w' P l b := by
  obtain ⟨A, cap, h1, h2, h3, h4⟩ := H
  exact ⟨A, cap, h1.stay hx, h2.stay hx, h3, h4⟩
theorem RdAt.lt (H : RdAt w P l b) : P < w.heap.size := by obtain ⟨A, cap, h1, _⟩ := H; exact h1.lt
theorem Sl.frm' {α : Type} {f : α → Value} {s : Nat → Prop} {A : Option Addr} {l : List α} (h : Sl f w A l) (hf : Frm s w w') (hg : ∀ a, A = some a → ¬ s a.block) : Sl f w' A l := by
  rcases A with _ | a
  · intro j v hj
    obtain ⟨b, o, e, _⟩ := h j v hj
    cases e
  · exact Sl.frm h hf (hg a rfl)
end

set_option maxRecDepth 8000 in
theorem new_any (A : Option Addr) (cap : Nat) (l : List UInt8) (w : World) (hs : Sl u8 w A l) (hl : l.length ≤ 1000000000) :
    Calls Try.prog 75 #[.slice A l.length cap] w fun e w' => ∃ P, e = .returned (.pointer (some ⟨P, 0, none⟩)) ∧ RdAt w' P l false ∧ Ext w w' ∧ w.heap.size ≤ P := by
  refine hide_post fun D hD => ?_
  have hm := Lib.hid (World.ownsRow_made (base := w.heap.size) (e := 5) (size := 1) w #[] 0 (Nat.le_refl _) (Nat.zero_le _) rfl)
  have HS : Hid (Sl u8 (w.alloc (.cells #[] 5)) A l) := hs.stay (Ext.alloc _ _)
  have hD' : Hid (∀ A' c' w', w'.ownsRow w.heap.size 5 1 (.slice A' l.length c') l.length (l.map u8) → (w.alloc (.cells #[] 5)).grownBy w' (some w.heap.size) → D (.returned (.pointer (some ⟨w'.heap.size, 0, none⟩))) (w'.alloc (.cells #[.slice A' l.length c', .bool false] 125))) := fun A' c' w' h1 h2 => by
    have hx : Ext w w' := ((Below.refl _ _).alloc (Nat.le_refl _) _).grown h2 (by simp) (fun k hk => by injection hk with hk; omega)
    have hsl : Sl u8 w' A' l := by
      obtain ⟨A2, c2, e, h⟩ := own_view h1
      injection e with e1 e2 e3
      subst e1
      exact h
    have hc : l.length ≤ c' := by
      rcases h1.2 with ⟨e, hn⟩ | ⟨g, c, cur, e, _, _, k1, _⟩
      · injection e with e1 e2 e3; omega
      · injection e with e1 e2 e3; omega
    exact hD.out _ _ ⟨w'.heap.size, rfl, ⟨A', c', Blk.new _ _ _, hsl.stay (Ext.alloc _ _), hc, fun a ha => by
      subst ha
      have h5 := (h1.lt a.block rfl).2
      rcases h1.2 with ⟨e, hn⟩ | ⟨g, c, cur, e, _⟩
      · cases e
      · injection e with e1 e2 e3
        injection e1 with e1
        subst e1
        exact ⟨g, 0, rfl, by simp at h5; omega⟩⟩, Ext.trans hx (Ext.alloc _ _), hx.size⟩
  clear hs hD
  go_enter Try.func75, Try.ntmps75
  go_wp2_with (at_builtin; refine wpList_append_list rfl _ _ 72 rfl w.heap.size 5 (.int .u8 0) 1 Try.underlying72 info_byte rfl (by omega) (.slice (some ⟨w.heap.size, 0, none⟩) 0 0) 0 [] rfl hm.out u8 A l l.length cap rfl rfl HS.out (fun _ => rfl) (by omega) (by simp) ?_; intro v' w' h1 h2 h3; rw [Nat.zero_add, List.nil_append] at h1; obtain ⟨A', c', rfl⟩ := own_shape h1; have H1 := Lib.hid h1; have H2 := Lib.hid h2; clear h1 h2 h3)
  try go_ret
  exact hD'.out _ _ _ H1.out H2.out

theorem fail_any (P : Nat) (l : List UInt8) (b : Bool) (w : World) (H : RdAt w P l b) :
    Calls Try.prog 95 #[.pointer (some ⟨P, 0, none⟩)] w fun e w' => e = .returned (.int .u64 0) ∧ RdAt w' P l true ∧ Frm (fun k => k = P) w w' := by
  refine hide_post fun D hD => ?_
  obtain ⟨A, cap, h1, h2, h3, h4⟩ := H
  have c1 := h1.cell 1
  have f1 := h1.frozen 1
  simp at c1
  have hE : Hid (D (.returned (.int .u64 0)) (w.setCell ⟨P, 1, none⟩ (.bool true))) := by
    have hF : Frm (fun k => k = P) w (w.setCell ⟨P, 1, none⟩ (.bool true)) := Frm.of_set _ _ _ rfl
    exact hD.out _ _ ⟨rfl, ⟨A, cap, by have := h1.set 1 (.bool true); simpa using this, h2.frm' hF (fun a ha => by obtain ⟨b, o, rfl, hb⟩ := h4 a ha; exact hb), h3, h4⟩, hF⟩
  clear h1 h2 hD
  go_enter Try.func95, Try.ntmps95
  go_wp2
  try go_ret
  exact hE.out
theorem fail_nil (w : World) : Calls Try.prog 95 #[.pointer none] w fun e w' => e = .returned (.int .u64 0) ∧ w = w' := by
  go_enter Try.func95, Try.ntmps95
  go_wp2
  go_ret
  exact ⟨rfl, rfl⟩
end Go.Proofs.Ytkdcbidbciognaa

namespace Go.Proofs.Ytkdcbidbciognaa
set_option linter.unusedVariables false
set_option linter.unusedSimpArgs false
open Go.RowKit

/-- a number that stands there, from its i-th byte on, v having come -/
def rdGo (most : Nat) : Nat → Nat → List UInt8 → Option (Nat × List UInt8)
  | _, _, [] => none
  | i, v, c :: r =>
    if i = 9 ∧ 1 < c.toNat then none
    else if 128 ≤ c.toNat then rdGo most (i + 1) (v + c.toNat % 128 * 2 ^ (7 * i)) r
    else if (c.toNat = 0 ∧ 0 < i) ∨ most < v + c.toNat % 128 * 2 ^ (7 * i) then none
    else some (v + c.toNat % 128 * 2 ^ (7 * i), r)
/-- what a reader's Num answers: the number, what is left, whether it is wrong -/
def rdNum (l : List UInt8) (bad : Bool) (most : Nat) : Nat × List UInt8 × Bool :=
  if bad then (0, l, true) else match rdGo most 0 0 l with | some (v, r) => (v, r, false) | none => (0, l, true)

theorem IntKind.wrap_u64_nat (n : Nat) (h : n < 18446744073709551616) : IntKind.u64.wrap (n : Int) = (n : Int) := by
  rw [show IntKind.u64.wrap (n : Int) = (n : Int) % 18446744073709551616 by simp [IntKind.wrap, IntKind.bits, IntKind.signed]]
  omega
theorem and_all : ∀ n : Fin 256, bits BinOp.and IntKind.u8 (n.val : Int) 127 = ((n.val % 128 : Nat) : Int) := by decide +kernel
theorem and127 (c : UInt8) : bits BinOp.and IntKind.u8 (c.toNat : Int) 127 = ((c.toNat % 128 : Nat) : Int) := and_all ⟨c.toNat, c.toNat_lt⟩

theorem sl_drop {α : Type} {f : α → Value} {w : World} {b o : Nat} {l : List α} (h : Sl f w (some ⟨b, o, none⟩) l) (k : Nat) : Sl f w (some ⟨b, o + k, none⟩) (l.drop k) := fun j v hj => by
  rw [List.getElem?_drop] at hj
  obtain ⟨b', o', e, hc⟩ := h (k + j) v hj
  injection e with e
  injection e with e1 e2
  subst e1 e2
  exact ⟨b, o + k, rfl, by rw [Nat.add_assoc]; exact hc⟩
theorem or_lt (k v m : Nat) (hm : m < 128) (hv : v < 2 ^ (7 * k)) : v + m * 2 ^ (7 * k) < 2 ^ (7 * (k + 1)) := by
  have e : 2 ^ (7 * (k + 1)) = 128 * 2 ^ (7 * k) := by rw [Nat.mul_add, Nat.pow_add]; omega
  have h : (m + 1) * 2 ^ (7 * k) ≤ 128 * 2 ^ (7 * k) := Nat.mul_le_mul_right _ (by omega)
  rw [e]
  rw [Nat.add_mul] at h
  omega
theorem or_step (k v m : Nat) (hk : k ≤ 9) (hm : m < 128) (hv : v < 2 ^ (7 * k)) (h9 : k = 9 → m ≤ 1) :
    bits BinOp.or IntKind.u64 (v : Int) (IntKind.u64.wrap ((m : Int) * 2 ^ (7 * k))) = ((v + m * 2 ^ (7 * k) : Nat) : Int) := by
  have hle : m * 2 ^ (7 * k) < 18446744073709551616 ∧ v < 18446744073709551616 := by
    by_cases h : k = 9
    · subst h
      have := h9 rfl
      have e : (2 : Nat) ^ (7 * 9) = 9223372036854775808 := by decide
      rw [e] at hv ⊢
      omega
    · have h2 : (2 : Nat) ^ (7 * k) ≤ 2 ^ 56 := Nat.pow_le_pow_right (by decide) (by omega)
      have e : (2 : Nat) ^ 56 = 72057594037927936 := by decide
      rw [e] at h2
      have h3 : m * 2 ^ (7 * k) ≤ 127 * 72057594037927936 := Nat.mul_le_mul (by omega) h2
      omega
  have e1 : ((m : Int) * 2 ^ (7 * k)) = ((m * 2 ^ (7 * k) : Nat) : Int) := by rw [Int.natCast_mul, Int.natCast_pow]; rfl
  rw [e1, IntKind.wrap_u64_nat _ hle.1, u64_or_nat v _ hle.2 hle.1, Nat.or_comm, nat_join (7 * k) (m * 2 ^ (7 * k)) v (Nat.mul_mod_left _ _) hv, Nat.add_comm]

set_option maxRecDepth 8000 in
set_option maxHeartbeats 8000000 in
theorem numR_any (P : Nat) (l : List UInt8) (bad : Bool) (most : Nat) (w : World) (H : RdAt w P l bad) (hl : l.length ≤ 1000000000) :
    Calls Try.prog 94 #[.pointer (some ⟨P, 0, none⟩), .int .u64 most] w fun e w' => e = .returned (.int .u64 (rdNum l bad most).1) ∧ RdAt w' P (rdNum l bad most).2.1 (rdNum l bad most).2.2 ∧ Frm (fun k => k = P) w w' := by
  refine hide_post fun D hD => ?_
  have H0 := Lib.hid H
  obtain ⟨A, cap, h1, h2, h3, h4⟩ := H
  have c0 := h1.cell 0
  have c1 := h1.cell 1
  simp at c0 c1
  cases bad
  case true =>
    have hE : Hid (D (.returned (.int .u64 0)) w) := hD.out _ _ ⟨rfl, H0.out, Frm.refl _ _⟩
    clear h1 h2 hD H0
    generalize l.length = n at *
    go_enter Try.func94, Try.ntmps94
    go_wp2
    try go_ret
    exact hE.out
  have HFL : Hid (rdGo most 0 0 l = none → ∀ w', RdAt w' P l true ∧ Frm (fun k => k = P) w w' → D (.returned (.int .u64 0)) w') := fun hn w' h => by
    refine hD.out _ _ ?_
    simp only [rdNum, hn]
    exact ⟨rfl, h.1, h.2⟩
  have HOK : Hid (∀ v r, rdGo most 0 0 l = some (v, r) → ∀ w', RdAt w' P r false ∧ Frm (fun k => k = P) w w' → D (.returned (.int .u64 v)) w') := fun v r hn w' h => by
    refine hD.out _ _ ?_
    simp only [rdNum, hn]
    exact ⟨rfl, h.1, h.2⟩
  have HFA : Hid (Calls Try.prog 95 #[.pointer (some ⟨P, 0, none⟩)] w fun e w' => e = .returned (.int .u64 0) ∧ RdAt w' P l true ∧ Frm (fun k => k = P) w w') := fail_any P l false w H0.out
  have HS := Lib.hid h2
  have HB := Lib.hid h1
  have H4 := Lib.hid h4
  clear h1 h2 hD H0 h4
  obtain ⟨n, hn⟩ : ∃ n, n = l.length := ⟨_, rfl⟩
  rw [← hn] at hl h3 c0
  have HN := Lib.hid hn
  clear hn
  go_enter Try.func94, Try.ntmps94
  go_wp2
  go_loop [5, 21] (fun x i => ∃ (k v : Nat), k ≤ n ∧ x = .int .u64 v ∧ i = .int .i64 k ∧ Hid (rdGo most 0 0 l = rdGo most k v (l.drop k) ∧ v < 2 ^ (7 * k)) ∧ k ≤ 9) (fun _ i => n - (intOf i).toNat)
  case atStart => exact ⟨0, 0, Nat.zero_le _, rfl, rfl, ⟨rfl, by decide⟩, by omega⟩
  case round =>
    obtain ⟨k, v, hk, rfl, rfl, HR, hk9⟩ := hrel
    by_cases hlt : k < n
    · obtain ⟨b, o, rfl, hcell⟩ := HS.out.at_ (k := k) (by rw [← HN.out]; exact hlt)
      have hd : l.drop k = l[k]'(by rw [← HN.out]; exact hlt) :: l.drop (k + 1) := List.drop_eq_getElem_cons _
      have Hd := Lib.hid hd
      clear hd
      generalize l[k]'(by rw [← HN.out]; exact hlt) = c at *
      have hc256 : c.toNat < 256 := c.toNat_lt
      unfold Go.Proofs.Ytkdcbidbciognaa.u8 at hcell
      by_cases h9 : k = 9 ∧ 1 < c.toNat
      · have HE : Hid (rdGo most 0 0 l = none) := by (show _ = _); rw [HR.out.1, Hd.out, rdGo, if_pos h9]
        obtain ⟨rfl, h9c⟩ := h9
        go_wp2_with (go_at_call 95; (with_reducible refine HFA.out.mono ?_); rintro e w1 ⟨rfl, hx⟩; have HX := Lib.hid hx; clear hx)
        try go_ret
        exact HFL.out HE.out _ HX.out
      · have hand : bits BinOp.and IntKind.u8 (c.toNat : Int) 127 = ((c.toNat % 128 : Nat) : Int) := and127 c
        have hm128 : c.toNat % 128 < 128 := Nat.mod_lt _ (by decide)
        generalize hme : c.toNat % 128 = m at *
        have HME := Lib.hid hme
        clear hme
        have hm9 : k = 9 → m ≤ 1 := fun hk => by have := HME.out; omega
        have hor := or_step k v m hk9 hm128 HR.out.2 hm9
        have hvn := or_lt k v m hm128 HR.out.2
        obtain ⟨v2, hv2⟩ : ∃ v2, v2 = v + m * 2 ^ (7 * k) := ⟨_, rfl⟩
        rw [← hv2] at hor hvn
        have HV2 := Lib.hid hv2
        have HVN := Lib.hid hvn
        clear hvn hv2
        by_cases hge : 128 ≤ c.toNat
        · have HE : Hid (rdGo most 0 0 l = rdGo most (k + 1) v2 (l.drop (k + 1))) := by (show _ = _); rw [HR.out.1, Hd.out, rdGo, if_neg h9, if_pos hge, HME.out, HV2.out]
          have hk8 : k ≤ 8 := by omega
          have hk9' : ((k : Int) == 9) = false := by rw [beq_eq_false_iff_ne]; omega
          clear hm9
          go_wp2
          go_round
          case rel => exact ⟨k + 1, v2, by omega, by rfl, by go_num, ⟨HE.out, HVN.out⟩, by omega⟩
          case measure => simp [intOf]; omega
        · have HG : Hid (rdGo most 0 0 l = if (c.toNat = 0 ∧ 0 < k) ∨ most < v2 then none else some (v2, l.drop (k + 1))) := by (show _ = _); rw [HR.out.1, Hd.out, rdGo, if_neg h9, if_neg hge, HME.out, ← HV2.out]
          have hge' : ¬ (128 : Int) ≤ (c.toNat : Int) := by omega
          have hk9c : ((k : Int) == 9) = true ∧ ¬ (1 : Int) < (c.toNat : Int) ∨ ((k : Int) == 9) = false := by
            by_cases hk : k = 9
            · exact .inl ⟨by rw [beq_iff_eq]; omega, by omega⟩
            · exact .inr (by rw [beq_eq_false_iff_ne]; omega)
          have h0c : ((c.toNat : Int) == 0) = true ∧ (0 : Int) < (k : Int) ∨ ((c.toNat : Int) == 0) = true ∧ ¬ (0 : Int) < (k : Int) ∨ ((c.toNat : Int) == 0) = false := by
            by_cases hc : c.toNat = 0
            · by_cases hk : 0 < k
              · exact .inl ⟨by rw [beq_iff_eq]; omega, by omega⟩
              · exact .inr (.inl ⟨by rw [beq_iff_eq]; omega, by omega⟩)
            · exact .inr (.inr (by rw [beq_eq_false_iff_ne]; omega))
          have h0n : Hid (((c.toNat : Int) == 0) = true ↔ c.toNat = 0) := by (show _ ↔ _); rw [beq_iff_eq]; omega
          clear hm9 h9 hge hc256
          rcases h0c with ⟨g1, g2⟩ | h0c
          · have HE : Hid (rdGo most 0 0 l = none) := by (show _ = _); rw [HG.out, if_pos (.inl ⟨h0n.out.1 g1, by omega⟩)]
            clear HG h0n
            rcases hk9c with ⟨k9, c1'⟩ | k9
            all_goals
              go_wp2_with (go_at_call 95; (with_reducible refine HFA.out.mono ?_); rintro e w1 ⟨rfl, hx⟩; have HX := Lib.hid hx; clear hx)
              try go_ret
              exact HFL.out HE.out _ HX.out
          · by_cases hmo : most < v2
            · have HE : Hid (rdGo most 0 0 l = none) := by (show _ = _); rw [HG.out, if_pos (.inr hmo)]
              clear HG h0n
              rcases hk9c with ⟨k9, c1'⟩ | k9
              all_goals
                rcases h0c with ⟨g1, g2⟩ | g1
                all_goals
                  go_wp2_with (go_at_call 95; (with_reducible refine HFA.out.mono ?_); rintro e w1 ⟨rfl, hx⟩; have HX := Lib.hid hx; clear hx)
                  try go_ret
                  exact HFL.out HE.out _ HX.out
            · have HE : Hid (rdGo most 0 0 l = some (v2, l.drop (k + 1))) := by
                show _ = _
                rw [HG.out, if_neg]
                rintro (⟨q1, q2⟩ | q)
                · rcases h0c with ⟨g1, g2⟩ | g1
                  · omega
                  · rw [h0n.out.2 q1] at g1; cases g1
                · exact hmo q
              have HLD : Hid ((l.drop (k + 1)).length = n - (k + 1)) := by (show _ = _); rw [List.length_drop, HN.out]
              have HSD : Hid (Sl u8 w (some ⟨b, o + (k + 1), none⟩) (l.drop (k + 1))) := sl_drop HS.out (k + 1)
              have HNP : Hid (b ≠ P) := by (show _ ≠ _); obtain ⟨b', o', e, hb⟩ := H4.out _ rfl; injection e with e1 e2; subst e1; exact hb
              have HST : Hid (∀ A' m' c', m' = (l.drop (k + 1)).length → Sl Go.Proofs.Ytkdcbidbciognaa.u8 w A' (l.drop (k + 1)) → m' ≤ c' → (∀ a, A' = some a → ∃ b o, a = ⟨b, o, none⟩ ∧ b ≠ P) → D (.returned (.int .u64 v2)) (w.setCell ⟨P, 0, none⟩ (.slice A' m' c'))) := fun A' m' c' e1 e2 e3 e4 => by
                subst e1
                have hF : Frm (fun k => k = P) w (w.setCell ⟨P, 0, none⟩ (.slice A' (l.drop (k + 1)).length c')) := Frm.of_set _ _ _ rfl
                exact HOK.out v2 _ HE.out _ ⟨⟨A', c', by have := HB.out.set 0 (.slice A' (l.drop (k + 1)).length c'); simpa using this, e2.frm' hF (fun a ha => by obtain ⟨b, o, rfl, hb⟩ := e4 a ha; exact hb), e3, e4⟩, hF⟩
              have f0 := HB.out.frozen 0
              clear HG h0n HR HE
              generalize l.drop (k + 1) = rr at *
              rcases h0c with ⟨g1, g2⟩ | g1
              · rcases hk9c with ⟨k9, c1'⟩ | k9
                · rw [beq_iff_eq] at k9; omega
                · by_cases hcp : cap = k + 1
                  · subst hcp
                    go_wp2
                    try go_ret
                    obtain rfl : k = 0 := by omega
                    obtain rfl : n = 1 := by omega
                    refine HST.out _ _ _ ?_ ?_ ?_ ?_
                    · have h5 := HLD.out; omega
                    · have h5 := HLD.out; rw [List.eq_nil_of_length_eq_zero (l := rr) (by omega)]; exact Sl.nil _ _ _
                    · omega
                    · intro a ha; injection ha with ha; subst ha; exact ⟨_, _, rfl, HNP.out⟩
                  · go_wp2
                    try go_ret
                    obtain rfl : k = 0 := by omega
                    refine HST.out _ _ _ ?_ ?_ ?_ ?_
                    · have h5 := HLD.out; omega
                    · exact HSD.out
                    · omega
                    · intro a ha; injection ha with ha; subst ha; exact ⟨_, _, rfl, HNP.out⟩
              · by_cases hcp : cap = k + 1
                · obtain rfl : n = k + 1 := by omega
                  subst hcp
                  rcases hk9c with ⟨k9, c1'⟩ | k9
                  all_goals
                    go_wp2
                    try go_ret
                    refine HST.out _ _ _ ?_ ?_ ?_ ?_
                    · have h5 := HLD.out; omega
                    · have h5 := HLD.out; rw [List.eq_nil_of_length_eq_zero (l := rr) (by omega)]; exact Sl.nil _ _ _
                    · omega
                    · intro a ha; injection ha with ha; subst ha; exact ⟨_, _, rfl, HNP.out⟩
                · rcases hk9c with ⟨k9, c1'⟩ | k9
                  all_goals
                    go_wp2
                    try go_ret
                    refine HST.out _ _ _ ?_ ?_ ?_ ?_
                    · have h5 := HLD.out; omega
                    · exact HSD.out
                    · omega
                    · intro a ha; injection ha with ha; subst ha; exact ⟨_, _, rfl, HNP.out⟩
    · have HE : Hid (rdGo most 0 0 l = none) := by (show _ = _); rw [HR.out.1, List.drop_of_length_le (by have := HN.out; omega), rdGo]
      go_wp2_with (go_at_call 95; (with_reducible refine HFA.out.mono ?_); rintro e w1 ⟨rfl, hx⟩; have HX := Lib.hid hx; clear hx)
      try go_ret
      exact HFL.out HE.out _ HX.out
end Go.Proofs.Ytkdcbidbciognaa

namespace Go.Proofs.Ytkdcbidbciognaa
set_option linter.unusedVariables false
set_option linter.unusedSimpArgs false
open Go.RowKit

def rdText (l : List UInt8) (bad : Bool) (most : Nat) : List UInt8 × List UInt8 × Bool :=
  if (rdNum l bad most).2.2 then ([], (rdNum l bad most).2.1, true)
  else if (rdNum l bad most).2.1.length < (rdNum l bad most).1 then ([], (rdNum l bad most).2.1, true)
  else ((rdNum l bad most).2.1.take (rdNum l bad most).1, (rdNum l bad most).2.1.drop (rdNum l bad most).1, false)
theorem Sl.take' {α : Type} {f : α → Value} {w : World} {A : Option Addr} {l : List α} (h : Sl f w A l) (k : Nat) : Sl f w A (l.take k) := fun j v hj => by
  rw [List.getElem?_take] at hj
  split at hj
  · exact h j v hj
  · cases hj
theorem rdGo_len (most : Nat) : ∀ (l : List UInt8) (i v : Nat) (x : Nat × List UInt8), rdGo most i v l = some x → x.2.length ≤ l.length ∧ x.1 ≤ most
  | [], i, v, x, h => by simp [rdGo] at h
  | c :: r, i, v, x, h => by
    unfold rdGo at h
    split at h
    · cases h
    · split at h
      · have := rdGo_len most r _ _ x h
        simp; omega
      · split at h
        · cases h
        · rename_i h1
          injection h with h
          subst h
          simp; omega
theorem rdNum_len (l : List UInt8) (bad : Bool) (most : Nat) : (rdNum l bad most).2.1.length ≤ l.length ∧ (rdNum l bad most).1 ≤ most := by
  unfold rdNum
  split
  · simp
  · split
    · rename_i v r h
      have := rdGo_len most l 0 0 _ h
      simpa using this
    · simp

theorem yesR_any (P : Nat) (l : List UInt8) (bad : Bool) (w : World) (H : RdAt w P l bad) (hl : l.length ≤ 1000000000) :
    Calls Try.prog 79 #[.pointer (some ⟨P, 0, none⟩)] w fun e w' => e = .returned (.bool (decide ((rdNum l bad 1).1 = 1))) ∧ RdAt w' P (rdNum l bad 1).2.1 (rdNum l bad 1).2.2 ∧ Frm (fun k => k = P) w w' := by
  have HC : Hid (Calls Try.prog 94 #[.pointer (some ⟨P, 0, none⟩), .int .u64 1] w fun e w' => e = .returned (.int .u64 (rdNum l bad 1).1) ∧ RdAt w' P (rdNum l bad 1).2.1 (rdNum l bad 1).2.2 ∧ Frm (fun k => k = P) w w') := numR_any P l bad 1 w H hl
  clear H
  generalize rdNum l bad 1 = r at *
  obtain ⟨v, rest, b⟩ := r
  simp only at *
  refine hide_post fun D hD => ?_
  by_cases h1 : v = 1
  · have HD1 : Hid (∀ w', RdAt w' P rest b ∧ Frm (fun k => k = P) w w' → D (.returned (.bool true)) w') := fun w' h => hD.out _ _ ⟨by rw [decide_eq_true h1], h⟩
    subst h1
    clear hD
    go_enter Try.func79, Try.ntmps79
    go_wp2_with (go_at_call 94; (with_reducible refine HC.out.mono ?_); rintro e w1 ⟨rfl, hx⟩; have HX := Lib.hid hx; clear hx)
    try go_ret
    exact HD1.out _ HX.out
  · have HD1 : Hid (∀ w', RdAt w' P rest b ∧ Frm (fun k => k = P) w w' → D (.returned (.bool false)) w') := fun w' h => hD.out _ _ ⟨by rw [decide_eq_false h1], h⟩
    have hv : ((v : Int) == 1) = false := by rw [beq_eq_false_iff_ne]; omega
    clear hD
    go_enter Try.func79, Try.ntmps79
    go_wp2_with (go_at_call 94; (with_reducible refine HC.out.mono ?_); rintro e w1 ⟨rfl, hx⟩; have HX := Lib.hid hx; clear hx)
    try go_ret
    exact HD1.out _ HX.out

/-- what a reader's End answers -/
def endN (l : List UInt8) (bad : Bool) : Int := if bad then 2 else if l.length = 0 then 0 else 9
theorem endR_any (P : Nat) (l : List UInt8) (bad : Bool) (w : World) (H : RdAt w P l bad) (hl : l.length ≤ 1000000000) :
    Calls Try.prog 80 #[.pointer (some ⟨P, 0, none⟩)] w fun e w' => e = .returned (.int .i64 (endN l bad)) ∧ w = w' := by
  obtain ⟨A, cap, h1, h2, h3, h4⟩ := H
  have c0 := h1.cell 0
  have c1 := h1.cell 1
  simp at c0 c1
  unfold endN
  clear h1 h2
  generalize l.length = n at *
  cases bad
  · by_cases hn : n = 0
    · subst hn
      go_enter Try.func80, Try.ntmps80
      go_wp2
      go_ret
      exact ⟨rfl, rfl⟩
    · have hp : (0 : Int) < (n : Int) := by omega
      rw [if_neg (by decide), if_neg hn]
      go_enter Try.func80, Try.ntmps80
      go_wp2
      go_ret
      exact ⟨rfl, rfl⟩
  · rw [if_pos rfl]
    go_enter Try.func80, Try.ntmps80
    go_wp2
    go_ret
    exact ⟨rfl, rfl⟩
theorem numR_nil (m : Int) (w : World) : Calls Try.prog 94 #[.pointer none, .int .u64 m] w fun e w' => e = .returned (.int .u64 0) ∧ w = w' := by
  go_enter Try.func94, Try.ntmps94
  go_wp2
  go_ret
  exact ⟨rfl, rfl⟩
theorem yesR_nil (w : World) : Calls Try.prog 79 #[.pointer none] w fun e w' => e = .returned (.bool false) ∧ w = w' := by
  go_enter Try.func79, Try.ntmps79
  go_wp2_with (go_at_call 94; (with_reducible refine (numR_nil _ _).mono ?_); rintro e w1 ⟨rfl, rfl⟩)
  go_ret
  exact ⟨rfl, rfl⟩
theorem endR_nil (w : World) : Calls Try.prog 80 #[.pointer none] w fun e w' => e = .returned (.int .i64 2) ∧ w = w' := by
  go_enter Try.func80, Try.ntmps80
  go_wp2
  go_ret
  exact ⟨rfl, rfl⟩
theorem textR_nil (m : Nat) (w : World) (hm : m ≤ 1000000000) : Calls Try.prog 77 #[.pointer none, .int .i64 m] w fun e w' => e = .returned (.string ⟨#[]⟩) ∧ w = w' := by
  go_enter Try.func77, Try.ntmps77
  go_wp2_with (go_at_call 94; (with_reducible refine (numR_nil _ _).mono ?_); rintro e w1 ⟨rfl, rfl⟩)
  go_ret
  exact ⟨rfl, rfl⟩

set_option maxRecDepth 8000 in
set_option maxHeartbeats 8000000 in
theorem textR_any (P : Nat) (l : List UInt8) (bad : Bool) (most : Nat) (mi : Int) (w : World) (hmi : mi = most ∨ mi < 0 ∧ most = 0) (H : RdAt w P l bad) (hl : l.length ≤ 1000000000) (hmo : most ≤ 9223372036854775807) :
    Calls Try.prog 77 #[.pointer (some ⟨P, 0, none⟩), .int .i64 mi] w fun e w' => e = .returned (.string (str (rdText l bad most).1)) ∧ RdAt w' P (rdText l bad most).2.1 (rdText l bad most).2.2 ∧ Frm (fun k => k = P) w w' := by
  refine hide_post fun D hD => ?_
  have HC : Hid (Calls Try.prog 94 #[.pointer (some ⟨P, 0, none⟩), .int .u64 most] w fun e w' => e = .returned (.int .u64 (rdNum l bad most).1) ∧ RdAt w' P (rdNum l bad most).2.1 (rdNum l bad most).2.2 ∧ Frm (fun k => k = P) w w') := numR_any P l bad most w H hl
  have hlen := rdNum_len l bad most
  clear H
  unfold rdText at hD
  generalize rdNum l bad most = r at *
  obtain ⟨v, L, b⟩ := r
  simp only at *
  obtain ⟨hlen1, hlen2⟩ := hlen
  have HL2 : Hid (L.length ≤ 1000000000) := Nat.le_trans hlen1 hl
  clear hlen2
  have HM := Lib.hid hmo
  clear hmo
  rcases hmi with rfl | ⟨hm1, rfl⟩
  case' inl => have HC1 := HC
  case' inr => have HC1 : Hid (Calls Try.prog 94 #[.pointer (some ⟨P, 0, none⟩), .int .u64 0] w fun e w' => e = .returned (.int .u64 v) ∧ RdAt w' P L b ∧ Frm (fun k => k = P) w w') := HC.out
  all_goals
    have hM2 := HM.out
    clear HC
    go_enter Try.func77, Try.ntmps77
    go_wp2_with fail
    clear hM2
    go_at_call 94
    with_reducible refine HC1.out.mono ?_
    rintro e w1 ⟨rfl, hR, hF⟩
    have HF1 := Lib.hid hF
    have HR := Lib.hid hR
    obtain ⟨A, cap, k1, k2, k3, k4⟩ := hR
    have c0 := k1.cell 0
    have c1 := k1.cell 1
    have f0 := k1.frozen 0
    simp at c0 c1
    have HB := Lib.hid k1
    have HS := Lib.hid k2
    clear hF HC1 k1 k2
    have hL5 := HL2.out
    cases b
    · have HST : Hid (∀ A' m' c', m' = (L.drop v).length → v ≤ L.length → Sl u8 w1 A' (L.drop v) → m' ≤ c' → (∀ a, A' = some a → ∃ b o, a = ⟨b, o, none⟩ ∧ b ≠ P) → D (.returned (.string (str (L.take v)))) (w1.setCell ⟨P, 0, none⟩ (.slice A' m' c'))) := fun A' m' c' e1 e0 e2 e3 e4 => by
        subst e1
        have hF : Frm (fun k => k = P) w1 (w1.setCell ⟨P, 0, none⟩ (.slice A' (L.drop v).length c')) := Frm.of_set _ _ _ rfl
        refine hD.out _ _ ?_
        rw [if_neg (by decide), if_neg (by omega)]
        exact ⟨rfl, ⟨A', c', by have := HB.out.set 0 (.slice A' (L.drop v).length c'); simpa using this, e2.frm' hF (fun a ha => by obtain ⟨b, o, rfl, hb⟩ := e4 a ha; exact hb), e3, e4⟩, Frm.tr HF1.out hF⟩
      by_cases hv : L.length < v
      · have HFA : Hid (Calls Try.prog 95 #[.pointer (some ⟨P, 0, none⟩)] w1 fun e w' => e = .returned (.int .u64 0) ∧ RdAt w' P L true ∧ Frm (fun k => k = P) w1 w') := fail_any P L false w1 HR.out
        have HE : Hid (∀ w', RdAt w' P L true ∧ Frm (fun k => k = P) w1 w' → D (.returned (.string ⟨#[]⟩)) w') := fun w' h => by
          refine hD.out _ _ ?_
          rw [if_neg (by decide), if_pos hv]
          exact ⟨rfl, h.1, Frm.tr HF1.out h.2⟩
        clear hD k4 HST
        generalize L.length = n at *
        go_wp2_with (go_at_call 95; (with_reducible refine HFA.out.mono ?_); rintro e w2 ⟨rfl, hx⟩; have HX := Lib.hid hx; clear hx)
        try go_ret
        exact HE.out _ HX.out
      · have hv' : v ≤ L.length := by omega
        have hvc : v ≤ cap := by omega
        clear hD HR
        rcases A with _ | a
        · have hL0 : L = [] := by
            cases hLc : L with
            | nil => rfl
            | cons x r => obtain ⟨b, o, e, _⟩ := HS.out 0 x (by rw [hLc]; rfl); cases e
          subst hL0
          obtain rfl : v = 0 := by simpa using hv'
          have hcv : ∀ c, (convert 72 9 (.slice none 0 c)).run Try.prog w1 = .ok (.string (str [])) w1 := fun c => run_str 72 9 5 none [] c Try.underlying72 Try.underlying5 Try.underlying9 (Sl.nil _ _ _)
          rw [List.length_nil] at c0
          go_wp2
          try go_ret
          exact HST.out _ _ _ (by simp) (by simp) (Sl.nil _ _ _) (Nat.zero_le _) (fun a ha => by cases ha)
        · obtain ⟨b', o', rfl, hb⟩ := k4 _ rfl
          have htl : (L.take v).length = v := by rw [List.length_take]; omega
          have hcv : (convert 72 9 (.slice (some ⟨b', o', none⟩) v cap)).run Try.prog w1 = .ok (.string (str (L.take v))) w1 := by
            have := run_str (P := Try.prog) (w := w1) 72 9 5 (some ⟨b', o', none⟩) (L.take v) cap Try.underlying72 Try.underlying5 Try.underlying9 (HS.out.take' v)
            rwa [htl] at this
          have HSD : Hid (Sl u8 w1 (some ⟨b', o' + v, none⟩) (L.drop v)) := sl_drop HS.out v
          have HLD : Hid ((L.drop v).length = L.length - v) := List.length_drop
          have HNB := Lib.hid hb
          clear htl k4 hb
          generalize str (L.take v) = st at *
          generalize L.drop v = rr at *
          generalize L.length = n at *
          have hvi : (v : Int) ≤ (n : Int) := by omega
          have hvi2 : (v : Int) ≤ (cap : Int) := by omega
          have hvi3 : (0 : Int) ≤ (v : Int) := by omega
          by_cases hcp : cap = v
          · subst hcp
            obtain rfl : n = cap := by omega
            go_wp2
            try go_ret
            refine HST.out _ _ _ ?_ hv' ?_ ?_ ?_
            · have h5 := HLD.out; omega
            · have h5 := HLD.out; rw [List.eq_nil_of_length_eq_zero (l := rr) (by omega)]; exact Sl.nil _ _ _
            · omega
            · intro a ha; injection ha with ha; subst ha; exact ⟨_, _, rfl, HNB.out⟩
          · go_wp2
            try go_ret
            refine HST.out _ _ _ ?_ hv' ?_ ?_ ?_
            · have h5 := HLD.out; omega
            · exact HSD.out
            · omega
            · intro a ha; injection ha with ha; subst ha; exact ⟨_, _, rfl, HNB.out⟩
    · have HE : Hid (D (.returned (.string ⟨#[]⟩)) w1) := hD.out _ _ ⟨rfl, HR.out, HF1.out⟩
      clear hD k4
      generalize L.length = n at *
      go_wp2
      try go_ret
      exact HE.out
end Go.Proofs.Ytkdcbidbciognaa

namespace Go.Proofs.Ytkdcbidbciognaa
set_option linter.unusedVariables false
set_option linter.unusedSimpArgs false
open Go.RowKit

/-- one bit's step -/
def stepN (c : Nat) : Nat := (c / 2) ^^^ (3988292384 * (c % 2))
def stepsN : Nat → Nat → Nat
  | 0, c => c
  | k + 1, c => stepN (stepsN k c)
def crcGo : Nat → List UInt8 → Nat
  | c, [] => c
  | c, x :: r => crcGo ((c / 256) ^^^ stepsN 8 ((c % 256) ^^^ x.toNat)) r
def crcN (l : List UInt8) : Nat := 4294967295 ^^^ crcGo 4294967295 l

theorem stepN_lt (x : Nat) (h : x < 4294967296) : stepN x < 4294967296 := by
  unfold stepN
  exact Nat.xor_lt_two_pow (n := 32) (by omega) (by omega)
theorem stepsN_lt : ∀ (k x : Nat), x < 4294967296 → stepsN k x < 4294967296
  | 0, x, h => h
  | k + 1, x, h => stepN_lt _ (stepsN_lt k x h)
theorem step_int (x : Nat) (h : x < 4294967296) : bits BinOp.xor IntKind.u32 ((x : Int) / 2) (3988292384 * bits BinOp.and IntKind.u32 (x : Int) 1 % 4294967296) = (stepN x : Nat) := by
  have h1 : bits BinOp.and IntKind.u32 (x : Int) 1 = ((x % 2 : Nat) : Int) := by
    have := u32_and_nat x 1 h (by decide)
    rw [nat_mask1] at this
    exact this
  rw [h1]
  have e1 : ((x : Int) / 2) = ((x / 2 : Nat) : Int) := by omega
  have e2 : (3988292384 * ((x % 2 : Nat) : Int) % 4294967296) = ((3988292384 * (x % 2) : Nat) : Int) := by omega
  rw [e1, e2, u32_xor_nat _ _ (by omega) (by omega)]
  rfl
theorem xor32_int (a b : Nat) (ha : a < 4294967296) (hb : b < 4294967296) : bits BinOp.xor IntKind.u32 (a : Int) (b : Int) = ((a ^^^ b : Nat) : Int) := u32_xor_nat a b ha hb
theorem xor32_int' (a b : Nat) (ha : a < 4294967296) (hb : b < 4294967296) : bits BinOp.xor IntKind.u32 ((a : Int) / 256) (b : Int) = ((a / 256 ^^^ b : Nat) : Int) := by
  rw [show ((a : Int) / 256) = ((a / 256 : Nat) : Int) by omega]
  exact u32_xor_nat _ b (by omega) hb
theorem not_int (a : Nat) (ha : a < 4294967296) : bits BinOp.xor IntKind.u32 IntKind.u32.max (a : Int) = ((4294967295 ^^^ a : Nat) : Int) := u32_xor_nat 4294967295 a (by decide) ha
theorem xor32_lt (a b : Nat) (ha : a < 4294967296) (hb : b < 4294967296) : a ^^^ b < 4294967296 := Nat.xor_lt_two_pow (n := 32) ha hb
theorem xor8_int (x : Nat) (c : UInt8) : bits BinOp.xor IntKind.u8 ((x : Int) % 256) (c.toNat : Int) = (((x % 256) ^^^ c.toNat : Nat) : Int) := by
  have e1 : ((x : Int) % 256) = ((x % 256 : Nat) : Int) := by omega
  rw [e1, u8_xor_nat _ _ (by omega) c.toNat_lt]
theorem idx_lt256 (x : Nat) (c : UInt8) : (x % 256) ^^^ c.toNat < 256 := Nat.xor_lt_two_pow (n := 8) (by omega) c.toNat_lt
/-- the table when k of its cells are made -/
def tabC (k : Nat) : Array Value := ((List.range 256).map fun i => Value.int .u32 (if i < k then (stepsN 8 i : Nat) else 0 : Int)).toArray
theorem tabC_size (k : Nat) : (tabC k).size = 256 := by simp [tabC]
theorem tabC_get (k i : Nat) (hi : i < 256) : (tabC k)[i]? = some (.int .u32 (if i < k then (stepsN 8 i : Nat) else 0 : Int)) := by
  simp [tabC, hi]
theorem tabC_succ (k : Nat) : (tabC k).setIfInBounds k (.int .u32 (stepsN 8 k : Nat)) = tabC (k + 1) := by
  apply Array.ext
  · simp [tabC]
  · intro i h1 h2
    have hi : i < 256 := by rw [tabC_size] at h2; exact h2
    rw [Array.getElem_setIfInBounds]
    split
    · rename_i e
      subst e
      simp only [tabC, List.getElem_toArray, List.getElem_map, List.getElem_range]
      rw [if_pos (by omega)]
    · rename_i e
      simp only [tabC, List.getElem_toArray, List.getElem_map, List.getElem_range]
      by_cases h : i < k
      · rw [if_pos h, if_pos (by omega)]
      · rw [if_neg h, if_neg (by omega)]
    · rw [tabC_size]; exact hi

end Go.Proofs.Ytkdcbidbciognaa

namespace Go.Proofs.Ytkdcbidbciognaa
set_option linter.unusedVariables false
set_option linter.unusedSimpArgs false
open Go.RowKit

theorem WrTo.low {w w' : World} {base P : Nat} {l : List UInt8} {g : Option Nat} {B : Nat} (h : WrTo w w' base P l g) (hP : B ≤ P) (hg : ∀ k, g = some k → B ≤ k) (hB : B ≤ w.heap.size) : Below B w w' := by
  obtain ⟨g', _, h2, _⟩ := h
  exact h2.below hB (fun k hk => by
    rcases hk with hk | hk
    · omega
    · exact hg k hk.symm)

theorem kcP (w : World) (C : Array Value) (n c : Nat) : (convert 72 72 (.slice (some ⟨w.heap.size, 0, none⟩) n c)).run Try.prog (w.alloc (.cells C 5)) = .ok (.slice (some ⟨w.heap.size, 0, none⟩) n c) (w.alloc (.cells C 5 (C.size, C.size + 1))) :=
  Lib.run_convert_bytes_const (P := Try.prog) w _ _ C n c Try.underlying72 Try.underlying5
theorem sl_constP (w : World) (b : List UInt8) (m : Nat × Nat) : Sl u8 (w.alloc (.cells (b.map u8).toArray 5 m)) (some ⟨w.heap.size, 0, none⟩) b := fun j v hj =>
  ⟨_, 0, rfl, by rw [Nat.zero_add, World.cell?_alloc_mark]; simp [hj]⟩
theorem crc_const : crcN [49, 50, 51, 52, 53, 54, 55, 56, 57] = 3421780262 := by decide +kernel

end Go.Proofs.Ytkdcbidbciognaa

namespace Go.Proofs.Ytkdcbidbciognaa
set_option linter.unusedVariables false
set_option linter.unusedSimpArgs false
open Go.RowKit

theorem pow_next (i : Nat) : 2 ^ (7 * (i + 1)) = 128 * 2 ^ (7 * i) := by rw [Nat.mul_add, Nat.pow_add]; omega
theorem div_step (n i : Nat) : n % 128 * 2 ^ (7 * i) + n / 128 * 2 ^ (7 * (i + 1)) = n * 2 ^ (7 * i) := by
  rw [pow_next, ← Nat.mul_assoc, ← Nat.add_mul]
  congr 1
  omega
theorem top_le {n i : Nat} (h : n * 2 ^ (7 * i) < 18446744073709551616) (hi : i = 9) : n ≤ 1 := by
  subst hi
  have e : (2 : Nat) ^ (7 * 9) = 9223372036854775808 := by decide
  rw [e] at h
  omega
theorem rdGo_num (most : Nat) : ∀ (f n i v : Nat) (r : List UInt8), i + f = 9 → n * 2 ^ (7 * i) < 18446744073709551616 → (0 < i → 0 < n) →
    rdGo most i v (numF (f + 1) n ++ r) = if most < v + n * 2 ^ (7 * i) then none else some (v + n * 2 ^ (7 * i), r)
  | f, n, i, v, r, hf, hn, hi => by
    have ht := fun h => top_le hn h
    unfold numF
    by_cases h : n < 128
    · rw [if_pos h, List.singleton_append, rdGo]
      have e : (UInt8.ofNat n).toNat = n := by rw [UInt8.toNat_ofNat']; omega
      rw [e, if_neg (by intro h2; have := ht h2.1; omega), if_neg (by omega), Nat.mod_eq_of_lt h]
      by_cases hm : most < v + n * 2 ^ (7 * i)
      · rw [if_pos (.inr hm), if_pos hm]
      · rw [if_neg (by rintro (h2 | h2); · have := hi h2.2; omega
                       · exact hm h2), if_neg hm]
    · rw [if_neg h, List.cons_append, rdGo]
      have e : (UInt8.ofNat (n % 128 + 128)).toNat = n % 128 + 128 := by rw [UInt8.toNat_ofNat']; omega
      rw [e, if_neg (by intro h2; have := ht h2.1; omega), if_pos (by omega), show (n % 128 + 128) % 128 = n % 128 by omega]
      match f, hf with
      | 0, hf => exact absurd (ht (by omega)) (by omega)
      | f + 1, hf =>
        have hd := div_step n i
        rw [rdGo_num most f (n / 128) (i + 1) (v + n % 128 * 2 ^ (7 * i)) r (by omega) (by omega) (fun _ => by omega), Nat.add_assoc v, hd]
theorem rdGo_numB (most n : Nat) (r : List UInt8) (hn : n < 18446744073709551616) : rdGo most 0 0 (numB n ++ r) = if most < n then none else some (n, r) := by
  have := rdGo_num most 9 n 0 0 r rfl (by simpa using hn) (fun h => absurd h (by decide))
  simpa [numB] using this
theorem rdNum_numB (most n : Nat) (r : List UInt8) (hn : n < 18446744073709551616) : rdNum (numB n ++ r) false most = if most < n then (0, numB n ++ r, true) else (n, r, false) := by
  unfold rdNum
  rw [if_neg (by decide), rdGo_numB most n r hn]
  by_cases h : most < n
  · rw [if_pos h, if_pos h]
  · rw [if_neg h, if_neg h]

/-- a form with a nought too many, or with too many bytes, is none -/
theorem rdGo_tail (most : Nat) : ∀ (l : List UInt8) (i v : Nat), (∀ c ∈ l, 128 ≤ c.toNat) → 0 < i + l.length → rdGo most i v (l ++ [0]) = none
  | [], i, v, _, h => by
    rw [List.nil_append, rdGo]
    simp at h
    simp
    omega
  | c :: r, i, v, hc, h => by
    rw [List.cons_append, rdGo]
    split
    · rfl
    · rw [if_pos (hc c (List.mem_cons_self ..))]
      exact rdGo_tail most r (i + 1) _ (fun x hx => hc x (List.mem_cons_of_mem _ hx)) (by omega)
theorem numF_ne : ∀ (f n : Nat), numF (f + 1) n ≠ []
  | f, n => by unfold numF; split <;> simp
theorem numB_ne (n : Nat) : numB n ≠ [] := numF_ne 9 n
/-- all its bytes but the last are big -/
theorem numF_big : ∀ (f n : Nat), ∃ d c, numF (f + 1) n = d ++ [c] ∧ (∀ x ∈ d, 128 ≤ x.toNat)
  | f, n => by
    unfold numF
    by_cases h : n < 128
    · rw [if_pos h]
      exact ⟨[], UInt8.ofNat n, rfl, by simp⟩
    · rw [if_neg h]
      match f with
      | 0 => exact ⟨[], UInt8.ofNat (n % 128 + 128), by simp [numF], by simp⟩
      | f + 1 =>
        obtain ⟨d, c, e, hd⟩ := numF_big f (n / 128)
        refine ⟨UInt8.ofNat (n % 128 + 128) :: d, c, by rw [e]; rfl, ?_⟩
        intro x hx
        rcases List.mem_cons.1 hx with rfl | hx
        · rw [UInt8.toNat_ofNat']; omega
        · exact hd x hx
/-- what reads as none leaves the reader wrong -/
theorem rdNum_none {l : List UInt8} {most : Nat} (h : rdGo most 0 0 l = none) : rdNum l false most = (0, l, true) := by
  unfold rdNum
  rw [if_neg (by decide), h]
theorem rdNum_bad (l : List UInt8) (most : Nat) : rdNum l true most = (0, l, true) := by unfold rdNum; rw [if_pos rfl]
theorem rdText_bad (l : List UInt8) (most : Nat) : rdText l true most = ([], l, true) := by unfold rdText; rw [rdNum_bad]; rfl
end Go.Proofs.Ytkdcbidbciognaa

namespace Go.Proofs.Ytkdcbidbciognaa
set_option linter.unusedVariables false
set_option linter.unusedSimpArgs false
open Go.RowKit

theorem below_put {w wr W : World} {base : Nat} {e : TypeId} {v y : Value} {n : Nat} {xs : List Value} (hB : base ≤ w.heap.size) (hw : w.heap.size ≤ base) (hb : Below w.heap.size w wr) (ho : wr.ownsRow base e 1 v n xs) {t : TypeId} (h : (wr.alloc (.cells #[y] t)).grownBy W v.ownBlock) : Below w.heap.size w W :=
  Below.trans hb (((Below.refl w.heap.size wr).alloc hb.size _).grown h (Nat.le_trans hb.size (by simp)) (fun k hk => by have := ho.lt k hk; omega))

set_option maxRecDepth 8000 in
set_option maxHeartbeats 4000000 in
theorem refNum_any (v : Nat) (w : World) (hv : v < 18446744073709551616) :
    Calls Try.prog 103 #[.int .u64 v] w fun e w' => e = .returned (.string (str (numB v))) ∧ Ext w w' := by
  refine hide_post fun D hD => ?_
  have HV : Hid (v < 128 ^ 10) := by (show _ < _); omega
  clear hv
  go_enter Try.func103, Try.ntmps103
  go_wp2
  go_loopw [0, 3] (fun i c wr => ∃ (x f : Nat) (d : List UInt8) (A : Option Addr) (cap : Nat), x ≤ v ∧ i = .int .u64 x ∧ c = .slice A d.length cap ∧ Hid (numB v = d ++ numF (f + 1) x ∧ x < 128 ^ (f + 1) ∧ d.length + f = 9) ∧ Hid (wr.ownsRow w.heap.size 5 1 (.slice A d.length cap) d.length (d.map Go.Proofs.Ytkdcbidbciognaa.u8) ∧ Below w.heap.size w wr)) (fun i _ _ => (intOf i).toNat)
  case atStart => exact ⟨v, 9, [], none, 0, Nat.le_refl _, rfl, rfl, ⟨rfl, HV.out, rfl⟩, ⟨World.ownsRow_nil _ _ _ _, Below.refl _ _⟩⟩
  case round =>
    obtain ⟨x, f, d, A, cap, hx, rfl, rfl, HN, HW⟩ := hrel
    have HO := Lib.hid HW.out.1
    have HBW : Hid (∀ (y : Value) W, (wr.alloc (.cells #[y] 5)).grownBy W (Value.slice A d.length cap).ownBlock → Below w.heap.size w W) := fun y W h => below_put (Nat.le_refl _) (Nat.le_refl _) HW.out.2 HO.out h
    have hbz : w.heap.size ≤ wr.heap.size := HW.out.2.size
    have hdl : d.length ≤ 9 := by have := HN.out.2.2; omega
    clear HW
    by_cases hlt : 128 ≤ x
    · have HY := Lib.hid (or128 x)
      have HN2 : Hid (numB v = (d ++ [UInt8.ofNat (x % 128 + 128)]) ++ numF f (x / 128) ∧ x / 128 < 128 ^ f ∧ d.length + f = 9 ∧ 1 ≤ f) := by
        obtain ⟨e1, e2, e3⟩ := HN.out
        have hf : 1 ≤ f := by
          rcases Nat.eq_zero_or_pos f with h | h
          · subst h; omega
          · exact h
        refine ⟨by rw [e1, numF, if_neg (by omega)]; simp, ?_, e3, hf⟩
        rw [Nat.pow_succ] at e2
        exact Nat.div_lt_of_lt_mul (by rw [Nat.mul_comm]; exact e2)
      generalize UInt8.ofNat (x % 128 + 128) = y at *
      have hy := HY.out
      clear HN
      go_wp2_with (at_builtin; refine wpList_append_list rfl _ _ 72 rfl w.heap.size 5 (.int .u8 0) 1 Try.underlying72 info_byte rfl (by omega) (.slice A d.length cap) d.length (d.map Go.Proofs.Ytkdcbidbciognaa.u8) rfl (HO.out.alloc _) Go.Proofs.Ytkdcbidbciognaa.u8 (some ⟨wr.heap.size, 0, none⟩) [y] 1 1 rfl rfl (Sl.of_blk (Blk.new wr 5 #[Go.Proofs.Ytkdcbidbciognaa.u8 y]) (fun j v hj => by match j, hj with | 0, hj => (simp at hj; subst hj; rfl))) (fun _ => rfl) (by simp; omega) (by simp; omega) ?_; intro v' W h1 h2 h3; obtain ⟨A', c', rfl⟩ := own_shape h1; have H1 := Lib.hid h1; have H2 := Lib.hid (HBW.out _ _ h2); clear h1 h2 h3)
      obtain ⟨f', hf'⟩ : ∃ f', f = f' + 1 := ⟨f - 1, by have := HN2.out.2.2.2; omega⟩
      subst hf'
      go_roundw
      case rel => exact ⟨x / 128, f', d ++ [y], A', c', by omega, by go_num, by simp, ⟨HN2.out.1, HN2.out.2.1, by have := HN2.out.2.2.1; simp; omega⟩, ⟨by have := H1.out; simpa using this, H2.out⟩⟩
      case measure => simp [intOf]; omega
    · obtain ⟨y, rfl⟩ : ∃ y : UInt8, x = y.toNat := ⟨UInt8.ofNat x, by rw [UInt8.toNat_ofNat']; omega⟩
      have HN2 : Hid (numB v = d ++ [y]) := by
        show _ = _
        rw [HN.out.1, numF, if_pos (by omega), UInt8.ofNat_toNat]
      clear HN
      have HCV : Hid (∀ W A' c', W.ownsRow w.heap.size 5 1 (.slice A' (d.length + 1) c') (d.length + 1) (d.map Go.Proofs.Ytkdcbidbciognaa.u8 ++ [Go.Proofs.Ytkdcbidbciognaa.u8 y]) → (convert 72 9 (.slice A' (d.length + 1) c')).run Try.prog W = .ok (.string (str (numB v))) W) := fun W A' c' h => by
        have hsl : Sl Go.Proofs.Ytkdcbidbciognaa.u8 W A' (d ++ [y]) := by
          obtain ⟨A9, c9, e, hs⟩ := own_view (l := d ++ [y]) (by simpa using h)
          injection e with e1 e2 e3
          subst e1
          exact hs
        have := run_str (P := Try.prog) (w := W) 72 9 5 A' (d ++ [y]) c' Try.underlying72 Try.underlying5 Try.underlying9 hsl
        rw [List.length_append] at this
        rw [HN2.out]
        exact this
      have HEND := Lib.hid (fun W (h : Below w.heap.size w W) => hD.out _ W ⟨rfl, h⟩)
      clear hD
      go_wp2_with (at_builtin; refine wpList_append_list rfl _ _ 72 rfl w.heap.size 5 (.int .u8 0) 1 Try.underlying72 info_byte rfl (by omega) (.slice A d.length cap) d.length (d.map Go.Proofs.Ytkdcbidbciognaa.u8) rfl (HO.out.alloc _) Go.Proofs.Ytkdcbidbciognaa.u8 (some ⟨wr.heap.size, 0, none⟩) [y] 1 1 rfl rfl (Sl.of_blk (Blk.new wr 5 #[Go.Proofs.Ytkdcbidbciognaa.u8 y]) (fun j v hj => by match j, hj with | 0, hj => (simp at hj; subst hj; rfl))) (fun _ => rfl) (by simp; omega) (by simp; omega) ?_; intro v' W h1 h2 h3; obtain ⟨A', c', rfl⟩ := own_shape h1; have hcv := HCV.out W A' c' h1; have H2 := Lib.hid (HBW.out _ _ h2); clear h1 h2 h3)
      try go_ret
      exact HEND.out _ H2.out

set_option maxRecDepth 8000 in
theorem refText_any (s : ByteArray) (w : World) (hs : s.size ≤ 1000000000) :
    Calls Try.prog 96 #[.string s] w fun e w' => e = .returned (.string (str (numB s.size ++ s.data.toList))) ∧ Ext w w' := by
  refine hide_post fun D hD => ?_
  have HC : Hid (Calls Try.prog 103 #[.int .u64 s.size] w fun e w' => e = .returned (.string (str (numB s.size))) ∧ Ext w w') := refNum_any s.size w (by omega)
  have HE : Hid (∀ W, Ext w W → D (.returned (.string (str (numB s.size) ++ s))) W) := fun W h => hD.out _ W ⟨by
    have : str (numB s.size ++ s.data.toList) = str (numB s.size) ++ s := by
      apply ByteArray.ext
      simp [str]
    rw [this], h⟩
  have hts : (str (numB s.size)).size ≤ 10 := by
    show (numB s.size).toArray.size ≤ 10
    rw [List.size_toArray]
    exact numF_len 10 _
  generalize str (numB s.size) = t at *
  have hsum : t.size + s.size ≤ 1000000010 := by omega
  clear hD
  go_enter Try.func96, Try.ntmps96
  go_wp2_with (go_at_call 103; (with_reducible refine HC.out.mono ?_); rintro e w1 ⟨rfl, hx⟩; have HX := Lib.hid hx; clear hx)
  try go_ret
  exact HE.out _ HX.out

theorem refYes_any (b : Bool) (w : World) :
    Calls Try.prog 99 #[.bool b] w fun e w' => e = .returned (.string (str (yesB b))) ∧ w = w' := by
  cases b
  · go_enter Try.func99, Try.ntmps99
    go_wp2
    try go_ret
    exact ⟨rfl, rfl⟩
  · go_enter Try.func99, Try.ntmps99
    go_wp2
    try go_ret
    exact ⟨rfl, rfl⟩
end Go.Proofs.Ytkdcbidbciognaa

namespace Go.Proofs.Ytkdcbidbciognaa
set_option linter.unusedVariables false
set_option linter.unusedSimpArgs false
open Go.RowKit

theorem wrap_u64_int (n : Nat) (h : n < 18446744073709551616) : IntKind.u64.wrap (n : Int) = (n : Int) := IntKind.wrap_u64_nat n h
theorem str_appB (a b : List UInt8) : str (a ++ b) = str a ++ str b := by
  apply ByteArray.ext
  rw [ByteArray.data_append]
  simp [str]

set_option maxRecDepth 8000 in
set_option maxHeartbeats 4000000 in
theorem putBal_any (base P : Nat) (l : List UInt8) (g : Option Nat) (r n : Nat) (w : World) (H : WrAt w base P l g) (hr : r ≤ 1099511627776) (hn : n ≤ 1099511627776) (hl : l.length ≤ 100000000) (hb : base ≤ w.heap.size) :
    Calls Try.prog 72 #[.pointer (some ⟨P, 0, none⟩), .agg #[.int .i64 r, .int .i64 n]] w fun e w' => e = .returned (.tuple #[]) ∧ WrTo w w' base P (l ++ (numB r ++ numB n)) g := by
  refine hide_post fun D hD => ?_
  obtain ⟨W0, hW0⟩ : ∃ W0, W0 = w.alloc (.cells #[.int .i64 r, .int .i64 n] 23) := ⟨_, rfl⟩
  have hx0 : Ext w W0 := by rw [hW0]; exact Ext.alloc _ _
  have kB : Blk W0 w.heap.size 23 #[.int .i64 r, .int .i64 n] := by rw [hW0]; exact Blk.new _ _ _
  have hz0 : W0.heap.size = w.heap.size + 1 := by rw [hW0]; simp
  have C1 : Hid (Calls Try.prog 93 #[.pointer (some ⟨P, 0, none⟩), .int .u64 r] W0 fun e w' => e = .returned (.tuple #[]) ∧ WrTo W0 w' base P (l ++ numB r) g) := numW_any base P l g r W0 (H.stay hx0) (by omega) (by omega) (Nat.le_trans hb hx0.size)
  have HF : Hid (∀ V, Frm (fun k => k = P ∨ some k = g) W0 V → Blk V w.heap.size 23 #[.int .i64 r, .int .i64 n]) := fun V h => kB.frm h (by
    rintro (e | e)
    · have := H.lt; omega
    · have := (H.glt _ e.symm).2.1; omega)
  have HNL : Hid ((numB r).length ≤ 10) := numF_len 10 r
  have hq1 : IntKind.u64.wrap (r : Int) = (r : Int) := wrap_u64_int r (by omega)
  have hq2 : IntKind.u64.wrap (n : Int) = (n : Int) := wrap_u64_int n (by omega)
  have c0 := (HF.out W0 (Frm.refl _ _)).cell 0
  have HX0 := Lib.hid hx0
  have HW0 := Lib.hid hW0
  simp at c0
  clear kB hx0 hW0 hz0 H
  go_enter Try.func72, Try.ntmps72
  go_wp2_with fail
  rw [← HW0.out]
  go_wp2_with fail
  go_at_call 93
  with_reducible refine C1.out.mono ?_
  rintro e w1 ⟨rfl, h1⟩
  have H1 := Lib.hid h1
  obtain ⟨g1, k1, k2, k3⟩ := h1
  have c1 := (HF.out w1 k2).cell 1
  have C2 : Hid (Calls Try.prog 93 #[.pointer (some ⟨P, 0, none⟩), .int .u64 n] w1 fun e w' => e = .returned (.tuple #[]) ∧ WrTo w1 w' base P (l ++ numB r ++ numB n) g1) := numW_any base P (l ++ numB r) g1 n w1 k1 (by omega) (by rw [List.length_append]; have := HNL.out; omega) (Nat.le_trans hb (Nat.le_trans HX0.out.size k2.size))
  have HK := Lib.hid (And.intro k1 (And.intro k2 k3))
  simp at c1
  clear k1 k2 k3 C1 c0
  go_wp2_with (go_at_call 93; (with_reducible refine C2.out.mono ?_); rintro e w2 ⟨rfl, h2⟩; have H2 := Lib.hid h2; clear h2)
  try go_end0
  refine hD.out _ _ ⟨rfl, ?_⟩
  obtain ⟨g2, q1, q2, q3⟩ := WrTo.trans HK.out H2.out
  rw [List.append_assoc] at q1
  refine ⟨g2, q1, Frm.tr (Frm.of_below HX0.out _) q2, ?_⟩
  rcases q3 with q3 | ⟨k, q3, hk⟩
  · exact .inl q3
  · exact .inr ⟨k, q3, Nat.le_trans HX0.out.size hk⟩

set_option maxRecDepth 8000 in
set_option maxHeartbeats 4000000 in
theorem getBal_any (P : Nat) (l : List UInt8) (bad : Bool) (w : World) (H : RdAt w P l bad) (hl : l.length ≤ 1000000000) :
    Calls Try.prog 78 #[.pointer (some ⟨P, 0, none⟩)] w fun e w' => e = .returned (.agg #[.int .i64 (rdNum l bad 1099511627776).1, .int .i64 (rdNum (rdNum l bad 1099511627776).2.1 (rdNum l bad 1099511627776).2.2 4).1]) ∧
      RdAt w' P (rdNum (rdNum l bad 1099511627776).2.1 (rdNum l bad 1099511627776).2.2 4).2.1 (rdNum (rdNum l bad 1099511627776).2.1 (rdNum l bad 1099511627776).2.2 4).2.2 ∧ Frm (fun k => k = P) w w' := by
  refine hide_post fun D hD => ?_
  obtain ⟨W0, hW0⟩ : ∃ W0, W0 = w.alloc (.cells #[.int .i64 0, .int .i64 0] 23) := ⟨_, rfl⟩
  have hx0 : Ext w W0 := by rw [hW0]; exact Ext.alloc _ _
  have kB : Blk W0 w.heap.size 23 #[.int .i64 0, .int .i64 0] := by rw [hW0]; exact Blk.new _ _ _
  have C1 : Hid (Calls Try.prog 94 #[.pointer (some ⟨P, 0, none⟩), .int .u64 1099511627776] W0 fun e w' => e = .returned (.int .u64 (rdNum l bad 1099511627776).1) ∧ RdAt w' P (rdNum l bad 1099511627776).2.1 (rdNum l bad 1099511627776).2.2 ∧ Frm (fun k => k = P) W0 w') := numR_any P l bad 1099511627776 W0 (H.stay hx0) hl
  have hlen := rdNum_len l bad 1099511627776
  have HPl : Hid (P < w.heap.size) := H.lt
  have HX0 := Lib.hid hx0
  have HW0 := Lib.hid hW0
  have HKB := Lib.hid kB
  clear H kB hW0 hx0
  generalize rdNum l bad 1099511627776 = x at *
  obtain ⟨v1, l1, b1⟩ := x
  simp only at *
  have C2 : Hid (∀ V, RdAt V P l1 b1 → Calls Try.prog 94 #[.pointer (some ⟨P, 0, none⟩), .int .u64 4] V fun e w' => e = .returned (.int .u64 (rdNum l1 b1 4).1) ∧ RdAt w' P (rdNum l1 b1 4).2.1 (rdNum l1 b1 4).2.2 ∧ Frm (fun k => k = P) V w') := fun V h => numR_any P l1 b1 4 V h (by omega)
  have hlen2 := rdNum_len l1 b1 4
  generalize rdNum l1 b1 4 = y at *
  obtain ⟨v2, l2, b2⟩ := y
  simp only at *
  have hv1 := hlen.2
  have hv2 := hlen2.2
  have hq1 : IntKind.i64.wrap (v1 : Int) = (v1 : Int) := IntWalk.i64_in _ (by omega)
  have hq2 : IntKind.i64.wrap (v2 : Int) = (v2 : Int) := IntWalk.i64_in _ (by omega)
  clear hlen hlen2
  go_enter Try.func78, Try.ntmps78
  go_wp2_with (first
    | (go_at_call 94; rw [← HW0.out]; (with_reducible refine C1.out.mono ?_); rintro e w1 ⟨rfl, hr, hf⟩; have HR1 := Lib.hid hr; have HF1 := Lib.hid hf; clear C1 hr hf)
    | (go_at_call 94; (with_reducible refine (C2.out _ HR1.out).mono ?_); rintro e w2 ⟨rfl, hr, hf⟩; have HR2 := Lib.hid hr; have hKB2 := HKB.out.frm (Frm.tr HF1.out hf) (show ¬ w.heap.size = P by have := HPl.out; omega); have HF2 := Lib.hid hf; have d0 := hKB2.cell 0; have d1 := hKB2.cell 1; have f0 := hKB2.frozen 0; have f1 := hKB2.frozen 1; have HK2 := Lib.hid hKB2; simp at d0 d1; clear hr hf hKB2))
  have hF : Frm (fun k => k = w.heap.size) w2 ((w2.setCell ⟨w.heap.size, 0, none⟩ (.int .i64 v1)).setCell ⟨w.heap.size, 1, none⟩ (.int .i64 v2)) := Frm.tr (Frm.of_set _ _ _ rfl) (Frm.of_set _ _ _ rfl)
  have KA := (HK2.out.set 0 (.int .i64 v1)).set 1 (.int .i64 v2)
  have hcA := KA.cell 0
  have hcB := KA.cell 1
  simp at hcA hcB
  have hR3 : RdAt ((w2.setCell ⟨w.heap.size, 0, none⟩ (.int .i64 v1)).setCell ⟨w.heap.size, 1, none⟩ (.int .i64 v2)) P l2 b2 := by
    obtain ⟨A, cap, h1, h2, h3, h4⟩ := HR2.out
    refine ⟨A, cap, h1.frm hF (show ¬ P = w.heap.size by have := HPl.out; omega), fun j v hj => ?_, h3, h4⟩
    obtain ⟨b', o', e, hc⟩ := h2 j v hj
    refine ⟨b', o', e, (World.cell?_of_block (hF.block b' (World.block_lt_of_cell? w2 _ hc) ?_)).trans hc⟩
    intro hb
    subst hb
    rw [Blk.cell HK2.out] at hc
    match o' + j, hc with
    | 0, hc => simp [Go.Proofs.Ytkdcbidbciognaa.u8] at hc
    | 1, hc => simp [Go.Proofs.Ytkdcbidbciognaa.u8] at hc
    | n + 2, hc => simp at hc
  have hFw : Frm (fun k => k = P) w ((w2.setCell ⟨w.heap.size, 0, none⟩ (.int .i64 v1)).setCell ⟨w.heap.size, 1, none⟩ (.int .i64 v2)) := by
    have h0 := Frm.tr (Frm.of_below HX0.out (fun k => k = P)) (Frm.tr HF1.out HF2.out)
    exact h0.trans hF (fun k hk e => by omega)
  exact bodyPost_ret (v := .agg #[.int .i64 v1, .int .i64 v2]) (by simp [results, Try.results78, go_sem, hcA, hcB]) rfl (hD.out _ _ ⟨rfl, hR3, hFw⟩)
end Go.Proofs.Ytkdcbidbciognaa

namespace Go.Proofs.Ytkdcbidbciognaa
set_option linter.unusedVariables false
set_option linter.unusedSimpArgs false
open Go.RowKit

def valL : List UInt8 → Nat
  | [] => 0
  | x :: r => x.toNat % 128 + 128 * valL r
theorem valL_snoc : ∀ (d : List UInt8) (c : UInt8), valL (d ++ [c]) = valL d + c.toNat % 128 * 2 ^ (7 * d.length)
  | [], c => by simp [valL]
  | x :: r, c => by
    rw [List.cons_append, valL, valL, valL_snoc r c, List.length_cons, pow_next, Nat.mul_add, ← Nat.mul_assoc, ← Nat.mul_assoc, Nat.mul_comm 128 (c.toNat % 128), Nat.add_assoc]
theorem valL_pos : ∀ (d : List UInt8) (c : UInt8), c.toNat % 128 ≠ 0 → 0 < valL (d ++ [c])
  | [], c, h => by simp [valL]; omega
  | x :: r, c, h => by
    rw [List.cons_append, valL]
    have := valL_pos r c h
    omega
theorem numF_val : ∀ (d : List UInt8) (c : UInt8) (f : Nat), (∀ x ∈ d, 128 ≤ x.toNat) → c.toNat < 128 → (d = [] ∨ c.toNat ≠ 0) → d.length ≤ f → numF (f + 1) (valL (d ++ [c])) = d ++ [c]
  | [], c, f, _, hc, _, _ => by
    have e : valL ([] ++ [c]) = c.toNat := by simp [valL]; omega
    rw [e, numF, if_pos hc, UInt8.ofNat_toNat]
    rfl
  | x :: r, c, f, hd, hc, h0, hf => by
    have hc0 : c.toNat ≠ 0 := by
      rcases h0 with h | h
      · cases h
      · exact h
    have hx := hd x (List.mem_cons_self ..)
    have hp := valL_pos r c (by omega)
    have hxl := x.toNat_lt
    match f, hf with
    | f + 1, hf =>
      have ih := numF_val r c f (fun y hy => hd y (List.mem_cons_of_mem _ hy)) hc (.inr hc0) (by simpa using hf)
      rw [List.cons_append, valL, numF, if_neg (by omega)]
      rw [show (x.toNat % 128 + 128 * valL (r ++ [c])) / 128 = valL (r ++ [c]) by omega, ih]
      rw [show (x.toNat % 128 + 128 * valL (r ++ [c])) % 128 + 128 = x.toNat by omega, UInt8.ofNat_toNat]
theorem num_canon (d : List UInt8) (c : UInt8) (hd : ∀ x ∈ d, 128 ≤ x.toNat) (hc : c.toNat < 128) (hl : d.length ≤ 9) (hv : valL (d ++ [c]) < 18446744073709551616) :
    numB (valL (d ++ [c])) = d ++ [c] ↔ ¬ (c.toNat = 0 ∧ 0 < d.length) := by
  constructor
  · rintro h ⟨h1, h2⟩
    have hc0 : c = 0 := UInt8.toNat_inj.1 h1
    subst hc0
    have e := rdGo_numB 18446744073709551615 (valL (d ++ [0])) [] hv
    rw [List.append_nil, h, rdGo_tail _ d 0 0 hd (by omega), if_neg (by omega)] at e
    cases e
  · intro h
    exact numF_val d c 9 hd hc (by
      by_cases h0 : d = []
      · exact .inl h0
      · exact .inr (fun e => h ⟨e, List.length_pos_iff.2 h0⟩)) hl
end Go.Proofs.Ytkdcbidbciognaa

namespace Go.Proofs.Ytkdcbidbciognaa
set_option linter.unusedVariables false
set_option linter.unusedSimpArgs false
open Go.RowKit

end Go.Proofs.Ytkdcbidbciognaa

namespace Go.Proofs.Ytkdcbidbciognaa
set_option linter.unusedVariables false
set_option linter.unusedSimpArgs false
open Go.RowKit

/-- what the document's reader answers for a number -/
def rfNum (l : List UInt8) (bad : Bool) (most : Nat) : Nat × List UInt8 × Bool :=
  if bad then (0, [], true) else match rdGo most 0 0 l with | some (v, r) => (v, r, false) | none => (0, [], true)
theorem and127u (c : UInt8) : bits BinOp.and IntKind.u64 (c.toNat : Int) 127 = ((c.toNat % 128 : Nat) : Int) := by
  have h := u64_and_nat c.toNat 127 (by have := c.toNat_lt; omega) (by decide)
  rw [show (127 : Nat) = 2 ^ 7 - 1 by decide, Nat.and_two_pow_sub_one_eq_mod] at h
  exact h

end Go.Proofs.Ytkdcbidbciognaa

namespace Go.Proofs.Ytkdcbidbciognaa
set_option linter.unusedVariables false
set_option linter.unusedSimpArgs false
open Go.RowKit

def rfText (l : List UInt8) (bad : Bool) (most : Nat) : List UInt8 × List UInt8 × Bool :=
  if (rfNum l bad most).2.2 then ([], [], true)
  else if (rfNum l bad most).2.1.length < (rfNum l bad most).1 then ([], [], true)
  else ((rfNum l bad most).2.1.take (rfNum l bad most).1, (rfNum l bad most).2.1.drop (rfNum l bad most).1, false)
def rfYes (l : List UInt8) (bad : Bool) : Bool × List UInt8 × Bool :=
  if bad then (false, [], true) else match l with | [] => (false, [], true) | c :: r => if 1 < c.toNat then (false, [], true) else (decide (c.toNat = 1), r, false)
theorem rfNum_len (l : List UInt8) (bad : Bool) (most : Nat) : (rfNum l bad most).2.1.length ≤ l.length ∧ (rfNum l bad most).1 ≤ most := by
  unfold rfNum
  split
  · simp
  · split
    · rename_i v r h
      have := rdGo_len most l 0 0 _ h
      simpa using this
    · simp
theorem str_extract (l : List UInt8) (a b : Nat) : (str l).extract a b = str ((l.drop a).take (b - a)) := by
  simp [str, ByteArray.ext_iff]
theorem str_back (l : List UInt8) (k : Nat) : (str l).extract k (str l).size = str (l.drop k) := by
  rw [str_extract, str_size, List.take_of_length_le (by simp)]

/-! ### The two readers answer alike -/
/-- both wrong, or both right with the same bytes left -/
def Rel (x y : List UInt8 × Bool) : Prop := (x.2 = false ∧ y.2 = false ∧ x.1 = y.1) ∨ (x.2 = true ∧ y.2 = true)
theorem rel_num {l l' : List UInt8} {b b' : Bool} (h : Rel (l, b) (l', b')) (most : Nat) : (rdNum l b most).1 = (rfNum l' b' most).1 ∧ Rel (rdNum l b most).2 (rfNum l' b' most).2 := by
  rcases h with ⟨h1, h2, h3⟩ | ⟨h1, h2⟩
  · simp only at h1 h2 h3
    subst h1 h2 h3
    unfold rdNum rfNum
    simp only [Bool.false_eq_true, if_false]
    cases rdGo most 0 0 l with
    | some x => exact ⟨rfl, .inl ⟨rfl, rfl, rfl⟩⟩
    | none => exact ⟨rfl, .inr ⟨rfl, rfl⟩⟩
  · simp only at h1 h2
    subst h1 h2
    exact ⟨rfl, .inr ⟨rfl, rfl⟩⟩
theorem rel_text {l l' : List UInt8} {b b' : Bool} (h : Rel (l, b) (l', b')) (most : Nat) : (rdText l b most).1 = (rfText l' b' most).1 ∧ Rel (rdText l b most).2 (rfText l' b' most).2 := by
  have := rel_num h most
  unfold rdText rfText
  generalize rdNum l b most = x at *
  generalize rfNum l' b' most = y at *
  obtain ⟨v, L, c⟩ := x
  obtain ⟨v', L', c'⟩ := y
  obtain ⟨h1, h2⟩ := this
  simp only at *
  subst h1
  rcases h2 with ⟨h1, h2, h3⟩ | ⟨h1, h2⟩
  · simp only at h1 h2 h3
    subst h1 h2 h3
    simp only [Bool.false_eq_true, if_false]
    split
    · exact ⟨rfl, .inr ⟨rfl, rfl⟩⟩
    · exact ⟨rfl, .inl ⟨rfl, rfl, rfl⟩⟩
  · simp only at h1 h2
    subst h1 h2
    exact ⟨rfl, .inr ⟨rfl, rfl⟩⟩
theorem rdGo_low (most : Nat) : ∀ (l : List UInt8) (i v : Nat) (x : Nat × List UInt8), rdGo most i v l = some x → 0 < i → 2 ^ (7 * i) ≤ x.1
  | [], _, _, _, h, _ => by simp [rdGo] at h
  | c :: r, i, v, x, h, hi => by
    rw [rdGo] at h
    split at h
    · cases h
    · split at h
      · have := rdGo_low most r _ _ x h (by omega)
        rw [pow_next] at this
        have hp : 0 < 2 ^ (7 * i) := Nat.pow_pos (by omega)
        omega
      · split at h
        · cases h
        · rename_i h1 h2 h3
          injection h with h
          subst h
          have hc : 1 ≤ c.toNat % 128 := by omega
          have := Nat.mul_le_mul_right (2 ^ (7 * i)) hc
          simp only
          omega
theorem rel_yes {l l' : List UInt8} {b b' : Bool} (h : Rel (l, b) (l', b')) : decide ((rdNum l b 1).1 = 1) = (rfYes l' b').1 ∧ Rel (rdNum l b 1).2 (rfYes l' b').2 := by
  rcases h with ⟨h1, h2, h3⟩ | ⟨h1, h2⟩
  · simp only at h1 h2 h3
    subst h1 h2 h3
    unfold rdNum rfYes
    simp only [Bool.false_eq_true, if_false]
    cases l with
    | nil => exact ⟨by simp [rdGo], .inr ⟨by simp [rdGo], rfl⟩⟩
    | cons c r =>
      have hn : 1 < c.toNat → rdGo 1 0 0 (c :: r) = none := fun h1 => by
        cases hg : rdGo 1 0 0 (c :: r) with
        | none => rfl
        | some x =>
          have h2 := (rdGo_len 1 _ _ _ x hg).2
          rw [rdGo] at hg
          split at hg
          · cases hg
          · split at hg
            · have := rdGo_low 1 r _ _ x hg (by omega)
              have e : (2 : Nat) ^ (7 * (0 + 1)) = 128 := by decide
              omega
            · split at hg
              · cases hg
              · rename_i h3 h4 h5
                exact absurd (.inr (by omega)) h5
      by_cases h1 : 1 < c.toNat
      · rw [hn h1]
        simp only [if_pos h1]
        exact ⟨rfl, .inr ⟨rfl, rfl⟩⟩
      · have e : rdGo 1 0 0 (c :: r) = some (c.toNat, r) := by
          rw [rdGo, if_neg (by omega), if_neg (by omega), if_neg (by omega)]
          congr 2
          omega
        rw [e]
        simp only [if_neg h1]
        exact ⟨trivial, .inl ⟨rfl, rfl, rfl⟩⟩
  · simp only at h1 h2
    subst h1 h2
    exact ⟨by simp [rdNum, rfYes], .inr ⟨by simp [rdNum], rfl⟩⟩
theorem rel_end {l l' : List UInt8} {b b' : Bool} (h : Rel (l, b) (l', b')) : endN l b = endN l' b' := by
  rcases h with ⟨h1, h2, h3⟩ | ⟨h1, h2⟩
  · simp only at h1 h2 h3
    subst h1 h2 h3
    rfl
  · simp only at h1 h2
    subst h1 h2
    rfl
end Go.Proofs.Ytkdcbidbciognaa

namespace Go.Proofs.Ytkdcbidbciognaa
set_option linter.unusedVariables false
set_option linter.unusedSimpArgs false
open Go.RowKit

/-- which requests may be: n is the text's length -/
def mayReqB (c s k i m : Int) (n : Nat) : Bool :=
  decide (0 ≤ c ∧ c ≤ 3 ∧ 1 ≤ s ∧ s ≤ 1073741824 ∧ 0 ≤ i ∧ i ≤ 31 ∧ 0 ≤ m ∧ m ≤ 100 ∧
    ((k = 1 ∧ m = 0 ∧ n ≤ 64) ∨ (k = 2 ∧ n ≤ 64) ∨ (k = 3 ∧ n = 0) ∨ (k = 5 ∧ 1 ≤ m ∧ n = 0) ∨ ((k = 4 ∨ k = 6) ∧ m = 0 ∧ n = 0)))

theorem within_any (n lo hi : Int) (w : World) : Calls Try.prog 82 #[.int .i64 n, .int .i64 lo, .int .i64 hi] w fun e w' => e = .returned (.bool (decide (lo ≤ n ∧ n ≤ hi))) ∧ w = w' := by
  generalize hr : decide (lo ≤ n ∧ n ≤ hi) = r
  have HR := Lib.hid hr
  clear hr
  by_cases h1 : lo ≤ n
  · by_cases h2 : n ≤ hi
    · go_enter Try.func82, Try.ntmps82
      go_wp2
      go_ret
      exact ⟨ret_bool (by rw [← HR.out]; exact dec_true ⟨h1, h2⟩), rfl⟩
    · go_enter Try.func82, Try.ntmps82
      go_wp2
      go_ret
      exact ⟨ret_bool (by rw [← HR.out]; first | exact dec_false (by omega) | exact dec_iff (by omega)), rfl⟩
  · go_enter Try.func82, Try.ntmps82
    go_wp2
    go_ret
    exact ⟨ret_bool (by rw [← HR.out]; first | exact dec_false (by omega) | exact dec_iff (by omega)), rfl⟩

theorem bytes_of_size_zero {d : ByteArray} (h : d.size = 0) : d = ByteArray.empty := by
  apply Go.WideShapes.bytes_inj
  have : d.data.toList.length = 0 := by rw [Array.length_toList]; exact h
  rw [List.eq_nil_of_length_eq_zero this]
  rfl

theorem isEmpty_size (d : ByteArray) : d.toList.isEmpty = decide (d.size = 0) := by
  rw [ByteArray.toList_eq]
  by_cases h : d.size = 0
  · have := bytes_of_size_zero h
    subst this
    rfl
  · rw [decide_eq_false h]
    cases hl : d.data.toList with
    | nil => exact absurd (by show d.data.size = 0; rw [← Array.length_toList, hl]; rfl) h
    | cons x r => rfl

end Go.Proofs.Ytkdcbidbciognaa

namespace Go.Proofs.Ytkdcbidbciognaa
set_option linter.unusedVariables false
set_option linter.unusedSimpArgs false
open Go.RowKit

theorem rdGo_split (most : Nat) : ∀ (l : List UInt8) (i v : Nat) (x : Nat × List UInt8), i ≤ 9 → rdGo most i v l = some x →
    ∃ d c, l = d ++ c :: x.2 ∧ (∀ y ∈ d, 128 ≤ y.toNat) ∧ c.toNat < 128 ∧ x.1 = v + valL (d ++ [c]) * 2 ^ (7 * i) ∧ ¬ (c.toNat = 0 ∧ 0 < i + d.length) ∧ i + d.length ≤ 9 ∧ x.1 ≤ most
  | [], i, v, x, hi, h => by simp [rdGo] at h
  | c :: r, i, v, x, hi, h => by
    unfold rdGo at h
    split at h
    · cases h
    · rename_i h9
      split at h
      · rename_i hc
        have h9' : i ≤ 8 := by
          by_cases e : i = 9
          · exact absurd ⟨e, by omega⟩ h9
          · omega
        obtain ⟨d, c', e1, e2, e3, e4, e5, e6, e7⟩ := rdGo_split most r (i + 1) _ x (by omega) h
        refine ⟨c :: d, c', by rw [e1]; rfl, ?_, e3, ?_, ?_, ?_, e7⟩
        · intro y hy
          rcases List.mem_cons.1 hy with rfl | hy
          · exact hc
          · exact e2 y hy
        · rw [e4, List.cons_append, valL, pow_next, Nat.add_mul]
          rw [show valL (d ++ [c']) * (128 * 2 ^ (7 * i)) = 128 * valL (d ++ [c']) * 2 ^ (7 * i) by rw [Nat.mul_comm 128 (valL _), Nat.mul_assoc]]
          omega
        · rintro ⟨q1, q2⟩
          exact e5 ⟨q1, by omega⟩
        · simp; omega
      · rename_i hc
        split at h
        · cases h
        · rename_i hn
          injection h with h
          subst h
          refine ⟨[], c, rfl, by simp, by omega, ?_, ?_, by simpa using hi, by simp; omega⟩
          · simp [valL]
          · rintro ⟨q1, q2⟩
            exact hn (.inl ⟨q1, by simpa using q2⟩)

theorem rdGo_canon {most : Nat} {l : List UInt8} {v : Nat} {r : List UInt8} (hm : most < 18446744073709551616) (h : rdGo most 0 0 l = some (v, r)) : l = numB v ++ r ∧ v ≤ most := by
  obtain ⟨d, c, e1, e2, e3, e4, e5, e6, e7⟩ := rdGo_split most l 0 0 (v, r) (by omega) h
  simp only [Nat.mul_zero, Nat.pow_zero, Nat.mul_one, Nat.zero_add] at e4 e5 e6
  have := (num_canon d c e2 e3 e6 (by simp only at e7; omega)).2 e5
  rw [← e4] at this
  refine ⟨?_, e7⟩
  rw [this, e1, List.append_assoc]
  rfl

theorem rdNum_ok {l : List UInt8} {b : Bool} {most v : Nat} {r : List UInt8} (hm : most < 18446744073709551616) (h : rdNum l b most = (v, r, false)) : b = false ∧ l = numB v ++ r ∧ v ≤ most := by
  cases b with
  | true => rw [rdNum_bad] at h; injection h with h1 h2; injection h2 with h2 h3; cases h3
  | false =>
    refine ⟨rfl, ?_⟩
    unfold rdNum at h
    simp only [Bool.false_eq_true, if_false] at h
    cases hg : rdGo most 0 0 l with
    | none => rw [hg] at h; injection h with h1 h2; injection h2 with h2 h3; cases h3
    | some x =>
      obtain ⟨v', r'⟩ := x
      rw [hg] at h
      injection h with h1 h2
      injection h2 with h2 h3
      subst h1 h2
      exact rdGo_canon hm hg

theorem str_list (s : ByteArray) : str s.data.toList = s := by
  apply ByteArray.ext
  simp [str]
theorem textB_str (t : List UInt8) : textB (str t) = numB t.length ++ t := by unfold textB; rw [str_size, str_toList]

theorem rdText_ok {l : List UInt8} {b : Bool} {most : Nat} {t r : List UInt8} (hm : most < 18446744073709551616) (h : rdText l b most = (t, r, false)) : b = false ∧ l = textB (str t) ++ r := by
  unfold rdText at h
  split at h
  · injection h with h1 h2; injection h2 with h2 h3; cases h3
  · rename_i hb
    split at h
    · injection h with h1 h2; injection h2 with h2 h3; cases h3
    · rename_i hl
      have hn : rdNum l b most = ((rdNum l b most).1, (rdNum l b most).2.1, false) := by
        generalize rdNum l b most = x at *
        obtain ⟨x1, x2, x3⟩ := x
        simp only at hb
        cases x3 with
        | true => exact absurd rfl hb
        | false => rfl
      obtain ⟨e1, e2, e3⟩ := rdNum_ok hm hn
      refine ⟨e1, ?_⟩
      generalize rdNum l b most = x at *
      obtain ⟨x1, x2, x3⟩ := x
      simp only at *
      injection h with h1 h2
      injection h2 with h2 h3
      rw [textB_str, ← h1, ← h2, List.length_take, Nat.min_eq_left (by omega), List.append_assoc, List.take_append_drop]
      exact e2

/-! ### requests -/
structure Rq where
  c : Nat
  s : Nat
  k : Nat
  i : Nat
  m : Nat
  d : ByteArray
def Rq.may (q : Rq) : Bool := mayReqB q.c q.s q.k q.i q.m q.d.size
def Rq.zero : Rq := ⟨0, 0, 0, 0, 0, ByteArray.empty⟩
def Rq.val (q : Rq) : Value := .agg #[.int .i64 q.c, .int .i64 q.s, .int .i64 q.k, .int .i64 q.i, .int .i64 q.m, .string q.d]
def numsB : List Nat → List UInt8
  | [] => []
  | x :: r => numB x ++ numsB r
def putB (q : Rq) : List UInt8 := numsB [q.c, q.s, q.k, q.i, q.m] ++ textB q.d
theorem putB_eq (q : Rq) (r : List UInt8) : putB q ++ r = numB q.c ++ (numB q.s ++ (numB q.k ++ (numB q.i ++ (numB q.m ++ (textB q.d ++ r))))) := by simp [putB, numsB]
theorem Rq.may_le {q : Rq} (h : q.may = true) : q.c ≤ 3 ∧ 1 ≤ q.s ∧ q.s ≤ 1073741824 ∧ 1 ≤ q.k ∧ q.k ≤ 6 ∧ q.i ≤ 31 ∧ q.m ≤ 100 ∧ q.d.size ≤ 64 := by
  unfold Rq.may mayReqB at h
  have := of_decide_eq_true h
  omega

/-- a request read from l on: what each step answered -/
def RdQ (M1 M2 M3 M4 M5 MT : Nat) (l : List UInt8) (b : Bool) (q : Rq) (l' : List UInt8) (b' : Bool) : Prop :=
  ∃ l1 b1 l2 b2 l3 b3 l4 b4 l5 b5, rdNum l b M1 = (q.c, l1, b1) ∧ rdNum l1 b1 M2 = (q.s, l2, b2) ∧ rdNum l2 b2 M3 = (q.k, l3, b3) ∧ rdNum l3 b3 M4 = (q.i, l4, b4) ∧ rdNum l4 b4 M5 = (q.m, l5, b5) ∧ rdText l5 b5 MT = (q.d.data.toList, l', b')

theorem RdQ.ok {M1 M2 M3 M4 M5 MT : Nat} {l : List UInt8} {b : Bool} {q : Rq} {l' : List UInt8} (h : RdQ M1 M2 M3 M4 M5 MT l b q l' false)
    (h1 : M1 < 18446744073709551616) (h2 : M2 < 18446744073709551616) (h3 : M3 < 18446744073709551616) (h4 : M4 < 18446744073709551616) (h5 : M5 < 18446744073709551616) (h6 : MT < 18446744073709551616) : l = putB q ++ l' := by
  obtain ⟨l1, b1, l2, b2, l3, b3, l4, b4, l5, b5, e1, e2, e3, e4, e5, e6⟩ := h
  obtain ⟨rfl, f6⟩ := rdText_ok h6 e6
  obtain ⟨rfl, f5, _⟩ := rdNum_ok h5 e5
  obtain ⟨rfl, f4, _⟩ := rdNum_ok h4 e4
  obtain ⟨rfl, f3, _⟩ := rdNum_ok h3 e3
  obtain ⟨rfl, f2, _⟩ := rdNum_ok h2 e2
  obtain ⟨rfl, f1, _⟩ := rdNum_ok h1 e1
  rw [putB_eq, f1, f2, f3, f4, f5, f6, str_list]

theorem rdText_put (s : ByteArray) (m : Nat) (r : List UInt8) (hs : s.size < 18446744073709551616) (h : s.size ≤ m) : rdText (textB s ++ r) false m = (s.data.toList, r, false) := by
  have hz : s.data.toList.length = s.size := by rw [Array.length_toList]; rfl
  unfold textB
  rw [List.append_assoc]
  have hn := rdNum_numB m s.size (s.data.toList ++ r) hs
  rw [if_neg (show ¬ m < s.size by omega)] at hn
  unfold rdText
  rw [hn]
  simp only [Bool.false_eq_true, if_false]
  rw [if_neg (by rw [List.length_append, hz]; omega), ← hz, List.take_left, List.drop_left]

theorem RdQ.det {M1 M2 M3 M4 M5 MT : Nat} {b' : Bool} {p q : Rq} {r l' : List UInt8} (h : RdQ M1 M2 M3 M4 M5 MT (putB p ++ r) false q l' b')
    (h1 : p.c ≤ M1) (h2 : p.s ≤ M2) (h3 : p.k ≤ M3) (h4 : p.i ≤ M4) (h5 : p.m ≤ M5) (h6 : p.d.size ≤ MT) (hp : p.may = true) : q = p ∧ l' = r ∧ b' = false := by
  have hb := Rq.may_le hp
  obtain ⟨l1, b1, l2, b2, l3, b3, l4, b4, l5, b5, e1, e2, e3, e4, e5, e6⟩ := h
  rw [putB_eq, rdNum_numB _ _ _ (by omega), if_neg (by omega)] at e1
  injection e1 with f1 g1; injection g1 with g1 k1; subst g1 k1
  rw [rdNum_numB _ _ _ (by omega), if_neg (by omega)] at e2
  injection e2 with f2 g2; injection g2 with g2 k2; subst g2 k2
  rw [rdNum_numB _ _ _ (by omega), if_neg (by omega)] at e3
  injection e3 with f3 g3; injection g3 with g3 k3; subst g3 k3
  rw [rdNum_numB _ _ _ (by omega), if_neg (by omega)] at e4
  injection e4 with f4 g4; injection g4 with g4 k4; subst g4 k4
  rw [rdNum_numB _ _ _ (by omega), if_neg (by omega)] at e5
  injection e5 with f5 g5; injection g5 with g5 k5; subst g5 k5
  rw [rdText_put _ _ _ (by omega) (by omega)] at e6
  injection e6 with f6 g6; injection g6 with g6 k6; subst g6 k6
  have hd : q.d = p.d := by rw [← str_list q.d, ← f6, str_list]
  obtain ⟨qc, qs, qk, qi, qm, qd⟩ := q
  obtain ⟨pc, ps, pk, pi, pm, pd⟩ := p
  simp only at f1 f2 f3 f4 f5 hd
  subst f1 f2 f3 f4 f5 hd
  exact ⟨rfl, rfl, rfl⟩

/-- every list is read somehow -/
theorem RdQ.is (M1 M2 M3 M4 M5 MT : Nat) (l : List UInt8) (b : Bool) : ∃ q l' b', RdQ M1 M2 M3 M4 M5 MT l b q l' b' := by
  rcases h1 : rdNum l b M1 with ⟨v1, l1, b1⟩
  rcases h2 : rdNum l1 b1 M2 with ⟨v2, l2, b2⟩
  rcases h3 : rdNum l2 b2 M3 with ⟨v3, l3, b3⟩
  rcases h4 : rdNum l3 b3 M4 with ⟨v4, l4, b4⟩
  rcases h5 : rdNum l4 b4 M5 with ⟨v5, l5, b5⟩
  rcases h6 : rdText l5 b5 MT with ⟨t, l6, b6⟩
  exact ⟨⟨v1, v2, v3, v4, v5, str t⟩, l6, b6, l1, b1, l2, b2, l3, b3, l4, b4, l5, b5, h1, h2, h3, h4, h5, by rw [h6]; simp [str_toList]⟩

/-- the request of bytes, or none -/
def GotQ (l : List UInt8) (q : Rq) (e : Int) : Prop := (q.may = true ∧ l = putB q ∧ e = 0) ∨ ((∀ p : Rq, p.may = true → l ≠ putB p) ∧ q = Rq.zero ∧ e = 2)

theorem endN_ok {l : List UInt8} {b : Bool} : endN l b = 0 ↔ b = false ∧ l = [] := by
  unfold endN
  cases b <;> cases l <;> simp <;> omega

theorem RdQ.got {M1 M2 M3 M4 M5 MT : Nat} {l : List UInt8} {q : Rq} {l' : List UInt8} {b' : Bool} (h : RdQ M1 M2 M3 M4 M5 MT l false q l' b')
    (h1 : 4 ≤ M1 ∧ M1 < 18446744073709551616) (h2 : 1073741824 ≤ M2 ∧ M2 < 18446744073709551616) (h3 : 6 ≤ M3 ∧ M3 < 18446744073709551616) (h4 : 31 ≤ M4 ∧ M4 < 18446744073709551616) (h5 : 100 ≤ M5 ∧ M5 < 18446744073709551616) (h6 : 64 ≤ MT ∧ MT < 18446744073709551616) :
    (endN l' b' = 0 ∧ q.may = true → GotQ l q 0) ∧ (¬ (endN l' b' = 0 ∧ q.may = true) → GotQ l Rq.zero 2) := by
  constructor
  · rintro ⟨he, hm⟩
    obtain ⟨rfl, rfl⟩ := endN_ok.1 he
    have := h.ok h1.2 h2.2 h3.2 h4.2 h5.2 h6.2
    rw [List.append_nil] at this
    exact .inl ⟨hm, this, rfl⟩
  · intro hn
    refine .inr ⟨fun p hp e => hn ?_, rfl, rfl⟩
    have hb := Rq.may_le hp
    rw [e, ← List.append_nil (putB p)] at h
    obtain ⟨rfl, rfl, rfl⟩ := h.det (by omega) (by omega) (by omega) (by omega) (by omega) (by omega) hp
    exact ⟨rfl, hp⟩

theorem putB_inj {p q : Rq} {r r' : List UInt8} (hp : p.may = true) (hq : q.may = true) (h : putB p ++ r = putB q ++ r') : p = q ∧ r = r' := by
  have hb := Rq.may_le hp
  have hc := Rq.may_le hq
  obtain ⟨x, l', b', hx⟩ := RdQ.is 4 1073741824 6 31 100 64 (putB p ++ r) false
  obtain ⟨e1, e2, _⟩ := hx.det (by omega) (by omega) (by omega) (by omega) (by omega) (by omega) hp
  rw [h] at hx
  obtain ⟨f1, f2, _⟩ := hx.det (by omega) (by omega) (by omega) (by omega) (by omega) (by omega) hq
  exact ⟨e1.symm.trans f1, e2.symm.trans f2⟩

theorem GotQ.det {l : List UInt8} {q q' : Rq} {e e' : Int} (h : GotQ l q e) (h' : GotQ l q' e') : q = q' ∧ e = e' := by
  rcases h with ⟨h1, h2, h3⟩ | ⟨h1, h2, h3⟩
  · rcases h' with ⟨g1, g2, g3⟩ | ⟨g1, g2, g3⟩
    · have := putB_inj (r := []) (r' := []) h1 g1 (by rw [List.append_nil, List.append_nil, ← h2, ← g2])
      exact ⟨this.1, by rw [h3, g3]⟩
    · exact absurd h2 (g1 q h1)
  · rcases h' with ⟨g1, g2, g3⟩ | ⟨g1, g2, g3⟩
    · exact absurd g2 (h1 q' g1)
    · exact ⟨by rw [h2, g2], by rw [h3, g3]⟩
theorem GotQ.put {p : Rq} (hp : p.may = true) {q : Rq} {e : Int} (h : GotQ (putB p) q e) : q = p ∧ e = 0 := GotQ.det h (.inl ⟨hp, rfl, rfl⟩)
/-- a part of a request's bytes is none -/
theorem GotQ.cut {p : Rq} (hp : p.may = true) {k : Nat} (hk : k < (putB p).length) {q : Rq} {e : Int} (h : GotQ ((putB p).take k) q e) : e = 2 := by
  rcases h with ⟨h1, h2, h3⟩ | ⟨h1, h2, h3⟩
  · have e1 : putB q ++ (putB p).drop k = putB p ++ [] := by rw [← h2, List.take_append_drop, List.append_nil]
    have := (putB_inj h1 hp e1).2
    have hl := congrArg List.length this
    simp at hl
    omega
  · exact h3
end Go.Proofs.Ytkdcbidbciognaa

namespace Go.Proofs.Ytkdcbidbciognaa
set_option linter.unusedVariables false
set_option linter.unusedSimpArgs false
open Go.RowKit

/-- the document's reader, a request -/
def RfQ (M1 M2 M3 M4 M5 MT : Nat) (l : List UInt8) (b : Bool) (q : Rq) (l' : List UInt8) (b' : Bool) : Prop :=
  ∃ l1 b1 l2 b2 l3 b3 l4 b4 l5 b5, rfNum l b M1 = (q.c, l1, b1) ∧ rfNum l1 b1 M2 = (q.s, l2, b2) ∧ rfNum l2 b2 M3 = (q.k, l3, b3) ∧ rfNum l3 b3 M4 = (q.i, l4, b4) ∧ rfNum l4 b4 M5 = (q.m, l5, b5) ∧ rfText l5 b5 MT = (q.d.data.toList, l', b')

theorem rel_num' {l l' : List UInt8} {b b' : Bool} (h : Rel (l, b) (l', b')) {most v : Nat} {r' : List UInt8} {c' : Bool} (e : rfNum l' b' most = (v, r', c')) : ∃ r c, rdNum l b most = (v, r, c) ∧ Rel (r, c) (r', c') := by
  have := rel_num h most
  rw [e] at this
  rcases hx : rdNum l b most with ⟨v2, r, c⟩
  rw [hx] at this
  obtain ⟨h1, h2⟩ := this
  simp only at h1
  subst h1
  exact ⟨r, c, rfl, h2⟩
theorem rel_text' {l l' : List UInt8} {b b' : Bool} (h : Rel (l, b) (l', b')) {most : Nat} {t r' : List UInt8} {c' : Bool} (e : rfText l' b' most = (t, r', c')) : ∃ r c, rdText l b most = (t, r, c) ∧ Rel (r, c) (r', c') := by
  have := rel_text h most
  rw [e] at this
  rcases hx : rdText l b most with ⟨v2, r, c⟩
  rw [hx] at this
  obtain ⟨h1, h2⟩ := this
  simp only at h1
  subst h1
  exact ⟨r, c, rfl, h2⟩
theorem RfQ.rd {M1 M2 M3 M4 M5 MT : Nat} {l : List UInt8} {b : Bool} {q : Rq} {l' : List UInt8} {b' : Bool} (h : RfQ M1 M2 M3 M4 M5 MT l b q l' b') {l0 : List UInt8} {b0 : Bool} (hr : Rel (l0, b0) (l, b)) :
    ∃ l'' b'', RdQ M1 M2 M3 M4 M5 MT l0 b0 q l'' b'' ∧ endN l'' b'' = endN l' b' := by
  obtain ⟨l1, b1, l2, b2, l3, b3, l4, b4, l5, b5, e1, e2, e3, e4, e5, e6⟩ := h
  obtain ⟨k1, c1, f1, r1⟩ := rel_num' hr e1
  obtain ⟨k2, c2, f2, r2⟩ := rel_num' r1 e2
  obtain ⟨k3, c3, f3, r3⟩ := rel_num' r2 e3
  obtain ⟨k4, c4, f4, r4⟩ := rel_num' r3 e4
  obtain ⟨k5, c5, f5, r5⟩ := rel_num' r4 e5
  obtain ⟨k6, c6, f6, r6⟩ := rel_text' r5 e6
  exact ⟨k6, c6, ⟨k1, c1, k2, c2, k3, c3, k4, c4, k5, c5, f1, f2, f3, f4, f5, f6⟩, rel_end r6⟩

/-! ### chains -/
/-- numbers read one behind the other -/
def RdL (M : Nat) : List Nat → List UInt8 → Bool → List UInt8 → Bool → Prop
  | [], l, b, l', b' => l' = l ∧ b' = b
  | x :: r, l, b, l', b' => ∃ l1 b1, rdNum l b M = (x, l1, b1) ∧ RdL M r l1 b1 l' b'
theorem RdL.snoc {M : Nat} : ∀ {ns : List Nat} {l : List UInt8} {b : Bool} {l1 : List UInt8} {b1 : Bool} {x : Nat} {l2 : List UInt8} {b2 : Bool}, RdL M ns l b l1 b1 → rdNum l1 b1 M = (x, l2, b2) → RdL M (ns ++ [x]) l b l2 b2
  | [], l, b, l1, b1, x, l2, b2, h, e => by
    obtain ⟨rfl, rfl⟩ := h
    exact ⟨l2, b2, e, rfl, rfl⟩
  | y :: r, l, b, l1, b1, x, l2, b2, h, e => by
    obtain ⟨l3, b3, h1, h2⟩ := h
    exact ⟨l3, b3, h1, h2.snoc e⟩
theorem RdL.ok {M : Nat} (hM : M < 18446744073709551616) : ∀ {ns : List Nat} {l : List UInt8} {b : Bool} {l' : List UInt8}, RdL M ns l b l' false → b = false ∧ l = numsB ns ++ l'
  | [], l, b, l', h => by
    obtain ⟨rfl, rfl⟩ := h
    exact ⟨rfl, rfl⟩
  | x :: r, l, b, l', h => by
    obtain ⟨l1, b1, h1, h2⟩ := h
    obtain ⟨rfl, e2⟩ := h2.ok hM
    obtain ⟨rfl, e1, _⟩ := rdNum_ok hM h1
    exact ⟨rfl, by rw [e1, e2, numsB, List.append_assoc]⟩
theorem RdL.det {M : Nat} (hM : M < 18446744073709551616) : ∀ {ns ms : List Nat} {r l' : List UInt8} {b' : Bool}, RdL M ns (numsB ms ++ r) false l' b' → ns.length = ms.length → (∀ x ∈ ms, x ≤ M) → ns = ms ∧ l' = r ∧ b' = false
  | [], [], r, l', b', h, _, _ => by
    obtain ⟨rfl, rfl⟩ := h
    exact ⟨rfl, rfl, rfl⟩
  | x :: ns, y :: ms, r, l', b', h, hl, hm => by
    obtain ⟨l1, b1, h1, h2⟩ := h
    have hy := hm y (List.mem_cons_self ..)
    rw [numsB, List.append_assoc, rdNum_numB _ _ _ (by omega), if_neg (by omega)] at h1
    injection h1 with e1 e2; injection e2 with e2 e3; subst e1 e2 e3
    obtain ⟨rfl, rfl, rfl⟩ := h2.det hM (by simpa using hl) (fun x hx => hm x (List.mem_cons_of_mem _ hx))
    exact ⟨rfl, rfl, rfl⟩
theorem RdL.is (M : Nat) : ∀ (n : Nat) (l : List UInt8) (b : Bool), ∃ ns l' b', ns.length = n ∧ RdL M ns l b l' b'
  | 0, l, b => ⟨[], l, b, rfl, rfl, rfl⟩
  | n + 1, l, b => by
    rcases h1 : rdNum l b M with ⟨v, l1, b1⟩
    obtain ⟨ns, l', b', hl, h⟩ := RdL.is M n l1 b1
    exact ⟨v :: ns, l', b', by simp [hl], l1, b1, h1, h⟩
theorem RdL.bad {M : Nat} : ∀ {ns : List Nat} {l l' : List UInt8} {b' : Bool}, RdL M ns l true l' b' → b' = true
  | [], l, l', b', h => h.2
  | x :: r, l, l', b', h => by
    obtain ⟨l1, b1, h1, h2⟩ := h
    rw [rdNum_bad] at h1
    injection h1 with e1 e2; injection e2 with e2 e3; subst e1 e2 e3
    exact h2.bad

def ints (ns : List Nat) : List Int := ns.map fun (n : Nat) => (n : Int)
def putC (ep : Nat) (ns : List Nat) : List UInt8 := numsB [ep, ns.length] ++ numsB ns
theorem putC_eq (ep : Nat) (ns : List Nat) (r : List UInt8) : putC ep ns ++ r = numB ep ++ (numB ns.length ++ (numsB ns ++ r)) := by simp [putC, numsB]
theorem okNodes_mem : ∀ (l pre : List Int), okNodes pre l = true → ∀ x ∈ l, 0 ≤ x ∧ x ≤ 4
  | [], _, _, x, hx => by cases hx
  | y :: r, pre, h, x, hx => by
    rw [okNodes, Bool.and_eq_true, Bool.and_eq_true] at h
    rcases List.mem_cons.1 hx with rfl | hx
    · exact of_decide_eq_true h.1.1
    · exact okNodes_mem r _ h.2 x hx
theorem mayChainB_le {ep : Nat} {ns : List Nat} (h : mayChainB ep (ints ns) = true) : ep ≤ 1073741824 ∧ 1 ≤ ns.length ∧ ns.length ≤ 5 ∧ ∀ x ∈ ns, x ≤ 4 := by
  unfold mayChainB at h
  rw [Bool.and_eq_true, Bool.and_eq_true] at h
  obtain ⟨⟨h1, h2⟩, h3⟩ := h
  have h1 := of_decide_eq_true h1
  have h2 := of_decide_eq_true h2
  simp only [ints, List.length_map] at h2
  refine ⟨by omega, h2.1, h2.2, fun x hx => ?_⟩
  have := okNodes_mem _ _ h3 x (by unfold ints; exact List.mem_map.2 ⟨x, hx, rfl⟩)
  omega

/-- a chain read from l on -/
def RdC (M1 M2 M3 : Nat) (l : List UInt8) (ep : Nat) (ns : List Nat) (l' : List UInt8) (b' : Bool) : Prop :=
  ∃ l1 b1 l2 b2, rdNum l false M1 = (ep, l1, b1) ∧ rdNum l1 b1 M2 = (ns.length, l2, b2) ∧ RdL M3 ns l2 b2 l' b'
def GotC (l : List UInt8) (ep : Nat) (ns : List Nat) (e : Int) : Prop := (mayChainB ep (ints ns) = true ∧ l = putC ep ns ∧ e = 0) ∨ ((∀ ep' ns', mayChainB (ep' : Nat) (ints ns') = true → l ≠ putC ep' ns') ∧ ep = 0 ∧ ns = [] ∧ e = 2)

theorem RdC.det {M1 M2 M3 : Nat} {ep ep' : Nat} {ns ms : List Nat} {r l' : List UInt8} {b' : Bool} (h : RdC M1 M2 M3 (putC ep ms ++ r) ep' ns l' b') (h1 : ep ≤ M1) (h2 : ms.length ≤ M2) (h3 : ∀ x ∈ ms, x ≤ M3) (hM : M1 < 18446744073709551616 ∧ M2 < 18446744073709551616 ∧ M3 < 18446744073709551616) : ep' = ep ∧ ns = ms ∧ l' = r ∧ b' = false := by
  obtain ⟨l1, b1, l2, b2, e1, e2, e3⟩ := h
  rw [putC_eq, rdNum_numB _ _ _ (by omega), if_neg (by omega)] at e1
  injection e1 with f1 g1; injection g1 with g1 k1; subst f1 g1 k1
  rw [rdNum_numB _ _ _ (by omega), if_neg (by omega)] at e2
  injection e2 with f2 g2; injection g2 with g2 k2; subst g2 k2
  obtain ⟨f3, f4, f5⟩ := e3.det hM.2.2 f2.symm h3
  exact ⟨rfl, f3, f4, f5⟩
theorem RdC.got {M1 M2 M3 : Nat} {l : List UInt8} {ep : Nat} {ns : List Nat} {l' : List UInt8} {b' : Bool} (h : RdC M1 M2 M3 l ep ns l' b')
    (h1 : 1073741824 ≤ M1 ∧ M1 < 18446744073709551616) (h2 : 5 ≤ M2 ∧ M2 < 18446744073709551616) (h3 : 4 ≤ M3 ∧ M3 < 18446744073709551616) :
    (endN l' b' = 0 ∧ mayChainB ep (ints ns) = true → GotC l ep ns 0) ∧ (¬ (endN l' b' = 0 ∧ mayChainB ep (ints ns) = true) → GotC l 0 [] 2) := by
  constructor
  · rintro ⟨he, hm⟩
    obtain ⟨rfl, rfl⟩ := endN_ok.1 he
    obtain ⟨l1, b1, l2, b2, e1, e2, e3⟩ := h
    obtain ⟨rfl, f3⟩ := e3.ok h3.2
    obtain ⟨rfl, f2, _⟩ := rdNum_ok h2.2 e2
    obtain ⟨_, f1, _⟩ := rdNum_ok h1.2 e1
    refine .inl ⟨hm, ?_, rfl⟩
    have := putC_eq ep ns []
    rw [List.append_nil] at this
    rw [this, f1, f2, f3]
  · intro hn
    refine .inr ⟨fun p ms hp e => hn ?_, rfl, rfl, rfl⟩
    have hb := mayChainB_le hp
    rw [e, ← List.append_nil (putC p ms)] at h
    obtain ⟨rfl, rfl, rfl, rfl⟩ := h.det (by omega) (by omega) (fun x hx => by have := hb.2.2.2 x hx; omega) ⟨h1.2, h2.2, h3.2⟩
    exact ⟨rfl, hp⟩
theorem RdC.is (M1 M2 M3 : Nat) (l : List UInt8) : ∃ ep ns l' b', RdC M1 M2 M3 l ep ns l' b' := by
  rcases h1 : rdNum l false M1 with ⟨ep, l1, b1⟩
  rcases h2 : rdNum l1 b1 M2 with ⟨n, l2, b2⟩
  obtain ⟨ns, l', b', hl, h⟩ := RdL.is M3 n l2 b2
  subst hl
  exact ⟨ep, ns, l', b', l1, b1, l2, b2, h1, h2, h⟩
theorem putC_inj {ep ep' : Nat} {ns ns' : List Nat} {r r' : List UInt8} (hp : mayChainB ep (ints ns) = true) (hq : mayChainB ep' (ints ns') = true) (h : putC ep ns ++ r = putC ep' ns' ++ r') : ep = ep' ∧ ns = ns' ∧ r = r' := by
  have hb := mayChainB_le hp
  have hc := mayChainB_le hq
  obtain ⟨x, y, l', b', hx⟩ := RdC.is 1073741824 5 5 (putC ep ns ++ r)
  obtain ⟨e1, e2, e3, _⟩ := hx.det (by omega) (by omega) (fun x hx => by have := hb.2.2.2 x hx; omega) ⟨by omega, by omega, by omega⟩
  rw [h] at hx
  obtain ⟨f1, f2, f3, _⟩ := hx.det (by omega) (by omega) (fun x hx => by have := hc.2.2.2 x hx; omega) ⟨by omega, by omega, by omega⟩
  exact ⟨e1.symm.trans f1, e2.symm.trans f2, e3.symm.trans f3⟩
theorem GotC.det {l : List UInt8} {ep ep' : Nat} {ns ns' : List Nat} {e e' : Int} (h : GotC l ep ns e) (h' : GotC l ep' ns' e') : ep = ep' ∧ ns = ns' ∧ e = e' := by
  rcases h with ⟨h1, h2, h3⟩ | ⟨h1, h2, h3, h4⟩
  · rcases h' with ⟨g1, g2, g3⟩ | ⟨g1, g2, g3, g4⟩
    · obtain ⟨p1, p2, _⟩ := putC_inj (r := []) (r' := []) h1 g1 (by rw [List.append_nil, List.append_nil, ← h2, ← g2])
      exact ⟨p1, p2, by rw [h3, g3]⟩
    · exact absurd h2 (g1 _ _ h1)
  · rcases h' with ⟨g1, g2, g3⟩ | ⟨g1, g2, g3, g4⟩
    · exact absurd g2 (h1 _ _ g1)
    · exact ⟨by rw [h2, g2], by rw [h3, g3], by rw [h4, g4]⟩
theorem GotC.put {ep : Nat} {ns : List Nat} (hp : mayChainB ep (ints ns) = true) {ep' : Nat} {ns' : List Nat} {e : Int} (h : GotC (putC ep ns) ep' ns' e) : ep' = ep ∧ ns' = ns ∧ e = 0 := GotC.det h (.inl ⟨hp, rfl, rfl⟩)

/-- the document's reader, numbers one behind the other -/
def RfL (M : Nat) : List Nat → List UInt8 → Bool → List UInt8 → Bool → Prop
  | [], l, b, l', b' => l' = l ∧ b' = b
  | x :: r, l, b, l', b' => ∃ l1 b1, rfNum l b M = (x, l1, b1) ∧ RfL M r l1 b1 l' b'
theorem RfL.snoc {M : Nat} : ∀ {ns : List Nat} {l : List UInt8} {b : Bool} {l1 : List UInt8} {b1 : Bool} {x : Nat} {l2 : List UInt8} {b2 : Bool}, RfL M ns l b l1 b1 → rfNum l1 b1 M = (x, l2, b2) → RfL M (ns ++ [x]) l b l2 b2
  | [], l, b, l1, b1, x, l2, b2, h, e => by
    obtain ⟨rfl, rfl⟩ := h
    exact ⟨l2, b2, e, rfl, rfl⟩
  | y :: r, l, b, l1, b1, x, l2, b2, h, e => by
    obtain ⟨l3, b3, h1, h2⟩ := h
    exact ⟨l3, b3, h1, h2.snoc e⟩
theorem RfL.rd {M : Nat} : ∀ {ns : List Nat} {l : List UInt8} {b : Bool} {l' : List UInt8} {b' : Bool}, RfL M ns l b l' b' → ∀ {l0 : List UInt8} {b0 : Bool}, Rel (l0, b0) (l, b) → ∃ l'' b'', RdL M ns l0 b0 l'' b'' ∧ Rel (l'', b'') (l', b')
  | [], l, b, l', b', h, l0, b0, hr => by
    obtain ⟨rfl, rfl⟩ := h
    exact ⟨l0, b0, ⟨rfl, rfl⟩, hr⟩
  | x :: r, l, b, l', b', h, l0, b0, hr => by
    obtain ⟨l1, b1, h1, h2⟩ := h
    obtain ⟨k1, c1, f1, r1⟩ := rel_num' hr h1
    obtain ⟨k2, c2, f2, r2⟩ := h2.rd r1
    exact ⟨k2, c2, ⟨k1, c1, f1, f2⟩, r2⟩
def RfC (M1 M2 M3 : Nat) (l : List UInt8) (ep : Nat) (ns : List Nat) (l' : List UInt8) (b' : Bool) : Prop :=
  ∃ l1 b1 l2 b2, rfNum l false M1 = (ep, l1, b1) ∧ rfNum l1 b1 M2 = (ns.length, l2, b2) ∧ RfL M3 ns l2 b2 l' b'
theorem RfC.rd {M1 M2 M3 : Nat} {l : List UInt8} {ep : Nat} {ns : List Nat} {l' : List UInt8} {b' : Bool} (h : RfC M1 M2 M3 l ep ns l' b') : ∃ l'' b'', RdC M1 M2 M3 l ep ns l'' b'' ∧ endN l'' b'' = endN l' b' := by
  obtain ⟨l1, b1, l2, b2, e1, e2, e3⟩ := h
  obtain ⟨k1, c1, f1, r1⟩ := rel_num' (.inl ⟨rfl, rfl, rfl⟩ : Rel (l, false) (l, false)) e1
  obtain ⟨k2, c2, f2, r2⟩ := rel_num' r1 e2
  obtain ⟨k3, c3, f3, r3⟩ := e3.rd r2
  exact ⟨k3, c3, ⟨k1, c1, k2, c2, f1, f2, f3⟩, rel_end r3⟩
end Go.Proofs.Ytkdcbidbciognaa

namespace Go.Proofs.Ytkdcbidbciognaa
set_option linter.unusedVariables false
set_option linter.unusedSimpArgs false
open Go.RowKit

theorem numsB_snoc : ∀ (a : List Nat) (x : Nat), numsB (a ++ [x]) = numsB a ++ numB x
  | [], x => by simp [numsB]
  | y :: r, x => by rw [List.cons_append, numsB, numsB_snoc r x, numsB, List.append_assoc]
theorem numsB_len : ∀ (a : List Nat), (numsB a).length ≤ 10 * a.length
  | [] => by simp [numsB]
  | y :: r => by
    have := numsB_len r
    have h : (numB y).length ≤ 10 := numF_len 10 y
    rw [numsB, List.length_append, List.length_cons]; omega
theorem wrap_u64I (n : Nat) (h : n < 18446744073709551616) : IntKind.u64.wrap (n : Int) = (n : Int) := IntKind.wrap_u64_nat n h

set_option maxRecDepth 8000 in
set_option maxHeartbeats 4000000 in
theorem nums_any (base P : Nat) (l : List UInt8) (g : Option Nat) (A : Option Addr) (cap : Nat) (ns : List Nat) (w : World) (H : WrAt w base P l g) (hs : Sl i64 w A (ints ns))
    (hA : ∀ a, A = some a → ¬ (a.block = P ∨ some a.block = g)) (hx : ∀ x ∈ ns, x < 9223372036854775808) (hlen : l.length + 10 * ns.length ≤ 1000000000) (hb : base ≤ w.heap.size) :
    Calls Try.prog 102 #[.pointer (some ⟨P, 0, none⟩), .slice A ns.length cap] w fun e w' => e = .returned (.tuple #[]) ∧ WrTo w w' base P (l ++ numsB ns) g := by
  refine hide_post fun D hD => ?_
  obtain ⟨n, hn⟩ : ∃ n, n = ns.length := ⟨_, rfl⟩
  rw [← hn] at hlen ⊢
  have HN := Lib.hid hn
  have H0 : Hid (WrTo w w base P l g) := WrTo.refl H
  have HS := Lib.hid hs
  have HA := Lib.hid hA
  have HX := Lib.hid hx
  have HBS := Lib.hid hb
  clear hn hs hA hx hb H
  go_enter Try.func102, Try.ntmps102
  go_wp2
  go_loopw [8] (fun i wr => ∃ j : Nat, j ≤ n ∧ i = .int .i64 j ∧ Hid (WrTo w wr base P (l ++ numsB (ns.take j)) g)) (fun i _ => n - (intOf i).toNat)
  case atStart => exact ⟨0, Nat.zero_le _, rfl, by (show WrTo w w base P (l ++ numsB (ns.take 0)) g); rw [List.take_zero, numsB, List.append_nil]; exact H0.out⟩
  case round =>
    obtain ⟨j, hj, rfl, HW⟩ := hrel
    by_cases hlt : j < n
    · obtain ⟨g1, k1, k2, k3⟩ := HW.out
      obtain ⟨x, hx⟩ : ∃ x, ns[j]? = some x := ⟨_, List.getElem?_eq_getElem (by rw [← HN.out]; exact hlt)⟩
      obtain ⟨b, o, rfl, hcell⟩ := (HS.out.frm' k2 HA.out) j (x : Int) (by simp [ints, hx])
      have hxb := HX.out x (List.mem_of_getElem? hx)
      have htk : l ++ numsB (ns.take (j + 1)) = l ++ numsB (ns.take j) ++ numB x := by rw [List.take_add_one, hx, Option.toList_some, numsB_snoc, List.append_assoc]
      have HTK := Lib.hid htk
      have C1 := Lib.hid (numW_any base P (l ++ numsB (ns.take j)) g1 x wr k1 (by omega) (by rw [List.length_append]; have := numsB_len (ns.take j); rw [List.length_take] at this; omega) (Nat.le_trans HBS.out k2.size))
      have hq : IntKind.u64.wrap (x : Int) = (x : Int) := wrap_u64I x (by omega)
      have HK := Lib.hid (And.intro k1 (And.intro k2 k3))
      unfold i64 at hcell
      clear k1 k2 k3 htk hx
      go_wp2_with (go_at_call 93; (with_reducible refine C1.out.mono ?_); rintro e w1 ⟨rfl, h1⟩; have H1 := Lib.hid h1; clear h1)
      go_roundw
      case rel => exact ⟨j + 1, by omega, by go_num, by (show WrTo w _ base P (l ++ numsB (ns.take (j + 1))) g); rw [HTK.out]; exact WrTo.trans HK.out H1.out⟩
      case measure => simp [intOf]; omega
    · have hjn : j = n := by omega
      subst hjn
      have H2 : Hid (WrTo w wr base P (l ++ numsB ns) g) := by have h := HW.out; rw [HN.out, List.take_length] at h; exact h
      go_wp2
      try go_end0
      exact hD.out _ _ ⟨rfl, H2.out⟩

theorem ints_len (ns : List Nat) : (ints ns).length = ns.length := by simp [ints]

end Go.Proofs.Ytkdcbidbciognaa

namespace Go.Proofs.Ytkdcbidbciognaa
set_option linter.unusedVariables false
set_option linter.unusedSimpArgs false
open Go.RowKit

theorem ints_of : ∀ (l : List Int), (∀ x ∈ l, 0 ≤ x) → ∃ ns, l = ints ns
  | [], _ => ⟨[], rfl⟩
  | x :: r, h => by
    obtain ⟨ns, hn⟩ := ints_of r (fun y hy => h y (List.mem_cons_of_mem _ hy))
    have hx := h x (List.mem_cons_self ..)
    exact ⟨x.toNat :: ns, by rw [hn]; simp [ints]; omega⟩
theorem mayChainB_ints {ep : Int} {l : List Int} (h : mayChainB ep l = true) : ∃ (e : Nat) (ns : List Nat), ep = e ∧ l = ints ns := by
  have h0 := h
  unfold mayChainB at h
  rw [Bool.and_eq_true, Bool.and_eq_true] at h
  obtain ⟨ns, hn⟩ := ints_of l (fun x hx => (okNodes_mem _ _ h.2 x hx).1)
  have := of_decide_eq_true h.1.1
  exact ⟨ep.toNat, ns, by omega, hn⟩

set_option maxRecDepth 8000 in
set_option maxHeartbeats 4000000 in
theorem putChain_no (ep : Int) (A : Option Addr) (cap : Nat) (l : List Int) (w : World) (hl : l.length ≤ 9223372036854775807) (hcap : l.length ≤ cap) (hs : Sl i64 w A l) (hm : mayChainB ep l = false) :
    Calls Try.prog 91 #[.agg #[.int .i64 ep, .slice A l.length cap]] w fun e w' => e = .returned (.tuple #[.slice none 0 0, .int .i64 1]) ∧ Ext w w' := by
  refine hide_post fun D hD => ?_
  have hW : Hid (∀ o, Calls Try.prog 45 #[.agg #[.int .i64 ep, .slice A l.length cap]] (w.alloc o) fun e w' => e = .returned (.bool false) ∧ Ext (w.alloc o) w') := fun o => by rw [← hm]; exact mayChain_any ep A cap l _ hl hcap (hs.stay (Ext.alloc _ _))
  clear hm hs hcap hl
  generalize l.length = n at *
  go_enter Try.func91, Try.ntmps91
  go_wp2_with (go_at_call 45; (with_reducible refine (hW.out _).mono ?_); rintro e w1 ⟨rfl, hx⟩; have HX := Lib.hid hx; clear hx)
  try go_ret
  exact hD.out _ _ ⟨rfl, Ext.trans (Ext.alloc _ _) HX.out⟩

set_option maxRecDepth 8000 in
set_option maxHeartbeats 8000000 in
theorem putChain_yes (ep : Nat) (A : Option Addr) (cap : Nat) (ns : List Nat) (w : World) (hcap : ns.length ≤ cap) (hs : Sl i64 w A (ints ns)) (hm : mayChainB ep (ints ns) = true) :
    Calls Try.prog 91 #[.agg #[.int .i64 ep, .slice A ns.length cap]] w fun e w' => ∃ A' cap', e = .returned (.tuple #[.slice A' (putC ep ns).length cap', .int .i64 0]) ∧ Sl u8 w' A' (putC ep ns) ∧ Ext w w' := by
  refine hide_post fun D hD => ?_
  have hb := mayChainB_le hm
  have HAB : Hid (∀ a, A = some a → a.block < w.heap.size) := fun a ha => by
    obtain ⟨x, hx⟩ : ∃ x, (ints ns)[0]? = some x := ⟨_, List.getElem?_eq_getElem (by rw [ints_len]; omega)⟩
    obtain ⟨b, o, e, hc⟩ := hs 0 x hx
    rw [ha] at e
    injection e with e
    subst e
    exact World.block_lt_of_cell? w _ hc
  obtain ⟨n, hn⟩ : ∃ n, n = ns.length := ⟨_, rfl⟩
  have HMY : Hid (∀ V, Ext w V → Calls Try.prog 45 #[.agg #[.int .i64 ep, .slice A n cap]] V fun e w' => e = .returned (.bool true) ∧ Ext V w') := fun V hV => by
    have := mayChain_any ep A cap (ints ns) V (by rw [ints_len]; omega) (by rw [ints_len]; exact hcap) (hs.stay hV)
    rw [ints_len, hm, ← hn] at this
    exact this
  obtain ⟨W0, hW0⟩ : ∃ W0, W0 = w.alloc (.cells #[.int .i64 ep, .slice A n cap] 26) := ⟨_, rfl⟩
  have hx0 : Ext w W0 := by rw [hW0]; exact Ext.alloc _ _
  have kB : Blk W0 w.heap.size 26 #[.int .i64 ep, .slice A n cap] := by rw [hW0]; exact Blk.new _ _ _
  have HX0 := Lib.hid hx0
  have HW0 := Lib.hid hW0
  have KB := Lib.hid kB
  have HS := Lib.hid hs
  have HN := Lib.hid hn
  have hn5 : n ≤ 5 := by omega
  have hep : ep ≤ 1073741824 := hb.1
  have HNS : Hid (∀ x ∈ ns, x ≤ 4) := hb.2.2.2
  rw [← hn]
  clear hx0 hW0 kB hm hs hn hb hcap
  go_enter Try.func91, Try.ntmps91
  go_wp2_with fail
  rw [← HW0.out]
  go_wp2_with fail
  go_at_call 45
  with_reducible refine (HMY.out _ HX0.out).mono ?_
  rintro e w1 ⟨rfl, hx1⟩
  obtain ⟨P, hP⟩ : ∃ P, P = w1.heap.size := ⟨_, rfl⟩
  obtain ⟨W2, hW2⟩ : ∃ W2, W2 = (w1.alloc (.cells #[.slice none 0 0] 101)).alloc (.cells #[.int .i64 ep, .int .i64 n] 3) := ⟨_, rfl⟩
  have hxw : Ext w1 W2 := by rw [hW2]; exact Ext.trans (Ext.alloc _ _) (Ext.alloc _ _)
  have hwr : WrAt W2 P P [] none := by rw [hW2, hP]; exact ⟨.slice none 0 0, (Blk.new _ _ _).alloc _, World.ownsRow_nil _ _ _ _, rfl⟩
  have hsl : Sl i64 W2 (some ⟨P + 1, 0, none⟩) (ints [ep, n]) := by
    rw [hW2, hP]
    refine Sl.of_blk (Blk.new' _ 3 #[.int .i64 ep, .int .i64 n] _ (by simp)) ?_
    intro j v hj
    match j, hj with
    | 0, hj => simp [ints] at hj; subst hj; rfl
    | 1, hj => simp [ints] at hj; subst hj; rfl
    | _ + 2, hj => simp [ints] at hj
  have KB1 := KB.out.stay hx1
  have KB2 := KB1.stay hxw
  have o0 : ∀ o, (w1.alloc o).cell? ⟨w.heap.size, 0, none⟩ = some (.int .i64 ep) := fun o => (KB1.alloc o).cell 0
  have o1 : ∀ o, (w1.alloc o).cell? ⟨w.heap.size, 1, none⟩ = some (.slice A n cap) := fun o => (KB1.alloc o).cell 1
  have hPw : w.heap.size < P := by rw [hP]; exact KB1.lt
  have CN : Hid (Calls Try.prog 102 #[.pointer (some ⟨P, 0, none⟩), .slice (some ⟨P + 1, 0, none⟩) 2 2] W2 fun e w' => e = .returned (.tuple #[]) ∧ WrTo W2 w' P P (numsB [ep, n]) none) :=
    nums_any P P [] none (some ⟨P + 1, 0, none⟩) 2 [ep, n] W2 hwr hsl (fun a ha => by
      injection ha with ha
      subst ha
      rintro (e | e)
      · simp at e
      · cases e) (fun x hx => by simp at hx; omega) (by simp) (by rw [hP]; exact hxw.size)
  have HXW : Hid (Ext w W2) := Ext.trans HX0.out (Ext.trans hx1 hxw)
  have HKB2 := Lib.hid KB2
  have HW2 := Lib.hid hW2
  have HP := Lib.hid hP
  have HPW := Lib.hid hPw
  have HPS : Hid (P ≤ W2.heap.size) := by (show _ ≤ _); rw [hP]; exact hxw.size
  have hns : (numsB [ep, n]).length ≤ 20 := numsB_len _
  have hns2 : (numsB ns).length ≤ 50 := Nat.le_trans (numsB_len _) (by rw [← HN.out]; omega)
  have HPUT : Hid (putC ep ns = numsB [ep, n] ++ numsB ns) := by (show _ = _); rw [HN.out]; rfl
  clear hx1 hxw hwr hsl KB1 KB2 hP hPw hW2
  generalize numsB [ep, n] = B at *
  go_wp2_with fail
  rw [← HP.out, ← HW2.out]
  clear o0 o1
  go_wp2_with (first
    | (go_at_call 102; (with_reducible refine CN.out.mono ?_); rintro e w3 ⟨rfl, h3⟩; obtain ⟨g3, k1, k2, k3⟩ := h3; have HX3 : Hid (Ext w w3) := k2.step HXW.out HXW.out.size (fun k hk => hk.elim (fun e => by have := HPW.out; omega) (fun e => by cases e)); have kb3 := HKB2.out.frm k2 (fun hk => hk.elim (fun e => by have := HPW.out; omega) (fun e => by cases e)); have c1 := kb3.cell 1; have HG3 := Lib.hid k1.glt; have hct := nums_any P P B g3 A cap ns w3 k1 (HS.out.stay HX3.out) (fun a ha hk => hk.elim (fun e => by have := HAB.out a ha; have := HPW.out; omega) (fun e => by have := (HG3.out _ e.symm).1; have := HAB.out a ha; have := HPW.out; omega)) (fun x hx => by have := HNS.out x hx; omega) (by rw [← HN.out]; omega) (Nat.le_trans HPS.out k2.size); rw [← HN.out] at hct; have CT := Lib.hid hct; simp at c1; clear k1 k2 k3 kb3 CN hct)
    | (go_at_call 102; (with_reducible refine CT.out.mono ?_); rintro e w4 ⟨rfl, h4⟩; obtain ⟨g4, k1, k2, k3⟩ := h4; have HX4 : Hid (Ext w w4) := k2.step HX3.out HX3.out.size (fun k hk => hk.elim (fun e => by have := HPW.out; omega) (fun e => by have := (HG3.out _ e.symm).1; have := HPW.out; omega)); have CB := Lib.hid (bytes_any P P (B ++ numsB ns) g4 w4 k1 (by rw [List.length_append]; omega)); clear k1 k2 k3 CT c1)
    | (go_at_call 74; (with_reducible refine CB.out.mono ?_); rintro e w5 ⟨A5, c5, rfl, ho, hx5⟩; have HO := Lib.hid ho; have HX5 : Hid (Ext w w5) := Ext.trans HX4.out hx5; clear ho hx5))
  try go_ret
  obtain ⟨A', c', e, hsl⟩ := own_view HO.out
  injection e with e1 e2 e3
  subst e1
  exact hD.out _ _ ⟨A5, c5, by rw [HPUT.out, List.length_append]; rfl, by rw [HPUT.out]; exact hsl, HX5.out⟩
end Go.Proofs.Ytkdcbidbciognaa

namespace Go.Proofs.Ytkdcbidbciognaa
set_option linter.unusedVariables false
set_option linter.unusedSimpArgs false
open Go.RowKit

def RdIn (S : Nat → Prop) (w : World) (P : Nat) (l : List UInt8) (bad : Bool) : Prop :=
  ∃ A cap, Blk w P 125 #[.slice A l.length cap, .bool bad] ∧ Sl u8 w A l ∧ l.length ≤ cap ∧ ∀ a, A = some a → ∃ b o, a = ⟨b, o, none⟩ ∧ b ≠ P ∧ S b
section
variable {w w' : World} {P : Nat} {l : List UInt8} {b : Bool} {S : Nat → Prop}
theorem RdIn.at_ (H : RdIn S w P l b) : RdAt w P l b := by
  obtain ⟨A, cap, h1, h2, h3, h4⟩ := H
  exact ⟨A, cap, h1, h2, h3, fun a ha => by obtain ⟨b, o, e, hb⟩ := h4 a ha; exact ⟨b, o, e, hb.1⟩⟩
theorem RdIn.stay (H : RdIn S w P l b) (hx : Below w.heap.size w w') : RdIn S w' P l b := by
  obtain ⟨A, cap, h1, h2, h3, h4⟩ := H
  exact ⟨A, cap, h1.stay hx, h2.stay hx, h3, h4⟩
theorem RdIn.lt (H : RdIn S w P l b) : P < w.heap.size := H.at_.lt
theorem RdIn.frm {s : Nat → Prop} (H : RdIn S w P l b) (hf : Frm s w w') (hP : ¬ s P) (hS : ∀ k, S k → ¬ s k) : RdIn S w' P l b := by
  obtain ⟨A, cap, h1, h2, h3, h4⟩ := H
  exact ⟨A, cap, h1.frm hf hP, h2.frm' hf (fun a ha => by obtain ⟨b, o, rfl, hb⟩ := h4 a ha; exact hS _ hb.2), h3, h4⟩
end

set_option maxRecDepth 8000 in
theorem new_in (A : Option Addr) (cap : Nat) (l : List UInt8) (w : World) (hs : Sl u8 w A l) (hl : l.length ≤ 1000000000) :
    Calls Try.prog 75 #[.slice A l.length cap] w fun e w' => ∃ P, e = .returned (.pointer (some ⟨P, 0, none⟩)) ∧ RdIn (fun k => k < P) w' P l false ∧ Ext w w' ∧ w.heap.size ≤ P := by
  refine hide_post fun D hD => ?_
  have hm := Lib.hid (World.ownsRow_made (base := w.heap.size) (e := 5) (size := 1) w #[] 0 (Nat.le_refl _) (Nat.zero_le _) rfl)
  have HS : Hid (Sl u8 (w.alloc (.cells #[] 5)) A l) := hs.stay (Ext.alloc _ _)
  have hD' : Hid (∀ A' c' w', w'.ownsRow w.heap.size 5 1 (.slice A' l.length c') l.length (l.map u8) → (w.alloc (.cells #[] 5)).grownBy w' (some w.heap.size) → D (.returned (.pointer (some ⟨w'.heap.size, 0, none⟩))) (w'.alloc (.cells #[.slice A' l.length c', .bool false] 125))) := fun A' c' w' h1 h2 => by
    have hx : Ext w w' := ((Below.refl _ _).alloc (Nat.le_refl _) _).grown h2 (by simp) (fun k hk => by injection hk with hk; omega)
    have hsl : Sl u8 w' A' l := by
      obtain ⟨A2, c2, e, h⟩ := own_view h1
      injection e with e1 e2 e3
      subst e1
      exact h
    have hc : l.length ≤ c' := by
      rcases h1.2 with ⟨e, hn⟩ | ⟨g, c, cur, e, _, _, k1, _⟩
      · injection e with e1 e2 e3; omega
      · injection e with e1 e2 e3; omega
    exact hD.out _ _ ⟨w'.heap.size, rfl, ⟨A', c', Blk.new _ _ _, hsl.stay (Ext.alloc _ _), hc, fun a ha => by
      subst ha
      have h5 := (h1.lt a.block rfl).2
      rcases h1.2 with ⟨e, hn⟩ | ⟨g, c, cur, e, _⟩
      · cases e
      · injection e with e1 e2 e3
        injection e1 with e1
        subst e1
        exact ⟨g, 0, rfl, by simp at h5; omega, by simp at h5; exact h5⟩⟩, Ext.trans hx (Ext.alloc _ _), hx.size⟩
  clear hs hD
  go_enter Try.func75, Try.ntmps75
  go_wp2_with (at_builtin; refine wpList_append_list rfl _ _ 72 rfl w.heap.size 5 (.int .u8 0) 1 Try.underlying72 info_byte rfl (by omega) (.slice (some ⟨w.heap.size, 0, none⟩) 0 0) 0 [] rfl hm.out u8 A l l.length cap rfl rfl HS.out (fun _ => rfl) (by omega) (by simp) ?_; intro v' w' h1 h2 h3; rw [Nat.zero_add, List.nil_append] at h1; obtain ⟨A', c', rfl⟩ := own_shape h1; have H1 := Lib.hid h1; have H2 := Lib.hid h2; clear h1 h2 h3)
  try go_ret
  exact hD'.out _ _ _ H1.out H2.out


set_option maxRecDepth 8000 in
theorem fail_in (S : Nat → Prop) (P : Nat) (l : List UInt8) (b : Bool) (w : World) (H : RdIn S w P l b) :
    Calls Try.prog 95 #[.pointer (some ⟨P, 0, none⟩)] w fun e w' => e = .returned (.int .u64 0) ∧ RdIn S w' P l true ∧ Frm (fun k => k = P) w w' := by
  refine hide_post fun D hD => ?_
  obtain ⟨A, cap, h1, h2, h3, h4⟩ := H
  have c1 := h1.cell 1
  have f1 := h1.frozen 1
  simp at c1
  have hE : Hid (D (.returned (.int .u64 0)) (w.setCell ⟨P, 1, none⟩ (.bool true))) := by
    have hF : Frm (fun k => k = P) w (w.setCell ⟨P, 1, none⟩ (.bool true)) := Frm.of_set _ _ _ rfl
    exact hD.out _ _ ⟨rfl, ⟨A, cap, by have := h1.set 1 (.bool true); simpa using this, h2.frm' hF (fun a ha => by obtain ⟨b, o, rfl, hb⟩ := h4 a ha; exact hb.1), h3, h4⟩, hF⟩
  clear h1 h2 hD
  go_enter Try.func95, Try.ntmps95
  go_wp2
  try go_ret
  exact hE.out
set_option maxRecDepth 8000 in
set_option maxHeartbeats 8000000 in
theorem numR_in (S : Nat → Prop) (P : Nat) (l : List UInt8) (bad : Bool) (most : Nat) (w : World) (H : RdIn S w P l bad) (hl : l.length ≤ 1000000000) :
    Calls Try.prog 94 #[.pointer (some ⟨P, 0, none⟩), .int .u64 most] w fun e w' => e = .returned (.int .u64 (rdNum l bad most).1) ∧ RdIn S w' P (rdNum l bad most).2.1 (rdNum l bad most).2.2 ∧ Frm (fun k => k = P) w w' := by
  refine hide_post fun D hD => ?_
  have H0 := Lib.hid H
  obtain ⟨A, cap, h1, h2, h3, h4⟩ := H
  have c0 := h1.cell 0
  have c1 := h1.cell 1
  simp at c0 c1
  cases bad
  case true =>
    have hE : Hid (D (.returned (.int .u64 0)) w) := hD.out _ _ ⟨rfl, H0.out, Frm.refl _ _⟩
    clear h1 h2 hD H0
    generalize l.length = n at *
    go_enter Try.func94, Try.ntmps94
    go_wp2
    try go_ret
    exact hE.out
  have HFL : Hid (rdGo most 0 0 l = none → ∀ w', RdIn S w' P l true ∧ Frm (fun k => k = P) w w' → D (.returned (.int .u64 0)) w') := fun hn w' h => by
    refine hD.out _ _ ?_
    simp only [rdNum, hn]
    exact ⟨rfl, h.1, h.2⟩
  have HOK : Hid (∀ v r, rdGo most 0 0 l = some (v, r) → ∀ w', RdIn S w' P r false ∧ Frm (fun k => k = P) w w' → D (.returned (.int .u64 v)) w') := fun v r hn w' h => by
    refine hD.out _ _ ?_
    simp only [rdNum, hn]
    exact ⟨rfl, h.1, h.2⟩
  have HFA : Hid (Calls Try.prog 95 #[.pointer (some ⟨P, 0, none⟩)] w fun e w' => e = .returned (.int .u64 0) ∧ RdIn S w' P l true ∧ Frm (fun k => k = P) w w') := fail_in S P l false w H0.out
  have HS := Lib.hid h2
  have HB := Lib.hid h1
  have H4 := Lib.hid h4
  clear h1 h2 hD H0 h4
  obtain ⟨n, hn⟩ : ∃ n, n = l.length := ⟨_, rfl⟩
  rw [← hn] at hl h3 c0
  have HN := Lib.hid hn
  clear hn
  go_enter Try.func94, Try.ntmps94
  go_wp2
  go_loop [5, 21] (fun x i => ∃ (k v : Nat), k ≤ n ∧ x = .int .u64 v ∧ i = .int .i64 k ∧ Hid (rdGo most 0 0 l = rdGo most k v (l.drop k) ∧ v < 2 ^ (7 * k)) ∧ k ≤ 9) (fun _ i => n - (intOf i).toNat)
  case atStart => exact ⟨0, 0, Nat.zero_le _, rfl, rfl, ⟨rfl, by decide⟩, by omega⟩
  case round =>
    obtain ⟨k, v, hk, rfl, rfl, HR, hk9⟩ := hrel
    by_cases hlt : k < n
    · obtain ⟨b, o, rfl, hcell⟩ := HS.out.at_ (k := k) (by rw [← HN.out]; exact hlt)
      have hd : l.drop k = l[k]'(by rw [← HN.out]; exact hlt) :: l.drop (k + 1) := List.drop_eq_getElem_cons _
      have Hd := Lib.hid hd
      clear hd
      generalize l[k]'(by rw [← HN.out]; exact hlt) = c at *
      have hc256 : c.toNat < 256 := c.toNat_lt
      unfold Go.Proofs.Ytkdcbidbciognaa.u8 at hcell
      by_cases h9 : k = 9 ∧ 1 < c.toNat
      · have HE : Hid (rdGo most 0 0 l = none) := by (show _ = _); rw [HR.out.1, Hd.out, rdGo, if_pos h9]
        obtain ⟨rfl, h9c⟩ := h9
        go_wp2_with (go_at_call 95; (with_reducible refine HFA.out.mono ?_); rintro e w1 ⟨rfl, hx⟩; have HX := Lib.hid hx; clear hx)
        try go_ret
        exact HFL.out HE.out _ HX.out
      · have hand : bits BinOp.and IntKind.u8 (c.toNat : Int) 127 = ((c.toNat % 128 : Nat) : Int) := and127 c
        have hm128 : c.toNat % 128 < 128 := Nat.mod_lt _ (by decide)
        generalize hme : c.toNat % 128 = m at *
        have HME := Lib.hid hme
        clear hme
        have hm9 : k = 9 → m ≤ 1 := fun hk => by have := HME.out; omega
        have hor := or_step k v m hk9 hm128 HR.out.2 hm9
        have hvn := or_lt k v m hm128 HR.out.2
        obtain ⟨v2, hv2⟩ : ∃ v2, v2 = v + m * 2 ^ (7 * k) := ⟨_, rfl⟩
        rw [← hv2] at hor hvn
        have HV2 := Lib.hid hv2
        have HVN := Lib.hid hvn
        clear hvn hv2
        by_cases hge : 128 ≤ c.toNat
        · have HE : Hid (rdGo most 0 0 l = rdGo most (k + 1) v2 (l.drop (k + 1))) := by (show _ = _); rw [HR.out.1, Hd.out, rdGo, if_neg h9, if_pos hge, HME.out, HV2.out]
          have hk8 : k ≤ 8 := by omega
          have hk9' : ((k : Int) == 9) = false := by rw [beq_eq_false_iff_ne]; omega
          clear hm9
          go_wp2
          go_round
          case rel => exact ⟨k + 1, v2, by omega, by rfl, by go_num, ⟨HE.out, HVN.out⟩, by omega⟩
          case measure => simp [intOf]; omega
        · have HG : Hid (rdGo most 0 0 l = if (c.toNat = 0 ∧ 0 < k) ∨ most < v2 then none else some (v2, l.drop (k + 1))) := by (show _ = _); rw [HR.out.1, Hd.out, rdGo, if_neg h9, if_neg hge, HME.out, ← HV2.out]
          have hge' : ¬ (128 : Int) ≤ (c.toNat : Int) := by omega
          have hk9c : ((k : Int) == 9) = true ∧ ¬ (1 : Int) < (c.toNat : Int) ∨ ((k : Int) == 9) = false := by
            by_cases hk : k = 9
            · exact .inl ⟨by rw [beq_iff_eq]; omega, by omega⟩
            · exact .inr (by rw [beq_eq_false_iff_ne]; omega)
          have h0c : ((c.toNat : Int) == 0) = true ∧ (0 : Int) < (k : Int) ∨ ((c.toNat : Int) == 0) = true ∧ ¬ (0 : Int) < (k : Int) ∨ ((c.toNat : Int) == 0) = false := by
            by_cases hc : c.toNat = 0
            · by_cases hk : 0 < k
              · exact .inl ⟨by rw [beq_iff_eq]; omega, by omega⟩
              · exact .inr (.inl ⟨by rw [beq_iff_eq]; omega, by omega⟩)
            · exact .inr (.inr (by rw [beq_eq_false_iff_ne]; omega))
          have h0n : Hid (((c.toNat : Int) == 0) = true ↔ c.toNat = 0) := by (show _ ↔ _); rw [beq_iff_eq]; omega
          clear hm9 h9 hge hc256
          rcases h0c with ⟨g1, g2⟩ | h0c
          · have HE : Hid (rdGo most 0 0 l = none) := by (show _ = _); rw [HG.out, if_pos (.inl ⟨h0n.out.1 g1, by omega⟩)]
            clear HG h0n
            rcases hk9c with ⟨k9, c1'⟩ | k9
            all_goals
              go_wp2_with (go_at_call 95; (with_reducible refine HFA.out.mono ?_); rintro e w1 ⟨rfl, hx⟩; have HX := Lib.hid hx; clear hx)
              try go_ret
              exact HFL.out HE.out _ HX.out
          · by_cases hmo : most < v2
            · have HE : Hid (rdGo most 0 0 l = none) := by (show _ = _); rw [HG.out, if_pos (.inr hmo)]
              clear HG h0n
              rcases hk9c with ⟨k9, c1'⟩ | k9
              all_goals
                rcases h0c with ⟨g1, g2⟩ | g1
                all_goals
                  go_wp2_with (go_at_call 95; (with_reducible refine HFA.out.mono ?_); rintro e w1 ⟨rfl, hx⟩; have HX := Lib.hid hx; clear hx)
                  try go_ret
                  exact HFL.out HE.out _ HX.out
            · have HE : Hid (rdGo most 0 0 l = some (v2, l.drop (k + 1))) := by
                show _ = _
                rw [HG.out, if_neg]
                rintro (⟨q1, q2⟩ | q)
                · rcases h0c with ⟨g1, g2⟩ | g1
                  · omega
                  · rw [h0n.out.2 q1] at g1; cases g1
                · exact hmo q
              have HLD : Hid ((l.drop (k + 1)).length = n - (k + 1)) := by (show _ = _); rw [List.length_drop, HN.out]
              have HSD : Hid (Sl u8 w (some ⟨b, o + (k + 1), none⟩) (l.drop (k + 1))) := sl_drop HS.out (k + 1)
              have HNP : Hid (b ≠ P ∧ S b) := by (show _ ∧ _); obtain ⟨b', o', e, hb⟩ := H4.out _ rfl; injection e with e1 e2; subst e1; exact hb
              have HST : Hid (∀ A' m' c', m' = (l.drop (k + 1)).length → Sl Go.Proofs.Ytkdcbidbciognaa.u8 w A' (l.drop (k + 1)) → m' ≤ c' → (∀ a, A' = some a → ∃ b o, a = ⟨b, o, none⟩ ∧ b ≠ P ∧ S b) → D (.returned (.int .u64 v2)) (w.setCell ⟨P, 0, none⟩ (.slice A' m' c'))) := fun A' m' c' e1 e2 e3 e4 => by
                subst e1
                have hF : Frm (fun k => k = P) w (w.setCell ⟨P, 0, none⟩ (.slice A' (l.drop (k + 1)).length c')) := Frm.of_set _ _ _ rfl
                exact HOK.out v2 _ HE.out _ ⟨⟨A', c', by have := HB.out.set 0 (.slice A' (l.drop (k + 1)).length c'); simpa using this, e2.frm' hF (fun a ha => by obtain ⟨b, o, rfl, hb⟩ := e4 a ha; exact hb.1), e3, e4⟩, hF⟩
              have f0 := HB.out.frozen 0
              clear HG h0n HR HE
              generalize l.drop (k + 1) = rr at *
              rcases h0c with ⟨g1, g2⟩ | g1
              · rcases hk9c with ⟨k9, c1'⟩ | k9
                · rw [beq_iff_eq] at k9; omega
                · by_cases hcp : cap = k + 1
                  · subst hcp
                    go_wp2
                    try go_ret
                    obtain rfl : k = 0 := by omega
                    obtain rfl : n = 1 := by omega
                    refine HST.out _ _ _ ?_ ?_ ?_ ?_
                    · have h5 := HLD.out; omega
                    · have h5 := HLD.out; rw [List.eq_nil_of_length_eq_zero (l := rr) (by omega)]; exact Sl.nil _ _ _
                    · omega
                    · intro a ha; injection ha with ha; subst ha; exact ⟨_, _, rfl, HNP.out⟩
                  · go_wp2
                    try go_ret
                    obtain rfl : k = 0 := by omega
                    refine HST.out _ _ _ ?_ ?_ ?_ ?_
                    · have h5 := HLD.out; omega
                    · exact HSD.out
                    · omega
                    · intro a ha; injection ha with ha; subst ha; exact ⟨_, _, rfl, HNP.out⟩
              · by_cases hcp : cap = k + 1
                · obtain rfl : n = k + 1 := by omega
                  subst hcp
                  rcases hk9c with ⟨k9, c1'⟩ | k9
                  all_goals
                    go_wp2
                    try go_ret
                    refine HST.out _ _ _ ?_ ?_ ?_ ?_
                    · have h5 := HLD.out; omega
                    · have h5 := HLD.out; rw [List.eq_nil_of_length_eq_zero (l := rr) (by omega)]; exact Sl.nil _ _ _
                    · omega
                    · intro a ha; injection ha with ha; subst ha; exact ⟨_, _, rfl, HNP.out⟩
                · rcases hk9c with ⟨k9, c1'⟩ | k9
                  all_goals
                    go_wp2
                    try go_ret
                    refine HST.out _ _ _ ?_ ?_ ?_ ?_
                    · have h5 := HLD.out; omega
                    · exact HSD.out
                    · omega
                    · intro a ha; injection ha with ha; subst ha; exact ⟨_, _, rfl, HNP.out⟩
    · have HE : Hid (rdGo most 0 0 l = none) := by (show _ = _); rw [HR.out.1, List.drop_of_length_le (by have := HN.out; omega), rdGo]
      go_wp2_with (go_at_call 95; (with_reducible refine HFA.out.mono ?_); rintro e w1 ⟨rfl, hx⟩; have HX := Lib.hid hx; clear hx)
      try go_ret
      exact HFL.out HE.out _ HX.out

end Go.Proofs.Ytkdcbidbciognaa

namespace Go.Proofs.Ytkdcbidbciognaa
set_option linter.unusedVariables false
set_option linter.unusedSimpArgs false
open Go.RowKit

theorem numR_inI (S : Nat → Prop) (P : Nat) (l : List UInt8) (bad : Bool) (M : Nat) (Mi : Int) (hMi : Mi = M) (w : World) (H : RdIn S w P l bad) (hl : l.length ≤ 1000000000) :
    Calls Try.prog 94 #[.pointer (some ⟨P, 0, none⟩), .int .u64 Mi] w fun e w' => e = .returned (.int .u64 (rdNum l bad M).1) ∧ RdIn S w' P (rdNum l bad M).2.1 (rdNum l bad M).2.2 ∧ Frm (fun k => k = P) w w' := by
  subst hMi
  exact numR_in S P l bad M w H hl

structure CS (w V : World) (b P z : Nat) (ep : Nat) (A : Option Addr) (cap : Nat) (ns : List Nat) (l2 : List UInt8) (b2 : Bool) (l' : List UInt8) (b' : Bool) : Prop where
  x : Ext w V
  r : Blk V b 26 #[.int .i64 0, .slice none 0 0]
  q : Blk V z 26 #[.int .i64 ep, .slice A ns.length cap]
  o : V.ownsRow (z + 1) 3 1 (.slice A ns.length cap) ns.length ((ints ns).map i64)
  rd : RdIn (fun k => k < P) V P l' b'
  rl : RdL 5 ns l2 b2 l' b'
  ln : l'.length ≤ 1000000000

set_option maxRecDepth 8000 in
set_option maxHeartbeats 32000000 in
theorem getChain_any (A0 : Option Addr) (cap0 : Nat) (l : List UInt8) (w : World) (hs : Sl u8 w A0 l) (hl : l.length ≤ 1000000000) :
    Calls Try.prog 76 #[.slice A0 l.length cap0] w fun e w' => ∃ ep ns ec A cap, GotC l ep ns ec ∧ ns.length ≤ cap ∧ e = .returned (.tuple #[.agg #[.int .i64 (ep : Nat), .slice A ns.length cap], .int .i64 ec]) ∧ Sl i64 w' A (ints ns) ∧ Ext w w' := by
  refine hide_post fun D hD => ?_
  obtain ⟨b, hb⟩ : ∃ b, b = w.heap.size := ⟨_, rfl⟩
  obtain ⟨W0, hW0⟩ : ∃ W0, W0 = w.alloc (.cells #[.int .i64 0, .slice none 0 0] 26) := ⟨_, rfl⟩
  have hx0 : Ext w W0 := by rw [hW0]; exact Ext.alloc _ _
  have kr : Blk W0 b 26 #[.int .i64 0, .slice none 0 0] := by rw [hW0, hb]; exact Blk.new _ _ _
  have C1 := Lib.hid (new_in A0 cap0 l W0 (hs.stay hx0) hl)
  have HX0 := Lib.hid hx0
  have HKR := Lib.hid kr
  have HW0 := Lib.hid hW0
  have HB := Lib.hid hb
  have HL := Lib.hid hl
  clear hx0 kr hW0 hb hs hl
  go_enter Try.func76, Try.ntmps76
  go_wp2_with fail
  rw [← HW0.out, ← HB.out]
  go_at_call 75
  with_reducible refine C1.out.mono ?_
  rintro e w1 ⟨P, rfl, hrd, hx1, hP⟩
  have hbP : b < P := Nat.lt_of_lt_of_le HKR.out.lt hP
  have C2 := Lib.hid (numR_inI (fun k => k < P) P l false 1073741824 1073741824 rfl w1 hrd HL.out)
  have hlen := rdNum_len l false 1073741824
  have hn1 := HL.out
  generalize h1 : rdNum l false 1073741824 = x1 at *
  obtain ⟨ep, l1, b1⟩ := x1
  simp only at C2 hlen
  have HX1 := Lib.hid hx1
  have HBP := Lib.hid hbP
  have H1 := Lib.hid h1
  have hq1 : IntKind.i64.wrap (ep : Int) = (ep : Int) := IntWalk.i64_in _ (by omega)
  clear C1 hrd hx1 hP h1 hbP
  go_wp2_with fail
  go_at_call 94
  with_reducible refine C2.out.mono ?_
  rintro e w2 ⟨rfl, hrd, hf⟩
  obtain ⟨z, hz⟩ : ∃ z, z = w2.heap.size := ⟨_, rfl⟩
  obtain ⟨W3, hW3⟩ : ∃ W3, W3 = w2.alloc (.cells #[.int .i64 ep, .slice none 0 0] 26) := ⟨_, rfl⟩
  have hx3 : Ext w2 W3 := by rw [hW3]; exact Ext.alloc _ _
  have kz : Blk W3 z 26 #[.int .i64 ep, .slice none 0 0] := by rw [hW3, hz]; exact Blk.new _ _ _
  have hPz : P < z := by rw [hz]; exact hrd.lt
  have hxw : Ext w W3 := Ext.trans (hf.step (Ext.trans HX0.out HX1.out) (Ext.trans HX0.out HX1.out).size (fun k hk => by subst hk; have := HBP.out; have := HB.out; omega)) hx3
  have kr3 := ((HKR.out.stay HX1.out).frm hf (show ¬ b = P by have := HBP.out; omega)).stay hx3
  have C4 := Lib.hid (numR_inI (fun k => k < P) P l1 b1 5 5 rfl W3 (hrd.stay hx3) (by omega))
  have hlen2 := rdNum_len l1 b1 5
  generalize h2 : rdNum l1 b1 5 = x2 at *
  obtain ⟨n, l2, b2⟩ := x2
  simp only at C4 hlen2
  have H2 := Lib.hid h2
  have HXW := Lib.hid hxw
  have HKR3 := Lib.hid kr3
  have HKZ := Lib.hid kz
  have HPZ := Lib.hid (And.intro HBP.out hPz)
  have HW3 := Lib.hid hW3
  have HZ := Lib.hid hz
  have hn5 : n ≤ 5 := hlen2.2
  have hl2 : l2.length ≤ 1000000000 := by omega
  clear C2 hrd hf hx3 kz hPz hxw kr3 h2 hW3 hz hlen hlen2 hn1
  go_wp2_with fail
  rw [← HW3.out, ← HZ.out]
  go_wp2_with fail
  go_at_call 94
  with_reducible refine C4.out.mono ?_
  rintro e w4 ⟨rfl, hrd, hf⟩
  have HC4 : Hid (CS w w4 b P z ep none 0 [] l2 b2 l2 b2) :=
    ⟨hf.step HXW.out HXW.out.size (fun k hk => by subst hk; have := HBP.out; have := HB.out; omega), HKR3.out.frm hf (show ¬ b = P by have := HBP.out; omega), HKZ.out.frm hf (show ¬ z = P by have := HPZ.out.2; omega), World.ownsRow_nil _ _ _ _, hrd, ⟨rfl, rfl⟩, hl2⟩
  clear C4 hrd hf hl2
  go_wp2
  go_loopw [14] (fun i wr => ∃ (j : Nat) (ns : List Nat) (A : Option Addr) (cap : Nat) (l' : List UInt8) (b' : Bool), j ≤ n ∧ ns.length = j ∧ i = .int .u64 j ∧ Hid (CS w wr b P z ep A cap ns l2 b2 l' b')) (fun i _ => n - (intOf i).toNat)
  case atStart => exact ⟨0, [], none, 0, l2, b2, Nat.zero_le _, rfl, rfl, HC4⟩
  case round =>
    obtain ⟨j, ns, A, cap, l', b', hj, hnj, rfl, HC⟩ := hrel
    by_cases hlt : j < n
    · have hc := HC.out
      obtain ⟨hcx, hcr, hcq, hco, hcrd, hcrl, hcln⟩ := hc
      rw [hnj] at hcq hco
      obtain ⟨wd, hwd⟩ : ∃ wd, wd = wr.drew := ⟨_, rfl⟩
      have hxd : Ext wr wd := by rw [hwd]; exact Ext.drewR (Ext.refl _)
      have C3 := Lib.hid (numR_inI (fun k => k < P) P l' b' 5 5 rfl wd (hcrd.stay hxd) hcln)
      have hlen3 := rdNum_len l' b' 5
      generalize h3 : rdNum l' b' 5 = x3 at *
      obtain ⟨x, l3, b3⟩ := x3
      simp only at C3 hlen3
      have H3 := Lib.hid h3
      have HQd := Lib.hid (hcq.stay hxd)
      have HOd : Hid (wd.ownsRow (z + 1) 3 1 (.slice A j cap) j ((ints ns).map i64)) := own_frm hco (Frm.of_below hxd (fun _ => False)) (fun _ _ h => h)
      have HZS : Hid (z + 1 ≤ wd.heap.size) := HQd.out.lt
      have HXD : Hid (Ext w wd) := Ext.trans hcx hxd
      have HRD := Lib.hid (hcr.stay hxd)
      have HLN : Hid (l3.length ≤ 1000000000) := Nat.le_trans hlen3.1 hcln
      have HRL : Hid (RdL 5 (ns ++ [x]) l2 b2 l3 b3) := hcrl.snoc h3
      have HNJ := Lib.hid hnj
      have fz : ∀ V, Frm (fun k => k = P ∨ z + 1 ≤ k) wd V → V.cell? ⟨z, 1, none⟩ = some (.slice A j cap) := fun V h => (HQd.out.frm h (show ¬ (z = P ∨ z + 1 ≤ z) by have := HPZ.out.2; omega)).cell 1
      have hqx : IntKind.i64.wrap (x : Int) = (x : Int) := IntWalk.i64_in _ (by omega)
      have E0 : Hid (Frm (fun k => k = P ∨ z + 1 ≤ k) wd wd) := Frm.refl _ _
      have HWD := Lib.hid hwd
      clear hcx hcr hcq hco hcrd hcrl hcln hwd hxd h3 hlen3 hnj HC
      go_wp2
      refine rz_begin (fun k => k = P ∨ z + 1 ≤ k) [8] (by kernel_rfl) ?_
      rw [← HWD.out]
      refine rz_take [1, 6, 7, 8] (i := 0) (v := ?_) rfl (by kernel_rfl) (by kernel_rfl) (by kernel_rfl) (by kernel_rfl) (by kernel_rfl) (by kernel_rfl) (fun _ _ _ h => h) (by rfl) ?_ ?_
      rotate_left
      · intro W hW; have hW0 := Frm.tr E0.out hW; clear hW; go_simp <;> with_reducible rfl
      try simp only [Act.put, List.setIfInBounds_toArray, List.set_cons_zero, List.set_cons_succ]
      refine rz_take [6, 7, 8] (i := 1) (v := ?_) rfl (by kernel_rfl) (by kernel_rfl) (by kernel_rfl) (by kernel_rfl) (by kernel_rfl) (by kernel_rfl) (fun _ _ _ h => h) (by rfl) ?_ ?_
      rotate_left
      · intro W hW; have hW0 := Frm.tr E0.out hW; clear hW; go_simp <;> with_reducible rfl
      try simp only [Act.put, List.setIfInBounds_toArray, List.set_cons_zero, List.set_cons_succ]
      refine rz_take [3, 4, 5, 6, 7, 8] (i := 2) (v := ?_) rfl (by kernel_rfl) (by kernel_rfl) (by kernel_rfl) (by kernel_rfl) (by kernel_rfl) (by kernel_rfl) (fun _ _ _ h => h) (by rfl) ?_ ?_
      rotate_left
      · intro W hW; have hW0 := Frm.tr E0.out hW; clear hW; go_simp <;> with_reducible rfl
      try simp only [Act.put, List.setIfInBounds_toArray, List.set_cons_zero, List.set_cons_succ]
      refine rz_call (i := 3) rfl (by kernel_rfl) (by rfl) (fun K hK => ?_)
      go_simp
      (go_at_call 94; (with_reducible refine C3.out.mono ?_); rintro e w3 ⟨rfl, hrd, hf⟩; refine hK _ _ (hf.mono (fun k hk => .inl hk)) ?_; clear hK K)
      have HRD3 := Lib.hid hrd
      have HF3 := Lib.hid hf
      have HO3 := Lib.hid (own_frm HOd.out hf (fun k hk e => by have := (HOd.out.lt k hk).1; have := HPZ.out.2; omega))
      have E3 := Lib.hid (Frm.mono (s' := fun k => k = P ∨ z + 1 ≤ k) hf (fun k hk => .inl hk))
      clear hrd hf
      try simp only [Act.put, List.setIfInBounds_toArray, List.set_cons_zero, List.set_cons_succ]
      refine rz_take [5, 6, 7, 8] (i := 4) (v := .int .i64 x) rfl (by kernel_rfl) (by kernel_rfl) (by kernel_rfl) (by kernel_rfl) (by kernel_rfl) (by kernel_rfl) (fun _ _ _ h => h) (by rfl) ?_ ?_
      · intro W hW; have hW0 := Frm.tr E3.out hW; clear hW; go_simp <;> with_reducible rfl
      try simp only [Act.put, List.setIfInBounds_toArray, List.set_cons_zero, List.set_cons_succ]
      refine rz_call (i := 5) rfl (by kernel_rfl) (by rfl) (fun K hK => ?_)
      go_simp
      refine hK _ _ (Frm.of_alloc _ _ _) ?_; clear hK K
      obtain ⟨W5, hW5⟩ : ∃ W5, W5 = w3.alloc (.cells #[.int .i64 x] 3) := ⟨_, rfl⟩
      obtain ⟨g5, hg5⟩ : ∃ g5, g5 = w3.heap.size := ⟨_, rfl⟩
      have X5 : Hid (Ext w3 W5) := by (show Ext _ _); rw [hW5]; exact Ext.alloc _ _
      have O5 : Hid (W5.ownsRow (z + 1) 3 1 (.slice A j cap) j ((ints ns).map i64)) := by (show World.ownsRow _ _ _ _ _ _ _); rw [hW5]; exact HO3.out.alloc _
      have B5 : Hid (Blk W5 g5 3 #[.int .i64 x]) := by (show Blk _ _ _ _); rw [hW5, hg5]; exact Blk.new _ _ _
      have E5 : Hid (Frm (fun k => k = P ∨ z + 1 ≤ k) wd W5) := Frm.tr E3.out (Frm.of_below X5.out _)
      rw [← hW5, ← hg5]
      clear hW5 hg5
      try simp only [Act.put, List.setIfInBounds_toArray, List.set_cons_zero, List.set_cons_succ]
      refine rz_call (i := 6) rfl (by kernel_rfl) (by rfl) (fun K hK => ?_)
      refine wp_append_list (.tmp 17) (.tmp 21) 24 rfl (z + 1) 3 (.int .i64 0) 8 Try.underlying24 info_int rfl (by decide) (.slice A j cap) j ((ints ns).map i64) rfl O5.out i64 (some ⟨g5, 0, none⟩) [(x : Int)] 1 1 rfl rfl (Sl.of_blk B5.out (fun k v hk => by match k, hk with | 0, hk => (simp at hk; subst hk; rfl))) (fun _ => rfl) (by simp; omega) (Nat.le_trans HZS.out (Nat.le_trans HF3.out.size X5.out.size)) ?_
      intro v6 W6 oo gg bb
      refine hK _ _ (Frm.of_grown gg (fun k hk => .inr (O5.out.lt k hk.symm).1)) ?_; clear hK K
      have F6 : Frm (fun k => z + 1 ≤ k) W5 W6 := Frm.of_grown gg (fun k hk => (O5.out.lt k hk.symm).1)
      obtain ⟨A6, c6, rfl⟩ := own_shape oo
      have O6 : Hid (W6.ownsRow (z + 1) 3 1 (.slice A6 (j + 1) c6) (j + 1) ((ints (ns ++ [x])).map i64)) := by
        have h : (ints (ns ++ [x])).map i64 = (ints ns).map i64 ++ [(x : Int)].map i64 := by simp [ints]
        (show World.ownsRow _ _ _ _ _ _ _)
        rw [h]
        exact oo
      have E6 : Hid (Frm (fun k => k = P ∨ z + 1 ≤ k) wd W6) := Frm.tr E5.out (F6.mono (fun k hk => .inr hk))
      have HF6 := Lib.hid (And.intro X5.out F6)
      have kz6 := HQd.out.frm E6.out (show ¬ (z = P ∨ z + 1 ≤ z) by have := HPZ.out.2; omega)
      have cz := kz6.cell 1
      have fzz := kz6.frozen 1
      simp at cz
      have HKZ6 := Lib.hid kz6
      clear oo gg bb F6 kz6
      try simp only [Act.put, List.setIfInBounds_toArray, List.set_cons_zero, List.set_cons_succ]
      refine rz_take [8] (i := 7) (v := ?_) rfl (by kernel_rfl) (by kernel_rfl) (by kernel_rfl) (by kernel_rfl) (by kernel_rfl) (by kernel_rfl) (fun _ _ _ h => h) (by rfl) ?_ ?_
      rotate_left
      · intro W hW; have hW0 := Frm.tr E6.out hW; clear hW; go_simp <;> with_reducible rfl
      try simp only [Act.put, List.setIfInBounds_toArray, List.set_cons_zero, List.set_cons_succ]
      refine rz_last (i := 8) rfl (by kernel_rfl) (by rfl) (by rfl) (fun K hK => ?_)
      go_simp
      refine hK _ _ ?_; clear hK K
      try simp only [Act.put, List.setIfInBounds_toArray, List.set_cons_zero, List.set_cons_succ]
      refine rz_done (by kernel_rfl) ?_ _

      clear fz cz fzz
      have HS8 : Hid (CS w (W6.setCell ⟨z, 1, none⟩ (.slice A6 (j + 1) c6)) b P z ep A6 c6 (ns ++ [x]) l2 b2 l3 b3) := by
        have hF : Frm (fun k => k = z) W6 (W6.setCell ⟨z, 1, none⟩ (.slice A6 (j + 1) c6)) := Frm.of_set _ _ _ rfl
        have hl1 : (ns ++ [x]).length = j + 1 := by rw [List.length_append, HNJ.out]; rfl
        have h1 := HPZ.out.1
        have h2 := HPZ.out.2
        have hbw := HB.out
        refine ⟨hF.step (E6.out.step HXD.out HXD.out.size (fun k hk => by omega)) (Nat.le_trans HXD.out.size E6.out.size) (fun k hk => by omega), (HRD.out.frm E6.out (by omega)).frm hF (by omega), ?_, ?_, ?_, HRL.out, HLN.out⟩
        · rw [hl1]; exact HKZ6.out.set 1 (.slice A6 (j + 1) c6)
        · rw [hl1]; exact own_frm O6.out hF (fun k hk e => by have := (O6.out.lt k hk).1; omega)
        · exact (((HRD3.out.stay HF6.out.1).frm HF6.out.2 (by omega) (fun k hk => by omega)).frm hF (by omega) (fun k hk => by omega))
      go_wp2
      go_roundw
      case rel => exact ⟨j + 1, ns ++ [x], A6, c6, l3, b3, by omega, by rw [List.length_append, HNJ.out]; rfl, by go_num, HS8⟩
      case measure => simp [intOf]; omega
    · have hnl : ¬ (j : Int) < (n : Int) := by omega
      have HJN : Hid (j = n) := by (show _ = _); omega
      obtain ⟨hcx, hcr, hcq, hco, hcrd, hcrl, hcln⟩ := HC.out
      have hsl : Sl i64 wr A (ints ns) := by
        have h := hco
        rw [← ints_len ns] at h
        obtain ⟨A', c', e, h⟩ := own_view h
        injection e with e1 e2 e3
        subst e1
        exact h
      have hcap : ns.length ≤ cap := by
        rcases hco.2 with ⟨e, hn⟩ | ⟨g, c, cur, e, _, _, k1, _⟩
        · injection e with e1 e2 e3; omega
        · injection e with e1 e2 e3; omega
      have hrc : RdC 1073741824 5 5 l ep ns l' b' := ⟨l1, b1, l2, b2, H1.out, by rw [hnj, HJN.out]; exact H2.out, hcrl⟩
      have HG := Lib.hid (hrc.got (by omega) (by omega) (by omega))
      have CE := Lib.hid (endR_any P l' b' wr hcrd.at_ hcln)
      have hmc := mayChain_any ep A cap (ints ns) wr (by rw [ints_len]; omega) (by rw [ints_len]; exact hcap) hsl
      rw [ints_len, hnj] at hmc
      have CM := Lib.hid hmc
      have HOB : Hid (∀ a, A = some a → ¬ a.block = b) := fun a ha e => by
        subst ha
        have := (hco.lt a.block rfl).1
        have h1 := HPZ.out.1
        have h2 := HPZ.out.2
        omega
      rw [hnj] at hcq hcap
      have HX := Lib.hid hcx
      have HR := Lib.hid hcr
      have HQ := Lib.hid hcq
      have HSL := Lib.hid hsl
      have HCAP := Lib.hid hcap
      have HNJ := Lib.hid hnj
      have o0 : wr.cell? ⟨z, 0, none⟩ = some (.int .i64 ep) := hcq.cell 0
      have o1 : wr.cell? ⟨z, 1, none⟩ = some (.slice A j cap) := hcq.cell 1
      have g0 := hcr.frozen 0
      have g1 := hcr.frozen 1
      have p0 : wr.cell? ⟨b, 0, none⟩ = some (.int .i64 0) := hcr.cell 0
      have p1 : wr.cell? ⟨b, 1, none⟩ = some (.slice none 0 0) := hcr.cell 1
      clear hcx hcr hcq hco hcrd hcrl hcln hsl hcap hrc hmc HC hnj hlt hj
      generalize endN l' b' = en at *
      generalize hmr : mayChainB ep (ints ns) = mr at *
      have HMR := Lib.hid hmr
      clear hmr
      by_cases h0 : en = 0
      case neg =>
        have HGO : Hid (GotC l 0 [] 2) := HG.out.2 (fun h => h0 h.1)
        have hne : ((en : Int) == 0) = false := by simp [h0]
        clear HG
        go_wp2_with (go_at_call 80; (with_reducible refine CE.out.mono ?_); rintro e w5 ⟨rfl, rfl⟩)
        clear o0 o1 g0 g1 p0 p1
        have K9 := (HR.out.set 0 (.int .i64 0)).set 1 (.slice none 0 0)
        have hF9 : Frm (fun k => k = b) wr ((wr.setCell ⟨b, 0, none⟩ (.int .i64 0)).setCell ⟨b, 1, none⟩ (.slice none 0 0)) := Frm.tr (Frm.of_set _ _ _ rfl) (Frm.of_set _ _ _ rfl)
        have hx9 := Frm.step HX.out hF9 HX.out.size (fun k hk => by rw [hk, HB.out]; exact Nat.le_refl _)
        have HF9 := Lib.hid hF9
        clear hF9
        generalize ((wr.setCell ⟨b, 0, none⟩ (.int .i64 0)).setCell ⟨b, 1, none⟩ (.slice none 0 0)) = W9 at *
        have k0 : W9.cell? ⟨b, 0, none⟩ = some (.int .i64 0) := K9.cell 0
        have k1 : W9.cell? ⟨b, 1, none⟩ = some (.slice none 0 0) := K9.cell 1
        exact bodyPost_ret (v := .tuple #[.agg #[.int .i64 0, .slice none 0 0], .int .i64 2]) (by simp [results, Try.results76, go_sem, k0, k1]) rfl (hD.out _ _ ⟨0, [], 2, none, 0, HGO.out, Nat.zero_le _, rfl, Sl.nil _ _ _, hx9⟩)
      case pos =>
        subst h0
        cases mr
        case false =>
          have HGO : Hid (GotC l 0 [] 2) := HG.out.2 (fun h => by have := h.2; cases this)
          clear HG
          go_wp2_with (first
            | (go_at_call 80; (with_reducible refine CE.out.mono ?_); rintro e w5 ⟨rfl, rfl⟩)
            | (go_at_call 45; (with_reducible refine CM.out.mono ?_); rintro e w6 ⟨rfl, hx⟩; have HX6 : Hid (Ext w w6) := Ext.trans HX.out hx; have kr6 := HR.out.stay hx; have HR6 := Lib.hid kr6; have r0 := kr6.frozen 0; have r1 := kr6.frozen 1; have u0 : w6.cell? ⟨b, 0, none⟩ = some (.int .i64 0) := kr6.cell 0; have u1 : w6.cell? ⟨b, 1, none⟩ = some (.slice none 0 0) := kr6.cell 1; clear hx kr6))
          clear o0 o1 g0 g1 p0 p1 r0 r1 u0 u1
          have K9 := (HR6.out.set 0 (.int .i64 0)).set 1 (.slice none 0 0)
          have hF9 : Frm (fun k => k = b) w6 ((w6.setCell ⟨b, 0, none⟩ (.int .i64 0)).setCell ⟨b, 1, none⟩ (.slice none 0 0)) := Frm.tr (Frm.of_set _ _ _ rfl) (Frm.of_set _ _ _ rfl)
          have hx9 := Frm.step HX6.out hF9 HX6.out.size (fun k hk => by rw [hk, HB.out]; exact Nat.le_refl _)
          have HF9 := Lib.hid hF9
          clear hF9
          generalize ((w6.setCell ⟨b, 0, none⟩ (.int .i64 0)).setCell ⟨b, 1, none⟩ (.slice none 0 0)) = W9 at *
          have k0 : W9.cell? ⟨b, 0, none⟩ = some (.int .i64 0) := K9.cell 0
          have k1 : W9.cell? ⟨b, 1, none⟩ = some (.slice none 0 0) := K9.cell 1
          exact bodyPost_ret (v := .tuple #[.agg #[.int .i64 0, .slice none 0 0], .int .i64 2]) (by simp [results, Try.results76, go_sem, k0, k1]) rfl (hD.out _ _ ⟨0, [], 2, none, 0, HGO.out, Nat.zero_le _, rfl, Sl.nil _ _ _, hx9⟩)
        case true =>
          have HGO : Hid (GotC l ep ns 0) := HG.out.1 ⟨rfl, rfl⟩
          clear HG
          go_wp2_with (first
            | (go_at_call 80; (with_reducible refine CE.out.mono ?_); rintro e w5 ⟨rfl, rfl⟩)
            | (go_at_call 45; (with_reducible refine CM.out.mono ?_); rintro e w6 ⟨rfl, hx⟩; have HX6 : Hid (Ext w w6) := Ext.trans HX.out hx; have kr6 := HR.out.stay hx; have kz6 := HQ.out.stay hx; have HR6 := Lib.hid kr6; have HSL6 := Lib.hid (HSL.out.stay hx); have r0 := kr6.frozen 0; have r1 := kr6.frozen 1; have u0 : w6.cell? ⟨b, 0, none⟩ = some (.int .i64 0) := kr6.cell 0; have u1 : w6.cell? ⟨b, 1, none⟩ = some (.slice none 0 0) := kr6.cell 1; have t0 : w6.cell? ⟨z, 0, none⟩ = some (.int .i64 ep) := kz6.cell 0; have t1 : w6.cell? ⟨z, 1, none⟩ = some (.slice A j cap) := kz6.cell 1; clear hx kr6 kz6))
          clear o0 o1 g0 g1 p0 p1 r0 r1 u0 u1 t0 t1
          have K9 := (HR6.out.set 0 (.int .i64 ep)).set 1 (.slice A j cap)
          have hF9 : Frm (fun k => k = b) w6 ((w6.setCell ⟨b, 0, none⟩ (.int .i64 ep)).setCell ⟨b, 1, none⟩ (.slice A j cap)) := Frm.tr (Frm.of_set _ _ _ rfl) (Frm.of_set _ _ _ rfl)
          have hx9 := Frm.step HX6.out hF9 HX6.out.size (fun k hk => by rw [hk, HB.out]; exact Nat.le_refl _)
          have HF9 := Lib.hid hF9
          clear hF9
          generalize ((w6.setCell ⟨b, 0, none⟩ (.int .i64 ep)).setCell ⟨b, 1, none⟩ (.slice A j cap)) = W9 at *
          have k0 : W9.cell? ⟨b, 0, none⟩ = some (.int .i64 ep) := K9.cell 0
          have k1 : W9.cell? ⟨b, 1, none⟩ = some (.slice A j cap) := K9.cell 1
          exact bodyPost_ret (v := .tuple #[.agg #[.int .i64 ep, .slice A j cap], .int .i64 0]) (by simp [results, Try.results76, go_sem, k0, k1]) rfl (hD.out _ _ ⟨ep, ns, 0, A, cap, HGO.out, by rw [HNJ.out]; exact HCAP.out, by rw [HNJ.out], HSL6.out.frm' HF9.out (fun a ha => HOB.out a ha), hx9⟩)
end Go.Proofs.Ytkdcbidbciognaa
