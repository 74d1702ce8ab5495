/-
  Acts that came in, within the reach: how long each list of versions may be.
-/
import Derived.Test.YtnionfddejaalaaOpenOpsAct
import Derived.Test.YtnionfddejaalaaSized
namespace Go.Proofs.Ytnionfddejaalaa
set_option linter.unusedVariables false
set_option linter.unusedSimpArgs false
set_option maxRecDepth 20000
open Go.RowKit Go.ChangeShapes Go.WideShapes Go.Joins Go.Deep

theorem weightsAll_mem {H : Type} {P : Program} {e : TypeId} : ∀ {ds : List (DataW H)} {j : Nat} {d : DataW H}, ds[j]? = some d → ∀ n ∈ d.weights P e, n ∈ DataW.weightsAll P e ds
  | [], j, d, h, _, _ => by simp at h
  | d0 :: ds, 0, d, h, n, hn => by
    simp only [List.getElem?_cons_zero, Option.some.injEq] at h
    subst h
    simp only [DataW.weightsAll, List.mem_append]
    exact .inl hn
  | d0 :: ds, j + 1, d, h, n, hn => by
    simp only [List.getElem?_cons_succ] at h
    simp only [DataW.weightsAll, List.mem_append]
    exact .inr (weightsAll_mem h n hn)
theorem fields_act22 : Try.prog.underlying 50 = some (.struct (Try.prog.fieldsOf 50)) ∧ ((Try.prog.fieldsOf 50).toList.map (·.type)) = [3, 3, 4, 29, 35, 3] := ⟨by kernel_rfl, by kernel_rfl⟩
theorem fields_reply22 : Try.prog.underlying 35 = some (.struct (Try.prog.fieldsOf 35)) ∧ ((Try.prog.fieldsOf 35).toList.map (·.type)) = [3, 3, 9, 33] := ⟨by kernel_rfl, by kernel_rfl⟩
theorem bytes_int22 : Try.prog.bytesOf 3 = 8 := by kernel_rfl
theorem act_len {H : Type} {enc : TypeId × Value → H} {W : World} {fuel : Nat} {cs : List Value} {x : DataW H × List MemPlace} (h : DataW.trod enc Try.prog W 0 (fun _ => true) true fuel 50 cs = some x)
    (hw : ∀ n ∈ x.1.weights Try.prog 50, n ≤ reachBytes) {A : Option Addr} {m c : Nat} (hc : cs[12]? = some (.slice A m c)) : m ≤ 17592186043904 := by
  obtain ⟨ys0, n0, _, rfl, hlen, hyl0, hf0⟩ := DataW.trod_struct Try.underlying50 h
  rw [cells_Act_0] at hlen
  obtain ⟨x0, x1, x2, x3, x4, x5, x6, x7, x8, x9, x10, x11, x12, x13, rfl⟩ : ∃ x0 x1 x2 x3 x4 x5 x6 x7 x8 x9 x10 x11 x12 x13, cs = [x0, x1, x2, x3, x4, x5, x6, x7, x8, x9, x10, x11, x12, x13] := by
    match cs, hlen with
    | [x0, x1, x2, x3, x4, x5, x6, x7, x8, x9, x10, x11, x12, x13], _ => exact ⟨_, _, _, _, _, _, _, _, _, _, _, _, _, _, rfl⟩
  obtain ⟨y0_0, y0_1, y0_2, y0_3, y0_4, y0_5, rfl⟩ : ∃ y0_0 y0_1 y0_2 y0_3 y0_4 y0_5, ys0 = [y0_0, y0_1, y0_2, y0_3, y0_4, y0_5] := by
    match ys0, hyl0 with
    | [y0_0, y0_1, y0_2, y0_3, y0_4, y0_5], _ => exact ⟨_, _, _, _, _, _, rfl⟩
  have g0_4 : DataW.trod enc Try.prog W 0 (fun _ => true) true n0 35 [x9, x10, x11, x12] = some y0_4 := by
    have q : DataW.trod enc Try.prog W 0 (fun _ => true) true n0 35 (([x0, x1, x2, x3, x4, x5, x6, x7, x8, x9, x10, x11, x12, x13].drop 9).take (Try.prog.cellsOf 35)) = [y0_0, y0_1, y0_2, y0_3, y0_4, y0_5][4]? := hf0 4 _ rfl
    rw [cells_Act_5] at q
    exact q
  obtain ⟨ys11, n11, _, rfl, _, hyl11, hf11⟩ := DataW.trod_struct Try.underlying35 g0_4
  obtain ⟨y11_0, y11_1, y11_2, y11_3, rfl⟩ : ∃ y11_0 y11_1 y11_2 y11_3, ys11 = [y11_0, y11_1, y11_2, y11_3] := by
    match ys11, hyl11 with
    | [y11_0, y11_1, y11_2, y11_3], _ => exact ⟨_, _, _, _, rfl⟩
  have g11_3 : DataW.trod enc Try.prog W 0 (fun _ => true) true n11 33 [x12] = some y11_3 := by
    have q : DataW.trod enc Try.prog W 0 (fun _ => true) true n11 33 (([x9, x10, x11, x12].drop 3).take (Try.prog.cellsOf 33)) = [y11_0, y11_1, y11_2, y11_3][3]? := hf11 3 _ rfl
    rw [cells_Act_6] at q
    exact q
  have hx12 : x12 = .slice A m c := by simpa using hc
  subst hx12
  rcases open_slice Try.underlying33 g11_3 with ⟨e, _⟩ | ⟨a, len, cap, mm, n, D, Pl, e, _, _, _, _, hx, _⟩
  · simp only [List.cons.injEq, Value.slice.injEq, and_true] at e
    rw [e.2.1]
    decide
  · simp only [List.cons.injEq, Value.slice.injEq, and_true] at e
    obtain ⟨_, rfl, _⟩ := e
    subst hx
    have h1 := hw ((((List.range m).map D).length + ((List.range (mm - m)).map fun j => D (m + j)).length) * Try.prog.bytesOf 3) (by
      unfold DataW.weights
      rw [fields_act22.1]
      simp only [fields_act22.2]
      refine DataW.weights_mem_each (j := 4) (t := 35) rfl rfl _ ?_
      unfold DataW.weights
      rw [fields_reply22.1]
      simp only [fields_reply22.2]
      refine DataW.weights_mem_each (j := 3) (t := 33) rfl rfl _ ?_
      unfold DataW.weights
      rw [Try.underlying33]
      simp only [List.mem_cons]
      exact .inl trivial)
    rw [bytes_int22] at h1
    simp only [List.length_map, List.length_range] at h1
    have h2 : reachBytes = 140737488351232 := by kernel_rfl
    rw [h2] at h1
    omega
theorem acts_len {H : Type} {enc : TypeId × Value → H} {W : World} {fuel : Nat} {A : Option Addr} {l : List OpAct} {cap : Nat} {x : DataW H × List MemPlace} (h : DataW.trod enc Try.prog W 0 (fun _ => true) true fuel 26 [.slice A l.length cap] = some x)
    (hw : ∀ n ∈ x.1.weights Try.prog 26, n ≤ reachBytes) (hS : SoAct W A l) : ∀ t ∈ l, t.rl.length ≤ 17592186043904 := by
  intro t ht
  obtain ⟨j, hj⟩ := List.getElem?_of_mem ht
  have hjl : j < l.length := (List.getElem?_eq_some_iff.1 hj).1
  obtain ⟨b, o, rfl, hcell, _, _⟩ := hS j t hj
  rcases open_slice Try.underlying26 h with ⟨e, _⟩ | ⟨a, len, cap', m, n, D, Pl, e, hb, hl, hm, hmm, hx, hi⟩
  · simp at e
  · simp only [List.cons.injEq, Value.slice.injEq, and_true] at e
    obtain ⟨e1, rfl, _⟩ := e
    injection e1 with e1
    subst e1
    subst hx
    rw [cells_Act_0] at hi
    have hlm : l.length ≤ m := by rw [hmm]; split <;> omega
    obtain ⟨cs', hc, ht'⟩ := hi j (by omega)
    obtain ⟨_, hl1, hat⟩ := World.cells?_some hc
    have h1 := hat (i := 12) (by omega)
    rw [Go.WideShapes.add_plain, Go.WideShapes.add_plain, hcell 12 (by decide)] at h1
    refine act_len ht' (fun n hn => hw n ?_) (A := t.rA) (c := t.rcap) (by rw [← h1]; rfl)
    unfold DataW.weights
    rw [Try.underlying26]
    simp only [List.mem_cons, List.mem_append]
    refine .inr (.inl (weightsAll_mem (j := j) (d := D j) ?_ n hn))
    rw [List.getElem?_map, List.getElem?_range hjl]
    rfl
end Go.Proofs.Ytnionfddejaalaa
