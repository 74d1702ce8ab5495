/-
  A byte that is turned in a record's frame: those ahead of it are read, and, behind its length, none from it on.
-/
import Derived.Test.YtgcclkdlomifcaaWalTwo
import Derived.Test.YtgcclkdlomifcaaTurn
namespace Go.Proofs.Ytgcclkdlomifcaa
set_option linter.unusedVariables false
set_option linter.unusedSimpArgs false
open Go.RowKit

theorem ofNat_mod {a b : Nat} (h : UInt8.ofNat a = UInt8.ofNat b) : a % 256 = b % 256 := by
  have := congrArg UInt8.toNat h
  rwa [UInt8.toNat_ofNat', UInt8.toNat_ofNat'] at this
theorem headB_inj {n c c' : Nat} (hc : c < 4294967296) (hc' : c' < 4294967296) (h : headB n c = headB n c') : c = c' := by
  unfold headB at h
  simp only [List.cons.injEq, true_and, and_true] at h
  obtain ⟨h1, h2, h3, h4⟩ := h
  have h1 := ofNat_mod h1
  have h2 := ofNat_mod h2
  have h3 := ofNat_mod h3
  have h4 := ofNat_mod h4
  omega
theorem headB_len (n c : Nat) : (headB n c).length = 6 := rfl
theorem turned_step (x rest : List UInt8) (i : Nat) (t : UInt8) (ht : t ≠ 0) (h1 : 1 ≤ x.length) (h2 : x.length ≤ 4096) (hi : 2 ≤ i) (hi2 : i < (frameB x).length) : stepB ((frameB x).set i ((frameB x)[i] ^^^ t) ++ rest) = none := by
  have hne : ∀ c : UInt8, c ^^^ t ≠ c := fun c e => by
    have h3 : c ^^^ (c ^^^ t) = c ^^^ c := by rw [e]
    rw [← UInt8.xor_assoc, UInt8.xor_self, UInt8.zero_xor] at h3
    exact ht h3
  cases hs : stepB ((frameB x).set i ((frameB x)[i] ^^^ t) ++ rest) with
  | none => rfl
  | some y =>
    exfalso
    obtain ⟨_, _, _, h4, h5, h6, h7⟩ := stepB_some hs
    have hF : ((frameB x).set i ((frameB x)[i] ^^^ t)).length = x.length + 6 := by rw [List.length_set, frameB_len]
    have hn : numAt ((frameB x).set i ((frameB x)[i] ^^^ t) ++ rest) = x.length := by
      rw [← numAt_frame x [] (by omega), numAt_append _ _ (by omega), List.append_nil]
      unfold numAt
      rw [List.getD_eq_getElem?_getD, List.getD_eq_getElem?_getD, List.getElem?_set_ne (by omega), List.getElem?_set_ne (by omega), ← List.getD_eq_getElem?_getD, ← List.getD_eq_getElem?_getD]
    rw [hn] at h5 h6
    rw [h5, ← hF, List.take_left] at h7
    rw [List.drop_append_of_le_length (by omega), List.take_append_of_le_length (by rw [List.length_drop]; omega)] at h6
    rw [List.take_of_length_le (by rw [List.length_drop]; omega)] at h6
    by_cases h : i < 6
    · have hy : y = x := by
        rw [h6]
        unfold frameB
        rw [List.set_append_left _ _ (by rw [headB_len]; omega), List.drop_append_of_le_length (by rw [List.length_set, headB_len]; omega), List.drop_of_length_le (by rw [List.length_set, headB_len]; omega), List.nil_append]
      rw [hy] at h7
      have h8 := congrArg (fun l => l[i]?) h7
      rw [List.getElem?_set_self hi2, List.getElem?_eq_getElem hi2] at h8
      injection h8 with h8
      exact hne _ h8.symm
    · have hil : i - 6 < x.length := by rw [frameB_len] at hi2; omega
      have hg : (frameB x)[i] = x[i - 6] := by
        have hq : (frameB x)[i]? = x[i - 6]? := by
          unfold frameB
          rw [List.getElem?_append_right (by rw [headB_len]; omega)]
          rfl
        rw [List.getElem?_eq_getElem hi2, List.getElem?_eq_getElem hil] at hq
        injection hq
      have hset : (frameB x).set i ((frameB x)[i] ^^^ t) = headB x.length (crcN x) ++ x.set (i - 6) (x[i - 6] ^^^ t) := by
        rw [hg]
        unfold frameB
        rw [List.set_append_right _ _ (by rw [headB_len]; omega), headB_len]
      have hy : y = x.set (i - 6) (x[i - 6] ^^^ t) := by
        rw [h6, hset, List.drop_append_of_le_length (by rw [headB_len]; omega), List.drop_of_length_le (by rw [headB_len]; omega), List.nil_append]
      rw [hset] at h7
      unfold frameB at h7
      have h9 := (List.append_inj h7 (by rw [headB_len, headB_len])).1
      rw [h5] at h9
      have h10 := headB_inj (crcN_lt y) (crcN_lt x) h9
      rw [hy] at h10
      exact ht ((turned x (i - 6) hil t).1 h10.symm)
theorem walkGo_catR : ∀ (xs : List (List UInt8)) (f k : Nat) (r : List UInt8), okR xs → (catB xs ++ r).length ≤ f → ∃ f', r.length ≤ f' ∧ walkGo f k (catB xs ++ r) = endsGo k xs ++ walkGo f' (k + (catB xs).length) r
  | [], f, k, r, _, hf => ⟨f, by simpa [catB] using hf, by simp [catB, endsGo]⟩
  | x :: xs, f, k, r, hok, hf => by
    obtain ⟨h1, h2⟩ := hok x (List.mem_cons_self ..)
    have hs := stepB_frame x (catB xs ++ r) h1 h2
    rw [catB, List.append_assoc] at hf ⊢
    obtain ⟨f', _, e, hf'⟩ := walkGo_some (at_ := k) hs hf
    have hd : (frameB x ++ (catB xs ++ r)).drop (x.length + 6) = catB xs ++ r := by rw [← frameB_len x, List.drop_left]
    rw [hd] at hf' e
    obtain ⟨f2, hf2, e2⟩ := walkGo_catR xs f' (k + (x.length + 6)) r (fun y hy => hok y (List.mem_cons_of_mem _ hy)) hf'
    refine ⟨f2, hf2, ?_⟩
    rw [e, e2, endsGo, List.cons_append, List.length_append, frameB_len, Nat.add_assoc k]
theorem turned_read (xs : List (List UInt8)) (k : Nat) (t : UInt8) (ht : t ≠ 0) (hok : okR xs) (hk : k < (catB xs).length) :
    ∃ q, q < xs.length ∧ (catB (xs.take q)).length ≤ k ∧ k < (catB (xs.take (q + 1))).length ∧ q ≤ (readB ((catB xs).set k ((catB xs)[k] ^^^ t))).length ∧ (readB ((catB xs).set k ((catB xs)[k] ^^^ t))).take q = xs.take q ∧
      (2 ≤ k - (catB (xs.take q)).length → readB ((catB xs).set k ((catB xs)[k] ^^^ t)) = xs.take q ∧ endOf (framesB ((catB xs).set k ((catB xs)[k] ^^^ t))) = (catB (xs.take q)).length) := by
  obtain ⟨q, r0, hq, hcut, _, hql, hqr⟩ := cat_cut xs k hok (by omega)
  have hqn : q < xs.length := by
    rcases Nat.lt_or_ge q xs.length with h | h
    · exact h
    · exfalso
      rw [List.take_of_length_le h] at hql
      omega
  have hkr := hqr hqn
  have hsp : xs = xs.take q ++ (xs[q] :: xs.drop (q + 1)) := by rw [← List.drop_eq_getElem_cons hqn, List.take_append_drop]
  have hD : catB xs = catB (xs.take q) ++ (frameB xs[q] ++ catB (xs.drop (q + 1))) := by
    have e : catB xs = catB (xs.take q ++ (xs[q] :: xs.drop (q + 1))) := by rw [← hsp]
    rw [e, catB_append, catB]
  have ht1 : xs.take (q + 1) = xs.take q ++ [xs[q]] := by rw [List.take_add_one, List.getElem?_eq_getElem hqn]; rfl
  rw [ht1, catB_append, List.length_append] at hkr
  have hl1 : (catB [xs[q]]).length = (frameB xs[q]).length := by simp [catB]
  rw [hl1] at hkr
  have hi : k - (catB (xs.take q)).length < (frameB xs[q]).length := by omega
  have hg : (catB xs)[k] = (frameB xs[q])[k - (catB (xs.take q)).length] := by
    have hq : (catB xs)[k]? = (frameB xs[q])[k - (catB (xs.take q)).length]? := by
      rw [hD, List.getElem?_append_right hql, List.getElem?_append_left hi]
    rw [List.getElem?_eq_getElem hk, List.getElem?_eq_getElem hi] at hq
    injection hq
  have hS : (catB xs).set k ((catB xs)[k] ^^^ t) = catB (xs.take q) ++ ((frameB xs[q]).set (k - (catB (xs.take q)).length) ((frameB xs[q])[k - (catB (xs.take q)).length] ^^^ t) ++ catB (xs.drop (q + 1))) := by
    rw [hg]
    conv => lhs; rw [hD]
    rw [List.set_append_right _ _ hql, List.set_append_left _ _ hi]
  have hokq : okR (xs.take q) := fun x hx => hok x (List.mem_of_mem_take hx)
  generalize hR : (frameB xs[q]).set (k - (catB (xs.take q)).length) ((frameB xs[q])[k - (catB (xs.take q)).length] ^^^ t) ++ catB (xs.drop (q + 1)) = R at hS
  rw [hS]
  obtain ⟨f', hf', e⟩ := walkGo_catR (xs.take q) (catB (xs.take q) ++ R).length 0 R hokq (Nat.le_refl _)
  have hfr : framesB (catB (xs.take q) ++ R) = endsGo 0 (xs.take q) ++ walkGo f' (0 + (catB (xs.take q)).length) R := e
  have hrd : readB (catB (xs.take q) ++ R) = xs.take q ++ (walkGo f' (0 + (catB (xs.take q)).length) R).map (·.2) := by
    unfold readB
    rw [hfr, List.map_append, endsGo_map]
  have hlq : (xs.take q).length = q := by rw [List.length_take]; omega
  refine ⟨q, hqn, hql, by rw [ht1, catB_append, List.length_append, hl1]; exact hkr, ?_, ?_, ?_⟩
  · rw [hrd, List.length_append, hlq]; omega
  · rw [hrd, List.take_append_of_le_length (by omega), List.take_of_length_le (by omega)]
  · intro h2
    have hn : stepB R = none := by
      rw [← hR]
      obtain ⟨a1, a2⟩ := hok xs[q] (List.getElem_mem hqn)
      exact turned_step xs[q] _ _ t ht a1 a2 h2 hi
    rw [walkGo_none hn] at hrd hfr
    rw [List.map_nil, List.append_nil] at hrd
    rw [List.append_nil] at hfr
    refine ⟨hrd, ?_⟩
    rw [hfr]
    by_cases hx : xs.take q = []
    · rw [hx]; rfl
    · rw [endsGo_last _ 0 hx, Nat.zero_add]
end Go.Proofs.Ytgcclkdlomifcaa
