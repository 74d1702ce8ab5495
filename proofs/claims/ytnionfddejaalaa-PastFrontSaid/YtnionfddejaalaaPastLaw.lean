/-
  What is written down (law 22), as a plain function of its state; what may have been written down.
-/
import Derived.Test.YtnionfddejaalaaMayReq
namespace Go.Proofs.Ytnionfddejaalaa
set_option linter.unusedVariables false
set_option linter.unusedSimpArgs false

structure Rqv where
  c : Int
  s : Int
  k : Int
  i : Int
  m : Int
  d : ByteArray
structure Rpv where
  c : Int
  v : Int
  d : ByteArray
  l : List Int
structure Ac where
  cl : Int
  sq : Int
  ans : Bool
  q : Rqv
  r : Rpv
  at_ : Int
structure Ps where
  acts : List Ac
  last : List Int
  wait : List (Option Rqv)
def Rpv.zero : Rpv := ⟨0, 0, ⟨#[]⟩, []⟩
def Ps.init : Ps := ⟨[], [0, 0, 0, 0], [none, none, none, none]⟩
def mayQ (q : Rqv) : Bool := mayReqB q.c q.s q.k q.i q.m q.d.size
/-- who waits -/
def Ps.w (s : Ps) (c : Int) : Option Rqv := s.wait.getD c.toNat none
def Ps.la (s : Ps) (c : Int) : Int := s.last.getD c.toNat 0
def askE (s : Ps) (q : Rqv) : Int := if mayQ q = false then 1 else if (s.w q.c).isSome then 4 else if q.s ≤ s.la q.c then 9 else 0
def askS (s : Ps) (q : Rqv) : Ps := ⟨s.acts ++ [⟨q.c, q.s, false, q, .zero, 0⟩], s.last.set q.c.toNat q.s, s.wait.set q.c.toNat (some q)⟩
def ansE (s : Ps) (c sq at_ : Int) : Int :=
  if at_ < 0 ∨ 1073741824 < at_ then 1 else if c < 0 ∨ 4 ≤ c then 4 else match s.w c with
    | none => 4
    | some q => if q.s = sq then 0 else 4
def ansS (s : Ps) (c sq : Int) (r : Rpv) (at_ : Int) : Ps := ⟨s.acts ++ [⟨c, sq, true, (s.w c).getD ⟨0, 0, 0, 0, 0, ⟨#[]⟩⟩, r, at_⟩], s.last, s.wait.set c.toNat none⟩
def stE (s : Ps) (a : Ac) : Int := if a.ans then ansE s a.cl a.sq a.at_ else askE s a.q
def stS (s : Ps) (a : Ac) : Ps := if a.ans then ansS s a.cl a.sq a.r a.at_ else askS s a.q
/-- the act that a step writes -/
def stA (s : Ps) (a : Ac) : Ac := if a.ans then ⟨a.cl, a.sq, true, (s.w a.cl).getD ⟨0, 0, 0, 0, 0, ⟨#[]⟩⟩, a.r, a.at_⟩ else ⟨a.q.c, a.q.s, false, a.q, .zero, 0⟩
theorem stS_acts (s : Ps) (a : Ac) : (stS s a).acts = s.acts ++ [stA s a] := by unfold stS stA; split <;> rfl
def sameAc (a b : Ac) : Bool := decide (a.cl = b.cl ∧ a.sq = b.sq ∧ a.ans = b.ans ∧ (a.q.c = b.q.c ∧ a.q.s = b.q.s ∧ a.q.k = b.q.k ∧ a.q.i = b.q.i ∧ a.q.m = b.q.m ∧ a.q.d = b.q.d) ∧ (a.r.c = b.r.c ∧ a.r.v = b.r.v ∧ a.r.d = b.r.d ∧ a.r.l = b.r.l) ∧ a.at_ = b.at_)
theorem sameAc_iff (a b : Ac) : sameAc a b = true ↔ a = b := by
  obtain ⟨c, s, n, ⟨qc, qs, qk, qi, qm, qd⟩, ⟨rc, rv, rd, rl⟩, t⟩ := a
  obtain ⟨c', s', n', ⟨qc', qs', qk', qi', qm', qd'⟩, ⟨rc', rv', rd', rl'⟩, t'⟩ := b
  unfold sameAc
  rw [decide_eq_true_iff]
  simp only [Ac.mk.injEq, Rqv.mk.injEq, Rpv.mk.injEq]
def runF : Ps → List Ac → Option Ps
  | s, [] => some s
  | s, a :: l => if stE s a = 0 ∧ sameAc (stA s a) a = true then runF (stS s a) l else none
def mayF (l : List Ac) : Prop := ∃ s, runF .init l = some s

theorem runF_app : ∀ (l l' : List Ac) (s : Ps), runF s (l ++ l') = (runF s l).bind fun s' => runF s' l'
  | [], _, _ => rfl
  | a :: l, l', s => by
    rw [List.cons_append, runF, runF]
    split
    · exact runF_app l l' _
    · rfl
theorem runF_acts : ∀ (l : List Ac) (s s' : Ps), runF s l = some s' → s'.acts = s.acts ++ l
  | [], s, s', h => by injection h with h; subst h; simp
  | a :: l, s, s', h => by
    rw [runF] at h
    split at h
    case isTrue h0 =>
      rw [runF_acts l _ _ h, stS_acts, (sameAc_iff _ _).1 h0.2]
      simp
    case isFalse => cases h

/-- what always holds -/
structure PsOk (s : Ps) : Prop where
  l4 : s.last.length = 4
  w4 : s.wait.length = 4
  may : ∀ (c : Int) (q : Rqv), 0 ≤ c → c ≤ 3 → s.w c = some q → mayQ q = true ∧ q.c = c
theorem mayQ_bd {q : Rqv} (h : mayQ q = true) : 0 ≤ q.c ∧ q.c ≤ 3 ∧ 1 ≤ q.s ∧ q.s ≤ 1073741824 := by
  unfold mayQ mayReqB at h
  have h := of_decide_eq_true h
  exact ⟨h.1, h.2.1, h.2.2.1, h.2.2.2.1⟩
theorem PsOk.init : PsOk .init := ⟨rfl, rfl, fun c q h0 h1 h => by
  have : c = 0 ∨ c = 1 ∨ c = 2 ∨ c = 3 := by omega
  rcases this with rfl | rfl | rfl | rfl <;> cases h⟩
theorem set_getD {α : Type} (l : List α) (i j : Nat) (v d : α) (hi : i < l.length) : (l.set i v).getD j d = if i = j then v else l.getD j d := by
  rw [List.getD_eq_getElem?_getD, List.getD_eq_getElem?_getD, List.getElem?_set]
  split
  case isTrue h => subst h; first | rfl | (rw [if_pos hi]; rfl)
  case isFalse h => rfl
theorem w_ask {s : Ps} {q : Rqv} (h : PsOk s) (hq : mayQ q = true) {c : Int} (h0 : 0 ≤ c) (h1 : c ≤ 3) : (askS s q).w c = if q.c = c then some q else s.w c := by
  have hb := mayQ_bd hq
  unfold Ps.w askS
  simp only
  rw [set_getD _ _ _ _ _ (by rw [h.w4]; omega)]
  by_cases e : q.c = c
  · rw [if_pos e, if_pos (by rw [e])]
  · rw [if_neg e, if_neg (by omega)]
theorem la_ask {s : Ps} {q : Rqv} (h : PsOk s) (hq : mayQ q = true) {c : Int} (h0 : 0 ≤ c) (h1 : c ≤ 3) : (askS s q).la c = if q.c = c then q.s else s.la c := by
  have hb := mayQ_bd hq
  unfold Ps.la askS
  simp only
  rw [set_getD _ _ _ _ _ (by rw [h.l4]; omega)]
  by_cases e : q.c = c
  · rw [if_pos e, if_pos (by rw [e])]
  · rw [if_neg e, if_neg (by omega)]
theorem w_ans {s : Ps} {d sq at_ : Int} {r : Rpv} (h : PsOk s) (hd : 0 ≤ d ∧ d ≤ 3) {c : Int} (h0 : 0 ≤ c) (h1 : c ≤ 3) : (ansS s d sq r at_).w c = if d = c then none else s.w c := by
  unfold Ps.w ansS
  simp only
  rw [set_getD _ _ _ _ _ (by rw [h.w4]; omega)]
  by_cases e : d = c
  · rw [if_pos e, if_pos (by rw [e])]
  · rw [if_neg e, if_neg (by omega)]
theorem askE_ok {s : Ps} {q : Rqv} (h : askE s q = 0) : mayQ q = true ∧ s.w q.c = none ∧ s.la q.c < q.s := by
  unfold askE at h
  split at h
  · cases h
  · rename_i h1
    split at h
    · cases h
    · rename_i h2
      split at h
      · cases h
      · rename_i h3
        refine ⟨by cases hm : mayQ q; exact absurd hm h1; rfl, ?_, by omega⟩
        cases hw : s.w q.c with
        | none => rfl
        | some x => rw [hw] at h2; exact absurd rfl h2
theorem ansE_ok {s : Ps} {c sq at_ : Int} (h : ansE s c sq at_ = 0) : 0 ≤ at_ ∧ at_ ≤ 1073741824 ∧ 0 ≤ c ∧ c ≤ 3 ∧ ∃ q, s.w c = some q ∧ q.s = sq := by
  unfold ansE at h
  split at h
  · cases h
  · split at h
    · cases h
    · split at h
      · cases h
      · rename_i q hq
        split at h
        · rename_i hs
          exact ⟨by omega, by omega, by omega, by omega, q, hq, hs⟩
        · cases h
theorem PsOk.ask {s : Ps} {q : Rqv} (h : PsOk s) (hq : mayQ q = true) : PsOk (askS s q) := by
  refine ⟨by unfold askS; simp [h.l4], by unfold askS; simp [h.w4], fun c x h0 h1 hw => ?_⟩
  rw [w_ask h hq h0 h1] at hw
  split at hw
  · rename_i e
    injection hw with hw
    subst hw
    exact ⟨hq, e⟩
  · exact h.may c x h0 h1 hw
theorem PsOk.ans {s : Ps} {d sq at_ : Int} {r : Rpv} (h : PsOk s) (hd : 0 ≤ d ∧ d ≤ 3) : PsOk (ansS s d sq r at_) := by
  refine ⟨h.l4, by unfold ansS; simp [h.w4], fun c x h0 h1 hw => ?_⟩
  rw [w_ans h hd h0 h1] at hw
  split at hw
  · cases hw
  · exact h.may c x h0 h1 hw
theorem PsOk.st {s : Ps} {a : Ac} (h : PsOk s) (he : stE s a = 0) : PsOk (stS s a) := by
  unfold stE at he
  unfold stS
  split
  case isTrue ha => rw [if_pos ha] at he; have := ansE_ok he; exact h.ans ⟨this.2.2.1, this.2.2.2.1⟩
  case isFalse ha => rw [if_neg ha] at he; exact h.ask (askE_ok he).1

/-- what was written down may have been -/
theorem run_ask {s : Ps} {q : Rqv} (h : runF .init s.acts = some s) (he : askE s q = 0) : runF .init (askS s q).acts = some (askS s q) := by
  have : (askS s q).acts = s.acts ++ [⟨q.c, q.s, false, q, .zero, 0⟩] := rfl
  rw [this, runF_app, h]
  show runF s [_] = _
  rw [runF, if_pos ⟨by unfold stE; rw [if_neg (by simp)]; exact he, by rw [sameAc_iff]; unfold stA; rw [if_neg (by simp)]⟩]
  unfold stS
  rw [if_neg (by simp)]
  rfl
theorem run_ans {s : Ps} {c sq at_ : Int} {r : Rpv} (h : runF .init s.acts = some s) (he : ansE s c sq at_ = 0) : runF .init (ansS s c sq r at_).acts = some (ansS s c sq r at_) := by
  have : (ansS s c sq r at_).acts = s.acts ++ [⟨c, sq, true, (s.w c).getD ⟨0, 0, 0, 0, 0, ⟨#[]⟩⟩, r, at_⟩] := rfl
  rw [this, runF_app, h]
  show runF s [_] = _
  rw [runF, if_pos ⟨by unfold stE; rw [if_pos rfl]; exact he, by rw [sameAc_iff]; unfold stA; rw [if_pos rfl]⟩]
  unfold stS
  rw [if_pos rfl]
  rfl

/-! ### a beginning may be; without an act it may not -/
theorem may_take {l : List Ac} (h : mayF l) (k : Nat) : mayF (l.take k) := by
  obtain ⟨s, hs⟩ := h
  rw [← List.take_append_drop k l, runF_app] at hs
  cases hk : runF .init (l.take k) with
  | none => rw [hk] at hs; cases hs
  | some s' => exact ⟨s', hk⟩

structure Seen (l : List Ac) (s : Ps) : Prop where
  ok : PsOk s
  /-- who waits asked -/
  asked : ∀ (c : Int) (q : Rqv), 0 ≤ c → c ≤ 3 → s.w c = some q → ∃ z ∈ l, z.ans = false ∧ z.cl = c ∧ z.sq = q.s
  /-- what was asked is no newer than the last -/
  last : ∀ z ∈ l, z.ans = false → 0 ≤ z.cl ∧ z.cl ≤ 3 ∧ z.sq ≤ s.la z.cl
theorem w_init (c : Int) (h0 : 0 ≤ c) (h1 : c ≤ 3) : Ps.init.w c = none := by
  have : c = 0 ∨ c = 1 ∨ c = 2 ∨ c = 3 := by omega
  rcases this with rfl | rfl | rfl | rfl <;> rfl
theorem Seen.init : Seen [] .init := ⟨PsOk.init, fun c q h0 h1 h => (by rw [w_init c h0 h1] at h; cases h), fun z hz => (by cases hz)⟩
theorem Seen.st {l : List Ac} {s : Ps} {a : Ac} (h : Seen l s) (he : stE s a = 0) (hA : stA s a = a) : Seen (l ++ [a]) (stS s a) := by
  have hok := h.ok.st he
  cases ha : a.ans with
  | true =>
    have hE : ansE s a.cl a.sq a.at_ = 0 := by unfold stE at he; rw [if_pos ha] at he; exact he
    have hS : stS s a = ansS s a.cl a.sq a.r a.at_ := by unfold stS; rw [if_pos ha]
    rw [hS] at hok ⊢
    have hb := ansE_ok hE
    refine ⟨hok, fun c q h0 h1 hw => ?_, fun z hz hza => ?_⟩
    · rw [w_ans h.ok ⟨hb.2.2.1, hb.2.2.2.1⟩ h0 h1] at hw
      split at hw
      · cases hw
      · obtain ⟨z, z1, z2⟩ := h.asked c q h0 h1 hw
        exact ⟨z, by simp [z1], z2⟩
    · rw [List.mem_append, List.mem_singleton] at hz
      rcases hz with hz | rfl
      · exact h.last z hz hza
      · rw [ha] at hza; cases hza
  | false =>
    have hE : askE s a.q = 0 := by unfold stE at he; rw [if_neg (by simp [ha])] at he; exact he
    have hS : stS s a = askS s a.q := by unfold stS; rw [if_neg (by simp [ha])]
    have hA' : (⟨a.q.c, a.q.s, false, a.q, .zero, 0⟩ : Ac) = a := by unfold stA at hA; rw [if_neg (by simp [ha])] at hA; exact hA
    have hcl : a.cl = a.q.c := by rw [← hA']
    have hsq : a.sq = a.q.s := by rw [← hA']
    rw [hS] at hok ⊢
    obtain ⟨hm, hw0, hl0⟩ := askE_ok hE
    have hb := mayQ_bd hm
    refine ⟨hok, fun c q h0 h1 hw => ?_, fun z hz hza => ?_⟩
    · rw [w_ask h.ok hm h0 h1] at hw
      split at hw
      · rename_i e
        injection hw with hw
        exact ⟨a, by simp, ha, by rw [hcl, e], by rw [hsq, hw]⟩
      · obtain ⟨z, z1, z2⟩ := h.asked c q h0 h1 hw
        exact ⟨z, by simp [z1], z2⟩
    · rw [List.mem_append, List.mem_singleton] at hz
      rcases hz with hz | rfl
      · obtain ⟨z1, z2, z3⟩ := h.last z hz hza
        refine ⟨z1, z2, ?_⟩
        rw [la_ask h.ok hm z1 z2]
        split
        · rename_i e
          rw [← e] at z3
          omega
        · exact z3
      · rw [hcl]
        refine ⟨hb.1, hb.2.1, ?_⟩
        rw [la_ask h.ok hm hb.1 hb.2.1, if_pos rfl, hsq]
        exact Int.le_refl _
theorem seen_run : ∀ (l l0 : List Ac) (s s' : Ps), Seen l0 s → runF s l = some s' → Seen (l0 ++ l) s'
  | [], l0, s, s', h, hr => by injection hr with hr; subst hr; simpa using h
  | a :: l, l0, s, s', h, hr => by
    rw [runF] at hr
    split at hr
    case isTrue h0 =>
      have := seen_run l (l0 ++ [a]) _ s' (h.st h0.1 ((sameAc_iff _ _).1 h0.2)) hr
      simpa using this
    case isFalse => cases hr
/-- an asking is newer than all of its client ahead of it -/
theorem ask_newer {l1 l2 : List Ac} {u : Ac} {s : Ps} (h : runF .init (l1 ++ u :: l2) = some s) (hu : u.ans = false) : ∀ z ∈ l1, z.ans = false → z.cl = u.cl → z.sq < u.sq := by
  intro z hz hza hzc
  rw [runF_app] at h
  cases h1 : runF .init l1 with
  | none => rw [h1] at h; cases h
  | some s1 =>
    rw [h1] at h
    have h : runF s1 (u :: l2) = some s := h
    rw [runF] at h
    split at h
    case isFalse => cases h
    case isTrue h0 =>
      have hs := seen_run l1 [] .init s1 Seen.init h1
      rw [List.nil_append] at hs
      have hE : askE s1 u.q = 0 := by have := h0.1; unfold stE at this; rw [if_neg (by simp [hu])] at this; exact this
      have hA' : (⟨u.q.c, u.q.s, false, u.q, .zero, 0⟩ : Ac) = u := by have := (sameAc_iff _ _).1 h0.2; unfold stA at this; rw [if_neg (by simp [hu])] at this; exact this
      have hcl : u.cl = u.q.c := by rw [← hA']
      have hsq : u.sq = u.q.s := by rw [← hA']
      obtain ⟨_, _, hl⟩ := askE_ok hE
      obtain ⟨_, _, h3⟩ := hs.last z hz hza
      rw [hzc, hcl] at h3
      rw [hsq]
      omega
/-- with the asking of an answer left out it may not be -/
theorem may_without {a1 a2 : List Ac} {x y : Ac} (h : mayF (a1 ++ x :: a2)) (hx : x.ans = false) (hy : y ∈ a2) (hya : y.ans = true) (hyc : y.cl = x.cl) (hys : y.sq = x.sq) : ¬ mayF (a1 ++ a2) := by
  rintro ⟨s', hs'⟩
  obtain ⟨s, hs⟩ := h
  obtain ⟨b1, b2, rfl⟩ := List.append_of_mem hy
  rw [← List.append_assoc, runF_app] at hs'
  cases ht : runF .init (a1 ++ b1) with
  | none => rw [ht] at hs'; cases hs'
  | some t =>
    rw [ht] at hs'
    have hs' : runF t (y :: b2) = some s' := hs'
    rw [runF] at hs'
    split at hs'
    case isFalse => cases hs'
    case isTrue h0 =>
      have hE : ansE t y.cl y.sq y.at_ = 0 := by have := h0.1; unfold stE at this; rw [if_pos hya] at this; exact this
      obtain ⟨_, _, c0, c1, q, hq, hqs⟩ := ansE_ok hE
      have hseen := seen_run (a1 ++ b1) [] .init t Seen.init ht
      rw [List.nil_append] at hseen
      obtain ⟨z, hz, hza, hzc, hzs⟩ := hseen.asked y.cl q c0 c1 hq
      have hzx : z.cl = x.cl := hzc.trans hyc
      have hzq : z.sq = x.sq := (hzs.trans hqs).trans hys
      rw [List.mem_append] at hz
      rcases hz with hz | hz
      · have := ask_newer hs hx z hz hza hzx
        omega
      · obtain ⟨c1', c2', rfl⟩ := List.append_of_mem hz
        have hs2 : runF .init ((a1 ++ x :: c1') ++ z :: (c2' ++ y :: b2)) = some s := by simpa using hs
        have := ask_newer hs2 hza x (by simp) hx hzx.symm
        omega
theorem may_first {a : Ac} {l : List Ac} (h : mayF (a :: l)) : a.ans = false := by
  obtain ⟨s, hs⟩ := h
  rw [runF] at hs
  split at hs
  case isFalse => cases hs
  case isTrue h0 =>
    cases ha : a.ans with
    | false => rfl
    | true =>
      have hE : ansE .init a.cl a.sq a.at_ = 0 := by have := h0.1; unfold stE at this; rw [if_pos ha] at this; exact this
      obtain ⟨_, _, c0, c1, q, hq, _⟩ := ansE_ok hE
      have : a.cl = 0 ∨ a.cl = 1 ∨ a.cl = 2 ∨ a.cl = 3 := by omega
      rcases this with e | e | e | e <;> rw [e] at hq <;> cases hq
end Go.Proofs.Ytnionfddejaalaa
