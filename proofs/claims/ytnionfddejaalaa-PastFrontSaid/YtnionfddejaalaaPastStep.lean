/-
  Ask and Answer (law 22) in all cases.
-/
import Derived.Test.YtnionfddejaalaaPastAsk
import Derived.Test.YtnionfddejaalaaPastAns
namespace Go.Proofs.Ytnionfddejaalaa
set_option linter.unusedVariables false
set_option linter.unusedSimpArgs false
open Go.RowKit

def askN (s : Ps) (q : Rqv) : Ps := if askE s q = 0 then askS s q else s
def ansN (s : Ps) (c sq : Int) (r : Rpv) (at_ : Int) : Ps := if ansE s c sq at_ = 0 then ansS s c sq r at_ else s
theorem PsOk.askN {s : Ps} (h : PsOk s) (q : Rqv) : PsOk (askN s q) := by
  unfold Go.Proofs.Ytnionfddejaalaa.askN
  split
  · rename_i h0; exact h.ask (askE_ok h0).1
  · exact h
theorem PsOk.ansN {s : Ps} (h : PsOk s) (c sq : Int) (r : Rpv) (at_ : Int) : PsOk (ansN s c sq r at_) := by
  unfold Go.Proofs.Ytnionfddejaalaa.ansN
  split
  · rename_i h0; have hb := ansE_ok h0; exact h.ans ⟨hb.2.2.1, hb.2.2.2.1⟩
  · exact h

set_option maxHeartbeats 4000000 in
theorem ask_any (base P : Nat) (G : Option Nat) (st : Ps) (c s k i m : Int) (d : ByteArray) (w : World) (H : PAt w base P G st) (K : PsOk st) (hd : d.size ≤ maxLen) (hn : st.acts.length ≤ 1000000) :
    Calls Try.prog 11 #[.pointer (some ⟨P, 0, none⟩), .agg #[.int .i64 c, .int .i64 s, .int .i64 k, .int .i64 i, .int .i64 m, .string d]] w fun e w' => e = .returned (.int .i64 (askE st ⟨c, s, k, i, m, d⟩)) ∧ POut w w' base P G (askN st ⟨c, s, k, i, m, d⟩) := by
  have no : ∀ e0 : Int, ¬ e0 = 0 → askE st ⟨c, s, k, i, m, d⟩ = e0 → Calls Try.prog 11 #[.pointer (some ⟨P, 0, none⟩), .agg #[.int .i64 c, .int .i64 s, .int .i64 k, .int .i64 i, .int .i64 m, .string d]] w (fun e w' => e = .returned (.int .i64 e0) ∧ Ext w w') → Calls Try.prog 11 #[.pointer (some ⟨P, 0, none⟩), .agg #[.int .i64 c, .int .i64 s, .int .i64 k, .int .i64 i, .int .i64 m, .string d]] w fun e w' => e = .returned (.int .i64 (askE st ⟨c, s, k, i, m, d⟩)) ∧ POut w w' base P G (askN st ⟨c, s, k, i, m, d⟩) := by
    intro e0 hne hE hc
    have hV : askN st ⟨c, s, k, i, m, d⟩ = st := by unfold askN; rw [if_neg (by rw [hE]; exact hne)]
    rw [hV, hE]
    exact hc.mono fun e w' ⟨h1, h2⟩ => ⟨h1, POut.ext H h2⟩
  cases hm : mayReqB c s k i m d.size with
  | false => exact no 1 (by decide) (by unfold askE mayQ; simp only [hm]; rfl) (ask_bad base P G st s k i m d c w H hd hm)
  | true =>
    have hb := mayQ_bd (q := ⟨c, s, k, i, m, d⟩) hm
    simp only at hb
    have hc : c = 0 ∨ c = 1 ∨ c = 2 ∨ c = 3 := by omega
    have hM : mayQ ⟨c, s, k, i, m, d⟩ = true := hm
    rcases hc with rfl | rfl | rfl | rfl
    · cases hw : st.w 0 with
      | some x =>
        obtain ⟨xc, xs, xk, xi, xm, xd⟩ := x
        exact no 4 (by decide) (by unfold askE; rw [if_neg (by rw [hM]; decide)]; simp only [hw]; rfl) (ask_wait0 base P G st s k i m d w H hd hm ⟨_, hw⟩)
      | none =>
        by_cases ht : s ≤ st.la 0
        · exact no 9 (by decide) (by unfold askE; rw [if_neg (by rw [hM]; decide)]; simp only [hw]; simp [ht]) (ask_old0 base P G st s k i m d w H hd hm hw ht)
        · have hE : askE st ⟨0, s, k, i, m, d⟩ = 0 := by unfold askE; rw [if_neg (by rw [hM]; decide)]; simp only [hw]; simp [ht]
          have hV : askN st ⟨0, s, k, i, m, d⟩ = askS st ⟨0, s, k, i, m, d⟩ := by unfold askN; rw [if_pos hE]
          rw [hV, hE]
          exact ask_ok0 base P G st s k i m d w H hd hm hw (by omega) hn
    · cases hw : st.w 1 with
      | some x =>
        obtain ⟨xc, xs, xk, xi, xm, xd⟩ := x
        exact no 4 (by decide) (by unfold askE; rw [if_neg (by rw [hM]; decide)]; simp only [hw]; rfl) (ask_wait1 base P G st s k i m d w H hd hm ⟨_, hw⟩)
      | none =>
        by_cases ht : s ≤ st.la 1
        · exact no 9 (by decide) (by unfold askE; rw [if_neg (by rw [hM]; decide)]; simp only [hw]; simp [ht]) (ask_old1 base P G st s k i m d w H hd hm hw ht)
        · have hE : askE st ⟨1, s, k, i, m, d⟩ = 0 := by unfold askE; rw [if_neg (by rw [hM]; decide)]; simp only [hw]; simp [ht]
          have hV : askN st ⟨1, s, k, i, m, d⟩ = askS st ⟨1, s, k, i, m, d⟩ := by unfold askN; rw [if_pos hE]
          rw [hV, hE]
          exact ask_ok1 base P G st s k i m d w H hd hm hw (by omega) hn
    · cases hw : st.w 2 with
      | some x =>
        obtain ⟨xc, xs, xk, xi, xm, xd⟩ := x
        exact no 4 (by decide) (by unfold askE; rw [if_neg (by rw [hM]; decide)]; simp only [hw]; rfl) (ask_wait2 base P G st s k i m d w H hd hm ⟨_, hw⟩)
      | none =>
        by_cases ht : s ≤ st.la 2
        · exact no 9 (by decide) (by unfold askE; rw [if_neg (by rw [hM]; decide)]; simp only [hw]; simp [ht]) (ask_old2 base P G st s k i m d w H hd hm hw ht)
        · have hE : askE st ⟨2, s, k, i, m, d⟩ = 0 := by unfold askE; rw [if_neg (by rw [hM]; decide)]; simp only [hw]; simp [ht]
          have hV : askN st ⟨2, s, k, i, m, d⟩ = askS st ⟨2, s, k, i, m, d⟩ := by unfold askN; rw [if_pos hE]
          rw [hV, hE]
          exact ask_ok2 base P G st s k i m d w H hd hm hw (by omega) hn
    · cases hw : st.w 3 with
      | some x =>
        obtain ⟨xc, xs, xk, xi, xm, xd⟩ := x
        exact no 4 (by decide) (by unfold askE; rw [if_neg (by rw [hM]; decide)]; simp only [hw]; rfl) (ask_wait3 base P G st s k i m d w H hd hm ⟨_, hw⟩)
      | none =>
        by_cases ht : s ≤ st.la 3
        · exact no 9 (by decide) (by unfold askE; rw [if_neg (by rw [hM]; decide)]; simp only [hw]; simp [ht]) (ask_old3 base P G st s k i m d w H hd hm hw ht)
        · have hE : askE st ⟨3, s, k, i, m, d⟩ = 0 := by unfold askE; rw [if_neg (by rw [hM]; decide)]; simp only [hw]; simp [ht]
          have hV : askN st ⟨3, s, k, i, m, d⟩ = askS st ⟨3, s, k, i, m, d⟩ := by unfold askN; rw [if_pos hE]
          rw [hV, hE]
          exact ask_ok3 base P G st s k i m d w H hd hm hw (by omega) hn

set_option maxHeartbeats 4000000 in
theorem ans_any (base P : Nat) (G : Option Nat) (st : Ps) (sq rc rv : Int) (rd : ByteArray) (rA : Option Addr) (rcap : Nat) (rl : List Int) (at_ : Int) (c : Int) (w : World) (H : PAt w base P G st) (K : PsOk st) (hn : st.acts.length ≤ 1000000) (hrl : rl.length ≤ 17592186043904) (hr : Sl i64 w rA rl) :
    Calls Try.prog 13 #[.pointer (some ⟨P, 0, none⟩), .int .i64 c, .int .i64 sq, .agg #[.int .i64 rc, .int .i64 rv, .string rd, .slice rA rl.length rcap], .int .i64 at_] w fun e w' => e = .returned (.int .i64 (ansE st c sq at_)) ∧ POut w w' base P G (ansN st c sq ⟨rc, rv, rd, rl⟩ at_) := by
  have no : ∀ e0 : Int, ¬ e0 = 0 → ansE st c sq at_ = e0 → Calls Try.prog 13 #[.pointer (some ⟨P, 0, none⟩), .int .i64 c, .int .i64 sq, .agg #[.int .i64 rc, .int .i64 rv, .string rd, .slice rA rl.length rcap], .int .i64 at_] w (fun e w' => e = .returned (.int .i64 e0) ∧ Ext w w') → Calls Try.prog 13 #[.pointer (some ⟨P, 0, none⟩), .int .i64 c, .int .i64 sq, .agg #[.int .i64 rc, .int .i64 rv, .string rd, .slice rA rl.length rcap], .int .i64 at_] w fun e w' => e = .returned (.int .i64 (ansE st c sq at_)) ∧ POut w w' base P G (ansN st c sq ⟨rc, rv, rd, rl⟩ at_) := by
    intro e0 hne hE hc
    have hV : ansN st c sq ⟨rc, rv, rd, rl⟩ at_ = st := by unfold ansN; rw [if_neg (by rw [hE]; exact hne)]
    rw [hV, hE]
    exact hc.mono fun e w' ⟨h1, h2⟩ => ⟨h1, POut.ext H h2⟩
  by_cases h0 : at_ < 0
  · exact no 1 (by decide) (by unfold ansE; rw [if_pos (.inl h0)]) (ans_lo base P G st sq rc rv rd rA rcap rl at_ c w H h0)
  by_cases h1 : 1073741824 < at_
  · exact no 1 (by decide) (by unfold ansE; rw [if_pos (.inr h1)]) (ans_hi base P G st sq rc rv rd rA rcap rl at_ c w H h0 h1)
  have h01 : ¬ (at_ < 0 ∨ 1073741824 < at_) := by omega
  by_cases h2 : c < 0
  · exact no 4 (by decide) (by unfold ansE; rw [if_neg h01, if_pos (.inl h2)]) (ans_clo base P G st sq rc rv rd rA rcap rl at_ c w H h0 h1 h2)
  by_cases h3 : 4 ≤ c
  · exact no 4 (by decide) (by unfold ansE; rw [if_neg h01, if_pos (.inr h3)]) (ans_chi base P G st sq rc rv rd rA rcap rl at_ c w H h0 h1 h2 h3)
  have h23 : ¬ (c < 0 ∨ 4 ≤ c) := by omega
  have hc : c = 0 ∨ c = 1 ∨ c = 2 ∨ c = 3 := by omega
  rcases hc with rfl | rfl | rfl | rfl
  · cases hw : st.w 0 with
    | none => exact no 4 (by decide) (by unfold ansE; rw [if_neg h01, if_neg h23, hw]) (ans_none0 base P G st sq rc rv rd rA rcap rl at_ w H h0 h1 hw)
    | some x =>
      obtain ⟨xc, xs, xk, xi, xm, xd⟩ := x
      by_cases hq : xs = sq
      · subst hq
        have hE : ansE st 0 xs at_ = 0 := by unfold ansE; rw [if_neg h01, if_neg h23, hw]; simp
        have hV : ansN st 0 xs ⟨rc, rv, rd, rl⟩ at_ = ansS st 0 xs ⟨rc, rv, rd, rl⟩ at_ := by unfold ansN; rw [if_pos hE]
        rw [hV, hE]
        exact ans_ok0 base P G st xs rc rv rd rA rcap rl at_ xc xk xi xm xd w H h0 h1 hw hn hrl hr
      · exact no 4 (by decide) (by unfold ansE; rw [if_neg h01, if_neg h23, hw]; simp [hq]) (ans_other0 base P G st sq rc rv rd rA rcap rl at_ xc xs xk xi xm xd w H h0 h1 hw hq)
  · cases hw : st.w 1 with
    | none => exact no 4 (by decide) (by unfold ansE; rw [if_neg h01, if_neg h23, hw]) (ans_none1 base P G st sq rc rv rd rA rcap rl at_ w H h0 h1 hw)
    | some x =>
      obtain ⟨xc, xs, xk, xi, xm, xd⟩ := x
      by_cases hq : xs = sq
      · subst hq
        have hE : ansE st 1 xs at_ = 0 := by unfold ansE; rw [if_neg h01, if_neg h23, hw]; simp
        have hV : ansN st 1 xs ⟨rc, rv, rd, rl⟩ at_ = ansS st 1 xs ⟨rc, rv, rd, rl⟩ at_ := by unfold ansN; rw [if_pos hE]
        rw [hV, hE]
        exact ans_ok1 base P G st xs rc rv rd rA rcap rl at_ xc xk xi xm xd w H h0 h1 hw hn hrl hr
      · exact no 4 (by decide) (by unfold ansE; rw [if_neg h01, if_neg h23, hw]; simp [hq]) (ans_other1 base P G st sq rc rv rd rA rcap rl at_ xc xs xk xi xm xd w H h0 h1 hw hq)
  · cases hw : st.w 2 with
    | none => exact no 4 (by decide) (by unfold ansE; rw [if_neg h01, if_neg h23, hw]) (ans_none2 base P G st sq rc rv rd rA rcap rl at_ w H h0 h1 hw)
    | some x =>
      obtain ⟨xc, xs, xk, xi, xm, xd⟩ := x
      by_cases hq : xs = sq
      · subst hq
        have hE : ansE st 2 xs at_ = 0 := by unfold ansE; rw [if_neg h01, if_neg h23, hw]; simp
        have hV : ansN st 2 xs ⟨rc, rv, rd, rl⟩ at_ = ansS st 2 xs ⟨rc, rv, rd, rl⟩ at_ := by unfold ansN; rw [if_pos hE]
        rw [hV, hE]
        exact ans_ok2 base P G st xs rc rv rd rA rcap rl at_ xc xk xi xm xd w H h0 h1 hw hn hrl hr
      · exact no 4 (by decide) (by unfold ansE; rw [if_neg h01, if_neg h23, hw]; simp [hq]) (ans_other2 base P G st sq rc rv rd rA rcap rl at_ xc xs xk xi xm xd w H h0 h1 hw hq)
  · cases hw : st.w 3 with
    | none => exact no 4 (by decide) (by unfold ansE; rw [if_neg h01, if_neg h23, hw]) (ans_none3 base P G st sq rc rv rd rA rcap rl at_ w H h0 h1 hw)
    | some x =>
      obtain ⟨xc, xs, xk, xi, xm, xd⟩ := x
      by_cases hq : xs = sq
      · subst hq
        have hE : ansE st 3 xs at_ = 0 := by unfold ansE; rw [if_neg h01, if_neg h23, hw]; simp
        have hV : ansN st 3 xs ⟨rc, rv, rd, rl⟩ at_ = ansS st 3 xs ⟨rc, rv, rd, rl⟩ at_ := by unfold ansN; rw [if_pos hE]
        rw [hV, hE]
        exact ans_ok3 base P G st xs rc rv rd rA rcap rl at_ xc xk xi xm xd w H h0 h1 hw hn hrl hr
      · exact no 4 (by decide) (by unfold ansE; rw [if_neg h01, if_neg h23, hw]; simp [hq]) (ans_other3 base P G st sq rc rv rd rA rcap rl at_ xc xs xk xi xm xd w H h0 h1 hw hq)

end Go.Proofs.Ytnionfddejaalaa
