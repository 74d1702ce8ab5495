/-
  The last step from a contract to a law's row, the reach handed to the contract: each string, slice and map that was given takes at most so many bytes.
-/
import Derived.Test.YtnionfddejaalaaOpenReq
import Derived.SizedLaws
namespace Go.Proofs.Ytnionfddejaalaa
set_option linter.unusedVariables false
set_option linter.unusedSimpArgs false
open Go.RowKit Go.ChangeShapes Go.WideShapes Go.Joins Go.Deep

theorem lift_law_sized {C : Checked} {os : Os} {f : FuncId} {fn : Func} {s : ChangeSpec} {H : Type} {enc : TypeId × Value → H} {tb : TypeId}
    (own : ownKnob C.prog.godebug = none) (started : os.Started) (noInit : C.prog.inits.idxOf? f = none) (hfn : C.prog.funcs[f]? = some fn)
    (witness : ∃ (w : World) (tape : Tape) (i : Input), w.os = os ∧ (w.forCall tape i).Shaped C.prog ∧ i.vars = [] ∧ Input.okWide C.prog (w.forCall tape i) .any w.heap.size f i ∧
      s.pre6 enc C.prog fn [] false (w.forCall tape i).memory i.args ∧ ({} : Assume).holds C.prog (lone (Frame.enter C.prog f i.args .normal) [] (w.forCall tape i)))
    (hl : laidOutB C.prog = true) (hts : fn.params.toList.all (fun t => C.prog.readableRec t && decide (t < C.prog.types.size)) = true)
    (hres : fn.resultTypes = #[tb]) (htb : C.prog.underlying tb = some .bool) (hvars : s.vars = [])
    (hspec : ∀ ds : List (DataW H), ds.length = fn.params.toList.length → s.fn H ds = { results := [.lit (.bool true)], args := ds })
    (contract : ∀ (W : World) (base : Nat) (args : Array Value) (ds : List (DataW H)) (p : List MemPlace),
      (∀ (j : Nat) t v, fn.params[j]? = some t → args[j]? = some v → Value.okWide C.prog W .any base t v) →
      DataW.TrodAll enc C.prog W 0 (fun _ => true) true fn.params.toList args.toList ds p →
      (DataW.weightsEach C.prog fn.params.toList ds).all (· ≤ reachBytes) = true →
      Calls C.prog f args W fun e W' => e = .returned (.bool true) ∧ Below W.heap.size W W') :
    ReturnsInHanded {} C os f .any (s.pre6 enc C.prog fn [] false) (s.post enc C.prog fn false true false false) := by
  refine returnsInHanded_of_change_sized (C := C) own started noInit hfn witness ?_
  intro W base args ds gs before hval hW _ hsz _
  have hW0 := hW
  obtain ⟨p, q, hA, hV, rfl, hz, hn⟩ := hW
  have hlen := (trodAll_length hA).1
  have hV0 := hV
  rw [hvars] at hV0
  obtain ⟨rfl, rfl⟩ := trodVars_none hV0
  have hvt : s.plain.varTypes C.prog = [] := by
    have h2 : s.plain.vars = [] := hvars
    simp [DataSpec.varTypes, h2]
  rw [hvt, List.append_nil, List.append_nil] at hsz
  refine (contract W base args ds p hval hA hsz).mono fun e W' ⟨he, hb⟩ => ⟨_, he, ?_⟩
  exact post_true hl hts hres htb hvars hW0 (by rw [List.append_nil]; exact hspec ds hlen) hb

theorem fields_reply : Try.prog.underlying 35 = some (.struct (Try.prog.fieldsOf 35)) ∧ ((Try.prog.fieldsOf 35).toList.map (·.type)) = [3, 3, 9, 33] := ⟨by kernel_rfl, by kernel_rfl⟩
/-- a reply that came in, within the reach -/
theorem reply_reach {H : Type} {enc : TypeId × Value → H} {W : World} {base : Nat} {r : Reach} {v : Value} {d : DataW H} {p : List MemPlace} {ts : List TypeId} {ds : List (DataW H)} {j : Nat}
    (hval : Value.okWide Try.prog W r base 35 v) (h : DataW.Trod enc Try.prog W 0 (fun _ => true) true 35 v d p) (hsz : (DataW.weightsEach Try.prog ts ds).all (· ≤ reachBytes) = true) (ht : ts[j]? = some 35) (hd : ds[j]? = some d)
    {c n : Value} {x : ByteArray} {l : Value} (hv : v = .agg #[c, n, .string x, l]) : x.size ≤ 140737488351232 := by
  obtain ⟨v0, v1, v2, v3, y0, y1, y2, y3, m, rfl, rfl, _, h0, h1, h2, h3⟩ := open_agg4 Try.underlying35 (by kernel_rfl) cells_reply hval h
  obtain ⟨z, e2, hy2, w2⟩ := DataW.trod_string Try.underlying9 h2
  subst hy2
  have hv2 : some v2 = some (Value.string x) := congrArg (fun v : Value => match v with | .agg a => a[2]? | _ => none) hv
  rw [(List.cons.inj e2).1] at hv2
  injection hv2 with hv2
  injection hv2 with hv2
  subst hv2
  have := List.all_eq_true.1 hsz _ (DataW.weights_mem_each ht hd z.data.toList.length (by
    unfold DataW.weights
    rw [fields_reply.1]
    simp only [fields_reply.2]
    simp [DataW.weightsEach, DataW.weights]))
  have h4 := of_decide_eq_true this
  rw [Array.length_toList] at h4
  exact h4
end Go.Proofs.Ytnionfddejaalaa
