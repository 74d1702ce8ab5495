/-
  No cell of these rows narrows 'for every input' (looked for: loops, veiled, ifaces, maps, wideKeys, modest, calm, conditions, laid).
  DERIVED. THE GIVEN ROWS OF THIS SEAT. 12 by the template 'for every input the law returns true; each argument reads behind the call as it read before'; 0 by the template 'total and deterministic' (their statements: YtdjkopdgapifpaaTotals.lean).
  GIVEN WITH THE SEED: the statements are not yours to turn. If you find one false, say at which input.
  Laid BY PROGRAM, IN A SANDBOX (cutbox-rows.mjs): the forced cells as the released guide's own fill.sh prints them over the translation 3b0a3da91a9bd262… (all of the seat's roots in one cut). By AI agents, Wed Nov 11 2026. No macro, syntax, notation, axiom, sorry.
-/
import Derived.Test.YtdjkopdgapifpaaChecked
import GoSem.Claim
import GoSem.ClaimJoined
import GoSem.ClaimMapViews
import Derived.JoinedTies
import Derived.KernelRfl
namespace Go.Proofs.Ytdjkopdgapifpaa
/- THE CELL 'sum', in the pinned program and in every row, IS THE sha256 OF THE DUMP (.gsa) THAT YtdjkopdgapifpaaProg.lean LOADS. Nothing in Lean hashes anything: it is a label: what it is worth is what the hold of that sum in a sandbox is worth. -/
noncomputable def Try.pinned : Pinned := { name := "ytdjkopdgapifpaa", sum := "3b0a3da91a9bd262550359b6eaf4376d51f6bc10519687b195ed44092f8b8a53", checked := Try.checked }
namespace Rows
def none {H : Type} : Left H := { results := [], args := [] }

/-- 'casebooklaw11.BallotAsks': WHATEVER THE INPUT: true; the input reads as it did. -/
def ballotAsksSpec : ChangeSpec := { name := "ballotAsks", fn := fun _ => fun
  | [d1, d2, d3] => { results := [.lit (.bool true)], args := [d1, d2, d3] }
  | _ => none }
def ballotAsksRow : OpenClaim := { program := "ytdjkopdgapifpaa", sum := "3b0a3da91a9bd262550359b6eaf4376d51f6bc10519687b195ed44092f8b8a53", func := "casebook/casebooklaw11.BallotAsks", spec := "ballotAsks", apart := false }
def BallotAsksSaid : Prop := ballotAsksRow.holds Try.pinned (OpenSpec.ofChange ballotAsksSpec)

/-- ITS FALSE NEIGHBOUR: 'it returns false'. Refute it at one input. -/
def ballotAsksWrong : ChangeSpec := { name := "ballotAsks", fn := fun _ => fun
  | [d1, d2, d3] => { results := [.lit (.bool false)], args := [d1, d2, d3] }
  | _ => none }
def BallotAsksWrongFalsely : Prop := ballotAsksRow.holds Try.pinned (OpenSpec.ofChange ballotAsksWrong)

/-- 'casebooklaw11.BallotOrder': WHATEVER THE INPUT: true; the input reads as it did. -/
def ballotOrderSpec : ChangeSpec := { name := "ballotOrder", fn := fun _ => fun
  | [d1, d2, d3] => { results := [.lit (.bool true)], args := [d1, d2, d3] }
  | _ => none }
def ballotOrderRow : OpenClaim := { program := "ytdjkopdgapifpaa", sum := "3b0a3da91a9bd262550359b6eaf4376d51f6bc10519687b195ed44092f8b8a53", func := "casebook/casebooklaw11.BallotOrder", spec := "ballotOrder", apart := false }
def BallotOrderSaid : Prop := ballotOrderRow.holds Try.pinned (OpenSpec.ofChange ballotOrderSpec)

/-- ITS FALSE NEIGHBOUR: 'it returns false'. Refute it at one input. -/
def ballotOrderWrong : ChangeSpec := { name := "ballotOrder", fn := fun _ => fun
  | [d1, d2, d3] => { results := [.lit (.bool false)], args := [d1, d2, d3] }
  | _ => none }
def BallotOrderWrongFalsely : Prop := ballotOrderRow.holds Try.pinned (OpenSpec.ofChange ballotOrderWrong)

/-- 'casebooklaw11.BallotRise': WHATEVER THE INPUT: true; the input reads as it did. -/
def ballotRiseSpec : ChangeSpec := { name := "ballotRise", fn := fun _ => fun
  | [d] => { results := [.lit (.bool true)], args := [d] }
  | _ => none }
def ballotRiseRow : OpenClaim := { program := "ytdjkopdgapifpaa", sum := "3b0a3da91a9bd262550359b6eaf4376d51f6bc10519687b195ed44092f8b8a53", func := "casebook/casebooklaw11.BallotRise", spec := "ballotRise", apart := false }
def BallotRiseSaid : Prop := ballotRiseRow.holds Try.pinned (OpenSpec.ofChange ballotRiseSpec)

/-- ITS FALSE NEIGHBOUR: 'it returns false'. Refute it at one input. -/
def ballotRiseWrong : ChangeSpec := { name := "ballotRise", fn := fun _ => fun
  | [d] => { results := [.lit (.bool false)], args := [d] }
  | _ => none }
def BallotRiseWrongFalsely : Prop := ballotRiseRow.holds Try.pinned (OpenSpec.ofChange ballotRiseWrong)

/-- 'casebooklaw11.BallotBytes': WHATEVER THE INPUT: true; the input reads as it did. -/
def ballotBytesSpec : ChangeSpec := { name := "ballotBytes", fn := fun _ => fun
  | [d1, d2] => { results := [.lit (.bool true)], args := [d1, d2] }
  | _ => none }
def ballotBytesRow : OpenClaim := { program := "ytdjkopdgapifpaa", sum := "3b0a3da91a9bd262550359b6eaf4376d51f6bc10519687b195ed44092f8b8a53", func := "casebook/casebooklaw11.BallotBytes", spec := "ballotBytes", apart := false }
def BallotBytesSaid : Prop := ballotBytesRow.holds Try.pinned (OpenSpec.ofChange ballotBytesSpec)

/-- ITS FALSE NEIGHBOUR: 'it returns false'. Refute it at one input. -/
def ballotBytesWrong : ChangeSpec := { name := "ballotBytes", fn := fun _ => fun
  | [d1, d2] => { results := [.lit (.bool false)], args := [d1, d2] }
  | _ => none }
def BallotBytesWrongFalsely : Prop := ballotBytesRow.holds Try.pinned (OpenSpec.ofChange ballotBytesWrong)

/-- 'casebooklaw14.TallyMajorities': WHATEVER THE INPUT: true; the input reads as it did. -/
def tallyMajoritiesSpec : ChangeSpec := { name := "tallyMajorities", fn := fun _ => fun
  | [d1, d2, d3] => { results := [.lit (.bool true)], args := [d1, d2, d3] }
  | _ => none }
def tallyMajoritiesRow : OpenClaim := { program := "ytdjkopdgapifpaa", sum := "3b0a3da91a9bd262550359b6eaf4376d51f6bc10519687b195ed44092f8b8a53", func := "casebook/casebooklaw14.TallyMajorities", spec := "tallyMajorities", apart := false }
def TallyMajoritiesSaid : Prop := tallyMajoritiesRow.holds Try.pinned (OpenSpec.ofChange tallyMajoritiesSpec)

/-- ITS FALSE NEIGHBOUR: 'it returns false'. Refute it at one input. -/
def tallyMajoritiesWrong : ChangeSpec := { name := "tallyMajorities", fn := fun _ => fun
  | [d1, d2, d3] => { results := [.lit (.bool false)], args := [d1, d2, d3] }
  | _ => none }
def TallyMajoritiesWrongFalsely : Prop := tallyMajoritiesRow.holds Try.pinned (OpenSpec.ofChange tallyMajoritiesWrong)

/-- 'casebooklaw14.TallyBest': WHATEVER THE INPUT: true; the input reads as it did. -/
def tallyBestSpec : ChangeSpec := { name := "tallyBest", fn := fun _ => fun
  | [d1, d2] => { results := [.lit (.bool true)], args := [d1, d2] }
  | _ => none }
def tallyBestRow : OpenClaim := { program := "ytdjkopdgapifpaa", sum := "3b0a3da91a9bd262550359b6eaf4376d51f6bc10519687b195ed44092f8b8a53", func := "casebook/casebooklaw14.TallyBest", spec := "tallyBest", apart := false }
def TallyBestSaid : Prop := tallyBestRow.holds Try.pinned (OpenSpec.ofChange tallyBestSpec)

/-- ITS FALSE NEIGHBOUR: 'it returns false'. Refute it at one input. -/
def tallyBestWrong : ChangeSpec := { name := "tallyBest", fn := fun _ => fun
  | [d1, d2] => { results := [.lit (.bool false)], args := [d1, d2] }
  | _ => none }
def TallyBestWrongFalsely : Prop := tallyBestRow.holds Try.pinned (OpenSpec.ofChange tallyBestWrong)

/-- 'casebooklaw14.TallyNobody': WHATEVER THE INPUT: true; the input reads as it did. -/
def tallyNobodySpec : ChangeSpec := { name := "tallyNobody", fn := fun _ => fun
  | [d] => { results := [.lit (.bool true)], args := [d] }
  | _ => none }
def tallyNobodyRow : OpenClaim := { program := "ytdjkopdgapifpaa", sum := "3b0a3da91a9bd262550359b6eaf4376d51f6bc10519687b195ed44092f8b8a53", func := "casebook/casebooklaw14.TallyNobody", spec := "tallyNobody", apart := false }
def TallyNobodySaid : Prop := tallyNobodyRow.holds Try.pinned (OpenSpec.ofChange tallyNobodySpec)

/-- ITS FALSE NEIGHBOUR: 'it returns false'. Refute it at one input. -/
def tallyNobodyWrong : ChangeSpec := { name := "tallyNobody", fn := fun _ => fun
  | [d] => { results := [.lit (.bool false)], args := [d] }
  | _ => none }
def TallyNobodyWrongFalsely : Prop := tallyNobodyRow.holds Try.pinned (OpenSpec.ofChange tallyNobodyWrong)

/-- 'casebooklaw12.ChainFirsts': WHATEVER THE INPUT: true; the input reads as it did. -/
def chainFirstsSpec : ChangeSpec := { name := "chainFirsts", fn := fun _ => fun
  | [d1, d2] => { results := [.lit (.bool true)], args := [d1, d2] }
  | _ => none }
def chainFirstsRow : OpenClaim := { program := "ytdjkopdgapifpaa", sum := "3b0a3da91a9bd262550359b6eaf4376d51f6bc10519687b195ed44092f8b8a53", func := "casebook/casebooklaw12.ChainFirsts", spec := "chainFirsts", unfollowed := true, recurses := true, apart := false }
def ChainFirstsSaid : Prop := chainFirstsRow.holds Try.pinned (OpenSpec.ofChange chainFirstsSpec)

/-- ITS FALSE NEIGHBOUR: 'it returns false'. Refute it at one input. -/
def chainFirstsWrong : ChangeSpec := { name := "chainFirsts", fn := fun _ => fun
  | [d1, d2] => { results := [.lit (.bool false)], args := [d1, d2] }
  | _ => none }
def ChainFirstsWrongFalsely : Prop := chainFirstsRow.holds Try.pinned (OpenSpec.ofChange chainFirstsWrong)

/-- 'casebooklaw12.ChainAsks': WHATEVER THE INPUT: true; the input reads as it did. -/
def chainAsksSpec : ChangeSpec := { name := "chainAsks", fn := fun _ => fun
  | [d1, d2, d3, d4] => { results := [.lit (.bool true)], args := [d1, d2, d3, d4] }
  | _ => none }
def chainAsksRow : OpenClaim := { program := "ytdjkopdgapifpaa", sum := "3b0a3da91a9bd262550359b6eaf4376d51f6bc10519687b195ed44092f8b8a53", func := "casebook/casebooklaw12.ChainAsks", spec := "chainAsks", unfollowed := true, recurses := true, apart := false }
def ChainAsksSaid : Prop := chainAsksRow.holds Try.pinned (OpenSpec.ofChange chainAsksSpec)

/-- ITS FALSE NEIGHBOUR: 'it returns false'. Refute it at one input. -/
def chainAsksWrong : ChangeSpec := { name := "chainAsks", fn := fun _ => fun
  | [d1, d2, d3, d4] => { results := [.lit (.bool false)], args := [d1, d2, d3, d4] }
  | _ => none }
def ChainAsksWrongFalsely : Prop := chainAsksRow.holds Try.pinned (OpenSpec.ofChange chainAsksWrong)

/-- 'casebooklaw12.ChainTurns': WHATEVER THE INPUT: true; the input reads as it did. -/
def chainTurnsSpec : ChangeSpec := { name := "chainTurns", fn := fun _ => fun
  | [d1, d2, d3] => { results := [.lit (.bool true)], args := [d1, d2, d3] }
  | _ => none }
def chainTurnsRow : OpenClaim := { program := "ytdjkopdgapifpaa", sum := "3b0a3da91a9bd262550359b6eaf4376d51f6bc10519687b195ed44092f8b8a53", func := "casebook/casebooklaw12.ChainTurns", spec := "chainTurns", unfollowed := true, recurses := true, apart := false }
def ChainTurnsSaid : Prop := chainTurnsRow.holds Try.pinned (OpenSpec.ofChange chainTurnsSpec)

/-- ITS FALSE NEIGHBOUR: 'it returns false'. Refute it at one input. -/
def chainTurnsWrong : ChangeSpec := { name := "chainTurns", fn := fun _ => fun
  | [d1, d2, d3] => { results := [.lit (.bool false)], args := [d1, d2, d3] }
  | _ => none }
def ChainTurnsWrongFalsely : Prop := chainTurnsRow.holds Try.pinned (OpenSpec.ofChange chainTurnsWrong)

/-- 'casebooklaw12.ChainKeeps': WHATEVER THE INPUT: true; the input reads as it did. -/
def chainKeepsSpec : ChangeSpec := { name := "chainKeeps", fn := fun _ => fun
  | [d1, d2, d3] => { results := [.lit (.bool true)], args := [d1, d2, d3] }
  | _ => none }
def chainKeepsRow : OpenClaim := { program := "ytdjkopdgapifpaa", sum := "3b0a3da91a9bd262550359b6eaf4376d51f6bc10519687b195ed44092f8b8a53", func := "casebook/casebooklaw12.ChainKeeps", spec := "chainKeeps", unfollowed := true, recurses := true, apart := false }
def ChainKeepsSaid : Prop := chainKeepsRow.holds Try.pinned (OpenSpec.ofChange chainKeepsSpec)

/-- ITS FALSE NEIGHBOUR: 'it returns false'. Refute it at one input. -/
def chainKeepsWrong : ChangeSpec := { name := "chainKeeps", fn := fun _ => fun
  | [d1, d2, d3] => { results := [.lit (.bool false)], args := [d1, d2, d3] }
  | _ => none }
def ChainKeepsWrongFalsely : Prop := chainKeepsRow.holds Try.pinned (OpenSpec.ofChange chainKeepsWrong)

/-- 'casebooklaw12.ChainWithout': WHATEVER THE INPUT: true; the input reads as it did. -/
def chainWithoutSpec : ChangeSpec := { name := "chainWithout", fn := fun _ => fun
  | [d1, d2] => { results := [.lit (.bool true)], args := [d1, d2] }
  | _ => none }
def chainWithoutRow : OpenClaim := { program := "ytdjkopdgapifpaa", sum := "3b0a3da91a9bd262550359b6eaf4376d51f6bc10519687b195ed44092f8b8a53", func := "casebook/casebooklaw12.ChainWithout", spec := "chainWithout", unfollowed := true, recurses := true, apart := false }
def ChainWithoutSaid : Prop := chainWithoutRow.holds Try.pinned (OpenSpec.ofChange chainWithoutSpec)

/-- ITS FALSE NEIGHBOUR: 'it returns false'. Refute it at one input. -/
def chainWithoutWrong : ChangeSpec := { name := "chainWithout", fn := fun _ => fun
  | [d1, d2] => { results := [.lit (.bool false)], args := [d1, d2] }
  | _ => none }
def ChainWithoutWrongFalsely : Prop := chainWithoutRow.holds Try.pinned (OpenSpec.ofChange chainWithoutWrong)

/- THE SECOND FORM. 'bulk': how many values and letters a reading holds, each counted each time it is reached (what is shared counts as often as it is met; a slice's spare places count too). A statement '..UptoSaid' is the law's where the arguments, and the package variables that the reading takes, are together of bulk at most 1048576: NARROWER than '..Said'. Prove '..Said' where nothing that the law and all that it calls make is longer than what came in: it says more and counts as full. Else prove '..UptoSaid'. A law counts once. -/
mutual
def uptoBulk {H : Type} : DataW H → Nat
  | .lit (.string bytes) => bytes.length + 1
  | .lit _ => 1
  | .nil => 1
  | .ptr d => uptoBulk d + 1
  | .slice elems spare => uptoBulkAll elems + uptoBulkAll spare + 1
  | .agg parts => uptoBulkAll parts + 1
  | .iface _ d => uptoBulk d + 1
  | .map entries => uptoBulkEntries entries + 1
  | .held _ => 1
def uptoBulkAll {H : Type} : List (DataW H) → Nat
  | [] => 0
  | d :: r => uptoBulk d + uptoBulkAll r
def uptoBulkEntries {H : Type} : List (Lit × DataW H) → Nat
  | [] => 0
  | x :: r => uptoBulkEntry x + uptoBulkEntries r
def uptoBulkEntry {H : Type} : Lit × DataW H → Nat
  | (.string bytes, d) => bytes.length + uptoBulk d + 1
  | (_, d) => uptoBulk d + 1
 end
def uptoSmall : (H : Type) → List (DataW H) → Bool := fun _ ds => decide (uptoBulkAll ds ≤ 1048576)
def OpenSpec.upto (s : _root_.Go.ChangeSpec) : _root_.Go.OpenSpec := { _root_.Go.OpenSpec.ofChange s with cond := some uptoSmall }

/-- 'casebooklaw11.BallotAsks', WHERE WHAT IT READS IS OF BULK AT MOST 1048576: true; the input reads as it did. -/
def ballotAsksUptoRow : OpenClaim := { program := "ytdjkopdgapifpaa", sum := "3b0a3da91a9bd262550359b6eaf4376d51f6bc10519687b195ed44092f8b8a53", func := "casebook/casebooklaw11.BallotAsks", spec := "ballotAsks", apart := false, narrowed := true }
def BallotAsksUptoSaid : Prop := ballotAsksUptoRow.holds Try.pinned (OpenSpec.upto ballotAsksSpec)

/-- 'casebooklaw11.BallotOrder', WHERE WHAT IT READS IS OF BULK AT MOST 1048576: true; the input reads as it did. -/
def ballotOrderUptoRow : OpenClaim := { program := "ytdjkopdgapifpaa", sum := "3b0a3da91a9bd262550359b6eaf4376d51f6bc10519687b195ed44092f8b8a53", func := "casebook/casebooklaw11.BallotOrder", spec := "ballotOrder", apart := false, narrowed := true }
def BallotOrderUptoSaid : Prop := ballotOrderUptoRow.holds Try.pinned (OpenSpec.upto ballotOrderSpec)

/-- 'casebooklaw11.BallotRise', WHERE WHAT IT READS IS OF BULK AT MOST 1048576: true; the input reads as it did. -/
def ballotRiseUptoRow : OpenClaim := { program := "ytdjkopdgapifpaa", sum := "3b0a3da91a9bd262550359b6eaf4376d51f6bc10519687b195ed44092f8b8a53", func := "casebook/casebooklaw11.BallotRise", spec := "ballotRise", apart := false, narrowed := true }
def BallotRiseUptoSaid : Prop := ballotRiseUptoRow.holds Try.pinned (OpenSpec.upto ballotRiseSpec)

/-- 'casebooklaw11.BallotBytes', WHERE WHAT IT READS IS OF BULK AT MOST 1048576: true; the input reads as it did. -/
def ballotBytesUptoRow : OpenClaim := { program := "ytdjkopdgapifpaa", sum := "3b0a3da91a9bd262550359b6eaf4376d51f6bc10519687b195ed44092f8b8a53", func := "casebook/casebooklaw11.BallotBytes", spec := "ballotBytes", apart := false, narrowed := true }
def BallotBytesUptoSaid : Prop := ballotBytesUptoRow.holds Try.pinned (OpenSpec.upto ballotBytesSpec)

/-- 'casebooklaw14.TallyMajorities', WHERE WHAT IT READS IS OF BULK AT MOST 1048576: true; the input reads as it did. -/
def tallyMajoritiesUptoRow : OpenClaim := { program := "ytdjkopdgapifpaa", sum := "3b0a3da91a9bd262550359b6eaf4376d51f6bc10519687b195ed44092f8b8a53", func := "casebook/casebooklaw14.TallyMajorities", spec := "tallyMajorities", apart := false, narrowed := true }
def TallyMajoritiesUptoSaid : Prop := tallyMajoritiesUptoRow.holds Try.pinned (OpenSpec.upto tallyMajoritiesSpec)

/-- 'casebooklaw14.TallyBest', WHERE WHAT IT READS IS OF BULK AT MOST 1048576: true; the input reads as it did. -/
def tallyBestUptoRow : OpenClaim := { program := "ytdjkopdgapifpaa", sum := "3b0a3da91a9bd262550359b6eaf4376d51f6bc10519687b195ed44092f8b8a53", func := "casebook/casebooklaw14.TallyBest", spec := "tallyBest", apart := false, narrowed := true }
def TallyBestUptoSaid : Prop := tallyBestUptoRow.holds Try.pinned (OpenSpec.upto tallyBestSpec)

/-- 'casebooklaw14.TallyNobody', WHERE WHAT IT READS IS OF BULK AT MOST 1048576: true; the input reads as it did. -/
def tallyNobodyUptoRow : OpenClaim := { program := "ytdjkopdgapifpaa", sum := "3b0a3da91a9bd262550359b6eaf4376d51f6bc10519687b195ed44092f8b8a53", func := "casebook/casebooklaw14.TallyNobody", spec := "tallyNobody", apart := false, narrowed := true }
def TallyNobodyUptoSaid : Prop := tallyNobodyUptoRow.holds Try.pinned (OpenSpec.upto tallyNobodySpec)

/-- 'casebooklaw12.ChainFirsts', WHERE WHAT IT READS IS OF BULK AT MOST 1048576: true; the input reads as it did. -/
def chainFirstsUptoRow : OpenClaim := { program := "ytdjkopdgapifpaa", sum := "3b0a3da91a9bd262550359b6eaf4376d51f6bc10519687b195ed44092f8b8a53", func := "casebook/casebooklaw12.ChainFirsts", spec := "chainFirsts", unfollowed := true, recurses := true, apart := false, narrowed := true }
def ChainFirstsUptoSaid : Prop := chainFirstsUptoRow.holds Try.pinned (OpenSpec.upto chainFirstsSpec)

/-- 'casebooklaw12.ChainAsks', WHERE WHAT IT READS IS OF BULK AT MOST 1048576: true; the input reads as it did. -/
def chainAsksUptoRow : OpenClaim := { program := "ytdjkopdgapifpaa", sum := "3b0a3da91a9bd262550359b6eaf4376d51f6bc10519687b195ed44092f8b8a53", func := "casebook/casebooklaw12.ChainAsks", spec := "chainAsks", unfollowed := true, recurses := true, apart := false, narrowed := true }
def ChainAsksUptoSaid : Prop := chainAsksUptoRow.holds Try.pinned (OpenSpec.upto chainAsksSpec)

/-- 'casebooklaw12.ChainTurns', WHERE WHAT IT READS IS OF BULK AT MOST 1048576: true; the input reads as it did. -/
def chainTurnsUptoRow : OpenClaim := { program := "ytdjkopdgapifpaa", sum := "3b0a3da91a9bd262550359b6eaf4376d51f6bc10519687b195ed44092f8b8a53", func := "casebook/casebooklaw12.ChainTurns", spec := "chainTurns", unfollowed := true, recurses := true, apart := false, narrowed := true }
def ChainTurnsUptoSaid : Prop := chainTurnsUptoRow.holds Try.pinned (OpenSpec.upto chainTurnsSpec)

/-- 'casebooklaw12.ChainKeeps', WHERE WHAT IT READS IS OF BULK AT MOST 1048576: true; the input reads as it did. -/
def chainKeepsUptoRow : OpenClaim := { program := "ytdjkopdgapifpaa", sum := "3b0a3da91a9bd262550359b6eaf4376d51f6bc10519687b195ed44092f8b8a53", func := "casebook/casebooklaw12.ChainKeeps", spec := "chainKeeps", unfollowed := true, recurses := true, apart := false, narrowed := true }
def ChainKeepsUptoSaid : Prop := chainKeepsUptoRow.holds Try.pinned (OpenSpec.upto chainKeepsSpec)

/-- 'casebooklaw12.ChainWithout', WHERE WHAT IT READS IS OF BULK AT MOST 1048576: true; the input reads as it did. -/
def chainWithoutUptoRow : OpenClaim := { program := "ytdjkopdgapifpaa", sum := "3b0a3da91a9bd262550359b6eaf4376d51f6bc10519687b195ed44092f8b8a53", func := "casebook/casebooklaw12.ChainWithout", spec := "chainWithout", unfollowed := true, recurses := true, apart := false, narrowed := true }
def ChainWithoutUptoSaid : Prop := chainWithoutUptoRow.holds Try.pinned (OpenSpec.upto chainWithoutSpec)

end Rows
end Go.Proofs.Ytdjkopdgapifpaa
