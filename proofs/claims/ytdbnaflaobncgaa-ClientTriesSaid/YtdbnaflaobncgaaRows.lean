/-
  No cell of these rows narrows 'for every input' (looked for: loops, veiled, ifaces, maps, wideKeys, modest, calm, conditions, laid).
  DERIVED. THE GIVEN ROWS OF THIS SEAT. 10 by the template 'for every input the law returns true; each argument reads behind the call as it read before'; 0 by the template 'total and deterministic' (their statements: YtdbnaflaobncgaaTotals.lean).
  GIVEN WITH THE SEED: the statements are not yours to turn. If you find one false, say at which input.
  Laid BY PROGRAM, IN A SANDBOX (cutbox-rows.mjs): the forced cells as the released guide's own fill.sh prints them over the translation 98e813633d8a7b85… (all of the seat's roots in one cut). By AI agents, Wed Nov 11 2026. No macro, syntax, notation, axiom, sorry.
-/
import Derived.Test.YtdbnaflaobncgaaChecked
import GoSem.Claim
import GoSem.ClaimJoined
import GoSem.ClaimMapViews
import Derived.JoinedTies
import Derived.KernelRfl
namespace Go.Proofs.Ytdbnaflaobncgaa
/- THE CELL 'sum', in the pinned program and in every row, IS THE sha256 OF THE DUMP (.gsa) THAT YtdbnaflaobncgaaProg.lean LOADS. Nothing in Lean hashes anything: it is a label: what it is worth is what the hold of that sum in a sandbox is worth. -/
noncomputable def Try.pinned : Pinned := { name := "ytdbnaflaobncgaa", sum := "98e813633d8a7b85188693fec8a0d5b53532c8ec0cc43c1e0a82d27deb62510f", checked := Try.checked }
namespace Rows
def none {H : Type} : Left H := { results := [], args := [] }

/-- 'casebooklaw21.ClientTries': WHATEVER THE INPUT: true; the input reads as it did. -/
def clientTriesSpec : ChangeSpec := { name := "clientTries", fn := fun _ => fun
  | [d1, d2] => { results := [.lit (.bool true)], args := [d1, d2] }
  | _ => none }
def clientTriesRow : OpenClaim := { program := "ytdbnaflaobncgaa", sum := "98e813633d8a7b85188693fec8a0d5b53532c8ec0cc43c1e0a82d27deb62510f", func := "casebook/casebooklaw21.ClientTries", spec := "clientTries", unfollowed := true, recurses := true, apart := false }
def ClientTriesSaid : Prop := clientTriesRow.holds Try.pinned (OpenSpec.ofChange clientTriesSpec)

/-- ITS FALSE NEIGHBOUR: 'it returns false'. Refute it at one input. -/
def clientTriesWrong : ChangeSpec := { name := "clientTries", fn := fun _ => fun
  | [d1, d2] => { results := [.lit (.bool false)], args := [d1, d2] }
  | _ => none }
def ClientTriesWrongFalsely : Prop := clientTriesRow.holds Try.pinned (OpenSpec.ofChange clientTriesWrong)

/-- 'casebooklaw21.ClientKnows': WHATEVER THE INPUT: true; the input reads as it did. -/
def clientKnowsSpec : ChangeSpec := { name := "clientKnows", fn := fun _ => fun
  | [d1, d2, d3] => { results := [.lit (.bool true)], args := [d1, d2, d3] }
  | _ => none }
def clientKnowsRow : OpenClaim := { program := "ytdbnaflaobncgaa", sum := "98e813633d8a7b85188693fec8a0d5b53532c8ec0cc43c1e0a82d27deb62510f", func := "casebook/casebooklaw21.ClientKnows", spec := "clientKnows", unfollowed := true, recurses := true, apart := false }
def ClientKnowsSaid : Prop := clientKnowsRow.holds Try.pinned (OpenSpec.ofChange clientKnowsSpec)

/-- ITS FALSE NEIGHBOUR: 'it returns false'. Refute it at one input. -/
def clientKnowsWrong : ChangeSpec := { name := "clientKnows", fn := fun _ => fun
  | [d1, d2, d3] => { results := [.lit (.bool false)], args := [d1, d2, d3] }
  | _ => none }
def ClientKnowsWrongFalsely : Prop := clientKnowsRow.holds Try.pinned (OpenSpec.ofChange clientKnowsWrong)

/-- 'casebooklaw21.ClientPlays': WHATEVER THE INPUT: true; the input reads as it did. -/
def clientPlaysSpec : ChangeSpec := { name := "clientPlays", fn := fun _ => fun
  | [d1, d2, d3] => { results := [.lit (.bool true)], args := [d1, d2, d3] }
  | _ => none }
def clientPlaysRow : OpenClaim := { program := "ytdbnaflaobncgaa", sum := "98e813633d8a7b85188693fec8a0d5b53532c8ec0cc43c1e0a82d27deb62510f", func := "casebook/casebooklaw21.ClientPlays", spec := "clientPlays", unfollowed := true, recurses := true, apart := false }
def ClientPlaysSaid : Prop := clientPlaysRow.holds Try.pinned (OpenSpec.ofChange clientPlaysSpec)

/-- ITS FALSE NEIGHBOUR: 'it returns false'. Refute it at one input. -/
def clientPlaysWrong : ChangeSpec := { name := "clientPlays", fn := fun _ => fun
  | [d1, d2, d3] => { results := [.lit (.bool false)], args := [d1, d2, d3] }
  | _ => none }
def ClientPlaysWrongFalsely : Prop := clientPlaysRow.holds Try.pinned (OpenSpec.ofChange clientPlaysWrong)

/-- 'casebooklaw21.ClientOne': WHATEVER THE INPUT: true; the input reads as it did. -/
def clientOneSpec : ChangeSpec := { name := "clientOne", fn := fun _ => fun
  | [d] => { results := [.lit (.bool true)], args := [d] }
  | _ => none }
def clientOneRow : OpenClaim := { program := "ytdbnaflaobncgaa", sum := "98e813633d8a7b85188693fec8a0d5b53532c8ec0cc43c1e0a82d27deb62510f", func := "casebook/casebooklaw21.ClientOne", spec := "clientOne", unfollowed := true, recurses := true, apart := false }
def ClientOneSaid : Prop := clientOneRow.holds Try.pinned (OpenSpec.ofChange clientOneSpec)

/-- ITS FALSE NEIGHBOUR: 'it returns false'. Refute it at one input. -/
def clientOneWrong : ChangeSpec := { name := "clientOne", fn := fun _ => fun
  | [d] => { results := [.lit (.bool false)], args := [d] }
  | _ => none }
def ClientOneWrongFalsely : Prop := clientOneRow.holds Try.pinned (OpenSpec.ofChange clientOneWrong)

/-- 'casebooklaw2.ItemReqs': WHATEVER THE INPUT: true; the input reads as it did. -/
def itemReqsSpec : ChangeSpec := { name := "itemReqs", fn := fun _ => fun
  | [d1, d2] => { results := [.lit (.bool true)], args := [d1, d2] }
  | _ => none }
def itemReqsRow : OpenClaim := { program := "ytdbnaflaobncgaa", sum := "98e813633d8a7b85188693fec8a0d5b53532c8ec0cc43c1e0a82d27deb62510f", func := "casebook/casebooklaw2.ItemReqs", spec := "itemReqs", unfollowed := true, recurses := true, apart := false }
def ItemReqsSaid : Prop := itemReqsRow.holds Try.pinned (OpenSpec.ofChange itemReqsSpec)

/-- ITS FALSE NEIGHBOUR: 'it returns false'. Refute it at one input. -/
def itemReqsWrong : ChangeSpec := { name := "itemReqs", fn := fun _ => fun
  | [d1, d2] => { results := [.lit (.bool false)], args := [d1, d2] }
  | _ => none }
def ItemReqsWrongFalsely : Prop := itemReqsRow.holds Try.pinned (OpenSpec.ofChange itemReqsWrong)

/-- 'casebooklaw2.ItemBack': WHATEVER THE INPUT: true; the input reads as it did. -/
def itemBackSpec : ChangeSpec := { name := "itemBack", fn := fun _ => fun
  | [d1, d2, d3] => { results := [.lit (.bool true)], args := [d1, d2, d3] }
  | _ => none }
def itemBackRow : OpenClaim := { program := "ytdbnaflaobncgaa", sum := "98e813633d8a7b85188693fec8a0d5b53532c8ec0cc43c1e0a82d27deb62510f", func := "casebook/casebooklaw2.ItemBack", spec := "itemBack", unfollowed := true, recurses := true, apart := false }
def ItemBackSaid : Prop := itemBackRow.holds Try.pinned (OpenSpec.ofChange itemBackSpec)

/-- ITS FALSE NEIGHBOUR: 'it returns false'. Refute it at one input. -/
def itemBackWrong : ChangeSpec := { name := "itemBack", fn := fun _ => fun
  | [d1, d2, d3] => { results := [.lit (.bool false)], args := [d1, d2, d3] }
  | _ => none }
def ItemBackWrongFalsely : Prop := itemBackRow.holds Try.pinned (OpenSpec.ofChange itemBackWrong)

/-- 'casebooklaw2.ItemChains': WHATEVER THE INPUT: true; the input reads as it did. -/
def itemChainsSpec : ChangeSpec := { name := "itemChains", fn := fun _ => fun
  | [d1, d2] => { results := [.lit (.bool true)], args := [d1, d2] }
  | _ => none }
def itemChainsRow : OpenClaim := { program := "ytdbnaflaobncgaa", sum := "98e813633d8a7b85188693fec8a0d5b53532c8ec0cc43c1e0a82d27deb62510f", func := "casebook/casebooklaw2.ItemChains", spec := "itemChains", unfollowed := true, recurses := true, apart := false }
def ItemChainsSaid : Prop := itemChainsRow.holds Try.pinned (OpenSpec.ofChange itemChainsSpec)

/-- ITS FALSE NEIGHBOUR: 'it returns false'. Refute it at one input. -/
def itemChainsWrong : ChangeSpec := { name := "itemChains", fn := fun _ => fun
  | [d1, d2] => { results := [.lit (.bool false)], args := [d1, d2] }
  | _ => none }
def ItemChainsWrongFalsely : Prop := itemChainsRow.holds Try.pinned (OpenSpec.ofChange itemChainsWrong)

/-- 'casebooklaw2.ItemBounds': WHATEVER THE INPUT: true; the input reads as it did. -/
def itemBoundsSpec : ChangeSpec := { name := "itemBounds", fn := fun _ => fun
  | [d1, d2] => { results := [.lit (.bool true)], args := [d1, d2] }
  | _ => none }
def itemBoundsRow : OpenClaim := { program := "ytdbnaflaobncgaa", sum := "98e813633d8a7b85188693fec8a0d5b53532c8ec0cc43c1e0a82d27deb62510f", func := "casebook/casebooklaw2.ItemBounds", spec := "itemBounds", unfollowed := true, recurses := true, apart := false }
def ItemBoundsSaid : Prop := itemBoundsRow.holds Try.pinned (OpenSpec.ofChange itemBoundsSpec)

/-- ITS FALSE NEIGHBOUR: 'it returns false'. Refute it at one input. -/
def itemBoundsWrong : ChangeSpec := { name := "itemBounds", fn := fun _ => fun
  | [d1, d2] => { results := [.lit (.bool false)], args := [d1, d2] }
  | _ => none }
def ItemBoundsWrongFalsely : Prop := itemBoundsRow.holds Try.pinned (OpenSpec.ofChange itemBoundsWrong)

/-- 'casebooklaw2.ItemApart': WHATEVER THE INPUT: true; the input reads as it did. -/
def itemApartSpec : ChangeSpec := { name := "itemApart", fn := fun _ => fun
  | [d1, d2, d3, d4] => { results := [.lit (.bool true)], args := [d1, d2, d3, d4] }
  | _ => none }
def itemApartRow : OpenClaim := { program := "ytdbnaflaobncgaa", sum := "98e813633d8a7b85188693fec8a0d5b53532c8ec0cc43c1e0a82d27deb62510f", func := "casebook/casebooklaw2.ItemApart", spec := "itemApart", unfollowed := true, recurses := true, apart := false }
def ItemApartSaid : Prop := itemApartRow.holds Try.pinned (OpenSpec.ofChange itemApartSpec)

/-- ITS FALSE NEIGHBOUR: 'it returns false'. Refute it at one input. -/
def itemApartWrong : ChangeSpec := { name := "itemApart", fn := fun _ => fun
  | [d1, d2, d3, d4] => { results := [.lit (.bool false)], args := [d1, d2, d3, d4] }
  | _ => none }
def ItemApartWrongFalsely : Prop := itemApartRow.holds Try.pinned (OpenSpec.ofChange itemApartWrong)

/-- 'casebooklaw2.ItemKinds': WHATEVER THE INPUT: true; the input reads as it did. -/
def itemKindsSpec : ChangeSpec := { name := "itemKinds", fn := fun _ => fun
  | [d1, d2, d3] => { results := [.lit (.bool true)], args := [d1, d2, d3] }
  | _ => none }
def itemKindsRow : OpenClaim := { program := "ytdbnaflaobncgaa", sum := "98e813633d8a7b85188693fec8a0d5b53532c8ec0cc43c1e0a82d27deb62510f", func := "casebook/casebooklaw2.ItemKinds", spec := "itemKinds", unfollowed := true, recurses := true, apart := false }
def ItemKindsSaid : Prop := itemKindsRow.holds Try.pinned (OpenSpec.ofChange itemKindsSpec)

/-- ITS FALSE NEIGHBOUR: 'it returns false'. Refute it at one input. -/
def itemKindsWrong : ChangeSpec := { name := "itemKinds", fn := fun _ => fun
  | [d1, d2, d3] => { results := [.lit (.bool false)], args := [d1, d2, d3] }
  | _ => none }
def ItemKindsWrongFalsely : Prop := itemKindsRow.holds Try.pinned (OpenSpec.ofChange itemKindsWrong)

/- THE SECOND FORM. 'bulk': how many values and letters a reading holds, each counted each time it is reached (what is shared counts as often as it is met; a slice's spare places count too). A statement '..UptoSaid' is the law's where the arguments, and the package variables that the reading takes, are together of bulk at most 1048576: NARROWER than '..Said'. Prove '..Said' where nothing that the law and all that it calls make is longer than what came in: it says more and counts as full. Else prove '..UptoSaid'. A law counts once. -/
mutual
def uptoBulk {H : Type} : DataW H → Nat
  | .lit (.string bytes) => bytes.length + 1
  | .lit _ => 1
  | .nil => 1
  | .ptr d => uptoBulk d + 1
  | .slice elems spare => uptoBulkAll elems + uptoBulkAll spare + 1
  | .agg parts => uptoBulkAll parts + 1
  | .iface _ d => uptoBulk d + 1
  | .map entries => uptoBulkEntries entries + 1
  | .held _ => 1
def uptoBulkAll {H : Type} : List (DataW H) → Nat
  | [] => 0
  | d :: r => uptoBulk d + uptoBulkAll r
def uptoBulkEntries {H : Type} : List (Lit × DataW H) → Nat
  | [] => 0
  | x :: r => uptoBulkEntry x + uptoBulkEntries r
def uptoBulkEntry {H : Type} : Lit × DataW H → Nat
  | (.string bytes, d) => bytes.length + uptoBulk d + 1
  | (_, d) => uptoBulk d + 1
 end
def uptoSmall : (H : Type) → List (DataW H) → Bool := fun _ ds => decide (uptoBulkAll ds ≤ 1048576)
def OpenSpec.upto (s : _root_.Go.ChangeSpec) : _root_.Go.OpenSpec := { _root_.Go.OpenSpec.ofChange s with cond := some uptoSmall }

/-- 'casebooklaw21.ClientTries', WHERE WHAT IT READS IS OF BULK AT MOST 1048576: true; the input reads as it did. -/
def clientTriesUptoRow : OpenClaim := { program := "ytdbnaflaobncgaa", sum := "98e813633d8a7b85188693fec8a0d5b53532c8ec0cc43c1e0a82d27deb62510f", func := "casebook/casebooklaw21.ClientTries", spec := "clientTries", unfollowed := true, recurses := true, apart := false, narrowed := true }
def ClientTriesUptoSaid : Prop := clientTriesUptoRow.holds Try.pinned (OpenSpec.upto clientTriesSpec)

/-- 'casebooklaw21.ClientKnows', WHERE WHAT IT READS IS OF BULK AT MOST 1048576: true; the input reads as it did. -/
def clientKnowsUptoRow : OpenClaim := { program := "ytdbnaflaobncgaa", sum := "98e813633d8a7b85188693fec8a0d5b53532c8ec0cc43c1e0a82d27deb62510f", func := "casebook/casebooklaw21.ClientKnows", spec := "clientKnows", unfollowed := true, recurses := true, apart := false, narrowed := true }
def ClientKnowsUptoSaid : Prop := clientKnowsUptoRow.holds Try.pinned (OpenSpec.upto clientKnowsSpec)

/-- 'casebooklaw21.ClientPlays', WHERE WHAT IT READS IS OF BULK AT MOST 1048576: true; the input reads as it did. -/
def clientPlaysUptoRow : OpenClaim := { program := "ytdbnaflaobncgaa", sum := "98e813633d8a7b85188693fec8a0d5b53532c8ec0cc43c1e0a82d27deb62510f", func := "casebook/casebooklaw21.ClientPlays", spec := "clientPlays", unfollowed := true, recurses := true, apart := false, narrowed := true }
def ClientPlaysUptoSaid : Prop := clientPlaysUptoRow.holds Try.pinned (OpenSpec.upto clientPlaysSpec)

/-- 'casebooklaw21.ClientOne', WHERE WHAT IT READS IS OF BULK AT MOST 1048576: true; the input reads as it did. -/
def clientOneUptoRow : OpenClaim := { program := "ytdbnaflaobncgaa", sum := "98e813633d8a7b85188693fec8a0d5b53532c8ec0cc43c1e0a82d27deb62510f", func := "casebook/casebooklaw21.ClientOne", spec := "clientOne", unfollowed := true, recurses := true, apart := false, narrowed := true }
def ClientOneUptoSaid : Prop := clientOneUptoRow.holds Try.pinned (OpenSpec.upto clientOneSpec)

/-- 'casebooklaw2.ItemReqs', WHERE WHAT IT READS IS OF BULK AT MOST 1048576: true; the input reads as it did. -/
def itemReqsUptoRow : OpenClaim := { program := "ytdbnaflaobncgaa", sum := "98e813633d8a7b85188693fec8a0d5b53532c8ec0cc43c1e0a82d27deb62510f", func := "casebook/casebooklaw2.ItemReqs", spec := "itemReqs", unfollowed := true, recurses := true, apart := false, narrowed := true }
def ItemReqsUptoSaid : Prop := itemReqsUptoRow.holds Try.pinned (OpenSpec.upto itemReqsSpec)

/-- 'casebooklaw2.ItemBack', WHERE WHAT IT READS IS OF BULK AT MOST 1048576: true; the input reads as it did. -/
def itemBackUptoRow : OpenClaim := { program := "ytdbnaflaobncgaa", sum := "98e813633d8a7b85188693fec8a0d5b53532c8ec0cc43c1e0a82d27deb62510f", func := "casebook/casebooklaw2.ItemBack", spec := "itemBack", unfollowed := true, recurses := true, apart := false, narrowed := true }
def ItemBackUptoSaid : Prop := itemBackUptoRow.holds Try.pinned (OpenSpec.upto itemBackSpec)

/-- 'casebooklaw2.ItemChains', WHERE WHAT IT READS IS OF BULK AT MOST 1048576: true; the input reads as it did. -/
def itemChainsUptoRow : OpenClaim := { program := "ytdbnaflaobncgaa", sum := "98e813633d8a7b85188693fec8a0d5b53532c8ec0cc43c1e0a82d27deb62510f", func := "casebook/casebooklaw2.ItemChains", spec := "itemChains", unfollowed := true, recurses := true, apart := false, narrowed := true }
def ItemChainsUptoSaid : Prop := itemChainsUptoRow.holds Try.pinned (OpenSpec.upto itemChainsSpec)

/-- 'casebooklaw2.ItemBounds', WHERE WHAT IT READS IS OF BULK AT MOST 1048576: true; the input reads as it did. -/
def itemBoundsUptoRow : OpenClaim := { program := "ytdbnaflaobncgaa", sum := "98e813633d8a7b85188693fec8a0d5b53532c8ec0cc43c1e0a82d27deb62510f", func := "casebook/casebooklaw2.ItemBounds", spec := "itemBounds", unfollowed := true, recurses := true, apart := false, narrowed := true }
def ItemBoundsUptoSaid : Prop := itemBoundsUptoRow.holds Try.pinned (OpenSpec.upto itemBoundsSpec)

/-- 'casebooklaw2.ItemApart', WHERE WHAT IT READS IS OF BULK AT MOST 1048576: true; the input reads as it did. -/
def itemApartUptoRow : OpenClaim := { program := "ytdbnaflaobncgaa", sum := "98e813633d8a7b85188693fec8a0d5b53532c8ec0cc43c1e0a82d27deb62510f", func := "casebook/casebooklaw2.ItemApart", spec := "itemApart", unfollowed := true, recurses := true, apart := false, narrowed := true }
def ItemApartUptoSaid : Prop := itemApartUptoRow.holds Try.pinned (OpenSpec.upto itemApartSpec)

/-- 'casebooklaw2.ItemKinds', WHERE WHAT IT READS IS OF BULK AT MOST 1048576: true; the input reads as it did. -/
def itemKindsUptoRow : OpenClaim := { program := "ytdbnaflaobncgaa", sum := "98e813633d8a7b85188693fec8a0d5b53532c8ec0cc43c1e0a82d27deb62510f", func := "casebook/casebooklaw2.ItemKinds", spec := "itemKinds", unfollowed := true, recurses := true, apart := false, narrowed := true }
def ItemKindsUptoSaid : Prop := itemKindsUptoRow.holds Try.pinned (OpenSpec.upto itemKindsSpec)

end Rows
end Go.Proofs.Ytdbnaflaobncgaa
