/-
  No cell of these rows narrows 'for every input' (looked for: loops, veiled, ifaces, maps, wideKeys, modest, calm, conditions, laid).
  DERIVED. THE GIVEN ROWS OF THIS SEAT. 12 by the template 'for every input the law returns true; each argument reads behind the call as it read before'; 0 by the template 'total and deterministic' (their statements: YtfpelhjiaabglaaTotals.lean).
  GIVEN WITH THE SEED: the statements are not yours to turn. If you find one false, say at which input.
  Laid BY PROGRAM, IN A SANDBOX (cutbox-rows.mjs): the forced cells as the released guide's own fill.sh prints them over the translation 17bb1156bd1fbb1b… (all of the seat's roots in one cut). By AI agents, Wed Nov 11 2026. No macro, syntax, notation, axiom, sorry.
-/
import Derived.Test.YtfpelhjiaabglaaChecked
import GoSem.Claim
import GoSem.ClaimJoined
import GoSem.ClaimMapViews
import Derived.JoinedTies
import Derived.KernelRfl
namespace Go.Proofs.Ytfpelhjiaabglaa
/- THE CELL 'sum', in the pinned program and in every row, IS THE sha256 OF THE DUMP (.gsa) THAT YtfpelhjiaabglaaProg.lean LOADS. Nothing in Lean hashes anything: it is a label: what it is worth is what the hold of that sum in a sandbox is worth. -/
noncomputable def Try.pinned : Pinned := { name := "ytfpelhjiaabglaa", sum := "17bb1156bd1fbb1b94033cd37dd65cbf982c32ee59943e5f2db425f50a5eba39", checked := Try.checked }
namespace Rows
def none {H : Type} : Left H := { results := [], args := [] }

/-- 'casebooklaw1.PackWrites': WHATEVER THE INPUT: true; the input reads as it did. -/
def packWritesSpec : ChangeSpec := { name := "packWrites", fn := fun _ => fun
  | [d] => { results := [.lit (.bool true)], args := [d] }
  | _ => none }
def packWritesRow : OpenClaim := { program := "ytfpelhjiaabglaa", sum := "17bb1156bd1fbb1b94033cd37dd65cbf982c32ee59943e5f2db425f50a5eba39", func := "casebook/casebooklaw1.PackWrites", spec := "packWrites", apart := false }
def PackWritesSaid : Prop := packWritesRow.holds Try.pinned (OpenSpec.ofChange packWritesSpec)

/-- ITS FALSE NEIGHBOUR: 'it returns false'. Refute it at one input. -/
def packWritesWrong : ChangeSpec := { name := "packWrites", fn := fun _ => fun
  | [d] => { results := [.lit (.bool false)], args := [d] }
  | _ => none }
def PackWritesWrongFalsely : Prop := packWritesRow.holds Try.pinned (OpenSpec.ofChange packWritesWrong)

/-- 'casebooklaw1.PackReads': WHATEVER THE INPUT: true; the input reads as it did. -/
def packReadsSpec : ChangeSpec := { name := "packReads", fn := fun _ => fun
  | [d1, d2] => { results := [.lit (.bool true)], args := [d1, d2] }
  | _ => none }
def packReadsRow : OpenClaim := { program := "ytfpelhjiaabglaa", sum := "17bb1156bd1fbb1b94033cd37dd65cbf982c32ee59943e5f2db425f50a5eba39", func := "casebook/casebooklaw1.PackReads", spec := "packReads", apart := false }
def PackReadsSaid : Prop := packReadsRow.holds Try.pinned (OpenSpec.ofChange packReadsSpec)

/-- ITS FALSE NEIGHBOUR: 'it returns false'. Refute it at one input. -/
def packReadsWrong : ChangeSpec := { name := "packReads", fn := fun _ => fun
  | [d1, d2] => { results := [.lit (.bool false)], args := [d1, d2] }
  | _ => none }
def PackReadsWrongFalsely : Prop := packReadsRow.holds Try.pinned (OpenSpec.ofChange packReadsWrong)

/-- 'casebooklaw1.PackBack': WHATEVER THE INPUT: true; the input reads as it did. -/
def packBackSpec : ChangeSpec := { name := "packBack", fn := fun _ => fun
  | [d1, d2] => { results := [.lit (.bool true)], args := [d1, d2] }
  | _ => none }
def packBackRow : OpenClaim := { program := "ytfpelhjiaabglaa", sum := "17bb1156bd1fbb1b94033cd37dd65cbf982c32ee59943e5f2db425f50a5eba39", func := "casebook/casebooklaw1.PackBack", spec := "packBack", apart := false }
def PackBackSaid : Prop := packBackRow.holds Try.pinned (OpenSpec.ofChange packBackSpec)

/-- ITS FALSE NEIGHBOUR: 'it returns false'. Refute it at one input. -/
def packBackWrong : ChangeSpec := { name := "packBack", fn := fun _ => fun
  | [d1, d2] => { results := [.lit (.bool false)], args := [d1, d2] }
  | _ => none }
def PackBackWrongFalsely : Prop := packBackRow.holds Try.pinned (OpenSpec.ofChange packBackWrong)

/-- 'casebooklaw1.PackSums': WHATEVER THE INPUT: true; the input reads as it did. -/
def packSumsSpec : ChangeSpec := { name := "packSums", fn := fun _ => fun
  | [d] => { results := [.lit (.bool true)], args := [d] }
  | _ => none }
def packSumsRow : OpenClaim := { program := "ytfpelhjiaabglaa", sum := "17bb1156bd1fbb1b94033cd37dd65cbf982c32ee59943e5f2db425f50a5eba39", func := "casebook/casebooklaw1.PackSums", spec := "packSums", apart := false }
def PackSumsSaid : Prop := packSumsRow.holds Try.pinned (OpenSpec.ofChange packSumsSpec)

/-- ITS FALSE NEIGHBOUR: 'it returns false'. Refute it at one input. -/
def packSumsWrong : ChangeSpec := { name := "packSums", fn := fun _ => fun
  | [d] => { results := [.lit (.bool false)], args := [d] }
  | _ => none }
def PackSumsWrongFalsely : Prop := packSumsRow.holds Try.pinned (OpenSpec.ofChange packSumsWrong)

/-- 'casebooklaw1.PackTurned': WHATEVER THE INPUT: true; the input reads as it did. -/
def packTurnedSpec : ChangeSpec := { name := "packTurned", fn := fun _ => fun
  | [d1, d2, d3] => { results := [.lit (.bool true)], args := [d1, d2, d3] }
  | _ => none }
def packTurnedRow : OpenClaim := { program := "ytfpelhjiaabglaa", sum := "17bb1156bd1fbb1b94033cd37dd65cbf982c32ee59943e5f2db425f50a5eba39", func := "casebook/casebooklaw1.PackTurned", spec := "packTurned", apart := false }
def PackTurnedSaid : Prop := packTurnedRow.holds Try.pinned (OpenSpec.ofChange packTurnedSpec)

/-- ITS FALSE NEIGHBOUR: 'it returns false'. Refute it at one input. -/
def packTurnedWrong : ChangeSpec := { name := "packTurned", fn := fun _ => fun
  | [d1, d2, d3] => { results := [.lit (.bool false)], args := [d1, d2, d3] }
  | _ => none }
def PackTurnedWrongFalsely : Prop := packTurnedRow.holds Try.pinned (OpenSpec.ofChange packTurnedWrong)

/-- 'casebooklaw1.PackForms': WHATEVER THE INPUT: true; the input reads as it did. -/
def packFormsSpec : ChangeSpec := { name := "packForms", fn := fun _ => fun
  | [d1, d2, d3] => { results := [.lit (.bool true)], args := [d1, d2, d3] }
  | _ => none }
def packFormsRow : OpenClaim := { program := "ytfpelhjiaabglaa", sum := "17bb1156bd1fbb1b94033cd37dd65cbf982c32ee59943e5f2db425f50a5eba39", func := "casebook/casebooklaw1.PackForms", spec := "packForms", apart := false }
def PackFormsSaid : Prop := packFormsRow.holds Try.pinned (OpenSpec.ofChange packFormsSpec)

/-- ITS FALSE NEIGHBOUR: 'it returns false'. Refute it at one input. -/
def packFormsWrong : ChangeSpec := { name := "packForms", fn := fun _ => fun
  | [d1, d2, d3] => { results := [.lit (.bool false)], args := [d1, d2, d3] }
  | _ => none }
def PackFormsWrongFalsely : Prop := packFormsRow.holds Try.pinned (OpenSpec.ofChange packFormsWrong)

/-- 'casebooklaw1.PackNobody': WHATEVER THE INPUT: true; the input reads as it did. -/
def packNobodySpec : ChangeSpec := { name := "packNobody", fn := fun _ => fun
  | [d1, d2] => { results := [.lit (.bool true)], args := [d1, d2] }
  | _ => none }
def packNobodyRow : OpenClaim := { program := "ytfpelhjiaabglaa", sum := "17bb1156bd1fbb1b94033cd37dd65cbf982c32ee59943e5f2db425f50a5eba39", func := "casebook/casebooklaw1.PackNobody", spec := "packNobody", apart := false }
def PackNobodySaid : Prop := packNobodyRow.holds Try.pinned (OpenSpec.ofChange packNobodySpec)

/-- ITS FALSE NEIGHBOUR: 'it returns false'. Refute it at one input. -/
def packNobodyWrong : ChangeSpec := { name := "packNobody", fn := fun _ => fun
  | [d1, d2] => { results := [.lit (.bool false)], args := [d1, d2] }
  | _ => none }
def PackNobodyWrongFalsely : Prop := packNobodyRow.holds Try.pinned (OpenSpec.ofChange packNobodyWrong)

/-- 'casebooklaw1.PackTexts': WHATEVER THE INPUT: true; the input reads as it did. -/
def packTextsSpec : ChangeSpec := { name := "packTexts", fn := fun _ => fun
  | [d1, d2] => { results := [.lit (.bool true)], args := [d1, d2] }
  | _ => none }
def packTextsRow : OpenClaim := { program := "ytfpelhjiaabglaa", sum := "17bb1156bd1fbb1b94033cd37dd65cbf982c32ee59943e5f2db425f50a5eba39", func := "casebook/casebooklaw1.PackTexts", spec := "packTexts", apart := false }
def PackTextsSaid : Prop := packTextsRow.holds Try.pinned (OpenSpec.ofChange packTextsSpec)

/-- ITS FALSE NEIGHBOUR: 'it returns false'. Refute it at one input. -/
def packTextsWrong : ChangeSpec := { name := "packTexts", fn := fun _ => fun
  | [d1, d2] => { results := [.lit (.bool false)], args := [d1, d2] }
  | _ => none }
def PackTextsWrongFalsely : Prop := packTextsRow.holds Try.pinned (OpenSpec.ofChange packTextsWrong)

/-- 'casebooklaw22.PastPlays': WHATEVER THE INPUT: true; the input reads as it did. -/
def pastPlaysSpec : ChangeSpec := { name := "pastPlays", fn := fun _ => fun
  | [d] => { results := [.lit (.bool true)], args := [d] }
  | _ => none }
def pastPlaysRow : OpenClaim := { program := "ytfpelhjiaabglaa", sum := "17bb1156bd1fbb1b94033cd37dd65cbf982c32ee59943e5f2db425f50a5eba39", func := "casebook/casebooklaw22.PastPlays", spec := "pastPlays", unfollowed := true, recurses := true, apart := false }
def PastPlaysSaid : Prop := pastPlaysRow.holds Try.pinned (OpenSpec.ofChange pastPlaysSpec)

/-- ITS FALSE NEIGHBOUR: 'it returns false'. Refute it at one input. -/
def pastPlaysWrong : ChangeSpec := { name := "pastPlays", fn := fun _ => fun
  | [d] => { results := [.lit (.bool false)], args := [d] }
  | _ => none }
def PastPlaysWrongFalsely : Prop := pastPlaysRow.holds Try.pinned (OpenSpec.ofChange pastPlaysWrong)

/-- 'casebooklaw22.PastMay': WHATEVER THE INPUT: true; the input reads as it did. -/
def pastMaySpec : ChangeSpec := { name := "pastMay", fn := fun _ => fun
  | [d] => { results := [.lit (.bool true)], args := [d] }
  | _ => none }
def pastMayRow : OpenClaim := { program := "ytfpelhjiaabglaa", sum := "17bb1156bd1fbb1b94033cd37dd65cbf982c32ee59943e5f2db425f50a5eba39", func := "casebook/casebooklaw22.PastMay", spec := "pastMay", unfollowed := true, recurses := true, apart := false }
def PastMaySaid : Prop := pastMayRow.holds Try.pinned (OpenSpec.ofChange pastMaySpec)

/-- ITS FALSE NEIGHBOUR: 'it returns false'. Refute it at one input. -/
def pastMayWrong : ChangeSpec := { name := "pastMay", fn := fun _ => fun
  | [d] => { results := [.lit (.bool false)], args := [d] }
  | _ => none }
def PastMayWrongFalsely : Prop := pastMayRow.holds Try.pinned (OpenSpec.ofChange pastMayWrong)

/-- 'casebooklaw22.PastFront': WHATEVER THE INPUT: true; the input reads as it did. -/
def pastFrontSpec : ChangeSpec := { name := "pastFront", fn := fun _ => fun
  | [d1, d2, d3] => { results := [.lit (.bool true)], args := [d1, d2, d3] }
  | _ => none }
def pastFrontRow : OpenClaim := { program := "ytfpelhjiaabglaa", sum := "17bb1156bd1fbb1b94033cd37dd65cbf982c32ee59943e5f2db425f50a5eba39", func := "casebook/casebooklaw22.PastFront", spec := "pastFront", unfollowed := true, recurses := true, apart := false }
def PastFrontSaid : Prop := pastFrontRow.holds Try.pinned (OpenSpec.ofChange pastFrontSpec)

/-- ITS FALSE NEIGHBOUR: 'it returns false'. Refute it at one input. -/
def pastFrontWrong : ChangeSpec := { name := "pastFront", fn := fun _ => fun
  | [d1, d2, d3] => { results := [.lit (.bool false)], args := [d1, d2, d3] }
  | _ => none }
def PastFrontWrongFalsely : Prop := pastFrontRow.holds Try.pinned (OpenSpec.ofChange pastFrontWrong)

/-- 'casebooklaw22.PastNobody': WHATEVER THE INPUT: true; the input reads as it did. -/
def pastNobodySpec : ChangeSpec := { name := "pastNobody", fn := fun _ => fun
  | [d] => { results := [.lit (.bool true)], args := [d] }
  | _ => none }
def pastNobodyRow : OpenClaim := { program := "ytfpelhjiaabglaa", sum := "17bb1156bd1fbb1b94033cd37dd65cbf982c32ee59943e5f2db425f50a5eba39", func := "casebook/casebooklaw22.PastNobody", spec := "pastNobody", unfollowed := true, recurses := true, apart := false }
def PastNobodySaid : Prop := pastNobodyRow.holds Try.pinned (OpenSpec.ofChange pastNobodySpec)

/-- ITS FALSE NEIGHBOUR: 'it returns false'. Refute it at one input. -/
def pastNobodyWrong : ChangeSpec := { name := "pastNobody", fn := fun _ => fun
  | [d] => { results := [.lit (.bool false)], args := [d] }
  | _ => none }
def PastNobodyWrongFalsely : Prop := pastNobodyRow.holds Try.pinned (OpenSpec.ofChange pastNobodyWrong)

/- THE SECOND FORM. 'bulk': how many values and letters a reading holds, each counted each time it is reached (what is shared counts as often as it is met; a slice's spare places count too). A statement '..UptoSaid' is the law's where the arguments, and the package variables that the reading takes, are together of bulk at most 1048576: NARROWER than '..Said'. Prove '..Said' where nothing that the law and all that it calls make is longer than what came in: it says more and counts as full. Else prove '..UptoSaid'. A law counts once. -/
mutual
def uptoBulk {H : Type} : DataW H → Nat
  | .lit (.string bytes) => bytes.length + 1
  | .lit _ => 1
  | .nil => 1
  | .ptr d => uptoBulk d + 1
  | .slice elems spare => uptoBulkAll elems + uptoBulkAll spare + 1
  | .agg parts => uptoBulkAll parts + 1
  | .iface _ d => uptoBulk d + 1
  | .map entries => uptoBulkEntries entries + 1
  | .held _ => 1
def uptoBulkAll {H : Type} : List (DataW H) → Nat
  | [] => 0
  | d :: r => uptoBulk d + uptoBulkAll r
def uptoBulkEntries {H : Type} : List (Lit × DataW H) → Nat
  | [] => 0
  | x :: r => uptoBulkEntry x + uptoBulkEntries r
def uptoBulkEntry {H : Type} : Lit × DataW H → Nat
  | (.string bytes, d) => bytes.length + uptoBulk d + 1
  | (_, d) => uptoBulk d + 1
 end
def uptoSmall : (H : Type) → List (DataW H) → Bool := fun _ ds => decide (uptoBulkAll ds ≤ 1048576)
def OpenSpec.upto (s : _root_.Go.ChangeSpec) : _root_.Go.OpenSpec := { _root_.Go.OpenSpec.ofChange s with cond := some uptoSmall }

/-- 'casebooklaw1.PackWrites', WHERE WHAT IT READS IS OF BULK AT MOST 1048576: true; the input reads as it did. -/
def packWritesUptoRow : OpenClaim := { program := "ytfpelhjiaabglaa", sum := "17bb1156bd1fbb1b94033cd37dd65cbf982c32ee59943e5f2db425f50a5eba39", func := "casebook/casebooklaw1.PackWrites", spec := "packWrites", apart := false, narrowed := true }
def PackWritesUptoSaid : Prop := packWritesUptoRow.holds Try.pinned (OpenSpec.upto packWritesSpec)

/-- 'casebooklaw1.PackReads', WHERE WHAT IT READS IS OF BULK AT MOST 1048576: true; the input reads as it did. -/
def packReadsUptoRow : OpenClaim := { program := "ytfpelhjiaabglaa", sum := "17bb1156bd1fbb1b94033cd37dd65cbf982c32ee59943e5f2db425f50a5eba39", func := "casebook/casebooklaw1.PackReads", spec := "packReads", apart := false, narrowed := true }
def PackReadsUptoSaid : Prop := packReadsUptoRow.holds Try.pinned (OpenSpec.upto packReadsSpec)

/-- 'casebooklaw1.PackBack', WHERE WHAT IT READS IS OF BULK AT MOST 1048576: true; the input reads as it did. -/
def packBackUptoRow : OpenClaim := { program := "ytfpelhjiaabglaa", sum := "17bb1156bd1fbb1b94033cd37dd65cbf982c32ee59943e5f2db425f50a5eba39", func := "casebook/casebooklaw1.PackBack", spec := "packBack", apart := false, narrowed := true }
def PackBackUptoSaid : Prop := packBackUptoRow.holds Try.pinned (OpenSpec.upto packBackSpec)

/-- 'casebooklaw1.PackSums', WHERE WHAT IT READS IS OF BULK AT MOST 1048576: true; the input reads as it did. -/
def packSumsUptoRow : OpenClaim := { program := "ytfpelhjiaabglaa", sum := "17bb1156bd1fbb1b94033cd37dd65cbf982c32ee59943e5f2db425f50a5eba39", func := "casebook/casebooklaw1.PackSums", spec := "packSums", apart := false, narrowed := true }
def PackSumsUptoSaid : Prop := packSumsUptoRow.holds Try.pinned (OpenSpec.upto packSumsSpec)

/-- 'casebooklaw1.PackTurned', WHERE WHAT IT READS IS OF BULK AT MOST 1048576: true; the input reads as it did. -/
def packTurnedUptoRow : OpenClaim := { program := "ytfpelhjiaabglaa", sum := "17bb1156bd1fbb1b94033cd37dd65cbf982c32ee59943e5f2db425f50a5eba39", func := "casebook/casebooklaw1.PackTurned", spec := "packTurned", apart := false, narrowed := true }
def PackTurnedUptoSaid : Prop := packTurnedUptoRow.holds Try.pinned (OpenSpec.upto packTurnedSpec)

/-- 'casebooklaw1.PackForms', WHERE WHAT IT READS IS OF BULK AT MOST 1048576: true; the input reads as it did. -/
def packFormsUptoRow : OpenClaim := { program := "ytfpelhjiaabglaa", sum := "17bb1156bd1fbb1b94033cd37dd65cbf982c32ee59943e5f2db425f50a5eba39", func := "casebook/casebooklaw1.PackForms", spec := "packForms", apart := false, narrowed := true }
def PackFormsUptoSaid : Prop := packFormsUptoRow.holds Try.pinned (OpenSpec.upto packFormsSpec)

/-- 'casebooklaw1.PackNobody', WHERE WHAT IT READS IS OF BULK AT MOST 1048576: true; the input reads as it did. -/
def packNobodyUptoRow : OpenClaim := { program := "ytfpelhjiaabglaa", sum := "17bb1156bd1fbb1b94033cd37dd65cbf982c32ee59943e5f2db425f50a5eba39", func := "casebook/casebooklaw1.PackNobody", spec := "packNobody", apart := false, narrowed := true }
def PackNobodyUptoSaid : Prop := packNobodyUptoRow.holds Try.pinned (OpenSpec.upto packNobodySpec)

/-- 'casebooklaw1.PackTexts', WHERE WHAT IT READS IS OF BULK AT MOST 1048576: true; the input reads as it did. -/
def packTextsUptoRow : OpenClaim := { program := "ytfpelhjiaabglaa", sum := "17bb1156bd1fbb1b94033cd37dd65cbf982c32ee59943e5f2db425f50a5eba39", func := "casebook/casebooklaw1.PackTexts", spec := "packTexts", apart := false, narrowed := true }
def PackTextsUptoSaid : Prop := packTextsUptoRow.holds Try.pinned (OpenSpec.upto packTextsSpec)

/-- 'casebooklaw22.PastPlays', WHERE WHAT IT READS IS OF BULK AT MOST 1048576: true; the input reads as it did. -/
def pastPlaysUptoRow : OpenClaim := { program := "ytfpelhjiaabglaa", sum := "17bb1156bd1fbb1b94033cd37dd65cbf982c32ee59943e5f2db425f50a5eba39", func := "casebook/casebooklaw22.PastPlays", spec := "pastPlays", unfollowed := true, recurses := true, apart := false, narrowed := true }
def PastPlaysUptoSaid : Prop := pastPlaysUptoRow.holds Try.pinned (OpenSpec.upto pastPlaysSpec)

/-- 'casebooklaw22.PastMay', WHERE WHAT IT READS IS OF BULK AT MOST 1048576: true; the input reads as it did. -/
def pastMayUptoRow : OpenClaim := { program := "ytfpelhjiaabglaa", sum := "17bb1156bd1fbb1b94033cd37dd65cbf982c32ee59943e5f2db425f50a5eba39", func := "casebook/casebooklaw22.PastMay", spec := "pastMay", unfollowed := true, recurses := true, apart := false, narrowed := true }
def PastMayUptoSaid : Prop := pastMayUptoRow.holds Try.pinned (OpenSpec.upto pastMaySpec)

/-- 'casebooklaw22.PastFront', WHERE WHAT IT READS IS OF BULK AT MOST 1048576: true; the input reads as it did. -/
def pastFrontUptoRow : OpenClaim := { program := "ytfpelhjiaabglaa", sum := "17bb1156bd1fbb1b94033cd37dd65cbf982c32ee59943e5f2db425f50a5eba39", func := "casebook/casebooklaw22.PastFront", spec := "pastFront", unfollowed := true, recurses := true, apart := false, narrowed := true }
def PastFrontUptoSaid : Prop := pastFrontUptoRow.holds Try.pinned (OpenSpec.upto pastFrontSpec)

/-- 'casebooklaw22.PastNobody', WHERE WHAT IT READS IS OF BULK AT MOST 1048576: true; the input reads as it did. -/
def pastNobodyUptoRow : OpenClaim := { program := "ytfpelhjiaabglaa", sum := "17bb1156bd1fbb1b94033cd37dd65cbf982c32ee59943e5f2db425f50a5eba39", func := "casebook/casebooklaw22.PastNobody", spec := "pastNobody", unfollowed := true, recurses := true, apart := false, narrowed := true }
def PastNobodyUptoSaid : Prop := pastNobodyUptoRow.holds Try.pinned (OpenSpec.upto pastNobodySpec)

end Rows
end Go.Proofs.Ytfpelhjiaabglaa
