/-
  No cell of these rows narrows 'for every input' (looked for: loops, veiled, ifaces, maps, wideKeys, modest, calm, conditions, laid).
  DERIVED. THE GIVEN ROWS OF THIS SEAT. 11 by the template 'for every input the law returns true; each argument reads behind the call as it read before'; 0 by the template 'total and deterministic' (their statements: YtmfdgonjnckdhaaTotals.lean).
  GIVEN WITH THE SEED: the statements are not yours to turn. If you find one false, say at which input.
  Laid BY PROGRAM, IN A SANDBOX (cutbox-rows.mjs): the forced cells as the released guide's own fill.sh prints them over the translation e075825e96155641… (all of the seat's roots in one cut). By AI agents, Wed Nov 11 2026. No macro, syntax, notation, axiom, sorry.
-/
import Derived.Test.YtmfdgonjnckdhaaChecked
import GoSem.Claim
import GoSem.ClaimJoined
import GoSem.ClaimMapViews
import Derived.JoinedTies
import Derived.KernelRfl
namespace Go.Proofs.Ytmfdgonjnckdhaa
/- THE CELL 'sum', in the pinned program and in every row, IS THE sha256 OF THE DUMP (.gsa) THAT YtmfdgonjnckdhaaProg.lean LOADS. Nothing in Lean hashes anything: it is a label: what it is worth is what the hold of that sum in a sandbox is worth. -/
noncomputable def Try.pinned : Pinned := { name := "ytmfdgonjnckdhaa", sum := "e075825e96155641c0367b26b7cacb1e8644264e174606111f20df957cb33f8e", checked := Try.checked }
namespace Rows
def none {H : Type} : Left H := { results := [], args := [] }

/-- 'cubeblaw04.IndexSorts': WHATEVER THE INPUT: true; the input reads as it did. -/
def indexSortsSpec : ChangeSpec := { name := "indexSorts", fn := fun _ => fun
  | [d] => { results := [.lit (.bool true)], args := [d] }
  | _ => none }
def indexSortsRow : OpenClaim := { program := "ytmfdgonjnckdhaa", sum := "e075825e96155641c0367b26b7cacb1e8644264e174606111f20df957cb33f8e", func := "cubeb/cubeblaw04.IndexSorts", spec := "indexSorts", inPlace := ["internal/bytealg.abigen_runtime_cmpstring"], unfollowed := true, recurses := true, apart := false }
def IndexSortsSaid : Prop := indexSortsRow.holds Try.pinned (OpenSpec.ofChange indexSortsSpec)

/-- ITS FALSE NEIGHBOUR: 'it returns false'. Refute it at one input. -/
def indexSortsWrong : ChangeSpec := { name := "indexSorts", fn := fun _ => fun
  | [d] => { results := [.lit (.bool false)], args := [d] }
  | _ => none }
def IndexSortsWrongFalsely : Prop := indexSortsRow.holds Try.pinned (OpenSpec.ofChange indexSortsWrong)

/-- 'cubeblaw04.IndexMatches': WHATEVER THE INPUT: true; the input reads as it did. -/
def indexMatchesSpec : ChangeSpec := { name := "indexMatches", fn := fun _ => fun
  | [d1, d2] => { results := [.lit (.bool true)], args := [d1, d2] }
  | _ => none }
def indexMatchesRow : OpenClaim := { program := "ytmfdgonjnckdhaa", sum := "e075825e96155641c0367b26b7cacb1e8644264e174606111f20df957cb33f8e", func := "cubeb/cubeblaw04.IndexMatches", spec := "indexMatches", inPlace := ["internal/bytealg.IndexByteString", "internal/bytealg.IndexString", "internal/bytealg.abigen_runtime_cmpstring"], unfollowed := true, recurses := true, named := ["internal/bytealg.MaxLen"], apart := false }
def IndexMatchesSaid : Prop := indexMatchesRow.holds Try.pinned (OpenSpec.ofChange indexMatchesSpec)

/-- ITS FALSE NEIGHBOUR: 'it returns false'. Refute it at one input. -/
def indexMatchesWrong : ChangeSpec := { name := "indexMatches", fn := fun _ => fun
  | [d1, d2] => { results := [.lit (.bool false)], args := [d1, d2] }
  | _ => none }
def IndexMatchesWrongFalsely : Prop := indexMatchesRow.holds Try.pinned (OpenSpec.ofChange indexMatchesWrong)

/-- 'cubeblaw04.IndexStrings': WHATEVER THE INPUT: true; the input reads as it did. -/
def indexStringsSpec : ChangeSpec := { name := "indexStrings", fn := fun _ => fun
  | [d1, d2] => { results := [.lit (.bool true)], args := [d1, d2] }
  | _ => none }
def indexStringsRow : OpenClaim := { program := "ytmfdgonjnckdhaa", sum := "e075825e96155641c0367b26b7cacb1e8644264e174606111f20df957cb33f8e", func := "cubeb/cubeblaw04.IndexStrings", spec := "indexStrings", inPlace := ["internal/bytealg.abigen_runtime_cmpstring", "internal/bytealg.IndexByteString", "internal/bytealg.IndexString"], unfollowed := true, recurses := true, named := ["internal/bytealg.MaxLen"], apart := false }
def IndexStringsSaid : Prop := indexStringsRow.holds Try.pinned (OpenSpec.ofChange indexStringsSpec)

/-- ITS FALSE NEIGHBOUR: 'it returns false'. Refute it at one input. -/
def indexStringsWrong : ChangeSpec := { name := "indexStrings", fn := fun _ => fun
  | [d1, d2] => { results := [.lit (.bool false)], args := [d1, d2] }
  | _ => none }
def IndexStringsWrongFalsely : Prop := indexStringsRow.holds Try.pinned (OpenSpec.ofChange indexStringsWrong)

/-- 'cubeblaw04.IndexSums': WHATEVER THE INPUT: true; the input reads as it did. -/
def indexSumsSpec : ChangeSpec := { name := "indexSums", fn := fun _ => fun
  | [d] => { results := [.lit (.bool true)], args := [d] }
  | _ => none }
def indexSumsRow : OpenClaim := { program := "ytmfdgonjnckdhaa", sum := "e075825e96155641c0367b26b7cacb1e8644264e174606111f20df957cb33f8e", func := "cubeb/cubeblaw04.IndexSums", spec := "indexSums", inPlace := ["internal/bytealg.abigen_runtime_cmpstring"], unfollowed := true, recurses := true, apart := false }
def IndexSumsSaid : Prop := indexSumsRow.holds Try.pinned (OpenSpec.ofChange indexSumsSpec)

/-- ITS FALSE NEIGHBOUR: 'it returns false'. Refute it at one input. -/
def indexSumsWrong : ChangeSpec := { name := "indexSums", fn := fun _ => fun
  | [d] => { results := [.lit (.bool false)], args := [d] }
  | _ => none }
def IndexSumsWrongFalsely : Prop := indexSumsRow.holds Try.pinned (OpenSpec.ofChange indexSumsWrong)

/-- 'cubeblaw04.IndexNobody': WHATEVER THE INPUT: true; the input reads as it did. -/
def indexNobodySpec : ChangeSpec := { name := "indexNobody", fn := fun _ => fun
  | [d1, d2, d3, d4] => { results := [.lit (.bool true)], args := [d1, d2, d3, d4] }
  | _ => none }
def indexNobodyRow : OpenClaim := { program := "ytmfdgonjnckdhaa", sum := "e075825e96155641c0367b26b7cacb1e8644264e174606111f20df957cb33f8e", func := "cubeb/cubeblaw04.IndexNobody", spec := "indexNobody", inPlace := ["internal/bytealg.abigen_runtime_cmpstring"], unfollowed := true, recurses := true, apart := false }
def IndexNobodySaid : Prop := indexNobodyRow.holds Try.pinned (OpenSpec.ofChange indexNobodySpec)

/-- ITS FALSE NEIGHBOUR: 'it returns false'. Refute it at one input. -/
def indexNobodyWrong : ChangeSpec := { name := "indexNobody", fn := fun _ => fun
  | [d1, d2, d3, d4] => { results := [.lit (.bool false)], args := [d1, d2, d3, d4] }
  | _ => none }
def IndexNobodyWrongFalsely : Prop := indexNobodyRow.holds Try.pinned (OpenSpec.ofChange indexNobodyWrong)

/-- 'cubeblaw04.IndexCounts': WHATEVER THE INPUT: true; the input reads as it did. -/
def indexCountsSpec : ChangeSpec := { name := "indexCounts", fn := fun _ => fun
  | [d1, d2] => { results := [.lit (.bool true)], args := [d1, d2] }
  | _ => none }
def indexCountsRow : OpenClaim := { program := "ytmfdgonjnckdhaa", sum := "e075825e96155641c0367b26b7cacb1e8644264e174606111f20df957cb33f8e", func := "cubeb/cubeblaw04.IndexCounts", spec := "indexCounts", inPlace := ["internal/bytealg.abigen_runtime_cmpstring", "internal/abi.NoEscape"], unfollowed := true, recurses := true, apart := false }
def IndexCountsSaid : Prop := indexCountsRow.holds Try.pinned (OpenSpec.ofChange indexCountsSpec)

/-- ITS FALSE NEIGHBOUR: 'it returns false'. Refute it at one input. -/
def indexCountsWrong : ChangeSpec := { name := "indexCounts", fn := fun _ => fun
  | [d1, d2] => { results := [.lit (.bool false)], args := [d1, d2] }
  | _ => none }
def IndexCountsWrongFalsely : Prop := indexCountsRow.holds Try.pinned (OpenSpec.ofChange indexCountsWrong)

/-- 'cubeblaw04.IndexSteps': WHATEVER THE INPUT: true; the input reads as it did. -/
def indexStepsSpec : ChangeSpec := { name := "indexSteps", fn := fun _ => fun
  | [d1, d2] => { results := [.lit (.bool true)], args := [d1, d2] }
  | _ => none }
def indexStepsRow : OpenClaim := { program := "ytmfdgonjnckdhaa", sum := "e075825e96155641c0367b26b7cacb1e8644264e174606111f20df957cb33f8e", func := "cubeb/cubeblaw04.IndexSteps", spec := "indexSteps", inPlace := ["internal/bytealg.abigen_runtime_cmpstring", "internal/abi.NoEscape"], unfollowed := true, recurses := true, apart := false }
def IndexStepsSaid : Prop := indexStepsRow.holds Try.pinned (OpenSpec.ofChange indexStepsSpec)

/-- ITS FALSE NEIGHBOUR: 'it returns false'. Refute it at one input. -/
def indexStepsWrong : ChangeSpec := { name := "indexSteps", fn := fun _ => fun
  | [d1, d2] => { results := [.lit (.bool false)], args := [d1, d2] }
  | _ => none }
def IndexStepsWrongFalsely : Prop := indexStepsRow.holds Try.pinned (OpenSpec.ofChange indexStepsWrong)

/-- 'cubeblaw04.IndexRanks': WHATEVER THE INPUT: true; the input reads as it did. -/
def indexRanksSpec : ChangeSpec := { name := "indexRanks", fn := fun _ => fun
  | [d1, d2, d3, d4] => { results := [.lit (.bool true)], args := [d1, d2, d3, d4] }
  | _ => none }
def indexRanksRow : OpenClaim := { program := "ytmfdgonjnckdhaa", sum := "e075825e96155641c0367b26b7cacb1e8644264e174606111f20df957cb33f8e", func := "cubeb/cubeblaw04.IndexRanks", spec := "indexRanks", inPlace := ["internal/bytealg.abigen_runtime_cmpstring", "internal/abi.NoEscape"], unfollowed := true, recurses := true, apart := false }
def IndexRanksSaid : Prop := indexRanksRow.holds Try.pinned (OpenSpec.ofChange indexRanksSpec)

/-- ITS FALSE NEIGHBOUR: 'it returns false'. Refute it at one input. -/
def indexRanksWrong : ChangeSpec := { name := "indexRanks", fn := fun _ => fun
  | [d1, d2, d3, d4] => { results := [.lit (.bool false)], args := [d1, d2, d3, d4] }
  | _ => none }
def IndexRanksWrongFalsely : Prop := indexRanksRow.holds Try.pinned (OpenSpec.ofChange indexRanksWrong)

/-- 'cubeblaw04.IndexTurned': WHATEVER THE INPUT: true; the input reads as it did. -/
def indexTurnedSpec : ChangeSpec := { name := "indexTurned", fn := fun _ => fun
  | [d1, d2] => { results := [.lit (.bool true)], args := [d1, d2] }
  | _ => none }
def indexTurnedRow : OpenClaim := { program := "ytmfdgonjnckdhaa", sum := "e075825e96155641c0367b26b7cacb1e8644264e174606111f20df957cb33f8e", func := "cubeb/cubeblaw04.IndexTurned", spec := "indexTurned", inPlace := ["internal/bytealg.abigen_runtime_cmpstring", "internal/abi.NoEscape"], unfollowed := true, recurses := true, apart := false }
def IndexTurnedSaid : Prop := indexTurnedRow.holds Try.pinned (OpenSpec.ofChange indexTurnedSpec)

/-- ITS FALSE NEIGHBOUR: 'it returns false'. Refute it at one input. -/
def indexTurnedWrong : ChangeSpec := { name := "indexTurned", fn := fun _ => fun
  | [d1, d2] => { results := [.lit (.bool false)], args := [d1, d2] }
  | _ => none }
def IndexTurnedWrongFalsely : Prop := indexTurnedRow.holds Try.pinned (OpenSpec.ofChange indexTurnedWrong)

/-- 'cubeblaw04.IndexMatching': WHATEVER THE INPUT: true; the input reads as it did. -/
def indexMatchingSpec : ChangeSpec := { name := "indexMatching", fn := fun _ => fun
  | [d1, d2] => { results := [.lit (.bool true)], args := [d1, d2] }
  | _ => none }
def indexMatchingRow : OpenClaim := { program := "ytmfdgonjnckdhaa", sum := "e075825e96155641c0367b26b7cacb1e8644264e174606111f20df957cb33f8e", func := "cubeb/cubeblaw04.IndexMatching", spec := "indexMatching", inPlace := ["internal/bytealg.IndexByteString", "internal/bytealg.IndexString", "internal/bytealg.abigen_runtime_cmpstring", "internal/abi.NoEscape"], unfollowed := true, recurses := true, named := ["internal/bytealg.MaxLen"], apart := false }
def IndexMatchingSaid : Prop := indexMatchingRow.holds Try.pinned (OpenSpec.ofChange indexMatchingSpec)

/-- ITS FALSE NEIGHBOUR: 'it returns false'. Refute it at one input. -/
def indexMatchingWrong : ChangeSpec := { name := "indexMatching", fn := fun _ => fun
  | [d1, d2] => { results := [.lit (.bool false)], args := [d1, d2] }
  | _ => none }
def IndexMatchingWrongFalsely : Prop := indexMatchingRow.holds Try.pinned (OpenSpec.ofChange indexMatchingWrong)

/-- 'cubeblaw04.IndexRepeats': WHATEVER THE INPUT: true; the input reads as it did. -/
def indexRepeatsSpec : ChangeSpec := { name := "indexRepeats", fn := fun _ => fun
  | [d1, d2] => { results := [.lit (.bool true)], args := [d1, d2] }
  | _ => none }
def indexRepeatsRow : OpenClaim := { program := "ytmfdgonjnckdhaa", sum := "e075825e96155641c0367b26b7cacb1e8644264e174606111f20df957cb33f8e", func := "cubeb/cubeblaw04.IndexRepeats", spec := "indexRepeats", inPlace := ["internal/bytealg.abigen_runtime_cmpstring", "internal/abi.NoEscape", "internal/bytealg.IndexByteString", "internal/bytealg.IndexString"], unfollowed := true, recurses := true, named := ["internal/bytealg.MaxLen"], apart := false }
def IndexRepeatsSaid : Prop := indexRepeatsRow.holds Try.pinned (OpenSpec.ofChange indexRepeatsSpec)

/-- ITS FALSE NEIGHBOUR: 'it returns false'. Refute it at one input. -/
def indexRepeatsWrong : ChangeSpec := { name := "indexRepeats", fn := fun _ => fun
  | [d1, d2] => { results := [.lit (.bool false)], args := [d1, d2] }
  | _ => none }
def IndexRepeatsWrongFalsely : Prop := indexRepeatsRow.holds Try.pinned (OpenSpec.ofChange indexRepeatsWrong)

/- THE SECOND FORM. 'bulk': how many values and letters a reading holds, each counted each time it is reached (what is shared counts as often as it is met; a slice's spare places count too). A statement '..UptoSaid' is the law's where the arguments, and the package variables that the reading takes, are together of bulk at most 1048576: NARROWER than '..Said'. Prove '..Said' where nothing that the law and all that it calls make is longer than what came in: it says more and counts as full. Else prove '..UptoSaid'. A law counts once. -/
mutual
def uptoBulk {H : Type} : DataW H → Nat
  | .lit (.string bytes) => bytes.length + 1
  | .lit _ => 1
  | .nil => 1
  | .ptr d => uptoBulk d + 1
  | .slice elems spare => uptoBulkAll elems + uptoBulkAll spare + 1
  | .agg parts => uptoBulkAll parts + 1
  | .iface _ d => uptoBulk d + 1
  | .map entries => uptoBulkEntries entries + 1
  | .held _ => 1
def uptoBulkAll {H : Type} : List (DataW H) → Nat
  | [] => 0
  | d :: r => uptoBulk d + uptoBulkAll r
def uptoBulkEntries {H : Type} : List (Lit × DataW H) → Nat
  | [] => 0
  | x :: r => uptoBulkEntry x + uptoBulkEntries r
def uptoBulkEntry {H : Type} : Lit × DataW H → Nat
  | (.string bytes, d) => bytes.length + uptoBulk d + 1
  | (_, d) => uptoBulk d + 1
 end
def uptoSmall : (H : Type) → List (DataW H) → Bool := fun _ ds => decide (uptoBulkAll ds ≤ 1048576)
def OpenSpec.upto (s : _root_.Go.ChangeSpec) : _root_.Go.OpenSpec := { _root_.Go.OpenSpec.ofChange s with cond := some uptoSmall }

/-- 'cubeblaw04.IndexSorts', WHERE WHAT IT READS IS OF BULK AT MOST 1048576: true; the input reads as it did. -/
def indexSortsUptoRow : OpenClaim := { program := "ytmfdgonjnckdhaa", sum := "e075825e96155641c0367b26b7cacb1e8644264e174606111f20df957cb33f8e", func := "cubeb/cubeblaw04.IndexSorts", spec := "indexSorts", inPlace := ["internal/bytealg.abigen_runtime_cmpstring"], unfollowed := true, recurses := true, apart := false, narrowed := true }
def IndexSortsUptoSaid : Prop := indexSortsUptoRow.holds Try.pinned (OpenSpec.upto indexSortsSpec)

/-- 'cubeblaw04.IndexMatches', WHERE WHAT IT READS IS OF BULK AT MOST 1048576: true; the input reads as it did. -/
def indexMatchesUptoRow : OpenClaim := { program := "ytmfdgonjnckdhaa", sum := "e075825e96155641c0367b26b7cacb1e8644264e174606111f20df957cb33f8e", func := "cubeb/cubeblaw04.IndexMatches", spec := "indexMatches", inPlace := ["internal/bytealg.IndexByteString", "internal/bytealg.IndexString", "internal/bytealg.abigen_runtime_cmpstring"], unfollowed := true, recurses := true, named := ["internal/bytealg.MaxLen"], apart := false, narrowed := true }
def IndexMatchesUptoSaid : Prop := indexMatchesUptoRow.holds Try.pinned (OpenSpec.upto indexMatchesSpec)

/-- 'cubeblaw04.IndexStrings', WHERE WHAT IT READS IS OF BULK AT MOST 1048576: true; the input reads as it did. -/
def indexStringsUptoRow : OpenClaim := { program := "ytmfdgonjnckdhaa", sum := "e075825e96155641c0367b26b7cacb1e8644264e174606111f20df957cb33f8e", func := "cubeb/cubeblaw04.IndexStrings", spec := "indexStrings", inPlace := ["internal/bytealg.abigen_runtime_cmpstring", "internal/bytealg.IndexByteString", "internal/bytealg.IndexString"], unfollowed := true, recurses := true, named := ["internal/bytealg.MaxLen"], apart := false, narrowed := true }
def IndexStringsUptoSaid : Prop := indexStringsUptoRow.holds Try.pinned (OpenSpec.upto indexStringsSpec)

/-- 'cubeblaw04.IndexSums', WHERE WHAT IT READS IS OF BULK AT MOST 1048576: true; the input reads as it did. -/
def indexSumsUptoRow : OpenClaim := { program := "ytmfdgonjnckdhaa", sum := "e075825e96155641c0367b26b7cacb1e8644264e174606111f20df957cb33f8e", func := "cubeb/cubeblaw04.IndexSums", spec := "indexSums", inPlace := ["internal/bytealg.abigen_runtime_cmpstring"], unfollowed := true, recurses := true, apart := false, narrowed := true }
def IndexSumsUptoSaid : Prop := indexSumsUptoRow.holds Try.pinned (OpenSpec.upto indexSumsSpec)

/-- 'cubeblaw04.IndexNobody', WHERE WHAT IT READS IS OF BULK AT MOST 1048576: true; the input reads as it did. -/
def indexNobodyUptoRow : OpenClaim := { program := "ytmfdgonjnckdhaa", sum := "e075825e96155641c0367b26b7cacb1e8644264e174606111f20df957cb33f8e", func := "cubeb/cubeblaw04.IndexNobody", spec := "indexNobody", inPlace := ["internal/bytealg.abigen_runtime_cmpstring"], unfollowed := true, recurses := true, apart := false, narrowed := true }
def IndexNobodyUptoSaid : Prop := indexNobodyUptoRow.holds Try.pinned (OpenSpec.upto indexNobodySpec)

/-- 'cubeblaw04.IndexCounts', WHERE WHAT IT READS IS OF BULK AT MOST 1048576: true; the input reads as it did. -/
def indexCountsUptoRow : OpenClaim := { program := "ytmfdgonjnckdhaa", sum := "e075825e96155641c0367b26b7cacb1e8644264e174606111f20df957cb33f8e", func := "cubeb/cubeblaw04.IndexCounts", spec := "indexCounts", inPlace := ["internal/bytealg.abigen_runtime_cmpstring", "internal/abi.NoEscape"], unfollowed := true, recurses := true, apart := false, narrowed := true }
def IndexCountsUptoSaid : Prop := indexCountsUptoRow.holds Try.pinned (OpenSpec.upto indexCountsSpec)

/-- 'cubeblaw04.IndexSteps', WHERE WHAT IT READS IS OF BULK AT MOST 1048576: true; the input reads as it did. -/
def indexStepsUptoRow : OpenClaim := { program := "ytmfdgonjnckdhaa", sum := "e075825e96155641c0367b26b7cacb1e8644264e174606111f20df957cb33f8e", func := "cubeb/cubeblaw04.IndexSteps", spec := "indexSteps", inPlace := ["internal/bytealg.abigen_runtime_cmpstring", "internal/abi.NoEscape"], unfollowed := true, recurses := true, apart := false, narrowed := true }
def IndexStepsUptoSaid : Prop := indexStepsUptoRow.holds Try.pinned (OpenSpec.upto indexStepsSpec)

/-- 'cubeblaw04.IndexRanks', WHERE WHAT IT READS IS OF BULK AT MOST 1048576: true; the input reads as it did. -/
def indexRanksUptoRow : OpenClaim := { program := "ytmfdgonjnckdhaa", sum := "e075825e96155641c0367b26b7cacb1e8644264e174606111f20df957cb33f8e", func := "cubeb/cubeblaw04.IndexRanks", spec := "indexRanks", inPlace := ["internal/bytealg.abigen_runtime_cmpstring", "internal/abi.NoEscape"], unfollowed := true, recurses := true, apart := false, narrowed := true }
def IndexRanksUptoSaid : Prop := indexRanksUptoRow.holds Try.pinned (OpenSpec.upto indexRanksSpec)

/-- 'cubeblaw04.IndexTurned', WHERE WHAT IT READS IS OF BULK AT MOST 1048576: true; the input reads as it did. -/
def indexTurnedUptoRow : OpenClaim := { program := "ytmfdgonjnckdhaa", sum := "e075825e96155641c0367b26b7cacb1e8644264e174606111f20df957cb33f8e", func := "cubeb/cubeblaw04.IndexTurned", spec := "indexTurned", inPlace := ["internal/bytealg.abigen_runtime_cmpstring", "internal/abi.NoEscape"], unfollowed := true, recurses := true, apart := false, narrowed := true }
def IndexTurnedUptoSaid : Prop := indexTurnedUptoRow.holds Try.pinned (OpenSpec.upto indexTurnedSpec)

/-- 'cubeblaw04.IndexMatching', WHERE WHAT IT READS IS OF BULK AT MOST 1048576: true; the input reads as it did. -/
def indexMatchingUptoRow : OpenClaim := { program := "ytmfdgonjnckdhaa", sum := "e075825e96155641c0367b26b7cacb1e8644264e174606111f20df957cb33f8e", func := "cubeb/cubeblaw04.IndexMatching", spec := "indexMatching", inPlace := ["internal/bytealg.IndexByteString", "internal/bytealg.IndexString", "internal/bytealg.abigen_runtime_cmpstring", "internal/abi.NoEscape"], unfollowed := true, recurses := true, named := ["internal/bytealg.MaxLen"], apart := false, narrowed := true }
def IndexMatchingUptoSaid : Prop := indexMatchingUptoRow.holds Try.pinned (OpenSpec.upto indexMatchingSpec)

/-- 'cubeblaw04.IndexRepeats', WHERE WHAT IT READS IS OF BULK AT MOST 1048576: true; the input reads as it did. -/
def indexRepeatsUptoRow : OpenClaim := { program := "ytmfdgonjnckdhaa", sum := "e075825e96155641c0367b26b7cacb1e8644264e174606111f20df957cb33f8e", func := "cubeb/cubeblaw04.IndexRepeats", spec := "indexRepeats", inPlace := ["internal/bytealg.abigen_runtime_cmpstring", "internal/abi.NoEscape", "internal/bytealg.IndexByteString", "internal/bytealg.IndexString"], unfollowed := true, recurses := true, named := ["internal/bytealg.MaxLen"], apart := false, narrowed := true }
def IndexRepeatsUptoSaid : Prop := indexRepeatsUptoRow.holds Try.pinned (OpenSpec.upto indexRepeatsSpec)

end Rows
end Go.Proofs.Ytmfdgonjnckdhaa
