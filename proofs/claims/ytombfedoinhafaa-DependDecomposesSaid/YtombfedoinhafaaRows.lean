/-
  No cell of these rows narrows 'for every input' (looked for: loops, veiled, ifaces, maps, wideKeys, modest, calm, conditions, laid).
  DERIVED. THE GIVEN ROWS OF THIS SEAT. 16 by the template 'for every input the law returns true; each argument reads behind the call as it read before'; 0 by the template 'total and deterministic' (their statements: YtombfedoinhafaaTotals.lean).
  GIVEN WITH THE SEED: the statements are not yours to turn. If you find one false, say at which input.
  Laid BY PROGRAM, IN A SANDBOX (cutbox-rows.mjs): the forced cells as the released guide's own fill.sh prints them over the translation b64ee53ab588ce27… (all of the seat's roots in one cut). By AI agents, Wed Nov 11 2026. No macro, syntax, notation, axiom, sorry.
-/
import Derived.Test.YtombfedoinhafaaChecked
import GoSem.Claim
import GoSem.ClaimJoined
import GoSem.ClaimMapViews
import Derived.JoinedTies
import Derived.KernelRfl
namespace Go.Proofs.Ytombfedoinhafaa
/- THE CELL 'sum', in the pinned program and in every row, IS THE sha256 OF THE DUMP (.gsa) THAT YtombfedoinhafaaProg.lean LOADS. Nothing in Lean hashes anything: it is a label: what it is worth is what the hold of that sum in a sandbox is worth. -/
noncomputable def Try.pinned : Pinned := { name := "ytombfedoinhafaa", sum := "b64ee53ab588ce272079b13bc6c37d72c75fb3c3f8eba9edf1799b2a3938994d", checked := Try.checked }
namespace Rows
def none {H : Type} : Left H := { results := [], args := [] }

/-- 'cubeblaw01.DependClosed': WHATEVER THE INPUT: true; the input reads as it did. -/
def dependClosedSpec : ChangeSpec := { name := "dependClosed", fn := fun _ => fun
  | [d1, d2, d3, d4] => { results := [.lit (.bool true)], args := [d1, d2, d3, d4] }
  | _ => none }
def dependClosedRow : OpenClaim := { program := "ytombfedoinhafaa", sum := "b64ee53ab588ce272079b13bc6c37d72c75fb3c3f8eba9edf1799b2a3938994d", func := "cubeb/cubeblaw01.DependClosed", spec := "dependClosed", unfollowed := true, recurses := true, apart := false }
def DependClosedSaid : Prop := dependClosedRow.holds Try.pinned (OpenSpec.ofChange dependClosedSpec)

/-- ITS FALSE NEIGHBOUR: 'it returns false'. Refute it at one input. -/
def dependClosedWrong : ChangeSpec := { name := "dependClosed", fn := fun _ => fun
  | [d1, d2, d3, d4] => { results := [.lit (.bool false)], args := [d1, d2, d3, d4] }
  | _ => none }
def DependClosedWrongFalsely : Prop := dependClosedRow.holds Try.pinned (OpenSpec.ofChange dependClosedWrong)

/-- 'cubeblaw01.DependUnion': WHATEVER THE INPUT: true; the input reads as it did. -/
def dependUnionSpec : ChangeSpec := { name := "dependUnion", fn := fun _ => fun
  | [d1, d2, d3, d4, d5] => { results := [.lit (.bool true)], args := [d1, d2, d3, d4, d5] }
  | _ => none }
def dependUnionRow : OpenClaim := { program := "ytombfedoinhafaa", sum := "b64ee53ab588ce272079b13bc6c37d72c75fb3c3f8eba9edf1799b2a3938994d", func := "cubeb/cubeblaw01.DependUnion", spec := "dependUnion", unfollowed := true, recurses := true, apart := false }
def DependUnionSaid : Prop := dependUnionRow.holds Try.pinned (OpenSpec.ofChange dependUnionSpec)

/-- ITS FALSE NEIGHBOUR: 'it returns false'. Refute it at one input. -/
def dependUnionWrong : ChangeSpec := { name := "dependUnion", fn := fun _ => fun
  | [d1, d2, d3, d4, d5] => { results := [.lit (.bool false)], args := [d1, d2, d3, d4, d5] }
  | _ => none }
def DependUnionWrongFalsely : Prop := dependUnionRow.holds Try.pinned (OpenSpec.ofChange dependUnionWrong)

/-- 'cubeblaw01.DependMinimal': WHATEVER THE INPUT: true; the input reads as it did. -/
def dependMinimalSpec : ChangeSpec := { name := "dependMinimal", fn := fun _ => fun
  | [d1, d2, d3] => { results := [.lit (.bool true)], args := [d1, d2, d3] }
  | _ => none }
def dependMinimalRow : OpenClaim := { program := "ytombfedoinhafaa", sum := "b64ee53ab588ce272079b13bc6c37d72c75fb3c3f8eba9edf1799b2a3938994d", func := "cubeb/cubeblaw01.DependMinimal", spec := "dependMinimal", unfollowed := true, recurses := true, apart := false }
def DependMinimalSaid : Prop := dependMinimalRow.holds Try.pinned (OpenSpec.ofChange dependMinimalSpec)

/-- ITS FALSE NEIGHBOUR: 'it returns false'. Refute it at one input. -/
def dependMinimalWrong : ChangeSpec := { name := "dependMinimal", fn := fun _ => fun
  | [d1, d2, d3] => { results := [.lit (.bool false)], args := [d1, d2, d3] }
  | _ => none }
def DependMinimalWrongFalsely : Prop := dependMinimalRow.holds Try.pinned (OpenSpec.ofChange dependMinimalWrong)

/-- 'cubeblaw01.DependShown': WHATEVER THE INPUT: true; the input reads as it did. -/
def dependShownSpec : ChangeSpec := { name := "dependShown", fn := fun _ => fun
  | [d1, d2, d3] => { results := [.lit (.bool true)], args := [d1, d2, d3] }
  | _ => none }
def dependShownRow : OpenClaim := { program := "ytombfedoinhafaa", sum := "b64ee53ab588ce272079b13bc6c37d72c75fb3c3f8eba9edf1799b2a3938994d", func := "cubeb/cubeblaw01.DependShown", spec := "dependShown", unfollowed := true, recurses := true, apart := false }
def DependShownSaid : Prop := dependShownRow.holds Try.pinned (OpenSpec.ofChange dependShownSpec)

/-- ITS FALSE NEIGHBOUR: 'it returns false'. Refute it at one input. -/
def dependShownWrong : ChangeSpec := { name := "dependShown", fn := fun _ => fun
  | [d1, d2, d3] => { results := [.lit (.bool false)], args := [d1, d2, d3] }
  | _ => none }
def DependShownWrongFalsely : Prop := dependShownRow.holds Try.pinned (OpenSpec.ofChange dependShownWrong)

/-- 'cubeblaw01.DependChecks': WHATEVER THE INPUT: true; the input reads as it did. -/
def dependChecksSpec : ChangeSpec := { name := "dependChecks", fn := fun _ => fun
  | [d1, d2, d3] => { results := [.lit (.bool true)], args := [d1, d2, d3] }
  | _ => none }
def dependChecksRow : OpenClaim := { program := "ytombfedoinhafaa", sum := "b64ee53ab588ce272079b13bc6c37d72c75fb3c3f8eba9edf1799b2a3938994d", func := "cubeb/cubeblaw01.DependChecks", spec := "dependChecks", unfollowed := true, recurses := true, apart := false }
def DependChecksSaid : Prop := dependChecksRow.holds Try.pinned (OpenSpec.ofChange dependChecksSpec)

/-- ITS FALSE NEIGHBOUR: 'it returns false'. Refute it at one input. -/
def dependChecksWrong : ChangeSpec := { name := "dependChecks", fn := fun _ => fun
  | [d1, d2, d3] => { results := [.lit (.bool false)], args := [d1, d2, d3] }
  | _ => none }
def DependChecksWrongFalsely : Prop := dependChecksRow.holds Try.pinned (OpenSpec.ofChange dependChecksWrong)

/-- 'cubeblaw01.DependProves': WHATEVER THE INPUT: true; the input reads as it did. -/
def dependProvesSpec : ChangeSpec := { name := "dependProves", fn := fun _ => fun
  | [d1, d2, d3] => { results := [.lit (.bool true)], args := [d1, d2, d3] }
  | _ => none }
def dependProvesRow : OpenClaim := { program := "ytombfedoinhafaa", sum := "b64ee53ab588ce272079b13bc6c37d72c75fb3c3f8eba9edf1799b2a3938994d", func := "cubeb/cubeblaw01.DependProves", spec := "dependProves", unfollowed := true, recurses := true, apart := false }
def DependProvesSaid : Prop := dependProvesRow.holds Try.pinned (OpenSpec.ofChange dependProvesSpec)

/-- ITS FALSE NEIGHBOUR: 'it returns false'. Refute it at one input. -/
def dependProvesWrong : ChangeSpec := { name := "dependProves", fn := fun _ => fun
  | [d1, d2, d3] => { results := [.lit (.bool false)], args := [d1, d2, d3] }
  | _ => none }
def DependProvesWrongFalsely : Prop := dependProvesRow.holds Try.pinned (OpenSpec.ofChange dependProvesWrong)

/-- 'cubeblaw01.DependArmstrong': WHATEVER THE INPUT: true; the input reads as it did. -/
def dependArmstrongSpec : ChangeSpec := { name := "dependArmstrong", fn := fun _ => fun
  | [d1, d2] => { results := [.lit (.bool true)], args := [d1, d2] }
  | _ => none }
def dependArmstrongRow : OpenClaim := { program := "ytombfedoinhafaa", sum := "b64ee53ab588ce272079b13bc6c37d72c75fb3c3f8eba9edf1799b2a3938994d", func := "cubeb/cubeblaw01.DependArmstrong", spec := "dependArmstrong", unfollowed := true, recurses := true, apart := false }
def DependArmstrongSaid : Prop := dependArmstrongRow.holds Try.pinned (OpenSpec.ofChange dependArmstrongSpec)

/-- ITS FALSE NEIGHBOUR: 'it returns false'. Refute it at one input. -/
def dependArmstrongWrong : ChangeSpec := { name := "dependArmstrong", fn := fun _ => fun
  | [d1, d2] => { results := [.lit (.bool false)], args := [d1, d2] }
  | _ => none }
def DependArmstrongWrongFalsely : Prop := dependArmstrongRow.holds Try.pinned (OpenSpec.ofChange dependArmstrongWrong)

/-- 'cubeblaw01.DependFollows': WHATEVER THE INPUT: true; the input reads as it did. -/
def dependFollowsSpec : ChangeSpec := { name := "dependFollows", fn := fun _ => fun
  | [d1, d2, d3] => { results := [.lit (.bool true)], args := [d1, d2, d3] }
  | _ => none }
def dependFollowsRow : OpenClaim := { program := "ytombfedoinhafaa", sum := "b64ee53ab588ce272079b13bc6c37d72c75fb3c3f8eba9edf1799b2a3938994d", func := "cubeb/cubeblaw01.DependFollows", spec := "dependFollows", unfollowed := true, recurses := true, apart := false }
def DependFollowsSaid : Prop := dependFollowsRow.holds Try.pinned (OpenSpec.ofChange dependFollowsSpec)

/-- ITS FALSE NEIGHBOUR: 'it returns false'. Refute it at one input. -/
def dependFollowsWrong : ChangeSpec := { name := "dependFollows", fn := fun _ => fun
  | [d1, d2, d3] => { results := [.lit (.bool false)], args := [d1, d2, d3] }
  | _ => none }
def DependFollowsWrongFalsely : Prop := dependFollowsRow.holds Try.pinned (OpenSpec.ofChange dependFollowsWrong)

/-- 'cubeblaw01.DependRows': WHATEVER THE INPUT: true; the input reads as it did. -/
def dependRowsSpec : ChangeSpec := { name := "dependRows", fn := fun _ => fun
  | [d1, d2, d3] => { results := [.lit (.bool true)], args := [d1, d2, d3] }
  | _ => none }
def dependRowsRow : OpenClaim := { program := "ytombfedoinhafaa", sum := "b64ee53ab588ce272079b13bc6c37d72c75fb3c3f8eba9edf1799b2a3938994d", func := "cubeb/cubeblaw01.DependRows", spec := "dependRows", unfollowed := true, recurses := true, apart := false }
def DependRowsSaid : Prop := dependRowsRow.holds Try.pinned (OpenSpec.ofChange dependRowsSpec)

/-- ITS FALSE NEIGHBOUR: 'it returns false'. Refute it at one input. -/
def dependRowsWrong : ChangeSpec := { name := "dependRows", fn := fun _ => fun
  | [d1, d2, d3] => { results := [.lit (.bool false)], args := [d1, d2, d3] }
  | _ => none }
def DependRowsWrongFalsely : Prop := dependRowsRow.holds Try.pinned (OpenSpec.ofChange dependRowsWrong)

/-- 'cubeblaw01.DependRefuted': WHATEVER THE INPUT: true; the input reads as it did. -/
def dependRefutedSpec : ChangeSpec := { name := "dependRefuted", fn := fun _ => fun
  | [d1, d2, d3] => { results := [.lit (.bool true)], args := [d1, d2, d3] }
  | _ => none }
def dependRefutedRow : OpenClaim := { program := "ytombfedoinhafaa", sum := "b64ee53ab588ce272079b13bc6c37d72c75fb3c3f8eba9edf1799b2a3938994d", func := "cubeb/cubeblaw01.DependRefuted", spec := "dependRefuted", unfollowed := true, recurses := true, apart := false }
def DependRefutedSaid : Prop := dependRefutedRow.holds Try.pinned (OpenSpec.ofChange dependRefutedSpec)

/-- ITS FALSE NEIGHBOUR: 'it returns false'. Refute it at one input. -/
def dependRefutedWrong : ChangeSpec := { name := "dependRefuted", fn := fun _ => fun
  | [d1, d2, d3] => { results := [.lit (.bool false)], args := [d1, d2, d3] }
  | _ => none }
def DependRefutedWrongFalsely : Prop := dependRefutedRow.holds Try.pinned (OpenSpec.ofChange dependRefutedWrong)

/-- 'cubeblaw01.DependSound': WHATEVER THE INPUT: true; the input reads as it did. -/
def dependSoundSpec : ChangeSpec := { name := "dependSound", fn := fun _ => fun
  | [d1, d2, d3, d4] => { results := [.lit (.bool true)], args := [d1, d2, d3, d4] }
  | _ => none }
def dependSoundRow : OpenClaim := { program := "ytombfedoinhafaa", sum := "b64ee53ab588ce272079b13bc6c37d72c75fb3c3f8eba9edf1799b2a3938994d", func := "cubeb/cubeblaw01.DependSound", spec := "dependSound", unfollowed := true, recurses := true, apart := false }
def DependSoundSaid : Prop := dependSoundRow.holds Try.pinned (OpenSpec.ofChange dependSoundSpec)

/-- ITS FALSE NEIGHBOUR: 'it returns false'. Refute it at one input. -/
def dependSoundWrong : ChangeSpec := { name := "dependSound", fn := fun _ => fun
  | [d1, d2, d3, d4] => { results := [.lit (.bool false)], args := [d1, d2, d3, d4] }
  | _ => none }
def DependSoundWrongFalsely : Prop := dependSoundRow.holds Try.pinned (OpenSpec.ofChange dependSoundWrong)

/-- 'cubeblaw01.DependDecomposes': WHATEVER THE INPUT: true; the input reads as it did. -/
def dependDecomposesSpec : ChangeSpec := { name := "dependDecomposes", fn := fun _ => fun
  | [d1, d2, d3] => { results := [.lit (.bool true)], args := [d1, d2, d3] }
  | _ => none }
def dependDecomposesRow : OpenClaim := { program := "ytombfedoinhafaa", sum := "b64ee53ab588ce272079b13bc6c37d72c75fb3c3f8eba9edf1799b2a3938994d", func := "cubeb/cubeblaw01.DependDecomposes", spec := "dependDecomposes", inPlace := ["slices.overlaps[int]"], unfollowed := true, recurses := true, apart := false }
def DependDecomposesSaid : Prop := dependDecomposesRow.holds Try.pinned (OpenSpec.ofChange dependDecomposesSpec)

/-- ITS FALSE NEIGHBOUR: 'it returns false'. Refute it at one input. -/
def dependDecomposesWrong : ChangeSpec := { name := "dependDecomposes", fn := fun _ => fun
  | [d1, d2, d3] => { results := [.lit (.bool false)], args := [d1, d2, d3] }
  | _ => none }
def DependDecomposesWrongFalsely : Prop := dependDecomposesRow.holds Try.pinned (OpenSpec.ofChange dependDecomposesWrong)

/-- 'cubeblaw01.DependBase': WHATEVER THE INPUT: true; the input reads as it did. -/
def dependBaseSpec : ChangeSpec := { name := "dependBase", fn := fun _ => fun
  | [d1, d2, d3] => { results := [.lit (.bool true)], args := [d1, d2, d3] }
  | _ => none }
def dependBaseRow : OpenClaim := { program := "ytombfedoinhafaa", sum := "b64ee53ab588ce272079b13bc6c37d72c75fb3c3f8eba9edf1799b2a3938994d", func := "cubeb/cubeblaw01.DependBase", spec := "dependBase", unfollowed := true, recurses := true, apart := false }
def DependBaseSaid : Prop := dependBaseRow.holds Try.pinned (OpenSpec.ofChange dependBaseSpec)

/-- ITS FALSE NEIGHBOUR: 'it returns false'. Refute it at one input. -/
def dependBaseWrong : ChangeSpec := { name := "dependBase", fn := fun _ => fun
  | [d1, d2, d3] => { results := [.lit (.bool false)], args := [d1, d2, d3] }
  | _ => none }
def DependBaseWrongFalsely : Prop := dependBaseRow.holds Try.pinned (OpenSpec.ofChange dependBaseWrong)

/-- 'cubeblaw01.DependKeys': WHATEVER THE INPUT: true; the input reads as it did. -/
def dependKeysSpec : ChangeSpec := { name := "dependKeys", fn := fun _ => fun
  | [d1, d2] => { results := [.lit (.bool true)], args := [d1, d2] }
  | _ => none }
def dependKeysRow : OpenClaim := { program := "ytombfedoinhafaa", sum := "b64ee53ab588ce272079b13bc6c37d72c75fb3c3f8eba9edf1799b2a3938994d", func := "cubeb/cubeblaw01.DependKeys", spec := "dependKeys", unfollowed := true, recurses := true, apart := false }
def DependKeysSaid : Prop := dependKeysRow.holds Try.pinned (OpenSpec.ofChange dependKeysSpec)

/-- ITS FALSE NEIGHBOUR: 'it returns false'. Refute it at one input. -/
def dependKeysWrong : ChangeSpec := { name := "dependKeys", fn := fun _ => fun
  | [d1, d2] => { results := [.lit (.bool false)], args := [d1, d2] }
  | _ => none }
def DependKeysWrongFalsely : Prop := dependKeysRow.holds Try.pinned (OpenSpec.ofChange dependKeysWrong)

/-- 'cubeblaw01.DependMined': WHATEVER THE INPUT: true; the input reads as it did. -/
def dependMinedSpec : ChangeSpec := { name := "dependMined", fn := fun _ => fun
  | [d1, d2, d3] => { results := [.lit (.bool true)], args := [d1, d2, d3] }
  | _ => none }
def dependMinedRow : OpenClaim := { program := "ytombfedoinhafaa", sum := "b64ee53ab588ce272079b13bc6c37d72c75fb3c3f8eba9edf1799b2a3938994d", func := "cubeb/cubeblaw01.DependMined", spec := "dependMined", unfollowed := true, recurses := true, apart := false }
def DependMinedSaid : Prop := dependMinedRow.holds Try.pinned (OpenSpec.ofChange dependMinedSpec)

/-- ITS FALSE NEIGHBOUR: 'it returns false'. Refute it at one input. -/
def dependMinedWrong : ChangeSpec := { name := "dependMined", fn := fun _ => fun
  | [d1, d2, d3] => { results := [.lit (.bool false)], args := [d1, d2, d3] }
  | _ => none }
def DependMinedWrongFalsely : Prop := dependMinedRow.holds Try.pinned (OpenSpec.ofChange dependMinedWrong)

/-- 'cubeblaw01.DependTables': WHATEVER THE INPUT: true; the input reads as it did. -/
def dependTablesSpec : ChangeSpec := { name := "dependTables", fn := fun _ => fun
  | [d1, d2, d3] => { results := [.lit (.bool true)], args := [d1, d2, d3] }
  | _ => none }
def dependTablesRow : OpenClaim := { program := "ytombfedoinhafaa", sum := "b64ee53ab588ce272079b13bc6c37d72c75fb3c3f8eba9edf1799b2a3938994d", func := "cubeb/cubeblaw01.DependTables", spec := "dependTables", unfollowed := true, recurses := true, apart := false }
def DependTablesSaid : Prop := dependTablesRow.holds Try.pinned (OpenSpec.ofChange dependTablesSpec)

/-- ITS FALSE NEIGHBOUR: 'it returns false'. Refute it at one input. -/
def dependTablesWrong : ChangeSpec := { name := "dependTables", fn := fun _ => fun
  | [d1, d2, d3] => { results := [.lit (.bool false)], args := [d1, d2, d3] }
  | _ => none }
def DependTablesWrongFalsely : Prop := dependTablesRow.holds Try.pinned (OpenSpec.ofChange dependTablesWrong)

/- THE SECOND FORM. 'bulk': how many values and letters a reading holds, each counted each time it is reached (what is shared counts as often as it is met; a slice's spare places count too). A statement '..UptoSaid' is the law's where the arguments, and the package variables that the reading takes, are together of bulk at most 1048576: NARROWER than '..Said'. Prove '..Said' where nothing that the law and all that it calls make is longer than what came in: it says more and counts as full. Else prove '..UptoSaid'. A law counts once. -/
mutual
def uptoBulk {H : Type} : DataW H → Nat
  | .lit (.string bytes) => bytes.length + 1
  | .lit _ => 1
  | .nil => 1
  | .ptr d => uptoBulk d + 1
  | .slice elems spare => uptoBulkAll elems + uptoBulkAll spare + 1
  | .agg parts => uptoBulkAll parts + 1
  | .iface _ d => uptoBulk d + 1
  | .map entries => uptoBulkEntries entries + 1
  | .held _ => 1
def uptoBulkAll {H : Type} : List (DataW H) → Nat
  | [] => 0
  | d :: r => uptoBulk d + uptoBulkAll r
def uptoBulkEntries {H : Type} : List (Lit × DataW H) → Nat
  | [] => 0
  | x :: r => uptoBulkEntry x + uptoBulkEntries r
def uptoBulkEntry {H : Type} : Lit × DataW H → Nat
  | (.string bytes, d) => bytes.length + uptoBulk d + 1
  | (_, d) => uptoBulk d + 1
 end
def uptoSmall : (H : Type) → List (DataW H) → Bool := fun _ ds => decide (uptoBulkAll ds ≤ 1048576)
def OpenSpec.upto (s : _root_.Go.ChangeSpec) : _root_.Go.OpenSpec := { _root_.Go.OpenSpec.ofChange s with cond := some uptoSmall }

/-- 'cubeblaw01.DependClosed', WHERE WHAT IT READS IS OF BULK AT MOST 1048576: true; the input reads as it did. -/
def dependClosedUptoRow : OpenClaim := { program := "ytombfedoinhafaa", sum := "b64ee53ab588ce272079b13bc6c37d72c75fb3c3f8eba9edf1799b2a3938994d", func := "cubeb/cubeblaw01.DependClosed", spec := "dependClosed", unfollowed := true, recurses := true, apart := false, narrowed := true }
def DependClosedUptoSaid : Prop := dependClosedUptoRow.holds Try.pinned (OpenSpec.upto dependClosedSpec)

/-- 'cubeblaw01.DependUnion', WHERE WHAT IT READS IS OF BULK AT MOST 1048576: true; the input reads as it did. -/
def dependUnionUptoRow : OpenClaim := { program := "ytombfedoinhafaa", sum := "b64ee53ab588ce272079b13bc6c37d72c75fb3c3f8eba9edf1799b2a3938994d", func := "cubeb/cubeblaw01.DependUnion", spec := "dependUnion", unfollowed := true, recurses := true, apart := false, narrowed := true }
def DependUnionUptoSaid : Prop := dependUnionUptoRow.holds Try.pinned (OpenSpec.upto dependUnionSpec)

/-- 'cubeblaw01.DependMinimal', WHERE WHAT IT READS IS OF BULK AT MOST 1048576: true; the input reads as it did. -/
def dependMinimalUptoRow : OpenClaim := { program := "ytombfedoinhafaa", sum := "b64ee53ab588ce272079b13bc6c37d72c75fb3c3f8eba9edf1799b2a3938994d", func := "cubeb/cubeblaw01.DependMinimal", spec := "dependMinimal", unfollowed := true, recurses := true, apart := false, narrowed := true }
def DependMinimalUptoSaid : Prop := dependMinimalUptoRow.holds Try.pinned (OpenSpec.upto dependMinimalSpec)

/-- 'cubeblaw01.DependShown', WHERE WHAT IT READS IS OF BULK AT MOST 1048576: true; the input reads as it did. -/
def dependShownUptoRow : OpenClaim := { program := "ytombfedoinhafaa", sum := "b64ee53ab588ce272079b13bc6c37d72c75fb3c3f8eba9edf1799b2a3938994d", func := "cubeb/cubeblaw01.DependShown", spec := "dependShown", unfollowed := true, recurses := true, apart := false, narrowed := true }
def DependShownUptoSaid : Prop := dependShownUptoRow.holds Try.pinned (OpenSpec.upto dependShownSpec)

/-- 'cubeblaw01.DependChecks', WHERE WHAT IT READS IS OF BULK AT MOST 1048576: true; the input reads as it did. -/
def dependChecksUptoRow : OpenClaim := { program := "ytombfedoinhafaa", sum := "b64ee53ab588ce272079b13bc6c37d72c75fb3c3f8eba9edf1799b2a3938994d", func := "cubeb/cubeblaw01.DependChecks", spec := "dependChecks", unfollowed := true, recurses := true, apart := false, narrowed := true }
def DependChecksUptoSaid : Prop := dependChecksUptoRow.holds Try.pinned (OpenSpec.upto dependChecksSpec)

/-- 'cubeblaw01.DependProves', WHERE WHAT IT READS IS OF BULK AT MOST 1048576: true; the input reads as it did. -/
def dependProvesUptoRow : OpenClaim := { program := "ytombfedoinhafaa", sum := "b64ee53ab588ce272079b13bc6c37d72c75fb3c3f8eba9edf1799b2a3938994d", func := "cubeb/cubeblaw01.DependProves", spec := "dependProves", unfollowed := true, recurses := true, apart := false, narrowed := true }
def DependProvesUptoSaid : Prop := dependProvesUptoRow.holds Try.pinned (OpenSpec.upto dependProvesSpec)

/-- 'cubeblaw01.DependArmstrong', WHERE WHAT IT READS IS OF BULK AT MOST 1048576: true; the input reads as it did. -/
def dependArmstrongUptoRow : OpenClaim := { program := "ytombfedoinhafaa", sum := "b64ee53ab588ce272079b13bc6c37d72c75fb3c3f8eba9edf1799b2a3938994d", func := "cubeb/cubeblaw01.DependArmstrong", spec := "dependArmstrong", unfollowed := true, recurses := true, apart := false, narrowed := true }
def DependArmstrongUptoSaid : Prop := dependArmstrongUptoRow.holds Try.pinned (OpenSpec.upto dependArmstrongSpec)

/-- 'cubeblaw01.DependFollows', WHERE WHAT IT READS IS OF BULK AT MOST 1048576: true; the input reads as it did. -/
def dependFollowsUptoRow : OpenClaim := { program := "ytombfedoinhafaa", sum := "b64ee53ab588ce272079b13bc6c37d72c75fb3c3f8eba9edf1799b2a3938994d", func := "cubeb/cubeblaw01.DependFollows", spec := "dependFollows", unfollowed := true, recurses := true, apart := false, narrowed := true }
def DependFollowsUptoSaid : Prop := dependFollowsUptoRow.holds Try.pinned (OpenSpec.upto dependFollowsSpec)

/-- 'cubeblaw01.DependRows', WHERE WHAT IT READS IS OF BULK AT MOST 1048576: true; the input reads as it did. -/
def dependRowsUptoRow : OpenClaim := { program := "ytombfedoinhafaa", sum := "b64ee53ab588ce272079b13bc6c37d72c75fb3c3f8eba9edf1799b2a3938994d", func := "cubeb/cubeblaw01.DependRows", spec := "dependRows", unfollowed := true, recurses := true, apart := false, narrowed := true }
def DependRowsUptoSaid : Prop := dependRowsUptoRow.holds Try.pinned (OpenSpec.upto dependRowsSpec)

/-- 'cubeblaw01.DependRefuted', WHERE WHAT IT READS IS OF BULK AT MOST 1048576: true; the input reads as it did. -/
def dependRefutedUptoRow : OpenClaim := { program := "ytombfedoinhafaa", sum := "b64ee53ab588ce272079b13bc6c37d72c75fb3c3f8eba9edf1799b2a3938994d", func := "cubeb/cubeblaw01.DependRefuted", spec := "dependRefuted", unfollowed := true, recurses := true, apart := false, narrowed := true }
def DependRefutedUptoSaid : Prop := dependRefutedUptoRow.holds Try.pinned (OpenSpec.upto dependRefutedSpec)

/-- 'cubeblaw01.DependSound', WHERE WHAT IT READS IS OF BULK AT MOST 1048576: true; the input reads as it did. -/
def dependSoundUptoRow : OpenClaim := { program := "ytombfedoinhafaa", sum := "b64ee53ab588ce272079b13bc6c37d72c75fb3c3f8eba9edf1799b2a3938994d", func := "cubeb/cubeblaw01.DependSound", spec := "dependSound", unfollowed := true, recurses := true, apart := false, narrowed := true }
def DependSoundUptoSaid : Prop := dependSoundUptoRow.holds Try.pinned (OpenSpec.upto dependSoundSpec)

/-- 'cubeblaw01.DependDecomposes', WHERE WHAT IT READS IS OF BULK AT MOST 1048576: true; the input reads as it did. -/
def dependDecomposesUptoRow : OpenClaim := { program := "ytombfedoinhafaa", sum := "b64ee53ab588ce272079b13bc6c37d72c75fb3c3f8eba9edf1799b2a3938994d", func := "cubeb/cubeblaw01.DependDecomposes", spec := "dependDecomposes", inPlace := ["slices.overlaps[int]"], unfollowed := true, recurses := true, apart := false, narrowed := true }
def DependDecomposesUptoSaid : Prop := dependDecomposesUptoRow.holds Try.pinned (OpenSpec.upto dependDecomposesSpec)

/-- 'cubeblaw01.DependBase', WHERE WHAT IT READS IS OF BULK AT MOST 1048576: true; the input reads as it did. -/
def dependBaseUptoRow : OpenClaim := { program := "ytombfedoinhafaa", sum := "b64ee53ab588ce272079b13bc6c37d72c75fb3c3f8eba9edf1799b2a3938994d", func := "cubeb/cubeblaw01.DependBase", spec := "dependBase", unfollowed := true, recurses := true, apart := false, narrowed := true }
def DependBaseUptoSaid : Prop := dependBaseUptoRow.holds Try.pinned (OpenSpec.upto dependBaseSpec)

/-- 'cubeblaw01.DependKeys', WHERE WHAT IT READS IS OF BULK AT MOST 1048576: true; the input reads as it did. -/
def dependKeysUptoRow : OpenClaim := { program := "ytombfedoinhafaa", sum := "b64ee53ab588ce272079b13bc6c37d72c75fb3c3f8eba9edf1799b2a3938994d", func := "cubeb/cubeblaw01.DependKeys", spec := "dependKeys", unfollowed := true, recurses := true, apart := false, narrowed := true }
def DependKeysUptoSaid : Prop := dependKeysUptoRow.holds Try.pinned (OpenSpec.upto dependKeysSpec)

/-- 'cubeblaw01.DependMined', WHERE WHAT IT READS IS OF BULK AT MOST 1048576: true; the input reads as it did. -/
def dependMinedUptoRow : OpenClaim := { program := "ytombfedoinhafaa", sum := "b64ee53ab588ce272079b13bc6c37d72c75fb3c3f8eba9edf1799b2a3938994d", func := "cubeb/cubeblaw01.DependMined", spec := "dependMined", unfollowed := true, recurses := true, apart := false, narrowed := true }
def DependMinedUptoSaid : Prop := dependMinedUptoRow.holds Try.pinned (OpenSpec.upto dependMinedSpec)

/-- 'cubeblaw01.DependTables', WHERE WHAT IT READS IS OF BULK AT MOST 1048576: true; the input reads as it did. -/
def dependTablesUptoRow : OpenClaim := { program := "ytombfedoinhafaa", sum := "b64ee53ab588ce272079b13bc6c37d72c75fb3c3f8eba9edf1799b2a3938994d", func := "cubeb/cubeblaw01.DependTables", spec := "dependTables", unfollowed := true, recurses := true, apart := false, narrowed := true }
def DependTablesUptoSaid : Prop := dependTablesUptoRow.holds Try.pinned (OpenSpec.upto dependTablesSpec)

end Rows
end Go.Proofs.Ytombfedoinhafaa
