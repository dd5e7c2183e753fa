/-
  NARROWER THAN 'FOR EVERY INPUT', by the rows' own cells (each row's printed sentence says how): RulesChecks: loops · RulesShown: loops.
  DERIVED. THE GIVEN ROWS OF THIS SEAT. 14 by the template 'for every input the law returns true; each argument reads behind the call as it read before'; 0 by the template 'total and deterministic' (their statements: YtdghpfejmlpjhaaTotals.lean).
  GIVEN WITH THE SEED: the statements are not yours to turn. If you find one false, say at which input.
  Laid BY PROGRAM, IN A SANDBOX (cutbox-rows.mjs): the forced cells as the released guide's own fill.sh prints them over the translation bda6fbb6f46cc081… (all of the seat's roots in one cut). By AI agents, Wed Nov 11 2026. No macro, syntax, notation, axiom, sorry.
-/
import Derived.Test.YtdghpfejmlpjhaaChecked
import GoSem.Claim
import GoSem.ClaimJoined
import GoSem.ClaimMapViews
import Derived.JoinedTies
import Derived.KernelRfl
namespace Go.Proofs.Ytdghpfejmlpjhaa
/- THE CELL 'sum', in the pinned program and in every row, IS THE sha256 OF THE DUMP (.gsa) THAT YtdghpfejmlpjhaaProg.lean LOADS. Nothing in Lean hashes anything: it is a label: what it is worth is what the hold of that sum in a sandbox is worth. -/
noncomputable def Try.pinned : Pinned := { name := "ytdghpfejmlpjhaa", sum := "bda6fbb6f46cc081eb38643752b697c1e3a7a9c2ccf2f54ea442282a3761d99f", checked := Try.checked }
namespace Rows
def none {H : Type} : Left H := { results := [], args := [] }

/-- 'cubeblaw03.RulesModels': WHATEVER THE INPUT: true; the input reads as it did. -/
def rulesModelsSpec : ChangeSpec := { name := "rulesModels", fn := fun _ => fun
  | [d1, d2] => { results := [.lit (.bool true)], args := [d1, d2] }
  | _ => none }
def rulesModelsRow : OpenClaim := { program := "ytdghpfejmlpjhaa", sum := "bda6fbb6f46cc081eb38643752b697c1e3a7a9c2ccf2f54ea442282a3761d99f", func := "cubeb/cubeblaw03.RulesModels", spec := "rulesModels", unfollowed := true, recurses := true, plainKeys := false, apart := false }
def RulesModelsSaid : Prop := rulesModelsRow.holds Try.pinned (OpenSpec.ofChange rulesModelsSpec)

/-- ITS FALSE NEIGHBOUR: 'it returns false'. Refute it at one input. -/
def rulesModelsWrong : ChangeSpec := { name := "rulesModels", fn := fun _ => fun
  | [d1, d2] => { results := [.lit (.bool false)], args := [d1, d2] }
  | _ => none }
def RulesModelsWrongFalsely : Prop := rulesModelsRow.holds Try.pinned (OpenSpec.ofChange rulesModelsWrong)

/-- 'cubeblaw03.RulesAgain': WHATEVER THE INPUT: true; the input reads as it did. -/
def rulesAgainSpec : ChangeSpec := { name := "rulesAgain", fn := fun _ => fun
  | [d1, d2] => { results := [.lit (.bool true)], args := [d1, d2] }
  | _ => none }
def rulesAgainRow : OpenClaim := { program := "ytdghpfejmlpjhaa", sum := "bda6fbb6f46cc081eb38643752b697c1e3a7a9c2ccf2f54ea442282a3761d99f", func := "cubeb/cubeblaw03.RulesAgain", spec := "rulesAgain", unfollowed := true, recurses := true, plainKeys := false, apart := false }
def RulesAgainSaid : Prop := rulesAgainRow.holds Try.pinned (OpenSpec.ofChange rulesAgainSpec)

/-- ITS FALSE NEIGHBOUR: 'it returns false'. Refute it at one input. -/
def rulesAgainWrong : ChangeSpec := { name := "rulesAgain", fn := fun _ => fun
  | [d1, d2] => { results := [.lit (.bool false)], args := [d1, d2] }
  | _ => none }
def RulesAgainWrongFalsely : Prop := rulesAgainRow.holds Try.pinned (OpenSpec.ofChange rulesAgainWrong)

/-- 'cubeblaw03.RulesMore': WHATEVER THE INPUT: true; the input reads as it did. -/
def rulesMoreSpec : ChangeSpec := { name := "rulesMore", fn := fun _ => fun
  | [d1, d2, d3] => { results := [.lit (.bool true)], args := [d1, d2, d3] }
  | _ => none }
def rulesMoreRow : OpenClaim := { program := "ytdghpfejmlpjhaa", sum := "bda6fbb6f46cc081eb38643752b697c1e3a7a9c2ccf2f54ea442282a3761d99f", func := "cubeb/cubeblaw03.RulesMore", spec := "rulesMore", unfollowed := true, recurses := true, plainKeys := false, apart := false }
def RulesMoreSaid : Prop := rulesMoreRow.holds Try.pinned (OpenSpec.ofChange rulesMoreSpec)

/-- ITS FALSE NEIGHBOUR: 'it returns false'. Refute it at one input. -/
def rulesMoreWrong : ChangeSpec := { name := "rulesMore", fn := fun _ => fun
  | [d1, d2, d3] => { results := [.lit (.bool false)], args := [d1, d2, d3] }
  | _ => none }
def RulesMoreWrongFalsely : Prop := rulesMoreRow.holds Try.pinned (OpenSpec.ofChange rulesMoreWrong)

/-- 'cubeblaw03.RulesFounded': WHATEVER THE INPUT: true; the input reads as it did. -/
def rulesFoundedSpec : ChangeSpec := { name := "rulesFounded", fn := fun _ => fun
  | [d1, d2] => { results := [.lit (.bool true)], args := [d1, d2] }
  | _ => none }
def rulesFoundedRow : OpenClaim := { program := "ytdghpfejmlpjhaa", sum := "bda6fbb6f46cc081eb38643752b697c1e3a7a9c2ccf2f54ea442282a3761d99f", func := "cubeb/cubeblaw03.RulesFounded", spec := "rulesFounded", unfollowed := true, recurses := true, plainKeys := false, apart := false }
def RulesFoundedSaid : Prop := rulesFoundedRow.holds Try.pinned (OpenSpec.ofChange rulesFoundedSpec)

/-- ITS FALSE NEIGHBOUR: 'it returns false'. Refute it at one input. -/
def rulesFoundedWrong : ChangeSpec := { name := "rulesFounded", fn := fun _ => fun
  | [d1, d2] => { results := [.lit (.bool false)], args := [d1, d2] }
  | _ => none }
def RulesFoundedWrongFalsely : Prop := rulesFoundedRow.holds Try.pinned (OpenSpec.ofChange rulesFoundedWrong)

/-- 'cubeblaw03.RulesSettled': WHATEVER THE INPUT: true; the input reads as it did. -/
def rulesSettledSpec : ChangeSpec := { name := "rulesSettled", fn := fun _ => fun
  | [d1, d2] => { results := [.lit (.bool true)], args := [d1, d2] }
  | _ => none }
def rulesSettledRow : OpenClaim := { program := "ytdghpfejmlpjhaa", sum := "bda6fbb6f46cc081eb38643752b697c1e3a7a9c2ccf2f54ea442282a3761d99f", func := "cubeb/cubeblaw03.RulesSettled", spec := "rulesSettled", unfollowed := true, recurses := true, plainKeys := false, apart := false }
def RulesSettledSaid : Prop := rulesSettledRow.holds Try.pinned (OpenSpec.ofChange rulesSettledSpec)

/-- ITS FALSE NEIGHBOUR: 'it returns false'. Refute it at one input. -/
def rulesSettledWrong : ChangeSpec := { name := "rulesSettled", fn := fun _ => fun
  | [d1, d2] => { results := [.lit (.bool false)], args := [d1, d2] }
  | _ => none }
def RulesSettledWrongFalsely : Prop := rulesSettledRow.holds Try.pinned (OpenSpec.ofChange rulesSettledWrong)

/-- 'cubeblaw03.RulesTurned': WHATEVER THE INPUT: true; the input reads as it did. -/
def rulesTurnedSpec : ChangeSpec := { name := "rulesTurned", fn := fun _ => fun
  | [d1, d2, d3] => { results := [.lit (.bool true)], args := [d1, d2, d3] }
  | _ => none }
def rulesTurnedRow : OpenClaim := { program := "ytdghpfejmlpjhaa", sum := "bda6fbb6f46cc081eb38643752b697c1e3a7a9c2ccf2f54ea442282a3761d99f", func := "cubeb/cubeblaw03.RulesTurned", spec := "rulesTurned", unfollowed := true, recurses := true, plainKeys := false, apart := false }
def RulesTurnedSaid : Prop := rulesTurnedRow.holds Try.pinned (OpenSpec.ofChange rulesTurnedSpec)

/-- ITS FALSE NEIGHBOUR: 'it returns false'. Refute it at one input. -/
def rulesTurnedWrong : ChangeSpec := { name := "rulesTurned", fn := fun _ => fun
  | [d1, d2, d3] => { results := [.lit (.bool false)], args := [d1, d2, d3] }
  | _ => none }
def RulesTurnedWrongFalsely : Prop := rulesTurnedRow.holds Try.pinned (OpenSpec.ofChange rulesTurnedWrong)

/-- 'cubeblaw03.RulesSources': WHATEVER THE INPUT: true; the input reads as it did. -/
def rulesSourcesSpec : ChangeSpec := { name := "rulesSources", fn := fun _ => fun
  | [d1, d2, d3] => { results := [.lit (.bool true)], args := [d1, d2, d3] }
  | _ => none }
def rulesSourcesRow : OpenClaim := { program := "ytdghpfejmlpjhaa", sum := "bda6fbb6f46cc081eb38643752b697c1e3a7a9c2ccf2f54ea442282a3761d99f", func := "cubeb/cubeblaw03.RulesSources", spec := "rulesSources", unfollowed := true, recurses := true, plainKeys := false, apart := false }
def RulesSourcesSaid : Prop := rulesSourcesRow.holds Try.pinned (OpenSpec.ofChange rulesSourcesSpec)

/-- ITS FALSE NEIGHBOUR: 'it returns false'. Refute it at one input. -/
def rulesSourcesWrong : ChangeSpec := { name := "rulesSources", fn := fun _ => fun
  | [d1, d2, d3] => { results := [.lit (.bool false)], args := [d1, d2, d3] }
  | _ => none }
def RulesSourcesWrongFalsely : Prop := rulesSourcesRow.holds Try.pinned (OpenSpec.ofChange rulesSourcesWrong)

/-- 'cubeblaw03.RulesEnough': WHATEVER THE INPUT: true; the input reads as it did. -/
def rulesEnoughSpec : ChangeSpec := { name := "rulesEnough", fn := fun _ => fun
  | [d1, d2, d3, d4] => { results := [.lit (.bool true)], args := [d1, d2, d3, d4] }
  | _ => none }
def rulesEnoughRow : OpenClaim := { program := "ytdghpfejmlpjhaa", sum := "bda6fbb6f46cc081eb38643752b697c1e3a7a9c2ccf2f54ea442282a3761d99f", func := "cubeb/cubeblaw03.RulesEnough", spec := "rulesEnough", unfollowed := true, recurses := true, plainKeys := false, apart := false }
def RulesEnoughSaid : Prop := rulesEnoughRow.holds Try.pinned (OpenSpec.ofChange rulesEnoughSpec)

/-- ITS FALSE NEIGHBOUR: 'it returns false'. Refute it at one input. -/
def rulesEnoughWrong : ChangeSpec := { name := "rulesEnough", fn := fun _ => fun
  | [d1, d2, d3, d4] => { results := [.lit (.bool false)], args := [d1, d2, d3, d4] }
  | _ => none }
def RulesEnoughWrongFalsely : Prop := rulesEnoughRow.holds Try.pinned (OpenSpec.ofChange rulesEnoughWrong)

/-- 'cubeblaw03.RulesStrata': WHATEVER THE INPUT: true; the input reads as it did. -/
def rulesStrataSpec : ChangeSpec := { name := "rulesStrata", fn := fun _ => fun
  | [d1, d2] => { results := [.lit (.bool true)], args := [d1, d2] }
  | _ => none }
def rulesStrataRow : OpenClaim := { program := "ytdghpfejmlpjhaa", sum := "bda6fbb6f46cc081eb38643752b697c1e3a7a9c2ccf2f54ea442282a3761d99f", func := "cubeb/cubeblaw03.RulesStrata", spec := "rulesStrata", unfollowed := true, recurses := true, plainKeys := false, apart := false }
def RulesStrataSaid : Prop := rulesStrataRow.holds Try.pinned (OpenSpec.ofChange rulesStrataSpec)

/-- ITS FALSE NEIGHBOUR: 'it returns false'. Refute it at one input. -/
def rulesStrataWrong : ChangeSpec := { name := "rulesStrata", fn := fun _ => fun
  | [d1, d2] => { results := [.lit (.bool false)], args := [d1, d2] }
  | _ => none }
def RulesStrataWrongFalsely : Prop := rulesStrataRow.holds Try.pinned (OpenSpec.ofChange rulesStrataWrong)

/-- 'cubeblaw03.RulesNeeded': WHATEVER THE INPUT: true; the input reads as it did. -/
def rulesNeededSpec : ChangeSpec := { name := "rulesNeeded", fn := fun _ => fun
  | [d1, d2, d3] => { results := [.lit (.bool true)], args := [d1, d2, d3] }
  | _ => none }
def rulesNeededRow : OpenClaim := { program := "ytdghpfejmlpjhaa", sum := "bda6fbb6f46cc081eb38643752b697c1e3a7a9c2ccf2f54ea442282a3761d99f", func := "cubeb/cubeblaw03.RulesNeeded", spec := "rulesNeeded", unfollowed := true, recurses := true, plainKeys := false, apart := false }
def RulesNeededSaid : Prop := rulesNeededRow.holds Try.pinned (OpenSpec.ofChange rulesNeededSpec)

/-- ITS FALSE NEIGHBOUR: 'it returns false'. Refute it at one input. -/
def rulesNeededWrong : ChangeSpec := { name := "rulesNeeded", fn := fun _ => fun
  | [d1, d2, d3] => { results := [.lit (.bool false)], args := [d1, d2, d3] }
  | _ => none }
def RulesNeededWrongFalsely : Prop := rulesNeededRow.holds Try.pinned (OpenSpec.ofChange rulesNeededWrong)

/-- 'cubeblaw03.RulesProves': WHATEVER THE INPUT: true; the input reads as it did. -/
def rulesProvesSpec : ChangeSpec := { name := "rulesProves", fn := fun _ => fun
  | [d1, d2, d3] => { results := [.lit (.bool true)], args := [d1, d2, d3] }
  | _ => none }
def rulesProvesRow : OpenClaim := { program := "ytdghpfejmlpjhaa", sum := "bda6fbb6f46cc081eb38643752b697c1e3a7a9c2ccf2f54ea442282a3761d99f", func := "cubeb/cubeblaw03.RulesProves", spec := "rulesProves", unfollowed := true, recurses := true, plainKeys := false, apart := false }
def RulesProvesSaid : Prop := rulesProvesRow.holds Try.pinned (OpenSpec.ofChange rulesProvesSpec)

/-- ITS FALSE NEIGHBOUR: 'it returns false'. Refute it at one input. -/
def rulesProvesWrong : ChangeSpec := { name := "rulesProves", fn := fun _ => fun
  | [d1, d2, d3] => { results := [.lit (.bool false)], args := [d1, d2, d3] }
  | _ => none }
def RulesProvesWrongFalsely : Prop := rulesProvesRow.holds Try.pinned (OpenSpec.ofChange rulesProvesWrong)

/-- 'cubeblaw03.RulesClosed': WHATEVER THE INPUT: true; the input reads as it did. -/
def rulesClosedSpec : ChangeSpec := { name := "rulesClosed", fn := fun _ => fun
  | [d1, d2, d3] => { results := [.lit (.bool true)], args := [d1, d2, d3] }
  | _ => none }
def rulesClosedRow : OpenClaim := { program := "ytdghpfejmlpjhaa", sum := "bda6fbb6f46cc081eb38643752b697c1e3a7a9c2ccf2f54ea442282a3761d99f", func := "cubeb/cubeblaw03.RulesClosed", spec := "rulesClosed", unfollowed := true, recurses := true, plainKeys := false, apart := false }
def RulesClosedSaid : Prop := rulesClosedRow.holds Try.pinned (OpenSpec.ofChange rulesClosedSpec)

/-- ITS FALSE NEIGHBOUR: 'it returns false'. Refute it at one input. -/
def rulesClosedWrong : ChangeSpec := { name := "rulesClosed", fn := fun _ => fun
  | [d1, d2, d3] => { results := [.lit (.bool false)], args := [d1, d2, d3] }
  | _ => none }
def RulesClosedWrongFalsely : Prop := rulesClosedRow.holds Try.pinned (OpenSpec.ofChange rulesClosedWrong)

/-- 'cubeblaw03.RulesChecks': WHATEVER THE INPUT: true; the input reads as it did. -/
def rulesChecksSpec : ChangeSpec := { name := "rulesChecks", fn := fun _ => fun
  | [d1, d2, d3] => { results := [.lit (.bool true)], args := [d1, d2, d3] }
  | _ => none }
def rulesChecksRow : OpenClaim := { program := "ytdghpfejmlpjhaa", sum := "bda6fbb6f46cc081eb38643752b697c1e3a7a9c2ccf2f54ea442282a3761d99f", func := "cubeb/cubeblaw03.RulesChecks", spec := "rulesChecks", unfollowed := true, recurses := true, loops := true, plainKeys := false, apart := false }
def RulesChecksSaid : Prop := rulesChecksRow.holds Try.pinned (OpenSpec.ofChange rulesChecksSpec)

/-- ITS FALSE NEIGHBOUR: 'it returns false'. Refute it at one input. -/
def rulesChecksWrong : ChangeSpec := { name := "rulesChecks", fn := fun _ => fun
  | [d1, d2, d3] => { results := [.lit (.bool false)], args := [d1, d2, d3] }
  | _ => none }
def RulesChecksWrongFalsely : Prop := rulesChecksRow.holds Try.pinned (OpenSpec.ofChange rulesChecksWrong)

/-- 'cubeblaw03.RulesShown': WHATEVER THE INPUT: true; the input reads as it did. -/
def rulesShownSpec : ChangeSpec := { name := "rulesShown", fn := fun _ => fun
  | [d1, d2, d3] => { results := [.lit (.bool true)], args := [d1, d2, d3] }
  | _ => none }
def rulesShownRow : OpenClaim := { program := "ytdghpfejmlpjhaa", sum := "bda6fbb6f46cc081eb38643752b697c1e3a7a9c2ccf2f54ea442282a3761d99f", func := "cubeb/cubeblaw03.RulesShown", spec := "rulesShown", unfollowed := true, recurses := true, loops := true, plainKeys := false, apart := false }
def RulesShownSaid : Prop := rulesShownRow.holds Try.pinned (OpenSpec.ofChange rulesShownSpec)

/-- ITS FALSE NEIGHBOUR: 'it returns false'. Refute it at one input. -/
def rulesShownWrong : ChangeSpec := { name := "rulesShown", fn := fun _ => fun
  | [d1, d2, d3] => { results := [.lit (.bool false)], args := [d1, d2, d3] }
  | _ => none }
def RulesShownWrongFalsely : Prop := rulesShownRow.holds Try.pinned (OpenSpec.ofChange rulesShownWrong)

/- THE SECOND FORM. 'bulk': how many values and letters a reading holds, each counted each time it is reached (what is shared counts as often as it is met; a slice's spare places count too). A statement '..UptoSaid' is the law's where the arguments, and the package variables that the reading takes, are together of bulk at most 1048576: NARROWER than '..Said'. Prove '..Said' where nothing that the law and all that it calls make is longer than what came in: it says more and counts as full. Else prove '..UptoSaid'. A law counts once. -/
mutual
def uptoBulk {H : Type} : DataW H → Nat
  | .lit (.string bytes) => bytes.length + 1
  | .lit _ => 1
  | .nil => 1
  | .ptr d => uptoBulk d + 1
  | .slice elems spare => uptoBulkAll elems + uptoBulkAll spare + 1
  | .agg parts => uptoBulkAll parts + 1
  | .iface _ d => uptoBulk d + 1
  | .map entries => uptoBulkEntries entries + 1
  | .held _ => 1
def uptoBulkAll {H : Type} : List (DataW H) → Nat
  | [] => 0
  | d :: r => uptoBulk d + uptoBulkAll r
def uptoBulkEntries {H : Type} : List (Lit × DataW H) → Nat
  | [] => 0
  | x :: r => uptoBulkEntry x + uptoBulkEntries r
def uptoBulkEntry {H : Type} : Lit × DataW H → Nat
  | (.string bytes, d) => bytes.length + uptoBulk d + 1
  | (_, d) => uptoBulk d + 1
 end
def uptoSmall : (H : Type) → List (DataW H) → Bool := fun _ ds => decide (uptoBulkAll ds ≤ 1048576)
def OpenSpec.upto (s : _root_.Go.ChangeSpec) : _root_.Go.OpenSpec := { _root_.Go.OpenSpec.ofChange s with cond := some uptoSmall }

/-- 'cubeblaw03.RulesModels', WHERE WHAT IT READS IS OF BULK AT MOST 1048576: true; the input reads as it did. -/
def rulesModelsUptoRow : OpenClaim := { program := "ytdghpfejmlpjhaa", sum := "bda6fbb6f46cc081eb38643752b697c1e3a7a9c2ccf2f54ea442282a3761d99f", func := "cubeb/cubeblaw03.RulesModels", spec := "rulesModels", unfollowed := true, recurses := true, plainKeys := false, apart := false, narrowed := true }
def RulesModelsUptoSaid : Prop := rulesModelsUptoRow.holds Try.pinned (OpenSpec.upto rulesModelsSpec)

/-- 'cubeblaw03.RulesAgain', WHERE WHAT IT READS IS OF BULK AT MOST 1048576: true; the input reads as it did. -/
def rulesAgainUptoRow : OpenClaim := { program := "ytdghpfejmlpjhaa", sum := "bda6fbb6f46cc081eb38643752b697c1e3a7a9c2ccf2f54ea442282a3761d99f", func := "cubeb/cubeblaw03.RulesAgain", spec := "rulesAgain", unfollowed := true, recurses := true, plainKeys := false, apart := false, narrowed := true }
def RulesAgainUptoSaid : Prop := rulesAgainUptoRow.holds Try.pinned (OpenSpec.upto rulesAgainSpec)

/-- 'cubeblaw03.RulesMore', WHERE WHAT IT READS IS OF BULK AT MOST 1048576: true; the input reads as it did. -/
def rulesMoreUptoRow : OpenClaim := { program := "ytdghpfejmlpjhaa", sum := "bda6fbb6f46cc081eb38643752b697c1e3a7a9c2ccf2f54ea442282a3761d99f", func := "cubeb/cubeblaw03.RulesMore", spec := "rulesMore", unfollowed := true, recurses := true, plainKeys := false, apart := false, narrowed := true }
def RulesMoreUptoSaid : Prop := rulesMoreUptoRow.holds Try.pinned (OpenSpec.upto rulesMoreSpec)

/-- 'cubeblaw03.RulesFounded', WHERE WHAT IT READS IS OF BULK AT MOST 1048576: true; the input reads as it did. -/
def rulesFoundedUptoRow : OpenClaim := { program := "ytdghpfejmlpjhaa", sum := "bda6fbb6f46cc081eb38643752b697c1e3a7a9c2ccf2f54ea442282a3761d99f", func := "cubeb/cubeblaw03.RulesFounded", spec := "rulesFounded", unfollowed := true, recurses := true, plainKeys := false, apart := false, narrowed := true }
def RulesFoundedUptoSaid : Prop := rulesFoundedUptoRow.holds Try.pinned (OpenSpec.upto rulesFoundedSpec)

/-- 'cubeblaw03.RulesSettled', WHERE WHAT IT READS IS OF BULK AT MOST 1048576: true; the input reads as it did. -/
def rulesSettledUptoRow : OpenClaim := { program := "ytdghpfejmlpjhaa", sum := "bda6fbb6f46cc081eb38643752b697c1e3a7a9c2ccf2f54ea442282a3761d99f", func := "cubeb/cubeblaw03.RulesSettled", spec := "rulesSettled", unfollowed := true, recurses := true, plainKeys := false, apart := false, narrowed := true }
def RulesSettledUptoSaid : Prop := rulesSettledUptoRow.holds Try.pinned (OpenSpec.upto rulesSettledSpec)

/-- 'cubeblaw03.RulesTurned', WHERE WHAT IT READS IS OF BULK AT MOST 1048576: true; the input reads as it did. -/
def rulesTurnedUptoRow : OpenClaim := { program := "ytdghpfejmlpjhaa", sum := "bda6fbb6f46cc081eb38643752b697c1e3a7a9c2ccf2f54ea442282a3761d99f", func := "cubeb/cubeblaw03.RulesTurned", spec := "rulesTurned", unfollowed := true, recurses := true, plainKeys := false, apart := false, narrowed := true }
def RulesTurnedUptoSaid : Prop := rulesTurnedUptoRow.holds Try.pinned (OpenSpec.upto rulesTurnedSpec)

/-- 'cubeblaw03.RulesSources', WHERE WHAT IT READS IS OF BULK AT MOST 1048576: true; the input reads as it did. -/
def rulesSourcesUptoRow : OpenClaim := { program := "ytdghpfejmlpjhaa", sum := "bda6fbb6f46cc081eb38643752b697c1e3a7a9c2ccf2f54ea442282a3761d99f", func := "cubeb/cubeblaw03.RulesSources", spec := "rulesSources", unfollowed := true, recurses := true, plainKeys := false, apart := false, narrowed := true }
def RulesSourcesUptoSaid : Prop := rulesSourcesUptoRow.holds Try.pinned (OpenSpec.upto rulesSourcesSpec)

/-- 'cubeblaw03.RulesEnough', WHERE WHAT IT READS IS OF BULK AT MOST 1048576: true; the input reads as it did. -/
def rulesEnoughUptoRow : OpenClaim := { program := "ytdghpfejmlpjhaa", sum := "bda6fbb6f46cc081eb38643752b697c1e3a7a9c2ccf2f54ea442282a3761d99f", func := "cubeb/cubeblaw03.RulesEnough", spec := "rulesEnough", unfollowed := true, recurses := true, plainKeys := false, apart := false, narrowed := true }
def RulesEnoughUptoSaid : Prop := rulesEnoughUptoRow.holds Try.pinned (OpenSpec.upto rulesEnoughSpec)

/-- 'cubeblaw03.RulesStrata', WHERE WHAT IT READS IS OF BULK AT MOST 1048576: true; the input reads as it did. -/
def rulesStrataUptoRow : OpenClaim := { program := "ytdghpfejmlpjhaa", sum := "bda6fbb6f46cc081eb38643752b697c1e3a7a9c2ccf2f54ea442282a3761d99f", func := "cubeb/cubeblaw03.RulesStrata", spec := "rulesStrata", unfollowed := true, recurses := true, plainKeys := false, apart := false, narrowed := true }
def RulesStrataUptoSaid : Prop := rulesStrataUptoRow.holds Try.pinned (OpenSpec.upto rulesStrataSpec)

/-- 'cubeblaw03.RulesNeeded', WHERE WHAT IT READS IS OF BULK AT MOST 1048576: true; the input reads as it did. -/
def rulesNeededUptoRow : OpenClaim := { program := "ytdghpfejmlpjhaa", sum := "bda6fbb6f46cc081eb38643752b697c1e3a7a9c2ccf2f54ea442282a3761d99f", func := "cubeb/cubeblaw03.RulesNeeded", spec := "rulesNeeded", unfollowed := true, recurses := true, plainKeys := false, apart := false, narrowed := true }
def RulesNeededUptoSaid : Prop := rulesNeededUptoRow.holds Try.pinned (OpenSpec.upto rulesNeededSpec)

/-- 'cubeblaw03.RulesProves', WHERE WHAT IT READS IS OF BULK AT MOST 1048576: true; the input reads as it did. -/
def rulesProvesUptoRow : OpenClaim := { program := "ytdghpfejmlpjhaa", sum := "bda6fbb6f46cc081eb38643752b697c1e3a7a9c2ccf2f54ea442282a3761d99f", func := "cubeb/cubeblaw03.RulesProves", spec := "rulesProves", unfollowed := true, recurses := true, plainKeys := false, apart := false, narrowed := true }
def RulesProvesUptoSaid : Prop := rulesProvesUptoRow.holds Try.pinned (OpenSpec.upto rulesProvesSpec)

/-- 'cubeblaw03.RulesClosed', WHERE WHAT IT READS IS OF BULK AT MOST 1048576: true; the input reads as it did. -/
def rulesClosedUptoRow : OpenClaim := { program := "ytdghpfejmlpjhaa", sum := "bda6fbb6f46cc081eb38643752b697c1e3a7a9c2ccf2f54ea442282a3761d99f", func := "cubeb/cubeblaw03.RulesClosed", spec := "rulesClosed", unfollowed := true, recurses := true, plainKeys := false, apart := false, narrowed := true }
def RulesClosedUptoSaid : Prop := rulesClosedUptoRow.holds Try.pinned (OpenSpec.upto rulesClosedSpec)

/-- 'cubeblaw03.RulesChecks', WHERE WHAT IT READS IS OF BULK AT MOST 1048576: true; the input reads as it did. -/
def rulesChecksUptoRow : OpenClaim := { program := "ytdghpfejmlpjhaa", sum := "bda6fbb6f46cc081eb38643752b697c1e3a7a9c2ccf2f54ea442282a3761d99f", func := "cubeb/cubeblaw03.RulesChecks", spec := "rulesChecks", unfollowed := true, recurses := true, loops := true, plainKeys := false, apart := false, narrowed := true }
def RulesChecksUptoSaid : Prop := rulesChecksUptoRow.holds Try.pinned (OpenSpec.upto rulesChecksSpec)

/-- 'cubeblaw03.RulesShown', WHERE WHAT IT READS IS OF BULK AT MOST 1048576: true; the input reads as it did. -/
def rulesShownUptoRow : OpenClaim := { program := "ytdghpfejmlpjhaa", sum := "bda6fbb6f46cc081eb38643752b697c1e3a7a9c2ccf2f54ea442282a3761d99f", func := "cubeb/cubeblaw03.RulesShown", spec := "rulesShown", unfollowed := true, recurses := true, loops := true, plainKeys := false, apart := false, narrowed := true }
def RulesShownUptoSaid : Prop := rulesShownUptoRow.holds Try.pinned (OpenSpec.upto rulesShownSpec)

end Rows
end Go.Proofs.Ytdghpfejmlpjhaa
