/-
  No cell of these rows narrows 'for every input' (looked for: loops, veiled, ifaces, maps, wideKeys, modest, calm, conditions, laid).
  DERIVED. THE GIVEN ROWS OF THIS SEAT. 14 by the template 'for every input the law returns true; each argument reads behind the call as it read before'; 0 by the template 'total and deterministic' (their statements: YtoiejpkfpjingaaTotals.lean).
  GIVEN WITH THE SEED: the statements are not yours to turn. If you find one false, say at which input.
  Laid BY PROGRAM, IN A SANDBOX (cutbox-rows.mjs): the forced cells as the released guide's own fill.sh prints them over the translation 22d178ce904d8ad6… (all of the seat's roots in one cut). By AI agents, Wed Nov 11 2026. No macro, syntax, notation, axiom, sorry.
-/
import Derived.Test.YtoiejpkfpjingaaChecked
import GoSem.Claim
import GoSem.ClaimJoined
import GoSem.ClaimMapViews
import Derived.JoinedTies
import Derived.KernelRfl
namespace Go.Proofs.Ytoiejpkfpjingaa
/- THE CELL 'sum', in the pinned program and in every row, IS THE sha256 OF THE DUMP (.gsa) THAT YtoiejpkfpjingaaProg.lean LOADS. Nothing in Lean hashes anything: it is a label: what it is worth is what the hold of that sum in a sandbox is worth. -/
noncomputable def Try.pinned : Pinned := { name := "ytoiejpkfpjingaa", sum := "22d178ce904d8ad6df217a16b6d5d6612222c1482fb909935dc1fbf3cd7d4337", checked := Try.checked }
namespace Rows
def none {H : Type} : Left H := { results := [], args := [] }

/-- 'cubeblaw05.HistoryOrders': WHATEVER THE INPUT: true; the input reads as it did. -/
def historyOrdersSpec : ChangeSpec := { name := "historyOrders", fn := fun _ => fun
  | [d] => { results := [.lit (.bool true)], args := [d] }
  | _ => none }
def historyOrdersRow : OpenClaim := { program := "ytoiejpkfpjingaa", sum := "22d178ce904d8ad6df217a16b6d5d6612222c1482fb909935dc1fbf3cd7d4337", func := "cubeb/cubeblaw05.HistoryOrders", spec := "historyOrders", unfollowed := true, recurses := true, plainKeys := false, apart := false }
def HistoryOrdersSaid : Prop := historyOrdersRow.holds Try.pinned (OpenSpec.ofChange historyOrdersSpec)

/-- ITS FALSE NEIGHBOUR: 'it returns false'. Refute it at one input. -/
def historyOrdersWrong : ChangeSpec := { name := "historyOrders", fn := fun _ => fun
  | [d] => { results := [.lit (.bool false)], args := [d] }
  | _ => none }
def HistoryOrdersWrongFalsely : Prop := historyOrdersRow.holds Try.pinned (OpenSpec.ofChange historyOrdersWrong)

/-- 'cubeblaw05.HistoryReads': WHATEVER THE INPUT: true; the input reads as it did. -/
def historyReadsSpec : ChangeSpec := { name := "historyReads", fn := fun _ => fun
  | [d] => { results := [.lit (.bool true)], args := [d] }
  | _ => none }
def historyReadsRow : OpenClaim := { program := "ytoiejpkfpjingaa", sum := "22d178ce904d8ad6df217a16b6d5d6612222c1482fb909935dc1fbf3cd7d4337", func := "cubeb/cubeblaw05.HistoryReads", spec := "historyReads", unfollowed := true, recurses := true, plainKeys := false, apart := false }
def HistoryReadsSaid : Prop := historyReadsRow.holds Try.pinned (OpenSpec.ofChange historyReadsSpec)

/-- ITS FALSE NEIGHBOUR: 'it returns false'. Refute it at one input. -/
def historyReadsWrong : ChangeSpec := { name := "historyReads", fn := fun _ => fun
  | [d] => { results := [.lit (.bool false)], args := [d] }
  | _ => none }
def HistoryReadsWrongFalsely : Prop := historyReadsRow.holds Try.pinned (OpenSpec.ofChange historyReadsWrong)

/-- 'cubeblaw05.HistoryRecovers': WHATEVER THE INPUT: true; the input reads as it did. -/
def historyRecoversSpec : ChangeSpec := { name := "historyRecovers", fn := fun _ => fun
  | [d] => { results := [.lit (.bool true)], args := [d] }
  | _ => none }
def historyRecoversRow : OpenClaim := { program := "ytoiejpkfpjingaa", sum := "22d178ce904d8ad6df217a16b6d5d6612222c1482fb909935dc1fbf3cd7d4337", func := "cubeb/cubeblaw05.HistoryRecovers", spec := "historyRecovers", unfollowed := true, recurses := true, plainKeys := false, apart := false }
def HistoryRecoversSaid : Prop := historyRecoversRow.holds Try.pinned (OpenSpec.ofChange historyRecoversSpec)

/-- ITS FALSE NEIGHBOUR: 'it returns false'. Refute it at one input. -/
def historyRecoversWrong : ChangeSpec := { name := "historyRecovers", fn := fun _ => fun
  | [d] => { results := [.lit (.bool false)], args := [d] }
  | _ => none }
def HistoryRecoversWrongFalsely : Prop := historyRecoversRow.holds Try.pinned (OpenSpec.ofChange historyRecoversWrong)

/-- 'cubeblaw05.HistoryStrict': WHATEVER THE INPUT: true; the input reads as it did. -/
def historyStrictSpec : ChangeSpec := { name := "historyStrict", fn := fun _ => fun
  | [d] => { results := [.lit (.bool true)], args := [d] }
  | _ => none }
def historyStrictRow : OpenClaim := { program := "ytoiejpkfpjingaa", sum := "22d178ce904d8ad6df217a16b6d5d6612222c1482fb909935dc1fbf3cd7d4337", func := "cubeb/cubeblaw05.HistoryStrict", spec := "historyStrict", unfollowed := true, recurses := true, plainKeys := false, apart := false }
def HistoryStrictSaid : Prop := historyStrictRow.holds Try.pinned (OpenSpec.ofChange historyStrictSpec)

/-- ITS FALSE NEIGHBOUR: 'it returns false'. Refute it at one input. -/
def historyStrictWrong : ChangeSpec := { name := "historyStrict", fn := fun _ => fun
  | [d] => { results := [.lit (.bool false)], args := [d] }
  | _ => none }
def HistoryStrictWrongFalsely : Prop := historyStrictRow.holds Try.pinned (OpenSpec.ofChange historyStrictWrong)

/-- 'cubeblaw05.HistoryViews': WHATEVER THE INPUT: true; the input reads as it did. -/
def historyViewsSpec : ChangeSpec := { name := "historyViews", fn := fun _ => fun
  | [d] => { results := [.lit (.bool true)], args := [d] }
  | _ => none }
def historyViewsRow : OpenClaim := { program := "ytoiejpkfpjingaa", sum := "22d178ce904d8ad6df217a16b6d5d6612222c1482fb909935dc1fbf3cd7d4337", func := "cubeb/cubeblaw05.HistoryViews", spec := "historyViews", unfollowed := true, recurses := true, plainKeys := false, apart := false }
def HistoryViewsSaid : Prop := historyViewsRow.holds Try.pinned (OpenSpec.ofChange historyViewsSpec)

/-- ITS FALSE NEIGHBOUR: 'it returns false'. Refute it at one input. -/
def historyViewsWrong : ChangeSpec := { name := "historyViews", fn := fun _ => fun
  | [d] => { results := [.lit (.bool false)], args := [d] }
  | _ => none }
def HistoryViewsWrongFalsely : Prop := historyViewsRow.holds Try.pinned (OpenSpec.ofChange historyViewsWrong)

/-- 'cubeblaw05.HistoryExchanged': WHATEVER THE INPUT: true; the input reads as it did. -/
def historyExchangedSpec : ChangeSpec := { name := "historyExchanged", fn := fun _ => fun
  | [d1, d2] => { results := [.lit (.bool true)], args := [d1, d2] }
  | _ => none }
def historyExchangedRow : OpenClaim := { program := "ytoiejpkfpjingaa", sum := "22d178ce904d8ad6df217a16b6d5d6612222c1482fb909935dc1fbf3cd7d4337", func := "cubeb/cubeblaw05.HistoryExchanged", spec := "historyExchanged", unfollowed := true, recurses := true, plainKeys := false, apart := false }
def HistoryExchangedSaid : Prop := historyExchangedRow.holds Try.pinned (OpenSpec.ofChange historyExchangedSpec)

/-- ITS FALSE NEIGHBOUR: 'it returns false'. Refute it at one input. -/
def historyExchangedWrong : ChangeSpec := { name := "historyExchanged", fn := fun _ => fun
  | [d1, d2] => { results := [.lit (.bool false)], args := [d1, d2] }
  | _ => none }
def HistoryExchangedWrongFalsely : Prop := historyExchangedRow.holds Try.pinned (OpenSpec.ofChange historyExchangedWrong)

/-- 'cubeblaw05.HistoryLocks': WHATEVER THE INPUT: true; the input reads as it did. -/
def historyLocksSpec : ChangeSpec := { name := "historyLocks", fn := fun _ => fun
  | [d] => { results := [.lit (.bool true)], args := [d] }
  | _ => none }
def historyLocksRow : OpenClaim := { program := "ytoiejpkfpjingaa", sum := "22d178ce904d8ad6df217a16b6d5d6612222c1482fb909935dc1fbf3cd7d4337", func := "cubeb/cubeblaw05.HistoryLocks", spec := "historyLocks", unfollowed := true, recurses := true, plainKeys := false, apart := false }
def HistoryLocksSaid : Prop := historyLocksRow.holds Try.pinned (OpenSpec.ofChange historyLocksSpec)

/-- ITS FALSE NEIGHBOUR: 'it returns false'. Refute it at one input. -/
def historyLocksWrong : ChangeSpec := { name := "historyLocks", fn := fun _ => fun
  | [d] => { results := [.lit (.bool false)], args := [d] }
  | _ => none }
def HistoryLocksWrongFalsely : Prop := historyLocksRow.holds Try.pinned (OpenSpec.ofChange historyLocksWrong)

/-- 'cubeblaw05.HistoryTwice': WHATEVER THE INPUT: true; the input reads as it did. -/
def historyTwiceSpec : ChangeSpec := { name := "historyTwice", fn := fun _ => fun
  | [d] => { results := [.lit (.bool true)], args := [d] }
  | _ => none }
def historyTwiceRow : OpenClaim := { program := "ytoiejpkfpjingaa", sum := "22d178ce904d8ad6df217a16b6d5d6612222c1482fb909935dc1fbf3cd7d4337", func := "cubeb/cubeblaw05.HistoryTwice", spec := "historyTwice", unfollowed := true, recurses := true, plainKeys := false, apart := false }
def HistoryTwiceSaid : Prop := historyTwiceRow.holds Try.pinned (OpenSpec.ofChange historyTwiceSpec)

/-- ITS FALSE NEIGHBOUR: 'it returns false'. Refute it at one input. -/
def historyTwiceWrong : ChangeSpec := { name := "historyTwice", fn := fun _ => fun
  | [d] => { results := [.lit (.bool false)], args := [d] }
  | _ => none }
def HistoryTwiceWrongFalsely : Prop := historyTwiceRow.holds Try.pinned (OpenSpec.ofChange historyTwiceWrong)

/-- 'cubeblaw05.HistoryOne': WHATEVER THE INPUT: true; the input reads as it did. -/
def historyOneSpec : ChangeSpec := { name := "historyOne", fn := fun _ => fun
  | [d] => { results := [.lit (.bool true)], args := [d] }
  | _ => none }
def historyOneRow : OpenClaim := { program := "ytoiejpkfpjingaa", sum := "22d178ce904d8ad6df217a16b6d5d6612222c1482fb909935dc1fbf3cd7d4337", func := "cubeb/cubeblaw05.HistoryOne", spec := "historyOne", unfollowed := true, recurses := true, plainKeys := false, apart := false }
def HistoryOneSaid : Prop := historyOneRow.holds Try.pinned (OpenSpec.ofChange historyOneSpec)

/-- ITS FALSE NEIGHBOUR: 'it returns false'. Refute it at one input. -/
def historyOneWrong : ChangeSpec := { name := "historyOne", fn := fun _ => fun
  | [d] => { results := [.lit (.bool false)], args := [d] }
  | _ => none }
def HistoryOneWrongFalsely : Prop := historyOneRow.holds Try.pinned (OpenSpec.ofChange historyOneWrong)

/-- 'cubeblaw05.HistoryLocked': WHATEVER THE INPUT: true; the input reads as it did. -/
def historyLockedSpec : ChangeSpec := { name := "historyLocked", fn := fun _ => fun
  | [d] => { results := [.lit (.bool true)], args := [d] }
  | _ => none }
def historyLockedRow : OpenClaim := { program := "ytoiejpkfpjingaa", sum := "22d178ce904d8ad6df217a16b6d5d6612222c1482fb909935dc1fbf3cd7d4337", func := "cubeb/cubeblaw05.HistoryLocked", spec := "historyLocked", unfollowed := true, recurses := true, plainKeys := false, apart := false }
def HistoryLockedSaid : Prop := historyLockedRow.holds Try.pinned (OpenSpec.ofChange historyLockedSpec)

/-- ITS FALSE NEIGHBOUR: 'it returns false'. Refute it at one input. -/
def historyLockedWrong : ChangeSpec := { name := "historyLocked", fn := fun _ => fun
  | [d] => { results := [.lit (.bool false)], args := [d] }
  | _ => none }
def HistoryLockedWrongFalsely : Prop := historyLockedRow.holds Try.pinned (OpenSpec.ofChange historyLockedWrong)

/-- 'cubeblaw05.HistorySerial': WHATEVER THE INPUT: true; the input reads as it did. -/
def historySerialSpec : ChangeSpec := { name := "historySerial", fn := fun _ => fun
  | [d1, d2] => { results := [.lit (.bool true)], args := [d1, d2] }
  | _ => none }
def historySerialRow : OpenClaim := { program := "ytoiejpkfpjingaa", sum := "22d178ce904d8ad6df217a16b6d5d6612222c1482fb909935dc1fbf3cd7d4337", func := "cubeb/cubeblaw05.HistorySerial", spec := "historySerial", unfollowed := true, recurses := true, plainKeys := false, apart := false }
def HistorySerialSaid : Prop := historySerialRow.holds Try.pinned (OpenSpec.ofChange historySerialSpec)

/-- ITS FALSE NEIGHBOUR: 'it returns false'. Refute it at one input. -/
def historySerialWrong : ChangeSpec := { name := "historySerial", fn := fun _ => fun
  | [d1, d2] => { results := [.lit (.bool false)], args := [d1, d2] }
  | _ => none }
def HistorySerialWrongFalsely : Prop := historySerialRow.holds Try.pinned (OpenSpec.ofChange historySerialWrong)

/-- 'cubeblaw05.HistorySnapshots': WHATEVER THE INPUT: true; the input reads as it did. -/
def historySnapshotsSpec : ChangeSpec := { name := "historySnapshots", fn := fun _ => fun
  | [d] => { results := [.lit (.bool true)], args := [d] }
  | _ => none }
def historySnapshotsRow : OpenClaim := { program := "ytoiejpkfpjingaa", sum := "22d178ce904d8ad6df217a16b6d5d6612222c1482fb909935dc1fbf3cd7d4337", func := "cubeb/cubeblaw05.HistorySnapshots", spec := "historySnapshots", unfollowed := true, recurses := true, plainKeys := false, apart := false }
def HistorySnapshotsSaid : Prop := historySnapshotsRow.holds Try.pinned (OpenSpec.ofChange historySnapshotsSpec)

/-- ITS FALSE NEIGHBOUR: 'it returns false'. Refute it at one input. -/
def historySnapshotsWrong : ChangeSpec := { name := "historySnapshots", fn := fun _ => fun
  | [d] => { results := [.lit (.bool false)], args := [d] }
  | _ => none }
def HistorySnapshotsWrongFalsely : Prop := historySnapshotsRow.holds Try.pinned (OpenSpec.ofChange historySnapshotsWrong)

/-- 'cubeblaw05.HistorySafe': WHATEVER THE INPUT: true; the input reads as it did. -/
def historySafeSpec : ChangeSpec := { name := "historySafe", fn := fun _ => fun
  | [d] => { results := [.lit (.bool true)], args := [d] }
  | _ => none }
def historySafeRow : OpenClaim := { program := "ytoiejpkfpjingaa", sum := "22d178ce904d8ad6df217a16b6d5d6612222c1482fb909935dc1fbf3cd7d4337", func := "cubeb/cubeblaw05.HistorySafe", spec := "historySafe", unfollowed := true, recurses := true, plainKeys := false, apart := false }
def HistorySafeSaid : Prop := historySafeRow.holds Try.pinned (OpenSpec.ofChange historySafeSpec)

/-- ITS FALSE NEIGHBOUR: 'it returns false'. Refute it at one input. -/
def historySafeWrong : ChangeSpec := { name := "historySafe", fn := fun _ => fun
  | [d] => { results := [.lit (.bool false)], args := [d] }
  | _ => none }
def HistorySafeWrongFalsely : Prop := historySafeRow.holds Try.pinned (OpenSpec.ofChange historySafeWrong)

/-- 'cubeblaw05.HistoryParts': WHATEVER THE INPUT: true; the input reads as it did. -/
def historyPartsSpec : ChangeSpec := { name := "historyParts", fn := fun _ => fun
  | [d] => { results := [.lit (.bool true)], args := [d] }
  | _ => none }
def historyPartsRow : OpenClaim := { program := "ytoiejpkfpjingaa", sum := "22d178ce904d8ad6df217a16b6d5d6612222c1482fb909935dc1fbf3cd7d4337", func := "cubeb/cubeblaw05.HistoryParts", spec := "historyParts", unfollowed := true, recurses := true, plainKeys := false, apart := false }
def HistoryPartsSaid : Prop := historyPartsRow.holds Try.pinned (OpenSpec.ofChange historyPartsSpec)

/-- ITS FALSE NEIGHBOUR: 'it returns false'. Refute it at one input. -/
def historyPartsWrong : ChangeSpec := { name := "historyParts", fn := fun _ => fun
  | [d] => { results := [.lit (.bool false)], args := [d] }
  | _ => none }
def HistoryPartsWrongFalsely : Prop := historyPartsRow.holds Try.pinned (OpenSpec.ofChange historyPartsWrong)

/- THE SECOND FORM. 'bulk': how many values and letters a reading holds, each counted each time it is reached (what is shared counts as often as it is met; a slice's spare places count too). A statement '..UptoSaid' is the law's where the arguments, and the package variables that the reading takes, are together of bulk at most 1048576: NARROWER than '..Said'. Prove '..Said' where nothing that the law and all that it calls make is longer than what came in: it says more and counts as full. Else prove '..UptoSaid'. A law counts once. -/
mutual
def uptoBulk {H : Type} : DataW H → Nat
  | .lit (.string bytes) => bytes.length + 1
  | .lit _ => 1
  | .nil => 1
  | .ptr d => uptoBulk d + 1
  | .slice elems spare => uptoBulkAll elems + uptoBulkAll spare + 1
  | .agg parts => uptoBulkAll parts + 1
  | .iface _ d => uptoBulk d + 1
  | .map entries => uptoBulkEntries entries + 1
  | .held _ => 1
def uptoBulkAll {H : Type} : List (DataW H) → Nat
  | [] => 0
  | d :: r => uptoBulk d + uptoBulkAll r
def uptoBulkEntries {H : Type} : List (Lit × DataW H) → Nat
  | [] => 0
  | x :: r => uptoBulkEntry x + uptoBulkEntries r
def uptoBulkEntry {H : Type} : Lit × DataW H → Nat
  | (.string bytes, d) => bytes.length + uptoBulk d + 1
  | (_, d) => uptoBulk d + 1
 end
def uptoSmall : (H : Type) → List (DataW H) → Bool := fun _ ds => decide (uptoBulkAll ds ≤ 1048576)
def OpenSpec.upto (s : _root_.Go.ChangeSpec) : _root_.Go.OpenSpec := { _root_.Go.OpenSpec.ofChange s with cond := some uptoSmall }

/-- 'cubeblaw05.HistoryOrders', WHERE WHAT IT READS IS OF BULK AT MOST 1048576: true; the input reads as it did. -/
def historyOrdersUptoRow : OpenClaim := { program := "ytoiejpkfpjingaa", sum := "22d178ce904d8ad6df217a16b6d5d6612222c1482fb909935dc1fbf3cd7d4337", func := "cubeb/cubeblaw05.HistoryOrders", spec := "historyOrders", unfollowed := true, recurses := true, plainKeys := false, apart := false, narrowed := true }
def HistoryOrdersUptoSaid : Prop := historyOrdersUptoRow.holds Try.pinned (OpenSpec.upto historyOrdersSpec)

/-- 'cubeblaw05.HistoryReads', WHERE WHAT IT READS IS OF BULK AT MOST 1048576: true; the input reads as it did. -/
def historyReadsUptoRow : OpenClaim := { program := "ytoiejpkfpjingaa", sum := "22d178ce904d8ad6df217a16b6d5d6612222c1482fb909935dc1fbf3cd7d4337", func := "cubeb/cubeblaw05.HistoryReads", spec := "historyReads", unfollowed := true, recurses := true, plainKeys := false, apart := false, narrowed := true }
def HistoryReadsUptoSaid : Prop := historyReadsUptoRow.holds Try.pinned (OpenSpec.upto historyReadsSpec)

/-- 'cubeblaw05.HistoryRecovers', WHERE WHAT IT READS IS OF BULK AT MOST 1048576: true; the input reads as it did. -/
def historyRecoversUptoRow : OpenClaim := { program := "ytoiejpkfpjingaa", sum := "22d178ce904d8ad6df217a16b6d5d6612222c1482fb909935dc1fbf3cd7d4337", func := "cubeb/cubeblaw05.HistoryRecovers", spec := "historyRecovers", unfollowed := true, recurses := true, plainKeys := false, apart := false, narrowed := true }
def HistoryRecoversUptoSaid : Prop := historyRecoversUptoRow.holds Try.pinned (OpenSpec.upto historyRecoversSpec)

/-- 'cubeblaw05.HistoryStrict', WHERE WHAT IT READS IS OF BULK AT MOST 1048576: true; the input reads as it did. -/
def historyStrictUptoRow : OpenClaim := { program := "ytoiejpkfpjingaa", sum := "22d178ce904d8ad6df217a16b6d5d6612222c1482fb909935dc1fbf3cd7d4337", func := "cubeb/cubeblaw05.HistoryStrict", spec := "historyStrict", unfollowed := true, recurses := true, plainKeys := false, apart := false, narrowed := true }
def HistoryStrictUptoSaid : Prop := historyStrictUptoRow.holds Try.pinned (OpenSpec.upto historyStrictSpec)

/-- 'cubeblaw05.HistoryViews', WHERE WHAT IT READS IS OF BULK AT MOST 1048576: true; the input reads as it did. -/
def historyViewsUptoRow : OpenClaim := { program := "ytoiejpkfpjingaa", sum := "22d178ce904d8ad6df217a16b6d5d6612222c1482fb909935dc1fbf3cd7d4337", func := "cubeb/cubeblaw05.HistoryViews", spec := "historyViews", unfollowed := true, recurses := true, plainKeys := false, apart := false, narrowed := true }
def HistoryViewsUptoSaid : Prop := historyViewsUptoRow.holds Try.pinned (OpenSpec.upto historyViewsSpec)

/-- 'cubeblaw05.HistoryExchanged', WHERE WHAT IT READS IS OF BULK AT MOST 1048576: true; the input reads as it did. -/
def historyExchangedUptoRow : OpenClaim := { program := "ytoiejpkfpjingaa", sum := "22d178ce904d8ad6df217a16b6d5d6612222c1482fb909935dc1fbf3cd7d4337", func := "cubeb/cubeblaw05.HistoryExchanged", spec := "historyExchanged", unfollowed := true, recurses := true, plainKeys := false, apart := false, narrowed := true }
def HistoryExchangedUptoSaid : Prop := historyExchangedUptoRow.holds Try.pinned (OpenSpec.upto historyExchangedSpec)

/-- 'cubeblaw05.HistoryLocks', WHERE WHAT IT READS IS OF BULK AT MOST 1048576: true; the input reads as it did. -/
def historyLocksUptoRow : OpenClaim := { program := "ytoiejpkfpjingaa", sum := "22d178ce904d8ad6df217a16b6d5d6612222c1482fb909935dc1fbf3cd7d4337", func := "cubeb/cubeblaw05.HistoryLocks", spec := "historyLocks", unfollowed := true, recurses := true, plainKeys := false, apart := false, narrowed := true }
def HistoryLocksUptoSaid : Prop := historyLocksUptoRow.holds Try.pinned (OpenSpec.upto historyLocksSpec)

/-- 'cubeblaw05.HistoryTwice', WHERE WHAT IT READS IS OF BULK AT MOST 1048576: true; the input reads as it did. -/
def historyTwiceUptoRow : OpenClaim := { program := "ytoiejpkfpjingaa", sum := "22d178ce904d8ad6df217a16b6d5d6612222c1482fb909935dc1fbf3cd7d4337", func := "cubeb/cubeblaw05.HistoryTwice", spec := "historyTwice", unfollowed := true, recurses := true, plainKeys := false, apart := false, narrowed := true }
def HistoryTwiceUptoSaid : Prop := historyTwiceUptoRow.holds Try.pinned (OpenSpec.upto historyTwiceSpec)

/-- 'cubeblaw05.HistoryOne', WHERE WHAT IT READS IS OF BULK AT MOST 1048576: true; the input reads as it did. -/
def historyOneUptoRow : OpenClaim := { program := "ytoiejpkfpjingaa", sum := "22d178ce904d8ad6df217a16b6d5d6612222c1482fb909935dc1fbf3cd7d4337", func := "cubeb/cubeblaw05.HistoryOne", spec := "historyOne", unfollowed := true, recurses := true, plainKeys := false, apart := false, narrowed := true }
def HistoryOneUptoSaid : Prop := historyOneUptoRow.holds Try.pinned (OpenSpec.upto historyOneSpec)

/-- 'cubeblaw05.HistoryLocked', WHERE WHAT IT READS IS OF BULK AT MOST 1048576: true; the input reads as it did. -/
def historyLockedUptoRow : OpenClaim := { program := "ytoiejpkfpjingaa", sum := "22d178ce904d8ad6df217a16b6d5d6612222c1482fb909935dc1fbf3cd7d4337", func := "cubeb/cubeblaw05.HistoryLocked", spec := "historyLocked", unfollowed := true, recurses := true, plainKeys := false, apart := false, narrowed := true }
def HistoryLockedUptoSaid : Prop := historyLockedUptoRow.holds Try.pinned (OpenSpec.upto historyLockedSpec)

/-- 'cubeblaw05.HistorySerial', WHERE WHAT IT READS IS OF BULK AT MOST 1048576: true; the input reads as it did. -/
def historySerialUptoRow : OpenClaim := { program := "ytoiejpkfpjingaa", sum := "22d178ce904d8ad6df217a16b6d5d6612222c1482fb909935dc1fbf3cd7d4337", func := "cubeb/cubeblaw05.HistorySerial", spec := "historySerial", unfollowed := true, recurses := true, plainKeys := false, apart := false, narrowed := true }
def HistorySerialUptoSaid : Prop := historySerialUptoRow.holds Try.pinned (OpenSpec.upto historySerialSpec)

/-- 'cubeblaw05.HistorySnapshots', WHERE WHAT IT READS IS OF BULK AT MOST 1048576: true; the input reads as it did. -/
def historySnapshotsUptoRow : OpenClaim := { program := "ytoiejpkfpjingaa", sum := "22d178ce904d8ad6df217a16b6d5d6612222c1482fb909935dc1fbf3cd7d4337", func := "cubeb/cubeblaw05.HistorySnapshots", spec := "historySnapshots", unfollowed := true, recurses := true, plainKeys := false, apart := false, narrowed := true }
def HistorySnapshotsUptoSaid : Prop := historySnapshotsUptoRow.holds Try.pinned (OpenSpec.upto historySnapshotsSpec)

/-- 'cubeblaw05.HistorySafe', WHERE WHAT IT READS IS OF BULK AT MOST 1048576: true; the input reads as it did. -/
def historySafeUptoRow : OpenClaim := { program := "ytoiejpkfpjingaa", sum := "22d178ce904d8ad6df217a16b6d5d6612222c1482fb909935dc1fbf3cd7d4337", func := "cubeb/cubeblaw05.HistorySafe", spec := "historySafe", unfollowed := true, recurses := true, plainKeys := false, apart := false, narrowed := true }
def HistorySafeUptoSaid : Prop := historySafeUptoRow.holds Try.pinned (OpenSpec.upto historySafeSpec)

/-- 'cubeblaw05.HistoryParts', WHERE WHAT IT READS IS OF BULK AT MOST 1048576: true; the input reads as it did. -/
def historyPartsUptoRow : OpenClaim := { program := "ytoiejpkfpjingaa", sum := "22d178ce904d8ad6df217a16b6d5d6612222c1482fb909935dc1fbf3cd7d4337", func := "cubeb/cubeblaw05.HistoryParts", spec := "historyParts", unfollowed := true, recurses := true, plainKeys := false, apart := false, narrowed := true }
def HistoryPartsUptoSaid : Prop := historyPartsUptoRow.holds Try.pinned (OpenSpec.upto historyPartsSpec)

end Rows
end Go.Proofs.Ytoiejpkfpjingaa
