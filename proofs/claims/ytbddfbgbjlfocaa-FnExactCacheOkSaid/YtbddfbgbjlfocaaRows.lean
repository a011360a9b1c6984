/-
  No cell of these rows narrows 'for every input' (looked for: loops, veiled, ifaces, maps, wideKeys, modest, calm, conditions, laid).
  DERIVED. THE GIVEN ROWS OF THIS SEAT. 17 by the template 'for every input the law returns true; each argument reads behind the call as it read before'; 0 by the template 'total and deterministic' (their statements: YtbddfbgbjlfocaaTotals.lean).
  GIVEN WITH THE SEED: the statements are not yours to turn. If you find one false, say at which input.
  Laid BY PROGRAM, IN A SANDBOX (cutbox-rows.mjs): the forced cells as the released guide's own fill.sh prints them over the translation 1bb3af04a0b6c1c3… (all of the seat's roots in one cut). By AI agents, Wed Nov 11 2026. No macro, syntax, notation, axiom, sorry.
-/
import Derived.Test.YtbddfbgbjlfocaaChecked
import GoSem.Claim
import GoSem.ClaimJoined
import GoSem.ClaimMapViews
import Derived.JoinedTies
import Derived.KernelRfl
namespace Go.Proofs.Ytbddfbgbjlfocaa
/- THE CELL 'sum', in the pinned program and in every row, IS THE sha256 OF THE DUMP (.gsa) THAT YtbddfbgbjlfocaaProg.lean LOADS. Nothing in Lean hashes anything: it is a label: what it is worth is what the hold of that sum in a sandbox is worth. -/
noncomputable def Try.pinned : Pinned := { name := "ytbddfbgbjlfocaa", sum := "1bb3af04a0b6c1c3408db28bf623590d067c8c9a150124c6ec2665ed844cc24d", checked := Try.checked }
namespace Rows
def none {H : Type} : Left H := { results := [], args := [] }

/-- 'laws.FnExactShowState': WHATEVER THE INPUT: true; the input reads as it did. -/
def fnExactShowStateSpec : ChangeSpec := { name := "fnExactShowState", fn := fun _ => fun
  | [d] => { results := [.lit (.bool true)], args := [d] }
  | _ => none }
def fnExactShowStateRow : OpenClaim := { program := "ytbddfbgbjlfocaa", sum := "1bb3af04a0b6c1c3408db28bf623590d067c8c9a150124c6ec2665ed844cc24d", func := "loop.example/g00459/laws.FnExactShowState", spec := "fnExactShowState", apart := false }
def FnExactShowStateSaid : Prop := fnExactShowStateRow.holds Try.pinned (OpenSpec.ofChange fnExactShowStateSpec)

/-- ITS FALSE NEIGHBOUR: 'it returns false'. Refute it at one input. -/
def fnExactShowStateWrong : ChangeSpec := { name := "fnExactShowState", fn := fun _ => fun
  | [d] => { results := [.lit (.bool false)], args := [d] }
  | _ => none }
def FnExactShowStateWrongFalsely : Prop := fnExactShowStateRow.holds Try.pinned (OpenSpec.ofChange fnExactShowStateWrong)

/-- 'laws.FnExactChangeOk': WHATEVER THE INPUT: true; the input reads as it did. -/
def fnExactChangeOkSpec : ChangeSpec := { name := "fnExactChangeOk", fn := fun _ => fun
  | [d1, d2] => { results := [.lit (.bool true)], args := [d1, d2] }
  | _ => none }
def fnExactChangeOkRow : OpenClaim := { program := "ytbddfbgbjlfocaa", sum := "1bb3af04a0b6c1c3408db28bf623590d067c8c9a150124c6ec2665ed844cc24d", func := "loop.example/g00459/laws.FnExactChangeOk", spec := "fnExactChangeOk", apart := false }
def FnExactChangeOkSaid : Prop := fnExactChangeOkRow.holds Try.pinned (OpenSpec.ofChange fnExactChangeOkSpec)

/-- ITS FALSE NEIGHBOUR: 'it returns false'. Refute it at one input. -/
def fnExactChangeOkWrong : ChangeSpec := { name := "fnExactChangeOk", fn := fun _ => fun
  | [d1, d2] => { results := [.lit (.bool false)], args := [d1, d2] }
  | _ => none }
def FnExactChangeOkWrongFalsely : Prop := fnExactChangeOkRow.holds Try.pinned (OpenSpec.ofChange fnExactChangeOkWrong)

/-- 'laws.FnExactOptionsOk': WHATEVER THE INPUT: true; the input reads as it did. -/
def fnExactOptionsOkSpec : ChangeSpec := { name := "fnExactOptionsOk", fn := fun _ => fun
  | [d] => { results := [.lit (.bool true)], args := [d] }
  | _ => none }
def fnExactOptionsOkRow : OpenClaim := { program := "ytbddfbgbjlfocaa", sum := "1bb3af04a0b6c1c3408db28bf623590d067c8c9a150124c6ec2665ed844cc24d", func := "loop.example/g00459/laws.FnExactOptionsOk", spec := "fnExactOptionsOk", apart := false }
def FnExactOptionsOkSaid : Prop := fnExactOptionsOkRow.holds Try.pinned (OpenSpec.ofChange fnExactOptionsOkSpec)

/-- ITS FALSE NEIGHBOUR: 'it returns false'. Refute it at one input. -/
def fnExactOptionsOkWrong : ChangeSpec := { name := "fnExactOptionsOk", fn := fun _ => fun
  | [d] => { results := [.lit (.bool false)], args := [d] }
  | _ => none }
def FnExactOptionsOkWrongFalsely : Prop := fnExactOptionsOkRow.holds Try.pinned (OpenSpec.ofChange fnExactOptionsOkWrong)

/-- 'laws.FnExactMovedBy': WHATEVER THE INPUT: true; the input reads as it did. -/
def fnExactMovedBySpec : ChangeSpec := { name := "fnExactMovedBy", fn := fun _ => fun
  | [d1, d2] => { results := [.lit (.bool true)], args := [d1, d2] }
  | _ => none }
def fnExactMovedByRow : OpenClaim := { program := "ytbddfbgbjlfocaa", sum := "1bb3af04a0b6c1c3408db28bf623590d067c8c9a150124c6ec2665ed844cc24d", func := "loop.example/g00459/laws.FnExactMovedBy", spec := "fnExactMovedBy", apart := false }
def FnExactMovedBySaid : Prop := fnExactMovedByRow.holds Try.pinned (OpenSpec.ofChange fnExactMovedBySpec)

/-- ITS FALSE NEIGHBOUR: 'it returns false'. Refute it at one input. -/
def fnExactMovedByWrong : ChangeSpec := { name := "fnExactMovedBy", fn := fun _ => fun
  | [d1, d2] => { results := [.lit (.bool false)], args := [d1, d2] }
  | _ => none }
def FnExactMovedByWrongFalsely : Prop := fnExactMovedByRow.holds Try.pinned (OpenSpec.ofChange fnExactMovedByWrong)

/-- 'laws.FnExactChanged': WHATEVER THE INPUT: true; the input reads as it did. -/
def fnExactChangedSpec : ChangeSpec := { name := "fnExactChanged", fn := fun _ => fun
  | [d1, d2] => { results := [.lit (.bool true)], args := [d1, d2] }
  | _ => none }
def fnExactChangedRow : OpenClaim := { program := "ytbddfbgbjlfocaa", sum := "1bb3af04a0b6c1c3408db28bf623590d067c8c9a150124c6ec2665ed844cc24d", func := "loop.example/g00459/laws.FnExactChanged", spec := "fnExactChanged", apart := false }
def FnExactChangedSaid : Prop := fnExactChangedRow.holds Try.pinned (OpenSpec.ofChange fnExactChangedSpec)

/-- ITS FALSE NEIGHBOUR: 'it returns false'. Refute it at one input. -/
def fnExactChangedWrong : ChangeSpec := { name := "fnExactChanged", fn := fun _ => fun
  | [d1, d2] => { results := [.lit (.bool false)], args := [d1, d2] }
  | _ => none }
def FnExactChangedWrongFalsely : Prop := fnExactChangedRow.holds Try.pinned (OpenSpec.ofChange fnExactChangedWrong)

/-- 'laws.FnExactChangeOf': WHATEVER THE INPUT: true; the input reads as it did. -/
def fnExactChangeOfSpec : ChangeSpec := { name := "fnExactChangeOf", fn := fun _ => fun
  | [d1, d2] => { results := [.lit (.bool true)], args := [d1, d2] }
  | _ => none }
def fnExactChangeOfRow : OpenClaim := { program := "ytbddfbgbjlfocaa", sum := "1bb3af04a0b6c1c3408db28bf623590d067c8c9a150124c6ec2665ed844cc24d", func := "loop.example/g00459/laws.FnExactChangeOf", spec := "fnExactChangeOf", apart := false }
def FnExactChangeOfSaid : Prop := fnExactChangeOfRow.holds Try.pinned (OpenSpec.ofChange fnExactChangeOfSpec)

/-- ITS FALSE NEIGHBOUR: 'it returns false'. Refute it at one input. -/
def fnExactChangeOfWrong : ChangeSpec := { name := "fnExactChangeOf", fn := fun _ => fun
  | [d1, d2] => { results := [.lit (.bool false)], args := [d1, d2] }
  | _ => none }
def FnExactChangeOfWrongFalsely : Prop := fnExactChangeOfRow.holds Try.pinned (OpenSpec.ofChange fnExactChangeOfWrong)

/-- 'laws.FnExactBackChange': WHATEVER THE INPUT: true; the input reads as it did. -/
def fnExactBackChangeSpec : ChangeSpec := { name := "fnExactBackChange", fn := fun _ => fun
  | [d1, d2] => { results := [.lit (.bool true)], args := [d1, d2] }
  | _ => none }
def fnExactBackChangeRow : OpenClaim := { program := "ytbddfbgbjlfocaa", sum := "1bb3af04a0b6c1c3408db28bf623590d067c8c9a150124c6ec2665ed844cc24d", func := "loop.example/g00459/laws.FnExactBackChange", spec := "fnExactBackChange", apart := false }
def FnExactBackChangeSaid : Prop := fnExactBackChangeRow.holds Try.pinned (OpenSpec.ofChange fnExactBackChangeSpec)

/-- ITS FALSE NEIGHBOUR: 'it returns false'. Refute it at one input. -/
def fnExactBackChangeWrong : ChangeSpec := { name := "fnExactBackChange", fn := fun _ => fun
  | [d1, d2] => { results := [.lit (.bool false)], args := [d1, d2] }
  | _ => none }
def FnExactBackChangeWrongFalsely : Prop := fnExactBackChangeRow.holds Try.pinned (OpenSpec.ofChange fnExactBackChangeWrong)

/-- 'laws.FnExactDocsOk': WHATEVER THE INPUT: true; the input reads as it did. -/
def fnExactDocsOkSpec : ChangeSpec := { name := "fnExactDocsOk", fn := fun _ => fun
  | [d] => { results := [.lit (.bool true)], args := [d] }
  | _ => none }
def fnExactDocsOkRow : OpenClaim := { program := "ytbddfbgbjlfocaa", sum := "1bb3af04a0b6c1c3408db28bf623590d067c8c9a150124c6ec2665ed844cc24d", func := "loop.example/g00459/laws.FnExactDocsOk", spec := "fnExactDocsOk", apart := false }
def FnExactDocsOkSaid : Prop := fnExactDocsOkRow.holds Try.pinned (OpenSpec.ofChange fnExactDocsOkSpec)

/-- ITS FALSE NEIGHBOUR: 'it returns false'. Refute it at one input. -/
def fnExactDocsOkWrong : ChangeSpec := { name := "fnExactDocsOk", fn := fun _ => fun
  | [d] => { results := [.lit (.bool false)], args := [d] }
  | _ => none }
def FnExactDocsOkWrongFalsely : Prop := fnExactDocsOkRow.holds Try.pinned (OpenSpec.ofChange fnExactDocsOkWrong)

/-- 'laws.FnExactChangedAll': WHATEVER THE INPUT: true; the input reads as it did. -/
def fnExactChangedAllSpec : ChangeSpec := { name := "fnExactChangedAll", fn := fun _ => fun
  | [d1, d2] => { results := [.lit (.bool true)], args := [d1, d2] }
  | _ => none }
def fnExactChangedAllRow : OpenClaim := { program := "ytbddfbgbjlfocaa", sum := "1bb3af04a0b6c1c3408db28bf623590d067c8c9a150124c6ec2665ed844cc24d", func := "loop.example/g00459/laws.FnExactChangedAll", spec := "fnExactChangedAll", apart := false }
def FnExactChangedAllSaid : Prop := fnExactChangedAllRow.holds Try.pinned (OpenSpec.ofChange fnExactChangedAllSpec)

/-- ITS FALSE NEIGHBOUR: 'it returns false'. Refute it at one input. -/
def fnExactChangedAllWrong : ChangeSpec := { name := "fnExactChangedAll", fn := fun _ => fun
  | [d1, d2] => { results := [.lit (.bool false)], args := [d1, d2] }
  | _ => none }
def FnExactChangedAllWrongFalsely : Prop := fnExactChangedAllRow.holds Try.pinned (OpenSpec.ofChange fnExactChangedAllWrong)

/-- 'laws.FnChanges': WHATEVER THE INPUT: true; the input reads as it did. -/
def fnChangesSpec : ChangeSpec := { name := "fnChanges", fn := fun _ => fun
  | [d] => { results := [.lit (.bool true)], args := [d] }
  | _ => none }
def fnChangesRow : OpenClaim := { program := "ytbddfbgbjlfocaa", sum := "1bb3af04a0b6c1c3408db28bf623590d067c8c9a150124c6ec2665ed844cc24d", func := "loop.example/g00459/laws.FnChanges", spec := "fnChanges", apart := false }
def FnChangesSaid : Prop := fnChangesRow.holds Try.pinned (OpenSpec.ofChange fnChangesSpec)

/-- ITS FALSE NEIGHBOUR: 'it returns false'. Refute it at one input. -/
def fnChangesWrong : ChangeSpec := { name := "fnChanges", fn := fun _ => fun
  | [d] => { results := [.lit (.bool false)], args := [d] }
  | _ => none }
def FnChangesWrongFalsely : Prop := fnChangesRow.holds Try.pinned (OpenSpec.ofChange fnChangesWrong)

/-- 'laws.FnExactCacheNew': WHATEVER THE INPUT: true; the input reads as it did. -/
def fnExactCacheNewSpec : ChangeSpec := { name := "fnExactCacheNew", fn := fun _ => fun
  | [d] => { results := [.lit (.bool true)], args := [d] }
  | _ => none }
def fnExactCacheNewRow : OpenClaim := { program := "ytbddfbgbjlfocaa", sum := "1bb3af04a0b6c1c3408db28bf623590d067c8c9a150124c6ec2665ed844cc24d", func := "loop.example/g00459/laws.FnExactCacheNew", spec := "fnExactCacheNew", apart := false }
def FnExactCacheNewSaid : Prop := fnExactCacheNewRow.holds Try.pinned (OpenSpec.ofChange fnExactCacheNewSpec)

/-- ITS FALSE NEIGHBOUR: 'it returns false'. Refute it at one input. -/
def fnExactCacheNewWrong : ChangeSpec := { name := "fnExactCacheNew", fn := fun _ => fun
  | [d] => { results := [.lit (.bool false)], args := [d] }
  | _ => none }
def FnExactCacheNewWrongFalsely : Prop := fnExactCacheNewRow.holds Try.pinned (OpenSpec.ofChange fnExactCacheNewWrong)

/-- 'laws.FnExactCacheAt': WHATEVER THE INPUT: true; the input reads as it did. -/
def fnExactCacheAtSpec : ChangeSpec := { name := "fnExactCacheAt", fn := fun _ => fun
  | [d1, d2, d3, d4] => { results := [.lit (.bool true)], args := [d1, d2, d3, d4] }
  | _ => none }
def fnExactCacheAtRow : OpenClaim := { program := "ytbddfbgbjlfocaa", sum := "1bb3af04a0b6c1c3408db28bf623590d067c8c9a150124c6ec2665ed844cc24d", func := "loop.example/g00459/laws.FnExactCacheAt", spec := "fnExactCacheAt", unfollowed := true, recurses := true, apart := false }
def FnExactCacheAtSaid : Prop := fnExactCacheAtRow.holds Try.pinned (OpenSpec.ofChange fnExactCacheAtSpec)

/-- ITS FALSE NEIGHBOUR: 'it returns false'. Refute it at one input. -/
def fnExactCacheAtWrong : ChangeSpec := { name := "fnExactCacheAt", fn := fun _ => fun
  | [d1, d2, d3, d4] => { results := [.lit (.bool false)], args := [d1, d2, d3, d4] }
  | _ => none }
def FnExactCacheAtWrongFalsely : Prop := fnExactCacheAtRow.holds Try.pinned (OpenSpec.ofChange fnExactCacheAtWrong)

/-- 'laws.FnExactChangedDocs': WHATEVER THE INPUT: true; the input reads as it did. -/
def fnExactChangedDocsSpec : ChangeSpec := { name := "fnExactChangedDocs", fn := fun _ => fun
  | [d1, d2] => { results := [.lit (.bool true)], args := [d1, d2] }
  | _ => none }
def fnExactChangedDocsRow : OpenClaim := { program := "ytbddfbgbjlfocaa", sum := "1bb3af04a0b6c1c3408db28bf623590d067c8c9a150124c6ec2665ed844cc24d", func := "loop.example/g00459/laws.FnExactChangedDocs", spec := "fnExactChangedDocs", apart := false }
def FnExactChangedDocsSaid : Prop := fnExactChangedDocsRow.holds Try.pinned (OpenSpec.ofChange fnExactChangedDocsSpec)

/-- ITS FALSE NEIGHBOUR: 'it returns false'. Refute it at one input. -/
def fnExactChangedDocsWrong : ChangeSpec := { name := "fnExactChangedDocs", fn := fun _ => fun
  | [d1, d2] => { results := [.lit (.bool false)], args := [d1, d2] }
  | _ => none }
def FnExactChangedDocsWrongFalsely : Prop := fnExactChangedDocsRow.holds Try.pinned (OpenSpec.ofChange fnExactChangedDocsWrong)

/-- 'laws.FnExactCacheOk': WHATEVER THE INPUT: true; the input reads as it did. -/
def fnExactCacheOkSpec : ChangeSpec := { name := "fnExactCacheOk", fn := fun _ => fun
  | [d] => { results := [.lit (.bool true)], args := [d] }
  | _ => none }
def fnExactCacheOkRow : OpenClaim := { program := "ytbddfbgbjlfocaa", sum := "1bb3af04a0b6c1c3408db28bf623590d067c8c9a150124c6ec2665ed844cc24d", func := "loop.example/g00459/laws.FnExactCacheOk", spec := "fnExactCacheOk", unfollowed := true, recurses := true, apart := false }
def FnExactCacheOkSaid : Prop := fnExactCacheOkRow.holds Try.pinned (OpenSpec.ofChange fnExactCacheOkSpec)

/-- ITS FALSE NEIGHBOUR: 'it returns false'. Refute it at one input. -/
def fnExactCacheOkWrong : ChangeSpec := { name := "fnExactCacheOk", fn := fun _ => fun
  | [d] => { results := [.lit (.bool false)], args := [d] }
  | _ => none }
def FnExactCacheOkWrongFalsely : Prop := fnExactCacheOkRow.holds Try.pinned (OpenSpec.ofChange fnExactCacheOkWrong)

/-- 'laws.FnExactDocsText': WHATEVER THE INPUT: true; the input reads as it did. -/
def fnExactDocsTextSpec : ChangeSpec := { name := "fnExactDocsText", fn := fun _ => fun
  | [d] => { results := [.lit (.bool true)], args := [d] }
  | _ => none }
def fnExactDocsTextRow : OpenClaim := { program := "ytbddfbgbjlfocaa", sum := "1bb3af04a0b6c1c3408db28bf623590d067c8c9a150124c6ec2665ed844cc24d", func := "loop.example/g00459/laws.FnExactDocsText", spec := "fnExactDocsText", inPlace := ["internal/abi.NoEscape"], apart := false }
def FnExactDocsTextSaid : Prop := fnExactDocsTextRow.holds Try.pinned (OpenSpec.ofChange fnExactDocsTextSpec)

/-- ITS FALSE NEIGHBOUR: 'it returns false'. Refute it at one input. -/
def fnExactDocsTextWrong : ChangeSpec := { name := "fnExactDocsText", fn := fun _ => fun
  | [d] => { results := [.lit (.bool false)], args := [d] }
  | _ => none }
def FnExactDocsTextWrongFalsely : Prop := fnExactDocsTextRow.holds Try.pinned (OpenSpec.ofChange fnExactDocsTextWrong)

/-- 'laws.FnExactCachePut': WHATEVER THE INPUT: true; the input reads as it did. -/
def fnExactCachePutSpec : ChangeSpec := { name := "fnExactCachePut", fn := fun _ => fun
  | [d1, d2] => { results := [.lit (.bool true)], args := [d1, d2] }
  | _ => none }
def fnExactCachePutRow : OpenClaim := { program := "ytbddfbgbjlfocaa", sum := "1bb3af04a0b6c1c3408db28bf623590d067c8c9a150124c6ec2665ed844cc24d", func := "loop.example/g00459/laws.FnExactCachePut", spec := "fnExactCachePut", unfollowed := true, recurses := true, apart := false }
def FnExactCachePutSaid : Prop := fnExactCachePutRow.holds Try.pinned (OpenSpec.ofChange fnExactCachePutSpec)

/-- ITS FALSE NEIGHBOUR: 'it returns false'. Refute it at one input. -/
def fnExactCachePutWrong : ChangeSpec := { name := "fnExactCachePut", fn := fun _ => fun
  | [d1, d2] => { results := [.lit (.bool false)], args := [d1, d2] }
  | _ => none }
def FnExactCachePutWrongFalsely : Prop := fnExactCachePutRow.holds Try.pinned (OpenSpec.ofChange fnExactCachePutWrong)

/-- 'laws.FnExactReadDocs': WHATEVER THE INPUT: true; the input reads as it did. -/
def fnExactReadDocsSpec : ChangeSpec := { name := "fnExactReadDocs", fn := fun _ => fun
  | [d] => { results := [.lit (.bool true)], args := [d] }
  | _ => none }
def fnExactReadDocsRow : OpenClaim := { program := "ytbddfbgbjlfocaa", sum := "1bb3af04a0b6c1c3408db28bf623590d067c8c9a150124c6ec2665ed844cc24d", func := "loop.example/g00459/laws.FnExactReadDocs", spec := "fnExactReadDocs", inPlace := ["internal/bytealg.IndexByteString", "internal/bytealg.IndexString"], named := ["internal/bytealg.MaxLen"], apart := false }
def FnExactReadDocsSaid : Prop := fnExactReadDocsRow.holds Try.pinned (OpenSpec.ofChange fnExactReadDocsSpec)

/-- ITS FALSE NEIGHBOUR: 'it returns false'. Refute it at one input. -/
def fnExactReadDocsWrong : ChangeSpec := { name := "fnExactReadDocs", fn := fun _ => fun
  | [d] => { results := [.lit (.bool false)], args := [d] }
  | _ => none }
def FnExactReadDocsWrongFalsely : Prop := fnExactReadDocsRow.holds Try.pinned (OpenSpec.ofChange fnExactReadDocsWrong)

/- THE SECOND FORM. 'bulk': how many values and letters a reading holds, each counted each time it is reached (what is shared counts as often as it is met; a slice's spare places count too). A statement '..UptoSaid' is the law's where the arguments, and the package variables that the reading takes, are together of bulk at most 1048576: NARROWER than '..Said'. Prove '..Said' where nothing that the law and all that it calls make is longer than what came in: it says more and counts as full. Else prove '..UptoSaid'. A law counts once. -/
mutual
def uptoBulk {H : Type} : DataW H → Nat
  | .lit (.string bytes) => bytes.length + 1
  | .lit _ => 1
  | .nil => 1
  | .ptr d => uptoBulk d + 1
  | .slice elems spare => uptoBulkAll elems + uptoBulkAll spare + 1
  | .agg parts => uptoBulkAll parts + 1
  | .iface _ d => uptoBulk d + 1
  | .map entries => uptoBulkEntries entries + 1
  | .held _ => 1
def uptoBulkAll {H : Type} : List (DataW H) → Nat
  | [] => 0
  | d :: r => uptoBulk d + uptoBulkAll r
def uptoBulkEntries {H : Type} : List (Lit × DataW H) → Nat
  | [] => 0
  | x :: r => uptoBulkEntry x + uptoBulkEntries r
def uptoBulkEntry {H : Type} : Lit × DataW H → Nat
  | (.string bytes, d) => bytes.length + uptoBulk d + 1
  | (_, d) => uptoBulk d + 1
 end
def uptoSmall : (H : Type) → List (DataW H) → Bool := fun _ ds => decide (uptoBulkAll ds ≤ 1048576)
def OpenSpec.upto (s : _root_.Go.ChangeSpec) : _root_.Go.OpenSpec := { _root_.Go.OpenSpec.ofChange s with cond := some uptoSmall }

/-- 'laws.FnExactShowState', WHERE WHAT IT READS IS OF BULK AT MOST 1048576: true; the input reads as it did. -/
def fnExactShowStateUptoRow : OpenClaim := { program := "ytbddfbgbjlfocaa", sum := "1bb3af04a0b6c1c3408db28bf623590d067c8c9a150124c6ec2665ed844cc24d", func := "loop.example/g00459/laws.FnExactShowState", spec := "fnExactShowState", apart := false, narrowed := true }
def FnExactShowStateUptoSaid : Prop := fnExactShowStateUptoRow.holds Try.pinned (OpenSpec.upto fnExactShowStateSpec)

/-- 'laws.FnExactChangeOk', WHERE WHAT IT READS IS OF BULK AT MOST 1048576: true; the input reads as it did. -/
def fnExactChangeOkUptoRow : OpenClaim := { program := "ytbddfbgbjlfocaa", sum := "1bb3af04a0b6c1c3408db28bf623590d067c8c9a150124c6ec2665ed844cc24d", func := "loop.example/g00459/laws.FnExactChangeOk", spec := "fnExactChangeOk", apart := false, narrowed := true }
def FnExactChangeOkUptoSaid : Prop := fnExactChangeOkUptoRow.holds Try.pinned (OpenSpec.upto fnExactChangeOkSpec)

/-- 'laws.FnExactOptionsOk', WHERE WHAT IT READS IS OF BULK AT MOST 1048576: true; the input reads as it did. -/
def fnExactOptionsOkUptoRow : OpenClaim := { program := "ytbddfbgbjlfocaa", sum := "1bb3af04a0b6c1c3408db28bf623590d067c8c9a150124c6ec2665ed844cc24d", func := "loop.example/g00459/laws.FnExactOptionsOk", spec := "fnExactOptionsOk", apart := false, narrowed := true }
def FnExactOptionsOkUptoSaid : Prop := fnExactOptionsOkUptoRow.holds Try.pinned (OpenSpec.upto fnExactOptionsOkSpec)

/-- 'laws.FnExactMovedBy', WHERE WHAT IT READS IS OF BULK AT MOST 1048576: true; the input reads as it did. -/
def fnExactMovedByUptoRow : OpenClaim := { program := "ytbddfbgbjlfocaa", sum := "1bb3af04a0b6c1c3408db28bf623590d067c8c9a150124c6ec2665ed844cc24d", func := "loop.example/g00459/laws.FnExactMovedBy", spec := "fnExactMovedBy", apart := false, narrowed := true }
def FnExactMovedByUptoSaid : Prop := fnExactMovedByUptoRow.holds Try.pinned (OpenSpec.upto fnExactMovedBySpec)

/-- 'laws.FnExactChanged', WHERE WHAT IT READS IS OF BULK AT MOST 1048576: true; the input reads as it did. -/
def fnExactChangedUptoRow : OpenClaim := { program := "ytbddfbgbjlfocaa", sum := "1bb3af04a0b6c1c3408db28bf623590d067c8c9a150124c6ec2665ed844cc24d", func := "loop.example/g00459/laws.FnExactChanged", spec := "fnExactChanged", apart := false, narrowed := true }
def FnExactChangedUptoSaid : Prop := fnExactChangedUptoRow.holds Try.pinned (OpenSpec.upto fnExactChangedSpec)

/-- 'laws.FnExactChangeOf', WHERE WHAT IT READS IS OF BULK AT MOST 1048576: true; the input reads as it did. -/
def fnExactChangeOfUptoRow : OpenClaim := { program := "ytbddfbgbjlfocaa", sum := "1bb3af04a0b6c1c3408db28bf623590d067c8c9a150124c6ec2665ed844cc24d", func := "loop.example/g00459/laws.FnExactChangeOf", spec := "fnExactChangeOf", apart := false, narrowed := true }
def FnExactChangeOfUptoSaid : Prop := fnExactChangeOfUptoRow.holds Try.pinned (OpenSpec.upto fnExactChangeOfSpec)

/-- 'laws.FnExactBackChange', WHERE WHAT IT READS IS OF BULK AT MOST 1048576: true; the input reads as it did. -/
def fnExactBackChangeUptoRow : OpenClaim := { program := "ytbddfbgbjlfocaa", sum := "1bb3af04a0b6c1c3408db28bf623590d067c8c9a150124c6ec2665ed844cc24d", func := "loop.example/g00459/laws.FnExactBackChange", spec := "fnExactBackChange", apart := false, narrowed := true }
def FnExactBackChangeUptoSaid : Prop := fnExactBackChangeUptoRow.holds Try.pinned (OpenSpec.upto fnExactBackChangeSpec)

/-- 'laws.FnExactDocsOk', WHERE WHAT IT READS IS OF BULK AT MOST 1048576: true; the input reads as it did. -/
def fnExactDocsOkUptoRow : OpenClaim := { program := "ytbddfbgbjlfocaa", sum := "1bb3af04a0b6c1c3408db28bf623590d067c8c9a150124c6ec2665ed844cc24d", func := "loop.example/g00459/laws.FnExactDocsOk", spec := "fnExactDocsOk", apart := false, narrowed := true }
def FnExactDocsOkUptoSaid : Prop := fnExactDocsOkUptoRow.holds Try.pinned (OpenSpec.upto fnExactDocsOkSpec)

/-- 'laws.FnExactChangedAll', WHERE WHAT IT READS IS OF BULK AT MOST 1048576: true; the input reads as it did. -/
def fnExactChangedAllUptoRow : OpenClaim := { program := "ytbddfbgbjlfocaa", sum := "1bb3af04a0b6c1c3408db28bf623590d067c8c9a150124c6ec2665ed844cc24d", func := "loop.example/g00459/laws.FnExactChangedAll", spec := "fnExactChangedAll", apart := false, narrowed := true }
def FnExactChangedAllUptoSaid : Prop := fnExactChangedAllUptoRow.holds Try.pinned (OpenSpec.upto fnExactChangedAllSpec)

/-- 'laws.FnChanges', WHERE WHAT IT READS IS OF BULK AT MOST 1048576: true; the input reads as it did. -/
def fnChangesUptoRow : OpenClaim := { program := "ytbddfbgbjlfocaa", sum := "1bb3af04a0b6c1c3408db28bf623590d067c8c9a150124c6ec2665ed844cc24d", func := "loop.example/g00459/laws.FnChanges", spec := "fnChanges", apart := false, narrowed := true }
def FnChangesUptoSaid : Prop := fnChangesUptoRow.holds Try.pinned (OpenSpec.upto fnChangesSpec)

/-- 'laws.FnExactCacheNew', WHERE WHAT IT READS IS OF BULK AT MOST 1048576: true; the input reads as it did. -/
def fnExactCacheNewUptoRow : OpenClaim := { program := "ytbddfbgbjlfocaa", sum := "1bb3af04a0b6c1c3408db28bf623590d067c8c9a150124c6ec2665ed844cc24d", func := "loop.example/g00459/laws.FnExactCacheNew", spec := "fnExactCacheNew", apart := false, narrowed := true }
def FnExactCacheNewUptoSaid : Prop := fnExactCacheNewUptoRow.holds Try.pinned (OpenSpec.upto fnExactCacheNewSpec)

/-- 'laws.FnExactCacheAt', WHERE WHAT IT READS IS OF BULK AT MOST 1048576: true; the input reads as it did. -/
def fnExactCacheAtUptoRow : OpenClaim := { program := "ytbddfbgbjlfocaa", sum := "1bb3af04a0b6c1c3408db28bf623590d067c8c9a150124c6ec2665ed844cc24d", func := "loop.example/g00459/laws.FnExactCacheAt", spec := "fnExactCacheAt", unfollowed := true, recurses := true, apart := false, narrowed := true }
def FnExactCacheAtUptoSaid : Prop := fnExactCacheAtUptoRow.holds Try.pinned (OpenSpec.upto fnExactCacheAtSpec)

/-- 'laws.FnExactChangedDocs', WHERE WHAT IT READS IS OF BULK AT MOST 1048576: true; the input reads as it did. -/
def fnExactChangedDocsUptoRow : OpenClaim := { program := "ytbddfbgbjlfocaa", sum := "1bb3af04a0b6c1c3408db28bf623590d067c8c9a150124c6ec2665ed844cc24d", func := "loop.example/g00459/laws.FnExactChangedDocs", spec := "fnExactChangedDocs", apart := false, narrowed := true }
def FnExactChangedDocsUptoSaid : Prop := fnExactChangedDocsUptoRow.holds Try.pinned (OpenSpec.upto fnExactChangedDocsSpec)

/-- 'laws.FnExactCacheOk', WHERE WHAT IT READS IS OF BULK AT MOST 1048576: true; the input reads as it did. -/
def fnExactCacheOkUptoRow : OpenClaim := { program := "ytbddfbgbjlfocaa", sum := "1bb3af04a0b6c1c3408db28bf623590d067c8c9a150124c6ec2665ed844cc24d", func := "loop.example/g00459/laws.FnExactCacheOk", spec := "fnExactCacheOk", unfollowed := true, recurses := true, apart := false, narrowed := true }
def FnExactCacheOkUptoSaid : Prop := fnExactCacheOkUptoRow.holds Try.pinned (OpenSpec.upto fnExactCacheOkSpec)

/-- 'laws.FnExactDocsText', WHERE WHAT IT READS IS OF BULK AT MOST 1048576: true; the input reads as it did. -/
def fnExactDocsTextUptoRow : OpenClaim := { program := "ytbddfbgbjlfocaa", sum := "1bb3af04a0b6c1c3408db28bf623590d067c8c9a150124c6ec2665ed844cc24d", func := "loop.example/g00459/laws.FnExactDocsText", spec := "fnExactDocsText", inPlace := ["internal/abi.NoEscape"], apart := false, narrowed := true }
def FnExactDocsTextUptoSaid : Prop := fnExactDocsTextUptoRow.holds Try.pinned (OpenSpec.upto fnExactDocsTextSpec)

/-- 'laws.FnExactCachePut', WHERE WHAT IT READS IS OF BULK AT MOST 1048576: true; the input reads as it did. -/
def fnExactCachePutUptoRow : OpenClaim := { program := "ytbddfbgbjlfocaa", sum := "1bb3af04a0b6c1c3408db28bf623590d067c8c9a150124c6ec2665ed844cc24d", func := "loop.example/g00459/laws.FnExactCachePut", spec := "fnExactCachePut", unfollowed := true, recurses := true, apart := false, narrowed := true }
def FnExactCachePutUptoSaid : Prop := fnExactCachePutUptoRow.holds Try.pinned (OpenSpec.upto fnExactCachePutSpec)

/-- 'laws.FnExactReadDocs', WHERE WHAT IT READS IS OF BULK AT MOST 1048576: true; the input reads as it did. -/
def fnExactReadDocsUptoRow : OpenClaim := { program := "ytbddfbgbjlfocaa", sum := "1bb3af04a0b6c1c3408db28bf623590d067c8c9a150124c6ec2665ed844cc24d", func := "loop.example/g00459/laws.FnExactReadDocs", spec := "fnExactReadDocs", inPlace := ["internal/bytealg.IndexByteString", "internal/bytealg.IndexString"], named := ["internal/bytealg.MaxLen"], apart := false, narrowed := true }
def FnExactReadDocsUptoSaid : Prop := fnExactReadDocsUptoRow.holds Try.pinned (OpenSpec.upto fnExactReadDocsSpec)

end Rows
end Go.Proofs.Ytbddfbgbjlfocaa
