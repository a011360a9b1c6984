/-
  No cell of these rows narrows 'for every input' (looked for: loops, veiled, ifaces, maps, wideKeys, modest, calm, conditions, laid).
  DERIVED. THE GIVEN ROWS OF THIS SEAT. 4 by the template 'for every input the law returns true; each argument reads behind the call as it read before'; 0 by the template 'total and deterministic' (their statements: YtfapdhfjcnehhaaTotals.lean).
  GIVEN WITH THE SEED: the statements are not yours to turn. If you find one false, say at which input.
  Laid BY PROGRAM, IN A SANDBOX (cutbox-rows.mjs): the forced cells as the released guide's own fill.sh prints them over the translation dcdc7ba226223fcf… (all of the seat's roots in one cut). By AI agents, Wed Nov 11 2026. No macro, syntax, notation, axiom, sorry.
-/
import Derived.Test.YtfapdhfjcnehhaaChecked
import GoSem.Claim
import GoSem.ClaimJoined
import GoSem.ClaimMapViews
import Derived.JoinedTies
import Derived.KernelRfl
namespace Go.Proofs.Ytfapdhfjcnehhaa
/- THE CELL 'sum', in the pinned program and in every row, IS THE sha256 OF THE DUMP (.gsa) THAT YtfapdhfjcnehhaaProg.lean LOADS. Nothing in Lean hashes anything: it is a label: what it is worth is what the hold of that sum in a sandbox is worth. -/
noncomputable def Try.pinned : Pinned := { name := "ytfapdhfjcnehhaa", sum := "dcdc7ba226223fcf50b49f45dba04ca820e2891cd5db517f8a88e04283262b3b", checked := Try.checked }
namespace Rows
def none {H : Type} : Left H := { results := [], args := [] }

/-- 'laws.FnExactChangedDocs': WHATEVER THE INPUT: true; the input reads as it did. -/
def fnExactChangedDocsSpec : ChangeSpec := { name := "fnExactChangedDocs", fn := fun _ => fun
  | [d1, d2] => { results := [.lit (.bool true)], args := [d1, d2] }
  | _ => none }
def fnExactChangedDocsRow : OpenClaim := { program := "ytfapdhfjcnehhaa", sum := "dcdc7ba226223fcf50b49f45dba04ca820e2891cd5db517f8a88e04283262b3b", func := "loop.example/g00459/laws.FnExactChangedDocs", spec := "fnExactChangedDocs", apart := false }
def FnExactChangedDocsSaid : Prop := fnExactChangedDocsRow.holds Try.pinned (OpenSpec.ofChange fnExactChangedDocsSpec)

/-- ITS FALSE NEIGHBOUR: 'it returns false'. Refute it at one input. -/
def fnExactChangedDocsWrong : ChangeSpec := { name := "fnExactChangedDocs", fn := fun _ => fun
  | [d1, d2] => { results := [.lit (.bool false)], args := [d1, d2] }
  | _ => none }
def FnExactChangedDocsWrongFalsely : Prop := fnExactChangedDocsRow.holds Try.pinned (OpenSpec.ofChange fnExactChangedDocsWrong)

/-- 'laws.FnExactDocsText': WHATEVER THE INPUT: true; the input reads as it did. -/
def fnExactDocsTextSpec : ChangeSpec := { name := "fnExactDocsText", fn := fun _ => fun
  | [d] => { results := [.lit (.bool true)], args := [d] }
  | _ => none }
def fnExactDocsTextRow : OpenClaim := { program := "ytfapdhfjcnehhaa", sum := "dcdc7ba226223fcf50b49f45dba04ca820e2891cd5db517f8a88e04283262b3b", func := "loop.example/g00459/laws.FnExactDocsText", spec := "fnExactDocsText", inPlace := ["internal/abi.NoEscape"], apart := false }
def FnExactDocsTextSaid : Prop := fnExactDocsTextRow.holds Try.pinned (OpenSpec.ofChange fnExactDocsTextSpec)

/-- ITS FALSE NEIGHBOUR: 'it returns false'. Refute it at one input. -/
def fnExactDocsTextWrong : ChangeSpec := { name := "fnExactDocsText", fn := fun _ => fun
  | [d] => { results := [.lit (.bool false)], args := [d] }
  | _ => none }
def FnExactDocsTextWrongFalsely : Prop := fnExactDocsTextRow.holds Try.pinned (OpenSpec.ofChange fnExactDocsTextWrong)

/-- 'laws.FnExactCachePut': WHATEVER THE INPUT: true; the input reads as it did. -/
def fnExactCachePutSpec : ChangeSpec := { name := "fnExactCachePut", fn := fun _ => fun
  | [d1, d2] => { results := [.lit (.bool true)], args := [d1, d2] }
  | _ => none }
def fnExactCachePutRow : OpenClaim := { program := "ytfapdhfjcnehhaa", sum := "dcdc7ba226223fcf50b49f45dba04ca820e2891cd5db517f8a88e04283262b3b", func := "loop.example/g00459/laws.FnExactCachePut", spec := "fnExactCachePut", unfollowed := true, recurses := true, apart := false }
def FnExactCachePutSaid : Prop := fnExactCachePutRow.holds Try.pinned (OpenSpec.ofChange fnExactCachePutSpec)

/-- ITS FALSE NEIGHBOUR: 'it returns false'. Refute it at one input. -/
def fnExactCachePutWrong : ChangeSpec := { name := "fnExactCachePut", fn := fun _ => fun
  | [d1, d2] => { results := [.lit (.bool false)], args := [d1, d2] }
  | _ => none }
def FnExactCachePutWrongFalsely : Prop := fnExactCachePutRow.holds Try.pinned (OpenSpec.ofChange fnExactCachePutWrong)

/-- 'laws.FnExactReadDocs': WHATEVER THE INPUT: true; the input reads as it did. -/
def fnExactReadDocsSpec : ChangeSpec := { name := "fnExactReadDocs", fn := fun _ => fun
  | [d] => { results := [.lit (.bool true)], args := [d] }
  | _ => none }
def fnExactReadDocsRow : OpenClaim := { program := "ytfapdhfjcnehhaa", sum := "dcdc7ba226223fcf50b49f45dba04ca820e2891cd5db517f8a88e04283262b3b", func := "loop.example/g00459/laws.FnExactReadDocs", spec := "fnExactReadDocs", inPlace := ["internal/bytealg.IndexByteString", "internal/bytealg.IndexString"], named := ["internal/bytealg.MaxLen"], apart := false }
def FnExactReadDocsSaid : Prop := fnExactReadDocsRow.holds Try.pinned (OpenSpec.ofChange fnExactReadDocsSpec)

/-- ITS FALSE NEIGHBOUR: 'it returns false'. Refute it at one input. -/
def fnExactReadDocsWrong : ChangeSpec := { name := "fnExactReadDocs", fn := fun _ => fun
  | [d] => { results := [.lit (.bool false)], args := [d] }
  | _ => none }
def FnExactReadDocsWrongFalsely : Prop := fnExactReadDocsRow.holds Try.pinned (OpenSpec.ofChange fnExactReadDocsWrong)

/- THE SECOND FORM. 'bulk': how many values and letters a reading holds, each counted each time it is reached (what is shared counts as often as it is met; a slice's spare places count too). A statement '..UptoSaid' is the law's where the arguments, and the package variables that the reading takes, are together of bulk at most 1048576: NARROWER than '..Said'. Prove '..Said' where nothing that the law and all that it calls make is longer than what came in: it says more and counts as full. Else prove '..UptoSaid'. A law counts once. -/
mutual
def uptoBulk {H : Type} : DataW H → Nat
  | .lit (.string bytes) => bytes.length + 1
  | .lit _ => 1
  | .nil => 1
  | .ptr d => uptoBulk d + 1
  | .slice elems spare => uptoBulkAll elems + uptoBulkAll spare + 1
  | .agg parts => uptoBulkAll parts + 1
  | .iface _ d => uptoBulk d + 1
  | .map entries => uptoBulkEntries entries + 1
  | .held _ => 1
def uptoBulkAll {H : Type} : List (DataW H) → Nat
  | [] => 0
  | d :: r => uptoBulk d + uptoBulkAll r
def uptoBulkEntries {H : Type} : List (Lit × DataW H) → Nat
  | [] => 0
  | x :: r => uptoBulkEntry x + uptoBulkEntries r
def uptoBulkEntry {H : Type} : Lit × DataW H → Nat
  | (.string bytes, d) => bytes.length + uptoBulk d + 1
  | (_, d) => uptoBulk d + 1
 end
def uptoSmall : (H : Type) → List (DataW H) → Bool := fun _ ds => decide (uptoBulkAll ds ≤ 1048576)
def OpenSpec.upto (s : _root_.Go.ChangeSpec) : _root_.Go.OpenSpec := { _root_.Go.OpenSpec.ofChange s with cond := some uptoSmall }

/-- 'laws.FnExactChangedDocs', WHERE WHAT IT READS IS OF BULK AT MOST 1048576: true; the input reads as it did. -/
def fnExactChangedDocsUptoRow : OpenClaim := { program := "ytfapdhfjcnehhaa", sum := "dcdc7ba226223fcf50b49f45dba04ca820e2891cd5db517f8a88e04283262b3b", func := "loop.example/g00459/laws.FnExactChangedDocs", spec := "fnExactChangedDocs", apart := false, narrowed := true }
def FnExactChangedDocsUptoSaid : Prop := fnExactChangedDocsUptoRow.holds Try.pinned (OpenSpec.upto fnExactChangedDocsSpec)

/-- 'laws.FnExactDocsText', WHERE WHAT IT READS IS OF BULK AT MOST 1048576: true; the input reads as it did. -/
def fnExactDocsTextUptoRow : OpenClaim := { program := "ytfapdhfjcnehhaa", sum := "dcdc7ba226223fcf50b49f45dba04ca820e2891cd5db517f8a88e04283262b3b", func := "loop.example/g00459/laws.FnExactDocsText", spec := "fnExactDocsText", inPlace := ["internal/abi.NoEscape"], apart := false, narrowed := true }
def FnExactDocsTextUptoSaid : Prop := fnExactDocsTextUptoRow.holds Try.pinned (OpenSpec.upto fnExactDocsTextSpec)

/-- 'laws.FnExactCachePut', WHERE WHAT IT READS IS OF BULK AT MOST 1048576: true; the input reads as it did. -/
def fnExactCachePutUptoRow : OpenClaim := { program := "ytfapdhfjcnehhaa", sum := "dcdc7ba226223fcf50b49f45dba04ca820e2891cd5db517f8a88e04283262b3b", func := "loop.example/g00459/laws.FnExactCachePut", spec := "fnExactCachePut", unfollowed := true, recurses := true, apart := false, narrowed := true }
def FnExactCachePutUptoSaid : Prop := fnExactCachePutUptoRow.holds Try.pinned (OpenSpec.upto fnExactCachePutSpec)

/-- 'laws.FnExactReadDocs', WHERE WHAT IT READS IS OF BULK AT MOST 1048576: true; the input reads as it did. -/
def fnExactReadDocsUptoRow : OpenClaim := { program := "ytfapdhfjcnehhaa", sum := "dcdc7ba226223fcf50b49f45dba04ca820e2891cd5db517f8a88e04283262b3b", func := "loop.example/g00459/laws.FnExactReadDocs", spec := "fnExactReadDocs", inPlace := ["internal/bytealg.IndexByteString", "internal/bytealg.IndexString"], named := ["internal/bytealg.MaxLen"], apart := false, narrowed := true }
def FnExactReadDocsUptoSaid : Prop := fnExactReadDocsUptoRow.holds Try.pinned (OpenSpec.upto fnExactReadDocsSpec)

end Rows
end Go.Proofs.Ytfapdhfjcnehhaa
