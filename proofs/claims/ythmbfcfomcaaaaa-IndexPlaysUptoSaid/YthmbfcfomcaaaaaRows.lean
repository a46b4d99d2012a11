/-
  No cell of these rows narrows 'for every input' (looked for: loops, veiled, ifaces, maps, wideKeys, modest, calm, conditions, laid).
  DERIVED. THE GIVEN ROWS OF THIS SEAT. 10 by the template 'for every input the law returns true; each argument reads behind the call as it read before'; 0 by the template 'total and deterministic' (their statements: YthmbfcfomcaaaaaTotals.lean).
  GIVEN WITH THE SEED: the statements are not yours to turn. If you find one false, say at which input.
  Laid BY PROGRAM, IN A SANDBOX (cutbox-rows.mjs): the forced cells as the released guide's own fill.sh prints them over the translation 88e69a31ffeb3505… (all of the seat's roots in one cut). By AI agents, Wed Nov 11 2026. No macro, syntax, notation, axiom, sorry.
-/
import Derived.Test.YthmbfcfomcaaaaaChecked
import GoSem.Claim
import GoSem.ClaimJoined
import GoSem.ClaimMapViews
import Derived.JoinedTies
import Derived.KernelRfl
namespace Go.Proofs.Ythmbfcfomcaaaaa
/- THE CELL 'sum', in the pinned program and in every row, IS THE sha256 OF THE DUMP (.gsa) THAT YthmbfcfomcaaaaaProg.lean LOADS. Nothing in Lean hashes anything: it is a label: what it is worth is what the hold of that sum in a sandbox is worth. -/
noncomputable def Try.pinned : Pinned := { name := "ythmbfcfomcaaaaa", sum := "88e69a31ffeb3505d92d687964fa8789a6c9a9a406a3fb3f55d9261d7ffc78c3", checked := Try.checked }
namespace Rows
def none {H : Type} : Left H := { results := [], args := [] }

/-- 'verdererlaw05.BagPlays': WHATEVER THE INPUT: true; the input reads as it did. -/
def bagPlaysSpec : ChangeSpec := { name := "bagPlays", fn := fun _ => fun
  | [d1, d2] => { results := [.lit (.bool true)], args := [d1, d2] }
  | _ => none }
def bagPlaysRow : OpenClaim := { program := "ythmbfcfomcaaaaa", sum := "88e69a31ffeb3505d92d687964fa8789a6c9a9a406a3fb3f55d9261d7ffc78c3", func := "verderer/verdererlaw05.BagPlays", spec := "bagPlays", inPlace := ["internal/bytealg.abigen_runtime_cmpstring"], unfollowed := true, recurses := true, apart := false }
def BagPlaysSaid : Prop := bagPlaysRow.holds Try.pinned (OpenSpec.ofChange bagPlaysSpec)

/-- ITS FALSE NEIGHBOUR: 'it returns false'. Refute it at one input. -/
def bagPlaysWrong : ChangeSpec := { name := "bagPlays", fn := fun _ => fun
  | [d1, d2] => { results := [.lit (.bool false)], args := [d1, d2] }
  | _ => none }
def BagPlaysWrongFalsely : Prop := bagPlaysRow.holds Try.pinned (OpenSpec.ofChange bagPlaysWrong)

/-- 'verdererlaw05.BagOrder': WHATEVER THE INPUT: true; the input reads as it did. -/
def bagOrderSpec : ChangeSpec := { name := "bagOrder", fn := fun _ => fun
  | [d1, d2, d3] => { results := [.lit (.bool true)], args := [d1, d2, d3] }
  | _ => none }
def bagOrderRow : OpenClaim := { program := "ythmbfcfomcaaaaa", sum := "88e69a31ffeb3505d92d687964fa8789a6c9a9a406a3fb3f55d9261d7ffc78c3", func := "verderer/verdererlaw05.BagOrder", spec := "bagOrder", inPlace := ["internal/bytealg.abigen_runtime_cmpstring"], unfollowed := true, recurses := true, apart := false }
def BagOrderSaid : Prop := bagOrderRow.holds Try.pinned (OpenSpec.ofChange bagOrderSpec)

/-- ITS FALSE NEIGHBOUR: 'it returns false'. Refute it at one input. -/
def bagOrderWrong : ChangeSpec := { name := "bagOrder", fn := fun _ => fun
  | [d1, d2, d3] => { results := [.lit (.bool false)], args := [d1, d2, d3] }
  | _ => none }
def BagOrderWrongFalsely : Prop := bagOrderRow.holds Try.pinned (OpenSpec.ofChange bagOrderWrong)

/-- 'verdererlaw05.BagMerges': WHATEVER THE INPUT: true; the input reads as it did. -/
def bagMergesSpec : ChangeSpec := { name := "bagMerges", fn := fun _ => fun
  | [d1, d2, d3] => { results := [.lit (.bool true)], args := [d1, d2, d3] }
  | _ => none }
def bagMergesRow : OpenClaim := { program := "ythmbfcfomcaaaaa", sum := "88e69a31ffeb3505d92d687964fa8789a6c9a9a406a3fb3f55d9261d7ffc78c3", func := "verderer/verdererlaw05.BagMerges", spec := "bagMerges", inPlace := ["internal/bytealg.abigen_runtime_cmpstring"], unfollowed := true, recurses := true, apart := false }
def BagMergesSaid : Prop := bagMergesRow.holds Try.pinned (OpenSpec.ofChange bagMergesSpec)

/-- ITS FALSE NEIGHBOUR: 'it returns false'. Refute it at one input. -/
def bagMergesWrong : ChangeSpec := { name := "bagMerges", fn := fun _ => fun
  | [d1, d2, d3] => { results := [.lit (.bool false)], args := [d1, d2, d3] }
  | _ => none }
def BagMergesWrongFalsely : Prop := bagMergesRow.holds Try.pinned (OpenSpec.ofChange bagMergesWrong)

/-- 'verdererlaw05.BagNil': WHATEVER THE INPUT: true; the input reads as it did. -/
def bagNilSpec : ChangeSpec := { name := "bagNil", fn := fun _ => fun
  | [d1, d2] => { results := [.lit (.bool true)], args := [d1, d2] }
  | _ => none }
def bagNilRow : OpenClaim := { program := "ythmbfcfomcaaaaa", sum := "88e69a31ffeb3505d92d687964fa8789a6c9a9a406a3fb3f55d9261d7ffc78c3", func := "verderer/verdererlaw05.BagNil", spec := "bagNil", inPlace := ["internal/bytealg.abigen_runtime_cmpstring"], unfollowed := true, recurses := true, apart := false }
def BagNilSaid : Prop := bagNilRow.holds Try.pinned (OpenSpec.ofChange bagNilSpec)

/-- ITS FALSE NEIGHBOUR: 'it returns false'. Refute it at one input. -/
def bagNilWrong : ChangeSpec := { name := "bagNil", fn := fun _ => fun
  | [d1, d2] => { results := [.lit (.bool false)], args := [d1, d2] }
  | _ => none }
def BagNilWrongFalsely : Prop := bagNilRow.holds Try.pinned (OpenSpec.ofChange bagNilWrong)

/-- 'verdererlaw06.IndexPlays': WHATEVER THE INPUT: true; the input reads as it did. -/
def indexPlaysSpec : ChangeSpec := { name := "indexPlays", fn := fun _ => fun
  | [d1, d2, d3] => { results := [.lit (.bool true)], args := [d1, d2, d3] }
  | _ => none }
def indexPlaysRow : OpenClaim := { program := "ythmbfcfomcaaaaa", sum := "88e69a31ffeb3505d92d687964fa8789a6c9a9a406a3fb3f55d9261d7ffc78c3", func := "verderer/verdererlaw06.IndexPlays", spec := "indexPlays", inPlace := ["internal/bytealg.abigen_runtime_cmpstring"], unfollowed := true, recurses := true, apart := false }
def IndexPlaysSaid : Prop := indexPlaysRow.holds Try.pinned (OpenSpec.ofChange indexPlaysSpec)

/-- ITS FALSE NEIGHBOUR: 'it returns false'. Refute it at one input. -/
def indexPlaysWrong : ChangeSpec := { name := "indexPlays", fn := fun _ => fun
  | [d1, d2, d3] => { results := [.lit (.bool false)], args := [d1, d2, d3] }
  | _ => none }
def IndexPlaysWrongFalsely : Prop := indexPlaysRow.holds Try.pinned (OpenSpec.ofChange indexPlaysWrong)

/-- 'verdererlaw06.IndexWhole': WHATEVER THE INPUT: true; the input reads as it did. -/
def indexWholeSpec : ChangeSpec := { name := "indexWhole", fn := fun _ => fun
  | [d] => { results := [.lit (.bool true)], args := [d] }
  | _ => none }
def indexWholeRow : OpenClaim := { program := "ythmbfcfomcaaaaa", sum := "88e69a31ffeb3505d92d687964fa8789a6c9a9a406a3fb3f55d9261d7ffc78c3", func := "verderer/verdererlaw06.IndexWhole", spec := "indexWhole", inPlace := ["internal/bytealg.abigen_runtime_cmpstring"], unfollowed := true, recurses := true, apart := false }
def IndexWholeSaid : Prop := indexWholeRow.holds Try.pinned (OpenSpec.ofChange indexWholeSpec)

/-- ITS FALSE NEIGHBOUR: 'it returns false'. Refute it at one input. -/
def indexWholeWrong : ChangeSpec := { name := "indexWhole", fn := fun _ => fun
  | [d] => { results := [.lit (.bool false)], args := [d] }
  | _ => none }
def IndexWholeWrongFalsely : Prop := indexWholeRow.holds Try.pinned (OpenSpec.ofChange indexWholeWrong)

/-- 'verdererlaw06.IndexNil': WHATEVER THE INPUT: true; the input reads as it did. -/
def indexNilSpec : ChangeSpec := { name := "indexNil", fn := fun _ => fun
  | [d] => { results := [.lit (.bool true)], args := [d] }
  | _ => none }
def indexNilRow : OpenClaim := { program := "ythmbfcfomcaaaaa", sum := "88e69a31ffeb3505d92d687964fa8789a6c9a9a406a3fb3f55d9261d7ffc78c3", func := "verderer/verdererlaw06.IndexNil", spec := "indexNil", inPlace := ["internal/bytealg.abigen_runtime_cmpstring"], unfollowed := true, recurses := true, apart := false }
def IndexNilSaid : Prop := indexNilRow.holds Try.pinned (OpenSpec.ofChange indexNilSpec)

/-- ITS FALSE NEIGHBOUR: 'it returns false'. Refute it at one input. -/
def indexNilWrong : ChangeSpec := { name := "indexNil", fn := fun _ => fun
  | [d] => { results := [.lit (.bool false)], args := [d] }
  | _ => none }
def IndexNilWrongFalsely : Prop := indexNilRow.holds Try.pinned (OpenSpec.ofChange indexNilWrong)

/-- 'verdererlaw20.PickSums': WHATEVER THE INPUT: true; the input reads as it did. -/
def pickSumsSpec : ChangeSpec := { name := "pickSums", fn := fun _ => fun
  | [d1, d2] => { results := [.lit (.bool true)], args := [d1, d2] }
  | _ => none }
def pickSumsRow : OpenClaim := { program := "ythmbfcfomcaaaaa", sum := "88e69a31ffeb3505d92d687964fa8789a6c9a9a406a3fb3f55d9261d7ffc78c3", func := "verderer/verdererlaw20.PickSums", spec := "pickSums", inPlace := ["internal/bytealg.abigen_runtime_cmpstring"], unfollowed := true, recurses := true, apart := false }
def PickSumsSaid : Prop := pickSumsRow.holds Try.pinned (OpenSpec.ofChange pickSumsSpec)

/-- ITS FALSE NEIGHBOUR: 'it returns false'. Refute it at one input. -/
def pickSumsWrong : ChangeSpec := { name := "pickSums", fn := fun _ => fun
  | [d1, d2] => { results := [.lit (.bool false)], args := [d1, d2] }
  | _ => none }
def PickSumsWrongFalsely : Prop := pickSumsRow.holds Try.pinned (OpenSpec.ofChange pickSumsWrong)

/-- 'verdererlaw20.PickNil': WHATEVER THE INPUT: true; the input reads as it did. -/
def pickNilSpec : ChangeSpec := { name := "pickNil", fn := fun _ => fun
  | [d] => { results := [.lit (.bool true)], args := [d] }
  | _ => none }
def pickNilRow : OpenClaim := { program := "ythmbfcfomcaaaaa", sum := "88e69a31ffeb3505d92d687964fa8789a6c9a9a406a3fb3f55d9261d7ffc78c3", func := "verderer/verdererlaw20.PickNil", spec := "pickNil", inPlace := ["internal/bytealg.abigen_runtime_cmpstring"], unfollowed := true, recurses := true, apart := false }
def PickNilSaid : Prop := pickNilRow.holds Try.pinned (OpenSpec.ofChange pickNilSpec)

/-- ITS FALSE NEIGHBOUR: 'it returns false'. Refute it at one input. -/
def pickNilWrong : ChangeSpec := { name := "pickNil", fn := fun _ => fun
  | [d] => { results := [.lit (.bool false)], args := [d] }
  | _ => none }
def PickNilWrongFalsely : Prop := pickNilRow.holds Try.pinned (OpenSpec.ofChange pickNilWrong)

/-- 'verdererlaw20.PickPasses': WHATEVER THE INPUT: true; the input reads as it did. -/
def pickPassesSpec : ChangeSpec := { name := "pickPasses", fn := fun _ => fun
  | [d1, d2, d3] => { results := [.lit (.bool true)], args := [d1, d2, d3] }
  | _ => none }
def pickPassesRow : OpenClaim := { program := "ythmbfcfomcaaaaa", sum := "88e69a31ffeb3505d92d687964fa8789a6c9a9a406a3fb3f55d9261d7ffc78c3", func := "verderer/verdererlaw20.PickPasses", spec := "pickPasses", inPlace := ["internal/bytealg.abigen_runtime_cmpstring"], unfollowed := true, recurses := true, apart := false }
def PickPassesSaid : Prop := pickPassesRow.holds Try.pinned (OpenSpec.ofChange pickPassesSpec)

/-- ITS FALSE NEIGHBOUR: 'it returns false'. Refute it at one input. -/
def pickPassesWrong : ChangeSpec := { name := "pickPasses", fn := fun _ => fun
  | [d1, d2, d3] => { results := [.lit (.bool false)], args := [d1, d2, d3] }
  | _ => none }
def PickPassesWrongFalsely : Prop := pickPassesRow.holds Try.pinned (OpenSpec.ofChange pickPassesWrong)

/- THE SECOND FORM. 'bulk': how many values and letters a reading holds, each counted each time it is reached (what is shared counts as often as it is met; a slice's spare places count too). A statement '..UptoSaid' is the law's where the arguments, and the package variables that the reading takes, are together of bulk at most 1048576: NARROWER than '..Said'. Prove '..Said' where nothing that the law and all that it calls make is longer than what came in: it says more and counts as full. Else prove '..UptoSaid'. A law counts once. -/
mutual
def uptoBulk {H : Type} : DataW H → Nat
  | .lit (.string bytes) => bytes.length + 1
  | .lit _ => 1
  | .nil => 1
  | .ptr d => uptoBulk d + 1
  | .slice elems spare => uptoBulkAll elems + uptoBulkAll spare + 1
  | .agg parts => uptoBulkAll parts + 1
  | .iface _ d => uptoBulk d + 1
  | .map entries => uptoBulkEntries entries + 1
  | .held _ => 1
def uptoBulkAll {H : Type} : List (DataW H) → Nat
  | [] => 0
  | d :: r => uptoBulk d + uptoBulkAll r
def uptoBulkEntries {H : Type} : List (Lit × DataW H) → Nat
  | [] => 0
  | x :: r => uptoBulkEntry x + uptoBulkEntries r
def uptoBulkEntry {H : Type} : Lit × DataW H → Nat
  | (.string bytes, d) => bytes.length + uptoBulk d + 1
  | (_, d) => uptoBulk d + 1
 end
def uptoSmall : (H : Type) → List (DataW H) → Bool := fun _ ds => decide (uptoBulkAll ds ≤ 1048576)
def OpenSpec.upto (s : _root_.Go.ChangeSpec) : _root_.Go.OpenSpec := { _root_.Go.OpenSpec.ofChange s with cond := some uptoSmall }

/-- 'verdererlaw05.BagPlays', WHERE WHAT IT READS IS OF BULK AT MOST 1048576: true; the input reads as it did. -/
def bagPlaysUptoRow : OpenClaim := { program := "ythmbfcfomcaaaaa", sum := "88e69a31ffeb3505d92d687964fa8789a6c9a9a406a3fb3f55d9261d7ffc78c3", func := "verderer/verdererlaw05.BagPlays", spec := "bagPlays", inPlace := ["internal/bytealg.abigen_runtime_cmpstring"], unfollowed := true, recurses := true, apart := false, narrowed := true }
def BagPlaysUptoSaid : Prop := bagPlaysUptoRow.holds Try.pinned (OpenSpec.upto bagPlaysSpec)

/-- 'verdererlaw05.BagOrder', WHERE WHAT IT READS IS OF BULK AT MOST 1048576: true; the input reads as it did. -/
def bagOrderUptoRow : OpenClaim := { program := "ythmbfcfomcaaaaa", sum := "88e69a31ffeb3505d92d687964fa8789a6c9a9a406a3fb3f55d9261d7ffc78c3", func := "verderer/verdererlaw05.BagOrder", spec := "bagOrder", inPlace := ["internal/bytealg.abigen_runtime_cmpstring"], unfollowed := true, recurses := true, apart := false, narrowed := true }
def BagOrderUptoSaid : Prop := bagOrderUptoRow.holds Try.pinned (OpenSpec.upto bagOrderSpec)

/-- 'verdererlaw05.BagMerges', WHERE WHAT IT READS IS OF BULK AT MOST 1048576: true; the input reads as it did. -/
def bagMergesUptoRow : OpenClaim := { program := "ythmbfcfomcaaaaa", sum := "88e69a31ffeb3505d92d687964fa8789a6c9a9a406a3fb3f55d9261d7ffc78c3", func := "verderer/verdererlaw05.BagMerges", spec := "bagMerges", inPlace := ["internal/bytealg.abigen_runtime_cmpstring"], unfollowed := true, recurses := true, apart := false, narrowed := true }
def BagMergesUptoSaid : Prop := bagMergesUptoRow.holds Try.pinned (OpenSpec.upto bagMergesSpec)

/-- 'verdererlaw05.BagNil', WHERE WHAT IT READS IS OF BULK AT MOST 1048576: true; the input reads as it did. -/
def bagNilUptoRow : OpenClaim := { program := "ythmbfcfomcaaaaa", sum := "88e69a31ffeb3505d92d687964fa8789a6c9a9a406a3fb3f55d9261d7ffc78c3", func := "verderer/verdererlaw05.BagNil", spec := "bagNil", inPlace := ["internal/bytealg.abigen_runtime_cmpstring"], unfollowed := true, recurses := true, apart := false, narrowed := true }
def BagNilUptoSaid : Prop := bagNilUptoRow.holds Try.pinned (OpenSpec.upto bagNilSpec)

/-- 'verdererlaw06.IndexPlays', WHERE WHAT IT READS IS OF BULK AT MOST 1048576: true; the input reads as it did. -/
def indexPlaysUptoRow : OpenClaim := { program := "ythmbfcfomcaaaaa", sum := "88e69a31ffeb3505d92d687964fa8789a6c9a9a406a3fb3f55d9261d7ffc78c3", func := "verderer/verdererlaw06.IndexPlays", spec := "indexPlays", inPlace := ["internal/bytealg.abigen_runtime_cmpstring"], unfollowed := true, recurses := true, apart := false, narrowed := true }
def IndexPlaysUptoSaid : Prop := indexPlaysUptoRow.holds Try.pinned (OpenSpec.upto indexPlaysSpec)

/-- 'verdererlaw06.IndexWhole', WHERE WHAT IT READS IS OF BULK AT MOST 1048576: true; the input reads as it did. -/
def indexWholeUptoRow : OpenClaim := { program := "ythmbfcfomcaaaaa", sum := "88e69a31ffeb3505d92d687964fa8789a6c9a9a406a3fb3f55d9261d7ffc78c3", func := "verderer/verdererlaw06.IndexWhole", spec := "indexWhole", inPlace := ["internal/bytealg.abigen_runtime_cmpstring"], unfollowed := true, recurses := true, apart := false, narrowed := true }
def IndexWholeUptoSaid : Prop := indexWholeUptoRow.holds Try.pinned (OpenSpec.upto indexWholeSpec)

/-- 'verdererlaw06.IndexNil', WHERE WHAT IT READS IS OF BULK AT MOST 1048576: true; the input reads as it did. -/
def indexNilUptoRow : OpenClaim := { program := "ythmbfcfomcaaaaa", sum := "88e69a31ffeb3505d92d687964fa8789a6c9a9a406a3fb3f55d9261d7ffc78c3", func := "verderer/verdererlaw06.IndexNil", spec := "indexNil", inPlace := ["internal/bytealg.abigen_runtime_cmpstring"], unfollowed := true, recurses := true, apart := false, narrowed := true }
def IndexNilUptoSaid : Prop := indexNilUptoRow.holds Try.pinned (OpenSpec.upto indexNilSpec)

/-- 'verdererlaw20.PickSums', WHERE WHAT IT READS IS OF BULK AT MOST 1048576: true; the input reads as it did. -/
def pickSumsUptoRow : OpenClaim := { program := "ythmbfcfomcaaaaa", sum := "88e69a31ffeb3505d92d687964fa8789a6c9a9a406a3fb3f55d9261d7ffc78c3", func := "verderer/verdererlaw20.PickSums", spec := "pickSums", inPlace := ["internal/bytealg.abigen_runtime_cmpstring"], unfollowed := true, recurses := true, apart := false, narrowed := true }
def PickSumsUptoSaid : Prop := pickSumsUptoRow.holds Try.pinned (OpenSpec.upto pickSumsSpec)

/-- 'verdererlaw20.PickNil', WHERE WHAT IT READS IS OF BULK AT MOST 1048576: true; the input reads as it did. -/
def pickNilUptoRow : OpenClaim := { program := "ythmbfcfomcaaaaa", sum := "88e69a31ffeb3505d92d687964fa8789a6c9a9a406a3fb3f55d9261d7ffc78c3", func := "verderer/verdererlaw20.PickNil", spec := "pickNil", inPlace := ["internal/bytealg.abigen_runtime_cmpstring"], unfollowed := true, recurses := true, apart := false, narrowed := true }
def PickNilUptoSaid : Prop := pickNilUptoRow.holds Try.pinned (OpenSpec.upto pickNilSpec)

/-- 'verdererlaw20.PickPasses', WHERE WHAT IT READS IS OF BULK AT MOST 1048576: true; the input reads as it did. -/
def pickPassesUptoRow : OpenClaim := { program := "ythmbfcfomcaaaaa", sum := "88e69a31ffeb3505d92d687964fa8789a6c9a9a406a3fb3f55d9261d7ffc78c3", func := "verderer/verdererlaw20.PickPasses", spec := "pickPasses", inPlace := ["internal/bytealg.abigen_runtime_cmpstring"], unfollowed := true, recurses := true, apart := false, narrowed := true }
def PickPassesUptoSaid : Prop := pickPassesUptoRow.holds Try.pinned (OpenSpec.upto pickPassesSpec)

end Rows
end Go.Proofs.Ythmbfcfomcaaaaa
