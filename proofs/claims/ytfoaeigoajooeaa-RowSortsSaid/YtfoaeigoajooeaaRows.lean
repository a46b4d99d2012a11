/-
  No cell of these rows narrows 'for every input' (looked for: loops, veiled, ifaces, maps, wideKeys, modest, calm, conditions, laid).
  DERIVED. THE GIVEN ROWS OF THIS SEAT. 9 by the template 'for every input the law returns true; each argument reads behind the call as it read before'; 0 by the template 'total and deterministic' (their statements: YtfoaeigoajooeaaTotals.lean).
  GIVEN WITH THE SEED: the statements are not yours to turn. If you find one false, say at which input.
  Laid BY PROGRAM, IN A SANDBOX (cutbox-rows.mjs): the forced cells as the released guide's own fill.sh prints them over the translation 129f254fc8736360… (all of the seat's roots in one cut). By AI agents, Wed Nov 11 2026. No macro, syntax, notation, axiom, sorry.
-/
import Derived.Test.YtfoaeigoajooeaaChecked
import GoSem.Claim
import GoSem.ClaimJoined
import GoSem.ClaimMapViews
import Derived.JoinedTies
import Derived.KernelRfl
namespace Go.Proofs.Ytfoaeigoajooeaa
/- THE CELL 'sum', in the pinned program and in every row, IS THE sha256 OF THE DUMP (.gsa) THAT YtfoaeigoajooeaaProg.lean LOADS. Nothing in Lean hashes anything: it is a label: what it is worth is what the hold of that sum in a sandbox is worth. -/
noncomputable def Try.pinned : Pinned := { name := "ytfoaeigoajooeaa", sum := "129f254fc873636078c869c4148ff995136a0354ce54a9c54af60d74e167d5f0", checked := Try.checked }
namespace Rows
def none {H : Type} : Left H := { results := [], args := [] }

/-- 'verdererlaw02.RowLine': WHATEVER THE INPUT: true; the input reads as it did. -/
def rowLineSpec : ChangeSpec := { name := "rowLine", fn := fun _ => fun
  | [d1, d2, d3] => { results := [.lit (.bool true)], args := [d1, d2, d3] }
  | _ => none }
def rowLineRow : OpenClaim := { program := "ytfoaeigoajooeaa", sum := "129f254fc873636078c869c4148ff995136a0354ce54a9c54af60d74e167d5f0", func := "verderer/verdererlaw02.RowLine", spec := "rowLine", inPlace := ["internal/bytealg.abigen_runtime_cmpstring"], unfollowed := true, recurses := true, apart := false }
def RowLineSaid : Prop := rowLineRow.holds Try.pinned (OpenSpec.ofChange rowLineSpec)

/-- ITS FALSE NEIGHBOUR: 'it returns false'. Refute it at one input. -/
def rowLineWrong : ChangeSpec := { name := "rowLine", fn := fun _ => fun
  | [d1, d2, d3] => { results := [.lit (.bool false)], args := [d1, d2, d3] }
  | _ => none }
def RowLineWrongFalsely : Prop := rowLineRow.holds Try.pinned (OpenSpec.ofChange rowLineWrong)

/-- 'verdererlaw02.RowParts': WHATEVER THE INPUT: true; the input reads as it did. -/
def rowPartsSpec : ChangeSpec := { name := "rowParts", fn := fun _ => fun
  | [d1, d2, d3, d4] => { results := [.lit (.bool true)], args := [d1, d2, d3, d4] }
  | _ => none }
def rowPartsRow : OpenClaim := { program := "ytfoaeigoajooeaa", sum := "129f254fc873636078c869c4148ff995136a0354ce54a9c54af60d74e167d5f0", func := "verderer/verdererlaw02.RowParts", spec := "rowParts", inPlace := ["internal/bytealg.abigen_runtime_cmpstring"], unfollowed := true, recurses := true, apart := false }
def RowPartsSaid : Prop := rowPartsRow.holds Try.pinned (OpenSpec.ofChange rowPartsSpec)

/-- ITS FALSE NEIGHBOUR: 'it returns false'. Refute it at one input. -/
def rowPartsWrong : ChangeSpec := { name := "rowParts", fn := fun _ => fun
  | [d1, d2, d3, d4] => { results := [.lit (.bool false)], args := [d1, d2, d3, d4] }
  | _ => none }
def RowPartsWrongFalsely : Prop := rowPartsRow.holds Try.pinned (OpenSpec.ofChange rowPartsWrong)

/-- 'verdererlaw02.RowWhole': WHATEVER THE INPUT: true; the input reads as it did. -/
def rowWholeSpec : ChangeSpec := { name := "rowWhole", fn := fun _ => fun
  | [d] => { results := [.lit (.bool true)], args := [d] }
  | _ => none }
def rowWholeRow : OpenClaim := { program := "ytfoaeigoajooeaa", sum := "129f254fc873636078c869c4148ff995136a0354ce54a9c54af60d74e167d5f0", func := "verderer/verdererlaw02.RowWhole", spec := "rowWhole", inPlace := ["internal/bytealg.abigen_runtime_cmpstring"], unfollowed := true, recurses := true, apart := false }
def RowWholeSaid : Prop := rowWholeRow.holds Try.pinned (OpenSpec.ofChange rowWholeSpec)

/-- ITS FALSE NEIGHBOUR: 'it returns false'. Refute it at one input. -/
def rowWholeWrong : ChangeSpec := { name := "rowWhole", fn := fun _ => fun
  | [d] => { results := [.lit (.bool false)], args := [d] }
  | _ => none }
def RowWholeWrongFalsely : Prop := rowWholeRow.holds Try.pinned (OpenSpec.ofChange rowWholeWrong)

/-- 'verdererlaw02.RowOrders': WHATEVER THE INPUT: true; the input reads as it did. -/
def rowOrdersSpec : ChangeSpec := { name := "rowOrders", fn := fun _ => fun
  | [d1, d2] => { results := [.lit (.bool true)], args := [d1, d2] }
  | _ => none }
def rowOrdersRow : OpenClaim := { program := "ytfoaeigoajooeaa", sum := "129f254fc873636078c869c4148ff995136a0354ce54a9c54af60d74e167d5f0", func := "verderer/verdererlaw02.RowOrders", spec := "rowOrders", inPlace := ["internal/bytealg.abigen_runtime_cmpstring"], unfollowed := true, recurses := true, apart := false }
def RowOrdersSaid : Prop := rowOrdersRow.holds Try.pinned (OpenSpec.ofChange rowOrdersSpec)

/-- ITS FALSE NEIGHBOUR: 'it returns false'. Refute it at one input. -/
def rowOrdersWrong : ChangeSpec := { name := "rowOrders", fn := fun _ => fun
  | [d1, d2] => { results := [.lit (.bool false)], args := [d1, d2] }
  | _ => none }
def RowOrdersWrongFalsely : Prop := rowOrdersRow.holds Try.pinned (OpenSpec.ofChange rowOrdersWrong)

/-- 'verdererlaw02.RowSorts': WHATEVER THE INPUT: true; the input reads as it did. -/
def rowSortsSpec : ChangeSpec := { name := "rowSorts", fn := fun _ => fun
  | [d] => { results := [.lit (.bool true)], args := [d] }
  | _ => none }
def rowSortsRow : OpenClaim := { program := "ytfoaeigoajooeaa", sum := "129f254fc873636078c869c4148ff995136a0354ce54a9c54af60d74e167d5f0", func := "verderer/verdererlaw02.RowSorts", spec := "rowSorts", inPlace := ["internal/bytealg.abigen_runtime_cmpstring"], unfollowed := true, recurses := true, apart := false }
def RowSortsSaid : Prop := rowSortsRow.holds Try.pinned (OpenSpec.ofChange rowSortsSpec)

/-- ITS FALSE NEIGHBOUR: 'it returns false'. Refute it at one input. -/
def rowSortsWrong : ChangeSpec := { name := "rowSorts", fn := fun _ => fun
  | [d] => { results := [.lit (.bool false)], args := [d] }
  | _ => none }
def RowSortsWrongFalsely : Prop := rowSortsRow.holds Try.pinned (OpenSpec.ofChange rowSortsWrong)

/-- 'verdererlaw04.PackRows': WHATEVER THE INPUT: true; the input reads as it did. -/
def packRowsSpec : ChangeSpec := { name := "packRows", fn := fun _ => fun
  | [d] => { results := [.lit (.bool true)], args := [d] }
  | _ => none }
def packRowsRow : OpenClaim := { program := "ytfoaeigoajooeaa", sum := "129f254fc873636078c869c4148ff995136a0354ce54a9c54af60d74e167d5f0", func := "verderer/verdererlaw04.PackRows", spec := "packRows", apart := false }
def PackRowsSaid : Prop := packRowsRow.holds Try.pinned (OpenSpec.ofChange packRowsSpec)

/-- ITS FALSE NEIGHBOUR: 'it returns false'. Refute it at one input. -/
def packRowsWrong : ChangeSpec := { name := "packRows", fn := fun _ => fun
  | [d] => { results := [.lit (.bool false)], args := [d] }
  | _ => none }
def PackRowsWrongFalsely : Prop := packRowsRow.holds Try.pinned (OpenSpec.ofChange packRowsWrong)

/-- 'verdererlaw04.PackReads': WHATEVER THE INPUT: true; the input reads as it did. -/
def packReadsSpec : ChangeSpec := { name := "packReads", fn := fun _ => fun
  | [d] => { results := [.lit (.bool true)], args := [d] }
  | _ => none }
def packReadsRow : OpenClaim := { program := "ytfoaeigoajooeaa", sum := "129f254fc873636078c869c4148ff995136a0354ce54a9c54af60d74e167d5f0", func := "verderer/verdererlaw04.PackReads", spec := "packReads", apart := false }
def PackReadsSaid : Prop := packReadsRow.holds Try.pinned (OpenSpec.ofChange packReadsSpec)

/-- ITS FALSE NEIGHBOUR: 'it returns false'. Refute it at one input. -/
def packReadsWrong : ChangeSpec := { name := "packReads", fn := fun _ => fun
  | [d] => { results := [.lit (.bool false)], args := [d] }
  | _ => none }
def PackReadsWrongFalsely : Prop := packReadsRow.holds Try.pinned (OpenSpec.ofChange packReadsWrong)

/-- 'verdererlaw04.PackBack': WHATEVER THE INPUT: true; the input reads as it did. -/
def packBackSpec : ChangeSpec := { name := "packBack", fn := fun _ => fun
  | [d1, d2] => { results := [.lit (.bool true)], args := [d1, d2] }
  | _ => none }
def packBackRow : OpenClaim := { program := "ytfoaeigoajooeaa", sum := "129f254fc873636078c869c4148ff995136a0354ce54a9c54af60d74e167d5f0", func := "verderer/verdererlaw04.PackBack", spec := "packBack", apart := false }
def PackBackSaid : Prop := packBackRow.holds Try.pinned (OpenSpec.ofChange packBackSpec)

/-- ITS FALSE NEIGHBOUR: 'it returns false'. Refute it at one input. -/
def packBackWrong : ChangeSpec := { name := "packBack", fn := fun _ => fun
  | [d1, d2] => { results := [.lit (.bool false)], args := [d1, d2] }
  | _ => none }
def PackBackWrongFalsely : Prop := packBackRow.holds Try.pinned (OpenSpec.ofChange packBackWrong)

/-- 'verdererlaw04.PackOrder': WHATEVER THE INPUT: true; the input reads as it did. -/
def packOrderSpec : ChangeSpec := { name := "packOrder", fn := fun _ => fun
  | [d1, d2] => { results := [.lit (.bool true)], args := [d1, d2] }
  | _ => none }
def packOrderRow : OpenClaim := { program := "ytfoaeigoajooeaa", sum := "129f254fc873636078c869c4148ff995136a0354ce54a9c54af60d74e167d5f0", func := "verderer/verdererlaw04.PackOrder", spec := "packOrder", apart := false }
def PackOrderSaid : Prop := packOrderRow.holds Try.pinned (OpenSpec.ofChange packOrderSpec)

/-- ITS FALSE NEIGHBOUR: 'it returns false'. Refute it at one input. -/
def packOrderWrong : ChangeSpec := { name := "packOrder", fn := fun _ => fun
  | [d1, d2] => { results := [.lit (.bool false)], args := [d1, d2] }
  | _ => none }
def PackOrderWrongFalsely : Prop := packOrderRow.holds Try.pinned (OpenSpec.ofChange packOrderWrong)

/- THE SECOND FORM. 'bulk': how many values and letters a reading holds, each counted each time it is reached (what is shared counts as often as it is met; a slice's spare places count too). A statement '..UptoSaid' is the law's where the arguments, and the package variables that the reading takes, are together of bulk at most 1048576: NARROWER than '..Said'. Prove '..Said' where nothing that the law and all that it calls make is longer than what came in: it says more and counts as full. Else prove '..UptoSaid'. A law counts once. -/
mutual
def uptoBulk {H : Type} : DataW H → Nat
  | .lit (.string bytes) => bytes.length + 1
  | .lit _ => 1
  | .nil => 1
  | .ptr d => uptoBulk d + 1
  | .slice elems spare => uptoBulkAll elems + uptoBulkAll spare + 1
  | .agg parts => uptoBulkAll parts + 1
  | .iface _ d => uptoBulk d + 1
  | .map entries => uptoBulkEntries entries + 1
  | .held _ => 1
def uptoBulkAll {H : Type} : List (DataW H) → Nat
  | [] => 0
  | d :: r => uptoBulk d + uptoBulkAll r
def uptoBulkEntries {H : Type} : List (Lit × DataW H) → Nat
  | [] => 0
  | x :: r => uptoBulkEntry x + uptoBulkEntries r
def uptoBulkEntry {H : Type} : Lit × DataW H → Nat
  | (.string bytes, d) => bytes.length + uptoBulk d + 1
  | (_, d) => uptoBulk d + 1
 end
def uptoSmall : (H : Type) → List (DataW H) → Bool := fun _ ds => decide (uptoBulkAll ds ≤ 1048576)
def OpenSpec.upto (s : _root_.Go.ChangeSpec) : _root_.Go.OpenSpec := { _root_.Go.OpenSpec.ofChange s with cond := some uptoSmall }

/-- 'verdererlaw02.RowLine', WHERE WHAT IT READS IS OF BULK AT MOST 1048576: true; the input reads as it did. -/
def rowLineUptoRow : OpenClaim := { program := "ytfoaeigoajooeaa", sum := "129f254fc873636078c869c4148ff995136a0354ce54a9c54af60d74e167d5f0", func := "verderer/verdererlaw02.RowLine", spec := "rowLine", inPlace := ["internal/bytealg.abigen_runtime_cmpstring"], unfollowed := true, recurses := true, apart := false, narrowed := true }
def RowLineUptoSaid : Prop := rowLineUptoRow.holds Try.pinned (OpenSpec.upto rowLineSpec)

/-- 'verdererlaw02.RowParts', WHERE WHAT IT READS IS OF BULK AT MOST 1048576: true; the input reads as it did. -/
def rowPartsUptoRow : OpenClaim := { program := "ytfoaeigoajooeaa", sum := "129f254fc873636078c869c4148ff995136a0354ce54a9c54af60d74e167d5f0", func := "verderer/verdererlaw02.RowParts", spec := "rowParts", inPlace := ["internal/bytealg.abigen_runtime_cmpstring"], unfollowed := true, recurses := true, apart := false, narrowed := true }
def RowPartsUptoSaid : Prop := rowPartsUptoRow.holds Try.pinned (OpenSpec.upto rowPartsSpec)

/-- 'verdererlaw02.RowWhole', WHERE WHAT IT READS IS OF BULK AT MOST 1048576: true; the input reads as it did. -/
def rowWholeUptoRow : OpenClaim := { program := "ytfoaeigoajooeaa", sum := "129f254fc873636078c869c4148ff995136a0354ce54a9c54af60d74e167d5f0", func := "verderer/verdererlaw02.RowWhole", spec := "rowWhole", inPlace := ["internal/bytealg.abigen_runtime_cmpstring"], unfollowed := true, recurses := true, apart := false, narrowed := true }
def RowWholeUptoSaid : Prop := rowWholeUptoRow.holds Try.pinned (OpenSpec.upto rowWholeSpec)

/-- 'verdererlaw02.RowOrders', WHERE WHAT IT READS IS OF BULK AT MOST 1048576: true; the input reads as it did. -/
def rowOrdersUptoRow : OpenClaim := { program := "ytfoaeigoajooeaa", sum := "129f254fc873636078c869c4148ff995136a0354ce54a9c54af60d74e167d5f0", func := "verderer/verdererlaw02.RowOrders", spec := "rowOrders", inPlace := ["internal/bytealg.abigen_runtime_cmpstring"], unfollowed := true, recurses := true, apart := false, narrowed := true }
def RowOrdersUptoSaid : Prop := rowOrdersUptoRow.holds Try.pinned (OpenSpec.upto rowOrdersSpec)

/-- 'verdererlaw02.RowSorts', WHERE WHAT IT READS IS OF BULK AT MOST 1048576: true; the input reads as it did. -/
def rowSortsUptoRow : OpenClaim := { program := "ytfoaeigoajooeaa", sum := "129f254fc873636078c869c4148ff995136a0354ce54a9c54af60d74e167d5f0", func := "verderer/verdererlaw02.RowSorts", spec := "rowSorts", inPlace := ["internal/bytealg.abigen_runtime_cmpstring"], unfollowed := true, recurses := true, apart := false, narrowed := true }
def RowSortsUptoSaid : Prop := rowSortsUptoRow.holds Try.pinned (OpenSpec.upto rowSortsSpec)

/-- 'verdererlaw04.PackRows', WHERE WHAT IT READS IS OF BULK AT MOST 1048576: true; the input reads as it did. -/
def packRowsUptoRow : OpenClaim := { program := "ytfoaeigoajooeaa", sum := "129f254fc873636078c869c4148ff995136a0354ce54a9c54af60d74e167d5f0", func := "verderer/verdererlaw04.PackRows", spec := "packRows", apart := false, narrowed := true }
def PackRowsUptoSaid : Prop := packRowsUptoRow.holds Try.pinned (OpenSpec.upto packRowsSpec)

/-- 'verdererlaw04.PackReads', WHERE WHAT IT READS IS OF BULK AT MOST 1048576: true; the input reads as it did. -/
def packReadsUptoRow : OpenClaim := { program := "ytfoaeigoajooeaa", sum := "129f254fc873636078c869c4148ff995136a0354ce54a9c54af60d74e167d5f0", func := "verderer/verdererlaw04.PackReads", spec := "packReads", apart := false, narrowed := true }
def PackReadsUptoSaid : Prop := packReadsUptoRow.holds Try.pinned (OpenSpec.upto packReadsSpec)

/-- 'verdererlaw04.PackBack', WHERE WHAT IT READS IS OF BULK AT MOST 1048576: true; the input reads as it did. -/
def packBackUptoRow : OpenClaim := { program := "ytfoaeigoajooeaa", sum := "129f254fc873636078c869c4148ff995136a0354ce54a9c54af60d74e167d5f0", func := "verderer/verdererlaw04.PackBack", spec := "packBack", apart := false, narrowed := true }
def PackBackUptoSaid : Prop := packBackUptoRow.holds Try.pinned (OpenSpec.upto packBackSpec)

/-- 'verdererlaw04.PackOrder', WHERE WHAT IT READS IS OF BULK AT MOST 1048576: true; the input reads as it did. -/
def packOrderUptoRow : OpenClaim := { program := "ytfoaeigoajooeaa", sum := "129f254fc873636078c869c4148ff995136a0354ce54a9c54af60d74e167d5f0", func := "verderer/verdererlaw04.PackOrder", spec := "packOrder", apart := false, narrowed := true }
def PackOrderUptoSaid : Prop := packOrderUptoRow.holds Try.pinned (OpenSpec.upto packOrderSpec)

end Rows
end Go.Proofs.Ytfoaeigoajooeaa
