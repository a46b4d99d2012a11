/-
  No cell of these rows narrows 'for every input' (looked for: loops, veiled, ifaces, maps, wideKeys, modest, calm, conditions, laid).
  DERIVED. THE GIVEN ROWS OF THIS SEAT. 10 by the template 'for every input the law returns true; each argument reads behind the call as it read before'; 0 by the template 'total and deterministic' (their statements: YthfaimomcbmniaaTotals.lean).
  GIVEN WITH THE SEED: the statements are not yours to turn. If you find one false, say at which input.
  Laid BY PROGRAM, IN A SANDBOX (cutbox-rows.mjs): the forced cells as the released guide's own fill.sh prints them over the translation 961cb9bcec47e0cc… (all of the seat's roots in one cut). By AI agents, Wed Nov 11 2026. No macro, syntax, notation, axiom, sorry.
-/
import Derived.Test.YthfaimomcbmniaaChecked
import GoSem.Claim
import GoSem.ClaimJoined
import GoSem.ClaimMapViews
import Derived.JoinedTies
import Derived.KernelRfl
namespace Go.Proofs.Ythfaimomcbmniaa
/- THE CELL 'sum', in the pinned program and in every row, IS THE sha256 OF THE DUMP (.gsa) THAT YthfaimomcbmniaaProg.lean LOADS. Nothing in Lean hashes anything: it is a label: what it is worth is what the hold of that sum in a sandbox is worth. -/
noncomputable def Try.pinned : Pinned := { name := "ythfaimomcbmniaa", sum := "961cb9bcec47e0cc09cb8f88325f6542d12a71408bdfaeb7dbd658a41ad09acc", checked := Try.checked }
namespace Rows
def none {H : Type} : Left H := { results := [], args := [] }

/-- 'verdererlaw29.FeedFolds': WHATEVER THE INPUT: true; the input reads as it did. -/
def feedFoldsSpec : ChangeSpec := { name := "feedFolds", fn := fun _ => fun
  | [d1, d2] => { results := [.lit (.bool true)], args := [d1, d2] }
  | _ => none }
def feedFoldsRow : OpenClaim := { program := "ythfaimomcbmniaa", sum := "961cb9bcec47e0cc09cb8f88325f6542d12a71408bdfaeb7dbd658a41ad09acc", func := "verderer/verdererlaw29.FeedFolds", spec := "feedFolds", inPlace := ["internal/bytealg.abigen_runtime_cmpstring", "slices.overlaps[verderer/api.Fact]"], unfollowed := true, recurses := true, apart := false }
def FeedFoldsSaid : Prop := feedFoldsRow.holds Try.pinned (OpenSpec.ofChange feedFoldsSpec)

/-- ITS FALSE NEIGHBOUR: 'it returns false'. Refute it at one input. -/
def feedFoldsWrong : ChangeSpec := { name := "feedFolds", fn := fun _ => fun
  | [d1, d2] => { results := [.lit (.bool false)], args := [d1, d2] }
  | _ => none }
def FeedFoldsWrongFalsely : Prop := feedFoldsRow.holds Try.pinned (OpenSpec.ofChange feedFoldsWrong)

/-- 'verdererlaw29.FeedPlays': WHATEVER THE INPUT: true; the input reads as it did. -/
def feedPlaysSpec : ChangeSpec := { name := "feedPlays", fn := fun _ => fun
  | [d1, d2] => { results := [.lit (.bool true)], args := [d1, d2] }
  | _ => none }
def feedPlaysRow : OpenClaim := { program := "ythfaimomcbmniaa", sum := "961cb9bcec47e0cc09cb8f88325f6542d12a71408bdfaeb7dbd658a41ad09acc", func := "verderer/verdererlaw29.FeedPlays", spec := "feedPlays", inPlace := ["internal/bytealg.abigen_runtime_cmpstring", "slices.overlaps[verderer/api.Fact]"], unfollowed := true, recurses := true, apart := false }
def FeedPlaysSaid : Prop := feedPlaysRow.holds Try.pinned (OpenSpec.ofChange feedPlaysSpec)

/-- ITS FALSE NEIGHBOUR: 'it returns false'. Refute it at one input. -/
def feedPlaysWrong : ChangeSpec := { name := "feedPlays", fn := fun _ => fun
  | [d1, d2] => { results := [.lit (.bool false)], args := [d1, d2] }
  | _ => none }
def FeedPlaysWrongFalsely : Prop := feedPlaysRow.holds Try.pinned (OpenSpec.ofChange feedPlaysWrong)

/-- 'verdererlaw29.FeedNil': WHATEVER THE INPUT: true; the input reads as it did. -/
def feedNilSpec : ChangeSpec := { name := "feedNil", fn := fun _ => fun
  | [d] => { results := [.lit (.bool true)], args := [d] }
  | _ => none }
def feedNilRow : OpenClaim := { program := "ythfaimomcbmniaa", sum := "961cb9bcec47e0cc09cb8f88325f6542d12a71408bdfaeb7dbd658a41ad09acc", func := "verderer/verdererlaw29.FeedNil", spec := "feedNil", inPlace := ["internal/bytealg.abigen_runtime_cmpstring", "slices.overlaps[verderer/api.Fact]"], unfollowed := true, recurses := true, apart := false }
def FeedNilSaid : Prop := feedNilRow.holds Try.pinned (OpenSpec.ofChange feedNilSpec)

/-- ITS FALSE NEIGHBOUR: 'it returns false'. Refute it at one input. -/
def feedNilWrong : ChangeSpec := { name := "feedNil", fn := fun _ => fun
  | [d] => { results := [.lit (.bool false)], args := [d] }
  | _ => none }
def FeedNilWrongFalsely : Prop := feedNilRow.holds Try.pinned (OpenSpec.ofChange feedNilWrong)

/-- 'verdererlaw29.FeedSorts': WHATEVER THE INPUT: true; the input reads as it did. -/
def feedSortsSpec : ChangeSpec := { name := "feedSorts", fn := fun _ => fun
  | [d1, d2] => { results := [.lit (.bool true)], args := [d1, d2] }
  | _ => none }
def feedSortsRow : OpenClaim := { program := "ythfaimomcbmniaa", sum := "961cb9bcec47e0cc09cb8f88325f6542d12a71408bdfaeb7dbd658a41ad09acc", func := "verderer/verdererlaw29.FeedSorts", spec := "feedSorts", inPlace := ["internal/bytealg.abigen_runtime_cmpstring", "slices.overlaps[verderer/api.Fact]"], unfollowed := true, recurses := true, apart := false }
def FeedSortsSaid : Prop := feedSortsRow.holds Try.pinned (OpenSpec.ofChange feedSortsSpec)

/-- ITS FALSE NEIGHBOUR: 'it returns false'. Refute it at one input. -/
def feedSortsWrong : ChangeSpec := { name := "feedSorts", fn := fun _ => fun
  | [d1, d2] => { results := [.lit (.bool false)], args := [d1, d2] }
  | _ => none }
def FeedSortsWrongFalsely : Prop := feedSortsRow.holds Try.pinned (OpenSpec.ofChange feedSortsWrong)

/-- 'verdererlaw16.StrataOrder': WHATEVER THE INPUT: true; the input reads as it did. -/
def strataOrderSpec : ChangeSpec := { name := "strataOrder", fn := fun _ => fun
  | [d] => { results := [.lit (.bool true)], args := [d] }
  | _ => none }
def strataOrderRow : OpenClaim := { program := "ythfaimomcbmniaa", sum := "961cb9bcec47e0cc09cb8f88325f6542d12a71408bdfaeb7dbd658a41ad09acc", func := "verderer/verdererlaw16.StrataOrder", spec := "strataOrder", unfollowed := true, recurses := true, apart := false }
def StrataOrderSaid : Prop := strataOrderRow.holds Try.pinned (OpenSpec.ofChange strataOrderSpec)

/-- ITS FALSE NEIGHBOUR: 'it returns false'. Refute it at one input. -/
def strataOrderWrong : ChangeSpec := { name := "strataOrder", fn := fun _ => fun
  | [d] => { results := [.lit (.bool false)], args := [d] }
  | _ => none }
def StrataOrderWrongFalsely : Prop := strataOrderRow.holds Try.pinned (OpenSpec.ofChange strataOrderWrong)

/-- 'verdererlaw16.StrataTells': WHATEVER THE INPUT: true; the input reads as it did. -/
def strataTellsSpec : ChangeSpec := { name := "strataTells", fn := fun _ => fun
  | [d1, d2] => { results := [.lit (.bool true)], args := [d1, d2] }
  | _ => none }
def strataTellsRow : OpenClaim := { program := "ythfaimomcbmniaa", sum := "961cb9bcec47e0cc09cb8f88325f6542d12a71408bdfaeb7dbd658a41ad09acc", func := "verderer/verdererlaw16.StrataTells", spec := "strataTells", unfollowed := true, recurses := true, apart := false }
def StrataTellsSaid : Prop := strataTellsRow.holds Try.pinned (OpenSpec.ofChange strataTellsSpec)

/-- ITS FALSE NEIGHBOUR: 'it returns false'. Refute it at one input. -/
def strataTellsWrong : ChangeSpec := { name := "strataTells", fn := fun _ => fun
  | [d1, d2] => { results := [.lit (.bool false)], args := [d1, d2] }
  | _ => none }
def StrataTellsWrongFalsely : Prop := strataTellsRow.holds Try.pinned (OpenSpec.ofChange strataTellsWrong)

/-- 'verdererlaw09.TenantRight': WHATEVER THE INPUT: true; the input reads as it did. -/
def tenantRightSpec : ChangeSpec := { name := "tenantRight", fn := fun _ => fun
  | [d] => { results := [.lit (.bool true)], args := [d] }
  | _ => none }
def tenantRightRow : OpenClaim := { program := "ythfaimomcbmniaa", sum := "961cb9bcec47e0cc09cb8f88325f6542d12a71408bdfaeb7dbd658a41ad09acc", func := "verderer/verdererlaw09.TenantRight", spec := "tenantRight", unfollowed := true, recurses := true, apart := false }
def TenantRightSaid : Prop := tenantRightRow.holds Try.pinned (OpenSpec.ofChange tenantRightSpec)

/-- ITS FALSE NEIGHBOUR: 'it returns false'. Refute it at one input. -/
def tenantRightWrong : ChangeSpec := { name := "tenantRight", fn := fun _ => fun
  | [d] => { results := [.lit (.bool false)], args := [d] }
  | _ => none }
def TenantRightWrongFalsely : Prop := tenantRightRow.holds Try.pinned (OpenSpec.ofChange tenantRightWrong)

/-- 'verdererlaw09.TenantPlays': WHATEVER THE INPUT: true; the input reads as it did. -/
def tenantPlaysSpec : ChangeSpec := { name := "tenantPlays", fn := fun _ => fun
  | [d1, d2] => { results := [.lit (.bool true)], args := [d1, d2] }
  | _ => none }
def tenantPlaysRow : OpenClaim := { program := "ythfaimomcbmniaa", sum := "961cb9bcec47e0cc09cb8f88325f6542d12a71408bdfaeb7dbd658a41ad09acc", func := "verderer/verdererlaw09.TenantPlays", spec := "tenantPlays", unfollowed := true, recurses := true, apart := false }
def TenantPlaysSaid : Prop := tenantPlaysRow.holds Try.pinned (OpenSpec.ofChange tenantPlaysSpec)

/-- ITS FALSE NEIGHBOUR: 'it returns false'. Refute it at one input. -/
def tenantPlaysWrong : ChangeSpec := { name := "tenantPlays", fn := fun _ => fun
  | [d1, d2] => { results := [.lit (.bool false)], args := [d1, d2] }
  | _ => none }
def TenantPlaysWrongFalsely : Prop := tenantPlaysRow.holds Try.pinned (OpenSpec.ofChange tenantPlaysWrong)

/-- 'verdererlaw09.TenantApart': WHATEVER THE INPUT: true; the input reads as it did. -/
def tenantApartSpec : ChangeSpec := { name := "tenantApart", fn := fun _ => fun
  | [d1, d2] => { results := [.lit (.bool true)], args := [d1, d2] }
  | _ => none }
def tenantApartRow : OpenClaim := { program := "ythfaimomcbmniaa", sum := "961cb9bcec47e0cc09cb8f88325f6542d12a71408bdfaeb7dbd658a41ad09acc", func := "verderer/verdererlaw09.TenantApart", spec := "tenantApart", inPlace := ["maps.clone"], unfollowed := true, recurses := true, apart := false }
def TenantApartSaid : Prop := tenantApartRow.holds Try.pinned (OpenSpec.ofChange tenantApartSpec)

/-- ITS FALSE NEIGHBOUR: 'it returns false'. Refute it at one input. -/
def tenantApartWrong : ChangeSpec := { name := "tenantApart", fn := fun _ => fun
  | [d1, d2] => { results := [.lit (.bool false)], args := [d1, d2] }
  | _ => none }
def TenantApartWrongFalsely : Prop := tenantApartRow.holds Try.pinned (OpenSpec.ofChange tenantApartWrong)

/-- 'verdererlaw09.TenantNil': WHATEVER THE INPUT: true; the input reads as it did. -/
def tenantNilSpec : ChangeSpec := { name := "tenantNil", fn := fun _ => fun
  | [d] => { results := [.lit (.bool true)], args := [d] }
  | _ => none }
def tenantNilRow : OpenClaim := { program := "ythfaimomcbmniaa", sum := "961cb9bcec47e0cc09cb8f88325f6542d12a71408bdfaeb7dbd658a41ad09acc", func := "verderer/verdererlaw09.TenantNil", spec := "tenantNil", inPlace := ["maps.clone"], unfollowed := true, recurses := true, apart := false }
def TenantNilSaid : Prop := tenantNilRow.holds Try.pinned (OpenSpec.ofChange tenantNilSpec)

/-- ITS FALSE NEIGHBOUR: 'it returns false'. Refute it at one input. -/
def tenantNilWrong : ChangeSpec := { name := "tenantNil", fn := fun _ => fun
  | [d] => { results := [.lit (.bool false)], args := [d] }
  | _ => none }
def TenantNilWrongFalsely : Prop := tenantNilRow.holds Try.pinned (OpenSpec.ofChange tenantNilWrong)

/- THE SECOND FORM. 'bulk': how many values and letters a reading holds, each counted each time it is reached (what is shared counts as often as it is met; a slice's spare places count too). A statement '..UptoSaid' is the law's where the arguments, and the package variables that the reading takes, are together of bulk at most 1048576: NARROWER than '..Said'. Prove '..Said' where nothing that the law and all that it calls make is longer than what came in: it says more and counts as full. Else prove '..UptoSaid'. A law counts once. -/
mutual
def uptoBulk {H : Type} : DataW H → Nat
  | .lit (.string bytes) => bytes.length + 1
  | .lit _ => 1
  | .nil => 1
  | .ptr d => uptoBulk d + 1
  | .slice elems spare => uptoBulkAll elems + uptoBulkAll spare + 1
  | .agg parts => uptoBulkAll parts + 1
  | .iface _ d => uptoBulk d + 1
  | .map entries => uptoBulkEntries entries + 1
  | .held _ => 1
def uptoBulkAll {H : Type} : List (DataW H) → Nat
  | [] => 0
  | d :: r => uptoBulk d + uptoBulkAll r
def uptoBulkEntries {H : Type} : List (Lit × DataW H) → Nat
  | [] => 0
  | x :: r => uptoBulkEntry x + uptoBulkEntries r
def uptoBulkEntry {H : Type} : Lit × DataW H → Nat
  | (.string bytes, d) => bytes.length + uptoBulk d + 1
  | (_, d) => uptoBulk d + 1
 end
def uptoSmall : (H : Type) → List (DataW H) → Bool := fun _ ds => decide (uptoBulkAll ds ≤ 1048576)
def OpenSpec.upto (s : _root_.Go.ChangeSpec) : _root_.Go.OpenSpec := { _root_.Go.OpenSpec.ofChange s with cond := some uptoSmall }

/-- 'verdererlaw29.FeedFolds', WHERE WHAT IT READS IS OF BULK AT MOST 1048576: true; the input reads as it did. -/
def feedFoldsUptoRow : OpenClaim := { program := "ythfaimomcbmniaa", sum := "961cb9bcec47e0cc09cb8f88325f6542d12a71408bdfaeb7dbd658a41ad09acc", func := "verderer/verdererlaw29.FeedFolds", spec := "feedFolds", inPlace := ["internal/bytealg.abigen_runtime_cmpstring", "slices.overlaps[verderer/api.Fact]"], unfollowed := true, recurses := true, apart := false, narrowed := true }
def FeedFoldsUptoSaid : Prop := feedFoldsUptoRow.holds Try.pinned (OpenSpec.upto feedFoldsSpec)

/-- 'verdererlaw29.FeedPlays', WHERE WHAT IT READS IS OF BULK AT MOST 1048576: true; the input reads as it did. -/
def feedPlaysUptoRow : OpenClaim := { program := "ythfaimomcbmniaa", sum := "961cb9bcec47e0cc09cb8f88325f6542d12a71408bdfaeb7dbd658a41ad09acc", func := "verderer/verdererlaw29.FeedPlays", spec := "feedPlays", inPlace := ["internal/bytealg.abigen_runtime_cmpstring", "slices.overlaps[verderer/api.Fact]"], unfollowed := true, recurses := true, apart := false, narrowed := true }
def FeedPlaysUptoSaid : Prop := feedPlaysUptoRow.holds Try.pinned (OpenSpec.upto feedPlaysSpec)

/-- 'verdererlaw29.FeedNil', WHERE WHAT IT READS IS OF BULK AT MOST 1048576: true; the input reads as it did. -/
def feedNilUptoRow : OpenClaim := { program := "ythfaimomcbmniaa", sum := "961cb9bcec47e0cc09cb8f88325f6542d12a71408bdfaeb7dbd658a41ad09acc", func := "verderer/verdererlaw29.FeedNil", spec := "feedNil", inPlace := ["internal/bytealg.abigen_runtime_cmpstring", "slices.overlaps[verderer/api.Fact]"], unfollowed := true, recurses := true, apart := false, narrowed := true }
def FeedNilUptoSaid : Prop := feedNilUptoRow.holds Try.pinned (OpenSpec.upto feedNilSpec)

/-- 'verdererlaw29.FeedSorts', WHERE WHAT IT READS IS OF BULK AT MOST 1048576: true; the input reads as it did. -/
def feedSortsUptoRow : OpenClaim := { program := "ythfaimomcbmniaa", sum := "961cb9bcec47e0cc09cb8f88325f6542d12a71408bdfaeb7dbd658a41ad09acc", func := "verderer/verdererlaw29.FeedSorts", spec := "feedSorts", inPlace := ["internal/bytealg.abigen_runtime_cmpstring", "slices.overlaps[verderer/api.Fact]"], unfollowed := true, recurses := true, apart := false, narrowed := true }
def FeedSortsUptoSaid : Prop := feedSortsUptoRow.holds Try.pinned (OpenSpec.upto feedSortsSpec)

/-- 'verdererlaw16.StrataOrder', WHERE WHAT IT READS IS OF BULK AT MOST 1048576: true; the input reads as it did. -/
def strataOrderUptoRow : OpenClaim := { program := "ythfaimomcbmniaa", sum := "961cb9bcec47e0cc09cb8f88325f6542d12a71408bdfaeb7dbd658a41ad09acc", func := "verderer/verdererlaw16.StrataOrder", spec := "strataOrder", unfollowed := true, recurses := true, apart := false, narrowed := true }
def StrataOrderUptoSaid : Prop := strataOrderUptoRow.holds Try.pinned (OpenSpec.upto strataOrderSpec)

/-- 'verdererlaw16.StrataTells', WHERE WHAT IT READS IS OF BULK AT MOST 1048576: true; the input reads as it did. -/
def strataTellsUptoRow : OpenClaim := { program := "ythfaimomcbmniaa", sum := "961cb9bcec47e0cc09cb8f88325f6542d12a71408bdfaeb7dbd658a41ad09acc", func := "verderer/verdererlaw16.StrataTells", spec := "strataTells", unfollowed := true, recurses := true, apart := false, narrowed := true }
def StrataTellsUptoSaid : Prop := strataTellsUptoRow.holds Try.pinned (OpenSpec.upto strataTellsSpec)

/-- 'verdererlaw09.TenantRight', WHERE WHAT IT READS IS OF BULK AT MOST 1048576: true; the input reads as it did. -/
def tenantRightUptoRow : OpenClaim := { program := "ythfaimomcbmniaa", sum := "961cb9bcec47e0cc09cb8f88325f6542d12a71408bdfaeb7dbd658a41ad09acc", func := "verderer/verdererlaw09.TenantRight", spec := "tenantRight", unfollowed := true, recurses := true, apart := false, narrowed := true }
def TenantRightUptoSaid : Prop := tenantRightUptoRow.holds Try.pinned (OpenSpec.upto tenantRightSpec)

/-- 'verdererlaw09.TenantPlays', WHERE WHAT IT READS IS OF BULK AT MOST 1048576: true; the input reads as it did. -/
def tenantPlaysUptoRow : OpenClaim := { program := "ythfaimomcbmniaa", sum := "961cb9bcec47e0cc09cb8f88325f6542d12a71408bdfaeb7dbd658a41ad09acc", func := "verderer/verdererlaw09.TenantPlays", spec := "tenantPlays", unfollowed := true, recurses := true, apart := false, narrowed := true }
def TenantPlaysUptoSaid : Prop := tenantPlaysUptoRow.holds Try.pinned (OpenSpec.upto tenantPlaysSpec)

/-- 'verdererlaw09.TenantApart', WHERE WHAT IT READS IS OF BULK AT MOST 1048576: true; the input reads as it did. -/
def tenantApartUptoRow : OpenClaim := { program := "ythfaimomcbmniaa", sum := "961cb9bcec47e0cc09cb8f88325f6542d12a71408bdfaeb7dbd658a41ad09acc", func := "verderer/verdererlaw09.TenantApart", spec := "tenantApart", inPlace := ["maps.clone"], unfollowed := true, recurses := true, apart := false, narrowed := true }
def TenantApartUptoSaid : Prop := tenantApartUptoRow.holds Try.pinned (OpenSpec.upto tenantApartSpec)

/-- 'verdererlaw09.TenantNil', WHERE WHAT IT READS IS OF BULK AT MOST 1048576: true; the input reads as it did. -/
def tenantNilUptoRow : OpenClaim := { program := "ythfaimomcbmniaa", sum := "961cb9bcec47e0cc09cb8f88325f6542d12a71408bdfaeb7dbd658a41ad09acc", func := "verderer/verdererlaw09.TenantNil", spec := "tenantNil", inPlace := ["maps.clone"], unfollowed := true, recurses := true, apart := false, narrowed := true }
def TenantNilUptoSaid : Prop := tenantNilUptoRow.holds Try.pinned (OpenSpec.upto tenantNilSpec)

end Rows
end Go.Proofs.Ythfaimomcbmniaa
