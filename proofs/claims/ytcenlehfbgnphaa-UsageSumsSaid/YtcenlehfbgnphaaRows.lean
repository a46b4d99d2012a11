/-
  No cell of these rows narrows 'for every input' (looked for: loops, veiled, ifaces, maps, wideKeys, modest, calm, conditions, laid).
  DERIVED. THE GIVEN ROWS OF THIS SEAT. 12 by the template 'for every input the law returns true; each argument reads behind the call as it read before'; 0 by the template 'total and deterministic' (their statements: YtcenlehfbgnphaaTotals.lean).
  GIVEN WITH THE SEED: the statements are not yours to turn. If you find one false, say at which input.
  Laid BY PROGRAM, IN A SANDBOX (cutbox-rows.mjs): the forced cells as the released guide's own fill.sh prints them over the translation a893bbcf5e33f6ce… (all of the seat's roots in one cut). By AI agents, Wed Nov 11 2026. No macro, syntax, notation, axiom, sorry.
-/
import Derived.Test.YtcenlehfbgnphaaChecked
import GoSem.Claim
import GoSem.ClaimJoined
import GoSem.ClaimMapViews
import Derived.JoinedTies
import Derived.KernelRfl
namespace Go.Proofs.Ytcenlehfbgnphaa
/- THE CELL 'sum', in the pinned program and in every row, IS THE sha256 OF THE DUMP (.gsa) THAT YtcenlehfbgnphaaProg.lean LOADS. Nothing in Lean hashes anything: it is a label: what it is worth is what the hold of that sum in a sandbox is worth. -/
noncomputable def Try.pinned : Pinned := { name := "ytcenlehfbgnphaa", sum := "a893bbcf5e33f6ceec0354d297b20fc59990cd62222bf877685b23cfac7d49c2", checked := Try.checked }
namespace Rows
def none {H : Type} : Left H := { results := [], args := [] }

/-- 'verdererlaw03.SafeSums': WHATEVER THE INPUT: true; the input reads as it did. -/
def safeSumsSpec : ChangeSpec := { name := "safeSums", fn := fun _ => fun
  | [d] => { results := [.lit (.bool true)], args := [d] }
  | _ => none }
def safeSumsRow : OpenClaim := { program := "ytcenlehfbgnphaa", sum := "a893bbcf5e33f6ceec0354d297b20fc59990cd62222bf877685b23cfac7d49c2", func := "verderer/verdererlaw03.SafeSums", spec := "safeSums", recurses := true, apart := false }
def SafeSumsSaid : Prop := safeSumsRow.holds Try.pinned (OpenSpec.ofChange safeSumsSpec)

/-- ITS FALSE NEIGHBOUR: 'it returns false'. Refute it at one input. -/
def safeSumsWrong : ChangeSpec := { name := "safeSums", fn := fun _ => fun
  | [d] => { results := [.lit (.bool false)], args := [d] }
  | _ => none }
def SafeSumsWrongFalsely : Prop := safeSumsRow.holds Try.pinned (OpenSpec.ofChange safeSumsWrong)

/-- 'verdererlaw03.SafeOrder': WHATEVER THE INPUT: true; the input reads as it did. -/
def safeOrderSpec : ChangeSpec := { name := "safeOrder", fn := fun _ => fun
  | [d] => { results := [.lit (.bool true)], args := [d] }
  | _ => none }
def safeOrderRow : OpenClaim := { program := "ytcenlehfbgnphaa", sum := "a893bbcf5e33f6ceec0354d297b20fc59990cd62222bf877685b23cfac7d49c2", func := "verderer/verdererlaw03.SafeOrder", spec := "safeOrder", apart := false }
def SafeOrderSaid : Prop := safeOrderRow.holds Try.pinned (OpenSpec.ofChange safeOrderSpec)

/-- ITS FALSE NEIGHBOUR: 'it returns false'. Refute it at one input. -/
def safeOrderWrong : ChangeSpec := { name := "safeOrder", fn := fun _ => fun
  | [d] => { results := [.lit (.bool false)], args := [d] }
  | _ => none }
def SafeOrderWrongFalsely : Prop := safeOrderRow.holds Try.pinned (OpenSpec.ofChange safeOrderWrong)

/-- 'verdererlaw03.SafeNil': WHATEVER THE INPUT: true; the input reads as it did. -/
def safeNilSpec : ChangeSpec := { name := "safeNil", fn := fun _ => fun
  | [d] => { results := [.lit (.bool true)], args := [d] }
  | _ => none }
def safeNilRow : OpenClaim := { program := "ytcenlehfbgnphaa", sum := "a893bbcf5e33f6ceec0354d297b20fc59990cd62222bf877685b23cfac7d49c2", func := "verderer/verdererlaw03.SafeNil", spec := "safeNil", apart := false }
def SafeNilSaid : Prop := safeNilRow.holds Try.pinned (OpenSpec.ofChange safeNilSpec)

/-- ITS FALSE NEIGHBOUR: 'it returns false'. Refute it at one input. -/
def safeNilWrong : ChangeSpec := { name := "safeNil", fn := fun _ => fun
  | [d] => { results := [.lit (.bool false)], args := [d] }
  | _ => none }
def SafeNilWrongFalsely : Prop := safeNilRow.holds Try.pinned (OpenSpec.ofChange safeNilWrong)

/-- 'verdererlaw03.SafeOps': WHATEVER THE INPUT: true; the input reads as it did. -/
def safeOpsSpec : ChangeSpec := { name := "safeOps", fn := fun _ => fun
  | [d1, d2] => { results := [.lit (.bool true)], args := [d1, d2] }
  | _ => none }
def safeOpsRow : OpenClaim := { program := "ytcenlehfbgnphaa", sum := "a893bbcf5e33f6ceec0354d297b20fc59990cd62222bf877685b23cfac7d49c2", func := "verderer/verdererlaw03.SafeOps", spec := "safeOps", recurses := true, apart := false }
def SafeOpsSaid : Prop := safeOpsRow.holds Try.pinned (OpenSpec.ofChange safeOpsSpec)

/-- ITS FALSE NEIGHBOUR: 'it returns false'. Refute it at one input. -/
def safeOpsWrong : ChangeSpec := { name := "safeOps", fn := fun _ => fun
  | [d1, d2] => { results := [.lit (.bool false)], args := [d1, d2] }
  | _ => none }
def SafeOpsWrongFalsely : Prop := safeOpsRow.holds Try.pinned (OpenSpec.ofChange safeOpsWrong)

/-- 'verdererlaw35.RateTells': WHATEVER THE INPUT: true; the input reads as it did. -/
def rateTellsSpec : ChangeSpec := { name := "rateTells", fn := fun _ => fun
  | [d1, d2, d3] => { results := [.lit (.bool true)], args := [d1, d2, d3] }
  | _ => none }
def rateTellsRow : OpenClaim := { program := "ytcenlehfbgnphaa", sum := "a893bbcf5e33f6ceec0354d297b20fc59990cd62222bf877685b23cfac7d49c2", func := "verderer/verdererlaw35.RateTells", spec := "rateTells", inPlace := ["math.Float64bits", "math.Float64frombits"], apart := false }
def RateTellsSaid : Prop := rateTellsRow.holds Try.pinned (OpenSpec.ofChange rateTellsSpec)

/-- ITS FALSE NEIGHBOUR: 'it returns false'. Refute it at one input. -/
def rateTellsWrong : ChangeSpec := { name := "rateTells", fn := fun _ => fun
  | [d1, d2, d3] => { results := [.lit (.bool false)], args := [d1, d2, d3] }
  | _ => none }
def RateTellsWrongFalsely : Prop := rateTellsRow.holds Try.pinned (OpenSpec.ofChange rateTellsWrong)

/-- 'verdererlaw35.RateLine': WHATEVER THE INPUT: true; the input reads as it did. -/
def rateLineSpec : ChangeSpec := { name := "rateLine", fn := fun _ => fun
  | [d1, d2, d3] => { results := [.lit (.bool true)], args := [d1, d2, d3] }
  | _ => none }
def rateLineRow : OpenClaim := { program := "ytcenlehfbgnphaa", sum := "a893bbcf5e33f6ceec0354d297b20fc59990cd62222bf877685b23cfac7d49c2", func := "verderer/verdererlaw35.RateLine", spec := "rateLine", inPlace := ["math.Float64bits", "math.Float64frombits"], apart := false }
def RateLineSaid : Prop := rateLineRow.holds Try.pinned (OpenSpec.ofChange rateLineSpec)

/-- ITS FALSE NEIGHBOUR: 'it returns false'. Refute it at one input. -/
def rateLineWrong : ChangeSpec := { name := "rateLine", fn := fun _ => fun
  | [d1, d2, d3] => { results := [.lit (.bool false)], args := [d1, d2, d3] }
  | _ => none }
def RateLineWrongFalsely : Prop := rateLineRow.holds Try.pinned (OpenSpec.ofChange rateLineWrong)

/-- 'verdererlaw35.RateRanks': WHATEVER THE INPUT: true; the input reads as it did. -/
def rateRanksSpec : ChangeSpec := { name := "rateRanks", fn := fun _ => fun
  | [d] => { results := [.lit (.bool true)], args := [d] }
  | _ => none }
def rateRanksRow : OpenClaim := { program := "ytcenlehfbgnphaa", sum := "a893bbcf5e33f6ceec0354d297b20fc59990cd62222bf877685b23cfac7d49c2", func := "verderer/verdererlaw35.RateRanks", spec := "rateRanks", inPlace := ["math.Float64bits", "math.Float64frombits"], unfollowed := true, recurses := true, apart := false }
def RateRanksSaid : Prop := rateRanksRow.holds Try.pinned (OpenSpec.ofChange rateRanksSpec)

/-- ITS FALSE NEIGHBOUR: 'it returns false'. Refute it at one input. -/
def rateRanksWrong : ChangeSpec := { name := "rateRanks", fn := fun _ => fun
  | [d] => { results := [.lit (.bool false)], args := [d] }
  | _ => none }
def RateRanksWrongFalsely : Prop := rateRanksRow.holds Try.pinned (OpenSpec.ofChange rateRanksWrong)

/-- 'verdererlaw28.QuotaTells': WHATEVER THE INPUT: true; the input reads as it did. -/
def quotaTellsSpec : ChangeSpec := { name := "quotaTells", fn := fun _ => fun
  | [d1, d2] => { results := [.lit (.bool true)], args := [d1, d2] }
  | _ => none }
def quotaTellsRow : OpenClaim := { program := "ytcenlehfbgnphaa", sum := "a893bbcf5e33f6ceec0354d297b20fc59990cd62222bf877685b23cfac7d49c2", func := "verderer/verdererlaw28.QuotaTells", spec := "quotaTells", unfollowed := true, recurses := true, apart := false }
def QuotaTellsSaid : Prop := quotaTellsRow.holds Try.pinned (OpenSpec.ofChange quotaTellsSpec)

/-- ITS FALSE NEIGHBOUR: 'it returns false'. Refute it at one input. -/
def quotaTellsWrong : ChangeSpec := { name := "quotaTells", fn := fun _ => fun
  | [d1, d2] => { results := [.lit (.bool false)], args := [d1, d2] }
  | _ => none }
def QuotaTellsWrongFalsely : Prop := quotaTellsRow.holds Try.pinned (OpenSpec.ofChange quotaTellsWrong)

/-- 'verdererlaw28.QuotaKeeps': WHATEVER THE INPUT: true; the input reads as it did. -/
def quotaKeepsSpec : ChangeSpec := { name := "quotaKeeps", fn := fun _ => fun
  | [d1, d2, d3] => { results := [.lit (.bool true)], args := [d1, d2, d3] }
  | _ => none }
def quotaKeepsRow : OpenClaim := { program := "ytcenlehfbgnphaa", sum := "a893bbcf5e33f6ceec0354d297b20fc59990cd62222bf877685b23cfac7d49c2", func := "verderer/verdererlaw28.QuotaKeeps", spec := "quotaKeeps", unfollowed := true, recurses := true, apart := false }
def QuotaKeepsSaid : Prop := quotaKeepsRow.holds Try.pinned (OpenSpec.ofChange quotaKeepsSpec)

/-- ITS FALSE NEIGHBOUR: 'it returns false'. Refute it at one input. -/
def quotaKeepsWrong : ChangeSpec := { name := "quotaKeeps", fn := fun _ => fun
  | [d1, d2, d3] => { results := [.lit (.bool false)], args := [d1, d2, d3] }
  | _ => none }
def QuotaKeepsWrongFalsely : Prop := quotaKeepsRow.holds Try.pinned (OpenSpec.ofChange quotaKeepsWrong)

/-- 'verdererlaw28.QuotaLess': WHATEVER THE INPUT: true; the input reads as it did. -/
def quotaLessSpec : ChangeSpec := { name := "quotaLess", fn := fun _ => fun
  | [d1, d2] => { results := [.lit (.bool true)], args := [d1, d2] }
  | _ => none }
def quotaLessRow : OpenClaim := { program := "ytcenlehfbgnphaa", sum := "a893bbcf5e33f6ceec0354d297b20fc59990cd62222bf877685b23cfac7d49c2", func := "verderer/verdererlaw28.QuotaLess", spec := "quotaLess", unfollowed := true, recurses := true, apart := false }
def QuotaLessSaid : Prop := quotaLessRow.holds Try.pinned (OpenSpec.ofChange quotaLessSpec)

/-- ITS FALSE NEIGHBOUR: 'it returns false'. Refute it at one input. -/
def quotaLessWrong : ChangeSpec := { name := "quotaLess", fn := fun _ => fun
  | [d1, d2] => { results := [.lit (.bool false)], args := [d1, d2] }
  | _ => none }
def QuotaLessWrongFalsely : Prop := quotaLessRow.holds Try.pinned (OpenSpec.ofChange quotaLessWrong)

/-- 'verdererlaw27.UsageFinds': WHATEVER THE INPUT: true; the input reads as it did. -/
def usageFindsSpec : ChangeSpec := { name := "usageFinds", fn := fun _ => fun
  | [d1, d2, d3] => { results := [.lit (.bool true)], args := [d1, d2, d3] }
  | _ => none }
def usageFindsRow : OpenClaim := { program := "ytcenlehfbgnphaa", sum := "a893bbcf5e33f6ceec0354d297b20fc59990cd62222bf877685b23cfac7d49c2", func := "verderer/verdererlaw27.UsageFinds", spec := "usageFinds", unfollowed := true, recurses := true, apart := false }
def UsageFindsSaid : Prop := usageFindsRow.holds Try.pinned (OpenSpec.ofChange usageFindsSpec)

/-- ITS FALSE NEIGHBOUR: 'it returns false'. Refute it at one input. -/
def usageFindsWrong : ChangeSpec := { name := "usageFinds", fn := fun _ => fun
  | [d1, d2, d3] => { results := [.lit (.bool false)], args := [d1, d2, d3] }
  | _ => none }
def UsageFindsWrongFalsely : Prop := usageFindsRow.holds Try.pinned (OpenSpec.ofChange usageFindsWrong)

/-- 'verdererlaw27.UsageSums': WHATEVER THE INPUT: true; the input reads as it did. -/
def usageSumsSpec : ChangeSpec := { name := "usageSums", fn := fun _ => fun
  | [d1, d2] => { results := [.lit (.bool true)], args := [d1, d2] }
  | _ => none }
def usageSumsRow : OpenClaim := { program := "ytcenlehfbgnphaa", sum := "a893bbcf5e33f6ceec0354d297b20fc59990cd62222bf877685b23cfac7d49c2", func := "verderer/verdererlaw27.UsageSums", spec := "usageSums", unfollowed := true, recurses := true, apart := false }
def UsageSumsSaid : Prop := usageSumsRow.holds Try.pinned (OpenSpec.ofChange usageSumsSpec)

/-- ITS FALSE NEIGHBOUR: 'it returns false'. Refute it at one input. -/
def usageSumsWrong : ChangeSpec := { name := "usageSums", fn := fun _ => fun
  | [d1, d2] => { results := [.lit (.bool false)], args := [d1, d2] }
  | _ => none }
def UsageSumsWrongFalsely : Prop := usageSumsRow.holds Try.pinned (OpenSpec.ofChange usageSumsWrong)

/- THE SECOND FORM. 'bulk': how many values and letters a reading holds, each counted each time it is reached (what is shared counts as often as it is met; a slice's spare places count too). A statement '..UptoSaid' is the law's where the arguments, and the package variables that the reading takes, are together of bulk at most 1048576: NARROWER than '..Said'. Prove '..Said' where nothing that the law and all that it calls make is longer than what came in: it says more and counts as full. Else prove '..UptoSaid'. A law counts once. -/
mutual
def uptoBulk {H : Type} : DataW H → Nat
  | .lit (.string bytes) => bytes.length + 1
  | .lit _ => 1
  | .nil => 1
  | .ptr d => uptoBulk d + 1
  | .slice elems spare => uptoBulkAll elems + uptoBulkAll spare + 1
  | .agg parts => uptoBulkAll parts + 1
  | .iface _ d => uptoBulk d + 1
  | .map entries => uptoBulkEntries entries + 1
  | .held _ => 1
def uptoBulkAll {H : Type} : List (DataW H) → Nat
  | [] => 0
  | d :: r => uptoBulk d + uptoBulkAll r
def uptoBulkEntries {H : Type} : List (Lit × DataW H) → Nat
  | [] => 0
  | x :: r => uptoBulkEntry x + uptoBulkEntries r
def uptoBulkEntry {H : Type} : Lit × DataW H → Nat
  | (.string bytes, d) => bytes.length + uptoBulk d + 1
  | (_, d) => uptoBulk d + 1
 end
def uptoSmall : (H : Type) → List (DataW H) → Bool := fun _ ds => decide (uptoBulkAll ds ≤ 1048576)
def OpenSpec.upto (s : _root_.Go.ChangeSpec) : _root_.Go.OpenSpec := { _root_.Go.OpenSpec.ofChange s with cond := some uptoSmall }

/-- 'verdererlaw03.SafeSums', WHERE WHAT IT READS IS OF BULK AT MOST 1048576: true; the input reads as it did. -/
def safeSumsUptoRow : OpenClaim := { program := "ytcenlehfbgnphaa", sum := "a893bbcf5e33f6ceec0354d297b20fc59990cd62222bf877685b23cfac7d49c2", func := "verderer/verdererlaw03.SafeSums", spec := "safeSums", recurses := true, apart := false, narrowed := true }
def SafeSumsUptoSaid : Prop := safeSumsUptoRow.holds Try.pinned (OpenSpec.upto safeSumsSpec)

/-- 'verdererlaw03.SafeOrder', WHERE WHAT IT READS IS OF BULK AT MOST 1048576: true; the input reads as it did. -/
def safeOrderUptoRow : OpenClaim := { program := "ytcenlehfbgnphaa", sum := "a893bbcf5e33f6ceec0354d297b20fc59990cd62222bf877685b23cfac7d49c2", func := "verderer/verdererlaw03.SafeOrder", spec := "safeOrder", apart := false, narrowed := true }
def SafeOrderUptoSaid : Prop := safeOrderUptoRow.holds Try.pinned (OpenSpec.upto safeOrderSpec)

/-- 'verdererlaw03.SafeNil', WHERE WHAT IT READS IS OF BULK AT MOST 1048576: true; the input reads as it did. -/
def safeNilUptoRow : OpenClaim := { program := "ytcenlehfbgnphaa", sum := "a893bbcf5e33f6ceec0354d297b20fc59990cd62222bf877685b23cfac7d49c2", func := "verderer/verdererlaw03.SafeNil", spec := "safeNil", apart := false, narrowed := true }
def SafeNilUptoSaid : Prop := safeNilUptoRow.holds Try.pinned (OpenSpec.upto safeNilSpec)

/-- 'verdererlaw03.SafeOps', WHERE WHAT IT READS IS OF BULK AT MOST 1048576: true; the input reads as it did. -/
def safeOpsUptoRow : OpenClaim := { program := "ytcenlehfbgnphaa", sum := "a893bbcf5e33f6ceec0354d297b20fc59990cd62222bf877685b23cfac7d49c2", func := "verderer/verdererlaw03.SafeOps", spec := "safeOps", recurses := true, apart := false, narrowed := true }
def SafeOpsUptoSaid : Prop := safeOpsUptoRow.holds Try.pinned (OpenSpec.upto safeOpsSpec)

/-- 'verdererlaw35.RateTells', WHERE WHAT IT READS IS OF BULK AT MOST 1048576: true; the input reads as it did. -/
def rateTellsUptoRow : OpenClaim := { program := "ytcenlehfbgnphaa", sum := "a893bbcf5e33f6ceec0354d297b20fc59990cd62222bf877685b23cfac7d49c2", func := "verderer/verdererlaw35.RateTells", spec := "rateTells", inPlace := ["math.Float64bits", "math.Float64frombits"], apart := false, narrowed := true }
def RateTellsUptoSaid : Prop := rateTellsUptoRow.holds Try.pinned (OpenSpec.upto rateTellsSpec)

/-- 'verdererlaw35.RateLine', WHERE WHAT IT READS IS OF BULK AT MOST 1048576: true; the input reads as it did. -/
def rateLineUptoRow : OpenClaim := { program := "ytcenlehfbgnphaa", sum := "a893bbcf5e33f6ceec0354d297b20fc59990cd62222bf877685b23cfac7d49c2", func := "verderer/verdererlaw35.RateLine", spec := "rateLine", inPlace := ["math.Float64bits", "math.Float64frombits"], apart := false, narrowed := true }
def RateLineUptoSaid : Prop := rateLineUptoRow.holds Try.pinned (OpenSpec.upto rateLineSpec)

/-- 'verdererlaw35.RateRanks', WHERE WHAT IT READS IS OF BULK AT MOST 1048576: true; the input reads as it did. -/
def rateRanksUptoRow : OpenClaim := { program := "ytcenlehfbgnphaa", sum := "a893bbcf5e33f6ceec0354d297b20fc59990cd62222bf877685b23cfac7d49c2", func := "verderer/verdererlaw35.RateRanks", spec := "rateRanks", inPlace := ["math.Float64bits", "math.Float64frombits"], unfollowed := true, recurses := true, apart := false, narrowed := true }
def RateRanksUptoSaid : Prop := rateRanksUptoRow.holds Try.pinned (OpenSpec.upto rateRanksSpec)

/-- 'verdererlaw28.QuotaTells', WHERE WHAT IT READS IS OF BULK AT MOST 1048576: true; the input reads as it did. -/
def quotaTellsUptoRow : OpenClaim := { program := "ytcenlehfbgnphaa", sum := "a893bbcf5e33f6ceec0354d297b20fc59990cd62222bf877685b23cfac7d49c2", func := "verderer/verdererlaw28.QuotaTells", spec := "quotaTells", unfollowed := true, recurses := true, apart := false, narrowed := true }
def QuotaTellsUptoSaid : Prop := quotaTellsUptoRow.holds Try.pinned (OpenSpec.upto quotaTellsSpec)

/-- 'verdererlaw28.QuotaKeeps', WHERE WHAT IT READS IS OF BULK AT MOST 1048576: true; the input reads as it did. -/
def quotaKeepsUptoRow : OpenClaim := { program := "ytcenlehfbgnphaa", sum := "a893bbcf5e33f6ceec0354d297b20fc59990cd62222bf877685b23cfac7d49c2", func := "verderer/verdererlaw28.QuotaKeeps", spec := "quotaKeeps", unfollowed := true, recurses := true, apart := false, narrowed := true }
def QuotaKeepsUptoSaid : Prop := quotaKeepsUptoRow.holds Try.pinned (OpenSpec.upto quotaKeepsSpec)

/-- 'verdererlaw28.QuotaLess', WHERE WHAT IT READS IS OF BULK AT MOST 1048576: true; the input reads as it did. -/
def quotaLessUptoRow : OpenClaim := { program := "ytcenlehfbgnphaa", sum := "a893bbcf5e33f6ceec0354d297b20fc59990cd62222bf877685b23cfac7d49c2", func := "verderer/verdererlaw28.QuotaLess", spec := "quotaLess", unfollowed := true, recurses := true, apart := false, narrowed := true }
def QuotaLessUptoSaid : Prop := quotaLessUptoRow.holds Try.pinned (OpenSpec.upto quotaLessSpec)

/-- 'verdererlaw27.UsageFinds', WHERE WHAT IT READS IS OF BULK AT MOST 1048576: true; the input reads as it did. -/
def usageFindsUptoRow : OpenClaim := { program := "ytcenlehfbgnphaa", sum := "a893bbcf5e33f6ceec0354d297b20fc59990cd62222bf877685b23cfac7d49c2", func := "verderer/verdererlaw27.UsageFinds", spec := "usageFinds", unfollowed := true, recurses := true, apart := false, narrowed := true }
def UsageFindsUptoSaid : Prop := usageFindsUptoRow.holds Try.pinned (OpenSpec.upto usageFindsSpec)

/-- 'verdererlaw27.UsageSums', WHERE WHAT IT READS IS OF BULK AT MOST 1048576: true; the input reads as it did. -/
def usageSumsUptoRow : OpenClaim := { program := "ytcenlehfbgnphaa", sum := "a893bbcf5e33f6ceec0354d297b20fc59990cd62222bf877685b23cfac7d49c2", func := "verderer/verdererlaw27.UsageSums", spec := "usageSums", unfollowed := true, recurses := true, apart := false, narrowed := true }
def UsageSumsUptoSaid : Prop := usageSumsUptoRow.holds Try.pinned (OpenSpec.upto usageSumsSpec)

end Rows
end Go.Proofs.Ytcenlehfbgnphaa
