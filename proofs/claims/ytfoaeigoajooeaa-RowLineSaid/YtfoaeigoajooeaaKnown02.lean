import Derived.Test.YtfoaeigoajooeaaZfverdererlaw02known
/- The fixed calls of chapter 2's statements come as they must. -/
namespace Go.Proofs.Ytfoaeigoajooeaa.Z
open Go.RowKit Go.Proofs.YtfoaeigoajooeaaW.PrintWords Go.Proofs.YtfoaeigoajooeaaW.PrintLast Go.Proofs.YtfoaeigoajooeaaW.PrintMore
theorem known02 (k : Nat) (hk : 60 ≤ k) : verdererlaw02_known.f k = some true := at_rounds (fun k => verdererlaw02_known.mono k) hk (by decide +kernel)
end Go.Proofs.Ytfoaeigoajooeaa.Z
