import Derived.Test.YtfoaeigoajooeaaZfverdererlaw02RowLine
import Derived.Test.YtfoaeigoajooeaaZRead
import Derived.Test.YtfoaeigoajooeaaRow
import Derived.Test.YtfoaeigoajooeaaKnown02
/- The plain law of RowLine. -/
namespace Go.Proofs.Ytfoaeigoajooeaa.Z
open Go.RowKit Go.Proofs.YtfoaeigoajooeaaW.PrintWords Go.Proofs.YtfoaeigoajooeaaW.PrintLast Go.Proofs.YtfoaeigoajooeaaW.PrintMore Go.Proofs.Ytfoaeigoajooeaa.Cmp

theorem rowLine_j0 (l0 l1 l2 : List S50) (b : Bool) (h0 : b = false → l0.length ≤ 200) (h1 : b = false → l1.length ≤ 200) (h2 : b = false → l2.length ≤ 200) : verdererlaw02_RowLine.j0 301 l0 l1 l2 b = some true := by
  rw [verdererlaw02_RowLine.j0]
  cases b with
  | true => simp only [if_true, known02 300 (by omega), Option.bind_some]
  | false =>
    have h0 := h0 rfl
    have h1 := h1 rfl
    have h2 := h2 rfl
    simp only [Bool.false_eq_true, if_false]
    rw [rowCompare_f l0 l1 (by omega) 300 (by omega), rowCompare_f l1 l2 (by omega) 300 (by omega), rowCompare_f l1 l0 (by omega) 300 (by omega), rowCompare_f l0 l2 (by omega) 300 (by omega)]
    simp only [known02 300 (by omega), Option.bind_some]
    have lo := rcmp_law.lo l0 l1
    have hi := rcmp_law.hi l0 l1
    rw [rcmp_law.anti l0 l1, wrap_id (by omega) (by omega)]
    have le := rcmp_law.le l0 l1 l2
    have eq := @CmpLaw.eq_trans _ _ rcmp_law l0 l1 l2
    generalize rcmp l0 l1 = x at *
    generalize rcmp l1 l2 = y at *
    generalize rcmp l0 l2 = z at *
    repeat' split
    all_goals first | rfl | (exfalso; omega)
theorem rowLine_pure : ∀ (l0 : (List S50)) (l1 : (List S50)) (l2 : (List S50)), (l0.length ≤ maxLen ∧ ∀ x ∈ l0, G50 x) → (l1.length ≤ maxLen ∧ ∀ x ∈ l1, G50 x) → (l2.length ≤ maxLen ∧ ∀ x ∈ l2, G50 x) → ∃ k, verdererlaw02_RowLine.f k l0 l1 l2 = some true := by
  intro l0 l1 l2 _ _ _
  refine ⟨301, ?_⟩
  unfold verdererlaw02_RowLine.f
  split
  · exact rowLine_j0 _ _ _ _ (by simp) (by simp) (by simp)
  · split
    · exact rowLine_j0 _ _ _ _ (by simp) (by simp) (by simp)
    · exact rowLine_j0 _ _ _ _ (fun _ => by omega) (fun _ => by omega) (fun h => by have := of_decide_eq_false h; omega)

end Go.Proofs.Ytfoaeigoajooeaa.Z
