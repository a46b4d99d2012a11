/-
  verdererlaw02.RowLine: for every input the law returns true, and each argument reads behind the call as it read before. No condition.
-/
import Derived.Test.YtfoaeigoajooeaaRows
import Derived.Test.YtfoaeigoajooeaaPureRowLine
import Derived.Test.YtfoaeigoajooeaaXread
import Derived.WalkKit
import Derived.ProofKit
import Derived.OpenShut
import Derived.ShutString
import Derived.ChangeOld
import Derived.Below
namespace Go.Proofs.Ytfoaeigoajooeaa.rowLine
open Go.ChangeShapes Go.WideShapes Go.ChangeAt Go.RowKit Go.Proofs.YtfoaeigoajooeaaW.PrintWords
open Go.ChangeMaps (open_string shut_string)
set_option linter.unusedVariables false
theorem own : ownKnob Try.prog.godebug = none := by kernel_rfl
theorem laidOut : laidOutB Try.prog = true := by kernel_rfl
set_option maxRecDepth 100000 in
theorem lifted (os : Os) (started : os.Started) (H : Type) (enc : TypeId × Value → H) :
    ReturnsInHanded {} Try.checked os 3 .any (Rows.rowLineSpec.pre6 enc Try.prog Try.f3 Rows.rowLineRow.domain false) (Rows.rowLineSpec.post enc Try.prog Try.f3 false true false false) := by
  refine returnsInHanded_of_change (C := Try.checked) own started (by kernel_rfl) Try.func3
    (ChangeSpec.witness6 (enc := enc) (C := Try.checked) false ⟨#[], #[.slice none 0 0, .slice none 0 0, .slice none 0 0], []⟩ 8 (by kernel_rfl) (by kernel_rfl) (by kernel_rfl) (by kernel_rfl)) ?_
  intro W base args ds gs before hval0 hW hcnd _
  have hval : ∀ (j : Nat) t v, Try.f3.params[j]? = some t → args[j]? = some v → Value.okWide Try.prog W .any base t v := hval0
  have hW' := hW
  obtain ⟨p, q, hA0, hV, rfl, hfz, hnd⟩ := hW
  have hA : DataW.TrodAll enc Try.prog W 0 (fun _ => true) true Try.f3.params.toList args.toList ds p := hA0
  rw [Try.params3] at hA hval
  obtain ⟨v0, vs0, d0, ds0, p0, q0, hargs, rfl, rfl, h0, r0⟩ := trodAll_cons hA
  obtain ⟨v1, vs1, d1, ds1, p1, q1, rfl, rfl, rfl, h1, r1⟩ := trodAll_cons r0
  obtain ⟨v2, vs2, d2, ds2, p2, q2, rfl, rfl, rfl, h2, r2⟩ := trodAll_cons r1
  obtain ⟨rfl, rfl, rfl⟩ := trodAll_nil r2
  obtain rfl : args = #[v0, v1, v2] := by cases args; simp_all
  obtain ⟨rfl, rfl⟩ := trodVars_none hV
  obtain ⟨a0, len0, cap0, rfl⟩ := okWide_slice Try.underlying22 (hval 0 22 v0 rfl rfl)
  have k0 := h0
  have lt0 : ∀ x ∈ p0, x.block < W.heap.size := by obtain ⟨m, hm⟩ := k0; exact DataW.trod_lt m _ _ _ hm
  obtain ⟨l0, hK0, hG0⟩ : ∃ l, ((Kd.slice 50 Z.k50) : Kd (List Z.S50)).K W l [.slice a0 len0 cap0] ∧ (l.length ≤ maxLen ∧ ∀ x ∈ l, Z.G50 x) := by obtain ⟨fuel, hf⟩ := h0; exact (show OfTrod Try.prog 22 (Kd.slice 50 Z.k50) _ from (ofTrod_slice Try.underlying22 (by kernel_rfl) Z.of50)) _ _ _ _ _ _ _ _ _ hf
  obtain ⟨A0, c0, he0, hl0, hC0⟩ := hK0
  simp only [List.cons.injEq, Value.slice.injEq, and_true] at he0
  obtain ⟨rfl, rfl, rfl⟩ := he0
  obtain ⟨a1, len1, cap1, rfl⟩ := okWide_slice Try.underlying22 (hval 1 22 v1 rfl rfl)
  have k1 := h1
  have lt1 : ∀ x ∈ p1, x.block < W.heap.size := by obtain ⟨m, hm⟩ := k1; exact DataW.trod_lt m _ _ _ hm
  obtain ⟨l1, hK1, hG1⟩ : ∃ l, ((Kd.slice 50 Z.k50) : Kd (List Z.S50)).K W l [.slice a1 len1 cap1] ∧ (l.length ≤ maxLen ∧ ∀ x ∈ l, Z.G50 x) := by obtain ⟨fuel, hf⟩ := h1; exact (show OfTrod Try.prog 22 (Kd.slice 50 Z.k50) _ from (ofTrod_slice Try.underlying22 (by kernel_rfl) Z.of50)) _ _ _ _ _ _ _ _ _ hf
  obtain ⟨A1, c1, he1, hl1, hC1⟩ := hK1
  simp only [List.cons.injEq, Value.slice.injEq, and_true] at he1
  obtain ⟨rfl, rfl, rfl⟩ := he1
  obtain ⟨a2, len2, cap2, rfl⟩ := okWide_slice Try.underlying22 (hval 2 22 v2 rfl rfl)
  have k2 := h2
  have lt2 : ∀ x ∈ p2, x.block < W.heap.size := by obtain ⟨m, hm⟩ := k2; exact DataW.trod_lt m _ _ _ hm
  obtain ⟨l2, hK2, hG2⟩ : ∃ l, ((Kd.slice 50 Z.k50) : Kd (List Z.S50)).K W l [.slice a2 len2 cap2] ∧ (l.length ≤ maxLen ∧ ∀ x ∈ l, Z.G50 x) := by obtain ⟨fuel, hf⟩ := h2; exact (show OfTrod Try.prog 22 (Kd.slice 50 Z.k50) _ from (ofTrod_slice Try.underlying22 (by kernel_rfl) Z.of50)) _ _ _ _ _ _ _ _ _ hf
  obtain ⟨A2, c2, he2, hl2, hC2⟩ := hK2
  simp only [List.cons.injEq, Value.slice.injEq, and_true] at he2
  obtain ⟨rfl, rfl, rfl⟩ := he2
  clear hA0 hval0
  obtain ⟨k, h⟩ := Z.rowLine_pure l0 l1 l2 hG0 hG1 hG2
  refine (Z.verdererlaw02_RowLine.calls k _ _ l0 _ _ l1 _ _ l2 true W hC0 hl0 hC1 hl1 hC2 hl2 h).mono fun e W' ⟨he, bel⟩ => ?_
  subst he
  exact ⟨_, rfl, _, _, _, [], _, [], hW', trodAll_mk1 (shut_bool Try.underlying4 _), (trodAll_cons_mk (Below.trod laidOut (by kernel_rfl) (of_decide_eq_true (by kernel_rfl)) k0 bel lt0) (trodAll_cons_mk (Below.trod laidOut (by kernel_rfl) (of_decide_eq_true (by kernel_rfl)) k1 bel lt1) (trodAll_cons_mk (Below.trod laidOut (by kernel_rfl) (of_decide_eq_true (by kernel_rfl)) k2 bel lt2) trodAll_mk0))), rfl, bel.frame _, fun h => by cases h⟩
theorem over : Rows.rowLineRow.holds Try.pinned (OpenSpec.ofChange Rows.rowLineSpec) :=
  OpenClaim.holds_of_wide 3 Try.f3 rfl rfl rfl rfl rfl rfl rfl ⟨rfl, rfl, rfl, rfl, rfl⟩ rfl rfl rfl rfl rfl (by kernel_rfl) Try.func3 (by kernel_rfl)
    (of_decide_eq_true (by kernel_rfl)) (by unfold Func.isWrapper; first | (rw [if_pos (by decide +kernel)]; kernel_rfl) | (rw [if_neg (by decide +kernel)]; exact ⟨rfl, rfl⟩))
    (fun os started H enc _ => lifted os started H enc)
theorem proved : Rows.RowLineSaid := over
#print axioms proved
end Go.Proofs.Ytfoaeigoajooeaa.rowLine
namespace Go.Proofs.Ytfoaeigoajooeaa
/-- The row, under a short name, for the claim. -/
theorem rowLine_holds : Rows.RowLineSaid := rowLine.proved
end Go.Proofs.Ytfoaeigoajooeaa
