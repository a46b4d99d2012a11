/-
  verdererlaw28.QuotaTells: for every input the law returns true, and each argument reads behind the call as it read before. No condition.
-/
import Derived.Test.YtcenlehfbgnphaaMQuotaTellsa
import Derived.Test.YtcenlehfbgnphaaMQuotaTellsb
import Derived.Test.YtcenlehfbgnphaaMQuotaTellsc
import Derived.Test.YtcenlehfbgnphaaMQuotaTellsd
import Derived.Test.YtcenlehfbgnphaaMQuotaTellse
import Derived.Test.YtcenlehfbgnphaaMQuotaTellsf
import Derived.Test.YtcenlehfbgnphaaMQuotaTellsg
import Derived.Test.YtcenlehfbgnphaaRows
import Derived.WalkKit
import Derived.ProofKit
import Derived.OpenShut
import Derived.ShutString
import Derived.ChangeOld
import Derived.Below
namespace Go.Proofs.Ytcenlehfbgnphaa.quotaTells
open Go.ChangeShapes Go.WideShapes Go.ChangeAt Go.RowKit Go.Proofs.YtcenlehfbgnphaaW.PrintWords
open Go.ChangeMaps (open_string shut_string)
set_option linter.unusedVariables false
theorem own : ownKnob Try.prog.godebug = none := by kernel_rfl
theorem laidOut : laidOutB Try.prog = true := by kernel_rfl
set_option maxRecDepth 100000 in
theorem lifted (os : Os) (started : os.Started) (H : Type) (enc : TypeId × Value → H) :
    ReturnsInHanded {} Try.checked os 10 .any (Rows.quotaTellsSpec.pre6 enc Try.prog Try.f10 Rows.quotaTellsRow.domain false) (Rows.quotaTellsSpec.post enc Try.prog Try.f10 false true false false) := by
  refine returnsInHanded_of_change (C := Try.checked) own started (by kernel_rfl) Try.func10
    (ChangeSpec.witness6 (enc := enc) (C := Try.checked) false ⟨#[],#[.slice none 0 0,.slice none 0 0],[]⟩ 8 (by kernel_rfl) (by kernel_rfl) (by kernel_rfl) (by kernel_rfl)) ?_
  intro W base args ds gs before hval0 hW hcnd _
  have hval : ∀ (j : Nat) t v,Try.f10.params[j]? = some t → args[j]? = some v → Value.okWide Try.prog W .any base t v := hval0
  have hW' := hW
  obtain ⟨p,q,hA0,hV,rfl,hfz,hnd⟩ := hW
  have hA : DataW.TrodAll enc Try.prog W 0 (fun _ => true) true Try.f10.params.toList args.toList ds p := hA0
  rw [Try.params10] at hA hval
  obtain ⟨v0,vs0,d0,ds0,p0,q0,hargs,rfl,rfl,h0,r0⟩ := trodAll_cons hA
  obtain ⟨v1,vs1,d1,ds1,p1,q1,rfl,rfl,rfl,h1,r1⟩ := trodAll_cons r0
  obtain ⟨rfl,rfl,rfl⟩ := trodAll_nil r1
  obtain rfl : args = #[v0,v1] := by cases args;simp_all
  obtain ⟨rfl,rfl⟩ := trodVars_none hV
  obtain ⟨a0,len0,cap0,rfl⟩ := okWide_slice Try.underlying53 (hval 0 53 v0 rfl rfl)
  have k0 := h0
  have lt0 : ∀ x ∈ p0,x.block < W.heap.size := by obtain ⟨m,hm⟩ := k0;exact DataW.trod_lt m _ _ _ hm
  obtain ⟨l0,hK0,hG0⟩ : ∃ l,((Kd.slice 45 Z.k45) : Kd (List Z.S45)).K W l [.slice a0 len0 cap0] ∧ (l.length ≤ maxLen ∧ ∀ x ∈ l,Z.G45 x) := by obtain ⟨fuel,hf⟩ := h0;exact (show OfTrod Try.prog 53 (Kd.slice 45 Z.k45) _ from (ofTrod_slice Try.underlying53 (by kernel_rfl) Z.of45)) _ _ _ _ _ _ _ _ _ hf
  obtain ⟨A0,c0,he0,hl0,hC0⟩ := hK0
  simp only [List.cons.injEq,Value.slice.injEq,and_true] at he0
  obtain ⟨rfl,rfl,rfl⟩ := he0
  obtain ⟨a1,len1,cap1,rfl⟩ := okWide_slice Try.underlying53 (hval 1 53 v1 rfl rfl)
  have k1 := h1
  have lt1 : ∀ x ∈ p1,x.block < W.heap.size := by obtain ⟨m,hm⟩ := k1;exact DataW.trod_lt m _ _ _ hm
  obtain ⟨l1,hK1,hG1⟩ : ∃ l,((Kd.slice 45 Z.k45) : Kd (List Z.S45)).K W l [.slice a1 len1 cap1] ∧ (l.length ≤ maxLen ∧ ∀ x ∈ l,Z.G45 x) := by obtain ⟨fuel,hf⟩ := h1;exact (show OfTrod Try.prog 53 (Kd.slice 45 Z.k45) _ from (ofTrod_slice Try.underlying53 (by kernel_rfl) Z.of45)) _ _ _ _ _ _ _ _ _ hf
  obtain ⟨A1,c1,he1,hl1,hC1⟩ := hK1
  simp only [List.cons.injEq,Value.slice.injEq,and_true] at he1
  obtain ⟨rfl,rfl,rfl⟩ := he1
  clear hA0 hval0
  obtain ⟨k,h⟩ := Z.quotaTells_pure l0 l1 hG0 hG1
  refine (Z.verdererlaw28_QuotaTells.calls k _ _ l0 _ _ l1 true W hC0 hl0 hC1 hl1 h).mono fun e W' ⟨he,bel⟩ => ?_
  subst he
  exact ⟨_,rfl,_,_,_,[],_,[],hW',trodAll_mk1 (shut_bool Try.underlying4 _),(trodAll_cons_mk (Below.trod laidOut (by kernel_rfl) (of_decide_eq_true (by kernel_rfl)) k0 bel lt0) (trodAll_cons_mk (Below.trod laidOut (by kernel_rfl) (of_decide_eq_true (by kernel_rfl)) k1 bel lt1) trodAll_mk0)),rfl,bel.frame _,fun h => by cases h⟩
theorem over : Rows.quotaTellsRow.holds Try.pinned (OpenSpec.ofChange Rows.quotaTellsSpec) :=
  OpenClaim.holds_of_wide 10 Try.f10 rfl rfl rfl rfl rfl rfl rfl ⟨rfl,rfl,rfl,rfl,rfl⟩ rfl rfl rfl rfl rfl (by kernel_rfl) Try.func10 (by kernel_rfl)
    (of_decide_eq_true (by kernel_rfl)) (by unfold Func.isWrapper;first | (rw [if_pos (by decide +kernel)];kernel_rfl) | (rw [if_neg (by decide +kernel)];exact ⟨rfl,rfl⟩))
    (fun os started H enc _ => lifted os started H enc)
theorem proved : Rows.QuotaTellsSaid := over
#print axioms proved
end Go.Proofs.Ytcenlehfbgnphaa.quotaTells
namespace Go.Proofs.Ytcenlehfbgnphaa
theorem quotaTells_holds : Rows.QuotaTellsSaid := quotaTells.proved
end Go.Proofs.Ytcenlehfbgnphaa
