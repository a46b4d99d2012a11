/-
  verdererlaw06.IndexNil: for every input the law returns true, and each argument reads behind the call as it read before. No condition.
-/
import Derived.Test.YthmbfcfomcaaaaaMIndexNila
import Derived.Test.YthmbfcfomcaaaaaMIndexNilb
import Derived.Test.YthmbfcfomcaaaaaMIndexNilc
import Derived.Test.YthmbfcfomcaaaaaMIndexNild
import Derived.Test.YthmbfcfomcaaaaaMIndexNile
import Derived.Test.YthmbfcfomcaaaaaRows
import Derived.WalkKit
import Derived.ProofKit
import Derived.OpenShut
import Derived.ShutString
import Derived.ChangeOld
import Derived.Below
import Derived.Laws.Cover2
section
namespace Go.Proofs.Ythmbfcfomcaaaaa.Z
set_option linter.unusedVariables false
set_option linter.unusedSimpArgs false
open Go.RowKit Go.Shelf Go.Maps Go.Proofs.YthmbfcfomcaaaaaW.PrintWords Go.Proofs.YthmbfcfomcaaaaaW.PrintLast Go.Proofs.YthmbfcfomcaaaaaW.PrintMore Go.Proofs.Ythmbfcfomcaaaaa.Cmp
set_option maxHeartbeats 4000000 in
set_option maxRecDepth 100000 in
theorem idx_has0 (A : Option Addr) (n c : Nat) (w : World) : Calls Try.prog 43 #[.pointer none,.slice A n c] w fun e w' => e = .returned (.int .i64 0) ∧ w = w' := by
  go_enter Try.func43,Try.ntmps43
  go_wp2_with (fail)
  refine (idx_find0 A n c w).mono ?_
  rintro e w1 ⟨rfl,ew⟩
  subst ew
  go_wp2_with (fail)
  go_loopw [12,5] (fun iv cv wr => iv = .int .i64 0 ∧ cv = .int .i64 0 ∧ wr = w) (fun iv _ _ => 0)
  case atStart => exact ⟨rfl,rfl,rfl⟩
  case round =>
    obtain ⟨rfl,rfl,ew⟩ := hrel
    subst ew
    go_wp2_with (fail)
    go_ret
    exact ⟨rfl,rfl⟩
set_option maxHeartbeats 4000000 in
set_option maxRecDepth 100000 in
theorem index_nil (A : Option Addr) (n c : Nat) (w : World) : Calls Try.prog 9 #[.slice A n c] w fun e w' => e = .returned (.bool true) ∧ Below w.heap.size w w' := by
  go_enter Try.func9,Try.ntmps9
  go_wp2_with (fail)
  refine (idx_add0 A n c 1 w).mono ?_
  rintro e w' ⟨rfl,ew⟩
  subst ew
  go_wp2_with (fail)
  refine (idx_find0 A n c w).mono ?_
  rintro e w' ⟨rfl,ew⟩
  subst ew
  go_wp2_with (fail)
  refine (idx_has0 A n c w).mono ?_
  rintro e w' ⟨rfl,ew⟩
  subst ew
  go_wp2_with (fail)
  refine (idx_keys0 w).mono ?_
  rintro e w' ⟨rfl,ew⟩
  subst ew
  go_wp2_with (fail)
  refine (idx_len0 w).mono ?_
  rintro e w' ⟨rfl,ew⟩
  subst ew
  go_wp2_with (fail)
  refine (known06 w).mono ?_
  rintro e w1 ⟨rfl,hb⟩
  have B1 := Aside0.mk hb
  clear hb
  go_wp2_with (fail)
  go_ret
  exact ⟨rfl,B1.out⟩
end Go.Proofs.Ythmbfcfomcaaaaa.Z
end
section
namespace Go.Proofs.Ythmbfcfomcaaaaa.Z
set_option linter.unusedVariables false
open Go.RowKit Go.Proofs.YthmbfcfomcaaaaaW.PrintWords Go.Proofs.YthmbfcfomcaaaaaW.PrintLast Go.Proofs.YthmbfcfomcaaaaaW.PrintMore
def verdererlaw06_IndexNil.f (l0 : List (S66)) : Option (Bool) := some true
theorem verdererlaw06_IndexNil.calls (A0 : Option Addr) (c0 : Nat) (l0 : List (S66)) (r : Bool) (w : World) (hr0 : Kd.C k66 w A0 l0.length l0) (hc0 : l0.length ≤ c0) (h : verdererlaw06_IndexNil.f l0 = some r) :
    Calls Try.prog 9 #[.slice A0 l0.length c0] w fun e w' => e = .returned (.bool r) ∧ Below w.heap.size w w' := by
  obtain rfl := Option.some.inj h
  exact index_nil A0 l0.length c0 w
end Go.Proofs.Ythmbfcfomcaaaaa.Z
end
section
namespace Go.Proofs.Ythmbfcfomcaaaaa.Z
open Go.RowKit Go.Proofs.YthmbfcfomcaaaaaW.PrintWords Go.Proofs.YthmbfcfomcaaaaaW.PrintLast Go.Proofs.YthmbfcfomcaaaaaW.PrintMore
theorem indexNil_pure : ∀ (l0 : (List S66)),(l0.length ≤ maxLen ∧ ∀ x ∈ l0,G66 x) → verdererlaw06_IndexNil.f l0 = some true := by
  intros
  rfl
end Go.Proofs.Ythmbfcfomcaaaaa.Z
end
namespace Go.Proofs.Ythmbfcfomcaaaaa.indexNil
open Go.ChangeShapes Go.WideShapes Go.ChangeAt Go.RowKit Go.Proofs.YthmbfcfomcaaaaaW.PrintWords
open Go.ChangeMaps (open_string shut_string)
set_option linter.unusedVariables false
theorem own : ownKnob Try.prog.godebug = none := by kernel_rfl
theorem laidOut : laidOutB Try.prog = true := by kernel_rfl
set_option maxRecDepth 100000 in
theorem lifted (os : Os) (started : os.Started) (H : Type) (enc : TypeId × Value → H) :
    ReturnsInHanded {} Try.checked os 9 .any (Rows.indexNilSpec.pre6 enc Try.prog Try.f9 Rows.indexNilRow.domain false) (Rows.indexNilSpec.post enc Try.prog Try.f9 false true false false) := by
  refine returnsInHanded_of_change (C := Try.checked) own started (by kernel_rfl) Try.func9
    (ChangeSpec.witness6 (enc := enc) (C := Try.checked) false ⟨#[],#[.slice none 0 0],[]⟩ 8 (by kernel_rfl) (by kernel_rfl) (by kernel_rfl) (by kernel_rfl)) ?_
  intro W base args ds gs before hval0 hW hcnd _
  have hval : ∀ (j : Nat) t v,Try.f9.params[j]? = some t → args[j]? = some v → Value.okWide Try.prog W .any base t v := hval0
  have hW' := hW
  obtain ⟨p,q,hA0,hV,rfl,hfz,hnd⟩ := hW
  have hA : DataW.TrodAll enc Try.prog W 0 (fun _ => true) true Try.f9.params.toList args.toList ds p := hA0
  rw [Try.params9] at hA hval
  obtain ⟨v0,vs0,d0,ds0,p0,q0,hargs,rfl,rfl,h0,r0⟩ := trodAll_cons hA
  obtain ⟨rfl,rfl,rfl⟩ := trodAll_nil r0
  obtain rfl : args = #[v0] := by cases args;simp_all
  obtain ⟨rfl,rfl⟩ := trodVars_none hV
  obtain ⟨a0,len0,cap0,rfl⟩ := okWide_slice Try.underlying23 (hval 0 23 v0 rfl rfl)
  have k0 := h0
  have lt0 : ∀ x ∈ p0,x.block < W.heap.size := by obtain ⟨m,hm⟩ := k0;exact DataW.trod_lt m _ _ _ hm
  obtain ⟨l0,hK0,hG0⟩ : ∃ l,((Kd.slice 66 Z.k66) : Kd (List Z.S66)).K W l [.slice a0 len0 cap0] ∧ (l.length ≤ maxLen ∧ ∀ x ∈ l,Z.G66 x) := by obtain ⟨fuel,hf⟩ := h0;exact (show OfTrod Try.prog 23 (Kd.slice 66 Z.k66) _ from (ofTrod_slice Try.underlying23 (by kernel_rfl) Z.of66)) _ _ _ _ _ _ _ _ _ hf
  obtain ⟨A0,c0,he0,hl0,hC0⟩ := hK0
  simp only [List.cons.injEq,Value.slice.injEq,and_true] at he0
  obtain ⟨rfl,rfl,rfl⟩ := he0
  clear hA0 hval0
  have h := Z.indexNil_pure l0 hG0
  refine (Z.verdererlaw06_IndexNil.calls _ _ l0 true W hC0 hl0 h).mono fun e W' ⟨he,bel⟩ => ?_
  subst he
  exact ⟨_,rfl,_,_,_,[],_,[],hW',trodAll_mk1 (shut_bool Try.underlying4 _),(trodAll_cons_mk (Below.trod laidOut (by kernel_rfl) (of_decide_eq_true (by kernel_rfl)) k0 bel lt0) trodAll_mk0),rfl,bel.frame _,fun h => by cases h⟩
theorem over : Rows.indexNilRow.holds Try.pinned (OpenSpec.ofChange Rows.indexNilSpec) :=
  OpenClaim.holds_of_wide 9 Try.f9 rfl rfl rfl rfl rfl rfl rfl ⟨rfl,rfl,rfl,rfl,rfl⟩ rfl rfl rfl rfl rfl (by kernel_rfl) Try.func9 (by kernel_rfl)
    (of_decide_eq_true (by kernel_rfl)) (by unfold Func.isWrapper;first | (rw [if_pos (by decide +kernel)];kernel_rfl) | (rw [if_neg (by decide +kernel)];exact ⟨rfl,rfl⟩))
    (fun os started H enc _ => lifted os started H enc)
theorem proved : Rows.IndexNilSaid := over
#print axioms proved
end Go.Proofs.Ythmbfcfomcaaaaa.indexNil
namespace Go.Proofs.Ythmbfcfomcaaaaa
theorem indexNil_holds : Rows.IndexNilSaid := indexNil.proved
end Go.Proofs.Ythmbfcfomcaaaaa
