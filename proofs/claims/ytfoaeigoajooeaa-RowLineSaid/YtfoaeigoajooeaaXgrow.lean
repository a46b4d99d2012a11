import Derived.Test.YtfoaeigoajooeaaZ0
import Derived.Test.YtfoaeigoajooeaaXfn
/- slices.Grow of the nil slice. -/
namespace Go.Proofs.Ytfoaeigoajooeaa.Z
open Go.RowKit Go.Proofs.YtfoaeigoajooeaaW.PrintWords Go.Proofs.YtfoaeigoajooeaaW.PrintLast Go.Proofs.YtfoaeigoajooeaaW.PrintMore
set_option linter.unusedVariables false
def slices_Grow.f (_l0 : List S50) (a1 : Int) : Option (List S50) := if 0 ≤ a1 ∧ a1 ≤ 1000000000 then some [] else none
set_option maxHeartbeats 1000000 in
set_option maxRecDepth 100000 in
theorem slices_Grow_nil (A0 : Option Addr) (c0 : Nat) (l0 : List S50) (a1 : Int) (r : List S50) (w : World) (_hr : Kd.C k50 w A0 l0.length l0) (_hc : l0.length ≤ c0) (h : slices_Grow.f l0 a1 = some r) :
    Calls Try.prog 67 #[.slice none 0 0, .int .i64 a1] w fun e w' => ∃ v0_ : Value, e = .returned (v0_) ∧ Kd.R k50 50 w' w.heap.size (fun _ => True) v0_ r ∧ Below w.heap.size w w' := by
  unfold slices_Grow.f at h
  by_cases hb : 0 ≤ a1 ∧ a1 ≤ 1000000000
  · rw [if_pos hb] at h
    obtain rfl := Option.some.inj h
    obtain ⟨h0, h1⟩ := hb
    have HB := Aside0.mk (Below.refl w.heap.size w)
    by_cases hz : a1 = 0
    · subst hz
      clear h h0 h1
      go_enter Try.func67, Try.ntmps67
      go_wp2
      go_ret
      exact ⟨_, rfl, Kd.R_nil _ _ _ _ _, HB.out⟩
    · have hp : 0 < a1 := by omega
      clear h hz
      have hcut : ∀ (W : World) (A : Option Addr) (n c : Nat), (Instr.slice 22 (.slice A n c) none (some (.int .i64 0)) none).run Try.prog W = .ok (.slice A 0 c) W := cut_zero Try.underlying22 info50
      have hinfo := info50
      go_enter Try.func67, Try.ntmps67
      go_wp2_with ((with_reducible refine gate_builtin (b := .append) (xs := #[.tmp 20, .tmp 21]) rfl ?_); at_builtin; refine Kd.R_append_zeros k50 (w0 := w) w.heap.size rfl (.tmp 20) (.tmp 21) 22 3 50 _ 40 rfl Try.underlying22 Try.underlying3 hinfo rfl (by decide) (by omega) (.slice none 0 0) [] z50 (kx := .i64) a1 (fun _ => True) rfl rfl (k50_mkM _ _ _ z50) (fun _ _ => trivial) (Kd.R_nil _ _ _ _ _) h0 HB.out (Nat.le_refl _) (by simp; omega) ?_; intro v1 w1 ho hb hg hat; clear hg hat; obtain ⟨Av, cv, ev⟩ := Kd.R_slice ho; subst ev; have HO := Aside0.mk (Kd.R_take ho (Nat.zero_le _)); have HB1 := Aside0.mk hb; clear ho hb)
      go_ret
      exact ⟨_, rfl, HO.out, HB1.out⟩
  · rw [if_neg hb] at h
    cases h
end Go.Proofs.Ytfoaeigoajooeaa.Z
