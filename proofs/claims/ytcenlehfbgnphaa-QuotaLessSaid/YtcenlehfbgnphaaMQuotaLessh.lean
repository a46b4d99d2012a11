/-
  verdererlaw28.QuotaLess: for every input the law returns true, and each argument reads behind the call as it read before. No condition.
-/
import Derived.Test.YtcenlehfbgnphaaMQuotaLessa
import Derived.Test.YtcenlehfbgnphaaMQuotaLessb
import Derived.Test.YtcenlehfbgnphaaMQuotaLessc
import Derived.Test.YtcenlehfbgnphaaMQuotaLessd
import Derived.Test.YtcenlehfbgnphaaMQuotaLesse
import Derived.Test.YtcenlehfbgnphaaMQuotaLessf
import Derived.Test.YtcenlehfbgnphaaMQuotaLessg
import Derived.Test.YtcenlehfbgnphaaRows
import Derived.WalkKit
import Derived.ProofKit
import Derived.OpenShut
import Derived.ShutString
import Derived.ChangeOld
import Derived.Below
section
namespace Go.Proofs.Ytcenlehfbgnphaa.Z
open Go.RowKit Go.Proofs.YtcenlehfbgnphaaW.PrintWords Go.Proofs.YtcenlehfbgnphaaW.PrintLast Go.Proofs.YtcenlehfbgnphaaW.PrintMore
attribute [local go_sem] max2_int min2_int max_two min_two max_three min_three max_four min_four
set_option linter.unusedVariables false
set_option linter.unusedSimpArgs false
def bits_Mul64.f (a0 : Int) (a1 : Int) : Option (Int × Int) := some (IntKind.u64.wrap ((IntKind.u64.wrap ((IntKind.u64.wrap ((a0 / 4294967296) * (a1 / 4294967296))) + ((IntKind.u64.wrap ((IntKind.u64.wrap ((a0 / 4294967296) * (Go.bits .and .u64 a1 4294967295))) + ((IntKind.u64.wrap ((Go.bits .and .u64 a0 4294967295) * (Go.bits .and .u64 a1 4294967295))) / 4294967296))) / 4294967296))) + ((IntKind.u64.wrap ((Go.bits .and .u64 (IntKind.u64.wrap ((IntKind.u64.wrap ((a0 / 4294967296) * (Go.bits .and .u64 a1 4294967295))) + ((IntKind.u64.wrap ((Go.bits .and .u64 a0 4294967295) * (Go.bits .and .u64 a1 4294967295))) / 4294967296))) 4294967295) + (IntKind.u64.wrap ((Go.bits .and .u64 a0 4294967295) * (a1 / 4294967296))))) / 4294967296)),IntKind.u64.wrap (a0 * a1))
set_option maxHeartbeats 8000000 in
set_option maxRecDepth 100000 in
theorem bits_Mul64.calls (a0 : Int) (a1 : Int) (r1 : Int) (r2 : Int) (w : World) (h : bits_Mul64.f a0 a1 = some (r1,r2)) :
  Calls Try.prog 63 #[.int .u64 a0,.int .u64 a1] w fun e w' => e = .returned (.tuple #[.int .u64 r1,.int .u64 r2]) ∧ Drawn0 w w' := by
 have H : (some (IntKind.u64.wrap ((IntKind.u64.wrap ((IntKind.u64.wrap ((a0 / 4294967296) * (a1 / 4294967296))) + ((IntKind.u64.wrap ((IntKind.u64.wrap ((a0 / 4294967296) * (Go.bits .and .u64 a1 4294967295))) + ((IntKind.u64.wrap ((Go.bits .and .u64 a0 4294967295) * (Go.bits .and .u64 a1 4294967295))) / 4294967296))) / 4294967296))) + ((IntKind.u64.wrap ((Go.bits .and .u64 (IntKind.u64.wrap ((IntKind.u64.wrap ((a0 / 4294967296) * (Go.bits .and .u64 a1 4294967295))) + ((IntKind.u64.wrap ((Go.bits .and .u64 a0 4294967295) * (Go.bits .and .u64 a1 4294967295))) / 4294967296))) 4294967295) + (IntKind.u64.wrap ((Go.bits .and .u64 a0 4294967295) * (a1 / 4294967296))))) / 4294967296)),IntKind.u64.wrap (a0 * a1))) = some (r1,r2) := h
 clear h
 simp only [Option.some.injEq,Prod.mk.injEq] at H
 obtain ⟨rfl,rfl⟩ := H
 go_enter Try.func63,Try.ntmps63
 go_wp2
 go_ret2
 exact ⟨by first | rfl | (simp;done) | (simp [*];done),by repeat (first | exact Drawn0.refl _ | apply Drawn0.step)⟩
end Go.Proofs.Ytcenlehfbgnphaa.Z
end
section
namespace Go.Proofs.Ytcenlehfbgnphaa.Z
open Go.RowKit Go.Proofs.YtcenlehfbgnphaaW.PrintWords Go.Proofs.YtcenlehfbgnphaaW.PrintLast Go.Proofs.YtcenlehfbgnphaaW.PrintMore
attribute [local go_sem] max2_int min2_int max_two min_two max_three min_three max_four min_four
set_option linter.unusedVariables false
set_option linter.unusedSimpArgs false
def safe_size.f (a0 : Int) : Option (Int) := if a0 < 0 then (some (IntKind.u64.wrap (-(IntKind.u64.wrap (a0))))) else (some (IntKind.u64.wrap (a0)))
set_option maxHeartbeats 8000000 in
set_option maxRecDepth 100000 in
theorem safe_size.calls (a0 : Int) (r : Int) (w : World) (h : safe_size.f a0 = some r) :
  Calls Try.prog 64 #[.int .i64 a0] w fun e w' => e = .returned (.int .u64 r) ∧ Drawn0 w w' := by
 have H : (if a0 < 0 then (some (IntKind.u64.wrap (-(IntKind.u64.wrap (a0))))) else (some (IntKind.u64.wrap (a0)))) = some r := h
 clear h
 by_cases c2 : a0 < 0
 ·rw [if_pos c2] at H
  have c2b0 : decide (a0 < 0) = true := decide_eq_true c2
  clear c2
  obtain rfl := Option.some.inj H
  go_enter Try.func64,Try.ntmps64
  go_wp2
  go_ret
  exact ⟨by first | rfl | (simp;done) | (simp [*];done),by repeat (first | exact Drawn0.refl _ | apply Drawn0.step)⟩
 ·rw [if_neg c2] at H
  have c2b0 : decide (a0 < 0) = false := decide_eq_false c2
  clear c2
  obtain rfl := Option.some.inj H
  go_enter Try.func64,Try.ntmps64
  go_wp2
  go_ret
  exact ⟨by first | rfl | (simp;done) | (simp [*];done),by repeat (first | exact Drawn0.refl _ | apply Drawn0.step)⟩
end Go.Proofs.Ytcenlehfbgnphaa.Z
end
section
namespace Go.Proofs.Ytcenlehfbgnphaa.Z
open Go.RowKit Go.Proofs.YtcenlehfbgnphaaW.PrintWords Go.Proofs.YtcenlehfbgnphaaW.PrintLast Go.Proofs.YtcenlehfbgnphaaW.PrintMore
attribute [local go_sem] max2_int min2_int max_two min_two max_three min_three max_four min_four
set_option linter.unusedVariables false
set_option linter.unusedSimpArgs false
def safe_Mul.f (a0 : Int) (a1 : Int) : Option (Int × Int) := (safe_size.f a0).bind fun t170 => ((safe_size.f a1).bind fun t171 => ((bits_Mul64.f t170 t171).bind fun bt172 => (if ((decide (a0 < 0)) != (decide (a1 < 0))) = true then (if bt172.1 = 0 then ((safe_fits.f (wrap64 (IntKind.u64.wrap (-bt172.2))) (decide (bt172.2 ≤ 9223372036854775808))).bind fun bt174 => (some (bt174.1,bt174.2))) else ((safe_fits.f (wrap64 (IntKind.u64.wrap (-bt172.2))) false).bind fun bt176 => (some (bt176.1,bt176.2)))) else (if bt172.1 = 0 then ((safe_fits.f (wrap64 (bt172.2)) (decide (bt172.2 < 9223372036854775808))).bind fun bt178 => (some (bt178.1,bt178.2))) else ((safe_fits.f (wrap64 (bt172.2)) false).bind fun bt180 => (some (bt180.1,bt180.2)))))))
set_option maxHeartbeats 8000000 in
set_option maxRecDepth 100000 in
theorem safe_Mul.calls (a0 : Int) (a1 : Int) (r1 : Int) (r2 : Int) (w : World) (h : safe_Mul.f a0 a1 = some (r1,r2)) :
  Calls Try.prog 27 #[.int .i64 a0,.int .i64 a1] w fun e w' => e = .returned (.tuple #[.int .i64 r1,.int .i64 r2]) ∧ Drawn0 w w' := by
 have H : ((safe_size.f a0).bind fun t170 => ((safe_size.f a1).bind fun t171 => ((bits_Mul64.f t170 t171).bind fun bt172 => (if ((decide (a0 < 0)) != (decide (a1 < 0))) = true then (if bt172.1 = 0 then ((safe_fits.f (wrap64 (IntKind.u64.wrap (-bt172.2))) (decide (bt172.2 ≤ 9223372036854775808))).bind fun bt174 => (some (bt174.1,bt174.2))) else ((safe_fits.f (wrap64 (IntKind.u64.wrap (-bt172.2))) false).bind fun bt176 => (some (bt176.1,bt176.2)))) else (if bt172.1 = 0 then ((safe_fits.f (wrap64 (bt172.2)) (decide (bt172.2 < 9223372036854775808))).bind fun bt178 => (some (bt178.1,bt178.2))) else ((safe_fits.f (wrap64 (bt172.2)) false).bind fun bt180 => (some (bt180.1,bt180.2)))))))) = some (r1,r2) := h
 clear h
 replace H := Option.bind_eq_some_iff.mp H
 obtain ⟨t170,A30,H⟩ := H
 replace H : ((safe_size.f a1).bind fun t171 => ((bits_Mul64.f t170 t171).bind fun bt172 => (if ((decide (a0 < 0)) != (decide (a1 < 0))) = true then (if bt172.1 = 0 then ((safe_fits.f (wrap64 (IntKind.u64.wrap (-bt172.2))) (decide (bt172.2 ≤ 9223372036854775808))).bind fun bt174 => (some (bt174.1,bt174.2))) else ((safe_fits.f (wrap64 (IntKind.u64.wrap (-bt172.2))) false).bind fun bt176 => (some (bt176.1,bt176.2)))) else (if bt172.1 = 0 then ((safe_fits.f (wrap64 (bt172.2)) (decide (bt172.2 < 9223372036854775808))).bind fun bt178 => (some (bt178.1,bt178.2))) else ((safe_fits.f (wrap64 (bt172.2)) false).bind fun bt180 => (some (bt180.1,bt180.2))))))) = some (r1,r2) := H
 have A3 := Aside0.mk A30
 clear A30
 replace H := Option.bind_eq_some_iff.mp H
 obtain ⟨t171,A40,H⟩ := H
 replace H : ((bits_Mul64.f t170 t171).bind fun bt172 => (if ((decide (a0 < 0)) != (decide (a1 < 0))) = true then (if bt172.1 = 0 then ((safe_fits.f (wrap64 (IntKind.u64.wrap (-bt172.2))) (decide (bt172.2 ≤ 9223372036854775808))).bind fun bt174 => (some (bt174.1,bt174.2))) else ((safe_fits.f (wrap64 (IntKind.u64.wrap (-bt172.2))) false).bind fun bt176 => (some (bt176.1,bt176.2)))) else (if bt172.1 = 0 then ((safe_fits.f (wrap64 (bt172.2)) (decide (bt172.2 < 9223372036854775808))).bind fun bt178 => (some (bt178.1,bt178.2))) else ((safe_fits.f (wrap64 (bt172.2)) false).bind fun bt180 => (some (bt180.1,bt180.2)))))) = some (r1,r2) := H
 have A4 := Aside0.mk A40
 clear A40
 replace H := Option.bind_eq_some_iff.mp H
 obtain ⟨⟨t172,t173⟩,A50,H⟩ := H
 replace H : (if ((decide (a0 < 0)) != (decide (a1 < 0))) = true then (if t172 = 0 then ((safe_fits.f (wrap64 (IntKind.u64.wrap (-t173))) (decide (t173 ≤ 9223372036854775808))).bind fun bt174 => (some (bt174.1,bt174.2))) else ((safe_fits.f (wrap64 (IntKind.u64.wrap (-t173))) false).bind fun bt176 => (some (bt176.1,bt176.2)))) else (if t172 = 0 then ((safe_fits.f (wrap64 (t173)) (decide (t173 < 9223372036854775808))).bind fun bt178 => (some (bt178.1,bt178.2))) else ((safe_fits.f (wrap64 (t173)) false).bind fun bt180 => (some (bt180.1,bt180.2))))) = some (r1,r2) := H
 have A5 := Aside0.mk A50
 clear A50
 by_cases c6 : ((decide (a0 < 0)) != (decide (a1 < 0))) = true
 ·rw [if_pos c6] at H
  have c6b0 : ((decide (a0 < 0)) != (decide (a1 < 0))) = true := c6
  (try (have c6b1 : decide ((decide (a0 < 0)) = (decide (a1 < 0))) = false := by simpa using c6))
  (try (have c6b2 : ((decide (a0 < 0)) == (decide (a1 < 0))) = false := by simpa using c6))
  (try (have c6b3 : ¬ ((decide (a0 < 0)) = (decide (a1 < 0))) := by simpa using c6))
  clear c6
  by_cases c7 : t172 = 0
  ·rw [if_pos c7] at H
   have c7b0 : (t172 == 0) = true := beq_iff_eq.mpr c7
   have c7b1 : (t172 != 0) = false := bne_eq_false_iff_eq.mpr c7
   clear c7
   replace H := Option.bind_eq_some_iff.mp H
   obtain ⟨⟨t174,t175⟩,A80,H⟩ := H
   replace H : (some (t174,t175)) = some (r1,r2) := H
   have A8 := Aside0.mk A80
   clear A80
   simp only [Option.some.injEq,Prod.mk.injEq] at H
   obtain ⟨rfl,rfl⟩ := H
   go_enter Try.func27,Try.ntmps27
   go_wp2_with (first | ((with_reducible refine q00 (f := 64) rfl ?_);refine goesL_ (some 10) rfl rfl Try.func64 (by kernel_rfl) rfl #[.int .i64 a0] rfl (by (try simp only [List.map_toArray,List.map_cons,List.map_nil]);first | done | rfl | (simp only [List.length_drop,List.length_take];rfl)) ?_;(with_reducible refine (safe_size.calls a0 t170 _ A3.out).mono ?_);rintro e w' ⟨rfl,⟨nd,rfl⟩⟩;refine ⟨_,rfl,?_⟩) | ((with_reducible refine q00 (f := 64) rfl ?_);refine goesL_ (some 12) rfl rfl Try.func64 (by kernel_rfl) rfl #[.int .i64 a1] rfl (by (try simp only [List.map_toArray,List.map_cons,List.map_nil]);first | done | rfl | (simp only [List.length_drop,List.length_take];rfl)) ?_;(with_reducible refine (safe_size.calls a1 t171 _ A4.out).mono ?_);rintro e w' ⟨rfl,⟨nd,rfl⟩⟩;refine ⟨_,rfl,?_⟩) | ((with_reducible refine q00 (f := 63) rfl ?_);refine goesL_ (some 13) rfl rfl Try.func63 (by kernel_rfl) rfl #[.int .u64 t170,.int .u64 t171] rfl (by (try simp only [List.map_toArray,List.map_cons,List.map_nil]);first | done | rfl | (simp only [List.length_drop,List.length_take];rfl)) ?_;(with_reducible refine (bits_Mul64.calls t170 t171 t172 t173 _ A5.out).mono ?_);rintro e w' ⟨rfl,⟨nd,rfl⟩⟩;refine ⟨_,rfl,?_⟩) | ((with_reducible refine q00 (f := 62) rfl ?_);refine goesL_ (some 30) rfl rfl Try.func62 (by kernel_rfl) rfl #[.int .i64 (wrap64 (IntKind.u64.wrap (-t173))),.bool (decide (t173 ≤ 9223372036854775808))] rfl (by (try simp only [List.map_toArray,List.map_cons,List.map_nil]);first | done | rfl | (simp only [List.length_drop,List.length_take];rfl)) ?_;(with_reducible refine (safe_fits.calls (wrap64 (IntKind.u64.wrap (-t173))) (decide (t173 ≤ 9223372036854775808)) t174 t175 _ A8.out).mono ?_);rintro e w' ⟨rfl,⟨nd,rfl⟩⟩;refine ⟨_,rfl,?_⟩))
   go_ret2
   exact ⟨by first | rfl | (simp;done) | (simp [*];done),by repeat (first | exact Drawn0.refl _ | apply Drawn0.step)⟩
  ·rw [if_neg c7] at H
   have c7b0 : (t172 == 0) = false := beq_eq_false_iff_ne.mpr c7
   have c7b1 : (t172 != 0) = true := bne_iff_ne.mpr c7
   replace H := Option.bind_eq_some_iff.mp H
   obtain ⟨⟨t176,t177⟩,A90,H⟩ := H
   replace H : (some (t176,t177)) = some (r1,r2) := H
   have A9 := Aside0.mk A90
   clear A90
   simp only [Option.some.injEq,Prod.mk.injEq] at H
   obtain ⟨rfl,rfl⟩ := H
   go_enter Try.func27,Try.ntmps27
   go_wp2_with (first | ((with_reducible refine q00 (f := 64) rfl ?_);refine goesL_ (some 10) rfl rfl Try.func64 (by kernel_rfl) rfl #[.int .i64 a0] rfl (by (try simp only [List.map_toArray,List.map_cons,List.map_nil]);first | done | rfl | (simp only [List.length_drop,List.length_take];rfl)) ?_;(with_reducible refine (safe_size.calls a0 t170 _ A3.out).mono ?_);rintro e w' ⟨rfl,⟨nd,rfl⟩⟩;refine ⟨_,rfl,?_⟩) | ((with_reducible refine q00 (f := 64) rfl ?_);refine goesL_ (some 12) rfl rfl Try.func64 (by kernel_rfl) rfl #[.int .i64 a1] rfl (by (try simp only [List.map_toArray,List.map_cons,List.map_nil]);first | done | rfl | (simp only [List.length_drop,List.length_take];rfl)) ?_;(with_reducible refine (safe_size.calls a1 t171 _ A4.out).mono ?_);rintro e w' ⟨rfl,⟨nd,rfl⟩⟩;refine ⟨_,rfl,?_⟩) | ((with_reducible refine q00 (f := 63) rfl ?_);refine goesL_ (some 13) rfl rfl Try.func63 (by kernel_rfl) rfl #[.int .u64 t170,.int .u64 t171] rfl (by (try simp only [List.map_toArray,List.map_cons,List.map_nil]);first | done | rfl | (simp only [List.length_drop,List.length_take];rfl)) ?_;(with_reducible refine (bits_Mul64.calls t170 t171 t172 t173 _ A5.out).mono ?_);rintro e w' ⟨rfl,⟨nd,rfl⟩⟩;refine ⟨_,rfl,?_⟩) | ((with_reducible refine q00 (f := 62) rfl ?_);refine goesL_ (some 30) rfl rfl Try.func62 (by kernel_rfl) rfl #[.int .i64 (wrap64 (IntKind.u64.wrap (-t173))),.bool false] rfl (by (try simp only [List.map_toArray,List.map_cons,List.map_nil]);first | done | rfl | (simp only [List.length_drop,List.length_take];rfl)) ?_;(with_reducible refine (safe_fits.calls (wrap64 (IntKind.u64.wrap (-t173))) false t176 t177 _ A9.out).mono ?_);rintro e w' ⟨rfl,⟨nd,rfl⟩⟩;refine ⟨_,rfl,?_⟩))
   go_ret2
   exact ⟨by first | rfl | (simp;done) | (simp [*];done),by repeat (first | exact Drawn0.refl _ | apply Drawn0.step)⟩
 ·rw [if_neg c6] at H
  have c6b0 : ((decide (a0 < 0)) != (decide (a1 < 0))) = false := by simpa using c6
  (try (have c6b1 : decide ((decide (a0 < 0)) = (decide (a1 < 0))) = true := by simpa using c6))
  (try (have c6b2 : ((decide (a0 < 0)) == (decide (a1 < 0))) = true := by simpa using c6))
  clear c6
  by_cases c10 : t172 = 0
  ·rw [if_pos c10] at H
   have c10b0 : (t172 == 0) = true := beq_iff_eq.mpr c10
   have c10b1 : (t172 != 0) = false := bne_eq_false_iff_eq.mpr c10
   clear c10
   replace H := Option.bind_eq_some_iff.mp H
   obtain ⟨⟨t178,t179⟩,A110,H⟩ := H
   replace H : (some (t178,t179)) = some (r1,r2) := H
   have A11 := Aside0.mk A110
   clear A110
   simp only [Option.some.injEq,Prod.mk.injEq] at H
   obtain ⟨rfl,rfl⟩ := H
   go_enter Try.func27,Try.ntmps27
   go_wp2_with (first | ((with_reducible refine q00 (f := 64) rfl ?_);refine goesL_ (some 10) rfl rfl Try.func64 (by kernel_rfl) rfl #[.int .i64 a0] rfl (by (try simp only [List.map_toArray,List.map_cons,List.map_nil]);first | done | rfl | (simp only [List.length_drop,List.length_take];rfl)) ?_;(with_reducible refine (safe_size.calls a0 t170 _ A3.out).mono ?_);rintro e w' ⟨rfl,⟨nd,rfl⟩⟩;refine ⟨_,rfl,?_⟩) | ((with_reducible refine q00 (f := 64) rfl ?_);refine goesL_ (some 12) rfl rfl Try.func64 (by kernel_rfl) rfl #[.int .i64 a1] rfl (by (try simp only [List.map_toArray,List.map_cons,List.map_nil]);first | done | rfl | (simp only [List.length_drop,List.length_take];rfl)) ?_;(with_reducible refine (safe_size.calls a1 t171 _ A4.out).mono ?_);rintro e w' ⟨rfl,⟨nd,rfl⟩⟩;refine ⟨_,rfl,?_⟩) | ((with_reducible refine q00 (f := 63) rfl ?_);refine goesL_ (some 13) rfl rfl Try.func63 (by kernel_rfl) rfl #[.int .u64 t170,.int .u64 t171] rfl (by (try simp only [List.map_toArray,List.map_cons,List.map_nil]);first | done | rfl | (simp only [List.length_drop,List.length_take];rfl)) ?_;(with_reducible refine (bits_Mul64.calls t170 t171 t172 t173 _ A5.out).mono ?_);rintro e w' ⟨rfl,⟨nd,rfl⟩⟩;refine ⟨_,rfl,?_⟩) | ((with_reducible refine q00 (f := 62) rfl ?_);refine goesL_ (some 41) rfl rfl Try.func62 (by kernel_rfl) rfl #[.int .i64 (wrap64 (t173)),.bool (decide (t173 < 9223372036854775808))] rfl (by (try simp only [List.map_toArray,List.map_cons,List.map_nil]);first | done | rfl | (simp only [List.length_drop,List.length_take];rfl)) ?_;(with_reducible refine (safe_fits.calls (wrap64 (t173)) (decide (t173 < 9223372036854775808)) t178 t179 _ A11.out).mono ?_);rintro e w' ⟨rfl,⟨nd,rfl⟩⟩;refine ⟨_,rfl,?_⟩))
   go_ret2
   exact ⟨by first | rfl | (simp;done) | (simp [*];done),by repeat (first | exact Drawn0.refl _ | apply Drawn0.step)⟩
  ·rw [if_neg c10] at H
   have c10b0 : (t172 == 0) = false := beq_eq_false_iff_ne.mpr c10
   have c10b1 : (t172 != 0) = true := bne_iff_ne.mpr c10
   replace H := Option.bind_eq_some_iff.mp H
   obtain ⟨⟨t180,t181⟩,A120,H⟩ := H
   replace H : (some (t180,t181)) = some (r1,r2) := H
   have A12 := Aside0.mk A120
   clear A120
   simp only [Option.some.injEq,Prod.mk.injEq] at H
   obtain ⟨rfl,rfl⟩ := H
   go_enter Try.func27,Try.ntmps27
   go_wp2_with (first | ((with_reducible refine q00 (f := 64) rfl ?_);refine goesL_ (some 10) rfl rfl Try.func64 (by kernel_rfl) rfl #[.int .i64 a0] rfl (by (try simp only [List.map_toArray,List.map_cons,List.map_nil]);first | done | rfl | (simp only [List.length_drop,List.length_take];rfl)) ?_;(with_reducible refine (safe_size.calls a0 t170 _ A3.out).mono ?_);rintro e w' ⟨rfl,⟨nd,rfl⟩⟩;refine ⟨_,rfl,?_⟩) | ((with_reducible refine q00 (f := 64) rfl ?_);refine goesL_ (some 12) rfl rfl Try.func64 (by kernel_rfl) rfl #[.int .i64 a1] rfl (by (try simp only [List.map_toArray,List.map_cons,List.map_nil]);first | done | rfl | (simp only [List.length_drop,List.length_take];rfl)) ?_;(with_reducible refine (safe_size.calls a1 t171 _ A4.out).mono ?_);rintro e w' ⟨rfl,⟨nd,rfl⟩⟩;refine ⟨_,rfl,?_⟩) | ((with_reducible refine q00 (f := 63) rfl ?_);refine goesL_ (some 13) rfl rfl Try.func63 (by kernel_rfl) rfl #[.int .u64 t170,.int .u64 t171] rfl (by (try simp only [List.map_toArray,List.map_cons,List.map_nil]);first | done | rfl | (simp only [List.length_drop,List.length_take];rfl)) ?_;(with_reducible refine (bits_Mul64.calls t170 t171 t172 t173 _ A5.out).mono ?_);rintro e w' ⟨rfl,⟨nd,rfl⟩⟩;refine ⟨_,rfl,?_⟩) | ((with_reducible refine q00 (f := 62) rfl ?_);refine goesL_ (some 41) rfl rfl Try.func62 (by kernel_rfl) rfl #[.int .i64 (wrap64 (t173)),.bool false] rfl (by (try simp only [List.map_toArray,List.map_cons,List.map_nil]);first | done | rfl | (simp only [List.length_drop,List.length_take];rfl)) ?_;(with_reducible refine (safe_fits.calls (wrap64 (t173)) false t180 t181 _ A12.out).mono ?_);rintro e w' ⟨rfl,⟨nd,rfl⟩⟩;refine ⟨_,rfl,?_⟩))
   go_ret2
   exact ⟨by first | rfl | (simp;done) | (simp [*];done),by repeat (first | exact Drawn0.refl _ | apply Drawn0.step)⟩
end Go.Proofs.Ytcenlehfbgnphaa.Z
end
section
namespace Go.Proofs.Ytcenlehfbgnphaa.Z
open Go.RowKit Go.Proofs.YtcenlehfbgnphaaW.PrintWords Go.Proofs.YtcenlehfbgnphaaW.PrintLast Go.Proofs.YtcenlehfbgnphaaW.PrintMore
attribute [local go_sem] max2_int min2_int max_two min_two max_three min_three max_four min_four
set_option linter.unusedVariables false
set_option linter.unusedSimpArgs false
def verdererref03_Add.f (k : Nat) (a0 : Int) (a1 : Int) : Option (Int × Int) := (verdererref03_big.f k a0).bind fun bt139 => ((verdererref03_big.f k a1).bind fun bt143 => ((verdererref03_Plus.f k bt139.1 bt139.2 bt143.1 bt143.2).bind fun bt147 => ((verdererref03_Big_Value.f k bt147.1 bt147.2).bind fun bt151 => (some (bt151.1,bt151.2)))))
theorem verdererref03_Add.mono : ∀ a0 a1 k,LeO (verdererref03_Add.f k a0 a1) (verdererref03_Add.f (k + 1) a0 a1) := by
 intro a0 a1 k
 unfold verdererref03_Add.f
 repeat' first
   | (with_reducible exact verdererref03_Big_Value.mono _ _ _)
   | (with_reducible exact verdererref03_Plus.mono _ _ _ _ _)
   | (with_reducible exact verdererref03_big.mono _ _)
   | (with_reducible exact LeO.refl _)
   | (with_reducible exact LeO.none _)
   | (with_reducible refine LeO.ite ?_ ?_)
   | (with_reducible refine LeO.bind ?_ (fun _ => ?_))
   | exact verdererref03_Big_Value.mono _ _ _
   | exact verdererref03_Plus.mono _ _ _ _ _
   | exact verdererref03_big.mono _ _
   | exact LeO.none _
   | refine LeO.ite ?_ ?_
   | refine LeO.bind ?_ (fun _ => ?_)
set_option maxHeartbeats 8000000 in
set_option maxRecDepth 100000 in
theorem verdererref03_Add.calls (k : Nat) (a0 : Int) (a1 : Int) (r1 : Int) (r2 : Int) (w : World) (h : verdererref03_Add.f k a0 a1 = some (r1,r2)) :
  Calls Try.prog 24 #[.int .i64 a0,.int .i64 a1] w fun e w' => e = .returned (.tuple #[.int .i64 r1,.int .i64 r2]) ∧ Below w.heap.size w w' := by
 have HB := Aside0.mk (Below.refl w.heap.size w)
 have H : ((verdererref03_big.f k a0).bind fun bt139 => ((verdererref03_big.f k a1).bind fun bt143 => ((verdererref03_Plus.f k bt139.1 bt139.2 bt143.1 bt143.2).bind fun bt147 => ((verdererref03_Big_Value.f k bt147.1 bt147.2).bind fun bt151 => (some (bt151.1,bt151.2)))))) = some (r1,r2) := h
 clear h
 replace H := Option.bind_eq_some_iff.mp H
 obtain ⟨⟨t139,t140⟩,A30,H⟩ := H
 replace H : ((verdererref03_big.f k a1).bind fun bt143 => ((verdererref03_Plus.f k t139 t140 bt143.1 bt143.2).bind fun bt147 => ((verdererref03_Big_Value.f k bt147.1 bt147.2).bind fun bt151 => (some (bt151.1,bt151.2))))) = some (r1,r2) := H
 have A3 := Aside0.mk A30
 clear A30
 replace H := Option.bind_eq_some_iff.mp H
 obtain ⟨⟨t143,t144⟩,A40,H⟩ := H
 replace H : ((verdererref03_Plus.f k t139 t140 t143 t144).bind fun bt147 => ((verdererref03_Big_Value.f k bt147.1 bt147.2).bind fun bt151 => (some (bt151.1,bt151.2)))) = some (r1,r2) := H
 have A4 := Aside0.mk A40
 clear A40
 replace H := Option.bind_eq_some_iff.mp H
 obtain ⟨⟨t147,t148⟩,A50,H⟩ := H
 replace H : ((verdererref03_Big_Value.f k t147 t148).bind fun bt151 => (some (bt151.1,bt151.2))) = some (r1,r2) := H
 have A5 := Aside0.mk A50
 clear A50
 replace H := Option.bind_eq_some_iff.mp H
 obtain ⟨⟨t151,t152⟩,A60,H⟩ := H
 replace H : (some (t151,t152)) = some (r1,r2) := H
 have A6 := Aside0.mk A60
 clear A60
 simp only [Option.some.injEq,Prod.mk.injEq] at H
 obtain ⟨rfl,rfl⟩ := H
 go_enter Try.func24,Try.ntmps24
 go_wp2_with (first | ((with_reducible refine q00 (f := 61) rfl ?_);refine goesL_ (some 7) rfl rfl Try.func61 (by kernel_rfl) rfl #[.int .i64 a0] rfl (by (try simp only [List.map_toArray,List.map_cons,List.map_nil]);first | done | rfl | (simp only [List.length_drop,List.length_take];rfl)) ?_;(with_reducible refine (verdererref03_big.calls k a0 t139 t140 _ A3.out).mono ?_);rintro e w7 ⟨v141,rfl,ho0,hb⟩;refine ⟨_,rfl,?_⟩;have n0_ := Aside0.mk (Kd.R_lower ho0 (q0p (by repeat (first | (with_reducible first | exact HB.out | apply q0h | apply q0d | apply q0f) | exact HB.out))));have n1_ := Aside0.mk (q0s (by repeat (first | (with_reducible first | exact HB.out | apply q0h | apply q0d | apply q0f) | exact HB.out)) hb);clear HB;have HO142 := n0_;have HB := n1_;clear n0_ n1_;(try clear hb);(try clear hb2);(try clear hk);(try clear hi);(try clear ho0)) | ((with_reducible refine q00 (f := 61) rfl ?_);refine goesL_ (some 9) rfl rfl Try.func61 (by kernel_rfl) rfl #[.int .i64 a1] rfl (by (try simp only [List.map_toArray,List.map_cons,List.map_nil]);first | done | rfl | (simp only [List.length_drop,List.length_take];rfl)) ?_;(with_reducible refine (verdererref03_big.calls k a1 t143 t144 _ A4.out).mono ?_);rintro e w8 ⟨v145,rfl,ho0,hb⟩;refine ⟨_,rfl,?_⟩;have n0_ := Aside0.mk (Kd.R_elder' (by (with_reducible repeat (first | apply Kd.q0m | apply Kd.q0n | apply Kd.q0o));exact HO142.out) (Kd.R_base ho0) hb);have n1_ := Aside0.mk (Kd.R_lower (Kd.R_new' ho0 (Kd.R_lt (by (with_reducible repeat (first | apply Kd.q0m | apply Kd.q0n | apply Kd.q0o));exact HO142.out))) (q0p (by repeat (first | (with_reducible first | exact HB.out | apply q0h | apply q0d | apply q0f) | exact HB.out))));have n2_ := Aside0.mk (q0s (by repeat (first | (with_reducible first | exact HB.out | apply q0h | apply q0d | apply q0f) | exact HB.out)) hb);clear HO142;clear HB;have HO142 := n0_;have HO146 := n1_;have HB := n2_;clear n0_ n1_ n2_;(try clear hb);(try clear hb2);(try clear hk);(try clear hi);(try clear ho0);obtain ⟨Ao9,co9,eo9⟩ := Kd.R_slice HO142.out;subst eo9;obtain ⟨Ao10,co10,eo10⟩ := Kd.R_slice HO146.out;subst eo10) | ((with_reducible refine q00 (f := 16) rfl ?_);refine goesL_ (some 10) rfl rfl Try.func16 (by kernel_rfl) rfl #[.agg #[.bool t139,.slice Ao9 t140.length co9],.agg #[.bool t143,.slice Ao10 t144.length co10]] rfl (by (try simp only [List.map_toArray,List.map_cons,List.map_nil]);first | done | rfl | (simp only [List.length_drop,List.length_take];rfl)) ?_;(with_reducible refine (verdererref03_Plus.calls k t139 _ _ t140 t143 _ _ t144 t147 t148 _ ?side1 ?side2 ?side3 ?side4 A5.out).mono ?_);(case side1 => repeat (first | exact (Kd.q02 HO142.out).2.2 | (with_reducible refine Kd.C_alloc ?_ _) | (with_reducible refine Kd.C_drewN ?_ _) | (with_reducible refine Kd.C_drew ?_)));(case side2 => exact (Kd.q02 HO142.out).2.1);(case side3 => repeat (first | exact (Kd.q02 HO146.out).2.2 | (with_reducible refine Kd.C_alloc ?_ _) | (with_reducible refine Kd.C_drewN ?_ _) | (with_reducible refine Kd.C_drew ?_)));(case side4 => exact (Kd.q02 HO146.out).2.1);rintro e w11 ⟨v149,rfl,ho0,hb⟩;refine ⟨_,rfl,?_⟩;have n0_ := Aside0.mk (Kd.R_elder' (by (with_reducible repeat (first | apply Kd.q0m | apply Kd.q0n | apply Kd.q0o));exact HO142.out) (Kd.R_base ho0) hb);have n1_ := Aside0.mk (Kd.R_elder' (by (with_reducible repeat (first | apply Kd.q0m | apply Kd.q0n | apply Kd.q0o));exact HO146.out) (Kd.R_base ho0) hb);have n2_ := Aside0.mk (Kd.R_lower (Kd.R_new' (Kd.R_new' ho0 (Kd.R_lt (by (with_reducible repeat (first | apply Kd.q0m | apply Kd.q0n | apply Kd.q0o));exact HO142.out))) (Kd.R_lt (by (with_reducible repeat (first | apply Kd.q0m | apply Kd.q0n | apply Kd.q0o));exact HO146.out))) (q0p (by repeat (first | (with_reducible first | exact HB.out | apply q0h | apply q0d | apply q0f) | exact HB.out))));have n3_ := Aside0.mk (q0s (by repeat (first | (with_reducible first | exact HB.out | apply q0h | apply q0d | apply q0f) | exact HB.out)) hb);clear HO142;clear HO146;clear HB;have HO142 := n0_;have HO146 := n1_;have HO150 := n2_;have HB := n3_;clear n0_ n1_ n2_ n3_;(try clear hb);(try clear hb2);(try clear hk);(try clear hi);(try clear ho0);obtain ⟨Ao12,co12,eo12⟩ := Kd.R_slice HO150.out;subst eo12) | ((with_reducible refine q00 (f := 19) rfl ?_);refine goesL_ (some 11) rfl rfl Try.func19 (by kernel_rfl) rfl #[.agg #[.bool t147,.slice Ao12 t148.length co12]] rfl (by (try simp only [List.map_toArray,List.map_cons,List.map_nil]);first | done | rfl | (simp only [List.length_drop,List.length_take];rfl)) ?_;(with_reducible refine (verdererref03_Big_Value.calls k t147 _ _ t148 t151 t152 _ ?side1 ?side2 A6.out).mono ?_);(case side1 => repeat (first | exact (Kd.q02 HO150.out).2.2 | (with_reducible refine Kd.C_alloc ?_ _) | (with_reducible refine Kd.C_drewN ?_ _) | (with_reducible refine Kd.C_drew ?_)));(case side2 => exact (Kd.q02 HO150.out).2.1);rintro e w13 ⟨rfl,hb⟩;refine ⟨_,rfl,?_⟩;have n0_ := Aside0.mk (Kd.q0v (by (with_reducible repeat (first | apply Kd.q0m | apply Kd.q0n | apply Kd.q0o));exact HO142.out) hb);have n1_ := Aside0.mk (Kd.q0v (by (with_reducible repeat (first | apply Kd.q0m | apply Kd.q0n | apply Kd.q0o));exact HO146.out) hb);have n2_ := Aside0.mk (Kd.q0v (by (with_reducible repeat (first | apply Kd.q0m | apply Kd.q0n | apply Kd.q0o));exact HO150.out) hb);have n3_ := Aside0.mk (q0s (by repeat (first | (with_reducible first | exact HB.out | apply q0h | apply q0d | apply q0f) | exact HB.out)) hb);clear HO142;clear HO146;clear HO150;clear HB;have HO142 := n0_;have HO146 := n1_;have HO150 := n2_;have HB := n3_;clear n0_ n1_ n2_ n3_;(try clear hb);(try clear hb2);(try clear hk);(try clear hi)))
 go_ret2
 exact ⟨by first | rfl | (simp [q0w,q0x] <;> rfl) | (simp [*,q0w,q0x] <;> rfl),by repeat (first | (with_reducible first | exact HB.out | apply q0h | apply q0d | apply q0f) | exact HB.out)⟩
end Go.Proofs.Ytcenlehfbgnphaa.Z
end
section
namespace Go.Proofs.Ytcenlehfbgnphaa.Z
open Go.RowKit Go.Proofs.YtcenlehfbgnphaaW.PrintWords Go.Proofs.YtcenlehfbgnphaaW.PrintLast Go.Proofs.YtcenlehfbgnphaaW.PrintMore
end Go.Proofs.Ytcenlehfbgnphaa.Z
end
section
namespace Go.Proofs.Ytcenlehfbgnphaa.Z
set_option linter.unusedVariables false
open Go.RowKit Go.Proofs.YtcenlehfbgnphaaW.PrintWords Go.Proofs.YtcenlehfbgnphaaW.PrintLast Go.Proofs.YtcenlehfbgnphaaW.PrintMore
end Go.Proofs.Ytcenlehfbgnphaa.Z
end
section
namespace Go.Proofs.Ytcenlehfbgnphaa.Z
set_option linter.unusedVariables false
open Go.RowKit Go.Proofs.YtcenlehfbgnphaaW.PrintWords Go.Proofs.YtcenlehfbgnphaaW.PrintLast Go.Proofs.YtcenlehfbgnphaaW.PrintMore
end Go.Proofs.Ytcenlehfbgnphaa.Z
end
section
namespace Go.Proofs.Ytcenlehfbgnphaa.Z
set_option linter.unusedVariables false
set_option linter.unusedSimpArgs false
set_option maxHeartbeats 1000000
open Go.RowKit Go.Proofs.YtcenlehfbgnphaaW.PrintWords Go.Proofs.YtcenlehfbgnphaaW.PrintLast Go.Proofs.YtcenlehfbgnphaaW.PrintMore
end Go.Proofs.Ytcenlehfbgnphaa.Z
end
section
namespace Go.Proofs.Ytcenlehfbgnphaa.Z
set_option linter.unusedVariables false
set_option linter.unusedSimpArgs false
open Go.RowKit Go.Proofs.YtcenlehfbgnphaaW.PrintWords Go.Proofs.YtcenlehfbgnphaaW.PrintLast Go.Proofs.YtcenlehfbgnphaaW.PrintMore
theorem known28 : verdererlaw28_known.f 12 = some true := by decide +kernel
end Go.Proofs.Ytcenlehfbgnphaa.Z
end
section
namespace Go.Proofs.Ytcenlehfbgnphaa.Z
open Go.RowKit Go.Proofs.YtcenlehfbgnphaaW.PrintWords Go.Proofs.YtcenlehfbgnphaaW.PrintLast Go.Proofs.YtcenlehfbgnphaaW.PrintMore
theorem known28l (k : Nat) (hk : 12 ≤ k) : verdererlaw28_known.f k = some true := at_rounds verdererlaw28_known.mono hk known28
def There (was : List S45) (v : S45) : Prop := ∃ u,was.find? (hitB v.f0 v.f1) = some u ∧ u.f3 = v.f3 ∧ v.f2 ≤ u.f2
theorem there_ok {was now : List S45} (h : ∀ v ∈ now,There was v) : (now.filter overB).find? (badB was) = none := by
 rw [List.find?_eq_none]
 intro v hv
 rw [List.mem_filter] at hv
 obtain ⟨u,h1,h2,h3⟩ := h v hv.1
 have ho : v.f2 > v.f3 := of_decide_eq_true hv.2
 unfold badB
 rw [h1]
 intro hb
 simp only [useOf,Bool.not_true,Bool.false_or,Bool.or_eq_true] at hb
 rcases hb with hb | hb
 ·have := of_decide_eq_true hb
  omega
 ·have := of_decide_eq_true hb
  omega
theorem qless_l0 (was : List S45) (cut : List Int) (hl : was.length ≤ 60) : ∀ m (i : Nat) now k,i + m = was.length → now.length = i → (∀ v ∈ now,There was v) → m + 300 < k → verdererlaw28_QuotaLess.l0 k was cut now (i : Int) = some true := by
 intro m
 induction m with
 | zero =>
  intro i now k hi hn ht hk
  obtain ⟨k,rfl⟩ : ∃ m,k = m + 1 := ⟨k - 1,by omega⟩
  simp only [verdererlaw28_QuotaLess.l0]
  rw [if_neg (by omega),judge_f was now (by omega) (by omega) k (by omega),Option.bind_some,there_ok ht]
  simp only [judgeOf]
  rw [if_pos (by simp [ByteArray.toList_eq]),if_pos trivial,known28l k (by omega)]
  rfl
 | succ m ih =>
  intro i now k hi hn ht hk
  obtain ⟨k,rfl⟩ : ∃ m,k = m + 1 := ⟨k - 1,by omega⟩
  have h : i < was.length := by omega
  simp only [verdererlaw28_QuotaLess.l0]
  rw [if_pos (by omega),if_pos (by omega),rd_get was i h,rfind_f _ _ was (by omega) k (by omega),Option.bind_some,wrap_nx h (by omega)]
  generalize hx : useOf (was.find? (hitB was[i].f0 was[i].f1)) = x
  by_cases c : (!(x.1.toList == was[i].f0.toList) || (!(x.2.1.toList == was[i].f1.toList) || (!(x.2.2.1 == was[i].f2) || (!(x.2.2.2.1 == was[i].f3))))) = true
  ·rw [if_pos c,known28l k (by omega)]
   rfl
  ·rw [if_neg c]
   obtain ⟨u,hf⟩ : ∃ u,was.find? (hitB was[i].f0 was[i].f1) = some u := by
    cases hf : was.find? (hitB was[i].f0 was[i].f1) with
    | none =>
     exfalso
     rw [List.find?_eq_none] at hf
     exact hf was[i] (List.getElem_mem h) (by unfold hitB;simp)
    | some u => exact ⟨u,rfl⟩
   rw [hf] at hx
   obtain rfl : (u.f0,u.f1,u.f2,u.f3,true) = x := hx
   rw [Bool.not_eq_true,Bool.or_eq_false_iff,Bool.or_eq_false_iff,Bool.not_eq_false',Bool.not_eq_false',beq_iff_eq,beq_iff_eq] at c
   have e0 : u.f0.toList = was[i].f0.toList := c.1
   have e1 : u.f1.toList = was[i].f1.toList := c.2.1
   have eh : hitB u.f0 u.f1 = hitB was[i].f0 was[i].f1 := by
    funext v;unfold hitB;rw [e0,e1]
   have step : ∀ n : Int,n ≤ u.f2 → verdererlaw28_QuotaLess.l0 k was cut (now ++ [(⟨u.f0,u.f1,n,u.f3⟩ : S45)]) ((i + 1 : Nat) : Int) = some true := by
    intro n hnn
    refine ih (i + 1) _ k (by omega) (by simp [hn]) ?_ (by omega)
    intro v hv
    rw [List.mem_append,List.mem_singleton] at hv
    rcases hv with hv | rfl
    ·exact ht v hv
    ·exact ⟨u,by show was.find? (hitB u.f0 u.f1) = some u;rw [eh,hf],rfl,hnn⟩
   by_cases c1 : (i : Int) < (cut.length : Int)
   ·rw [if_pos c1]
    by_cases c2 : rd cut (i : Int) < u.f2
    ·rw [if_pos c2,if_pos (by omega)]
     exact step _ (by omega)
    ·rw [if_neg c2,if_pos (by omega)]
     exact step _ (Int.le_refl _)
   ·rw [if_neg c1,if_pos (by omega)]
    exact step _ (Int.le_refl _)
theorem quotaLess_pure : ∀ (l0 : (List S45)) (l1 : (List Int)),(l0.length ≤ maxLen ∧ ∀ x ∈ l0,G45 x) → (l1.length ≤ maxLen ∧ ∀ x ∈ l1,(Lit.int .i64 x).wf = true) → ∃ k,verdererlaw28_QuotaLess.f k l0 l1 = some true := by
 intro l0 l1 _ _
 refine ⟨500,?_⟩
 unfold verdererlaw28_QuotaLess.f
 by_cases c : (l0.length : Int) > 60
 ·rw [if_pos c,known28l 500 (by decide)]
  rfl
 ·rw [if_neg c]
  exact qless_l0 l0 l1 (by omega) l0.length 0 [] 500 (by omega) rfl (fun v hv => by cases hv) (by omega)
end Go.Proofs.Ytcenlehfbgnphaa.Z
end
namespace Go.Proofs.Ytcenlehfbgnphaa.quotaLess
open Go.ChangeShapes Go.WideShapes Go.ChangeAt Go.RowKit Go.Proofs.YtcenlehfbgnphaaW.PrintWords
open Go.ChangeMaps (open_string shut_string)
set_option linter.unusedVariables false
theorem own : ownKnob Try.prog.godebug = none := by kernel_rfl
theorem laidOut : laidOutB Try.prog = true := by kernel_rfl
set_option maxRecDepth 100000 in
theorem lifted (os : Os) (started : os.Started) (H : Type) (enc : TypeId × Value → H) :
  ReturnsInHanded {} Try.checked os 12 .any (Rows.quotaLessSpec.pre6 enc Try.prog Try.f12 Rows.quotaLessRow.domain false) (Rows.quotaLessSpec.post enc Try.prog Try.f12 false true false false) := by
 refine returnsInHanded_of_change (C := Try.checked) own started (by kernel_rfl) Try.func12
  (ChangeSpec.witness6 (enc := enc) (C := Try.checked) false ⟨#[],#[.slice none 0 0,.slice none 0 0],[]⟩ 8 (by kernel_rfl) (by kernel_rfl) (by kernel_rfl) (by kernel_rfl)) ?_
 intro W base args ds gs before hval0 hW hcnd _
 have hval : ∀ (j : Nat) t v,Try.f12.params[j]? = some t → args[j]? = some v → Value.okWide Try.prog W .any base t v := hval0
 have hW' := hW
 obtain ⟨p,q,hA0,hV,rfl,hfz,hnd⟩ := hW
 have hA : DataW.TrodAll enc Try.prog W 0 (fun _ => true) true Try.f12.params.toList args.toList ds p := hA0
 rw [Try.params12] at hA hval
 obtain ⟨v0,vs0,d0,ds0,p0,q0,hargs,rfl,rfl,h0,r0⟩ := trodAll_cons hA
 obtain ⟨v1,vs1,d1,ds1,p1,q1,rfl,rfl,rfl,h1,r1⟩ := trodAll_cons r0
 obtain ⟨rfl,rfl,rfl⟩ := trodAll_nil r1
 obtain rfl : args = #[v0,v1] := by cases args;simp_all
 obtain ⟨rfl,rfl⟩ := trodVars_none hV
 obtain ⟨a0,len0,cap0,rfl⟩ := okWide_slice Try.underlying53 (hval 0 53 v0 rfl rfl)
 have k0 := h0
 have lt0 : ∀ x ∈ p0,x.block < W.heap.size := by obtain ⟨m,hm⟩ := k0;exact DataW.trod_lt m _ _ _ hm
 obtain ⟨l0,hK0,hG0⟩ : ∃ l,((Kd.slice 45 Z.k45) : Kd (List Z.S45)).K W l [.slice a0 len0 cap0] ∧ (l.length ≤ maxLen ∧ ∀ x ∈ l,Z.G45 x) := by obtain ⟨fuel,hf⟩ := h0;exact (show OfTrod Try.prog 53 (Kd.slice 45 Z.k45) _ from (ofTrod_slice Try.underlying53 (by kernel_rfl) Z.of45)) _ _ _ _ _ _ _ _ _ hf
 obtain ⟨A0,c0,he0,hl0,hC0⟩ := hK0
 simp only [List.cons.injEq,Value.slice.injEq,and_true] at he0
 obtain ⟨rfl,rfl,rfl⟩ := he0
 obtain ⟨a1,len1,cap1,rfl⟩ := okWide_slice Try.underlying69 (hval 1 69 v1 rfl rfl)
 have k1 := h1
 have lt1 : ∀ x ∈ p1,x.block < W.heap.size := by obtain ⟨m,hm⟩ := k1;exact DataW.trod_lt m _ _ _ hm
 obtain ⟨l1,hK1,hG1⟩ : ∃ l,((Kd.slice 2 (Kd.int .i64)) : Kd (List Int)).K W l [.slice a1 len1 cap1] ∧ (l.length ≤ maxLen ∧ ∀ x ∈ l,(Lit.int .i64 x).wf = true) := by obtain ⟨fuel,hf⟩ := h1;exact (show OfTrod Try.prog 69 (Kd.slice 2 (Kd.int .i64)) _ from (ofTrod_slice Try.underlying69 (by kernel_rfl) (ofTrod_int Try.underlying2))) _ _ _ _ _ _ _ _ _ hf
 obtain ⟨A1,c1,he1,hl1,hC1⟩ := hK1
 simp only [List.cons.injEq,Value.slice.injEq,and_true] at he1
 obtain ⟨rfl,rfl,rfl⟩ := he1
 clear hA0 hval0
 obtain ⟨k,h⟩ := Z.quotaLess_pure l0 l1 hG0 hG1
 refine (Z.verdererlaw28_QuotaLess.calls k _ _ l0 _ _ l1 true W hC0 hl0 hC1 hl1 h).mono fun e W' ⟨he,bel⟩ => ?_
 subst he
 exact ⟨_,rfl,_,_,_,[],_,[],hW',trodAll_mk1 (shut_bool Try.underlying4 _),(trodAll_cons_mk (Below.trod laidOut (by kernel_rfl) (of_decide_eq_true (by kernel_rfl)) k0 bel lt0) (trodAll_cons_mk (Below.trod laidOut (by kernel_rfl) (of_decide_eq_true (by kernel_rfl)) k1 bel lt1) trodAll_mk0)),rfl,bel.frame _,fun h => by cases h⟩
theorem over : Rows.quotaLessRow.holds Try.pinned (OpenSpec.ofChange Rows.quotaLessSpec) :=
 OpenClaim.holds_of_wide 12 Try.f12 rfl rfl rfl rfl rfl rfl rfl ⟨rfl,rfl,rfl,rfl,rfl⟩ rfl rfl rfl rfl rfl (by kernel_rfl) Try.func12 (by kernel_rfl)
  (of_decide_eq_true (by kernel_rfl)) (by unfold Func.isWrapper;first | (rw [if_pos (by decide +kernel)];kernel_rfl) | (rw [if_neg (by decide +kernel)];exact ⟨rfl,rfl⟩))
  (fun os started H enc _ => lifted os started H enc)
theorem proved : Rows.QuotaLessSaid := over
#print axioms proved
end Go.Proofs.Ytcenlehfbgnphaa.quotaLess
namespace Go.Proofs.Ytcenlehfbgnphaa
theorem quotaLess_holds : Rows.QuotaLessSaid := quotaLess.proved
end Go.Proofs.Ytcenlehfbgnphaa
