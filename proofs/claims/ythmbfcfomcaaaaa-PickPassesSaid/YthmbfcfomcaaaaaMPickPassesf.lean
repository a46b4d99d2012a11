/-
  verdererlaw20.PickPasses: for every input the law returns true, and each argument reads behind the call as it read before. No condition.
-/
import Derived.Test.YthmbfcfomcaaaaaMPickPassesa
import Derived.Test.YthmbfcfomcaaaaaMPickPassesb
import Derived.Test.YthmbfcfomcaaaaaMPickPassesc
import Derived.Test.YthmbfcfomcaaaaaMPickPassesd
import Derived.Test.YthmbfcfomcaaaaaMPickPassese
import Derived.Test.YthmbfcfomcaaaaaRows
import Derived.WalkKit
import Derived.ProofKit
import Derived.OpenShut
import Derived.ShutString
import Derived.ChangeOld
import Derived.Below
import Derived.Laws.Cover2
section
namespace Go.Proofs.Ythmbfcfomcaaaaa.Z
open Go.RowKit Go.Proofs.YthmbfcfomcaaaaaW.PrintWords Go.Proofs.YthmbfcfomcaaaaaW.PrintLast Go.Proofs.YthmbfcfomcaaaaaW.PrintMore
attribute [local go_sem] max2_int min2_int max_two min_two max_three min_three max_four min_four
set_option linter.unusedVariables false
set_option linter.unusedSimpArgs false
def verdererref01_Test.f (k : Nat) (a0 : Int) (a1_0 : Int) (a1_1 : Bool) (a1_2 : Int) (a1_3 : ByteArray) (a2_0 : Int) (a2_1 : Bool) (a2_2 : Int) (a2_3 : ByteArray) : Option (Bool) := (verdererref01_Compare.f k a1_0 a1_1 a1_2 a1_3 a2_0 a2_1 a2_2 a2_3).bind fun t238 => (if a0 = 1 then (some (t238 == 0)) else (if a0 = 2 then (some (t238 != 0)) else (if a0 = 3 then (some (decide (t238 < 0))) else (if a0 = 4 then (some (decide (t238 ≤ 0))) else (if a0 = 5 then (some (decide (t238 > 0))) else (if a0 = 6 then (some (decide (t238 ≥ 0))) else (some false)))))))
theorem verdererref01_Test.mono : ∀ a0 a1 a2 a3 a4 a5 a6 a7 a8 k,LeO (verdererref01_Test.f k a0 a1 a2 a3 a4 a5 a6 a7 a8) (verdererref01_Test.f (k + 1) a0 a1 a2 a3 a4 a5 a6 a7 a8) := by
 intro a0 a1 a2 a3 a4 a5 a6 a7 a8 k
 unfold verdererref01_Test.f
 repeat' first
   | (with_reducible exact verdererref01_Compare.mono _ _ _ _ _ _ _ _ _)
   | (with_reducible exact LeO.refl _)
   | (with_reducible exact LeO.none _)
   | (with_reducible refine LeO.ite ?_ ?_)
   | (with_reducible refine LeO.bind ?_ (fun _ => ?_))
   | exact verdererref01_Compare.mono _ _ _ _ _ _ _ _ _
   | exact LeO.none _
   | refine LeO.ite ?_ ?_
   | refine LeO.bind ?_ (fun _ => ?_)
set_option maxHeartbeats 8000000 in
set_option maxRecDepth 100000 in
theorem verdererref01_Test.calls (k : Nat) (a0 : Int) (a1_0 : Int) (a1_1 : Bool) (a1_2 : Int) (a1_3 : ByteArray) (a2_0 : Int) (a2_1 : Bool) (a2_2 : Int) (a2_3 : ByteArray) (r : Bool) (w : World) (h : verdererref01_Test.f k a0 a1_0 a1_1 a1_2 a1_3 a2_0 a2_1 a2_2 a2_3 = some r) :
  Calls Try.prog 104 #[.int .i64 a0,.agg #[.int .i64 a1_0,.bool a1_1,.int .i64 a1_2,.string a1_3],.agg #[.int .i64 a2_0,.bool a2_1,.int .i64 a2_2,.string a2_3]] w fun e w' => e = .returned (.bool r) ∧ Below w.heap.size w w' := by
 have hu66 := Try.underlying66
 have HB := Aside0.mk (Below.refl w.heap.size w)
 have H : ((verdererref01_Compare.f k a1_0 a1_1 a1_2 a1_3 a2_0 a2_1 a2_2 a2_3).bind fun t238 => (if a0 = 1 then (some (t238 == 0)) else (if a0 = 2 then (some (t238 != 0)) else (if a0 = 3 then (some (decide (t238 < 0))) else (if a0 = 4 then (some (decide (t238 ≤ 0))) else (if a0 = 5 then (some (decide (t238 > 0))) else (if a0 = 6 then (some (decide (t238 ≥ 0))) else (some false)))))))) = some r := h
 clear h
 replace H := Option.bind_eq_some_iff.mp H
 obtain ⟨t238,A40,H⟩ := H
 replace H : (if a0 = 1 then (some (t238 == 0)) else (if a0 = 2 then (some (t238 != 0)) else (if a0 = 3 then (some (decide (t238 < 0))) else (if a0 = 4 then (some (decide (t238 ≤ 0))) else (if a0 = 5 then (some (decide (t238 > 0))) else (if a0 = 6 then (some (decide (t238 ≥ 0))) else (some false))))))) = some r := H
 have A4 := Aside0.mk A40
 clear A40
 by_cases c5 : a0 = 1
 ·rw [if_pos c5] at H
  have c5b0 : (a0 == 1) = true := beq_iff_eq.mpr c5
  have c5b1 : (a0 != 1) = false := bne_eq_false_iff_eq.mpr c5
  clear c5
  obtain rfl := Option.some.inj H
  go_enter Try.func104,Try.ntmps104
  go_wp2_with (first | ((with_reducible refine q0q (N := 4) rfl ?_);refine q0o ?hg (N := 4) ?hd (cs := #[.int .i64 a1_0,.bool a1_1,.int .i64 a1_2,.string a1_3]) (t := 66) ?hr ?_;(case hd => rfl);(case hg => rfl);(case hr => first | (go_simp;done) | (go_simp;rfl));intro gb236 hg w6 hbox hb;have n0_ := Aside0.mk (q0l (by repeat (first | (with_reducible first | exact HB.out | apply q0b | apply q0a | apply q0c) | exact HB.out)) hb);have n1_ := Aside0.mk (hbox);have n2_ := Aside0.mk ((by rw [hg];exact (q0j (by repeat (first | (with_reducible first | exact HB.out | apply q0b | apply q0a | apply q0c) | exact HB.out))) : w.heap.size ≤ gb236));have n3_ := Aside0.mk ((by rw [hg];exact (q0j (by repeat (first | (with_reducible first | exact HB.out | apply q0b | apply q0a | apply q0c) | exact HB.out))) : w.heap.size ≤ gb236));clear HB;have HB := n0_;have BK236 := n1_;have GW236 := n2_;have GE236 := n3_;clear n0_ n1_ n2_ n3_;clear hb hbox hg) | ((with_reducible refine q0q (N := 5) rfl ?_);refine q0o ?hg (N := 5) ?hd (cs := #[.int .i64 a2_0,.bool a2_1,.int .i64 a2_2,.string a2_3]) (t := 66) ?hr ?_;(case hd => rfl);(case hg => rfl);(case hr => first | (go_simp;done) | (go_simp;rfl));intro gb237 hg w7 hbox hb;have n0_ := Aside0.mk (q0p (g := gb236) (o := .cells #[.int .i64 a1_0,.bool a1_1,.int .i64 a1_2,.string a1_3] 66 (0,0)) (by (with_reducible repeat (first | refine q0g ?_ _ | refine q0h ?_ | refine q0f ?_ _));exact BK236.out) hb);have n1_ := Aside0.mk (q0l (by repeat (first | (with_reducible first | exact HB.out | apply q0b | apply q0a | apply q0c | refine q0i ?_ GE236.out) | exact HB.out)) hb);have n2_ := Aside0.mk (hbox);have n3_ := Aside0.mk ((by rw [hg];exact (q0j (by repeat (first | (with_reducible first | exact HB.out | apply q0b | apply q0a | apply q0c | refine q0i ?_ GE236.out) | exact HB.out))) : w.heap.size ≤ gb237));have n4_ := Aside0.mk ((by rw [hg];exact (q0j (by repeat (first | (with_reducible first | exact HB.out | apply q0b | apply q0a | apply q0c | refine q0i ?_ GE236.out) | exact HB.out))) : w.heap.size ≤ gb237));have n5_ := Aside0.mk ((by rw [hg];exact Nat.ne_of_lt (q0t (g := gb236) (o := .cells #[.int .i64 a1_0,.bool a1_1,.int .i64 a1_2,.string a1_3] 66 (0,0)) (by (with_reducible repeat (first | refine q0g ?_ _ | refine q0h ?_ | refine q0f ?_ _));exact BK236.out)) : gb236 ≠ gb237));have n6_ := Aside0.mk ((by rw [hg];exact Nat.ne_of_gt (q0t (g := gb236) (o := .cells #[.int .i64 a1_0,.bool a1_1,.int .i64 a1_2,.string a1_3] 66 (0,0)) (by (with_reducible repeat (first | refine q0g ?_ _ | refine q0h ?_ | refine q0f ?_ _));exact BK236.out)) : gb237 ≠ gb236));clear BK236;clear HB;have BK236 := n0_;have HB := n1_;have BK237 := n2_;have GW237 := n3_;have GE237 := n4_;have NB236_237 := n5_;have NB237_236 := n6_;clear n0_ n1_ n2_ n3_ n4_ n5_ n6_;clear hb hbox hg;have hnb8 := NB236_237.out;have hnc8 := NB237_236.out;have hcz9_0 : w7.cell? ⟨gb236,0,none⟩ = some (.int .i64 a1_0) := (q0e BK236.out 0).trans rfl;have hcz9_1 : w7.cell? ⟨gb236,1,none⟩ = some (.bool a1_1) := (q0e BK236.out 1).trans rfl;have hcz9_2 : w7.cell? ⟨gb236,2,none⟩ = some (.int .i64 a1_2) := (q0e BK236.out 2).trans rfl;have hcz9_3 : w7.cell? ⟨gb236,3,none⟩ = some (.string a1_3) := (q0e BK236.out 3).trans rfl;have hfz9_0 := q0d BK236.out 0;have hfz9_1 := q0d BK236.out 1;have hfz9_2 := q0d BK236.out 2;have hfz9_3 := q0d BK236.out 3;have hcz10_0 : w7.cell? ⟨gb237,0,none⟩ = some (.int .i64 a2_0) := (q0e BK237.out 0).trans rfl;have hcz10_1 : w7.cell? ⟨gb237,1,none⟩ = some (.bool a2_1) := (q0e BK237.out 1).trans rfl;have hcz10_2 : w7.cell? ⟨gb237,2,none⟩ = some (.int .i64 a2_2) := (q0e BK237.out 2).trans rfl;have hcz10_3 : w7.cell? ⟨gb237,3,none⟩ = some (.string a2_3) := (q0e BK237.out 3).trans rfl;have hfz10_0 := q0d BK237.out 0;have hfz10_1 := q0d BK237.out 1;have hfz10_2 := q0d BK237.out 2;have hfz10_3 := q0d BK237.out 3) | ((with_reducible refine q0v (f := 116) rfl ?_);refine goesL_ (some 10) rfl rfl Try.func116 (by kernel_rfl) rfl #[.agg #[.int .i64 a1_0,.bool a1_1,.int .i64 a1_2,.string a1_3],.agg #[.int .i64 a2_0,.bool a2_1,.int .i64 a2_2,.string a2_3]] rfl (by (try simp only [List.map_toArray,List.map_cons,List.map_nil]);first | done | rfl | (simp only [List.length_drop,List.length_take];rfl)) ?_;(with_reducible refine (verdererref01_Compare.calls k a1_0 a1_1 a1_2 a1_3 a2_0 a2_1 a2_2 a2_3 t238 _ A4.out).mono ?_);rintro e w11 ⟨rfl,hb⟩;refine ⟨_,rfl,?_⟩;have n0_ := Aside0.mk (q0p (g := gb236) (o := .cells #[.int .i64 a1_0,.bool a1_1,.int .i64 a1_2,.string a1_3] 66 (0,0)) (by (with_reducible repeat (first | refine q0g ?_ _ | refine q0h ?_ | refine q0f ?_ _));exact BK236.out) hb);have n1_ := Aside0.mk (q0p (g := gb237) (o := .cells #[.int .i64 a2_0,.bool a2_1,.int .i64 a2_2,.string a2_3] 66 (0,0)) (by (with_reducible repeat (first | refine q0g ?_ _ | refine q0h ?_ | refine q0f ?_ _));exact BK237.out) hb);have n2_ := Aside0.mk (q0l (by repeat (first | (with_reducible first | exact HB.out | apply q0b | apply q0a | apply q0c | refine q0i ?_ GE236.out | refine q0i ?_ GE237.out) | exact HB.out)) hb);clear BK236;clear BK237;clear HB;have BK236 := n0_;have BK237 := n1_;have HB := n2_;clear n0_ n1_ n2_;(try clear hb);(try clear hb2);(try clear hk);(try clear hi)))
  go_ret
  exact ⟨by first | rfl | (simp [q0m,q0n] <;> rfl) | (simp [*,q0m,q0n] <;> rfl),by repeat (first | (with_reducible first | exact HB.out | apply q0b | apply q0a | apply q0c | refine q0i ?_ GE236.out | refine q0i ?_ GE237.out) | exact HB.out)⟩
 ·rw [if_neg c5] at H
  have c5b0 : (a0 == 1) = false := beq_eq_false_iff_ne.mpr c5
  have c5b1 : (a0 != 1) = true := bne_iff_ne.mpr c5
  by_cases c12 : a0 = 2
  ·rw [if_pos c12] at H
   have c12b0 : (a0 == 2) = true := beq_iff_eq.mpr c12
   have c12b1 : (a0 != 2) = false := bne_eq_false_iff_eq.mpr c12
   clear c12
   obtain rfl := Option.some.inj H
   go_enter Try.func104,Try.ntmps104
   go_wp2_with (first | ((with_reducible refine q0q (N := 4) rfl ?_);refine q0o ?hg (N := 4) ?hd (cs := #[.int .i64 a1_0,.bool a1_1,.int .i64 a1_2,.string a1_3]) (t := 66) ?hr ?_;(case hd => rfl);(case hg => rfl);(case hr => first | (go_simp;done) | (go_simp;rfl));intro gb236 hg w13 hbox hb;have n0_ := Aside0.mk (q0l (by repeat (first | (with_reducible first | exact HB.out | apply q0b | apply q0a | apply q0c) | exact HB.out)) hb);have n1_ := Aside0.mk (hbox);have n2_ := Aside0.mk ((by rw [hg];exact (q0j (by repeat (first | (with_reducible first | exact HB.out | apply q0b | apply q0a | apply q0c) | exact HB.out))) : w.heap.size ≤ gb236));have n3_ := Aside0.mk ((by rw [hg];exact (q0j (by repeat (first | (with_reducible first | exact HB.out | apply q0b | apply q0a | apply q0c) | exact HB.out))) : w.heap.size ≤ gb236));clear HB;have HB := n0_;have BK236 := n1_;have GW236 := n2_;have GE236 := n3_;clear n0_ n1_ n2_ n3_;clear hb hbox hg) | ((with_reducible refine q0q (N := 5) rfl ?_);refine q0o ?hg (N := 5) ?hd (cs := #[.int .i64 a2_0,.bool a2_1,.int .i64 a2_2,.string a2_3]) (t := 66) ?hr ?_;(case hd => rfl);(case hg => rfl);(case hr => first | (go_simp;done) | (go_simp;rfl));intro gb237 hg w14 hbox hb;have n0_ := Aside0.mk (q0p (g := gb236) (o := .cells #[.int .i64 a1_0,.bool a1_1,.int .i64 a1_2,.string a1_3] 66 (0,0)) (by (with_reducible repeat (first | refine q0g ?_ _ | refine q0h ?_ | refine q0f ?_ _));exact BK236.out) hb);have n1_ := Aside0.mk (q0l (by repeat (first | (with_reducible first | exact HB.out | apply q0b | apply q0a | apply q0c | refine q0i ?_ GE236.out) | exact HB.out)) hb);have n2_ := Aside0.mk (hbox);have n3_ := Aside0.mk ((by rw [hg];exact (q0j (by repeat (first | (with_reducible first | exact HB.out | apply q0b | apply q0a | apply q0c | refine q0i ?_ GE236.out) | exact HB.out))) : w.heap.size ≤ gb237));have n4_ := Aside0.mk ((by rw [hg];exact (q0j (by repeat (first | (with_reducible first | exact HB.out | apply q0b | apply q0a | apply q0c | refine q0i ?_ GE236.out) | exact HB.out))) : w.heap.size ≤ gb237));have n5_ := Aside0.mk ((by rw [hg];exact Nat.ne_of_lt (q0t (g := gb236) (o := .cells #[.int .i64 a1_0,.bool a1_1,.int .i64 a1_2,.string a1_3] 66 (0,0)) (by (with_reducible repeat (first | refine q0g ?_ _ | refine q0h ?_ | refine q0f ?_ _));exact BK236.out)) : gb236 ≠ gb237));have n6_ := Aside0.mk ((by rw [hg];exact Nat.ne_of_gt (q0t (g := gb236) (o := .cells #[.int .i64 a1_0,.bool a1_1,.int .i64 a1_2,.string a1_3] 66 (0,0)) (by (with_reducible repeat (first | refine q0g ?_ _ | refine q0h ?_ | refine q0f ?_ _));exact BK236.out)) : gb237 ≠ gb236));clear BK236;clear HB;have BK236 := n0_;have HB := n1_;have BK237 := n2_;have GW237 := n3_;have GE237 := n4_;have NB236_237 := n5_;have NB237_236 := n6_;clear n0_ n1_ n2_ n3_ n4_ n5_ n6_;clear hb hbox hg;have hnb15 := NB236_237.out;have hnc15 := NB237_236.out;have hcz16_0 : w14.cell? ⟨gb236,0,none⟩ = some (.int .i64 a1_0) := (q0e BK236.out 0).trans rfl;have hcz16_1 : w14.cell? ⟨gb236,1,none⟩ = some (.bool a1_1) := (q0e BK236.out 1).trans rfl;have hcz16_2 : w14.cell? ⟨gb236,2,none⟩ = some (.int .i64 a1_2) := (q0e BK236.out 2).trans rfl;have hcz16_3 : w14.cell? ⟨gb236,3,none⟩ = some (.string a1_3) := (q0e BK236.out 3).trans rfl;have hfz16_0 := q0d BK236.out 0;have hfz16_1 := q0d BK236.out 1;have hfz16_2 := q0d BK236.out 2;have hfz16_3 := q0d BK236.out 3;have hcz17_0 : w14.cell? ⟨gb237,0,none⟩ = some (.int .i64 a2_0) := (q0e BK237.out 0).trans rfl;have hcz17_1 : w14.cell? ⟨gb237,1,none⟩ = some (.bool a2_1) := (q0e BK237.out 1).trans rfl;have hcz17_2 : w14.cell? ⟨gb237,2,none⟩ = some (.int .i64 a2_2) := (q0e BK237.out 2).trans rfl;have hcz17_3 : w14.cell? ⟨gb237,3,none⟩ = some (.string a2_3) := (q0e BK237.out 3).trans rfl;have hfz17_0 := q0d BK237.out 0;have hfz17_1 := q0d BK237.out 1;have hfz17_2 := q0d BK237.out 2;have hfz17_3 := q0d BK237.out 3) | ((with_reducible refine q0v (f := 116) rfl ?_);refine goesL_ (some 10) rfl rfl Try.func116 (by kernel_rfl) rfl #[.agg #[.int .i64 a1_0,.bool a1_1,.int .i64 a1_2,.string a1_3],.agg #[.int .i64 a2_0,.bool a2_1,.int .i64 a2_2,.string a2_3]] rfl (by (try simp only [List.map_toArray,List.map_cons,List.map_nil]);first | done | rfl | (simp only [List.length_drop,List.length_take];rfl)) ?_;(with_reducible refine (verdererref01_Compare.calls k a1_0 a1_1 a1_2 a1_3 a2_0 a2_1 a2_2 a2_3 t238 _ A4.out).mono ?_);rintro e w18 ⟨rfl,hb⟩;refine ⟨_,rfl,?_⟩;have n0_ := Aside0.mk (q0p (g := gb236) (o := .cells #[.int .i64 a1_0,.bool a1_1,.int .i64 a1_2,.string a1_3] 66 (0,0)) (by (with_reducible repeat (first | refine q0g ?_ _ | refine q0h ?_ | refine q0f ?_ _));exact BK236.out) hb);have n1_ := Aside0.mk (q0p (g := gb237) (o := .cells #[.int .i64 a2_0,.bool a2_1,.int .i64 a2_2,.string a2_3] 66 (0,0)) (by (with_reducible repeat (first | refine q0g ?_ _ | refine q0h ?_ | refine q0f ?_ _));exact BK237.out) hb);have n2_ := Aside0.mk (q0l (by repeat (first | (with_reducible first | exact HB.out | apply q0b | apply q0a | apply q0c | refine q0i ?_ GE236.out | refine q0i ?_ GE237.out) | exact HB.out)) hb);clear BK236;clear BK237;clear HB;have BK236 := n0_;have BK237 := n1_;have HB := n2_;clear n0_ n1_ n2_;(try clear hb);(try clear hb2);(try clear hk);(try clear hi)))
   go_ret
   exact ⟨by first | rfl | (simp [q0m,q0n] <;> rfl) | (simp [*,q0m,q0n] <;> rfl),by repeat (first | (with_reducible first | exact HB.out | apply q0b | apply q0a | apply q0c | refine q0i ?_ GE236.out | refine q0i ?_ GE237.out) | exact HB.out)⟩
  ·rw [if_neg c12] at H
   have c12b0 : (a0 == 2) = false := beq_eq_false_iff_ne.mpr c12
   have c12b1 : (a0 != 2) = true := bne_iff_ne.mpr c12
   by_cases c19 : a0 = 3
   ·rw [if_pos c19] at H
    have c19b0 : (a0 == 3) = true := beq_iff_eq.mpr c19
    have c19b1 : (a0 != 3) = false := bne_eq_false_iff_eq.mpr c19
    clear c19
    obtain rfl := Option.some.inj H
    go_enter Try.func104,Try.ntmps104
    go_wp2_with (first | ((with_reducible refine q0q (N := 4) rfl ?_);refine q0o ?hg (N := 4) ?hd (cs := #[.int .i64 a1_0,.bool a1_1,.int .i64 a1_2,.string a1_3]) (t := 66) ?hr ?_;(case hd => rfl);(case hg => rfl);(case hr => first | (go_simp;done) | (go_simp;rfl));intro gb236 hg w20 hbox hb;have n0_ := Aside0.mk (q0l (by repeat (first | (with_reducible first | exact HB.out | apply q0b | apply q0a | apply q0c) | exact HB.out)) hb);have n1_ := Aside0.mk (hbox);have n2_ := Aside0.mk ((by rw [hg];exact (q0j (by repeat (first | (with_reducible first | exact HB.out | apply q0b | apply q0a | apply q0c) | exact HB.out))) : w.heap.size ≤ gb236));have n3_ := Aside0.mk ((by rw [hg];exact (q0j (by repeat (first | (with_reducible first | exact HB.out | apply q0b | apply q0a | apply q0c) | exact HB.out))) : w.heap.size ≤ gb236));clear HB;have HB := n0_;have BK236 := n1_;have GW236 := n2_;have GE236 := n3_;clear n0_ n1_ n2_ n3_;clear hb hbox hg) | ((with_reducible refine q0q (N := 5) rfl ?_);refine q0o ?hg (N := 5) ?hd (cs := #[.int .i64 a2_0,.bool a2_1,.int .i64 a2_2,.string a2_3]) (t := 66) ?hr ?_;(case hd => rfl);(case hg => rfl);(case hr => first | (go_simp;done) | (go_simp;rfl));intro gb237 hg w21 hbox hb;have n0_ := Aside0.mk (q0p (g := gb236) (o := .cells #[.int .i64 a1_0,.bool a1_1,.int .i64 a1_2,.string a1_3] 66 (0,0)) (by (with_reducible repeat (first | refine q0g ?_ _ | refine q0h ?_ | refine q0f ?_ _));exact BK236.out) hb);have n1_ := Aside0.mk (q0l (by repeat (first | (with_reducible first | exact HB.out | apply q0b | apply q0a | apply q0c | refine q0i ?_ GE236.out) | exact HB.out)) hb);have n2_ := Aside0.mk (hbox);have n3_ := Aside0.mk ((by rw [hg];exact (q0j (by repeat (first | (with_reducible first | exact HB.out | apply q0b | apply q0a | apply q0c | refine q0i ?_ GE236.out) | exact HB.out))) : w.heap.size ≤ gb237));have n4_ := Aside0.mk ((by rw [hg];exact (q0j (by repeat (first | (with_reducible first | exact HB.out | apply q0b | apply q0a | apply q0c | refine q0i ?_ GE236.out) | exact HB.out))) : w.heap.size ≤ gb237));have n5_ := Aside0.mk ((by rw [hg];exact Nat.ne_of_lt (q0t (g := gb236) (o := .cells #[.int .i64 a1_0,.bool a1_1,.int .i64 a1_2,.string a1_3] 66 (0,0)) (by (with_reducible repeat (first | refine q0g ?_ _ | refine q0h ?_ | refine q0f ?_ _));exact BK236.out)) : gb236 ≠ gb237));have n6_ := Aside0.mk ((by rw [hg];exact Nat.ne_of_gt (q0t (g := gb236) (o := .cells #[.int .i64 a1_0,.bool a1_1,.int .i64 a1_2,.string a1_3] 66 (0,0)) (by (with_reducible repeat (first | refine q0g ?_ _ | refine q0h ?_ | refine q0f ?_ _));exact BK236.out)) : gb237 ≠ gb236));clear BK236;clear HB;have BK236 := n0_;have HB := n1_;have BK237 := n2_;have GW237 := n3_;have GE237 := n4_;have NB236_237 := n5_;have NB237_236 := n6_;clear n0_ n1_ n2_ n3_ n4_ n5_ n6_;clear hb hbox hg;have hnb22 := NB236_237.out;have hnc22 := NB237_236.out;have hcz23_0 : w21.cell? ⟨gb236,0,none⟩ = some (.int .i64 a1_0) := (q0e BK236.out 0).trans rfl;have hcz23_1 : w21.cell? ⟨gb236,1,none⟩ = some (.bool a1_1) := (q0e BK236.out 1).trans rfl;have hcz23_2 : w21.cell? ⟨gb236,2,none⟩ = some (.int .i64 a1_2) := (q0e BK236.out 2).trans rfl;have hcz23_3 : w21.cell? ⟨gb236,3,none⟩ = some (.string a1_3) := (q0e BK236.out 3).trans rfl;have hfz23_0 := q0d BK236.out 0;have hfz23_1 := q0d BK236.out 1;have hfz23_2 := q0d BK236.out 2;have hfz23_3 := q0d BK236.out 3;have hcz24_0 : w21.cell? ⟨gb237,0,none⟩ = some (.int .i64 a2_0) := (q0e BK237.out 0).trans rfl;have hcz24_1 : w21.cell? ⟨gb237,1,none⟩ = some (.bool a2_1) := (q0e BK237.out 1).trans rfl;have hcz24_2 : w21.cell? ⟨gb237,2,none⟩ = some (.int .i64 a2_2) := (q0e BK237.out 2).trans rfl;have hcz24_3 : w21.cell? ⟨gb237,3,none⟩ = some (.string a2_3) := (q0e BK237.out 3).trans rfl;have hfz24_0 := q0d BK237.out 0;have hfz24_1 := q0d BK237.out 1;have hfz24_2 := q0d BK237.out 2;have hfz24_3 := q0d BK237.out 3) | ((with_reducible refine q0v (f := 116) rfl ?_);refine goesL_ (some 10) rfl rfl Try.func116 (by kernel_rfl) rfl #[.agg #[.int .i64 a1_0,.bool a1_1,.int .i64 a1_2,.string a1_3],.agg #[.int .i64 a2_0,.bool a2_1,.int .i64 a2_2,.string a2_3]] rfl (by (try simp only [List.map_toArray,List.map_cons,List.map_nil]);first | done | rfl | (simp only [List.length_drop,List.length_take];rfl)) ?_;(with_reducible refine (verdererref01_Compare.calls k a1_0 a1_1 a1_2 a1_3 a2_0 a2_1 a2_2 a2_3 t238 _ A4.out).mono ?_);rintro e w25 ⟨rfl,hb⟩;refine ⟨_,rfl,?_⟩;have n0_ := Aside0.mk (q0p (g := gb236) (o := .cells #[.int .i64 a1_0,.bool a1_1,.int .i64 a1_2,.string a1_3] 66 (0,0)) (by (with_reducible repeat (first | refine q0g ?_ _ | refine q0h ?_ | refine q0f ?_ _));exact BK236.out) hb);have n1_ := Aside0.mk (q0p (g := gb237) (o := .cells #[.int .i64 a2_0,.bool a2_1,.int .i64 a2_2,.string a2_3] 66 (0,0)) (by (with_reducible repeat (first | refine q0g ?_ _ | refine q0h ?_ | refine q0f ?_ _));exact BK237.out) hb);have n2_ := Aside0.mk (q0l (by repeat (first | (with_reducible first | exact HB.out | apply q0b | apply q0a | apply q0c | refine q0i ?_ GE236.out | refine q0i ?_ GE237.out) | exact HB.out)) hb);clear BK236;clear BK237;clear HB;have BK236 := n0_;have BK237 := n1_;have HB := n2_;clear n0_ n1_ n2_;(try clear hb);(try clear hb2);(try clear hk);(try clear hi)))
    go_ret
    exact ⟨by first | rfl | (simp [q0m,q0n] <;> rfl) | (simp [*,q0m,q0n] <;> rfl),by repeat (first | (with_reducible first | exact HB.out | apply q0b | apply q0a | apply q0c | refine q0i ?_ GE236.out | refine q0i ?_ GE237.out) | exact HB.out)⟩
   ·rw [if_neg c19] at H
    have c19b0 : (a0 == 3) = false := beq_eq_false_iff_ne.mpr c19
    have c19b1 : (a0 != 3) = true := bne_iff_ne.mpr c19
    by_cases c26 : a0 = 4
    ·rw [if_pos c26] at H
     have c26b0 : (a0 == 4) = true := beq_iff_eq.mpr c26
     have c26b1 : (a0 != 4) = false := bne_eq_false_iff_eq.mpr c26
     clear c26
     obtain rfl := Option.some.inj H
     go_enter Try.func104,Try.ntmps104
     go_wp2_with (first | ((with_reducible refine q0q (N := 4) rfl ?_);refine q0o ?hg (N := 4) ?hd (cs := #[.int .i64 a1_0,.bool a1_1,.int .i64 a1_2,.string a1_3]) (t := 66) ?hr ?_;(case hd => rfl);(case hg => rfl);(case hr => first | (go_simp;done) | (go_simp;rfl));intro gb236 hg w27 hbox hb;have n0_ := Aside0.mk (q0l (by repeat (first | (with_reducible first | exact HB.out | apply q0b | apply q0a | apply q0c) | exact HB.out)) hb);have n1_ := Aside0.mk (hbox);have n2_ := Aside0.mk ((by rw [hg];exact (q0j (by repeat (first | (with_reducible first | exact HB.out | apply q0b | apply q0a | apply q0c) | exact HB.out))) : w.heap.size ≤ gb236));have n3_ := Aside0.mk ((by rw [hg];exact (q0j (by repeat (first | (with_reducible first | exact HB.out | apply q0b | apply q0a | apply q0c) | exact HB.out))) : w.heap.size ≤ gb236));clear HB;have HB := n0_;have BK236 := n1_;have GW236 := n2_;have GE236 := n3_;clear n0_ n1_ n2_ n3_;clear hb hbox hg) | ((with_reducible refine q0q (N := 5) rfl ?_);refine q0o ?hg (N := 5) ?hd (cs := #[.int .i64 a2_0,.bool a2_1,.int .i64 a2_2,.string a2_3]) (t := 66) ?hr ?_;(case hd => rfl);(case hg => rfl);(case hr => first | (go_simp;done) | (go_simp;rfl));intro gb237 hg w28 hbox hb;have n0_ := Aside0.mk (q0p (g := gb236) (o := .cells #[.int .i64 a1_0,.bool a1_1,.int .i64 a1_2,.string a1_3] 66 (0,0)) (by (with_reducible repeat (first | refine q0g ?_ _ | refine q0h ?_ | refine q0f ?_ _));exact BK236.out) hb);have n1_ := Aside0.mk (q0l (by repeat (first | (with_reducible first | exact HB.out | apply q0b | apply q0a | apply q0c | refine q0i ?_ GE236.out) | exact HB.out)) hb);have n2_ := Aside0.mk (hbox);have n3_ := Aside0.mk ((by rw [hg];exact (q0j (by repeat (first | (with_reducible first | exact HB.out | apply q0b | apply q0a | apply q0c | refine q0i ?_ GE236.out) | exact HB.out))) : w.heap.size ≤ gb237));have n4_ := Aside0.mk ((by rw [hg];exact (q0j (by repeat (first | (with_reducible first | exact HB.out | apply q0b | apply q0a | apply q0c | refine q0i ?_ GE236.out) | exact HB.out))) : w.heap.size ≤ gb237));have n5_ := Aside0.mk ((by rw [hg];exact Nat.ne_of_lt (q0t (g := gb236) (o := .cells #[.int .i64 a1_0,.bool a1_1,.int .i64 a1_2,.string a1_3] 66 (0,0)) (by (with_reducible repeat (first | refine q0g ?_ _ | refine q0h ?_ | refine q0f ?_ _));exact BK236.out)) : gb236 ≠ gb237));have n6_ := Aside0.mk ((by rw [hg];exact Nat.ne_of_gt (q0t (g := gb236) (o := .cells #[.int .i64 a1_0,.bool a1_1,.int .i64 a1_2,.string a1_3] 66 (0,0)) (by (with_reducible repeat (first | refine q0g ?_ _ | refine q0h ?_ | refine q0f ?_ _));exact BK236.out)) : gb237 ≠ gb236));clear BK236;clear HB;have BK236 := n0_;have HB := n1_;have BK237 := n2_;have GW237 := n3_;have GE237 := n4_;have NB236_237 := n5_;have NB237_236 := n6_;clear n0_ n1_ n2_ n3_ n4_ n5_ n6_;clear hb hbox hg;have hnb29 := NB236_237.out;have hnc29 := NB237_236.out;have hcz30_0 : w28.cell? ⟨gb236,0,none⟩ = some (.int .i64 a1_0) := (q0e BK236.out 0).trans rfl;have hcz30_1 : w28.cell? ⟨gb236,1,none⟩ = some (.bool a1_1) := (q0e BK236.out 1).trans rfl;have hcz30_2 : w28.cell? ⟨gb236,2,none⟩ = some (.int .i64 a1_2) := (q0e BK236.out 2).trans rfl;have hcz30_3 : w28.cell? ⟨gb236,3,none⟩ = some (.string a1_3) := (q0e BK236.out 3).trans rfl;have hfz30_0 := q0d BK236.out 0;have hfz30_1 := q0d BK236.out 1;have hfz30_2 := q0d BK236.out 2;have hfz30_3 := q0d BK236.out 3;have hcz31_0 : w28.cell? ⟨gb237,0,none⟩ = some (.int .i64 a2_0) := (q0e BK237.out 0).trans rfl;have hcz31_1 : w28.cell? ⟨gb237,1,none⟩ = some (.bool a2_1) := (q0e BK237.out 1).trans rfl;have hcz31_2 : w28.cell? ⟨gb237,2,none⟩ = some (.int .i64 a2_2) := (q0e BK237.out 2).trans rfl;have hcz31_3 : w28.cell? ⟨gb237,3,none⟩ = some (.string a2_3) := (q0e BK237.out 3).trans rfl;have hfz31_0 := q0d BK237.out 0;have hfz31_1 := q0d BK237.out 1;have hfz31_2 := q0d BK237.out 2;have hfz31_3 := q0d BK237.out 3) | ((with_reducible refine q0v (f := 116) rfl ?_);refine goesL_ (some 10) rfl rfl Try.func116 (by kernel_rfl) rfl #[.agg #[.int .i64 a1_0,.bool a1_1,.int .i64 a1_2,.string a1_3],.agg #[.int .i64 a2_0,.bool a2_1,.int .i64 a2_2,.string a2_3]] rfl (by (try simp only [List.map_toArray,List.map_cons,List.map_nil]);first | done | rfl | (simp only [List.length_drop,List.length_take];rfl)) ?_;(with_reducible refine (verdererref01_Compare.calls k a1_0 a1_1 a1_2 a1_3 a2_0 a2_1 a2_2 a2_3 t238 _ A4.out).mono ?_);rintro e w32 ⟨rfl,hb⟩;refine ⟨_,rfl,?_⟩;have n0_ := Aside0.mk (q0p (g := gb236) (o := .cells #[.int .i64 a1_0,.bool a1_1,.int .i64 a1_2,.string a1_3] 66 (0,0)) (by (with_reducible repeat (first | refine q0g ?_ _ | refine q0h ?_ | refine q0f ?_ _));exact BK236.out) hb);have n1_ := Aside0.mk (q0p (g := gb237) (o := .cells #[.int .i64 a2_0,.bool a2_1,.int .i64 a2_2,.string a2_3] 66 (0,0)) (by (with_reducible repeat (first | refine q0g ?_ _ | refine q0h ?_ | refine q0f ?_ _));exact BK237.out) hb);have n2_ := Aside0.mk (q0l (by repeat (first | (with_reducible first | exact HB.out | apply q0b | apply q0a | apply q0c | refine q0i ?_ GE236.out | refine q0i ?_ GE237.out) | exact HB.out)) hb);clear BK236;clear BK237;clear HB;have BK236 := n0_;have BK237 := n1_;have HB := n2_;clear n0_ n1_ n2_;(try clear hb);(try clear hb2);(try clear hk);(try clear hi)))
     go_ret
     exact ⟨by first | rfl | (simp [q0m,q0n] <;> rfl) | (simp [*,q0m,q0n] <;> rfl),by repeat (first | (with_reducible first | exact HB.out | apply q0b | apply q0a | apply q0c | refine q0i ?_ GE236.out | refine q0i ?_ GE237.out) | exact HB.out)⟩
    ·rw [if_neg c26] at H
     have c26b0 : (a0 == 4) = false := beq_eq_false_iff_ne.mpr c26
     have c26b1 : (a0 != 4) = true := bne_iff_ne.mpr c26
     by_cases c33 : a0 = 5
     ·rw [if_pos c33] at H
      have c33b0 : (a0 == 5) = true := beq_iff_eq.mpr c33
      have c33b1 : (a0 != 5) = false := bne_eq_false_iff_eq.mpr c33
      clear c33
      obtain rfl := Option.some.inj H
      go_enter Try.func104,Try.ntmps104
      go_wp2_with (first | ((with_reducible refine q0q (N := 4) rfl ?_);refine q0o ?hg (N := 4) ?hd (cs := #[.int .i64 a1_0,.bool a1_1,.int .i64 a1_2,.string a1_3]) (t := 66) ?hr ?_;(case hd => rfl);(case hg => rfl);(case hr => first | (go_simp;done) | (go_simp;rfl));intro gb236 hg w34 hbox hb;have n0_ := Aside0.mk (q0l (by repeat (first | (with_reducible first | exact HB.out | apply q0b | apply q0a | apply q0c) | exact HB.out)) hb);have n1_ := Aside0.mk (hbox);have n2_ := Aside0.mk ((by rw [hg];exact (q0j (by repeat (first | (with_reducible first | exact HB.out | apply q0b | apply q0a | apply q0c) | exact HB.out))) : w.heap.size ≤ gb236));have n3_ := Aside0.mk ((by rw [hg];exact (q0j (by repeat (first | (with_reducible first | exact HB.out | apply q0b | apply q0a | apply q0c) | exact HB.out))) : w.heap.size ≤ gb236));clear HB;have HB := n0_;have BK236 := n1_;have GW236 := n2_;have GE236 := n3_;clear n0_ n1_ n2_ n3_;clear hb hbox hg) | ((with_reducible refine q0q (N := 5) rfl ?_);refine q0o ?hg (N := 5) ?hd (cs := #[.int .i64 a2_0,.bool a2_1,.int .i64 a2_2,.string a2_3]) (t := 66) ?hr ?_;(case hd => rfl);(case hg => rfl);(case hr => first | (go_simp;done) | (go_simp;rfl));intro gb237 hg w35 hbox hb;have n0_ := Aside0.mk (q0p (g := gb236) (o := .cells #[.int .i64 a1_0,.bool a1_1,.int .i64 a1_2,.string a1_3] 66 (0,0)) (by (with_reducible repeat (first | refine q0g ?_ _ | refine q0h ?_ | refine q0f ?_ _));exact BK236.out) hb);have n1_ := Aside0.mk (q0l (by repeat (first | (with_reducible first | exact HB.out | apply q0b | apply q0a | apply q0c | refine q0i ?_ GE236.out) | exact HB.out)) hb);have n2_ := Aside0.mk (hbox);have n3_ := Aside0.mk ((by rw [hg];exact (q0j (by repeat (first | (with_reducible first | exact HB.out | apply q0b | apply q0a | apply q0c | refine q0i ?_ GE236.out) | exact HB.out))) : w.heap.size ≤ gb237));have n4_ := Aside0.mk ((by rw [hg];exact (q0j (by repeat (first | (with_reducible first | exact HB.out | apply q0b | apply q0a | apply q0c | refine q0i ?_ GE236.out) | exact HB.out))) : w.heap.size ≤ gb237));have n5_ := Aside0.mk ((by rw [hg];exact Nat.ne_of_lt (q0t (g := gb236) (o := .cells #[.int .i64 a1_0,.bool a1_1,.int .i64 a1_2,.string a1_3] 66 (0,0)) (by (with_reducible repeat (first | refine q0g ?_ _ | refine q0h ?_ | refine q0f ?_ _));exact BK236.out)) : gb236 ≠ gb237));have n6_ := Aside0.mk ((by rw [hg];exact Nat.ne_of_gt (q0t (g := gb236) (o := .cells #[.int .i64 a1_0,.bool a1_1,.int .i64 a1_2,.string a1_3] 66 (0,0)) (by (with_reducible repeat (first | refine q0g ?_ _ | refine q0h ?_ | refine q0f ?_ _));exact BK236.out)) : gb237 ≠ gb236));clear BK236;clear HB;have BK236 := n0_;have HB := n1_;have BK237 := n2_;have GW237 := n3_;have GE237 := n4_;have NB236_237 := n5_;have NB237_236 := n6_;clear n0_ n1_ n2_ n3_ n4_ n5_ n6_;clear hb hbox hg;have hnb36 := NB236_237.out;have hnc36 := NB237_236.out;have hcz37_0 : w35.cell? ⟨gb236,0,none⟩ = some (.int .i64 a1_0) := (q0e BK236.out 0).trans rfl;have hcz37_1 : w35.cell? ⟨gb236,1,none⟩ = some (.bool a1_1) := (q0e BK236.out 1).trans rfl;have hcz37_2 : w35.cell? ⟨gb236,2,none⟩ = some (.int .i64 a1_2) := (q0e BK236.out 2).trans rfl;have hcz37_3 : w35.cell? ⟨gb236,3,none⟩ = some (.string a1_3) := (q0e BK236.out 3).trans rfl;have hfz37_0 := q0d BK236.out 0;have hfz37_1 := q0d BK236.out 1;have hfz37_2 := q0d BK236.out 2;have hfz37_3 := q0d BK236.out 3;have hcz38_0 : w35.cell? ⟨gb237,0,none⟩ = some (.int .i64 a2_0) := (q0e BK237.out 0).trans rfl;have hcz38_1 : w35.cell? ⟨gb237,1,none⟩ = some (.bool a2_1) := (q0e BK237.out 1).trans rfl;have hcz38_2 : w35.cell? ⟨gb237,2,none⟩ = some (.int .i64 a2_2) := (q0e BK237.out 2).trans rfl;have hcz38_3 : w35.cell? ⟨gb237,3,none⟩ = some (.string a2_3) := (q0e BK237.out 3).trans rfl;have hfz38_0 := q0d BK237.out 0;have hfz38_1 := q0d BK237.out 1;have hfz38_2 := q0d BK237.out 2;have hfz38_3 := q0d BK237.out 3) | ((with_reducible refine q0v (f := 116) rfl ?_);refine goesL_ (some 10) rfl rfl Try.func116 (by kernel_rfl) rfl #[.agg #[.int .i64 a1_0,.bool a1_1,.int .i64 a1_2,.string a1_3],.agg #[.int .i64 a2_0,.bool a2_1,.int .i64 a2_2,.string a2_3]] rfl (by (try simp only [List.map_toArray,List.map_cons,List.map_nil]);first | done | rfl | (simp only [List.length_drop,List.length_take];rfl)) ?_;(with_reducible refine (verdererref01_Compare.calls k a1_0 a1_1 a1_2 a1_3 a2_0 a2_1 a2_2 a2_3 t238 _ A4.out).mono ?_);rintro e w39 ⟨rfl,hb⟩;refine ⟨_,rfl,?_⟩;have n0_ := Aside0.mk (q0p (g := gb236) (o := .cells #[.int .i64 a1_0,.bool a1_1,.int .i64 a1_2,.string a1_3] 66 (0,0)) (by (with_reducible repeat (first | refine q0g ?_ _ | refine q0h ?_ | refine q0f ?_ _));exact BK236.out) hb);have n1_ := Aside0.mk (q0p (g := gb237) (o := .cells #[.int .i64 a2_0,.bool a2_1,.int .i64 a2_2,.string a2_3] 66 (0,0)) (by (with_reducible repeat (first | refine q0g ?_ _ | refine q0h ?_ | refine q0f ?_ _));exact BK237.out) hb);have n2_ := Aside0.mk (q0l (by repeat (first | (with_reducible first | exact HB.out | apply q0b | apply q0a | apply q0c | refine q0i ?_ GE236.out | refine q0i ?_ GE237.out) | exact HB.out)) hb);clear BK236;clear BK237;clear HB;have BK236 := n0_;have BK237 := n1_;have HB := n2_;clear n0_ n1_ n2_;(try clear hb);(try clear hb2);(try clear hk);(try clear hi)))
      go_ret
      exact ⟨by first | rfl | (simp [q0m,q0n] <;> rfl) | (simp [*,q0m,q0n] <;> rfl),by repeat (first | (with_reducible first | exact HB.out | apply q0b | apply q0a | apply q0c | refine q0i ?_ GE236.out | refine q0i ?_ GE237.out) | exact HB.out)⟩
     ·rw [if_neg c33] at H
      have c33b0 : (a0 == 5) = false := beq_eq_false_iff_ne.mpr c33
      have c33b1 : (a0 != 5) = true := bne_iff_ne.mpr c33
      by_cases c40 : a0 = 6
      ·rw [if_pos c40] at H
       have c40b0 : (a0 == 6) = true := beq_iff_eq.mpr c40
       have c40b1 : (a0 != 6) = false := bne_eq_false_iff_eq.mpr c40
       clear c40
       obtain rfl := Option.some.inj H
       go_enter Try.func104,Try.ntmps104
       go_wp2_with (first | ((with_reducible refine q0q (N := 4) rfl ?_);refine q0o ?hg (N := 4) ?hd (cs := #[.int .i64 a1_0,.bool a1_1,.int .i64 a1_2,.string a1_3]) (t := 66) ?hr ?_;(case hd => rfl);(case hg => rfl);(case hr => first | (go_simp;done) | (go_simp;rfl));intro gb236 hg w41 hbox hb;have n0_ := Aside0.mk (q0l (by repeat (first | (with_reducible first | exact HB.out | apply q0b | apply q0a | apply q0c) | exact HB.out)) hb);have n1_ := Aside0.mk (hbox);have n2_ := Aside0.mk ((by rw [hg];exact (q0j (by repeat (first | (with_reducible first | exact HB.out | apply q0b | apply q0a | apply q0c) | exact HB.out))) : w.heap.size ≤ gb236));have n3_ := Aside0.mk ((by rw [hg];exact (q0j (by repeat (first | (with_reducible first | exact HB.out | apply q0b | apply q0a | apply q0c) | exact HB.out))) : w.heap.size ≤ gb236));clear HB;have HB := n0_;have BK236 := n1_;have GW236 := n2_;have GE236 := n3_;clear n0_ n1_ n2_ n3_;clear hb hbox hg) | ((with_reducible refine q0q (N := 5) rfl ?_);refine q0o ?hg (N := 5) ?hd (cs := #[.int .i64 a2_0,.bool a2_1,.int .i64 a2_2,.string a2_3]) (t := 66) ?hr ?_;(case hd => rfl);(case hg => rfl);(case hr => first | (go_simp;done) | (go_simp;rfl));intro gb237 hg w42 hbox hb;have n0_ := Aside0.mk (q0p (g := gb236) (o := .cells #[.int .i64 a1_0,.bool a1_1,.int .i64 a1_2,.string a1_3] 66 (0,0)) (by (with_reducible repeat (first | refine q0g ?_ _ | refine q0h ?_ | refine q0f ?_ _));exact BK236.out) hb);have n1_ := Aside0.mk (q0l (by repeat (first | (with_reducible first | exact HB.out | apply q0b | apply q0a | apply q0c | refine q0i ?_ GE236.out) | exact HB.out)) hb);have n2_ := Aside0.mk (hbox);have n3_ := Aside0.mk ((by rw [hg];exact (q0j (by repeat (first | (with_reducible first | exact HB.out | apply q0b | apply q0a | apply q0c | refine q0i ?_ GE236.out) | exact HB.out))) : w.heap.size ≤ gb237));have n4_ := Aside0.mk ((by rw [hg];exact (q0j (by repeat (first | (with_reducible first | exact HB.out | apply q0b | apply q0a | apply q0c | refine q0i ?_ GE236.out) | exact HB.out))) : w.heap.size ≤ gb237));have n5_ := Aside0.mk ((by rw [hg];exact Nat.ne_of_lt (q0t (g := gb236) (o := .cells #[.int .i64 a1_0,.bool a1_1,.int .i64 a1_2,.string a1_3] 66 (0,0)) (by (with_reducible repeat (first | refine q0g ?_ _ | refine q0h ?_ | refine q0f ?_ _));exact BK236.out)) : gb236 ≠ gb237));have n6_ := Aside0.mk ((by rw [hg];exact Nat.ne_of_gt (q0t (g := gb236) (o := .cells #[.int .i64 a1_0,.bool a1_1,.int .i64 a1_2,.string a1_3] 66 (0,0)) (by (with_reducible repeat (first | refine q0g ?_ _ | refine q0h ?_ | refine q0f ?_ _));exact BK236.out)) : gb237 ≠ gb236));clear BK236;clear HB;have BK236 := n0_;have HB := n1_;have BK237 := n2_;have GW237 := n3_;have GE237 := n4_;have NB236_237 := n5_;have NB237_236 := n6_;clear n0_ n1_ n2_ n3_ n4_ n5_ n6_;clear hb hbox hg;have hnb43 := NB236_237.out;have hnc43 := NB237_236.out;have hcz44_0 : w42.cell? ⟨gb236,0,none⟩ = some (.int .i64 a1_0) := (q0e BK236.out 0).trans rfl;have hcz44_1 : w42.cell? ⟨gb236,1,none⟩ = some (.bool a1_1) := (q0e BK236.out 1).trans rfl;have hcz44_2 : w42.cell? ⟨gb236,2,none⟩ = some (.int .i64 a1_2) := (q0e BK236.out 2).trans rfl;have hcz44_3 : w42.cell? ⟨gb236,3,none⟩ = some (.string a1_3) := (q0e BK236.out 3).trans rfl;have hfz44_0 := q0d BK236.out 0;have hfz44_1 := q0d BK236.out 1;have hfz44_2 := q0d BK236.out 2;have hfz44_3 := q0d BK236.out 3;have hcz45_0 : w42.cell? ⟨gb237,0,none⟩ = some (.int .i64 a2_0) := (q0e BK237.out 0).trans rfl;have hcz45_1 : w42.cell? ⟨gb237,1,none⟩ = some (.bool a2_1) := (q0e BK237.out 1).trans rfl;have hcz45_2 : w42.cell? ⟨gb237,2,none⟩ = some (.int .i64 a2_2) := (q0e BK237.out 2).trans rfl;have hcz45_3 : w42.cell? ⟨gb237,3,none⟩ = some (.string a2_3) := (q0e BK237.out 3).trans rfl;have hfz45_0 := q0d BK237.out 0;have hfz45_1 := q0d BK237.out 1;have hfz45_2 := q0d BK237.out 2;have hfz45_3 := q0d BK237.out 3) | ((with_reducible refine q0v (f := 116) rfl ?_);refine goesL_ (some 10) rfl rfl Try.func116 (by kernel_rfl) rfl #[.agg #[.int .i64 a1_0,.bool a1_1,.int .i64 a1_2,.string a1_3],.agg #[.int .i64 a2_0,.bool a2_1,.int .i64 a2_2,.string a2_3]] rfl (by (try simp only [List.map_toArray,List.map_cons,List.map_nil]);first | done | rfl | (simp only [List.length_drop,List.length_take];rfl)) ?_;(with_reducible refine (verdererref01_Compare.calls k a1_0 a1_1 a1_2 a1_3 a2_0 a2_1 a2_2 a2_3 t238 _ A4.out).mono ?_);rintro e w46 ⟨rfl,hb⟩;refine ⟨_,rfl,?_⟩;have n0_ := Aside0.mk (q0p (g := gb236) (o := .cells #[.int .i64 a1_0,.bool a1_1,.int .i64 a1_2,.string a1_3] 66 (0,0)) (by (with_reducible repeat (first | refine q0g ?_ _ | refine q0h ?_ | refine q0f ?_ _));exact BK236.out) hb);have n1_ := Aside0.mk (q0p (g := gb237) (o := .cells #[.int .i64 a2_0,.bool a2_1,.int .i64 a2_2,.string a2_3] 66 (0,0)) (by (with_reducible repeat (first | refine q0g ?_ _ | refine q0h ?_ | refine q0f ?_ _));exact BK237.out) hb);have n2_ := Aside0.mk (q0l (by repeat (first | (with_reducible first | exact HB.out | apply q0b | apply q0a | apply q0c | refine q0i ?_ GE236.out | refine q0i ?_ GE237.out) | exact HB.out)) hb);clear BK236;clear BK237;clear HB;have BK236 := n0_;have BK237 := n1_;have HB := n2_;clear n0_ n1_ n2_;(try clear hb);(try clear hb2);(try clear hk);(try clear hi)))
       go_ret
       exact ⟨by first | rfl | (simp [q0m,q0n] <;> rfl) | (simp [*,q0m,q0n] <;> rfl),by repeat (first | (with_reducible first | exact HB.out | apply q0b | apply q0a | apply q0c | refine q0i ?_ GE236.out | refine q0i ?_ GE237.out) | exact HB.out)⟩
      ·rw [if_neg c40] at H
       have c40b0 : (a0 == 6) = false := beq_eq_false_iff_ne.mpr c40
       have c40b1 : (a0 != 6) = true := bne_iff_ne.mpr c40
       obtain rfl := Option.some.inj H
       go_enter Try.func104,Try.ntmps104
       go_wp2_with (first | ((with_reducible refine q0q (N := 4) rfl ?_);refine q0o ?hg (N := 4) ?hd (cs := #[.int .i64 a1_0,.bool a1_1,.int .i64 a1_2,.string a1_3]) (t := 66) ?hr ?_;(case hd => rfl);(case hg => rfl);(case hr => first | (go_simp;done) | (go_simp;rfl));intro gb236 hg w47 hbox hb;have n0_ := Aside0.mk (q0l (by repeat (first | (with_reducible first | exact HB.out | apply q0b | apply q0a | apply q0c) | exact HB.out)) hb);have n1_ := Aside0.mk (hbox);have n2_ := Aside0.mk ((by rw [hg];exact (q0j (by repeat (first | (with_reducible first | exact HB.out | apply q0b | apply q0a | apply q0c) | exact HB.out))) : w.heap.size ≤ gb236));have n3_ := Aside0.mk ((by rw [hg];exact (q0j (by repeat (first | (with_reducible first | exact HB.out | apply q0b | apply q0a | apply q0c) | exact HB.out))) : w.heap.size ≤ gb236));clear HB;have HB := n0_;have BK236 := n1_;have GW236 := n2_;have GE236 := n3_;clear n0_ n1_ n2_ n3_;clear hb hbox hg) | ((with_reducible refine q0q (N := 5) rfl ?_);refine q0o ?hg (N := 5) ?hd (cs := #[.int .i64 a2_0,.bool a2_1,.int .i64 a2_2,.string a2_3]) (t := 66) ?hr ?_;(case hd => rfl);(case hg => rfl);(case hr => first | (go_simp;done) | (go_simp;rfl));intro gb237 hg w48 hbox hb;have n0_ := Aside0.mk (q0p (g := gb236) (o := .cells #[.int .i64 a1_0,.bool a1_1,.int .i64 a1_2,.string a1_3] 66 (0,0)) (by (with_reducible repeat (first | refine q0g ?_ _ | refine q0h ?_ | refine q0f ?_ _));exact BK236.out) hb);have n1_ := Aside0.mk (q0l (by repeat (first | (with_reducible first | exact HB.out | apply q0b | apply q0a | apply q0c | refine q0i ?_ GE236.out) | exact HB.out)) hb);have n2_ := Aside0.mk (hbox);have n3_ := Aside0.mk ((by rw [hg];exact (q0j (by repeat (first | (with_reducible first | exact HB.out | apply q0b | apply q0a | apply q0c | refine q0i ?_ GE236.out) | exact HB.out))) : w.heap.size ≤ gb237));have n4_ := Aside0.mk ((by rw [hg];exact (q0j (by repeat (first | (with_reducible first | exact HB.out | apply q0b | apply q0a | apply q0c | refine q0i ?_ GE236.out) | exact HB.out))) : w.heap.size ≤ gb237));have n5_ := Aside0.mk ((by rw [hg];exact Nat.ne_of_lt (q0t (g := gb236) (o := .cells #[.int .i64 a1_0,.bool a1_1,.int .i64 a1_2,.string a1_3] 66 (0,0)) (by (with_reducible repeat (first | refine q0g ?_ _ | refine q0h ?_ | refine q0f ?_ _));exact BK236.out)) : gb236 ≠ gb237));have n6_ := Aside0.mk ((by rw [hg];exact Nat.ne_of_gt (q0t (g := gb236) (o := .cells #[.int .i64 a1_0,.bool a1_1,.int .i64 a1_2,.string a1_3] 66 (0,0)) (by (with_reducible repeat (first | refine q0g ?_ _ | refine q0h ?_ | refine q0f ?_ _));exact BK236.out)) : gb237 ≠ gb236));clear BK236;clear HB;have BK236 := n0_;have HB := n1_;have BK237 := n2_;have GW237 := n3_;have GE237 := n4_;have NB236_237 := n5_;have NB237_236 := n6_;clear n0_ n1_ n2_ n3_ n4_ n5_ n6_;clear hb hbox hg;have hnb49 := NB236_237.out;have hnc49 := NB237_236.out;have hcz50_0 : w48.cell? ⟨gb236,0,none⟩ = some (.int .i64 a1_0) := (q0e BK236.out 0).trans rfl;have hcz50_1 : w48.cell? ⟨gb236,1,none⟩ = some (.bool a1_1) := (q0e BK236.out 1).trans rfl;have hcz50_2 : w48.cell? ⟨gb236,2,none⟩ = some (.int .i64 a1_2) := (q0e BK236.out 2).trans rfl;have hcz50_3 : w48.cell? ⟨gb236,3,none⟩ = some (.string a1_3) := (q0e BK236.out 3).trans rfl;have hfz50_0 := q0d BK236.out 0;have hfz50_1 := q0d BK236.out 1;have hfz50_2 := q0d BK236.out 2;have hfz50_3 := q0d BK236.out 3;have hcz51_0 : w48.cell? ⟨gb237,0,none⟩ = some (.int .i64 a2_0) := (q0e BK237.out 0).trans rfl;have hcz51_1 : w48.cell? ⟨gb237,1,none⟩ = some (.bool a2_1) := (q0e BK237.out 1).trans rfl;have hcz51_2 : w48.cell? ⟨gb237,2,none⟩ = some (.int .i64 a2_2) := (q0e BK237.out 2).trans rfl;have hcz51_3 : w48.cell? ⟨gb237,3,none⟩ = some (.string a2_3) := (q0e BK237.out 3).trans rfl;have hfz51_0 := q0d BK237.out 0;have hfz51_1 := q0d BK237.out 1;have hfz51_2 := q0d BK237.out 2;have hfz51_3 := q0d BK237.out 3) | ((with_reducible refine q0v (f := 116) rfl ?_);refine goesL_ (some 10) rfl rfl Try.func116 (by kernel_rfl) rfl #[.agg #[.int .i64 a1_0,.bool a1_1,.int .i64 a1_2,.string a1_3],.agg #[.int .i64 a2_0,.bool a2_1,.int .i64 a2_2,.string a2_3]] rfl (by (try simp only [List.map_toArray,List.map_cons,List.map_nil]);first | done | rfl | (simp only [List.length_drop,List.length_take];rfl)) ?_;(with_reducible refine (verdererref01_Compare.calls k a1_0 a1_1 a1_2 a1_3 a2_0 a2_1 a2_2 a2_3 t238 _ A4.out).mono ?_);rintro e w52 ⟨rfl,hb⟩;refine ⟨_,rfl,?_⟩;have n0_ := Aside0.mk (q0p (g := gb236) (o := .cells #[.int .i64 a1_0,.bool a1_1,.int .i64 a1_2,.string a1_3] 66 (0,0)) (by (with_reducible repeat (first | refine q0g ?_ _ | refine q0h ?_ | refine q0f ?_ _));exact BK236.out) hb);have n1_ := Aside0.mk (q0p (g := gb237) (o := .cells #[.int .i64 a2_0,.bool a2_1,.int .i64 a2_2,.string a2_3] 66 (0,0)) (by (with_reducible repeat (first | refine q0g ?_ _ | refine q0h ?_ | refine q0f ?_ _));exact BK237.out) hb);have n2_ := Aside0.mk (q0l (by repeat (first | (with_reducible first | exact HB.out | apply q0b | apply q0a | apply q0c | refine q0i ?_ GE236.out | refine q0i ?_ GE237.out) | exact HB.out)) hb);clear BK236;clear BK237;clear HB;have BK236 := n0_;have BK237 := n1_;have HB := n2_;clear n0_ n1_ n2_;(try clear hb);(try clear hb2);(try clear hk);(try clear hi)))
       go_ret
       exact ⟨by first | rfl | (simp [q0m,q0n] <;> rfl) | (simp [*,q0m,q0n] <;> rfl),by repeat (first | (with_reducible first | exact HB.out | apply q0b | apply q0a | apply q0c | refine q0i ?_ GE236.out | refine q0i ?_ GE237.out) | exact HB.out)⟩
end Go.Proofs.Ythmbfcfomcaaaaa.Z
end
section
namespace Go.Proofs.Ythmbfcfomcaaaaa.Z
open Go.RowKit Go.Proofs.YthmbfcfomcaaaaaW.PrintWords Go.Proofs.YthmbfcfomcaaaaaW.PrintLast Go.Proofs.YthmbfcfomcaaaaaW.PrintMore
attribute [local go_sem] max2_int min2_int max_two min_two max_three min_three max_four min_four
set_option linter.unusedVariables false
set_option linter.unusedSimpArgs false
def verdererref19_cell.f (l0 : List (S66)) (a1 : Int) : Option (Int × Bool × Int × ByteArray × Bool) := if a1 < 0 then (some (0,false,0,(⟨#[]⟩ : ByteArray),false)) else (if a1 ≥ (l0.length : Int) then (some (0,false,0,(⟨#[]⟩ : ByteArray),false)) else (if 0 ≤ a1 then (if a1 < (l0.length : Int) then (some ((q0k l0 a1).f0,(q0k l0 a1).f1,(q0k l0 a1).f2,(q0k l0 a1).f3,true)) else (none)) else (none)))
set_option maxHeartbeats 8000000 in
set_option maxRecDepth 100000 in
theorem verdererref19_cell.calls (A0 : Option Addr) (c0 : Nat) (l0 : List (S66)) (a1 : Int) (r1 : Int) (r2 : Bool) (r3 : Int) (r4 : ByteArray) (r5 : Bool) (w : World) (hr0 : Kd.C k66 w A0 l0.length l0) (hc0 : l0.length ≤ c0) (h : verdererref19_cell.f l0 a1 = some (r1,r2,r3,r4,r5)) :
  Calls Try.prog 103 #[.slice A0 l0.length c0,.int .i64 a1] w fun e w' => e = .returned (.tuple #[.agg #[.int .i64 r1,.bool r2,.int .i64 r3,.string r4],.bool r5]) ∧ Below w.heap.size w w' := by
 have hu66 := Try.underlying66
 have HR0 := Aside0.mk hr0
 have HC0 := Aside0.mk hc0
 clear hr0 hc0
 have HB := Aside0.mk (Below.refl w.heap.size w)
 have H : (if a1 < 0 then (some (0,false,0,(⟨#[]⟩ : ByteArray),false)) else (if a1 ≥ (l0.length : Int) then (some (0,false,0,(⟨#[]⟩ : ByteArray),false)) else (if 0 ≤ a1 then (if a1 < (l0.length : Int) then (some ((q0k l0 a1).f0,(q0k l0 a1).f1,(q0k l0 a1).f2,(q0k l0 a1).f3,true)) else (none)) else (none)))) = some (r1,r2,r3,r4,r5) := h
 clear h
 by_cases c3 : a1 < 0
 ·rw [if_pos c3] at H
  have c3b0 : decide (a1 < 0) = true := decide_eq_true c3
  clear c3
  simp only [Option.some.injEq,Prod.mk.injEq] at H
  obtain ⟨rfl,rfl,rfl,rfl,rfl⟩ := H
  go_enter Try.func103,Try.ntmps103
  go_wp2_with (first | ((with_reducible refine q0q (N := 4) rfl ?_);(try (refine gate_guard (by rfl) ?_;dsimp only));refine q0o ?hg (N := 4) ?hd (cs := #[.int .i64 0,.bool false,.int .i64 0,.string (⟨#[]⟩ : ByteArray)]) (t := 66) ?hr ?_;(case hd => rfl);(case hg => rfl);(case hr => first | (go_simp;done) | (go_simp;rfl));intro gb239 hg w4 hbox hb;have n0_ := Aside0.mk (q0l (by repeat (first | (with_reducible first | exact HB.out | apply q0b | apply q0a | apply q0c) | exact HB.out)) hb);have n1_ := Aside0.mk (hbox);have n2_ := Aside0.mk ((by rw [hg];exact (q0j (by repeat (first | (with_reducible first | exact HB.out | apply q0b | apply q0a | apply q0c) | exact HB.out))) : w.heap.size ≤ gb239));have n3_ := Aside0.mk ((by rw [hg];exact (q0j (by repeat (first | (with_reducible first | exact HB.out | apply q0b | apply q0a | apply q0c) | exact HB.out))) : w.heap.size ≤ gb239));clear HB;have HB := n0_;have BK239 := n1_;have GW239 := n2_;have GE239 := n3_;clear n0_ n1_ n2_ n3_;clear hb hbox hg;have hcz5_0 : w4.cell? ⟨gb239,0,none⟩ = some (.int .i64 0) := (q0e BK239.out 0).trans rfl;have hcz5_1 : w4.cell? ⟨gb239,1,none⟩ = some (.bool false) := (q0e BK239.out 1).trans rfl;have hcz5_2 : w4.cell? ⟨gb239,2,none⟩ = some (.int .i64 0) := (q0e BK239.out 2).trans rfl;have hcz5_3 : w4.cell? ⟨gb239,3,none⟩ = some (.string (⟨#[]⟩ : ByteArray)) := (q0e BK239.out 3).trans rfl;have hfz5_0 := q0d BK239.out 0;have hfz5_1 := q0d BK239.out 1;have hfz5_2 := q0d BK239.out 2;have hfz5_3 := q0d BK239.out 3))
  refine bodyPost_ret (results_ct rfl _ _ gb239 66 #[.int .i64 0,.bool false,.int .i64 0,.string (⟨#[]⟩ : ByteArray)] (0,0) _ rfl (by (with_reducible repeat (first | refine q0g ?_ _ | refine q0h ?_ | refine q0f ?_ _));refine q0r (cs := #[.int .i64 0,.bool false,.int .i64 0,.string (⟨#[]⟩ : ByteArray)]) ?_ 3 _ rfl;(with_reducible repeat (first | refine q0g ?_ _ | refine q0h ?_ | refine q0f ?_ _));refine q0r (cs := #[.int .i64 0,.bool false,.int .i64 0,.string (⟨#[]⟩ : ByteArray)]) ?_ 2 _ rfl;(with_reducible repeat (first | refine q0g ?_ _ | refine q0h ?_ | refine q0f ?_ _));refine q0r (cs := #[.int .i64 0,.bool false,.int .i64 0,.string (⟨#[]⟩ : ByteArray)]) ?_ 1 _ rfl;(with_reducible repeat (first | refine q0g ?_ _ | refine q0h ?_ | refine q0f ?_ _));refine q0r (cs := #[.int .i64 0,.bool false,.int .i64 0,.string (⟨#[]⟩ : ByteArray)]) ?_ 0 _ rfl;(with_reducible repeat (first | refine q0g ?_ _ | refine q0h ?_ | refine q0f ?_ _));exact BK239.out) Try.underlying66 rfl (by kernel_rfl)) rfl ?_
  exact ⟨by first | rfl | (simp [q0m,q0n] <;> rfl) | (simp [*,q0m,q0n] <;> rfl),by repeat (first | (with_reducible first | exact HB.out | apply q0b | apply q0a | apply q0c | refine q0i ?_ GE239.out) | exact HB.out)⟩
 ·rw [if_neg c3] at H
  have c3b0 : decide (a1 < 0) = false := decide_eq_false c3
  clear c3
  by_cases c6 : a1 ≥ (l0.length : Int)
  ·rw [if_pos c6] at H
   have c6b0 : decide ((l0.length : Int) ≤ a1) = true := decide_eq_true c6
   clear c6
   simp only [Option.some.injEq,Prod.mk.injEq] at H
   obtain ⟨rfl,rfl,rfl,rfl,rfl⟩ := H
   go_enter Try.func103,Try.ntmps103
   go_wp2_with (first | ((with_reducible refine q0q (N := 4) rfl ?_);(try (refine gate_guard (by rfl) ?_;dsimp only));refine q0o ?hg (N := 4) ?hd (cs := #[.int .i64 0,.bool false,.int .i64 0,.string (⟨#[]⟩ : ByteArray)]) (t := 66) ?hr ?_;(case hd => rfl);(case hg => rfl);(case hr => first | (go_simp;done) | (go_simp;rfl));intro gb239 hg w7 hbox hb;have n0_ := Aside0.mk (q0l (by repeat (first | (with_reducible first | exact HB.out | apply q0b | apply q0a | apply q0c) | exact HB.out)) hb);have n1_ := Aside0.mk (hbox);have n2_ := Aside0.mk ((by rw [hg];exact (q0j (by repeat (first | (with_reducible first | exact HB.out | apply q0b | apply q0a | apply q0c) | exact HB.out))) : w.heap.size ≤ gb239));have n3_ := Aside0.mk ((by rw [hg];exact (q0j (by repeat (first | (with_reducible first | exact HB.out | apply q0b | apply q0a | apply q0c) | exact HB.out))) : w.heap.size ≤ gb239));clear HB;have HB := n0_;have BK239 := n1_;have GW239 := n2_;have GE239 := n3_;clear n0_ n1_ n2_ n3_;clear hb hbox hg;have hcz8_0 : w7.cell? ⟨gb239,0,none⟩ = some (.int .i64 0) := (q0e BK239.out 0).trans rfl;have hcz8_1 : w7.cell? ⟨gb239,1,none⟩ = some (.bool false) := (q0e BK239.out 1).trans rfl;have hcz8_2 : w7.cell? ⟨gb239,2,none⟩ = some (.int .i64 0) := (q0e BK239.out 2).trans rfl;have hcz8_3 : w7.cell? ⟨gb239,3,none⟩ = some (.string (⟨#[]⟩ : ByteArray)) := (q0e BK239.out 3).trans rfl;have hfz8_0 := q0d BK239.out 0;have hfz8_1 := q0d BK239.out 1;have hfz8_2 := q0d BK239.out 2;have hfz8_3 := q0d BK239.out 3))
   refine bodyPost_ret (results_ct rfl _ _ gb239 66 #[.int .i64 0,.bool false,.int .i64 0,.string (⟨#[]⟩ : ByteArray)] (0,0) _ rfl (by (with_reducible repeat (first | refine q0g ?_ _ | refine q0h ?_ | refine q0f ?_ _));refine q0r (cs := #[.int .i64 0,.bool false,.int .i64 0,.string (⟨#[]⟩ : ByteArray)]) ?_ 3 _ rfl;(with_reducible repeat (first | refine q0g ?_ _ | refine q0h ?_ | refine q0f ?_ _));refine q0r (cs := #[.int .i64 0,.bool false,.int .i64 0,.string (⟨#[]⟩ : ByteArray)]) ?_ 2 _ rfl;(with_reducible repeat (first | refine q0g ?_ _ | refine q0h ?_ | refine q0f ?_ _));refine q0r (cs := #[.int .i64 0,.bool false,.int .i64 0,.string (⟨#[]⟩ : ByteArray)]) ?_ 1 _ rfl;(with_reducible repeat (first | refine q0g ?_ _ | refine q0h ?_ | refine q0f ?_ _));refine q0r (cs := #[.int .i64 0,.bool false,.int .i64 0,.string (⟨#[]⟩ : ByteArray)]) ?_ 0 _ rfl;(with_reducible repeat (first | refine q0g ?_ _ | refine q0h ?_ | refine q0f ?_ _));exact BK239.out) Try.underlying66 rfl (by kernel_rfl)) rfl ?_
   exact ⟨by first | rfl | (simp [q0m,q0n] <;> rfl) | (simp [*,q0m,q0n] <;> rfl),by repeat (first | (with_reducible first | exact HB.out | apply q0b | apply q0a | apply q0c | refine q0i ?_ GE239.out) | exact HB.out)⟩
  ·rw [if_neg c6] at H
   have c6b0 : decide ((l0.length : Int) ≤ a1) = false := decide_eq_false c6
   clear c6
   by_cases c9 : 0 ≤ a1
   ·rw [if_pos c9] at H
    have c9b0 : decide (0 ≤ a1) = true := decide_eq_true c9
    clear c9
    by_cases c10 : a1 < (l0.length : Int)
    ·rw [if_pos c10] at H
     have c10b0 : decide (a1 < (l0.length : Int)) = true := decide_eq_true c10
     clear c10
     simp only [Option.some.injEq,Prod.mk.injEq] at H
     obtain ⟨rfl,rfl,rfl,rfl,rfl⟩ := H
     go_enter Try.func103,Try.ntmps103
     go_wp2_with (first | ((with_reducible refine q0q (N := 4) rfl ?_);(try (refine gate_guard (by rfl) ?_;dsimp only));refine q0o ?hg (N := 4) ?hd (cs := #[.int .i64 0,.bool false,.int .i64 0,.string (⟨#[]⟩ : ByteArray)]) (t := 66) ?hr ?_;(case hd => rfl);(case hg => rfl);(case hr => first | (go_simp;done) | (go_simp;rfl));intro gb239 hg w11 hbox hb;have n0_ := Aside0.mk (q0l (by repeat (first | (with_reducible first | exact HB.out | apply q0b | apply q0a | apply q0c) | exact HB.out)) hb);have n1_ := Aside0.mk (hbox);have n2_ := Aside0.mk ((by rw [hg];exact (q0j (by repeat (first | (with_reducible first | exact HB.out | apply q0b | apply q0a | apply q0c) | exact HB.out))) : w.heap.size ≤ gb239));have n3_ := Aside0.mk ((by rw [hg];exact (q0j (by repeat (first | (with_reducible first | exact HB.out | apply q0b | apply q0a | apply q0c) | exact HB.out))) : w.heap.size ≤ gb239));clear HB;have HB := n0_;have BK239 := n1_;have GW239 := n2_;have GE239 := n3_;clear n0_ n1_ n2_ n3_;clear hb hbox hg;have p240 : 0 ≤ (a1 : Int) := of_decide_eq_true (by first | (with_reducible assumption) | assumption);have q240 : a1 < (l0.length : Int) := of_decide_eq_true (by first | (with_reducible assumption) | assumption);obtain ⟨ad240,e240,hx240_0,hx240_1,hx240_2,hx240_3⟩ := at_T66 HR0.out a1 p240 q240;cases e240;replace hx240_0 := (HB.out.cell (World.block_lt_of_cell? w _ hx240_0)).trans hx240_0;replace hx240_1 := (HB.out.cell (World.block_lt_of_cell? w _ hx240_1)).trans hx240_1;replace hx240_2 := (HB.out.cell (World.block_lt_of_cell? w _ hx240_2)).trans hx240_2;replace hx240_3 := (HB.out.cell (World.block_lt_of_cell? w _ hx240_3)).trans hx240_3;replace p240 := eq_true p240;replace q240 := eq_true q240;have hcz12_0 : w11.cell? ⟨gb239,0,none⟩ = some (.int .i64 0) := (q0e BK239.out 0).trans rfl;have hcz12_1 : w11.cell? ⟨gb239,1,none⟩ = some (.bool false) := (q0e BK239.out 1).trans rfl;have hcz12_2 : w11.cell? ⟨gb239,2,none⟩ = some (.int .i64 0) := (q0e BK239.out 2).trans rfl;have hcz12_3 : w11.cell? ⟨gb239,3,none⟩ = some (.string (⟨#[]⟩ : ByteArray)) := (q0e BK239.out 3).trans rfl;have hfz12_0 := q0d BK239.out 0;have hfz12_1 := q0d BK239.out 1;have hfz12_2 := q0d BK239.out 2;have hfz12_3 := q0d BK239.out 3))
     refine bodyPost_ret (results_ct rfl _ _ gb239 66 #[.int .i64 ((q0k l0 a1).f0),.bool ((q0k l0 a1).f1),.int .i64 ((q0k l0 a1).f2),.string ((q0k l0 a1).f3)] (0,0) _ rfl (by (with_reducible repeat (first | refine q0g ?_ _ | refine q0h ?_ | refine q0f ?_ _));refine q0r (cs := #[.int .i64 ((q0k l0 a1).f0),.bool ((q0k l0 a1).f1),.int .i64 ((q0k l0 a1).f2),.string (⟨#[]⟩ : ByteArray)]) ?_ 3 _ rfl;(with_reducible repeat (first | refine q0g ?_ _ | refine q0h ?_ | refine q0f ?_ _));refine q0r (cs := #[.int .i64 ((q0k l0 a1).f0),.bool ((q0k l0 a1).f1),.int .i64 0,.string (⟨#[]⟩ : ByteArray)]) ?_ 2 _ rfl;(with_reducible repeat (first | refine q0g ?_ _ | refine q0h ?_ | refine q0f ?_ _));refine q0r (cs := #[.int .i64 ((q0k l0 a1).f0),.bool false,.int .i64 0,.string (⟨#[]⟩ : ByteArray)]) ?_ 1 _ rfl;(with_reducible repeat (first | refine q0g ?_ _ | refine q0h ?_ | refine q0f ?_ _));refine q0r (cs := #[.int .i64 0,.bool false,.int .i64 0,.string (⟨#[]⟩ : ByteArray)]) ?_ 0 _ rfl;(with_reducible repeat (first | refine q0g ?_ _ | refine q0h ?_ | refine q0f ?_ _));exact BK239.out) Try.underlying66 rfl (by kernel_rfl)) rfl ?_
     exact ⟨by first | rfl | (simp [q0m,q0n] <;> rfl) | (simp [*,q0m,q0n] <;> rfl),by repeat (first | (with_reducible first | exact HB.out | apply q0b | apply q0a | apply q0c | refine q0i ?_ GE239.out) | exact HB.out)⟩
    ·rw [if_neg c10] at H
     exact absurd H (by simp)
   ·rw [if_neg c9] at H
    exact absurd H (by simp)
end Go.Proofs.Ythmbfcfomcaaaaa.Z
end
section
namespace Go.Proofs.Ythmbfcfomcaaaaa.Z
set_option linter.unusedVariables false
set_option linter.unusedSimpArgs false
open Go.RowKit Go.Proofs.YthmbfcfomcaaaaaW.PrintWords Go.Proofs.YthmbfcfomcaaaaaW.PrintLast Go.Proofs.YthmbfcfomcaaaaaW.PrintMore Go.Proofs.Ythmbfcfomcaaaaa.Cmp
abbrev Cnd := S130
def opT (op c : Int) : Bool := if op = 1 then c == 0 else if op = 2 then c != 0 else if op = 3 then decide (c < 0) else if op = 4 then decide (c ≤ 0) else if op = 5 then decide (c > 0) else if op = 6 then decide (c ≥ 0) else false
def cellF (r : List S66) (i : Int) : Option S66 := if 0 ≤ i ∧ i < (r.length : Int) then some (q0k r i) else none
def cellO (o : Option S66) : Int × Bool × Int × ByteArray × Bool := match o with | some v => (v.f0,v.f1,v.f2,v.f3,true) | none => (0,false,0,⟨#[]⟩,false)
def holdF (r : List S66) (c : Cnd) : Bool := match cellF r c.f0 with
 | none => false
 | some a => if 0 ≤ c.f2 then (match cellF r c.f2 with | none => false | some b => opT c.f1 (vcmp a b)) else opT c.f1 (vcmp a c.f3)
def holdsF (r : List S66) (l : List Cnd) : Bool := l.all (holdF r)
def whereF (l : List S34) (c : List Cnd) : List S34 := l.filter (fun e => holdsF e.f0 c)
theorem test_f (op : Int) (a b : S66) : value_Test.f op a.f0 a.f1 a.f2 a.f3 b.f0 b.f1 b.f2 b.f3 = some (opT op (vcmp a b)) := by
 unfold value_Test.f
 rw [vcmp_f,Option.bind_some]
 generalize vcmp a b = c
 unfold opT
 by_cases h1 : op = 1
 ·simp [h1]
 by_cases h2 : op = 2
 ·simp [h2]
 by_cases h3 : op = 3
 ·subst h3;by_cases h : c < 0 <;> simp [h]
 by_cases h4 : op = 4
 ·subst h4
  by_cases h : c < 0
  ·have : c ≤ 0 := by omega
   simp [h,this]
  ·by_cases h0 : c = 0
   ·subst h0;simp
   ·have : ¬ c ≤ 0 := by omega
    simp [h,h0,this]
 by_cases h5 : op = 5
 ·subst h5;by_cases h : c > 0 <;> simp [h]
 by_cases h6 : op = 6
 ·subst h6
  by_cases h : c > 0
  ·have : c ≥ 0 := by omega
   simp [h,this]
  ·by_cases h0 : c = 0
   ·subst h0;simp
   ·have : ¬ c ≥ 0 := by omega
    simp [h,h0,this]
 simp [h1,h2,h3,h4,h5,h6]
theorem testR_f (op : Int) (a b : S66) (ha : a.f3.size ≤ 9223372036854775807) (k : Nat) (hk : 2 * a.f3.size + 1 < k) : verdererref01_Test.f k op a.f0 a.f1 a.f2 a.f3 b.f0 b.f1 b.f2 b.f3 = some (opT op (vcmp a b)) := by
 unfold verdererref01_Test.f
 rw [vcmp_ref a b ha k hk,Option.bind_some]
 unfold opT
 repeat' split
 all_goals first | rfl | omega
theorem rcell_f (r : List S66) (i : Int) : verdererref19_cell.f r i = some (cellO (cellF r i)) := by
 unfold verdererref19_cell.f cellF
 by_cases h0 : i < 0
 ·rw [if_pos h0,if_neg (by omega)];rfl
 ·rw [if_neg h0]
  by_cases h1 : i ≥ (r.length : Int)
  ·rw [if_pos h1,if_neg (by omega)];rfl
  ·rw [if_neg h1,if_pos (by omega),if_pos (by omega),if_pos (by omega)];rfl
theorem rdC_get {xs : List Cnd} {i : Nat} (h : i < xs.length) : q0u xs (i : Int) = xs[i] := by unfold q0u;simp [List.getD,List.getElem?_eq_getElem h]
theorem dropC_rd {xs : List Cnd} {i : Nat} (h : i < xs.length) : xs.drop i = q0u xs (i : Int) :: xs.drop (i + 1) := by rw [rdC_get h];exact List.drop_eq_getElem_cons h
theorem rd_in {xs : List S66} {i : Int} (h0 : 0 ≤ i) (h1 : i < (xs.length : Int)) : q0k xs i ∈ xs := by
 obtain ⟨n,rfl⟩ := Int.eq_ofNat_of_zero_le h0
 rw [rd_get (by omega)]
 exact List.getElem_mem _
theorem cell_in {r : List S66} {i : Int} {v : S66} (h : cellF r i = some v) : v ∈ r := by
 unfold cellF at h
 split at h
 ·rename_i q
  injection h with h
  subst h
  exact rd_in q.1 q.2
 ·cases h
end Go.Proofs.Ythmbfcfomcaaaaa.Z
end
section
namespace Go.Proofs.Ythmbfcfomcaaaaa.Z
open Go.RowKit Go.Proofs.YthmbfcfomcaaaaaW.PrintWords Go.Proofs.YthmbfcfomcaaaaaW.PrintLast Go.Proofs.YthmbfcfomcaaaaaW.PrintMore
attribute [local go_sem] max2_int min2_int max_two min_two max_three min_three max_four min_four
set_option linter.unusedVariables false
set_option linter.unusedSimpArgs false
def eval_cell.f (l0 : List (S66)) (a1 : Int) : Option (Int × Bool × Int × ByteArray × Bool) := if a1 < 0 then (some (0,false,0,(⟨#[]⟩ : ByteArray),false)) else (if a1 ≥ (l0.length : Int) then (some (0,false,0,(⟨#[]⟩ : ByteArray),false)) else (if 0 ≤ a1 then (if a1 < (l0.length : Int) then (some ((q0k l0 a1).f0,(q0k l0 a1).f1,(q0k l0 a1).f2,(q0k l0 a1).f3,true)) else (none)) else (none)))
set_option maxHeartbeats 8000000 in
set_option maxRecDepth 100000 in
theorem eval_cell.calls (A0 : Option Addr) (c0 : Nat) (l0 : List (S66)) (a1 : Int) (r1 : Int) (r2 : Bool) (r3 : Int) (r4 : ByteArray) (r5 : Bool) (w : World) (hr0 : Kd.C k66 w A0 l0.length l0) (hc0 : l0.length ≤ c0) (h : eval_cell.f l0 a1 = some (r1,r2,r3,r4,r5)) :
  Calls Try.prog 117 #[.slice A0 l0.length c0,.int .i64 a1] w fun e w' => e = .returned (.tuple #[.agg #[.int .i64 r1,.bool r2,.int .i64 r3,.string r4],.bool r5]) ∧ Below w.heap.size w w' := by
 have hu66 := Try.underlying66
 have HR0 := Aside0.mk hr0
 have HC0 := Aside0.mk hc0
 clear hr0 hc0
 have HB := Aside0.mk (Below.refl w.heap.size w)
 have H : (if a1 < 0 then (some (0,false,0,(⟨#[]⟩ : ByteArray),false)) else (if a1 ≥ (l0.length : Int) then (some (0,false,0,(⟨#[]⟩ : ByteArray),false)) else (if 0 ≤ a1 then (if a1 < (l0.length : Int) then (some ((q0k l0 a1).f0,(q0k l0 a1).f1,(q0k l0 a1).f2,(q0k l0 a1).f3,true)) else (none)) else (none)))) = some (r1,r2,r3,r4,r5) := h
 clear h
 by_cases c3 : a1 < 0
 ·rw [if_pos c3] at H
  have c3b0 : decide (a1 < 0) = true := decide_eq_true c3
  clear c3
  simp only [Option.some.injEq,Prod.mk.injEq] at H
  obtain ⟨rfl,rfl,rfl,rfl,rfl⟩ := H
  go_enter Try.func117,Try.ntmps117
  go_wp2_with (first | ((with_reducible refine q0q (N := 4) rfl ?_);(try (refine gate_guard (by rfl) ?_;dsimp only));refine q0o ?hg (N := 4) ?hd (cs := #[.int .i64 0,.bool false,.int .i64 0,.string (⟨#[]⟩ : ByteArray)]) (t := 66) ?hr ?_;(case hd => rfl);(case hg => rfl);(case hr => first | (go_simp;done) | (go_simp;rfl));intro gb189 hg w4 hbox hb;have n0_ := Aside0.mk (q0l (by repeat (first | (with_reducible first | exact HB.out | apply q0b | apply q0a | apply q0c) | exact HB.out)) hb);have n1_ := Aside0.mk (hbox);have n2_ := Aside0.mk ((by rw [hg];exact (q0j (by repeat (first | (with_reducible first | exact HB.out | apply q0b | apply q0a | apply q0c) | exact HB.out))) : w.heap.size ≤ gb189));have n3_ := Aside0.mk ((by rw [hg];exact (q0j (by repeat (first | (with_reducible first | exact HB.out | apply q0b | apply q0a | apply q0c) | exact HB.out))) : w.heap.size ≤ gb189));clear HB;have HB := n0_;have BK189 := n1_;have GW189 := n2_;have GE189 := n3_;clear n0_ n1_ n2_ n3_;clear hb hbox hg;have hcz5_0 : w4.cell? ⟨gb189,0,none⟩ = some (.int .i64 0) := (q0e BK189.out 0).trans rfl;have hcz5_1 : w4.cell? ⟨gb189,1,none⟩ = some (.bool false) := (q0e BK189.out 1).trans rfl;have hcz5_2 : w4.cell? ⟨gb189,2,none⟩ = some (.int .i64 0) := (q0e BK189.out 2).trans rfl;have hcz5_3 : w4.cell? ⟨gb189,3,none⟩ = some (.string (⟨#[]⟩ : ByteArray)) := (q0e BK189.out 3).trans rfl;have hfz5_0 := q0d BK189.out 0;have hfz5_1 := q0d BK189.out 1;have hfz5_2 := q0d BK189.out 2;have hfz5_3 := q0d BK189.out 3))
  refine bodyPost_ret (results_ct rfl _ _ gb189 66 #[.int .i64 0,.bool false,.int .i64 0,.string (⟨#[]⟩ : ByteArray)] (0,0) _ rfl (by (with_reducible repeat (first | refine q0g ?_ _ | refine q0h ?_ | refine q0f ?_ _));refine q0r (cs := #[.int .i64 0,.bool false,.int .i64 0,.string (⟨#[]⟩ : ByteArray)]) ?_ 3 _ rfl;(with_reducible repeat (first | refine q0g ?_ _ | refine q0h ?_ | refine q0f ?_ _));refine q0r (cs := #[.int .i64 0,.bool false,.int .i64 0,.string (⟨#[]⟩ : ByteArray)]) ?_ 2 _ rfl;(with_reducible repeat (first | refine q0g ?_ _ | refine q0h ?_ | refine q0f ?_ _));refine q0r (cs := #[.int .i64 0,.bool false,.int .i64 0,.string (⟨#[]⟩ : ByteArray)]) ?_ 1 _ rfl;(with_reducible repeat (first | refine q0g ?_ _ | refine q0h ?_ | refine q0f ?_ _));refine q0r (cs := #[.int .i64 0,.bool false,.int .i64 0,.string (⟨#[]⟩ : ByteArray)]) ?_ 0 _ rfl;(with_reducible repeat (first | refine q0g ?_ _ | refine q0h ?_ | refine q0f ?_ _));exact BK189.out) Try.underlying66 rfl (by kernel_rfl)) rfl ?_
  exact ⟨by first | rfl | (simp [q0m,q0n] <;> rfl) | (simp [*,q0m,q0n] <;> rfl),by repeat (first | (with_reducible first | exact HB.out | apply q0b | apply q0a | apply q0c | refine q0i ?_ GE189.out) | exact HB.out)⟩
 ·rw [if_neg c3] at H
  have c3b0 : decide (a1 < 0) = false := decide_eq_false c3
  clear c3
  by_cases c6 : a1 ≥ (l0.length : Int)
  ·rw [if_pos c6] at H
   have c6b0 : decide ((l0.length : Int) ≤ a1) = true := decide_eq_true c6
   clear c6
   simp only [Option.some.injEq,Prod.mk.injEq] at H
   obtain ⟨rfl,rfl,rfl,rfl,rfl⟩ := H
   go_enter Try.func117,Try.ntmps117
   go_wp2_with (first | ((with_reducible refine q0q (N := 4) rfl ?_);(try (refine gate_guard (by rfl) ?_;dsimp only));refine q0o ?hg (N := 4) ?hd (cs := #[.int .i64 0,.bool false,.int .i64 0,.string (⟨#[]⟩ : ByteArray)]) (t := 66) ?hr ?_;(case hd => rfl);(case hg => rfl);(case hr => first | (go_simp;done) | (go_simp;rfl));intro gb189 hg w7 hbox hb;have n0_ := Aside0.mk (q0l (by repeat (first | (with_reducible first | exact HB.out | apply q0b | apply q0a | apply q0c) | exact HB.out)) hb);have n1_ := Aside0.mk (hbox);have n2_ := Aside0.mk ((by rw [hg];exact (q0j (by repeat (first | (with_reducible first | exact HB.out | apply q0b | apply q0a | apply q0c) | exact HB.out))) : w.heap.size ≤ gb189));have n3_ := Aside0.mk ((by rw [hg];exact (q0j (by repeat (first | (with_reducible first | exact HB.out | apply q0b | apply q0a | apply q0c) | exact HB.out))) : w.heap.size ≤ gb189));clear HB;have HB := n0_;have BK189 := n1_;have GW189 := n2_;have GE189 := n3_;clear n0_ n1_ n2_ n3_;clear hb hbox hg;have hcz8_0 : w7.cell? ⟨gb189,0,none⟩ = some (.int .i64 0) := (q0e BK189.out 0).trans rfl;have hcz8_1 : w7.cell? ⟨gb189,1,none⟩ = some (.bool false) := (q0e BK189.out 1).trans rfl;have hcz8_2 : w7.cell? ⟨gb189,2,none⟩ = some (.int .i64 0) := (q0e BK189.out 2).trans rfl;have hcz8_3 : w7.cell? ⟨gb189,3,none⟩ = some (.string (⟨#[]⟩ : ByteArray)) := (q0e BK189.out 3).trans rfl;have hfz8_0 := q0d BK189.out 0;have hfz8_1 := q0d BK189.out 1;have hfz8_2 := q0d BK189.out 2;have hfz8_3 := q0d BK189.out 3))
   refine bodyPost_ret (results_ct rfl _ _ gb189 66 #[.int .i64 0,.bool false,.int .i64 0,.string (⟨#[]⟩ : ByteArray)] (0,0) _ rfl (by (with_reducible repeat (first | refine q0g ?_ _ | refine q0h ?_ | refine q0f ?_ _));refine q0r (cs := #[.int .i64 0,.bool false,.int .i64 0,.string (⟨#[]⟩ : ByteArray)]) ?_ 3 _ rfl;(with_reducible repeat (first | refine q0g ?_ _ | refine q0h ?_ | refine q0f ?_ _));refine q0r (cs := #[.int .i64 0,.bool false,.int .i64 0,.string (⟨#[]⟩ : ByteArray)]) ?_ 2 _ rfl;(with_reducible repeat (first | refine q0g ?_ _ | refine q0h ?_ | refine q0f ?_ _));refine q0r (cs := #[.int .i64 0,.bool false,.int .i64 0,.string (⟨#[]⟩ : ByteArray)]) ?_ 1 _ rfl;(with_reducible repeat (first | refine q0g ?_ _ | refine q0h ?_ | refine q0f ?_ _));refine q0r (cs := #[.int .i64 0,.bool false,.int .i64 0,.string (⟨#[]⟩ : ByteArray)]) ?_ 0 _ rfl;(with_reducible repeat (first | refine q0g ?_ _ | refine q0h ?_ | refine q0f ?_ _));exact BK189.out) Try.underlying66 rfl (by kernel_rfl)) rfl ?_
   exact ⟨by first | rfl | (simp [q0m,q0n] <;> rfl) | (simp [*,q0m,q0n] <;> rfl),by repeat (first | (with_reducible first | exact HB.out | apply q0b | apply q0a | apply q0c | refine q0i ?_ GE189.out) | exact HB.out)⟩
  ·rw [if_neg c6] at H
   have c6b0 : decide ((l0.length : Int) ≤ a1) = false := decide_eq_false c6
   clear c6
   by_cases c9 : 0 ≤ a1
   ·rw [if_pos c9] at H
    have c9b0 : decide (0 ≤ a1) = true := decide_eq_true c9
    clear c9
    by_cases c10 : a1 < (l0.length : Int)
    ·rw [if_pos c10] at H
     have c10b0 : decide (a1 < (l0.length : Int)) = true := decide_eq_true c10
     clear c10
     simp only [Option.some.injEq,Prod.mk.injEq] at H
     obtain ⟨rfl,rfl,rfl,rfl,rfl⟩ := H
     go_enter Try.func117,Try.ntmps117
     go_wp2_with (first | ((with_reducible refine q0q (N := 4) rfl ?_);(try (refine gate_guard (by rfl) ?_;dsimp only));refine q0o ?hg (N := 4) ?hd (cs := #[.int .i64 0,.bool false,.int .i64 0,.string (⟨#[]⟩ : ByteArray)]) (t := 66) ?hr ?_;(case hd => rfl);(case hg => rfl);(case hr => first | (go_simp;done) | (go_simp;rfl));intro gb189 hg w11 hbox hb;have n0_ := Aside0.mk (q0l (by repeat (first | (with_reducible first | exact HB.out | apply q0b | apply q0a | apply q0c) | exact HB.out)) hb);have n1_ := Aside0.mk (hbox);have n2_ := Aside0.mk ((by rw [hg];exact (q0j (by repeat (first | (with_reducible first | exact HB.out | apply q0b | apply q0a | apply q0c) | exact HB.out))) : w.heap.size ≤ gb189));have n3_ := Aside0.mk ((by rw [hg];exact (q0j (by repeat (first | (with_reducible first | exact HB.out | apply q0b | apply q0a | apply q0c) | exact HB.out))) : w.heap.size ≤ gb189));clear HB;have HB := n0_;have BK189 := n1_;have GW189 := n2_;have GE189 := n3_;clear n0_ n1_ n2_ n3_;clear hb hbox hg;have p190 : 0 ≤ (a1 : Int) := of_decide_eq_true (by first | (with_reducible assumption) | assumption);have q190 : a1 < (l0.length : Int) := of_decide_eq_true (by first | (with_reducible assumption) | assumption);obtain ⟨ad190,e190,hx190_0,hx190_1,hx190_2,hx190_3⟩ := at_T66 HR0.out a1 p190 q190;cases e190;replace hx190_0 := (HB.out.cell (World.block_lt_of_cell? w _ hx190_0)).trans hx190_0;replace hx190_1 := (HB.out.cell (World.block_lt_of_cell? w _ hx190_1)).trans hx190_1;replace hx190_2 := (HB.out.cell (World.block_lt_of_cell? w _ hx190_2)).trans hx190_2;replace hx190_3 := (HB.out.cell (World.block_lt_of_cell? w _ hx190_3)).trans hx190_3;replace p190 := eq_true p190;replace q190 := eq_true q190;have hcz12_0 : w11.cell? ⟨gb189,0,none⟩ = some (.int .i64 0) := (q0e BK189.out 0).trans rfl;have hcz12_1 : w11.cell? ⟨gb189,1,none⟩ = some (.bool false) := (q0e BK189.out 1).trans rfl;have hcz12_2 : w11.cell? ⟨gb189,2,none⟩ = some (.int .i64 0) := (q0e BK189.out 2).trans rfl;have hcz12_3 : w11.cell? ⟨gb189,3,none⟩ = some (.string (⟨#[]⟩ : ByteArray)) := (q0e BK189.out 3).trans rfl;have hfz12_0 := q0d BK189.out 0;have hfz12_1 := q0d BK189.out 1;have hfz12_2 := q0d BK189.out 2;have hfz12_3 := q0d BK189.out 3))
     refine bodyPost_ret (results_ct rfl _ _ gb189 66 #[.int .i64 ((q0k l0 a1).f0),.bool ((q0k l0 a1).f1),.int .i64 ((q0k l0 a1).f2),.string ((q0k l0 a1).f3)] (0,0) _ rfl (by (with_reducible repeat (first | refine q0g ?_ _ | refine q0h ?_ | refine q0f ?_ _));refine q0r (cs := #[.int .i64 ((q0k l0 a1).f0),.bool ((q0k l0 a1).f1),.int .i64 ((q0k l0 a1).f2),.string (⟨#[]⟩ : ByteArray)]) ?_ 3 _ rfl;(with_reducible repeat (first | refine q0g ?_ _ | refine q0h ?_ | refine q0f ?_ _));refine q0r (cs := #[.int .i64 ((q0k l0 a1).f0),.bool ((q0k l0 a1).f1),.int .i64 0,.string (⟨#[]⟩ : ByteArray)]) ?_ 2 _ rfl;(with_reducible repeat (first | refine q0g ?_ _ | refine q0h ?_ | refine q0f ?_ _));refine q0r (cs := #[.int .i64 ((q0k l0 a1).f0),.bool false,.int .i64 0,.string (⟨#[]⟩ : ByteArray)]) ?_ 1 _ rfl;(with_reducible repeat (first | refine q0g ?_ _ | refine q0h ?_ | refine q0f ?_ _));refine q0r (cs := #[.int .i64 0,.bool false,.int .i64 0,.string (⟨#[]⟩ : ByteArray)]) ?_ 0 _ rfl;(with_reducible repeat (first | refine q0g ?_ _ | refine q0h ?_ | refine q0f ?_ _));exact BK189.out) Try.underlying66 rfl (by kernel_rfl)) rfl ?_
     exact ⟨by first | rfl | (simp [q0m,q0n] <;> rfl) | (simp [*,q0m,q0n] <;> rfl),by repeat (first | (with_reducible first | exact HB.out | apply q0b | apply q0a | apply q0c | refine q0i ?_ GE189.out) | exact HB.out)⟩
    ·rw [if_neg c10] at H
     exact absurd H (by simp)
   ·rw [if_neg c9] at H
    exact absurd H (by simp)
end Go.Proofs.Ythmbfcfomcaaaaa.Z
end
section
namespace Go.Proofs.Ythmbfcfomcaaaaa.Z
open Go.RowKit Go.Proofs.YthmbfcfomcaaaaaW.PrintWords Go.Proofs.YthmbfcfomcaaaaaW.PrintLast Go.Proofs.YthmbfcfomcaaaaaW.PrintMore
attribute [local go_sem] max2_int min2_int max_two min_two max_three min_three max_four min_four
set_option linter.unusedVariables false
set_option linter.unusedSimpArgs false
def eval_holds.j0 : Nat → List (S66) → Bool → Bool → Int → Int → Int → Int → Bool → Int → ByteArray → Int → Bool → Int → ByteArray → Int → Bool → Int → ByteArray → Option (Bool)
 | 0,_,_,_,_,_,_,_,_,_,_,_,_,_,_,_,_,_,_ => none
 | k + 1,x0,x6,x22,x195000,x195001,x195002,x195003,x195004,x195005,x195006,x201000,x201001,x201002,x201003,x202000,x202001,x202002,x202003 => if x22 = true then ((eval_cell.f x0 x195002).bind fun bt202 => (if bt202.2.2.2.2 = true then ((value_Test.f x195001 x201000 x201001 x201002 x201003 bt202.1 bt202.2.1 bt202.2.2.1 bt202.2.2.2.1).bind fun t207 => (some t207)) else (some false))) else (if x6 = true then ((value_Test.f x195001 x201000 x201001 x201002 x201003 x202000 x202001 x202002 x202003).bind fun t208 => (some t208)) else (some false))
def eval_holds.f (k : Nat) (l0 : List (S66)) (a1_0 : Int) (a1_1 : Int) (a1_2 : Int) (a1_3 : Int) (a1_4 : Bool) (a1_5 : Int) (a1_6 : ByteArray) : Option (Bool) := (eval_cell.f l0 a1_0).bind fun bt195 => (if bt195.2.2.2.2 = true then (eval_holds.j0 k l0 bt195.2.2.2.2 (decide (a1_2 ≥ 0)) a1_0 a1_1 a1_2 a1_3 a1_4 a1_5 a1_6 bt195.1 bt195.2.1 bt195.2.2.1 bt195.2.2.2.1 a1_3 a1_4 a1_5 a1_6) else (eval_holds.j0 k l0 bt195.2.2.2.2 false a1_0 a1_1 a1_2 a1_3 a1_4 a1_5 a1_6 bt195.1 bt195.2.1 bt195.2.2.1 bt195.2.2.2.1 a1_3 a1_4 a1_5 a1_6))
theorem eval_holds.mono_l : ∀ k,(∀ y0 y1 y2 y3 y4 y5 y6 y7 y8 y9 y10 y11 y12 y13 y14 y15 y16 y17,LeO (eval_holds.j0 k y0 y1 y2 y3 y4 y5 y6 y7 y8 y9 y10 y11 y12 y13 y14 y15 y16 y17) (eval_holds.j0 (k + 1) y0 y1 y2 y3 y4 y5 y6 y7 y8 y9 y10 y11 y12 y13 y14 y15 y16 y17))
 | 0 => fun _ _ _ _ _ _ _ _ _ _ _ _ _ _ _ _ _ _ r h => by simp [eval_holds.j0] at h
 | k + 1 => by
  have ih0 := eval_holds.mono_l k
  ·intro y0 y1 y2 y3 y4 y5 y6 y7 y8 y9 y10 y11 y12 y13 y14 y15 y16 y17
   unfold eval_holds.j0
   repeat' first
   | (with_reducible exact ih0 _ _ _ _ _ _ _ _ _ _ _ _ _ _ _ _ _ _)
   | (with_reducible exact LeO.refl _)
   | (with_reducible exact LeO.none _)
   | (with_reducible refine LeO.ite ?_ ?_)
   | (with_reducible refine LeO.bind ?_ (fun _ => ?_))
   | exact ih0 _ _ _ _ _ _ _ _ _ _ _ _ _ _ _ _ _ _
   | exact LeO.none _
   | refine LeO.ite ?_ ?_
   | refine LeO.bind ?_ (fun _ => ?_)
theorem eval_holds.mono : ∀ a0 a1 a2 a3 a4 a5 a6 a7 k,LeO (eval_holds.f k a0 a1 a2 a3 a4 a5 a6 a7) (eval_holds.f (k + 1) a0 a1 a2 a3 a4 a5 a6 a7) := by
 intro a0 a1 a2 a3 a4 a5 a6 a7 k
 have ih0 := eval_holds.mono_l k
 unfold eval_holds.f
 repeat' first
   | (with_reducible exact ih0 _ _ _ _ _ _ _ _ _ _ _ _ _ _ _ _ _ _)
   | (with_reducible exact LeO.refl _)
   | (with_reducible exact LeO.none _)
   | (with_reducible refine LeO.ite ?_ ?_)
   | (with_reducible refine LeO.bind ?_ (fun _ => ?_))
   | exact ih0 _ _ _ _ _ _ _ _ _ _ _ _ _ _ _ _ _ _
   | exact LeO.none _
   | refine LeO.ite ?_ ?_
   | refine LeO.bind ?_ (fun _ => ?_)
set_option maxHeartbeats 8000000 in
set_option maxRecDepth 100000 in
theorem eval_holds.calls (k : Nat) (A0 : Option Addr) (c0 : Nat) (l0 : List (S66)) (a1_0 : Int) (a1_1 : Int) (a1_2 : Int) (a1_3 : Int) (a1_4 : Bool) (a1_5 : Int) (a1_6 : ByteArray) (r : Bool) (w : World) (hr0 : Kd.C k66 w A0 l0.length l0) (hc0 : l0.length ≤ c0) (h : eval_holds.f k l0 a1_0 a1_1 a1_2 a1_3 a1_4 a1_5 a1_6 = some r) :
  Calls Try.prog 102 #[.slice A0 l0.length c0,.agg #[.int .i64 a1_0,.int .i64 a1_1,.int .i64 a1_2,.int .i64 a1_3,.bool a1_4,.int .i64 a1_5,.string a1_6]] w fun e w' => e = .returned (.bool r) ∧ Below w.heap.size w w' := by
 have hu130 := Try.underlying130
 have hu66 := Try.underlying66
 have HR0 := Aside0.mk hr0
 have HC0 := Aside0.mk hc0
 clear hr0 hc0
 have HB := Aside0.mk (Below.refl w.heap.size w)
 have H : ((eval_cell.f l0 a1_0).bind fun bt195 => (if bt195.2.2.2.2 = true then (eval_holds.j0 k l0 bt195.2.2.2.2 (decide (a1_2 ≥ 0)) a1_0 a1_1 a1_2 a1_3 a1_4 a1_5 a1_6 bt195.1 bt195.2.1 bt195.2.2.1 bt195.2.2.2.1 a1_3 a1_4 a1_5 a1_6) else (eval_holds.j0 k l0 bt195.2.2.2.2 false a1_0 a1_1 a1_2 a1_3 a1_4 a1_5 a1_6 bt195.1 bt195.2.1 bt195.2.2.1 bt195.2.2.2.1 a1_3 a1_4 a1_5 a1_6))) = some r := h
 clear h
 replace H := Option.bind_eq_some_iff.mp H
 obtain ⟨⟨t195,t196,t197,t198,t199⟩,A30,H⟩ := H
 replace H : (if t199 = true then (eval_holds.j0 k l0 t199 (decide (a1_2 ≥ 0)) a1_0 a1_1 a1_2 a1_3 a1_4 a1_5 a1_6 t195 t196 t197 t198 a1_3 a1_4 a1_5 a1_6) else (eval_holds.j0 k l0 t199 false a1_0 a1_1 a1_2 a1_3 a1_4 a1_5 a1_6 t195 t196 t197 t198 a1_3 a1_4 a1_5 a1_6)) = some r := H
 have A3 := Aside0.mk A30
 clear A30
 have HC4 := Aside0.mk H
 clear H
 go_enter Try.func102,Try.ntmps102
 go_upto_region 3 with (first | ((with_reducible refine q0q (N := 3) rfl ?_);refine q0o ?hg (N := 3) ?hd (cs := #[.int .i64 a1_0,.int .i64 a1_1,.int .i64 a1_2,.int .i64 a1_3,.bool a1_4,.int .i64 a1_5,.string a1_6]) (t := 130) ?hr ?_;(case hd => rfl);(case hg => rfl);(case hr => first | (go_simp;done) | (go_simp;rfl));intro gb194 hg w5 hbox hb;have n0_ := Aside0.mk (q0l (by repeat (first | (with_reducible first | exact HB.out | apply q0b | apply q0a | apply q0c) | exact HB.out)) hb);have n1_ := Aside0.mk (hbox);have n2_ := Aside0.mk ((by rw [hg];exact (q0j (by repeat (first | (with_reducible first | exact HB.out | apply q0b | apply q0a | apply q0c) | exact HB.out))) : w.heap.size ≤ gb194));have n3_ := Aside0.mk ((by rw [hg];exact (q0j (by repeat (first | (with_reducible first | exact HB.out | apply q0b | apply q0a | apply q0c) | exact HB.out))) : w.heap.size ≤ gb194));clear HB;have HB := n0_;have BK194 := n1_;have GW194 := n2_;have GE194 := n3_;clear n0_ n1_ n2_ n3_;clear hb hbox hg;have hcz6_0 : w5.cell? ⟨gb194,0,none⟩ = some (.int .i64 a1_0) := (q0e BK194.out 0).trans rfl;have hcz6_1 : w5.cell? ⟨gb194,1,none⟩ = some (.int .i64 a1_1) := (q0e BK194.out 1).trans rfl;have hcz6_2 : w5.cell? ⟨gb194,2,none⟩ = some (.int .i64 a1_2) := (q0e BK194.out 2).trans rfl;have hcz6_3 : w5.cell? ⟨gb194,3,none⟩ = some (.int .i64 a1_3) := (q0e BK194.out 3).trans rfl;have hcz6_4 : w5.cell? ⟨gb194,4,none⟩ = some (.bool a1_4) := (q0e BK194.out 4).trans rfl;have hcz6_5 : w5.cell? ⟨gb194,5,none⟩ = some (.int .i64 a1_5) := (q0e BK194.out 5).trans rfl;have hcz6_6 : w5.cell? ⟨gb194,6,none⟩ = some (.string a1_6) := (q0e BK194.out 6).trans rfl;have hfz6_0 := q0d BK194.out 0;have hfz6_1 := q0d BK194.out 1;have hfz6_2 := q0d BK194.out 2;have hfz6_3 := q0d BK194.out 3;have hfz6_4 := q0d BK194.out 4;have hfz6_5 := q0d BK194.out 5;have hfz6_6 := q0d BK194.out 6) | ((with_reducible refine q0v (f := 117) rfl ?_);refine goesL_ (some 12) rfl rfl Try.func117 (by kernel_rfl) rfl #[.slice A0 l0.length c0,.int .i64 a1_0] rfl (by (try simp only [List.map_toArray,List.map_cons,List.map_nil]);first | done | rfl | (simp only [List.length_drop,List.length_take];rfl)) ?_;(with_reducible refine (eval_cell.calls _ _ l0 a1_0 t195 t196 t197 t198 t199 _ ?side1 ?side2 A3.out).mono ?_);(case side1 => repeat (first | exact (Kd.C_below HR0.out HB.out) | (with_reducible refine Kd.C_alloc ?_ _) | (with_reducible refine Kd.C_drewN ?_ _) | (with_reducible refine Kd.C_drew ?_)));(case side2 => exact HC0.out);rintro e w7 ⟨rfl,hb⟩;refine ⟨_,rfl,?_⟩;have n0_ := Aside0.mk (q0p (g := gb194) (o := .cells #[.int .i64 a1_0,.int .i64 a1_1,.int .i64 a1_2,.int .i64 a1_3,.bool a1_4,.int .i64 a1_5,.string a1_6] 130 (0,0)) (by (with_reducible repeat (first | refine q0g ?_ _ | refine q0h ?_ | refine q0f ?_ _));exact BK194.out) hb);have n1_ := Aside0.mk (q0l (by repeat (first | (with_reducible first | exact HB.out | apply q0b | apply q0a | apply q0c | refine q0i ?_ GE194.out) | exact HB.out)) hb);clear BK194;clear HB;have BK194 := n0_;have HB := n1_;clear n0_ n1_;(try clear hb);(try clear hb2);(try clear hk);(try clear hi)) | ((with_reducible refine q0q (N := 5) rfl ?_);refine q0o ?hg (N := 5) ?hd (cs := #[.int .i64 0,.bool false,.int .i64 0,.string (⟨#[]⟩ : ByteArray)]) (t := 66) ?hr ?_;(case hd => rfl);(case hg => rfl);(case hr => first | (go_simp;done) | (go_simp;rfl));intro gb200 hg w8 hbox hb;have n0_ := Aside0.mk (q0p (g := gb194) (o := .cells #[.int .i64 a1_0,.int .i64 a1_1,.int .i64 a1_2,.int .i64 a1_3,.bool a1_4,.int .i64 a1_5,.string a1_6] 130 (0,0)) (by (with_reducible repeat (first | refine q0g ?_ _ | refine q0h ?_ | refine q0f ?_ _));exact BK194.out) hb);have n1_ := Aside0.mk (q0l (by repeat (first | (with_reducible first | exact HB.out | apply q0b | apply q0a | apply q0c | refine q0i ?_ GE194.out) | exact HB.out)) hb);have n2_ := Aside0.mk (hbox);have n3_ := Aside0.mk ((by rw [hg];exact (q0j (by repeat (first | (with_reducible first | exact HB.out | apply q0b | apply q0a | apply q0c | refine q0i ?_ GE194.out) | exact HB.out))) : w.heap.size ≤ gb200));have n4_ := Aside0.mk ((by rw [hg];exact (q0j (by repeat (first | (with_reducible first | exact HB.out | apply q0b | apply q0a | apply q0c | refine q0i ?_ GE194.out) | exact HB.out))) : w.heap.size ≤ gb200));have n5_ := Aside0.mk ((by rw [hg];exact Nat.ne_of_lt (q0t (g := gb194) (o := .cells #[.int .i64 a1_0,.int .i64 a1_1,.int .i64 a1_2,.int .i64 a1_3,.bool a1_4,.int .i64 a1_5,.string a1_6] 130 (0,0)) (by (with_reducible repeat (first | refine q0g ?_ _ | refine q0h ?_ | refine q0f ?_ _));exact BK194.out)) : gb194 ≠ gb200));have n6_ := Aside0.mk ((by rw [hg];exact Nat.ne_of_gt (q0t (g := gb194) (o := .cells #[.int .i64 a1_0,.int .i64 a1_1,.int .i64 a1_2,.int .i64 a1_3,.bool a1_4,.int .i64 a1_5,.string a1_6] 130 (0,0)) (by (with_reducible repeat (first | refine q0g ?_ _ | refine q0h ?_ | refine q0f ?_ _));exact BK194.out)) : gb200 ≠ gb194));clear BK194;clear HB;have BK194 := n0_;have HB := n1_;have BK200 := n2_;have GW200 := n3_;have GE200 := n4_;have NB194_200 := n5_;have NB200_194 := n6_;clear n0_ n1_ n2_ n3_ n4_ n5_ n6_;clear hb hbox hg;have hnb9 := NB200_194.out;have hnc9 := NB194_200.out;have hcz10_0 : w8.cell? ⟨gb200,0,none⟩ = some (.int .i64 0) := (q0e BK200.out 0).trans rfl;have hcz10_1 : w8.cell? ⟨gb200,1,none⟩ = some (.bool false) := (q0e BK200.out 1).trans rfl;have hcz10_2 : w8.cell? ⟨gb200,2,none⟩ = some (.int .i64 0) := (q0e BK200.out 2).trans rfl;have hcz10_3 : w8.cell? ⟨gb200,3,none⟩ = some (.string (⟨#[]⟩ : ByteArray)) := (q0e BK200.out 3).trans rfl;have hfz10_0 := q0d BK200.out 0;have hfz10_1 := q0d BK200.out 1;have hfz10_2 := q0d BK200.out 2;have hfz10_3 := q0d BK200.out 3;have hcz11_0 : w8.cell? ⟨gb194,0,none⟩ = some (.int .i64 a1_0) := (q0e BK194.out 0).trans rfl;have hcz11_1 : w8.cell? ⟨gb194,1,none⟩ = some (.int .i64 a1_1) := (q0e BK194.out 1).trans rfl;have hcz11_2 : w8.cell? ⟨gb194,2,none⟩ = some (.int .i64 a1_2) := (q0e BK194.out 2).trans rfl;have hcz11_3 : w8.cell? ⟨gb194,3,none⟩ = some (.int .i64 a1_3) := (q0e BK194.out 3).trans rfl;have hcz11_4 : w8.cell? ⟨gb194,4,none⟩ = some (.bool a1_4) := (q0e BK194.out 4).trans rfl;have hcz11_5 : w8.cell? ⟨gb194,5,none⟩ = some (.int .i64 a1_5) := (q0e BK194.out 5).trans rfl;have hcz11_6 : w8.cell? ⟨gb194,6,none⟩ = some (.string a1_6) := (q0e BK194.out 6).trans rfl;have hfz11_0 := q0d BK194.out 0;have hfz11_1 := q0d BK194.out 1;have hfz11_2 := q0d BK194.out 2;have hfz11_3 := q0d BK194.out 3;have hfz11_4 := q0d BK194.out 4;have hfz11_5 := q0d BK194.out 5;have hfz11_6 := q0d BK194.out 6) | ((with_reducible refine q0q (N := 7) rfl ?_);refine q0o ?hg (N := 7) ?hd (cs := #[.int .i64 0,.bool false,.int .i64 0,.string (⟨#[]⟩ : ByteArray)]) (t := 66) ?hr ?_;(case hd => rfl);(case hg => rfl);(case hr => first | (go_simp;done) | (go_simp;rfl));intro gb201 hg w12 hbox hb;have n0_ := Aside0.mk (q0p (g := gb194) (o := .cells #[.int .i64 a1_0,.int .i64 a1_1,.int .i64 a1_2,.int .i64 a1_3,.bool a1_4,.int .i64 a1_5,.string a1_6] 130 (0,0)) (by (with_reducible repeat (first | refine q0g ?_ _ | refine q0h ?_ | refine q0f ?_ _));refine blk_far ?_ NB194_200.out _;(with_reducible repeat (first | refine q0g ?_ _ | refine q0h ?_ | refine q0f ?_ _));refine blk_far ?_ NB194_200.out _;(with_reducible repeat (first | refine q0g ?_ _ | refine q0h ?_ | refine q0f ?_ _));refine blk_far ?_ NB194_200.out _;(with_reducible repeat (first | refine q0g ?_ _ | refine q0h ?_ | refine q0f ?_ _));refine blk_far ?_ NB194_200.out _;(with_reducible repeat (first | refine q0g ?_ _ | refine q0h ?_ | refine q0f ?_ _));exact BK194.out) hb);have n1_ := Aside0.mk (q0p (g := gb200) (o := .cells #[.int .i64 t195,.bool t196,.int .i64 t197,.string t198] 66 (0,0)) (by (with_reducible repeat (first | refine q0g ?_ _ | refine q0h ?_ | refine q0f ?_ _));refine q0r (cs := #[.int .i64 t195,.bool t196,.int .i64 t197,.string (⟨#[]⟩ : ByteArray)]) ?_ 3 _ rfl;(with_reducible repeat (first | refine q0g ?_ _ | refine q0h ?_ | refine q0f ?_ _));refine q0r (cs := #[.int .i64 t195,.bool t196,.int .i64 0,.string (⟨#[]⟩ : ByteArray)]) ?_ 2 _ rfl;(with_reducible repeat (first | refine q0g ?_ _ | refine q0h ?_ | refine q0f ?_ _));refine q0r (cs := #[.int .i64 t195,.bool false,.int .i64 0,.string (⟨#[]⟩ : ByteArray)]) ?_ 1 _ rfl;(with_reducible repeat (first | refine q0g ?_ _ | refine q0h ?_ | refine q0f ?_ _));refine q0r (cs := #[.int .i64 0,.bool false,.int .i64 0,.string (⟨#[]⟩ : ByteArray)]) ?_ 0 _ rfl;(with_reducible repeat (first | refine q0g ?_ _ | refine q0h ?_ | refine q0f ?_ _));exact BK200.out) hb);have n2_ := Aside0.mk (q0l (by repeat (first | (with_reducible first | exact HB.out | apply q0b | apply q0a | apply q0c | refine q0i ?_ GE194.out | refine q0i ?_ GE200.out) | exact HB.out)) hb);have n3_ := Aside0.mk (hbox);have n4_ := Aside0.mk ((by rw [hg];exact (q0j (by repeat (first | (with_reducible first | exact HB.out | apply q0b | apply q0a | apply q0c | refine q0i ?_ GE194.out | refine q0i ?_ GE200.out) | exact HB.out))) : w.heap.size ≤ gb201));have n5_ := Aside0.mk ((by rw [hg];exact (q0j (by repeat (first | (with_reducible first | exact HB.out | apply q0b | apply q0a | apply q0c | refine q0i ?_ GE194.out | refine q0i ?_ GE200.out) | exact HB.out))) : w.heap.size ≤ gb201));have n6_ := Aside0.mk ((by rw [hg];exact Nat.ne_of_lt (q0t (g := gb194) (o := .cells #[.int .i64 a1_0,.int .i64 a1_1,.int .i64 a1_2,.int .i64 a1_3,.bool a1_4,.int .i64 a1_5,.string a1_6] 130 (0,0)) (by (with_reducible repeat (first | refine q0g ?_ _ | refine q0h ?_ | refine q0f ?_ _));refine blk_far ?_ NB194_200.out _;(with_reducible repeat (first | refine q0g ?_ _ | refine q0h ?_ | refine q0f ?_ _));refine blk_far ?_ NB194_200.out _;(with_reducible repeat (first | refine q0g ?_ _ | refine q0h ?_ | refine q0f ?_ _));refine blk_far ?_ NB194_200.out _;(with_reducible repeat (first | refine q0g ?_ _ | refine q0h ?_ | refine q0f ?_ _));refine blk_far ?_ NB194_200.out _;(with_reducible repeat (first | refine q0g ?_ _ | refine q0h ?_ | refine q0f ?_ _));exact BK194.out)) : gb194 ≠ gb201));have n7_ := Aside0.mk ((by rw [hg];exact Nat.ne_of_gt (q0t (g := gb194) (o := .cells #[.int .i64 a1_0,.int .i64 a1_1,.int .i64 a1_2,.int .i64 a1_3,.bool a1_4,.int .i64 a1_5,.string a1_6] 130 (0,0)) (by (with_reducible repeat (first | refine q0g ?_ _ | refine q0h ?_ | refine q0f ?_ _));refine blk_far ?_ NB194_200.out _;(with_reducible repeat (first | refine q0g ?_ _ | refine q0h ?_ | refine q0f ?_ _));refine blk_far ?_ NB194_200.out _;(with_reducible repeat (first | refine q0g ?_ _ | refine q0h ?_ | refine q0f ?_ _));refine blk_far ?_ NB194_200.out _;(with_reducible repeat (first | refine q0g ?_ _ | refine q0h ?_ | refine q0f ?_ _));refine blk_far ?_ NB194_200.out _;(with_reducible repeat (first | refine q0g ?_ _ | refine q0h ?_ | refine q0f ?_ _));exact BK194.out)) : gb201 ≠ gb194));have n8_ := Aside0.mk ((by rw [hg];exact Nat.ne_of_lt (q0t (g := gb200) (o := .cells #[.int .i64 t195,.bool t196,.int .i64 t197,.string t198] 66 (0,0)) (by (with_reducible repeat (first | refine q0g ?_ _ | refine q0h ?_ | refine q0f ?_ _));refine q0r (cs := #[.int .i64 t195,.bool t196,.int .i64 t197,.string (⟨#[]⟩ : ByteArray)]) ?_ 3 _ rfl;(with_reducible repeat (first | refine q0g ?_ _ | refine q0h ?_ | refine q0f ?_ _));refine q0r (cs := #[.int .i64 t195,.bool t196,.int .i64 0,.string (⟨#[]⟩ : ByteArray)]) ?_ 2 _ rfl;(with_reducible repeat (first | refine q0g ?_ _ | refine q0h ?_ | refine q0f ?_ _));refine q0r (cs := #[.int .i64 t195,.bool false,.int .i64 0,.string (⟨#[]⟩ : ByteArray)]) ?_ 1 _ rfl;(with_reducible repeat (first | refine q0g ?_ _ | refine q0h ?_ | refine q0f ?_ _));refine q0r (cs := #[.int .i64 0,.bool false,.int .i64 0,.string (⟨#[]⟩ : ByteArray)]) ?_ 0 _ rfl;(with_reducible repeat (first | refine q0g ?_ _ | refine q0h ?_ | refine q0f ?_ _));exact BK200.out)) : gb200 ≠ gb201));have n9_ := Aside0.mk ((by rw [hg];exact Nat.ne_of_gt (q0t (g := gb200) (o := .cells #[.int .i64 t195,.bool t196,.int .i64 t197,.string t198] 66 (0,0)) (by (with_reducible repeat (first | refine q0g ?_ _ | refine q0h ?_ | refine q0f ?_ _));refine q0r (cs := #[.int .i64 t195,.bool t196,.int .i64 t197,.string (⟨#[]⟩ : ByteArray)]) ?_ 3 _ rfl;(with_reducible repeat (first | refine q0g ?_ _ | refine q0h ?_ | refine q0f ?_ _));refine q0r (cs := #[.int .i64 t195,.bool t196,.int .i64 0,.string (⟨#[]⟩ : ByteArray)]) ?_ 2 _ rfl;(with_reducible repeat (first | refine q0g ?_ _ | refine q0h ?_ | refine q0f ?_ _));refine q0r (cs := #[.int .i64 t195,.bool false,.int .i64 0,.string (⟨#[]⟩ : ByteArray)]) ?_ 1 _ rfl;(with_reducible repeat (first | refine q0g ?_ _ | refine q0h ?_ | refine q0f ?_ _));refine q0r (cs := #[.int .i64 0,.bool false,.int .i64 0,.string (⟨#[]⟩ : ByteArray)]) ?_ 0 _ rfl;(with_reducible repeat (first | refine q0g ?_ _ | refine q0h ?_ | refine q0f ?_ _));exact BK200.out)) : gb201 ≠ gb200));clear BK194;clear BK200;clear HB;have BK194 := n0_;have BK200 := n1_;have HB := n2_;have BK201 := n3_;have GW201 := n4_;have GE201 := n5_;have NB194_201 := n6_;have NB201_194 := n7_;have NB200_201 := n8_;have NB201_200 := n9_;clear n0_ n1_ n2_ n3_ n4_ n5_ n6_ n7_ n8_ n9_;clear hb hbox hg;have hnb13 := NB201_194.out;have hnc13 := NB194_201.out;have hnb14 := NB201_200.out;have hnc14 := NB200_201.out;have hcz15_0 : w12.cell? ⟨gb201,0,none⟩ = some (.int .i64 0) := (q0e BK201.out 0).trans rfl;have hcz15_1 : w12.cell? ⟨gb201,1,none⟩ = some (.bool false) := (q0e BK201.out 1).trans rfl;have hcz15_2 : w12.cell? ⟨gb201,2,none⟩ = some (.int .i64 0) := (q0e BK201.out 2).trans rfl;have hcz15_3 : w12.cell? ⟨gb201,3,none⟩ = some (.string (⟨#[]⟩ : ByteArray)) := (q0e BK201.out 3).trans rfl;have hfz15_0 := q0d BK201.out 0;have hfz15_1 := q0d BK201.out 1;have hfz15_2 := q0d BK201.out 2;have hfz15_3 := q0d BK201.out 3))
 (try simp only [Act.put,zA,zB,zC])
 go_cut [22] (fun v22 wc => ∃ (kq : Nat) (x22_3 : Bool),v22 = .bool x22_3 ∧ Aside0 (eval_holds.j0 kq l0 t199 x22_3 a1_0 a1_1 a1_2 a1_3 a1_4 a1_5 a1_6 t195 t196 t197 t198 a1_3 a1_4 a1_5 a1_6 = some r) ∧ Aside0 (kq ≤ k) ∧ Aside0 (wc.heap[gb194]? = some (.cells #[.int .i64 a1_0,.int .i64 a1_1,.int .i64 a1_2,.int .i64 a1_3,.bool a1_4,.int .i64 a1_5,.string a1_6] 130 (0,0))) ∧ Aside0 (wc.heap[gb200]? = some (.cells #[.int .i64 t195,.bool t196,.int .i64 t197,.string t198] 66 (0,0))) ∧ Aside0 (wc.heap[gb201]? = some (.cells #[.int .i64 a1_3,.bool a1_4,.int .i64 a1_5,.string a1_6] 66 (0,0))) ∧ Aside0 (Below w.heap.size w wc))
 case first =>
  have H := HC4.out
  clear HC4
  by_cases c16 : t199 = true
  ·subst c16
   have H1 : (eval_holds.j0 k l0 true (decide (a1_2 ≥ 0)) a1_0 a1_1 a1_2 a1_3 a1_4 a1_5 a1_6 t195 t196 t197 t198 a1_3 a1_4 a1_5 a1_6) = some r := by rw [if_pos rfl] at H;exact H
   clear H
   have H := H1
   clear H1
   have H' := Aside0.mk H
   clear H
   have hnb17 := NB194_200.out
   have hnc17 := NB200_194.out
   have hnb18 := NB194_201.out
   have hnc18 := NB201_194.out
   have hcz19_0 : w12.cell? ⟨gb194,0,none⟩ = some (.int .i64 a1_0) := (q0e BK194.out 0).trans rfl
   have hcz19_1 : w12.cell? ⟨gb194,1,none⟩ = some (.int .i64 a1_1) := (q0e BK194.out 1).trans rfl
   have hcz19_2 : w12.cell? ⟨gb194,2,none⟩ = some (.int .i64 a1_2) := (q0e BK194.out 2).trans rfl
   have hcz19_3 : w12.cell? ⟨gb194,3,none⟩ = some (.int .i64 a1_3) := (q0e BK194.out 3).trans rfl
   have hcz19_4 : w12.cell? ⟨gb194,4,none⟩ = some (.bool a1_4) := (q0e BK194.out 4).trans rfl
   have hcz19_5 : w12.cell? ⟨gb194,5,none⟩ = some (.int .i64 a1_5) := (q0e BK194.out 5).trans rfl
   have hcz19_6 : w12.cell? ⟨gb194,6,none⟩ = some (.string a1_6) := (q0e BK194.out 6).trans rfl
   have hfz19_0 := q0d BK194.out 0
   have hfz19_1 := q0d BK194.out 1
   have hfz19_2 := q0d BK194.out 2
   have hfz19_3 := q0d BK194.out 3
   have hfz19_4 := q0d BK194.out 4
   have hfz19_5 := q0d BK194.out 5
   have hfz19_6 := q0d BK194.out 6
   go_wp2
   go_meet
   case rel => exact ⟨_,(decide (a1_2 ≥ 0)),(by first | rfl | (simp;done) | (simp [*];done)),H',⟨by first | omega | exact Nat.le_refl _⟩,⟨by (with_reducible repeat (first | refine q0g ?_ _ | refine q0h ?_ | refine q0f ?_ _));refine blk_far ?_ NB194_201.out _;(with_reducible repeat (first | refine q0g ?_ _ | refine q0h ?_ | refine q0f ?_ _));refine blk_far ?_ NB194_201.out _;(with_reducible repeat (first | refine q0g ?_ _ | refine q0h ?_ | refine q0f ?_ _));refine blk_far ?_ NB194_201.out _;(with_reducible repeat (first | refine q0g ?_ _ | refine q0h ?_ | refine q0f ?_ _));refine blk_far ?_ NB194_201.out _;(with_reducible repeat (first | refine q0g ?_ _ | refine q0h ?_ | refine q0f ?_ _));exact BK194.out⟩,⟨by (with_reducible repeat (first | refine q0g ?_ _ | refine q0h ?_ | refine q0f ?_ _));refine blk_far ?_ NB200_201.out _;(with_reducible repeat (first | refine q0g ?_ _ | refine q0h ?_ | refine q0f ?_ _));refine blk_far ?_ NB200_201.out _;(with_reducible repeat (first | refine q0g ?_ _ | refine q0h ?_ | refine q0f ?_ _));refine blk_far ?_ NB200_201.out _;(with_reducible repeat (first | refine q0g ?_ _ | refine q0h ?_ | refine q0f ?_ _));refine blk_far ?_ NB200_201.out _;(with_reducible repeat (first | refine q0g ?_ _ | refine q0h ?_ | refine q0f ?_ _));exact BK200.out⟩,⟨by (with_reducible repeat (first | refine q0g ?_ _ | refine q0h ?_ | refine q0f ?_ _));refine q0r (cs := #[.int .i64 a1_3,.bool a1_4,.int .i64 a1_5,.string (⟨#[]⟩ : ByteArray)]) ?_ 3 _ rfl;(with_reducible repeat (first | refine q0g ?_ _ | refine q0h ?_ | refine q0f ?_ _));refine q0r (cs := #[.int .i64 a1_3,.bool a1_4,.int .i64 0,.string (⟨#[]⟩ : ByteArray)]) ?_ 2 _ rfl;(with_reducible repeat (first | refine q0g ?_ _ | refine q0h ?_ | refine q0f ?_ _));refine q0r (cs := #[.int .i64 a1_3,.bool false,.int .i64 0,.string (⟨#[]⟩ : ByteArray)]) ?_ 1 _ rfl;(with_reducible repeat (first | refine q0g ?_ _ | refine q0h ?_ | refine q0f ?_ _));refine q0r (cs := #[.int .i64 0,.bool false,.int .i64 0,.string (⟨#[]⟩ : ByteArray)]) ?_ 0 _ rfl;(with_reducible repeat (first | refine q0g ?_ _ | refine q0h ?_ | refine q0f ?_ _));exact BK201.out⟩,⟨by repeat (first | (with_reducible first | exact HB.out | apply q0b | apply q0a | apply q0c | refine q0i ?_ GE194.out | refine q0i ?_ GE200.out | refine q0i ?_ GE201.out) | exact HB.out)⟩⟩
  ·replace c16 := Bool.eq_false_iff.mpr c16
   subst c16
   have H1 : (eval_holds.j0 k l0 false false a1_0 a1_1 a1_2 a1_3 a1_4 a1_5 a1_6 t195 t196 t197 t198 a1_3 a1_4 a1_5 a1_6) = some r := by rw [if_neg (show ¬ (false = true) by decide)] at H;exact H
   clear H
   have H := H1
   clear H1
   have H' := Aside0.mk H
   clear H
   go_wp2
   go_meet
   case rel => exact ⟨_,(false),(by first | rfl | (simp;done) | (simp [*];done)),H',⟨by first | omega | exact Nat.le_refl _⟩,⟨by (with_reducible repeat (first | refine q0g ?_ _ | refine q0h ?_ | refine q0f ?_ _));refine blk_far ?_ NB194_201.out _;(with_reducible repeat (first | refine q0g ?_ _ | refine q0h ?_ | refine q0f ?_ _));refine blk_far ?_ NB194_201.out _;(with_reducible repeat (first | refine q0g ?_ _ | refine q0h ?_ | refine q0f ?_ _));refine blk_far ?_ NB194_201.out _;(with_reducible repeat (first | refine q0g ?_ _ | refine q0h ?_ | refine q0f ?_ _));refine blk_far ?_ NB194_201.out _;(with_reducible repeat (first | refine q0g ?_ _ | refine q0h ?_ | refine q0f ?_ _));exact BK194.out⟩,⟨by (with_reducible repeat (first | refine q0g ?_ _ | refine q0h ?_ | refine q0f ?_ _));refine blk_far ?_ NB200_201.out _;(with_reducible repeat (first | refine q0g ?_ _ | refine q0h ?_ | refine q0f ?_ _));refine blk_far ?_ NB200_201.out _;(with_reducible repeat (first | refine q0g ?_ _ | refine q0h ?_ | refine q0f ?_ _));refine blk_far ?_ NB200_201.out _;(with_reducible repeat (first | refine q0g ?_ _ | refine q0h ?_ | refine q0f ?_ _));refine blk_far ?_ NB200_201.out _;(with_reducible repeat (first | refine q0g ?_ _ | refine q0h ?_ | refine q0f ?_ _));exact BK200.out⟩,⟨by (with_reducible repeat (first | refine q0g ?_ _ | refine q0h ?_ | refine q0f ?_ _));refine q0r (cs := #[.int .i64 a1_3,.bool a1_4,.int .i64 a1_5,.string (⟨#[]⟩ : ByteArray)]) ?_ 3 _ rfl;(with_reducible repeat (first | refine q0g ?_ _ | refine q0h ?_ | refine q0f ?_ _));refine q0r (cs := #[.int .i64 a1_3,.bool a1_4,.int .i64 0,.string (⟨#[]⟩ : ByteArray)]) ?_ 2 _ rfl;(with_reducible repeat (first | refine q0g ?_ _ | refine q0h ?_ | refine q0f ?_ _));refine q0r (cs := #[.int .i64 a1_3,.bool false,.int .i64 0,.string (⟨#[]⟩ : ByteArray)]) ?_ 1 _ rfl;(with_reducible repeat (first | refine q0g ?_ _ | refine q0h ?_ | refine q0f ?_ _));refine q0r (cs := #[.int .i64 0,.bool false,.int .i64 0,.string (⟨#[]⟩ : ByteArray)]) ?_ 0 _ rfl;(with_reducible repeat (first | refine q0g ?_ _ | refine q0h ?_ | refine q0f ?_ _));exact BK201.out⟩,⟨by repeat (first | (with_reducible first | exact HB.out | apply q0b | apply q0a | apply q0c | refine q0i ?_ GE194.out | refine q0i ?_ GE200.out | refine q0i ?_ GE201.out) | exact HB.out)⟩⟩
 case rest =>
  clear HC4
  try clear c1
  try clear p2
  try clear c9
  try clear c10
  try clear c11
  try clear c13
  try clear c14
  try clear c16
  try clear c17
  try clear c18
  try clear hcz10_0
  try clear hcz10_1
  try clear hcz10_2
  try clear hcz10_3
  try clear hcz11_0
  try clear hcz11_1
  try clear hcz11_2
  try clear hcz11_3
  try clear hcz11_4
  try clear hcz11_5
  try clear hcz11_6
  try clear hcz15_0
  try clear hcz15_1
  try clear hcz15_2
  try clear hcz15_3
  try clear hcz19_0
  try clear hcz19_1
  try clear hcz19_2
  try clear hcz19_3
  try clear hcz19_4
  try clear hcz19_5
  try clear hcz19_6
  try clear hcz6_0
  try clear hcz6_1
  try clear hcz6_2
  try clear hcz6_3
  try clear hcz6_4
  try clear hcz6_5
  try clear hcz6_6
  try clear hfz10_0
  try clear hfz10_1
  try clear hfz10_2
  try clear hfz10_3
  try clear hfz11_0
  try clear hfz11_1
  try clear hfz11_2
  try clear hfz11_3
  try clear hfz11_4
  try clear hfz11_5
  try clear hfz11_6
  try clear hfz15_0
  try clear hfz15_1
  try clear hfz15_2
  try clear hfz15_3
  try clear hfz19_0
  try clear hfz19_1
  try clear hfz19_2
  try clear hfz19_3
  try clear hfz19_4
  try clear hfz19_5
  try clear hfz19_6
  try clear hfz6_0
  try clear hfz6_1
  try clear hfz6_2
  try clear hfz6_3
  try clear hfz6_4
  try clear hfz6_5
  try clear hfz6_6
  obtain ⟨kq,x22_3,rfl,HA,HJ3,BK194,BK200,BK201,HB⟩ := hcut
  cases kq with
  | zero => exact absurd HA.out (by simp [eval_holds.j0])
  | succ kj3 =>
   have H := HA.out
   clear HA
   simp only [eval_holds.j0] at H
   by_cases c20 : x22_3 = true
   ·subst c20
    have H1 : ((eval_cell.f l0 a1_2).bind fun bt202 => (if bt202.2.2.2.2 = true then ((value_Test.f a1_1 t195 t196 t197 t198 bt202.1 bt202.2.1 bt202.2.2.1 bt202.2.2.2.1).bind fun t207 => (some t207)) else (some false))) = some r := by rw [if_pos rfl] at H;exact H
    clear H
    have H := H1
    clear H1
    replace H := Option.bind_eq_some_iff.mp H
    obtain ⟨⟨t202,t203,t204,t205,t206⟩,A210,H⟩ := H
    replace H : (if t206 = true then ((value_Test.f a1_1 t195 t196 t197 t198 t202 t203 t204 t205).bind fun t207 => (some t207)) else (some false)) = some r := H
    have A21 := Aside0.mk A210
    clear A210
    by_cases c22 : t206 = true
    ·subst c22
     have H1 : ((value_Test.f a1_1 t195 t196 t197 t198 t202 t203 t204 t205).bind fun t207 => (some t207)) = some r := by rw [if_pos rfl] at H;exact H
     clear H
     have H := H1
     clear H1
     replace H := Option.bind_eq_some_iff.mp H
     obtain ⟨t207,A230,H⟩ := H
     replace H : (some t207) = some r := H
     have A23 := Aside0.mk A230
     clear A230
     obtain rfl := Option.some.inj H
     have hnb24 := NB194_200.out
     have hnc24 := NB200_194.out
     have hnb25 := NB194_201.out
     have hnc25 := NB201_194.out
     have hcz26_0 : wc.cell? ⟨gb194,0,none⟩ = some (.int .i64 a1_0) := (q0e BK194.out 0).trans rfl
     have hcz26_1 : wc.cell? ⟨gb194,1,none⟩ = some (.int .i64 a1_1) := (q0e BK194.out 1).trans rfl
     have hcz26_2 : wc.cell? ⟨gb194,2,none⟩ = some (.int .i64 a1_2) := (q0e BK194.out 2).trans rfl
     have hcz26_3 : wc.cell? ⟨gb194,3,none⟩ = some (.int .i64 a1_3) := (q0e BK194.out 3).trans rfl
     have hcz26_4 : wc.cell? ⟨gb194,4,none⟩ = some (.bool a1_4) := (q0e BK194.out 4).trans rfl
     have hcz26_5 : wc.cell? ⟨gb194,5,none⟩ = some (.int .i64 a1_5) := (q0e BK194.out 5).trans rfl
     have hcz26_6 : wc.cell? ⟨gb194,6,none⟩ = some (.string a1_6) := (q0e BK194.out 6).trans rfl
     have hfz26_0 := q0d BK194.out 0
     have hfz26_1 := q0d BK194.out 1
     have hfz26_2 := q0d BK194.out 2
     have hfz26_3 := q0d BK194.out 3
     have hfz26_4 := q0d BK194.out 4
     have hfz26_5 := q0d BK194.out 5
     have hfz26_6 := q0d BK194.out 6
     go_wp2_with (first | ((with_reducible refine q0v (f := 117) rfl ?_);refine goesL_ (some 27) rfl rfl Try.func117 (by kernel_rfl) rfl #[.slice A0 l0.length c0,.int .i64 a1_2] rfl (by (try simp only [List.map_toArray,List.map_cons,List.map_nil]);first | done | rfl | (simp only [List.length_drop,List.length_take];rfl)) ?_;(with_reducible refine (eval_cell.calls _ _ l0 a1_2 t202 t203 t204 t205 true _ ?side1 ?side2 A21.out).mono ?_);(case side1 => repeat (first | exact (Kd.C_below HR0.out HB.out) | (with_reducible refine Kd.C_alloc ?_ _) | (with_reducible refine Kd.C_drewN ?_ _) | (with_reducible refine Kd.C_drew ?_)));(case side2 => exact HC0.out);rintro e w27 ⟨rfl,hb⟩;refine ⟨_,rfl,?_⟩;have n0_ := Aside0.mk (q0p (g := gb194) (o := .cells #[.int .i64 a1_0,.int .i64 a1_1,.int .i64 a1_2,.int .i64 a1_3,.bool a1_4,.int .i64 a1_5,.string a1_6] 130 (0,0)) (by (with_reducible repeat (first | refine q0g ?_ _ | refine q0h ?_ | refine q0f ?_ _));exact BK194.out) hb);have n1_ := Aside0.mk (q0p (g := gb200) (o := .cells #[.int .i64 t195,.bool t196,.int .i64 t197,.string t198] 66 (0,0)) (by (with_reducible repeat (first | refine q0g ?_ _ | refine q0h ?_ | refine q0f ?_ _));exact BK200.out) hb);have n2_ := Aside0.mk (q0p (g := gb201) (o := .cells #[.int .i64 a1_3,.bool a1_4,.int .i64 a1_5,.string a1_6] 66 (0,0)) (by (with_reducible repeat (first | refine q0g ?_ _ | refine q0h ?_ | refine q0f ?_ _));exact BK201.out) hb);have n3_ := Aside0.mk (q0l (by repeat (first | (with_reducible first | exact HB.out | apply q0b | apply q0a | apply q0c | refine q0i ?_ GE194.out | refine q0i ?_ GE200.out | refine q0i ?_ GE201.out) | exact HB.out)) hb);clear BK194;clear BK200;clear BK201;clear HB;have BK194 := n0_;have BK200 := n1_;have BK201 := n2_;have HB := n3_;clear n0_ n1_ n2_ n3_;(try clear hb);(try clear hb2);(try clear hk);(try clear hi);have hnb28 := NB201_200.out;have hnc28 := NB200_201.out;have hcz29_0 : w27.cell? ⟨gb201,0,none⟩ = some (.int .i64 a1_3) := (q0e BK201.out 0).trans rfl;have hcz29_1 : w27.cell? ⟨gb201,1,none⟩ = some (.bool a1_4) := (q0e BK201.out 1).trans rfl;have hcz29_2 : w27.cell? ⟨gb201,2,none⟩ = some (.int .i64 a1_5) := (q0e BK201.out 2).trans rfl;have hcz29_3 : w27.cell? ⟨gb201,3,none⟩ = some (.string a1_6) := (q0e BK201.out 3).trans rfl;have hfz29_0 := q0d BK201.out 0;have hfz29_1 := q0d BK201.out 1;have hfz29_2 := q0d BK201.out 2;have hfz29_3 := q0d BK201.out 3;have hcz30_0 : w27.cell? ⟨gb194,0,none⟩ = some (.int .i64 a1_0) := (q0e BK194.out 0).trans rfl;have hcz30_1 : w27.cell? ⟨gb194,1,none⟩ = some (.int .i64 a1_1) := (q0e BK194.out 1).trans rfl;have hcz30_2 : w27.cell? ⟨gb194,2,none⟩ = some (.int .i64 a1_2) := (q0e BK194.out 2).trans rfl;have hcz30_3 : w27.cell? ⟨gb194,3,none⟩ = some (.int .i64 a1_3) := (q0e BK194.out 3).trans rfl;have hcz30_4 : w27.cell? ⟨gb194,4,none⟩ = some (.bool a1_4) := (q0e BK194.out 4).trans rfl;have hcz30_5 : w27.cell? ⟨gb194,5,none⟩ = some (.int .i64 a1_5) := (q0e BK194.out 5).trans rfl;have hcz30_6 : w27.cell? ⟨gb194,6,none⟩ = some (.string a1_6) := (q0e BK194.out 6).trans rfl;have hfz30_0 := q0d BK194.out 0;have hfz30_1 := q0d BK194.out 1;have hfz30_2 := q0d BK194.out 2;have hfz30_3 := q0d BK194.out 3;have hfz30_4 := q0d BK194.out 4;have hfz30_5 := q0d BK194.out 5;have hfz30_6 := q0d BK194.out 6;have hcz31_0 : w27.cell? ⟨gb200,0,none⟩ = some (.int .i64 t195) := (q0e BK200.out 0).trans rfl;have hcz31_1 : w27.cell? ⟨gb200,1,none⟩ = some (.bool t196) := (q0e BK200.out 1).trans rfl;have hcz31_2 : w27.cell? ⟨gb200,2,none⟩ = some (.int .i64 t197) := (q0e BK200.out 2).trans rfl;have hcz31_3 : w27.cell? ⟨gb200,3,none⟩ = some (.string t198) := (q0e BK200.out 3).trans rfl;have hfz31_0 := q0d BK200.out 0;have hfz31_1 := q0d BK200.out 1;have hfz31_2 := q0d BK200.out 2;have hfz31_3 := q0d BK200.out 3) | (go_at_call 118;(with_reducible refine (value_Test.calls a1_1 t195 t196 t197 t198 t202 t203 t204 t205 t207 _ A23.out).mono ?_);rintro e w32 ⟨rfl,hb⟩;have n0_ := Aside0.mk (q0p (g := gb194) (o := .cells #[.int .i64 a1_0,.int .i64 a1_1,.int .i64 a1_2,.int .i64 a1_3,.bool a1_4,.int .i64 a1_5,.string a1_6] 130 (0,0)) (by (with_reducible repeat (first | refine q0g ?_ _ | refine q0h ?_ | refine q0f ?_ _));refine blk_far ?_ NB194_201.out _;(with_reducible repeat (first | refine q0g ?_ _ | refine q0h ?_ | refine q0f ?_ _));refine blk_far ?_ NB194_201.out _;(with_reducible repeat (first | refine q0g ?_ _ | refine q0h ?_ | refine q0f ?_ _));refine blk_far ?_ NB194_201.out _;(with_reducible repeat (first | refine q0g ?_ _ | refine q0h ?_ | refine q0f ?_ _));refine blk_far ?_ NB194_201.out _;(with_reducible repeat (first | refine q0g ?_ _ | refine q0h ?_ | refine q0f ?_ _));exact BK194.out) hb);have n1_ := Aside0.mk (q0p (g := gb200) (o := .cells #[.int .i64 t195,.bool t196,.int .i64 t197,.string t198] 66 (0,0)) (by (with_reducible repeat (first | refine q0g ?_ _ | refine q0h ?_ | refine q0f ?_ _));refine blk_far ?_ NB200_201.out _;(with_reducible repeat (first | refine q0g ?_ _ | refine q0h ?_ | refine q0f ?_ _));refine blk_far ?_ NB200_201.out _;(with_reducible repeat (first | refine q0g ?_ _ | refine q0h ?_ | refine q0f ?_ _));refine blk_far ?_ NB200_201.out _;(with_reducible repeat (first | refine q0g ?_ _ | refine q0h ?_ | refine q0f ?_ _));refine blk_far ?_ NB200_201.out _;(with_reducible repeat (first | refine q0g ?_ _ | refine q0h ?_ | refine q0f ?_ _));exact BK200.out) hb);have n2_ := Aside0.mk (q0p (g := gb201) (o := .cells #[.int .i64 t202,.bool t203,.int .i64 t204,.string t205] 66 (0,0)) (by (with_reducible repeat (first | refine q0g ?_ _ | refine q0h ?_ | refine q0f ?_ _));refine q0r (cs := #[.int .i64 t202,.bool t203,.int .i64 t204,.string a1_6]) ?_ 3 _ rfl;(with_reducible repeat (first | refine q0g ?_ _ | refine q0h ?_ | refine q0f ?_ _));refine q0r (cs := #[.int .i64 t202,.bool t203,.int .i64 a1_5,.string a1_6]) ?_ 2 _ rfl;(with_reducible repeat (first | refine q0g ?_ _ | refine q0h ?_ | refine q0f ?_ _));refine q0r (cs := #[.int .i64 t202,.bool a1_4,.int .i64 a1_5,.string a1_6]) ?_ 1 _ rfl;(with_reducible repeat (first | refine q0g ?_ _ | refine q0h ?_ | refine q0f ?_ _));refine q0r (cs := #[.int .i64 a1_3,.bool a1_4,.int .i64 a1_5,.string a1_6]) ?_ 0 _ rfl;(with_reducible repeat (first | refine q0g ?_ _ | refine q0h ?_ | refine q0f ?_ _));exact BK201.out) hb);have n3_ := Aside0.mk (q0l (by repeat (first | (with_reducible first | exact HB.out | apply q0b | apply q0a | apply q0c | refine q0i ?_ GE194.out | refine q0i ?_ GE200.out | refine q0i ?_ GE201.out) | exact HB.out)) hb);clear BK194;clear BK200;clear BK201;clear HB;have BK194 := n0_;have BK200 := n1_;have BK201 := n2_;have HB := n3_;clear n0_ n1_ n2_ n3_;(try clear hb);(try clear hb2);(try clear hk);(try clear hi)))
     go_ret
     exact ⟨by first | rfl | (simp [q0m,q0n] <;> rfl) | (simp [*,q0m,q0n] <;> rfl),by repeat (first | (with_reducible first | exact HB.out | apply q0b | apply q0a | apply q0c | refine q0i ?_ GE194.out | refine q0i ?_ GE200.out | refine q0i ?_ GE201.out) | exact HB.out)⟩
    ·replace c22 := Bool.eq_false_iff.mpr c22
     subst c22
     have H1 : (some false) = some r := by rw [if_neg (show ¬ (false = true) by decide)] at H;exact H
     clear H
     have H := H1
     clear H1
     obtain rfl := Option.some.inj H
     have hnb33 := NB194_200.out
     have hnc33 := NB200_194.out
     have hnb34 := NB194_201.out
     have hnc34 := NB201_194.out
     have hcz35_0 : wc.cell? ⟨gb194,0,none⟩ = some (.int .i64 a1_0) := (q0e BK194.out 0).trans rfl
     have hcz35_1 : wc.cell? ⟨gb194,1,none⟩ = some (.int .i64 a1_1) := (q0e BK194.out 1).trans rfl
     have hcz35_2 : wc.cell? ⟨gb194,2,none⟩ = some (.int .i64 a1_2) := (q0e BK194.out 2).trans rfl
     have hcz35_3 : wc.cell? ⟨gb194,3,none⟩ = some (.int .i64 a1_3) := (q0e BK194.out 3).trans rfl
     have hcz35_4 : wc.cell? ⟨gb194,4,none⟩ = some (.bool a1_4) := (q0e BK194.out 4).trans rfl
     have hcz35_5 : wc.cell? ⟨gb194,5,none⟩ = some (.int .i64 a1_5) := (q0e BK194.out 5).trans rfl
     have hcz35_6 : wc.cell? ⟨gb194,6,none⟩ = some (.string a1_6) := (q0e BK194.out 6).trans rfl
     have hfz35_0 := q0d BK194.out 0
     have hfz35_1 := q0d BK194.out 1
     have hfz35_2 := q0d BK194.out 2
     have hfz35_3 := q0d BK194.out 3
     have hfz35_4 := q0d BK194.out 4
     have hfz35_5 := q0d BK194.out 5
     have hfz35_6 := q0d BK194.out 6
     go_wp2_with (first | ((with_reducible refine q0v (f := 117) rfl ?_);refine goesL_ (some 27) rfl rfl Try.func117 (by kernel_rfl) rfl #[.slice A0 l0.length c0,.int .i64 a1_2] rfl (by (try simp only [List.map_toArray,List.map_cons,List.map_nil]);first | done | rfl | (simp only [List.length_drop,List.length_take];rfl)) ?_;(with_reducible refine (eval_cell.calls _ _ l0 a1_2 t202 t203 t204 t205 false _ ?side1 ?side2 A21.out).mono ?_);(case side1 => repeat (first | exact (Kd.C_below HR0.out HB.out) | (with_reducible refine Kd.C_alloc ?_ _) | (with_reducible refine Kd.C_drewN ?_ _) | (with_reducible refine Kd.C_drew ?_)));(case side2 => exact HC0.out);rintro e w36 ⟨rfl,hb⟩;refine ⟨_,rfl,?_⟩;have n0_ := Aside0.mk (q0p (g := gb194) (o := .cells #[.int .i64 a1_0,.int .i64 a1_1,.int .i64 a1_2,.int .i64 a1_3,.bool a1_4,.int .i64 a1_5,.string a1_6] 130 (0,0)) (by (with_reducible repeat (first | refine q0g ?_ _ | refine q0h ?_ | refine q0f ?_ _));exact BK194.out) hb);have n1_ := Aside0.mk (q0p (g := gb200) (o := .cells #[.int .i64 t195,.bool t196,.int .i64 t197,.string t198] 66 (0,0)) (by (with_reducible repeat (first | refine q0g ?_ _ | refine q0h ?_ | refine q0f ?_ _));exact BK200.out) hb);have n2_ := Aside0.mk (q0p (g := gb201) (o := .cells #[.int .i64 a1_3,.bool a1_4,.int .i64 a1_5,.string a1_6] 66 (0,0)) (by (with_reducible repeat (first | refine q0g ?_ _ | refine q0h ?_ | refine q0f ?_ _));exact BK201.out) hb);have n3_ := Aside0.mk (q0l (by repeat (first | (with_reducible first | exact HB.out | apply q0b | apply q0a | apply q0c | refine q0i ?_ GE194.out | refine q0i ?_ GE200.out | refine q0i ?_ GE201.out) | exact HB.out)) hb);clear BK194;clear BK200;clear BK201;clear HB;have BK194 := n0_;have BK200 := n1_;have BK201 := n2_;have HB := n3_;clear n0_ n1_ n2_ n3_;(try clear hb);(try clear hb2);(try clear hk);(try clear hi);have hnb37 := NB201_200.out;have hnc37 := NB200_201.out;have hcz38_0 : w36.cell? ⟨gb201,0,none⟩ = some (.int .i64 a1_3) := (q0e BK201.out 0).trans rfl;have hcz38_1 : w36.cell? ⟨gb201,1,none⟩ = some (.bool a1_4) := (q0e BK201.out 1).trans rfl;have hcz38_2 : w36.cell? ⟨gb201,2,none⟩ = some (.int .i64 a1_5) := (q0e BK201.out 2).trans rfl;have hcz38_3 : w36.cell? ⟨gb201,3,none⟩ = some (.string a1_6) := (q0e BK201.out 3).trans rfl;have hfz38_0 := q0d BK201.out 0;have hfz38_1 := q0d BK201.out 1;have hfz38_2 := q0d BK201.out 2;have hfz38_3 := q0d BK201.out 3))
     go_ret
     exact ⟨by first | rfl | (simp [q0m,q0n] <;> rfl) | (simp [*,q0m,q0n] <;> rfl),by repeat (first | (with_reducible first | exact HB.out | apply q0b | apply q0a | apply q0c | refine q0i ?_ GE194.out | refine q0i ?_ GE200.out | refine q0i ?_ GE201.out) | exact HB.out)⟩
   ·replace c20 := Bool.eq_false_iff.mpr c20
    subst c20
    have H1 : (if t199 = true then ((value_Test.f a1_1 t195 t196 t197 t198 a1_3 a1_4 a1_5 a1_6).bind fun t208 => (some t208)) else (some false)) = some r := by rw [if_neg (show ¬ (false = true) by decide)] at H;exact H
    clear H
    have H := H1
    clear H1
    by_cases c39 : t199 = true
    ·subst c39
     have H1 : ((value_Test.f a1_1 t195 t196 t197 t198 a1_3 a1_4 a1_5 a1_6).bind fun t208 => (some t208)) = some r := by rw [if_pos rfl] at H;exact H
     clear H
     have H := H1
     clear H1
     replace H := Option.bind_eq_some_iff.mp H
     obtain ⟨t208,A400,H⟩ := H
     replace H : (some t208) = some r := H
     have A40 := Aside0.mk A400
     clear A400
     obtain rfl := Option.some.inj H
     have hnb41 := NB194_200.out
     have hnc41 := NB200_194.out
     have hnb42 := NB194_201.out
     have hnc42 := NB201_194.out
     have hcz43_0 : wc.cell? ⟨gb194,0,none⟩ = some (.int .i64 a1_0) := (q0e BK194.out 0).trans rfl
     have hcz43_1 : wc.cell? ⟨gb194,1,none⟩ = some (.int .i64 a1_1) := (q0e BK194.out 1).trans rfl
     have hcz43_2 : wc.cell? ⟨gb194,2,none⟩ = some (.int .i64 a1_2) := (q0e BK194.out 2).trans rfl
     have hcz43_3 : wc.cell? ⟨gb194,3,none⟩ = some (.int .i64 a1_3) := (q0e BK194.out 3).trans rfl
     have hcz43_4 : wc.cell? ⟨gb194,4,none⟩ = some (.bool a1_4) := (q0e BK194.out 4).trans rfl
     have hcz43_5 : wc.cell? ⟨gb194,5,none⟩ = some (.int .i64 a1_5) := (q0e BK194.out 5).trans rfl
     have hcz43_6 : wc.cell? ⟨gb194,6,none⟩ = some (.string a1_6) := (q0e BK194.out 6).trans rfl
     have hfz43_0 := q0d BK194.out 0
     have hfz43_1 := q0d BK194.out 1
     have hfz43_2 := q0d BK194.out 2
     have hfz43_3 := q0d BK194.out 3
     have hfz43_4 := q0d BK194.out 4
     have hfz43_5 := q0d BK194.out 5
     have hfz43_6 := q0d BK194.out 6
     have hnb44 := NB200_201.out
     have hnc44 := NB201_200.out
     have hcz45_0 : wc.cell? ⟨gb200,0,none⟩ = some (.int .i64 t195) := (q0e BK200.out 0).trans rfl
     have hcz45_1 : wc.cell? ⟨gb200,1,none⟩ = some (.bool t196) := (q0e BK200.out 1).trans rfl
     have hcz45_2 : wc.cell? ⟨gb200,2,none⟩ = some (.int .i64 t197) := (q0e BK200.out 2).trans rfl
     have hcz45_3 : wc.cell? ⟨gb200,3,none⟩ = some (.string t198) := (q0e BK200.out 3).trans rfl
     have hfz45_0 := q0d BK200.out 0
     have hfz45_1 := q0d BK200.out 1
     have hfz45_2 := q0d BK200.out 2
     have hfz45_3 := q0d BK200.out 3
     have hcz46_0 : wc.cell? ⟨gb201,0,none⟩ = some (.int .i64 a1_3) := (q0e BK201.out 0).trans rfl
     have hcz46_1 : wc.cell? ⟨gb201,1,none⟩ = some (.bool a1_4) := (q0e BK201.out 1).trans rfl
     have hcz46_2 : wc.cell? ⟨gb201,2,none⟩ = some (.int .i64 a1_5) := (q0e BK201.out 2).trans rfl
     have hcz46_3 : wc.cell? ⟨gb201,3,none⟩ = some (.string a1_6) := (q0e BK201.out 3).trans rfl
     have hfz46_0 := q0d BK201.out 0
     have hfz46_1 := q0d BK201.out 1
     have hfz46_2 := q0d BK201.out 2
     have hfz46_3 := q0d BK201.out 3
     go_wp2_with (first | (go_at_call 118;(with_reducible refine (value_Test.calls a1_1 t195 t196 t197 t198 a1_3 a1_4 a1_5 a1_6 t208 _ A40.out).mono ?_);rintro e w47 ⟨rfl,hb⟩;have n0_ := Aside0.mk (q0p (g := gb194) (o := .cells #[.int .i64 a1_0,.int .i64 a1_1,.int .i64 a1_2,.int .i64 a1_3,.bool a1_4,.int .i64 a1_5,.string a1_6] 130 (0,0)) (by (with_reducible repeat (first | refine q0g ?_ _ | refine q0h ?_ | refine q0f ?_ _));exact BK194.out) hb);have n1_ := Aside0.mk (q0p (g := gb200) (o := .cells #[.int .i64 t195,.bool t196,.int .i64 t197,.string t198] 66 (0,0)) (by (with_reducible repeat (first | refine q0g ?_ _ | refine q0h ?_ | refine q0f ?_ _));exact BK200.out) hb);have n2_ := Aside0.mk (q0p (g := gb201) (o := .cells #[.int .i64 a1_3,.bool a1_4,.int .i64 a1_5,.string a1_6] 66 (0,0)) (by (with_reducible repeat (first | refine q0g ?_ _ | refine q0h ?_ | refine q0f ?_ _));exact BK201.out) hb);have n3_ := Aside0.mk (q0l (by repeat (first | (with_reducible first | exact HB.out | apply q0b | apply q0a | apply q0c | refine q0i ?_ GE194.out | refine q0i ?_ GE200.out | refine q0i ?_ GE201.out) | exact HB.out)) hb);clear BK194;clear BK200;clear BK201;clear HB;have BK194 := n0_;have BK200 := n1_;have BK201 := n2_;have HB := n3_;clear n0_ n1_ n2_ n3_;(try clear hb);(try clear hb2);(try clear hk);(try clear hi)))
     go_ret
     exact ⟨by first | rfl | (simp [q0m,q0n] <;> rfl) | (simp [*,q0m,q0n] <;> rfl),by repeat (first | (with_reducible first | exact HB.out | apply q0b | apply q0a | apply q0c | refine q0i ?_ GE194.out | refine q0i ?_ GE200.out | refine q0i ?_ GE201.out) | exact HB.out)⟩
    ·replace c39 := Bool.eq_false_iff.mpr c39
     subst c39
     have H1 : (some false) = some r := by rw [if_neg (show ¬ (false = true) by decide)] at H;exact H
     clear H
     have H := H1
     clear H1
     obtain rfl := Option.some.inj H
     go_wp2
     go_ret
     exact ⟨by first | rfl | (simp [q0m,q0n] <;> rfl) | (simp [*,q0m,q0n] <;> rfl),by repeat (first | (with_reducible first | exact HB.out | apply q0b | apply q0a | apply q0c | refine q0i ?_ GE194.out | refine q0i ?_ GE200.out | refine q0i ?_ GE201.out) | exact HB.out)⟩
end Go.Proofs.Ythmbfcfomcaaaaa.Z
end
section
namespace Go.Proofs.Ythmbfcfomcaaaaa.Z
open Go.RowKit Go.Proofs.YthmbfcfomcaaaaaW.PrintWords Go.Proofs.YthmbfcfomcaaaaaW.PrintLast Go.Proofs.YthmbfcfomcaaaaaW.PrintMore
attribute [local go_sem] max2_int min2_int max_two min_two max_three min_three max_four min_four
set_option linter.unusedVariables false
set_option linter.unusedSimpArgs false
def eval_Holds.l0 : Nat → List (S66) → List (S130) → Int → Int → Option (Bool)
 | 0,_,_,_,_ => none
 | k + 1,x0,x7,x8,x9 => if x9 < x8 then (if 0 ≤ x9 then (if x9 < (x7.length : Int) then ((eval_holds.f k x0 ((q0u x7 x9).f0) ((q0u x7 x9).f1) ((q0u x7 x9).f2) ((q0u x7 x9).f3.f0) ((q0u x7 x9).f3.f1) ((q0u x7 x9).f3.f2) ((q0u x7 x9).f3.f3)).bind fun t211 => (if t211 = true then (eval_Holds.l0 k x0 x7 x8 (wrap64 (x9 + 1))) else (some false))) else (none)) else (none)) else (some true)
def eval_Holds.f (k : Nat) (l0 : List (S66)) (l1 : List (S130)) : Option (Bool) := eval_Holds.l0 k l0 l1 (l1.length : Int) 0
theorem eval_Holds.mono_l : ∀ k,(∀ y0 y1 y2 y3,LeO (eval_Holds.l0 k y0 y1 y2 y3) (eval_Holds.l0 (k + 1) y0 y1 y2 y3))
 | 0 => fun _ _ _ _ r h => by simp [eval_Holds.l0] at h
 | k + 1 => by
  have ih0 := eval_Holds.mono_l k
  ·intro y0 y1 y2 y3
   unfold eval_Holds.l0
   repeat' first
   | (with_reducible exact ih0 _ _ _ _)
   | (with_reducible exact eval_holds.mono _ _ _ _ _ _ _ _ _)
   | (with_reducible exact LeO.refl _)
   | (with_reducible exact LeO.none _)
   | (with_reducible refine LeO.ite ?_ ?_)
   | (with_reducible refine LeO.bind ?_ (fun _ => ?_))
   | exact ih0 _ _ _ _
   | exact eval_holds.mono _ _ _ _ _ _ _ _ _
   | exact LeO.none _
   | refine LeO.ite ?_ ?_
   | refine LeO.bind ?_ (fun _ => ?_)
theorem eval_Holds.mono : ∀ a0 a1 k,LeO (eval_Holds.f k a0 a1) (eval_Holds.f (k + 1) a0 a1) := by
 intro a0 a1 k
 have ih0 := eval_Holds.mono_l k
 unfold eval_Holds.f
 repeat' first
   | (with_reducible exact ih0 _ _ _ _)
   | (with_reducible exact eval_holds.mono _ _ _ _ _ _ _ _ _)
   | (with_reducible exact LeO.refl _)
   | (with_reducible exact LeO.none _)
   | (with_reducible refine LeO.ite ?_ ?_)
   | (with_reducible refine LeO.bind ?_ (fun _ => ?_))
   | exact ih0 _ _ _ _
   | exact eval_holds.mono _ _ _ _ _ _ _ _ _
   | exact LeO.none _
   | refine LeO.ite ?_ ?_
   | refine LeO.bind ?_ (fun _ => ?_)
set_option maxHeartbeats 8000000 in
set_option maxRecDepth 100000 in
theorem eval_Holds.calls (k : Nat) (A0 : Option Addr) (c0 : Nat) (l0 : List (S66)) (A1 : Option Addr) (c1 : Nat) (l1 : List (S130)) (r : Bool) (w : World) (hr0 : Kd.C k66 w A0 l0.length l0) (hc0 : l0.length ≤ c0) (hr1 : Kd.C k130 w A1 l1.length l1) (hc1 : l1.length ≤ c1) (h : eval_Holds.f k l0 l1 = some r) :
  Calls Try.prog 87 #[.slice A0 l0.length c0,.slice A1 l1.length c1] w fun e w' => e = .returned (.bool r) ∧ Below w.heap.size w w' := by
 have hu130 := Try.underlying130
 have HR0 := Aside0.mk hr0
 have HC0 := Aside0.mk hc0
 clear hr0 hc0
 have HR1 := Aside0.mk hr1
 have HC1 := Aside0.mk hc1
 clear hr1 hc1
 have HB := Aside0.mk (Below.refl w.heap.size w)
 have H : (eval_Holds.l0 k l0 l1 (l1.length : Int) 0) = some r := h
 clear h
 have H' := Aside0.mk H
 clear H
 go_enter Try.func87,Try.ntmps87
 go_wp2
 go_loopg [9] k (fun kq v9 w' => ∃ (x9_1 : Int),v9 = .int .i64 x9_1 ∧ Aside0 (eval_Holds.l0 kq l0 l1 (l1.length : Int) x9_1 = some r) ∧ Aside0 (kq ≤ k) ∧ Aside0 (Below w.heap.size w w'))
 case atStart => exact ⟨(0),(by first | rfl | (simp;done) | (simp [*];done)),H',⟨Nat.le_refl _⟩,⟨by repeat (first | (with_reducible first | exact HB.out | apply q0b | apply q0a | apply q0c) | exact HB.out)⟩⟩
 case round =>
  clear H'
  try clear c1
  try clear p2
  obtain ⟨x9_1,rfl,HA,HK1,HB⟩ := hrel
  cases gk with
  | zero => exact absurd HA.out (by simp [eval_Holds.l0])
  | succ k1 =>
   have H := HA.out
   clear HA
   simp only [eval_Holds.l0] at H
   by_cases c3 : x9_1 < (l1.length : Int)
   ·rw [if_pos c3] at H
    have c3b0 : decide (x9_1 < (l1.length : Int)) = true := decide_eq_true c3
    clear c3
    by_cases c4 : 0 ≤ x9_1
    ·rw [if_pos c4] at H
     have c4b0 : decide (0 ≤ x9_1) = true := decide_eq_true c4
     clear c4
     by_cases c5 : x9_1 < (l1.length : Int)
     ·rw [if_pos c5] at H
      have c5b0 : decide (x9_1 < (l1.length : Int)) = true := decide_eq_true c5
      clear c5
      replace H := Option.bind_eq_some_iff.mp H
      obtain ⟨t211,A60,H⟩ := H
      replace H : (if t211 = true then (eval_Holds.l0 k1 l0 l1 (l1.length : Int) (wrap64 (x9_1 + 1))) else (some false)) = some r := H
      have A6 := Aside0.mk A60
      clear A60
      by_cases c7 : t211 = true
      ·subst c7
       have H1 : (eval_Holds.l0 k1 l0 l1 (l1.length : Int) (wrap64 (x9_1 + 1))) = some r := by rw [if_pos rfl] at H;exact H
       clear H
       have H := H1
       clear H1
       have H' := Aside0.mk H
       clear H
       have p209 : 0 ≤ (x9_1 : Int) := of_decide_eq_true (by first | (with_reducible assumption) | assumption)
       have q209 : x9_1 < (l1.length : Int) := of_decide_eq_true (by first | (with_reducible assumption) | assumption)
       obtain ⟨ad209,e209,hx209_0,hx209_1,hx209_2,hx209_3,hx209_4,hx209_5,hx209_6⟩ := at_T130 HR1.out x9_1 p209 q209
       cases e209
       replace hx209_0 := (HB.out.cell (World.block_lt_of_cell? w _ hx209_0)).trans hx209_0
       replace hx209_1 := (HB.out.cell (World.block_lt_of_cell? w _ hx209_1)).trans hx209_1
       replace hx209_2 := (HB.out.cell (World.block_lt_of_cell? w _ hx209_2)).trans hx209_2
       replace hx209_3 := (HB.out.cell (World.block_lt_of_cell? w _ hx209_3)).trans hx209_3
       replace hx209_4 := (HB.out.cell (World.block_lt_of_cell? w _ hx209_4)).trans hx209_4
       replace hx209_5 := (HB.out.cell (World.block_lt_of_cell? w _ hx209_5)).trans hx209_5
       replace hx209_6 := (HB.out.cell (World.block_lt_of_cell? w _ hx209_6)).trans hx209_6
       replace p209 := eq_true p209
       replace q209 := eq_true q209
       go_wp2_with (first | ((with_reducible refine q0q (N := 6) rfl ?_);refine q0o ?hg (N := 6) ?hd (cs := #[.int .i64 0,.int .i64 0,.int .i64 0,.int .i64 0,.bool false,.int .i64 0,.string (⟨#[]⟩ : ByteArray)]) (t := 130) ?hr ?_;(case hd => rfl);(case hg => rfl);(case hr => first | (go_simp;done) | (go_simp;rfl));intro gb210 hg w8 hbox hb;have n0_ := Aside0.mk (q0l (by repeat (first | (with_reducible first | exact HB.out | apply q0b | apply q0a | apply q0c) | exact HB.out)) hb);have n1_ := Aside0.mk (hbox);have n2_ := Aside0.mk ((by rw [hg];exact (q0j (by repeat (first | (with_reducible first | exact HB.out | apply q0b | apply q0a | apply q0c) | exact HB.out))) : w.heap.size ≤ gb210));have n3_ := Aside0.mk ((by rw [hg];exact (q0j (by repeat (first | (with_reducible first | exact HB.out | apply q0b | apply q0a | apply q0c) | exact HB.out))) : w.heap.size ≤ gb210));clear HB;have HB := n0_;have BK210 := n1_;have GW210 := n2_;have GE210 := n3_;clear n0_ n1_ n2_ n3_;clear hb hbox hg;have hcz9_0 : w8.cell? ⟨gb210,0,none⟩ = some (.int .i64 0) := (q0e BK210.out 0).trans rfl;have hcz9_1 : w8.cell? ⟨gb210,1,none⟩ = some (.int .i64 0) := (q0e BK210.out 1).trans rfl;have hcz9_2 : w8.cell? ⟨gb210,2,none⟩ = some (.int .i64 0) := (q0e BK210.out 2).trans rfl;have hcz9_3 : w8.cell? ⟨gb210,3,none⟩ = some (.int .i64 0) := (q0e BK210.out 3).trans rfl;have hcz9_4 : w8.cell? ⟨gb210,4,none⟩ = some (.bool false) := (q0e BK210.out 4).trans rfl;have hcz9_5 : w8.cell? ⟨gb210,5,none⟩ = some (.int .i64 0) := (q0e BK210.out 5).trans rfl;have hcz9_6 : w8.cell? ⟨gb210,6,none⟩ = some (.string (⟨#[]⟩ : ByteArray)) := (q0e BK210.out 6).trans rfl;have hfz9_0 := q0d BK210.out 0;have hfz9_1 := q0d BK210.out 1;have hfz9_2 := q0d BK210.out 2;have hfz9_3 := q0d BK210.out 3;have hfz9_4 := q0d BK210.out 4;have hfz9_5 := q0d BK210.out 5;have hfz9_6 := q0d BK210.out 6) | ((with_reducible refine q0v (f := 102) rfl ?_);refine goesL_ (some 15) rfl rfl Try.func102 (by kernel_rfl) rfl #[.slice A0 l0.length c0,.agg #[.int .i64 ((q0u l1 x9_1).f0),.int .i64 ((q0u l1 x9_1).f1),.int .i64 ((q0u l1 x9_1).f2),.int .i64 ((q0u l1 x9_1).f3.f0),.bool ((q0u l1 x9_1).f3.f1),.int .i64 ((q0u l1 x9_1).f3.f2),.string ((q0u l1 x9_1).f3.f3)]] rfl (by (try simp only [List.map_toArray,List.map_cons,List.map_nil]);first | done | rfl | (simp only [List.length_drop,List.length_take];rfl)) ?_;(with_reducible refine (eval_holds.calls k1 _ _ l0 ((q0u l1 x9_1).f0) ((q0u l1 x9_1).f1) ((q0u l1 x9_1).f2) ((q0u l1 x9_1).f3.f0) ((q0u l1 x9_1).f3.f1) ((q0u l1 x9_1).f3.f2) ((q0u l1 x9_1).f3.f3) true _ ?side1 ?side2 A6.out).mono ?_);(case side1 => exact Kd.C_below HR0.out (by repeat (first | (with_reducible first | exact HB.out | apply q0b | apply q0a | apply q0c | refine q0i ?_ GE210.out) | exact HB.out)));(case side2 => exact HC0.out);rintro e w10 ⟨rfl,hb⟩;refine ⟨_,rfl,?_⟩;have n0_ := Aside0.mk (q0p (g := gb210) (o := .cells #[.int .i64 ((q0u l1 x9_1).f0),.int .i64 ((q0u l1 x9_1).f1),.int .i64 ((q0u l1 x9_1).f2),.int .i64 ((q0u l1 x9_1).f3.f0),.bool ((q0u l1 x9_1).f3.f1),.int .i64 ((q0u l1 x9_1).f3.f2),.string ((q0u l1 x9_1).f3.f3)] 130 (0,0)) (by (with_reducible repeat (first | refine q0g ?_ _ | refine q0h ?_ | refine q0f ?_ _));refine q0r (cs := #[.int .i64 ((q0u l1 x9_1).f0),.int .i64 ((q0u l1 x9_1).f1),.int .i64 ((q0u l1 x9_1).f2),.int .i64 ((q0u l1 x9_1).f3.f0),.bool ((q0u l1 x9_1).f3.f1),.int .i64 ((q0u l1 x9_1).f3.f2),.string (⟨#[]⟩ : ByteArray)]) ?_ 6 _ rfl;(with_reducible repeat (first | refine q0g ?_ _ | refine q0h ?_ | refine q0f ?_ _));refine q0r (cs := #[.int .i64 ((q0u l1 x9_1).f0),.int .i64 ((q0u l1 x9_1).f1),.int .i64 ((q0u l1 x9_1).f2),.int .i64 ((q0u l1 x9_1).f3.f0),.bool ((q0u l1 x9_1).f3.f1),.int .i64 0,.string (⟨#[]⟩ : ByteArray)]) ?_ 5 _ rfl;(with_reducible repeat (first | refine q0g ?_ _ | refine q0h ?_ | refine q0f ?_ _));refine q0r (cs := #[.int .i64 ((q0u l1 x9_1).f0),.int .i64 ((q0u l1 x9_1).f1),.int .i64 ((q0u l1 x9_1).f2),.int .i64 ((q0u l1 x9_1).f3.f0),.bool false,.int .i64 0,.string (⟨#[]⟩ : ByteArray)]) ?_ 4 _ rfl;(with_reducible repeat (first | refine q0g ?_ _ | refine q0h ?_ | refine q0f ?_ _));refine q0r (cs := #[.int .i64 ((q0u l1 x9_1).f0),.int .i64 ((q0u l1 x9_1).f1),.int .i64 ((q0u l1 x9_1).f2),.int .i64 0,.bool false,.int .i64 0,.string (⟨#[]⟩ : ByteArray)]) ?_ 3 _ rfl;(with_reducible repeat (first | refine q0g ?_ _ | refine q0h ?_ | refine q0f ?_ _));refine q0r (cs := #[.int .i64 ((q0u l1 x9_1).f0),.int .i64 ((q0u l1 x9_1).f1),.int .i64 0,.int .i64 0,.bool false,.int .i64 0,.string (⟨#[]⟩ : ByteArray)]) ?_ 2 _ rfl;(with_reducible repeat (first | refine q0g ?_ _ | refine q0h ?_ | refine q0f ?_ _));refine q0r (cs := #[.int .i64 ((q0u l1 x9_1).f0),.int .i64 0,.int .i64 0,.int .i64 0,.bool false,.int .i64 0,.string (⟨#[]⟩ : ByteArray)]) ?_ 1 _ rfl;(with_reducible repeat (first | refine q0g ?_ _ | refine q0h ?_ | refine q0f ?_ _));refine q0r (cs := #[.int .i64 0,.int .i64 0,.int .i64 0,.int .i64 0,.bool false,.int .i64 0,.string (⟨#[]⟩ : ByteArray)]) ?_ 0 _ rfl;(with_reducible repeat (first | refine q0g ?_ _ | refine q0h ?_ | refine q0f ?_ _));exact BK210.out) hb);have n1_ := Aside0.mk (q0l (by repeat (first | (with_reducible first | exact HB.out | apply q0b | apply q0a | apply q0c | refine q0i ?_ GE210.out) | exact HB.out)) hb);clear BK210;clear HB;have BK210 := n0_;have HB := n1_;clear n0_ n1_;(try clear hb);(try clear hb2);(try clear hk);(try clear hi)))
       go_roundg k1
       case measure => have := HK1.out;omega
       case rel => exact ⟨(wrap64 (x9_1 + 1)),(by first | rfl | (simp;done) | (simp [*];done)),H',⟨by have := HK1.out;omega⟩,⟨by repeat (first | (with_reducible first | exact HB.out | apply q0b | apply q0a | apply q0c | refine q0i ?_ GE210.out) | exact HB.out)⟩⟩
      ·replace c7 := Bool.eq_false_iff.mpr c7
       subst c7
       have H1 : (some false) = some r := by rw [if_neg (show ¬ (false = true) by decide)] at H;exact H
       clear H
       have H := H1
       clear H1
       obtain rfl := Option.some.inj H
       have p209 : 0 ≤ (x9_1 : Int) := of_decide_eq_true (by first | (with_reducible assumption) | assumption)
       have q209 : x9_1 < (l1.length : Int) := of_decide_eq_true (by first | (with_reducible assumption) | assumption)
       obtain ⟨ad209,e209,hx209_0,hx209_1,hx209_2,hx209_3,hx209_4,hx209_5,hx209_6⟩ := at_T130 HR1.out x9_1 p209 q209
       cases e209
       replace hx209_0 := (HB.out.cell (World.block_lt_of_cell? w _ hx209_0)).trans hx209_0
       replace hx209_1 := (HB.out.cell (World.block_lt_of_cell? w _ hx209_1)).trans hx209_1
       replace hx209_2 := (HB.out.cell (World.block_lt_of_cell? w _ hx209_2)).trans hx209_2
       replace hx209_3 := (HB.out.cell (World.block_lt_of_cell? w _ hx209_3)).trans hx209_3
       replace hx209_4 := (HB.out.cell (World.block_lt_of_cell? w _ hx209_4)).trans hx209_4
       replace hx209_5 := (HB.out.cell (World.block_lt_of_cell? w _ hx209_5)).trans hx209_5
       replace hx209_6 := (HB.out.cell (World.block_lt_of_cell? w _ hx209_6)).trans hx209_6
       replace p209 := eq_true p209
       replace q209 := eq_true q209
       go_wp2_with (first | ((with_reducible refine q0q (N := 6) rfl ?_);refine q0o ?hg (N := 6) ?hd (cs := #[.int .i64 0,.int .i64 0,.int .i64 0,.int .i64 0,.bool false,.int .i64 0,.string (⟨#[]⟩ : ByteArray)]) (t := 130) ?hr ?_;(case hd => rfl);(case hg => rfl);(case hr => first | (go_simp;done) | (go_simp;rfl));intro gb210 hg w11 hbox hb;have n0_ := Aside0.mk (q0l (by repeat (first | (with_reducible first | exact HB.out | apply q0b | apply q0a | apply q0c) | exact HB.out)) hb);have n1_ := Aside0.mk (hbox);have n2_ := Aside0.mk ((by rw [hg];exact (q0j (by repeat (first | (with_reducible first | exact HB.out | apply q0b | apply q0a | apply q0c) | exact HB.out))) : w.heap.size ≤ gb210));have n3_ := Aside0.mk ((by rw [hg];exact (q0j (by repeat (first | (with_reducible first | exact HB.out | apply q0b | apply q0a | apply q0c) | exact HB.out))) : w.heap.size ≤ gb210));clear HB;have HB := n0_;have BK210 := n1_;have GW210 := n2_;have GE210 := n3_;clear n0_ n1_ n2_ n3_;clear hb hbox hg;have hcz12_0 : w11.cell? ⟨gb210,0,none⟩ = some (.int .i64 0) := (q0e BK210.out 0).trans rfl;have hcz12_1 : w11.cell? ⟨gb210,1,none⟩ = some (.int .i64 0) := (q0e BK210.out 1).trans rfl;have hcz12_2 : w11.cell? ⟨gb210,2,none⟩ = some (.int .i64 0) := (q0e BK210.out 2).trans rfl;have hcz12_3 : w11.cell? ⟨gb210,3,none⟩ = some (.int .i64 0) := (q0e BK210.out 3).trans rfl;have hcz12_4 : w11.cell? ⟨gb210,4,none⟩ = some (.bool false) := (q0e BK210.out 4).trans rfl;have hcz12_5 : w11.cell? ⟨gb210,5,none⟩ = some (.int .i64 0) := (q0e BK210.out 5).trans rfl;have hcz12_6 : w11.cell? ⟨gb210,6,none⟩ = some (.string (⟨#[]⟩ : ByteArray)) := (q0e BK210.out 6).trans rfl;have hfz12_0 := q0d BK210.out 0;have hfz12_1 := q0d BK210.out 1;have hfz12_2 := q0d BK210.out 2;have hfz12_3 := q0d BK210.out 3;have hfz12_4 := q0d BK210.out 4;have hfz12_5 := q0d BK210.out 5;have hfz12_6 := q0d BK210.out 6) | ((with_reducible refine q0v (f := 102) rfl ?_);refine goesL_ (some 15) rfl rfl Try.func102 (by kernel_rfl) rfl #[.slice A0 l0.length c0,.agg #[.int .i64 ((q0u l1 x9_1).f0),.int .i64 ((q0u l1 x9_1).f1),.int .i64 ((q0u l1 x9_1).f2),.int .i64 ((q0u l1 x9_1).f3.f0),.bool ((q0u l1 x9_1).f3.f1),.int .i64 ((q0u l1 x9_1).f3.f2),.string ((q0u l1 x9_1).f3.f3)]] rfl (by (try simp only [List.map_toArray,List.map_cons,List.map_nil]);first | done | rfl | (simp only [List.length_drop,List.length_take];rfl)) ?_;(with_reducible refine (eval_holds.calls k1 _ _ l0 ((q0u l1 x9_1).f0) ((q0u l1 x9_1).f1) ((q0u l1 x9_1).f2) ((q0u l1 x9_1).f3.f0) ((q0u l1 x9_1).f3.f1) ((q0u l1 x9_1).f3.f2) ((q0u l1 x9_1).f3.f3) false _ ?side1 ?side2 A6.out).mono ?_);(case side1 => exact Kd.C_below HR0.out (by repeat (first | (with_reducible first | exact HB.out | apply q0b | apply q0a | apply q0c | refine q0i ?_ GE210.out) | exact HB.out)));(case side2 => exact HC0.out);rintro e w13 ⟨rfl,hb⟩;refine ⟨_,rfl,?_⟩;have n0_ := Aside0.mk (q0p (g := gb210) (o := .cells #[.int .i64 ((q0u l1 x9_1).f0),.int .i64 ((q0u l1 x9_1).f1),.int .i64 ((q0u l1 x9_1).f2),.int .i64 ((q0u l1 x9_1).f3.f0),.bool ((q0u l1 x9_1).f3.f1),.int .i64 ((q0u l1 x9_1).f3.f2),.string ((q0u l1 x9_1).f3.f3)] 130 (0,0)) (by (with_reducible repeat (first | refine q0g ?_ _ | refine q0h ?_ | refine q0f ?_ _));refine q0r (cs := #[.int .i64 ((q0u l1 x9_1).f0),.int .i64 ((q0u l1 x9_1).f1),.int .i64 ((q0u l1 x9_1).f2),.int .i64 ((q0u l1 x9_1).f3.f0),.bool ((q0u l1 x9_1).f3.f1),.int .i64 ((q0u l1 x9_1).f3.f2),.string (⟨#[]⟩ : ByteArray)]) ?_ 6 _ rfl;(with_reducible repeat (first | refine q0g ?_ _ | refine q0h ?_ | refine q0f ?_ _));refine q0r (cs := #[.int .i64 ((q0u l1 x9_1).f0),.int .i64 ((q0u l1 x9_1).f1),.int .i64 ((q0u l1 x9_1).f2),.int .i64 ((q0u l1 x9_1).f3.f0),.bool ((q0u l1 x9_1).f3.f1),.int .i64 0,.string (⟨#[]⟩ : ByteArray)]) ?_ 5 _ rfl;(with_reducible repeat (first | refine q0g ?_ _ | refine q0h ?_ | refine q0f ?_ _));refine q0r (cs := #[.int .i64 ((q0u l1 x9_1).f0),.int .i64 ((q0u l1 x9_1).f1),.int .i64 ((q0u l1 x9_1).f2),.int .i64 ((q0u l1 x9_1).f3.f0),.bool false,.int .i64 0,.string (⟨#[]⟩ : ByteArray)]) ?_ 4 _ rfl;(with_reducible repeat (first | refine q0g ?_ _ | refine q0h ?_ | refine q0f ?_ _));refine q0r (cs := #[.int .i64 ((q0u l1 x9_1).f0),.int .i64 ((q0u l1 x9_1).f1),.int .i64 ((q0u l1 x9_1).f2),.int .i64 0,.bool false,.int .i64 0,.string (⟨#[]⟩ : ByteArray)]) ?_ 3 _ rfl;(with_reducible repeat (first | refine q0g ?_ _ | refine q0h ?_ | refine q0f ?_ _));refine q0r (cs := #[.int .i64 ((q0u l1 x9_1).f0),.int .i64 ((q0u l1 x9_1).f1),.int .i64 0,.int .i64 0,.bool false,.int .i64 0,.string (⟨#[]⟩ : ByteArray)]) ?_ 2 _ rfl;(with_reducible repeat (first | refine q0g ?_ _ | refine q0h ?_ | refine q0f ?_ _));refine q0r (cs := #[.int .i64 ((q0u l1 x9_1).f0),.int .i64 0,.int .i64 0,.int .i64 0,.bool false,.int .i64 0,.string (⟨#[]⟩ : ByteArray)]) ?_ 1 _ rfl;(with_reducible repeat (first | refine q0g ?_ _ | refine q0h ?_ | refine q0f ?_ _));refine q0r (cs := #[.int .i64 0,.int .i64 0,.int .i64 0,.int .i64 0,.bool false,.int .i64 0,.string (⟨#[]⟩ : ByteArray)]) ?_ 0 _ rfl;(with_reducible repeat (first | refine q0g ?_ _ | refine q0h ?_ | refine q0f ?_ _));exact BK210.out) hb);have n1_ := Aside0.mk (q0l (by repeat (first | (with_reducible first | exact HB.out | apply q0b | apply q0a | apply q0c | refine q0i ?_ GE210.out) | exact HB.out)) hb);clear BK210;clear HB;have BK210 := n0_;have HB := n1_;clear n0_ n1_;(try clear hb);(try clear hb2);(try clear hk);(try clear hi)))
       go_ret
       exact ⟨by first | rfl | (simp [q0m,q0n] <;> rfl) | (simp [*,q0m,q0n] <;> rfl),by repeat (first | (with_reducible first | exact HB.out | apply q0b | apply q0a | apply q0c | refine q0i ?_ GE210.out) | exact HB.out)⟩
     ·rw [if_neg c5] at H
      exact absurd H (by simp)
    ·rw [if_neg c4] at H
     exact absurd H (by simp)
   ·rw [if_neg c3] at H
    have c3b0 : decide (x9_1 < (l1.length : Int)) = false := decide_eq_false c3
    clear c3
    obtain rfl := Option.some.inj H
    go_wp2
    go_ret
    exact ⟨by first | rfl | (simp [q0m,q0n] <;> rfl) | (simp [*,q0m,q0n] <;> rfl),by repeat (first | (with_reducible first | exact HB.out | apply q0b | apply q0a | apply q0c) | exact HB.out)⟩
end Go.Proofs.Ythmbfcfomcaaaaa.Z
end
section
namespace Go.Proofs.Ythmbfcfomcaaaaa.Z
open Go.RowKit Go.Proofs.YthmbfcfomcaaaaaW.PrintWords Go.Proofs.YthmbfcfomcaaaaaW.PrintLast Go.Proofs.YthmbfcfomcaaaaaW.PrintMore
attribute [local go_sem] max2_int min2_int max_two min_two max_three min_three max_four min_four
set_option linter.unusedVariables false
set_option linter.unusedSimpArgs false
def pick_Where.l0 : Nat → List (S130) → List (S34) → List (S34) → Int → Int → Option ((List (S34)))
 | 0,_,_,_,_,_ => none
 | k + 1,x1,x5,x8,x9,x10 => if x10 < x9 then (if 0 ≤ x10 then (if x10 < (x8.length : Int) then ((eval_Holds.f k ((q0s x8 x10).f0) x1).bind fun t214 => (if t214 = true then ((row_Of.f ((q0s x8 x10).f0)).bind fun t215 => (if x5.length < 4398046511104 then (pick_Where.l0 k x1 (x5 ++ [(⟨t215,(q0s x8 x10).f1⟩ : S34)]) x8 x9 (wrap64 (x10 + 1))) else (none))) else (pick_Where.l0 k x1 x5 x8 x9 (wrap64 (x10 + 1))))) else (none)) else (none)) else (some x5)
def pick_Where.f (k : Nat) (l0 : List (S34)) (l1 : List (S130)) : Option ((List (S34))) := pick_Where.l0 k l1 ([] : List (S34)) l0 (l0.length : Int) 0
theorem pick_Where.mono_l : ∀ k,(∀ y0 y1 y2 y3 y4,LeO (pick_Where.l0 k y0 y1 y2 y3 y4) (pick_Where.l0 (k + 1) y0 y1 y2 y3 y4))
 | 0 => fun _ _ _ _ _ r h => by simp [pick_Where.l0] at h
 | k + 1 => by
  have ih0 := pick_Where.mono_l k
  ·intro y0 y1 y2 y3 y4
   unfold pick_Where.l0
   repeat' first
   | (with_reducible exact ih0 _ _ _ _ _)
   | (with_reducible exact eval_Holds.mono _ _ _)
   | (with_reducible exact LeO.refl _)
   | (with_reducible exact LeO.none _)
   | (with_reducible refine LeO.ite ?_ ?_)
   | (with_reducible refine LeO.bind ?_ (fun _ => ?_))
   | exact ih0 _ _ _ _ _
   | exact eval_Holds.mono _ _ _
   | exact LeO.none _
   | refine LeO.ite ?_ ?_
   | refine LeO.bind ?_ (fun _ => ?_)
theorem pick_Where.mono : ∀ a0 a1 k,LeO (pick_Where.f k a0 a1) (pick_Where.f (k + 1) a0 a1) := by
 intro a0 a1 k
 have ih0 := pick_Where.mono_l k
 unfold pick_Where.f
 repeat' first
   | (with_reducible exact ih0 _ _ _ _ _)
   | (with_reducible exact eval_Holds.mono _ _ _)
   | (with_reducible exact LeO.refl _)
   | (with_reducible exact LeO.none _)
   | (with_reducible refine LeO.ite ?_ ?_)
   | (with_reducible refine LeO.bind ?_ (fun _ => ?_))
   | exact ih0 _ _ _ _ _
   | exact eval_Holds.mono _ _ _
   | exact LeO.none _
   | refine LeO.ite ?_ ?_
   | refine LeO.bind ?_ (fun _ => ?_)
def pick_Where.T6 : Bool × List (List Nat × List Nat) := (true,[([],[]),([],[]),([1],[1]),([2],[2]),([],[]),([4],[4]),([3,5],[3,5]),([6],[6]),([0,7,3],[0,7]),([8,8,0,1,2,3,4,5,6,7,8],[0,8])])
def pick_Where.B6 : List Nat := [0,0,2,6,0,16,62,126,255,511]
theorem pick_Where.tab6 : rtab .any (opsOf Try.f57 6) = pick_Where.T6 := by kernel_rfl
theorem pick_Where.bits6 : waitsOk pick_Where.T6.2 pick_Where.B6 = true := by kernel_rfl
set_option maxHeartbeats 8000000 in
set_option maxRecDepth 100000 in
theorem pick_Where.calls (k : Nat) (A0 : Option Addr) (c0 : Nat) (l0 : List (S34)) (A1 : Option Addr) (c1 : Nat) (l1 : List (S130)) (r : List (S34)) (w : World) (hr0 : Kd.C k34 w A0 l0.length l0) (hc0 : l0.length ≤ c0) (hr1 : Kd.C k130 w A1 l1.length l1) (hc1 : l1.length ≤ c1) (h : pick_Where.f k l0 l1 = some r) :
  Calls Try.prog 57 #[.slice A0 l0.length c0,.slice A1 l1.length c1] w fun e w' => ∃ v0_ : Value,e = .returned (v0_) ∧ Kd.S k34 34 w' w.heap.size (fun _ => True) v0_ r ∧ Below w.heap.size w w' := by
 have hu34 := Try.underlying34
 have HR0 := Aside0.mk hr0
 have HC0 := Aside0.mk hc0
 clear hr0 hc0
 have HR1 := Aside0.mk hr1
 have HC1 := Aside0.mk hc1
 clear hr1 hc1
 have HB := Aside0.mk (Below.refl w.heap.size w)
 have H : (pick_Where.l0 k l1 ([] : List (S34)) l0 (l0.length : Int) 0) = some r := h
 clear h
 have H' := Aside0.mk H
 clear H
 go_enter Try.func57,Try.ntmps57
 go_wp2
 go_loopg [5,10] k (fun kq v5 v10 w' => ∃ (x5_1 : List (S34)) (x10_1 : Int),v10 = .int .i64 x10_1 ∧ Aside0 (pick_Where.l0 kq l1 x5_1 l0 (l0.length : Int) x10_1 = some r) ∧ Aside0 (kq ≤ k) ∧ Aside0 (Kd.S k34 34 w' w.heap.size (fun _ => True) v5 x5_1) ∧ Aside0 (Below w.heap.size w w'))
 case atStart => exact ⟨(([] : List (S34))),(0),(by first | rfl | (simp;done) | (simp [*];done)),H',⟨Nat.le_refl _⟩,⟨by first | exact Kd.S_nil _ _ _ _ _ | exact Kd.N_nil _ _ _ _ _ | exact Kd.V_nil _ _ _ _ _ | exact Kd.Q_nil _ _ _ _ _ | exact Kd.R_nil _ _ _ _ _⟩,⟨by repeat (first | (with_reducible first | exact HB.out | apply q0b | apply q0a | apply q0c) | exact HB.out)⟩⟩
 case round =>
  clear H'
  try clear c1
  try clear p2
  obtain ⟨x5_1,x10_1,rfl,HA,HK1,HO_5,HB⟩ := hrel
  cases gk with
  | zero => exact absurd HA.out (by simp [pick_Where.l0])
  | succ k1 =>
   have H := HA.out
   clear HA
   simp only [pick_Where.l0] at H
   by_cases c3 : x10_1 < (l0.length : Int)
   ·rw [if_pos c3] at H
    have c3b0 : decide (x10_1 < (l0.length : Int)) = true := decide_eq_true c3
    clear c3
    by_cases c4 : 0 ≤ x10_1
    ·rw [if_pos c4] at H
     have c4b0 : decide (0 ≤ x10_1) = true := decide_eq_true c4
     clear c4
     by_cases c5 : x10_1 < (l0.length : Int)
     ·rw [if_pos c5] at H
      have c5b0 : decide (x10_1 < (l0.length : Int)) = true := decide_eq_true c5
      clear c5
      replace H := Option.bind_eq_some_iff.mp H
      obtain ⟨t214,A60,H⟩ := H
      replace H : (if t214 = true then ((row_Of.f ((q0s l0 x10_1).f0)).bind fun t215 => (if x5_1.length < 4398046511104 then (pick_Where.l0 k1 l1 (x5_1 ++ [(⟨t215,(q0s l0 x10_1).f1⟩ : S34)]) l0 (l0.length : Int) (wrap64 (x10_1 + 1))) else (none))) else (pick_Where.l0 k1 l1 x5_1 l0 (l0.length : Int) (wrap64 (x10_1 + 1)))) = some r := H
      have A6 := Aside0.mk A60
      clear A60
      by_cases c7 : t214 = true
      ·subst c7
       have H1 : ((row_Of.f ((q0s l0 x10_1).f0)).bind fun t215 => (if x5_1.length < 4398046511104 then (pick_Where.l0 k1 l1 (x5_1 ++ [(⟨t215,(q0s l0 x10_1).f1⟩ : S34)]) l0 (l0.length : Int) (wrap64 (x10_1 + 1))) else (none))) = some r := by rw [if_pos rfl] at H;exact H
       clear H
       have H := H1
       clear H1
       replace H := Option.bind_eq_some_iff.mp H
       obtain ⟨t215,A80,H⟩ := H
       replace H : (if x5_1.length < 4398046511104 then (pick_Where.l0 k1 l1 (x5_1 ++ [(⟨t215,(q0s l0 x10_1).f1⟩ : S34)]) l0 (l0.length : Int) (wrap64 (x10_1 + 1))) else (none)) = some r := H
       have A8 := Aside0.mk A80
       clear A80
       by_cases c9 : x5_1.length < 4398046511104
       ·rw [if_pos c9] at H
        have LMc9 := Aside0.mk c9
        clear c9
        obtain ⟨y218,hy218⟩ : ∃ y_ : List (S34),y_ = (x5_1 ++ [(⟨t215,(q0s l0 x10_1).f1⟩ : S34)]) := ⟨_,rfl⟩
        replace H : (pick_Where.l0 k1 l1 y218 l0 (l0.length : Int) (wrap64 (x10_1 + 1))) = some r := by first | (rw [hy218];with_reducible exact H) | (have H2_ := (Option.bind_some _ _).symm.trans H;rw [hy218];with_reducible exact H2_) | (have H2_ := (Option.bind_some _ _).symm.trans H;with_reducible exact H2_) | with_reducible exact H | (rw [hy218];exact H) | exact H
        have Ny218 := Aside0.mk hy218
        clear hy218
        have H' := Aside0.mk H
        clear H
        have p212 : 0 ≤ (x10_1 : Int) := of_decide_eq_true (by first | (with_reducible assumption) | assumption)
        have q212 : x10_1 < (l0.length : Int) := of_decide_eq_true (by first | (with_reducible assumption) | assumption)
        obtain ⟨ad212,A212_0,c212_0,e212,hx212_0,hx212_1,hl212_0,hi212_0⟩ := at_T34 HR0.out x10_1 p212 q212
        cases e212
        replace hx212_0 := (HB.out.cell (World.block_lt_of_cell? w _ hx212_0)).trans hx212_0
        replace hx212_1 := (HB.out.cell (World.block_lt_of_cell? w _ hx212_1)).trans hx212_1
        have HR212_0 := Aside0.mk hi212_0
        have HC212_0 := Aside0.mk hl212_0
        clear hi212_0 hl212_0
        replace p212 := eq_true p212
        replace q212 := eq_true q212
        try go_wp2_with (first | ((with_reducible refine q0q (N := 7) rfl ?_);refine q0o ?hg (N := 7) ?hd (cs := #[.slice none 0 0,.int .i64 0]) (t := 34) ?hr ?_;(case hd => rfl);(case hg => rfl);(case hr => first | (go_simp;done) | (go_simp;rfl));intro gb213 hg w10 hbox hb;have n0_ := Aside0.mk (Kd.S_below (Kd.S_elderB (by (with_reducible repeat (first | apply Kd.S_alloc | apply Kd.S_drewN | apply Kd.S_drew));exact HO_5.out) gb213 (Nat.le_of_eq hg.symm)) hb);have n1_ := Aside0.mk (q0l (by repeat (first | (with_reducible first | exact HB.out | apply q0b | apply q0a | apply q0c) | exact HB.out)) hb);have n2_ := Aside0.mk (hbox);have n3_ := Aside0.mk ((by rw [hg];exact (q0j (by repeat (first | (with_reducible first | exact HB.out | apply q0b | apply q0a | apply q0c) | exact HB.out))) : w.heap.size ≤ gb213));have n4_ := Aside0.mk ((by rw [hg];exact (q0j (by repeat (first | (with_reducible first | exact HB.out | apply q0b | apply q0a | apply q0c) | exact HB.out))) : w.heap.size ≤ gb213));clear HO_5;clear HB;have HO_5 := n0_;have HB := n1_;have BK213 := n2_;have GW213 := n3_;have GE213 := n4_;clear n0_ n1_ n2_ n3_ n4_;clear hb hbox hg;have hcz11_0 : w10.cell? ⟨gb213,0,none⟩ = some (.slice none 0 0) := (q0e BK213.out 0).trans rfl;have hcz11_1 : w10.cell? ⟨gb213,1,none⟩ = some (.int .i64 0) := (q0e BK213.out 1).trans rfl;have hfz11_0 := q0d BK213.out 0;have hfz11_1 := q0d BK213.out 1) | ((with_reducible refine q0v (f := 87) rfl ?_);refine goesL_ (some 17) rfl rfl Try.func87 (by kernel_rfl) rfl #[.slice A212_0 ((q0s l0 x10_1).f0).length c212_0,.slice A1 l1.length c1] rfl (by (try simp only [List.map_toArray,List.map_cons,List.map_nil]);first | done | rfl | (simp only [List.length_drop,List.length_take];rfl)) ?_;(with_reducible refine (eval_Holds.calls k1 _ _ ((q0s l0 x10_1).f0) _ _ l1 true _ ?side1 ?side2 ?side3 ?side4 A6.out).mono ?_);(case side1 => exact Kd.C_below HR212_0.out (by repeat (first | (with_reducible first | exact HB.out | apply q0b | apply q0a | apply q0c | refine q0i ?_ GE213.out) | exact HB.out)));(case side2 => exact HC212_0.out);(case side3 => exact Kd.C_below HR1.out (by repeat (first | (with_reducible first | exact HB.out | apply q0b | apply q0a | apply q0c | refine q0i ?_ GE213.out) | exact HB.out)));(case side4 => exact HC1.out);rintro e w12 ⟨rfl,hb⟩;refine ⟨_,rfl,?_⟩;have n0_ := Aside0.mk (Kd.S_below (by (with_reducible repeat (first | apply Kd.S_alloc | apply Kd.S_drewN | apply Kd.S_drew));exact (Kd.S_mono (Kd.S_far (p := ⟨gb213,1,none⟩) (Kd.S_far (p := ⟨gb213,0,none⟩) (Kd.S_mono HO_5.out (fun k_ hk => (⟨hk,hk.2⟩ : _ ∧ k_ ≠ gb213))) (fun _ hk => hk.2) (.slice A212_0 ((q0s l0 x10_1).f0).length c212_0)) (fun _ hk => hk.2) (.int .i64 ((q0s l0 x10_1).f1))) (fun _ h_ => h_.1))) hb);have n1_ := Aside0.mk (q0p (g := gb213) (o := .cells #[.slice A212_0 ((q0s l0 x10_1).f0).length c212_0,.int .i64 ((q0s l0 x10_1).f1)] 34 (0,0)) (by (with_reducible repeat (first | refine q0g ?_ _ | refine q0h ?_ | refine q0f ?_ _));refine q0r (cs := #[.slice A212_0 ((q0s l0 x10_1).f0).length c212_0,.int .i64 0]) ?_ 1 _ rfl;(with_reducible repeat (first | refine q0g ?_ _ | refine q0h ?_ | refine q0f ?_ _));refine q0r (cs := #[.slice none 0 0,.int .i64 0]) ?_ 0 _ rfl;(with_reducible repeat (first | refine q0g ?_ _ | refine q0h ?_ | refine q0f ?_ _));exact BK213.out) hb);have n2_ := Aside0.mk (q0l (by repeat (first | (with_reducible first | exact HB.out | apply q0b | apply q0a | apply q0c | refine q0i ?_ GE213.out) | exact HB.out)) hb);clear HO_5;clear BK213;clear HB;have HO_5 := n0_;have BK213 := n1_;have HB := n2_;clear n0_ n1_ n2_;(try clear hb);(try clear hb2);(try clear hk);(try clear hi)))
        have n0_ := Aside0.mk (Kd.S_drew HO_5.out)
        have n1_ := Aside0.mk (q0h BK213.out)
        have n2_ := Aside0.mk (q0c HB.out)
        clear HO_5
        clear BK213
        clear HB
        have HO_5 := n0_
        have BK213 := n1_
        have HB := n2_
        clear n0_ n1_ n2_
        refine start_ (n := 10) (S := fun w' => w'.cell? ⟨gb213,0,none⟩ = some (.slice A212_0 ((q0s l0 x10_1).f0).length c212_0) ∧ w'.cell? ⟨gb213,1,none⟩ = some (.int .i64 ((q0s l0 x10_1).f1))) (ds := []) #[false,false,false,false,false,false,false,false,false,false] (by kernel_rfl) rfl rfl ⟨(q0e BK213.out 0).trans rfl,(q0e BK213.out 1).trans rfl⟩ (fun hHeld => ?_);refine with_tabW pick_Where.tab6 pick_Where.bits6 (fun HT_ HW_ => ?_)
        generalize w12.drew = w13 at HO_5 BK213 HB hHeld ⊢
        refine pure_ (i := 0) (N := some 18) (v := ?_) (a' := ?_) #[true,false,false,false,false,false,false,false,false,false] rfl rfl (any_of HT_.out (by kernel_rfl)) (fun _ _ _ h => h) (Or.inl ⟨by rfl,?_⟩) ?_ ?_
        rotate_left
        ·intro w'
         go_simp
         with_reducible rfl
        rotate_left
        ·simp only [Act.put,zA,zB,zC,i64_w,i32_w]
         rfl
        refine pure_ (i := 1) (N := some 19) (v := ?_) (a' := ?_) #[true,true,false,false,false,false,false,false,false,false] rfl rfl (any_of HT_.out (by kernel_rfl)) (fun _ _ _ h => h) (Or.inl ⟨by rfl,?_⟩) ?_ ?_
        rotate_left
        ·intro w'
         go_simp
         with_reducible rfl
        rotate_left
        ·simp only [Act.put,zA,zB,zC,i64_w,i32_w]
         rfl
        refine pure_ (i := 4) (N := some 22) (v := ?_) (a' := ?_) #[true,true,false,false,true,false,false,false,false,false] rfl rfl (any_of HT_.out (by kernel_rfl)) (fun _ _ _ h => h) (Or.inl ⟨by rfl,?_⟩) ?_ ?_
        rotate_left
        ·intro w'
         go_simp
         with_reducible rfl
        rotate_left
        ·simp only [Act.put,zA,zB,zC,i64_w,i32_w]
         rfl
        refine take_ (i := 2) (N := some 20) (v := ?_) (a' := ?_) #[true,true,true,false,true,false,false,false,false,false] rfl rfl (take_ofW HT_.out HW_.out (by kernel_rfl)) (fun _ _ _ h => h) (Or.inl ⟨by rfl,?_⟩) hHeld ?_ ?_
        rotate_left
        ·rintro w' ⟨s0,s1⟩
         go_simp
         with_reducible rfl
        rotate_left
        ·simp only [Act.put,zA,zB,zC,i64_w,i32_w]
         rfl
        refine take_ (i := 5) (N := some 23) (v := ?_) (a' := ?_) #[true,true,true,false,true,true,false,false,false,false] rfl rfl (take_ofW HT_.out HW_.out (by kernel_rfl)) (fun _ _ _ h => h) (Or.inl ⟨by rfl,?_⟩) hHeld ?_ ?_
        rotate_left
        ·rintro w' ⟨s0,s1⟩
         go_simp
         with_reducible rfl
        rotate_left
        ·simp only [Act.put,zA,zB,zC,i64_w,i32_w]
         rfl
        refine one_ (i := 3) (N := some 21) #[true,true,true,true,true,true,false,false,false,false] rfl rfl (one_of HT_.out (by kernel_rfl)) (by decide) (fun K hK => ?_)
        refine goes_ Try.func88 (by kernel_rfl) rfl #[.slice A212_0 ((q0s l0 x10_1).f0).length c212_0] (by rfl) rfl rfl (by (try simp only [List.map_toArray,List.map_cons,List.map_nil]);first | done | rfl | (simp only [List.length_drop,List.length_take];rfl)) ?_
        with_reducible refine (row_Of.calls _ _ ((q0s l0 x10_1).f0) t215 _ ?side1 ?side2 A8.out).mono ?_
        (case side1 => repeat (first | exact (Kd.C_below HR212_0.out HB.out) | (with_reducible refine Kd.C_alloc ?_ _) | (with_reducible refine Kd.C_drewN ?_ _) | (with_reducible refine Kd.C_drew ?_)))
        (case side2 => exact HC212_0.out)
        rintro e w14 ⟨v216,rfl,ho0,hb⟩
        refine ⟨_,rfl,?_⟩
        have n0_ := Aside0.mk (Kd.S_elder' (by (with_reducible repeat (first | apply Kd.S_alloc | apply Kd.S_drewN | apply Kd.S_drew));exact HO_5.out) (Kd.R_base ho0) hb)
        have n1_ := Aside0.mk (Kd.R_lower ho0 (q0j (by repeat (first | (with_reducible first | exact HB.out | apply q0b | apply q0a | apply q0c | refine q0i ?_ GE213.out) | exact HB.out))))
        have n2_ := Aside0.mk (q0p (g := gb213) (o := .cells #[.slice A212_0 ((q0s l0 x10_1).f0).length c212_0,.int .i64 ((q0s l0 x10_1).f1)] 34 (0,0)) (by (with_reducible repeat (first | refine q0g ?_ _ | refine q0h ?_ | refine q0f ?_ _));exact BK213.out) hb)
        have n3_ := Aside0.mk (q0l (by repeat (first | (with_reducible first | exact HB.out | apply q0b | apply q0a | apply q0c | refine q0i ?_ GE213.out) | exact HB.out)) hb)
        clear HO_5
        clear BK213
        clear HB
        have HO_5 := n0_
        have HO217 := n1_
        have BK213 := n2_
        have HB := n3_
        clear n0_ n1_ n2_ n3_
        (try clear hb)
        (try clear hb2)
        (try clear hk)
        (try clear hi)
        (try clear ho0)
        obtain ⟨Ao15,co15,eo15⟩ := Kd.R_slice HO217.out
        (first | subst eo15 | (injection eo15 with f1_ f2_ f3_;have f4_ := f1_.symm;have f5_ := f3_.symm;clear f1_ f2_ f3_;subst f4_;subst f5_))
        refine hK.out _ _ ⟨(q0e BK213.out 0).trans rfl,(q0e BK213.out 1).trans rfl⟩ (fun hHeld => ?_)
        clear hK K
        refine norm_ (a' := ?_) ?_ ?_
        rotate_left
        ·show Act.put _ (some 21) _ = _
         simp only [Act.put,zA,zB,zC,i64_w,i32_w]
         rfl
        refine pure_ (i := 6) (N := some 24) (v := ?_) (a' := ?_) #[true,true,true,true,true,true,true,false,false,false] rfl rfl (any_of HT_.out (by kernel_rfl)) (fun _ _ _ h => h) (Or.inl ⟨by rfl,?_⟩) ?_ ?_
        rotate_left
        ·intro w'
         go_simp
         with_reducible rfl
        rotate_left
        ·simp only [Act.put,zA,zB,zC,i64_w,i32_w]
         rfl
        refine one_ (i := 7) (N := some 25) #[true,true,true,true,true,true,true,true,false,false] rfl rfl (one_of HT_.out (by kernel_rfl)) (by decide) (fun K hK => ?_)
        refine value_ (w1 := ?_) (v := ?_) (by rfl) rfl ?_ ?_
        rotate_left 2
        ·go_simp
         constructor
         ·rfl
         ·rfl
        refine hK.out _ _ ⟨(q0e (q0f BK213.out _) 0).trans rfl,(q0e (q0f BK213.out _) 1).trans rfl⟩ (fun hHeld => ?_)
        clear hK K
        refine norm_ (a' := ?_) ?_ ?_
        rotate_left
        ·show Act.put _ (some 25) _ = _
         simp only [Act.put,zA,zB,zC,i64_w,i32_w]
         rfl
        refine one_ (i := 8) (N := some 26) #[true,true,true,true,true,true,true,true,true,false] rfl rfl (one_of HT_.out (by kernel_rfl)) (by decide) (fun K hK => ?_)
        refine Kd.S_append_step k34 (w0 := w) w.heap.size (by rfl) (.tmp 18) (.tmp 25) 22 34 (.agg #[(.slice none 0 0),(.int .i64 0)]) 32 rfl Try.underlying22 info34 rfl (by decide) (by omega) u5 x5_1 (⟨t215,(q0s l0 x10_1).f1⟩ : S34) [.slice Ao15 t215.length co15,.int .i64 ((q0s l0 x10_1).f1)] (fun k_ => k_ ≠ gb213) (fun k_ => some k_ = (.slice Ao15 t215.length co15 : Value).ownBlock) rfl rfl ?aP (fun k_ hk_ => ((Kd.R_mono (ok' := fun k_ => ((fun k_ => k_ ≠ gb213)) k_ ∧ some k_ ≠ (u5 : Value).ownBlock) (Kd.R_types (Kd.R_apart' (HO217.out) (Kd.S_typed HO_5.out) (by decide)) BK213.out (by decide)) (fun k_ hk => ⟨hk.2,hk.1.2⟩))).1 k_ hk_.symm) ?aF ?aO ?aB ?aS ?aL ?_
        (case aP => exact k34_mkM _ _ _ (⟨t215,(q0s l0 x10_1).f1⟩ : S34) (Kd.R_mono (Kd.R_tight rfl (Kd.R_mono (ok' := fun k_ => ((fun k_ => k_ ≠ gb213)) k_ ∧ some k_ ≠ (u5 : Value).ownBlock) (Kd.R_types (Kd.R_apart' (HO217.out) (Kd.S_typed HO_5.out) (by decide)) BK213.out (by decide)) (fun k_ hk => ⟨hk.2,hk.1.2⟩))) (fun _ h_ => h_)))
        (case aB => exact (by repeat (first | (with_reducible first | exact HB.out | apply q0b | apply q0a | apply q0c | refine q0i ?_ GE213.out) | exact HB.out)))
        (case aF => exact (fun k_ hk => Kd.freshB (g := gb213) (o := .cells #[.slice A212_0 ((q0s l0 x10_1).f0).length c212_0,.int .i64 ((q0s l0 x10_1).f1)] 34 (0,0)) (by (with_reducible repeat (first | refine q0g ?_ _ | refine q0h ?_ | refine q0f ?_ _));exact BK213.out) k_ hk))
        (case aO => exact (by (with_reducible repeat (first | apply Kd.S_alloc | apply Kd.S_drewN | apply Kd.S_drew));exact Kd.S_mono HO_5.out (fun k_ hk => ⟨hk.1.2,fun e_ => hk.2 e_⟩)))
        (case aS => exact (q0j (by repeat (first | (with_reducible first | exact HB.out | apply q0b | apply q0a | apply q0c | refine q0i ?_ GE213.out) | exact HB.out))))
        (case aL => have := LMc9.out;omega)
        intro v219 w16 ho hb hg hat
        rw [← Ny218.out] at ho
        have n0_ := Aside0.mk (blk_grown (g := gb213) (o := .cells #[.slice A212_0 ((q0s l0 x10_1).f0).length c212_0,.int .i64 ((q0s l0 x10_1).f1)] 34 (0,0)) (by (with_reducible repeat (first | refine q0g ?_ _ | refine q0h ?_ | refine q0f ?_ _));exact BK213.out) hg (Kd.S_away HO_5.out (fun _ hk => hk.1.2)))
        have n1_ := Aside0.mk (hb)
        have n2_ := Aside0.mk (ho)
        clear BK213
        clear HB
        clear HO_5
        clear HO217
        have BK213 := n0_
        have HB := n1_
        have HO220 := n2_
        clear n0_ n1_ n2_
        clear ho hb hg hat
        refine hK.out _ _ ⟨(q0e BK213.out 0).trans rfl,(q0e BK213.out 1).trans rfl⟩ (fun hHeld => ?_)
        clear hK K
        refine norm_ (a' := ?_) ?_ ?_
        rotate_left
        ·show Act.put _ (some 26) _ = _
         simp only [Act.put,zA,zB,zC,i64_w,i32_w]
         rfl
        refine pure_ (i := 9) (N := some 5) (v := ?_) (a' := ?_) #[true,true,true,true,true,true,true,true,true,true] rfl rfl (any_of HT_.out (by kernel_rfl)) (fun _ _ _ h => h) (Or.inl ⟨by rfl,?_⟩) ?_ ?_
        rotate_left
        ·intro w'
         go_simp
         with_reducible rfl
        rotate_left
        ·simp only [Act.put,zA,zB,zC,i64_w,i32_w]
         rfl
        refine done_ (done_of HT_.out (by kernel_rfl)) ?_
        try go_wp2
        go_roundg k1
        case measure => have := HK1.out;omega
        case rel => exact ⟨(y218),(wrap64 (x10_1 + 1)),(by first | rfl | (simp;done) | (simp [*];done)),H',⟨by have := HK1.out;omega⟩,⟨by (with_reducible repeat (first | apply Kd.S_alloc | apply Kd.S_drewN | apply Kd.S_drew));exact Kd.S_mono HO220.out (fun _ hk => trivial)⟩,⟨by repeat (first | (with_reducible first | exact HB.out | apply q0b | apply q0a | apply q0c | refine q0i ?_ GE213.out) | exact HB.out)⟩⟩
       ·rw [if_neg c9] at H
        exact absurd H (by simp)
      ·replace c7 := Bool.eq_false_iff.mpr c7
       subst c7
       have H1 : (pick_Where.l0 k1 l1 x5_1 l0 (l0.length : Int) (wrap64 (x10_1 + 1))) = some r := by rw [if_neg (show ¬ (false = true) by decide)] at H;exact H
       clear H
       have H := H1
       clear H1
       have H' := Aside0.mk H
       clear H
       have p212 : 0 ≤ (x10_1 : Int) := of_decide_eq_true (by first | (with_reducible assumption) | assumption)
       have q212 : x10_1 < (l0.length : Int) := of_decide_eq_true (by first | (with_reducible assumption) | assumption)
       obtain ⟨ad212,A212_0,c212_0,e212,hx212_0,hx212_1,hl212_0,hi212_0⟩ := at_T34 HR0.out x10_1 p212 q212
       cases e212
       replace hx212_0 := (HB.out.cell (World.block_lt_of_cell? w _ hx212_0)).trans hx212_0
       replace hx212_1 := (HB.out.cell (World.block_lt_of_cell? w _ hx212_1)).trans hx212_1
       have HR212_0 := Aside0.mk hi212_0
       have HC212_0 := Aside0.mk hl212_0
       clear hi212_0 hl212_0
       replace p212 := eq_true p212
       replace q212 := eq_true q212
       go_wp2_with (first | ((with_reducible refine q0q (N := 7) rfl ?_);refine q0o ?hg (N := 7) ?hd (cs := #[.slice none 0 0,.int .i64 0]) (t := 34) ?hr ?_;(case hd => rfl);(case hg => rfl);(case hr => first | (go_simp;done) | (go_simp;rfl));intro gb213 hg w17 hbox hb;have n0_ := Aside0.mk (Kd.S_below (Kd.S_elderB (by (with_reducible repeat (first | apply Kd.S_alloc | apply Kd.S_drewN | apply Kd.S_drew));exact HO_5.out) gb213 (Nat.le_of_eq hg.symm)) hb);have n1_ := Aside0.mk (q0l (by repeat (first | (with_reducible first | exact HB.out | apply q0b | apply q0a | apply q0c) | exact HB.out)) hb);have n2_ := Aside0.mk (hbox);have n3_ := Aside0.mk ((by rw [hg];exact (q0j (by repeat (first | (with_reducible first | exact HB.out | apply q0b | apply q0a | apply q0c) | exact HB.out))) : w.heap.size ≤ gb213));have n4_ := Aside0.mk ((by rw [hg];exact (q0j (by repeat (first | (with_reducible first | exact HB.out | apply q0b | apply q0a | apply q0c) | exact HB.out))) : w.heap.size ≤ gb213));clear HO_5;clear HB;have HO_5 := n0_;have HB := n1_;have BK213 := n2_;have GW213 := n3_;have GE213 := n4_;clear n0_ n1_ n2_ n3_ n4_;clear hb hbox hg;have hcz18_0 : w17.cell? ⟨gb213,0,none⟩ = some (.slice none 0 0) := (q0e BK213.out 0).trans rfl;have hcz18_1 : w17.cell? ⟨gb213,1,none⟩ = some (.int .i64 0) := (q0e BK213.out 1).trans rfl;have hfz18_0 := q0d BK213.out 0;have hfz18_1 := q0d BK213.out 1) | ((with_reducible refine q0v (f := 87) rfl ?_);refine goesL_ (some 17) rfl rfl Try.func87 (by kernel_rfl) rfl #[.slice A212_0 ((q0s l0 x10_1).f0).length c212_0,.slice A1 l1.length c1] rfl (by (try simp only [List.map_toArray,List.map_cons,List.map_nil]);first | done | rfl | (simp only [List.length_drop,List.length_take];rfl)) ?_;(with_reducible refine (eval_Holds.calls k1 _ _ ((q0s l0 x10_1).f0) _ _ l1 false _ ?side1 ?side2 ?side3 ?side4 A6.out).mono ?_);(case side1 => exact Kd.C_below HR212_0.out (by repeat (first | (with_reducible first | exact HB.out | apply q0b | apply q0a | apply q0c | refine q0i ?_ GE213.out) | exact HB.out)));(case side2 => exact HC212_0.out);(case side3 => exact Kd.C_below HR1.out (by repeat (first | (with_reducible first | exact HB.out | apply q0b | apply q0a | apply q0c | refine q0i ?_ GE213.out) | exact HB.out)));(case side4 => exact HC1.out);rintro e w19 ⟨rfl,hb⟩;refine ⟨_,rfl,?_⟩;have n0_ := Aside0.mk (Kd.S_below (by (with_reducible repeat (first | apply Kd.S_alloc | apply Kd.S_drewN | apply Kd.S_drew));exact (Kd.S_mono (Kd.S_far (p := ⟨gb213,1,none⟩) (Kd.S_far (p := ⟨gb213,0,none⟩) (Kd.S_mono HO_5.out (fun k_ hk => (⟨hk,hk.2⟩ : _ ∧ k_ ≠ gb213))) (fun _ hk => hk.2) (.slice A212_0 ((q0s l0 x10_1).f0).length c212_0)) (fun _ hk => hk.2) (.int .i64 ((q0s l0 x10_1).f1))) (fun _ h_ => h_.1))) hb);have n1_ := Aside0.mk (q0p (g := gb213) (o := .cells #[.slice A212_0 ((q0s l0 x10_1).f0).length c212_0,.int .i64 ((q0s l0 x10_1).f1)] 34 (0,0)) (by (with_reducible repeat (first | refine q0g ?_ _ | refine q0h ?_ | refine q0f ?_ _));refine q0r (cs := #[.slice A212_0 ((q0s l0 x10_1).f0).length c212_0,.int .i64 0]) ?_ 1 _ rfl;(with_reducible repeat (first | refine q0g ?_ _ | refine q0h ?_ | refine q0f ?_ _));refine q0r (cs := #[.slice none 0 0,.int .i64 0]) ?_ 0 _ rfl;(with_reducible repeat (first | refine q0g ?_ _ | refine q0h ?_ | refine q0f ?_ _));exact BK213.out) hb);have n2_ := Aside0.mk (q0l (by repeat (first | (with_reducible first | exact HB.out | apply q0b | apply q0a | apply q0c | refine q0i ?_ GE213.out) | exact HB.out)) hb);clear HO_5;clear BK213;clear HB;have HO_5 := n0_;have BK213 := n1_;have HB := n2_;clear n0_ n1_ n2_;(try clear hb);(try clear hb2);(try clear hk);(try clear hi)))
       go_roundg k1
       case measure => have := HK1.out;omega
       case rel => exact ⟨(x5_1),(wrap64 (x10_1 + 1)),(by first | rfl | (simp;done) | (simp [*];done)),H',⟨by have := HK1.out;omega⟩,⟨by (with_reducible repeat (first | apply Kd.S_alloc | apply Kd.S_drewN | apply Kd.S_drew));exact Kd.S_mono HO_5.out (fun _ hk => trivial)⟩,⟨by repeat (first | (with_reducible first | exact HB.out | apply q0b | apply q0a | apply q0c | refine q0i ?_ GE213.out) | exact HB.out)⟩⟩
     ·rw [if_neg c5] at H
      exact absurd H (by simp)
    ·rw [if_neg c4] at H
     exact absurd H (by simp)
   ·rw [if_neg c3] at H
    have c3b0 : decide (x10_1 < (l0.length : Int)) = false := decide_eq_false c3
    clear c3
    obtain rfl := Option.some.inj H
    go_wp2
    go_ret
    exact ⟨_,by first | rfl | (simp [q0m,q0n] <;> rfl) | (simp [*,q0m,q0n] <;> rfl),by (with_reducible repeat (first | apply Kd.S_alloc | apply Kd.S_drewN | apply Kd.S_drew));exact HO_5.out,by repeat (first | (with_reducible first | exact HB.out | apply q0b | apply q0a | apply q0c) | exact HB.out)⟩
end Go.Proofs.Ythmbfcfomcaaaaa.Z
end
section
namespace Go.Proofs.Ythmbfcfomcaaaaa.Z
set_option linter.unusedVariables false
set_option linter.unusedSimpArgs false
open Go.RowKit Go.Proofs.YthmbfcfomcaaaaaW.PrintWords Go.Proofs.YthmbfcfomcaaaaaW.PrintLast Go.Proofs.YthmbfcfomcaaaaaW.PrintMore Go.Proofs.Ythmbfcfomcaaaaa.Cmp
def verdererref19_Holds.f (l0 : List S66) (l1 : List Cnd) : Option Bool := if (decide (l1.length ≤ 1000) && l0.all (fun x => decide (x.f3.size ≤ 9223372036854775807))) = true then some (holdsF l0 l1) else none
theorem holds_f {l0 : List S66} {l1 : List Cnd} (h1 : l1.length ≤ 1000) (h0 : ∀ x ∈ l0,x.f3.size ≤ 9223372036854775807) : verdererref19_Holds.f l0 l1 = some (holdsF l0 l1) := by
 unfold verdererref19_Holds.f
 rw [if_pos]
 rw [Bool.and_eq_true,List.all_eq_true]
 exact ⟨decide_eq_true h1,fun x hx => decide_eq_true (h0 x hx)⟩
theorem cond_get {w : World} {A : Option Addr} {n : Nat} {L : List Cnd} (h : Kd.C k130 w A n L) {i : Nat} (hi : i < n) {x : Cnd} (hx : L[i]? = some x) :
  ∃ ad,A = some ad ∧ w.cell? (ad.add (i * 7)) = some (.int .i64 x.f0) ∧ w.cell? ⟨(ad.add (i * 7)).block,(ad.add (i * 7)).off + 1,none⟩ = some (.int .i64 x.f1) ∧ w.cell? ⟨(ad.add (i * 7)).block,(ad.add (i * 7)).off + 2,none⟩ = some (.int .i64 x.f2)
   ∧ w.cell? ⟨(ad.add (i * 7)).block,(ad.add (i * 7)).off + 3,none⟩ = some (.int .i64 x.f3.f0) ∧ w.cell? ⟨(ad.add (i * 7)).block,(ad.add (i * 7)).off + 3 + 1,none⟩ = some (.bool x.f3.f1) ∧ w.cell? ⟨(ad.add (i * 7)).block,(ad.add (i * 7)).off + 3 + 2,none⟩ = some (.int .i64 x.f3.f2) ∧ w.cell? ⟨(ad.add (i * 7)).block,(ad.add (i * 7)).off + 3 + 3,none⟩ = some (.string x.f3.f3) := by
 obtain ⟨ad,cs,e1,hcl,hK,hcc⟩ := Kd.C_get h z130 (i : Int) (by omega) (by omega)
 simp only [Int.toNat_natCast] at hK hcc
 rw [List.getD_eq_getElem?_getD,hx] at hK
 have e2 := k130_open hK
 subst e2
 have hc : ∀ j u,[Value.int .i64 x.f0,.int .i64 x.f1,.int .i64 x.f2,.int .i64 x.f3.f0,.bool x.f3.f1,.int .i64 x.f3.f2,.string x.f3.f3][j]? = some u → w.cell? (ad.add (i * 7 + j)) = some u := hcc
 exact ⟨ad,e1,hc 0 _ rfl,by rw [← add_field _ _ 1 (by omega)];exact hc 1 _ rfl,by rw [← add_field _ _ 2 (by omega)];exact hc 2 _ rfl,by rw [← add_field _ _ 3 (by omega)];exact hc 3 _ rfl,by rw [Nat.add_assoc,← add_field _ _ 4 (by omega)];exact hc 4 _ rfl,by rw [Nat.add_assoc,← add_field _ _ 5 (by omega)];exact hc 5 _ rfl,by rw [Nat.add_assoc,← add_field _ _ 6 (by omega)];exact hc 6 _ rfl⟩
theorem cellO_none {o : Option S66} {a b c d} (h : cellO o = (a,b,c,d,false)) : o = none := by
 cases o with
 | none => rfl
 | some v => simp [cellO] at h
theorem cellO_some {o : Option S66} {a b c d} (h : cellO o = (a,b,c,d,true)) : o = some ⟨a,b,c,d⟩ := by
 cases o with
 | none => simp [cellO] at h
 | some v =>
  obtain ⟨v0,v1,v2,v3⟩ := v
  simp only [cellO,Prod.mk.injEq] at h
  obtain ⟨rfl,rfl,rfl,rfl,_⟩ := h
  rfl
set_option maxHeartbeats 4000000 in
set_option maxRecDepth 100000 in
theorem verdererref19_Holds.calls (A0 : Option Addr) (c0 : Nat) (l0 : List (S66)) (A1 : Option Addr) (c1 : Nat) (l1 : List (S130)) (r : Bool) (w : World) (hr0 : Kd.C k66 w A0 l0.length l0) (hc0 : l0.length ≤ c0) (hr1 : Kd.C k130 w A1 l1.length l1) (hc1 : l1.length ≤ c1) (h : verdererref19_Holds.f l0 l1 = some r) :
  Calls Try.prog 89 #[.slice A0 l0.length c0,.slice A1 l1.length c1] w fun e w' => e = .returned (.bool r) ∧ Below w.heap.size w w' := by
 unfold verdererref19_Holds.f at h
 split at h
 case isFalse => cases h
 case isTrue hb =>
 obtain rfl := Option.some.inj h
 rw [Bool.and_eq_true,List.all_eq_true] at hb
 have HB := Aside0.mk (show l1.length ≤ 1000 ∧ ∀ x ∈ l0,x.f3.size ≤ 9223372036854775807 from ⟨of_decide_eq_true hb.1,fun x hx => of_decide_eq_true (hb.2 x hx)⟩)
 have HR := Aside0.mk (And.intro hr0 hc0)
 have HC := Aside0.mk hr1
 obtain ⟨n,hn⟩ : ∃ n,l1.length = n := ⟨_,rfl⟩
 have LN := Aside0.mk hn
 rw [hn] at HC hc1 HB ⊢
 obtain ⟨res,hres⟩ : ∃ res,holdsF l0 l1 = res := ⟨_,rfl⟩
 have RES := Aside0.mk hres
 rw [hres]
 have nb : n ≤ 1000 := HB.out.1
 clear hb h hr0 hc0 hr1 hn hres
 go_enter Try.func89,Try.ntmps89
 go_wp2_with (fail)
 go_loopw [5] (fun iv wr => ∃ i : Nat,iv = .int .i64 (i : Int) ∧ i ≤ n ∧ Aside0 (holdsF l0 (l1.drop i) = res) ∧ Aside0 (Below w.heap.size w wr)) (fun iv _ => n - (intOf iv).toNat)
 case atStart => exact ⟨0,rfl,Nat.zero_le _,⟨by rw [List.drop_zero];exact RES.out⟩,⟨Below.refl _ _⟩⟩
 case round =>
  rename World => wr
  obtain ⟨i,rfl,hi,HF,IB⟩ := hrel
  by_cases hin : i < n
  ·have k0 : decide ((i : Int) < (n : Int)) = true := decide_eq_true (by omega)
   have k0' : decide (i < n) = true := decide_eq_true hin
   have p0 : (0 : Int) ≤ (i : Int) := by omega
   have p1 : (i : Int) < (n : Int) := by omega
   obtain ⟨x,hx⟩ : ∃ x,l1[i]? = some x := ⟨l1[i]'(by have := LN.out;omega),List.getElem?_eq_getElem _⟩
   obtain ⟨ad,e1,q0,q1,q2,q3,q4,q5,q6⟩ := cond_get HC.out hin hx
   subst e1
   have HF2 := Aside0.mk (show (holdF l0 x && holdsF l0 (l1.drop (i + 1))) = res by
    have h1 := HF.out
    have hil : i < l1.length := by have := LN.out;omega
    rw [List.drop_eq_getElem_cons hil] at h1
    rw [List.getElem?_eq_getElem hil] at hx
    rw [← Option.some.inj hx]
    exact h1)
   have Q0 := Aside0.mk (And.intro q0 (And.intro q1 (And.intro q2 (And.intro q3 (And.intro q4 (And.intro q5 q6))))))
   have CA := Aside0.mk (fun W (hb : Below w.heap.size w W) (j : Int) b0 b1 b2 b3 b4 (he : cellO (cellF l0 j) = (b0,b1,b2,b3,b4)) => verdererref19_cell.calls A0 c0 l0 j b0 b1 b2 b3 b4 W (Kd.C_below HR.out.1 hb) HR.out.2 (by rw [rcell_f,he]))
   obtain ⟨⟨a0,a1,a2,a3,a4⟩,ha⟩ : ∃ a,cellO (cellF l0 x.f0) = a := ⟨_,rfl⟩
   obtain ⟨⟨b0,b1,b2,b3,b4⟩,hb⟩ : ∃ a,cellO (cellF l0 x.f2) = a := ⟨_,rfl⟩
   have AE := Aside0.mk ha
   have BE := Aside0.mk hb
   replace q0 := (IB.out.cell (World.block_lt_of_cell? w _ Q0.out.1)).trans q0
   clear hx q1 q2 q3 q4 q5 q6 HF ha hb
   go_wp2_with (fail)
   refine (CA.out wr IB.out x.f0 _ _ _ _ _ AE.out).mono ?_
   rintro e w1 ⟨rfl,hb⟩
   have IB1 := Aside0.mk (IB.out.trans (hb.mono IB.out.size))
   have C1 := Aside0.mk (fun (a : Addr) (v : Value) (h : w.cell? a = some v) => (IB1.out.cell (World.block_lt_of_cell? w _ h)).trans h)
   have q1 := C1.out _ _ Q0.out.2.1
   have q2 := C1.out _ _ Q0.out.2.2.1
   have q3 := C1.out _ _ Q0.out.2.2.2.1
   have q4 := C1.out _ _ Q0.out.2.2.2.2.1
   have q5 := C1.out _ _ Q0.out.2.2.2.2.2.1
   have q6 := C1.out _ _ Q0.out.2.2.2.2.2.2
   clear hb q0 IB
   go_upto_region 5 with (fail)
   have IB2 := Aside0.mk (IB1.out.trans ((q0b (Below.refl w1.heap.size w1) (Obj.cells #[.int .i64 a0,.bool a1,.int .i64 a2,.string a3] 66)).mono IB1.out.size))
   have KA := Aside0.mk (blk_new w1 (Obj.cells #[.int .i64 a0,.bool a1,.int .i64 a2,.string a3] 66))
   obtain ⟨g1,hg1⟩ : ∃ g1,w1.heap.size = g1 := ⟨_,rfl⟩
   rw [hg1] at KA ⊢
   clear q1 q2 q3 q4 q5 q6 C1 IB1 hg1
   generalize w1.alloc (Obj.cells #[.int .i64 a0,.bool a1,.int .i64 a2,.string a3] 66) = w2 at *
   have C2 := Aside0.mk (fun (a : Addr) (v : Value) (h : w.cell? a = some v) => (IB2.out.cell (World.block_lt_of_cell? w _ h)).trans h)
   have q1 := C2.out _ _ Q0.out.2.1
   have q2 := C2.out _ _ Q0.out.2.2.1
   have q3 := C2.out _ _ Q0.out.2.2.2.1
   have q4 := C2.out _ _ Q0.out.2.2.2.2.1
   have q5 := C2.out _ _ Q0.out.2.2.2.2.2.1
   have q6 := C2.out _ _ Q0.out.2.2.2.2.2.2
   go_upto_region 6 with (fail)
   have IB3 := Aside0.mk (IB2.out.trans ((q0b (Below.refl w2.heap.size w2) (Obj.cells #[.int .i64 x.f3.f0,.bool x.f3.f1,.int .i64 x.f3.f2,.string x.f3.f3] 66)).mono IB2.out.size))
   have KA3 := Aside0.mk (q0f KA.out (Obj.cells #[.int .i64 x.f3.f0,.bool x.f3.f1,.int .i64 x.f3.f2,.string x.f3.f3] 66))
   have KB3 := Aside0.mk (blk_new w2 (Obj.cells #[.int .i64 x.f3.f0,.bool x.f3.f1,.int .i64 x.f3.f2,.string x.f3.f3] 66))
   have GNE := Aside0.mk (show g1 ≠ w2.heap.size from Nat.ne_of_lt (q0t KA.out))
   obtain ⟨g2,hg2⟩ : ∃ g2,w2.heap.size = g2 := ⟨_,rfl⟩
   have GB := Aside0.mk (show w.heap.size ≤ w2.heap.size from IB2.out.size)
   rw [hg2] at KB3 GNE GB ⊢
   clear q1 q2 q3 q4 q5 q6 C2 IB2 KA hg2
   generalize w2.alloc (Obj.cells #[.int .i64 x.f3.f0,.bool x.f3.f1,.int .i64 x.f3.f2,.string x.f3.f3] 66) = w3 at *
   have C3 := Aside0.mk (fun (a : Addr) (v : Value) (h : w.cell? a = some v) => (IB3.out.cell (World.block_lt_of_cell? w _ h)).trans h)
   have q1 := C3.out _ _ Q0.out.2.1
   have q2 := C3.out _ _ Q0.out.2.2.1
   by_cases h2 : 0 ≤ x.f2
   ·have d2 : decide ((0 : Int) ≤ x.f2) = true := decide_eq_true h2
    have H2 := Aside0.mk h2
    go_wp2_with (fail)
    refine (CA.out w3 IB3.out x.f2 _ _ _ _ _ BE.out).mono ?_
    rintro e w4 ⟨rfl,hb⟩
    have IB4 := Aside0.mk (IB3.out.trans (hb.mono IB3.out.size))
    have KA4 := Aside0.mk (q0p KA3.out hb)
    have KB4 := Aside0.mk (q0p KB3.out hb)
    clear hb q1 q2 C3 IB3 KA3 KB3
    have y0 := (q0e KB4.out 0).trans rfl
    have y1 := (q0e KB4.out 1).trans rfl
    have y2 := (q0e KB4.out 2).trans rfl
    have y3 := (q0e KB4.out 3).trans rfl
    have z := fun o => q0d KB4.out o
    go_upto_region 9 with (fail)
    have KB5 := Aside0.mk (q0r (q0r (q0r (q0r KB4.out 0 (.int .i64 b0) rfl) 1 (.bool b1) rfl) 2 (.int .i64 b2) rfl) 3 (.string b3) rfl)
    have KA5 := Aside0.mk (show ((((w4.setCell ⟨g2,0,none⟩ (.int .i64 b0)).setCell ⟨g2,1,none⟩ (.bool b1)).setCell ⟨g2,2,none⟩ (.int .i64 b2)).setCell ⟨g2,3,none⟩ (.string b3)).heap[g1]? = some (Obj.cells #[.int .i64 a0,.bool a1,.int .i64 a2,.string a3] 66 (0,0)) by
     rw [Below.heap_setCell _ _ _ _ GNE.out,Below.heap_setCell _ _ _ _ GNE.out,Below.heap_setCell _ _ _ _ GNE.out,Below.heap_setCell _ _ _ _ GNE.out]
     exact KA4.out)
    have IB5 := Aside0.mk (show Below w.heap.size w ((((w4.setCell ⟨g2,0,none⟩ (.int .i64 b0)).setCell ⟨g2,1,none⟩ (.bool b1)).setCell ⟨g2,2,none⟩ (.int .i64 b2)).setCell ⟨g2,3,none⟩ (.string b3)) from (((IB4.out.setCell (p := ⟨g2,0,none⟩) GB.out _).setCell (p := ⟨g2,1,none⟩) GB.out _).setCell (p := ⟨g2,2,none⟩) GB.out _).setCell (p := ⟨g2,3,none⟩) GB.out _)
    clear KA4 KB4 IB4 y0 y1 y2 y3 z
    generalize (((w4.setCell ⟨g2,0,none⟩ (.int .i64 b0)).setCell ⟨g2,1,none⟩ (.bool b1)).setCell ⟨g2,2,none⟩ (.int .i64 b2)).setCell ⟨g2,3,none⟩ (.string b3) = w5 at *
    have q1 := (IB5.out.cell (World.block_lt_of_cell? w _ Q0.out.2.1)).trans Q0.out.2.1
    cases a4 with
    | false =>
     obtain rfl : false = res := by have := HF2.out;rw [show holdF l0 x = false from (by unfold holdF;rw [cellO_none AE.out])] at this;exact this
     go_quiet (fail)
     go_wp2_with (fail)
     go_ret
     exact ⟨rfl,IB5.out.trans ((SameW.drewN w5 _).below _)⟩
    | true =>
     cases b4 with
     | false =>
      obtain rfl : false = res := by have := HF2.out;rw [show holdF l0 x = false from (by unfold holdF;rw [cellO_some AE.out];simp only;rw [if_pos H2.out,cellO_none BE.out])] at this;exact this
      go_quiet (fail)
      go_wp2_with (fail)
      go_ret
      exact ⟨rfl,IB5.out.trans ((SameW.drewN w5 _).below _)⟩
     | true =>
      obtain ⟨tv,htv⟩ : ∃ tv,opT x.f1 (vcmp ⟨a0,a1,a2,a3⟩ ⟨b0,b1,b2,b3⟩) = tv := ⟨_,rfl⟩
      have HH := Aside0.mk (show (tv && holdsF l0 (l1.drop (i + 1))) = res by have := HF2.out;rw [show holdF l0 x = tv from ((show holdF l0 x = opT x.f1 (vcmp ⟨a0,a1,a2,a3⟩ ⟨b0,b1,b2,b3⟩) by unfold holdF;rw [cellO_some AE.out];simp only;rw [if_pos H2.out,cellO_some BE.out])).trans htv] at this;exact this)
      have TC := Aside0.mk (fun W => verdererref01_Test.calls (2 * a3.size + 2) x.f1 a0 a1 a2 a3 b0 b1 b2 b3 tv W (by rw [testR_f x.f1 ⟨a0,a1,a2,a3⟩ ⟨b0,b1,b2,b3⟩ (HB.out.2 ⟨a0,a1,a2,a3⟩ (cell_in (cellO_some AE.out))) _ (by show 2 * a3.size + 1 < _;omega),htv]))
      have u0 := (q0e KA5.out 0).trans rfl
      have u1 := (q0e KA5.out 1).trans rfl
      have u2 := (q0e KA5.out 2).trans rfl
      have u3 := (q0e KA5.out 3).trans rfl
      have v0 := (q0e KB5.out 0).trans rfl
      have v1 := (q0e KB5.out 1).trans rfl
      have v2 := (q0e KB5.out 2).trans rfl
      have v3 := (q0e KB5.out 3).trans rfl
      clear htv HF2
      go_region_held3 (fun w' => w'.cell? ⟨(ad.add (i * 7)).block,(ad.add (i * 7)).off + 1,none⟩ = some (.int .i64 x.f1) ∧ w'.cell? ⟨g1,0,none⟩ = some (.int .i64 a0) ∧ w'.cell? ⟨g1,1,none⟩ = some (.bool a1) ∧ w'.cell? ⟨g1,2,none⟩ = some (.int .i64 a2) ∧ w'.cell? ⟨g1,3,none⟩ = some (.string a3) ∧ w'.cell? ⟨g2,0,none⟩ = some (.int .i64 b0) ∧ w'.cell? ⟨g2,1,none⟩ = some (.bool b1) ∧ w'.cell? ⟨g2,2,none⟩ = some (.int .i64 b2) ∧ w'.cell? ⟨g2,3,none⟩ = some (.string b3)) (first | go_keep | exact ⟨by assumption,by assumption,by assumption,by assumption,by assumption,by assumption,by assumption,by assumption,by assumption⟩) (first
       | (go_at_call 104;(with_reducible refine (TC.out _).mono ?_);rintro e w6 ⟨rfl,hb⟩;have IB6 := Aside0.mk (IB5.out.trans (((SameW.drew w5).below _).trans (hb.mono IB5.out.size)));replace q1 := (hb.cell (World.block_lt_of_cell? _ _ q1)).trans q1;replace u0 := (hb.cell (World.block_lt_of_cell? _ _ u0)).trans u0;replace u1 := (hb.cell (World.block_lt_of_cell? _ _ u1)).trans u1;replace u2 := (hb.cell (World.block_lt_of_cell? _ _ u2)).trans u2;replace u3 := (hb.cell (World.block_lt_of_cell? _ _ u3)).trans u3;replace v0 := (hb.cell (World.block_lt_of_cell? _ _ v0)).trans v0;replace v1 := (hb.cell (World.block_lt_of_cell? _ _ v1)).trans v1;replace v2 := (hb.cell (World.block_lt_of_cell? _ _ v2)).trans v2;replace v3 := (hb.cell (World.block_lt_of_cell? _ _ v3)).trans v3;clear hb))
      cases tv with
      | false =>
       obtain rfl : false = res := HH.out
       go_wp2_with (fail)
       go_ret
       exact ⟨rfl,IB6.out⟩
      | true =>
       go_wp2_with (fail)
       go_roundw
       case rel => exact ⟨i + 1,by go_num,hin,⟨HH.out⟩,IB6⟩
       case measure => simp [intOf];omega
   ·have d2 : decide ((0 : Int) ≤ x.f2) = false := decide_eq_false h2
    have H2 := Aside0.mk h2
    go_upto_region 9 with (fail)
    have KB5 := KB3
    have KA5 := KA3
    have IB5 := IB3
    obtain ⟨w5,hw5⟩ : ∃ W,W = w3 := ⟨_,rfl⟩
    subst hw5
    clear KA3 KB3 IB3 C3 q2
    cases a4 with
    | false =>
     obtain rfl : false = res := by have := HF2.out;rw [show holdF l0 x = false from (by unfold holdF;rw [cellO_none AE.out])] at this;exact this
     go_quiet (fail)
     go_wp2_with (fail)
     go_ret
     exact ⟨rfl,IB5.out.trans ((SameW.drewN w5 _).below _)⟩
    | true =>
     obtain ⟨tv,htv⟩ : ∃ tv,opT x.f1 (vcmp ⟨a0,a1,a2,a3⟩ ⟨x.f3.f0,x.f3.f1,x.f3.f2,x.f3.f3⟩) = tv := ⟨_,rfl⟩
     have HH := Aside0.mk (show (tv && holdsF l0 (l1.drop (i + 1))) = res by have := HF2.out;rw [show holdF l0 x = tv from ((show holdF l0 x = opT x.f1 (vcmp ⟨a0,a1,a2,a3⟩ ⟨x.f3.f0,x.f3.f1,x.f3.f2,x.f3.f3⟩) by unfold holdF;rw [cellO_some AE.out];simp only;rw [if_neg H2.out])).trans htv] at this;exact this)
     have TC := Aside0.mk (fun W => verdererref01_Test.calls (2 * a3.size + 2) x.f1 a0 a1 a2 a3 x.f3.f0 x.f3.f1 x.f3.f2 x.f3.f3 tv W (by rw [testR_f x.f1 ⟨a0,a1,a2,a3⟩ ⟨x.f3.f0,x.f3.f1,x.f3.f2,x.f3.f3⟩ (HB.out.2 ⟨a0,a1,a2,a3⟩ (cell_in (cellO_some AE.out))) _ (by show 2 * a3.size + 1 < _;omega),htv]))
     have u0 := (q0e KA5.out 0).trans rfl
     have u1 := (q0e KA5.out 1).trans rfl
     have u2 := (q0e KA5.out 2).trans rfl
     have u3 := (q0e KA5.out 3).trans rfl
     have v0 := (q0e KB5.out 0).trans rfl
     have v1 := (q0e KB5.out 1).trans rfl
     have v2 := (q0e KB5.out 2).trans rfl
     have v3 := (q0e KB5.out 3).trans rfl
     clear htv HF2
     go_region_held3 (fun w' => w'.cell? ⟨(ad.add (i * 7)).block,(ad.add (i * 7)).off + 1,none⟩ = some (.int .i64 x.f1) ∧ w'.cell? ⟨g1,0,none⟩ = some (.int .i64 a0) ∧ w'.cell? ⟨g1,1,none⟩ = some (.bool a1) ∧ w'.cell? ⟨g1,2,none⟩ = some (.int .i64 a2) ∧ w'.cell? ⟨g1,3,none⟩ = some (.string a3) ∧ w'.cell? ⟨g2,0,none⟩ = some (.int .i64 x.f3.f0) ∧ w'.cell? ⟨g2,1,none⟩ = some (.bool x.f3.f1) ∧ w'.cell? ⟨g2,2,none⟩ = some (.int .i64 x.f3.f2) ∧ w'.cell? ⟨g2,3,none⟩ = some (.string x.f3.f3)) (first | go_keep | exact ⟨by assumption,by assumption,by assumption,by assumption,by assumption,by assumption,by assumption,by assumption,by assumption⟩) (first
      | (go_at_call 104;(with_reducible refine (TC.out _).mono ?_);rintro e w6 ⟨rfl,hb⟩;have IB6 := Aside0.mk (IB5.out.trans (((SameW.drew w5).below _).trans (hb.mono IB5.out.size)));replace q1 := (hb.cell (World.block_lt_of_cell? _ _ q1)).trans q1;replace u0 := (hb.cell (World.block_lt_of_cell? _ _ u0)).trans u0;replace u1 := (hb.cell (World.block_lt_of_cell? _ _ u1)).trans u1;replace u2 := (hb.cell (World.block_lt_of_cell? _ _ u2)).trans u2;replace u3 := (hb.cell (World.block_lt_of_cell? _ _ u3)).trans u3;replace v0 := (hb.cell (World.block_lt_of_cell? _ _ v0)).trans v0;replace v1 := (hb.cell (World.block_lt_of_cell? _ _ v1)).trans v1;replace v2 := (hb.cell (World.block_lt_of_cell? _ _ v2)).trans v2;replace v3 := (hb.cell (World.block_lt_of_cell? _ _ v3)).trans v3;clear hb))
     cases tv with
     | false =>
      obtain rfl : false = res := HH.out
      go_wp2_with (fail)
      go_ret
      exact ⟨rfl,IB6.out⟩
     | true =>
      go_wp2_with (fail)
      go_roundw
      case rel => exact ⟨i + 1,by go_num,hin,⟨HH.out⟩,IB6⟩
      case measure => simp [intOf];omega
  ·have k0 : decide ((i : Int) < (n : Int)) = false := decide_eq_false (by omega)
   have k0' : decide (i < n) = false := decide_eq_false hin
   obtain rfl : true = res := by
    have := HF.out
    rw [List.drop_of_length_le (by have := LN.out;omega)] at this
    exact this
   go_wp2_with (fail)
   go_ret
   exact ⟨rfl,IB.out⟩
end Go.Proofs.Ythmbfcfomcaaaaa.Z
end
section
namespace Go.Proofs.Ythmbfcfomcaaaaa.Z
open Go.RowKit Go.Proofs.YthmbfcfomcaaaaaW.PrintWords Go.Proofs.YthmbfcfomcaaaaaW.PrintLast Go.Proofs.YthmbfcfomcaaaaaW.PrintMore
attribute [local go_sem] max2_int min2_int max_two min_two max_three min_three max_four min_four
set_option linter.unusedVariables false
set_option linter.unusedSimpArgs false
def verdererref20_Where.l0 : Nat → List (S34) → List (S130) → List (S34) → Int → Option ((List (S34)))
 | 0,_,_,_,_ => none
 | k + 1,x0,x1,x5,x6 => if x6 < (x0.length : Int) then (if 0 ≤ x6 then ((verdererref19_Holds.f ((q0s x0 x6).f0) x1).bind fun t222 => (if t222 = true then (if x5.length < 4398046511104 then (verdererref20_Where.l0 k x0 x1 (x5 ++ [(⟨(q0s x0 x6).f0,(q0s x0 x6).f1⟩ : S34)]) (wrap64 (x6 + 1))) else (none)) else (verdererref20_Where.l0 k x0 x1 x5 (wrap64 (x6 + 1))))) else (none)) else (some x5)
def verdererref20_Where.f (k : Nat) (l0 : List (S34)) (l1 : List (S130)) : Option ((List (S34))) := verdererref20_Where.l0 k l0 l1 ([] : List (S34)) 0
theorem verdererref20_Where.mono_l : ∀ k,(∀ y0 y1 y2 y3,LeO (verdererref20_Where.l0 k y0 y1 y2 y3) (verdererref20_Where.l0 (k + 1) y0 y1 y2 y3))
 | 0 => fun _ _ _ _ r h => by simp [verdererref20_Where.l0] at h
 | k + 1 => by
  have ih0 := verdererref20_Where.mono_l k
  ·intro y0 y1 y2 y3
   unfold verdererref20_Where.l0
   repeat' first
   | (with_reducible exact ih0 _ _ _ _)
   | (with_reducible exact LeO.refl _)
   | (with_reducible exact LeO.none _)
   | (with_reducible refine LeO.ite ?_ ?_)
   | (with_reducible refine LeO.bind ?_ (fun _ => ?_))
   | exact ih0 _ _ _ _
   | exact LeO.none _
   | refine LeO.ite ?_ ?_
   | refine LeO.bind ?_ (fun _ => ?_)
theorem verdererref20_Where.mono : ∀ a0 a1 k,LeO (verdererref20_Where.f k a0 a1) (verdererref20_Where.f (k + 1) a0 a1) := by
 intro a0 a1 k
 have ih0 := verdererref20_Where.mono_l k
 unfold verdererref20_Where.f
 repeat' first
   | (with_reducible exact ih0 _ _ _ _)
   | (with_reducible exact LeO.refl _)
   | (with_reducible exact LeO.none _)
   | (with_reducible refine LeO.ite ?_ ?_)
   | (with_reducible refine LeO.bind ?_ (fun _ => ?_))
   | exact ih0 _ _ _ _
   | exact LeO.none _
   | refine LeO.ite ?_ ?_
   | refine LeO.bind ?_ (fun _ => ?_)
set_option maxHeartbeats 8000000 in
set_option maxRecDepth 100000 in
theorem verdererref20_Where.calls (k : Nat) (P0_ : Nat → Prop) (A0 : Option Addr) (c0 : Nat) (l0 : List (S34)) (A1 : Option Addr) (c1 : Nat) (l1 : List (S130)) (r : List (S34)) (w : World) (hs0 : Kd.V k34 34 w w.heap.size (fun k_ => P0_ k_) (.slice A0 l0.length c0) l0) (hr1 : Kd.C k130 w A1 l1.length l1) (hc1 : l1.length ≤ c1) (h : verdererref20_Where.f k l0 l1 = some r) :
  Calls Try.prog 58 #[.slice A0 l0.length c0,.slice A1 l1.length c1] w fun e w' => ∃ v0_ : Value,e = .returned (v0_) ∧ Kd.N k34 34 w' w.heap.size (fun k_ => (P0_ k_ ∨ w.heap.size ≤ k_)) v0_ r ∧ Below w.heap.size w w' := by
 have hu34 := Try.underlying34
 have HO0 := Aside0.mk (show Kd.V k34 34 w w.heap.size (fun k_ => (P0_ k_ ∨ w.heap.size ≤ k_)) (.slice A0 l0.length c0) l0 from Kd.V_mono hs0 (fun k_ hk => .inl hk))
 have HR1 := Aside0.mk hr1
 have HC1 := Aside0.mk hc1
 clear hr1 hc1
 have HB := Aside0.mk (Below.refl w.heap.size w)
 have H : (verdererref20_Where.l0 k l0 l1 ([] : List (S34)) 0) = some r := h
 clear h
 have H' := Aside0.mk H
 clear H
 go_enter Try.func58,Try.ntmps58
 go_wp2
 go_loopg [5,6] k (fun kq v5 v6 w' => ∃ (x5_1 : List (S34)) (x6_1 : Int),v6 = .int .i64 x6_1 ∧ Aside0 (verdererref20_Where.l0 kq l0 l1 x5_1 x6_1 = some r) ∧ Aside0 (kq ≤ k) ∧ Aside0 (Kd.V k34 34 w' w.heap.size (fun k_ => (P0_ k_ ∨ w.heap.size ≤ k_) ∧ some k_ ≠ (v5 : Value).ownBlock) (.slice A0 l0.length c0) l0) ∧ Aside0 (Kd.N k34 34 w' w.heap.size (fun k_ => (P0_ k_ ∨ w.heap.size ≤ k_)) v5 x5_1) ∧ Aside0 (Below w.heap.size w w'))
 case atStart => exact ⟨(([] : List (S34))),(0),(by first | rfl | (simp;done) | (simp [*];done)),H',⟨Nat.le_refl _⟩,⟨by (with_reducible repeat (first | apply Kd.V_alloc | apply Kd.V_drewN | apply Kd.V_drew));exact Kd.V_mono HO0.out (fun _ hk => ⟨hk,(by simp [Value.ownBlock])⟩)⟩,⟨by first | exact Kd.S_nil _ _ _ _ _ | exact Kd.N_nil _ _ _ _ _ | exact Kd.V_nil _ _ _ _ _ | exact Kd.Q_nil _ _ _ _ _ | exact Kd.R_nil _ _ _ _ _⟩,⟨by repeat (first | (with_reducible first | exact HB.out | apply q0b | apply q0a | apply q0c) | exact HB.out)⟩⟩
 case round =>
  clear H'
  try clear c1
  try clear p2
  obtain ⟨x5_1,x6_1,rfl,HA,HK1,HO_0,HO_5,HB⟩ := hrel
  cases gk with
  | zero => exact absurd HA.out (by simp [verdererref20_Where.l0])
  | succ k1 =>
   have H := HA.out
   clear HA
   simp only [verdererref20_Where.l0] at H
   by_cases c3 : x6_1 < (l0.length : Int)
   ·rw [if_pos c3] at H
    have c3b0 : decide (x6_1 < (l0.length : Int)) = true := decide_eq_true c3
    clear c3
    by_cases c4 : 0 ≤ x6_1
    ·rw [if_pos c4] at H
     have c4b0 : decide (0 ≤ x6_1) = true := decide_eq_true c4
     clear c4
     replace H := Option.bind_eq_some_iff.mp H
     obtain ⟨t222,A50,H⟩ := H
     replace H : (if t222 = true then (if x5_1.length < 4398046511104 then (verdererref20_Where.l0 k1 l0 l1 (x5_1 ++ [(⟨(q0s l0 x6_1).f0,(q0s l0 x6_1).f1⟩ : S34)]) (wrap64 (x6_1 + 1))) else (none)) else (verdererref20_Where.l0 k1 l0 l1 x5_1 (wrap64 (x6_1 + 1)))) = some r := H
     have A5 := Aside0.mk A50
     clear A50
     by_cases c6 : t222 = true
     ·subst c6
      have H1 : (if x5_1.length < 4398046511104 then (verdererref20_Where.l0 k1 l0 l1 (x5_1 ++ [(⟨(q0s l0 x6_1).f0,(q0s l0 x6_1).f1⟩ : S34)]) (wrap64 (x6_1 + 1))) else (none)) = some r := by rw [if_pos rfl] at H;exact H
      clear H
      have H := H1
      clear H1
      by_cases c7 : x5_1.length < 4398046511104
      ·rw [if_pos c7] at H
       have LMc7 := Aside0.mk c7
       clear c7
       obtain ⟨y224,hy224⟩ : ∃ y_ : List (S34),y_ = (x5_1 ++ [(⟨(q0s l0 x6_1).f0,(q0s l0 x6_1).f1⟩ : S34)]) := ⟨_,rfl⟩
       replace H : (verdererref20_Where.l0 k1 l0 l1 y224 (wrap64 (x6_1 + 1))) = some r := by first | (rw [hy224];with_reducible exact H) | (have H2_ := (Option.bind_some _ _).symm.trans H;rw [hy224];with_reducible exact H2_) | (have H2_ := (Option.bind_some _ _).symm.trans H;with_reducible exact H2_) | with_reducible exact H | (rw [hy224];exact H) | exact H
       have Ny224 := Aside0.mk hy224
       clear hy224
       have H' := Aside0.mk H
       clear H
       have p221 : 0 ≤ (x6_1 : Int) := of_decide_eq_true (by first | (with_reducible assumption) | assumption)
       have q221 : x6_1 < (l0.length : Int) := of_decide_eq_true (by first | (with_reducible assumption) | assumption)
       obtain ⟨ad221,A221_0,c221_0,e221,hx221_0,hx221_1,hl221_0,hi221_0⟩ := at_T34 (Kd.V_reads' HO_0.out).2.2 x6_1 p221 q221
       cases e221
       obtain ⟨ce221,hce221,hMe221,hcc221⟩ := Kd.V_get HO_0.out z34 x6_1 p221 (by first | exact q221 | exact of_decide_eq_true (by first | (with_reducible assumption) | assumption) | (have e_ := (Kd.V_reads' HO_0.out).1;omega))
       obtain ⟨ua221_0,uc221_0,rfl,ul221_0,ge221_0⟩ := k34_openF hMe221
       have hv221_0 := hcc221 0 _ rfl
       rw [Nat.add_zero] at hv221_0
       replace hv221_0 := Option.some.inj (hv221_0.symm.trans hx221_0)
       injection hv221_0 with hva_ hvn_ hvc_
       rw [hva_] at ge221_0
       rw [hvc_] at ul221_0
       have HL221_0 := Aside0.mk (show Kd.V k66 66 _ w.heap.size _ _ ((q0s l0 x6_1).f0) from Kd.V_mk ul221_0 ge221_0)
       clear hva_ hvn_ hvc_ ge221_0 ul221_0
       clear hcc221 hce221
       have HR221_0 := Aside0.mk hi221_0
       have HC221_0 := Aside0.mk hl221_0
       clear hi221_0 hl221_0
       replace p221 := eq_true p221
       replace q221 := eq_true q221
       go_wp2_with (first | ((with_reducible refine q0v (f := 89) rfl ?_);refine goesL_ (some 19) rfl rfl Try.func89 (by kernel_rfl) rfl #[.slice A221_0 ((q0s l0 x6_1).f0).length c221_0,.slice A1 l1.length c1] rfl (by (try simp only [List.map_toArray,List.map_cons,List.map_nil]);first | done | rfl | (simp only [List.length_drop,List.length_take];rfl)) ?_;(with_reducible refine (verdererref19_Holds.calls _ _ ((q0s l0 x6_1).f0) _ _ l1 true _ ?side1 ?side2 ?side3 ?side4 A5.out).mono ?_);(case side1 => repeat (first | exact (by repeat (first | (with_reducible exact HR221_0.out) | (with_reducible refine Kd.C_alloc ?_ _) | (with_reducible refine Kd.C_drewN ?_ _) | (with_reducible refine Kd.C_drew ?_) | exact HR221_0.out)) | (with_reducible refine Kd.C_alloc ?_ _) | (with_reducible refine Kd.C_drewN ?_ _) | (with_reducible refine Kd.C_drew ?_)));(case side2 => exact HC221_0.out);(case side3 => repeat (first | exact (Kd.C_below HR1.out HB.out) | (with_reducible refine Kd.C_alloc ?_ _) | (with_reducible refine Kd.C_drewN ?_ _) | (with_reducible refine Kd.C_drew ?_)));(case side4 => exact HC1.out);rintro e w8 ⟨rfl,hb⟩;refine ⟨_,rfl,?_⟩;have n0_ := Aside0.mk (Kd.V_below (by (with_reducible repeat (first | apply Kd.V_alloc | apply Kd.V_drewN | apply Kd.V_drew));exact HO_0.out) hb);have n1_ := Aside0.mk (Kd.N_below (by (with_reducible repeat (first | apply Kd.N_alloc | apply Kd.N_drewN | apply Kd.N_drew));exact HO_5.out) hb);have n2_ := Aside0.mk (Kd.V_below (by (with_reducible repeat (first | apply Kd.V_alloc | apply Kd.V_drewN | apply Kd.V_drew));exact HL221_0.out) hb);have n3_ := Aside0.mk (Kd.C_below (by repeat (first | (with_reducible exact HR221_0.out) | (with_reducible refine Kd.C_alloc ?_ _) | (with_reducible refine Kd.C_drewN ?_ _) | (with_reducible refine Kd.C_drew ?_) | exact HR221_0.out)) hb);have n4_ := Aside0.mk (q0l (by repeat (first | (with_reducible first | exact HB.out | apply q0b | apply q0a | apply q0c) | exact HB.out)) hb);clear HO_0;clear HO_5;clear HL221_0;clear HR221_0;clear HB;have HO_0 := n0_;have HO_5 := n1_;have HL221_0 := n2_;have HR221_0 := n3_;have HB := n4_;clear n0_ n1_ n2_ n3_ n4_;(try clear hb);(try clear hb2);(try clear hk);(try clear hi);have p223 : 0 ≤ (x6_1 : Int) := of_decide_eq_true (by first | (with_reducible assumption) | assumption);have q223 : x6_1 < (l0.length : Int) := of_decide_eq_true (by first | (with_reducible assumption) | assumption);obtain ⟨ad223,A223_0,c223_0,e223,hx223_0,hx223_1,hl223_0,hi223_0⟩ := at_T34 (Kd.V_reads' HO_0.out).2.2 x6_1 p223 q223;obtain rfl : ad221 = ad223 := (by injection e223);obtain ⟨ce223,hce223,hMe223,hcc223⟩ := Kd.V_get HO_0.out z34 x6_1 p223 (by first | exact q223 | exact of_decide_eq_true (by first | (with_reducible assumption) | assumption) | (have e_ := (Kd.V_reads' HO_0.out).1;omega));obtain ⟨ua223_0,uc223_0,rfl,ul223_0,ge223_0⟩ := k34_openF hMe223;have hv223_0 := hcc223 0 _ rfl;rw [Nat.add_zero] at hv223_0;replace hv223_0 := Option.some.inj (hv223_0.symm.trans hx223_0);injection hv223_0 with hva_ hvn_ hvc_;rw [hva_] at ge223_0;rw [hvc_] at ul223_0;have HL223_0 := Aside0.mk (show Kd.V k66 66 _ w.heap.size _ _ ((q0s l0 x6_1).f0) from Kd.V_mk ul223_0 ge223_0);clear hva_ hvn_ hvc_ ge223_0 ul223_0;clear hcc223 hce223;have HR223_0 := Aside0.mk hi223_0;have HC223_0 := Aside0.mk hl223_0;clear hi223_0 hl223_0;replace p223 := eq_true p223;replace q223 := eq_true q223) | ((with_reducible refine gate_builtin (b := .append) (xs := #[.tmp 20,.tmp 25]) rfl ?_);at_builtin;refine Kd.N_append k34 (w0 := w) w.heap.size rfl (.tmp 20) (.tmp 25) 22 34 (.agg #[(.slice none 0 0),(.int .i64 0)]) 32 rfl Try.underlying22 info34 rfl (by decide) (by omega) u5 x5_1 (⟨(q0s l0 x6_1).f0,(q0s l0 x6_1).f1⟩ : S34) [.slice A223_0 ((q0s l0 x6_1).f0).length c223_0,.int .i64 ((q0s l0 x6_1).f1)] (fun k_ => (P0_ k_ ∨ w.heap.size ≤ k_)) (fun k_ => ((fun k_ => (P0_ k_ ∨ w.heap.size ≤ k_))) k_ ∧ some k_ ≠ (u5 : Value).ownBlock) rfl rfl ?aP (fun _ hk => hk) ?aF ?aO ?aB ?aS ?aL ?_;(case aP => exact (k34_mkF _ _ (⟨(q0s l0 x6_1).f0,(q0s l0 x6_1).f1⟩ : S34) (Kd.V_reads' (Kd.V_mono (ok' := (fun k_ => ((fun k_ => (P0_ k_ ∨ w.heap.size ≤ k_))) k_ ∧ some k_ ≠ (u5 : Value).ownBlock)) (HL223_0.out) (fun k_ hk => ⟨hk.1,hk.2⟩))).2.1 (Kd.V_F (Kd.V_mono (ok' := (fun k_ => ((fun k_ => (P0_ k_ ∨ w.heap.size ≤ k_))) k_ ∧ some k_ ≠ (u5 : Value).ownBlock)) (HL223_0.out) (fun k_ hk => ⟨hk.1,hk.2⟩)))));(case aB => exact (by repeat (first | (with_reducible first | exact HB.out | apply q0b | apply q0a | apply q0c) | exact HB.out)));(case aF => exact (fun k_ hk => (.inr (Nat.le_trans (q0j (by repeat (first | (with_reducible first | exact HB.out | apply q0b | apply q0a | apply q0c) | exact HB.out))) hk))));(case aO => exact (by (with_reducible repeat (first | apply Kd.N_alloc | apply Kd.N_drewN | apply Kd.N_drew));exact HO_5.out));(case aS => exact (q0j (by repeat (first | (with_reducible first | exact HB.out | apply q0b | apply q0a | apply q0c) | exact HB.out))));(case aL => have := LMc7.out;omega);intro v225 w9 ho hb hg hat;rw [← Ny224.out] at ho;have n0_ := Aside0.mk (Kd.V_afterv (ok := (fun k_ => (P0_ k_ ∨ w.heap.size ≤ k_))) (by (with_reducible repeat (first | apply Kd.V_alloc | apply Kd.V_drewN | apply Kd.V_drew));exact HO_0.out) hg hat);have n1_ := Aside0.mk (Kd.V_afterv (ok := (fun k_ => (P0_ k_ ∨ w.heap.size ≤ k_))) (by (with_reducible repeat (first | apply Kd.V_alloc | apply Kd.V_drewN | apply Kd.V_drew));exact HL221_0.out) hg hat);have n2_ := Aside0.mk (Kd.V_afterv (ok := (fun k_ => (P0_ k_ ∨ w.heap.size ≤ k_))) (by (with_reducible repeat (first | apply Kd.V_alloc | apply Kd.V_drewN | apply Kd.V_drew));exact HL223_0.out) hg hat);have n3_ := Aside0.mk (hb);have n4_ := Aside0.mk (ho);clear HO_0;clear HL221_0;clear HL223_0;clear HB;clear HO_5;have HO_0 := n0_;have HL221_0 := n1_;have HL223_0 := n2_;have HB := n3_;have HO226 := n4_;clear n0_ n1_ n2_ n3_ n4_;clear ho hb hg hat))
       go_roundg k1
       case measure => have := HK1.out;omega
       case rel => exact ⟨(y224),(wrap64 (x6_1 + 1)),(by first | rfl | (simp;done) | (simp [*];done)),H',⟨by have := HK1.out;omega⟩,⟨by (with_reducible repeat (first | apply Kd.V_alloc | apply Kd.V_drewN | apply Kd.V_drew));exact HO_0.out⟩,⟨by (with_reducible repeat (first | apply Kd.N_alloc | apply Kd.N_drewN | apply Kd.N_drew));exact HO226.out⟩,⟨by repeat (first | (with_reducible first | exact HB.out | apply q0b | apply q0a | apply q0c) | exact HB.out)⟩⟩
      ·rw [if_neg c7] at H
       exact absurd H (by simp)
     ·replace c6 := Bool.eq_false_iff.mpr c6
      subst c6
      have H1 : (verdererref20_Where.l0 k1 l0 l1 x5_1 (wrap64 (x6_1 + 1))) = some r := by rw [if_neg (show ¬ (false = true) by decide)] at H;exact H
      clear H
      have H := H1
      clear H1
      have H' := Aside0.mk H
      clear H
      have p221 : 0 ≤ (x6_1 : Int) := of_decide_eq_true (by first | (with_reducible assumption) | assumption)
      have q221 : x6_1 < (l0.length : Int) := of_decide_eq_true (by first | (with_reducible assumption) | assumption)
      obtain ⟨ad221,A221_0,c221_0,e221,hx221_0,hx221_1,hl221_0,hi221_0⟩ := at_T34 (Kd.V_reads' HO_0.out).2.2 x6_1 p221 q221
      cases e221
      obtain ⟨ce221,hce221,hMe221,hcc221⟩ := Kd.V_get HO_0.out z34 x6_1 p221 (by first | exact q221 | exact of_decide_eq_true (by first | (with_reducible assumption) | assumption) | (have e_ := (Kd.V_reads' HO_0.out).1;omega))
      obtain ⟨ua221_0,uc221_0,rfl,ul221_0,ge221_0⟩ := k34_openF hMe221
      have hv221_0 := hcc221 0 _ rfl
      rw [Nat.add_zero] at hv221_0
      replace hv221_0 := Option.some.inj (hv221_0.symm.trans hx221_0)
      injection hv221_0 with hva_ hvn_ hvc_
      rw [hva_] at ge221_0
      rw [hvc_] at ul221_0
      have HL221_0 := Aside0.mk (show Kd.V k66 66 _ w.heap.size _ _ ((q0s l0 x6_1).f0) from Kd.V_mk ul221_0 ge221_0)
      clear hva_ hvn_ hvc_ ge221_0 ul221_0
      clear hcc221 hce221
      have HR221_0 := Aside0.mk hi221_0
      have HC221_0 := Aside0.mk hl221_0
      clear hi221_0 hl221_0
      replace p221 := eq_true p221
      replace q221 := eq_true q221
      go_wp2_with (first | ((with_reducible refine q0v (f := 89) rfl ?_);refine goesL_ (some 19) rfl rfl Try.func89 (by kernel_rfl) rfl #[.slice A221_0 ((q0s l0 x6_1).f0).length c221_0,.slice A1 l1.length c1] rfl (by (try simp only [List.map_toArray,List.map_cons,List.map_nil]);first | done | rfl | (simp only [List.length_drop,List.length_take];rfl)) ?_;(with_reducible refine (verdererref19_Holds.calls _ _ ((q0s l0 x6_1).f0) _ _ l1 false _ ?side1 ?side2 ?side3 ?side4 A5.out).mono ?_);(case side1 => repeat (first | exact (by repeat (first | (with_reducible exact HR221_0.out) | (with_reducible refine Kd.C_alloc ?_ _) | (with_reducible refine Kd.C_drewN ?_ _) | (with_reducible refine Kd.C_drew ?_) | exact HR221_0.out)) | (with_reducible refine Kd.C_alloc ?_ _) | (with_reducible refine Kd.C_drewN ?_ _) | (with_reducible refine Kd.C_drew ?_)));(case side2 => exact HC221_0.out);(case side3 => repeat (first | exact (Kd.C_below HR1.out HB.out) | (with_reducible refine Kd.C_alloc ?_ _) | (with_reducible refine Kd.C_drewN ?_ _) | (with_reducible refine Kd.C_drew ?_)));(case side4 => exact HC1.out);rintro e w10 ⟨rfl,hb⟩;refine ⟨_,rfl,?_⟩;have n0_ := Aside0.mk (Kd.V_below (by (with_reducible repeat (first | apply Kd.V_alloc | apply Kd.V_drewN | apply Kd.V_drew));exact HO_0.out) hb);have n1_ := Aside0.mk (Kd.N_below (by (with_reducible repeat (first | apply Kd.N_alloc | apply Kd.N_drewN | apply Kd.N_drew));exact HO_5.out) hb);have n2_ := Aside0.mk (Kd.V_below (by (with_reducible repeat (first | apply Kd.V_alloc | apply Kd.V_drewN | apply Kd.V_drew));exact HL221_0.out) hb);have n3_ := Aside0.mk (Kd.C_below (by repeat (first | (with_reducible exact HR221_0.out) | (with_reducible refine Kd.C_alloc ?_ _) | (with_reducible refine Kd.C_drewN ?_ _) | (with_reducible refine Kd.C_drew ?_) | exact HR221_0.out)) hb);have n4_ := Aside0.mk (q0l (by repeat (first | (with_reducible first | exact HB.out | apply q0b | apply q0a | apply q0c) | exact HB.out)) hb);clear HO_0;clear HO_5;clear HL221_0;clear HR221_0;clear HB;have HO_0 := n0_;have HO_5 := n1_;have HL221_0 := n2_;have HR221_0 := n3_;have HB := n4_;clear n0_ n1_ n2_ n3_ n4_;(try clear hb);(try clear hb2);(try clear hk);(try clear hi)))
      go_roundg k1
      case measure => have := HK1.out;omega
      case rel => exact ⟨(x5_1),(wrap64 (x6_1 + 1)),(by first | rfl | (simp;done) | (simp [*];done)),H',⟨by have := HK1.out;omega⟩,⟨by (with_reducible repeat (first | apply Kd.V_alloc | apply Kd.V_drewN | apply Kd.V_drew));exact HO_0.out⟩,⟨by (with_reducible repeat (first | apply Kd.N_alloc | apply Kd.N_drewN | apply Kd.N_drew));exact HO_5.out⟩,⟨by repeat (first | (with_reducible first | exact HB.out | apply q0b | apply q0a | apply q0c) | exact HB.out)⟩⟩
    ·rw [if_neg c4] at H
     exact absurd H (by simp)
   ·rw [if_neg c3] at H
    have c3b0 : decide (x6_1 < (l0.length : Int)) = false := decide_eq_false c3
    clear c3
    obtain rfl := Option.some.inj H
    go_wp2
    go_ret
    exact ⟨_,by first | rfl | (simp [q0m,q0n] <;> rfl) | (simp [*,q0m,q0n] <;> rfl),by (with_reducible repeat (first | apply Kd.N_alloc | apply Kd.N_drewN | apply Kd.N_drew));exact HO_5.out,by repeat (first | (with_reducible first | exact HB.out | apply q0b | apply q0a | apply q0c) | exact HB.out)⟩
end Go.Proofs.Ythmbfcfomcaaaaa.Z
end
section
namespace Go.Proofs.Ythmbfcfomcaaaaa.Z
set_option linter.unusedVariables false
set_option linter.unusedSimpArgs false
open Go.RowKit Go.Proofs.YthmbfcfomcaaaaaW.PrintWords Go.Proofs.YthmbfcfomcaaaaaW.PrintLast Go.Proofs.YthmbfcfomcaaaaaW.PrintMore Go.Proofs.Ythmbfcfomcaaaaa.Cmp
theorem ecell_f (r : List S66) (i : Int) : eval_cell.f r i = some (cellO (cellF r i)) := by
 unfold eval_cell.f cellF
 by_cases h0 : i < 0
 ·rw [if_pos h0,if_neg (by omega)];rfl
 ·rw [if_neg h0]
  by_cases h1 : i ≥ (r.length : Int)
  ·rw [if_pos h1,if_neg (by omega)];rfl
  ·rw [if_neg h1,if_pos (by omega),if_pos (by omega),if_pos (by omega)];rfl
theorem holds1_f (r : List S66) (c : Cnd) (k : Nat) (hk : 0 < k) : eval_holds.f k r c.f0 c.f1 c.f2 c.f3.f0 c.f3.f1 c.f3.f2 c.f3.f3 = some (holdF r c) := by
 obtain ⟨k,rfl⟩ : ∃ m,k = m + 1 := ⟨k - 1,by omega⟩
 unfold eval_holds.f holdF
 rw [ecell_f,Option.bind_some]
 cases h : cellF r c.f0 with
 | none => simp [cellO,eval_holds.j0]
 | some a =>
  simp only [cellO]
  rw [if_pos trivial]
  by_cases h2 : 0 ≤ c.f2
  ·rw [if_pos h2]
   simp only [eval_holds.j0]
   rw [if_pos (by simpa using h2),ecell_f,Option.bind_some]
   cases h3 : cellF r c.f2 with
   | none => simp [cellO]
   | some b =>
    simp only [cellO]
    rw [if_pos trivial,test_f,Option.bind_some]
  ·rw [if_neg h2]
   simp only [eval_holds.j0]
   rw [if_neg (by simpa using h2),if_pos trivial,test_f,Option.bind_some]
theorem eholds_l0 (r : List S66) (l : List Cnd) (hl : l.length ≤ 1000) : ∀ d i k,l.length - i = d → i ≤ l.length → d + 1 < k → eval_Holds.l0 k r l (l.length : Int) (i : Int) = some (holdsF r (l.drop i)) := by
 intro d
 induction d with
 | zero =>
  intro i k hd hi hk
  obtain ⟨k,rfl⟩ : ∃ m,k = m + 1 := ⟨k - 1,by omega⟩
  simp only [eval_Holds.l0]
  rw [if_neg (by omega),List.drop_of_length_le (by omega)]
  rfl
 | succ d ih =>
  intro i k hd hi hk
  obtain ⟨k,rfl⟩ : ∃ m,k = m + 1 := ⟨k - 1,by omega⟩
  simp only [eval_Holds.l0]
  rw [if_pos (by omega),if_pos (by omega),if_pos (by omega),holds1_f _ _ _ (by omega),Option.bind_some,dropC_rd (show i < l.length by omega),show wrap64 ((i : Int) + 1) = ((i + 1 : Nat) : Int) by unfold wrap64;omega]
  show _ = some (holdF r _ && holdsF r _)
  cases h : holdF r (q0u l (i : Int)) with
  | false => rw [if_neg (by simp)];rfl
  | true => rw [if_pos rfl,ih (i + 1) k (by omega) (by omega) (by omega)];rfl
theorem rdE2_get {L : List S34} {i : Nat} (hi : i < L.length) : q0s L (i : Int) = L[i] := by unfold q0s;simp [List.getD,List.getElem?_eq_getElem hi]
theorem dropE_rd {xs : List S34} {i : Nat} (h : i < xs.length) : xs.drop i = q0s xs (i : Int) :: xs.drop (i + 1) := by rw [rdE2_get h];exact List.drop_eq_getElem_cons h
theorem where_l0 (l : List S34) (c : List Cnd) (hl : l.length ≤ 1000) (hc : c.length ≤ 1000) (hr : ∀ e ∈ l,e.f0.length ≤ 1000) : ∀ d i k acc,l.length - i = d → i ≤ l.length → acc.length ≤ i → d + c.length + 2 < k → pick_Where.l0 k c acc l (l.length : Int) (i : Int) = some (acc ++ whereF (l.drop i) c) := by
 intro d
 induction d with
 | zero =>
  intro i k acc hd hi ha hk
  obtain ⟨k,rfl⟩ : ∃ m,k = m + 1 := ⟨k - 1,by omega⟩
  simp only [pick_Where.l0]
  rw [if_neg (by omega),List.drop_of_length_le (by omega)]
  simp [whereF]
 | succ d ih =>
  intro i k acc hd hi ha hk
  obtain ⟨k,rfl⟩ : ∃ m,k = m + 1 := ⟨k - 1,by omega⟩
  simp only [pick_Where.l0]
  have hin : i < l.length := by omega
  have hm : q0s l (i : Int) ∈ l := by rw [rdE2_get hin];exact List.getElem_mem _
  rw [if_pos (by omega),if_pos (by omega),if_pos (by omega),dropE_rd hin,show wrap64 ((i : Int) + 1) = ((i + 1 : Nat) : Int) by unfold wrap64;omega]
  have he := eholds_l0 (q0s l (i : Int)).f0 c hc c.length 0 k (by omega) (by omega) (by omega)
  have he2 : eval_Holds.f k (q0s l (i : Int)).f0 c = some (holdsF (q0s l (i : Int)).f0 c) := by
   unfold eval_Holds.f;rw [List.drop_zero] at he;exact he
  rw [he2,Option.bind_some]
  have hw : whereF (q0s l (i : Int) :: l.drop (i + 1)) c = if holdsF (q0s l (i : Int)).f0 c = true then q0s l (i : Int) :: whereF (l.drop (i + 1)) c else whereF (l.drop (i + 1)) c := by
   unfold whereF;rw [List.filter_cons]
  rw [hw]
  have hrl := hr _ hm
  cases holdsF (q0s l (i : Int)).f0 c with
  | true =>
   rw [if_pos rfl,if_pos rfl,of_f _ (by omega),Option.bind_some,if_pos (by omega),ih (i + 1) k _ (by omega) (by omega) (by rw [List.length_append,List.length_singleton];omega) (by omega),List.append_assoc]
   rfl
  | false =>
   rw [if_neg (by simp),if_neg (by simp),ih (i + 1) k acc (by omega) (by omega) (by omega) (by omega)]
theorem where_f (l : List S34) (c : List Cnd) (hl : l.length ≤ 1000) (hc : c.length ≤ 1000) (hr : ∀ e ∈ l,e.f0.length ≤ 1000) : pick_Where.f 3000 l c = some (whereF l c) := by
 unfold pick_Where.f
 have := where_l0 l c hl hc hr l.length 0 3000 [] (by omega) (by omega) (by simp) (by omega)
 rw [List.drop_zero] at this
 exact this
theorem rwhere_l0 (l : List S34) (c : List Cnd) (hl : l.length ≤ 1000) (hc : c.length ≤ 1000) (hM : ∀ e ∈ l,∀ x ∈ e.f0,x.f3.size ≤ 9223372036854775807) : ∀ d i k acc,l.length - i = d → i ≤ l.length → acc.length ≤ i → d < k → verdererref20_Where.l0 k l c acc (i : Int) = some (acc ++ whereF (l.drop i) c) := by
 intro d
 induction d with
 | zero =>
  intro i k acc hd hi ha hk
  obtain ⟨k,rfl⟩ : ∃ m,k = m + 1 := ⟨k - 1,by omega⟩
  simp only [verdererref20_Where.l0]
  rw [if_neg (by omega),List.drop_of_length_le (by omega)]
  simp [whereF]
 | succ d ih =>
  intro i k acc hd hi ha hk
  obtain ⟨k,rfl⟩ : ∃ m,k = m + 1 := ⟨k - 1,by omega⟩
  simp only [verdererref20_Where.l0]
  have hin : i < l.length := by omega
  have hm : q0s l (i : Int) ∈ l := by rw [rdE2_get hin];exact List.getElem_mem _
  rw [if_pos (by omega),if_pos (by omega),dropE_rd hin,show wrap64 ((i : Int) + 1) = ((i + 1 : Nat) : Int) by unfold wrap64;omega]
  have he2 : verdererref19_Holds.f (q0s l (i : Int)).f0 c = some (holdsF (q0s l (i : Int)).f0 c) := holds_f hc (hM _ hm)
  rw [he2,Option.bind_some]
  have hw : whereF (q0s l (i : Int) :: l.drop (i + 1)) c = if holdsF (q0s l (i : Int)).f0 c = true then q0s l (i : Int) :: whereF (l.drop (i + 1)) c else whereF (l.drop (i + 1)) c := by
   unfold whereF;rw [List.filter_cons]
  rw [hw]
  cases holdsF (q0s l (i : Int)).f0 c with
  | true =>
   rw [if_pos rfl,if_pos rfl,if_pos (by omega),ih (i + 1) k _ (by omega) (by omega) (by rw [List.length_append,List.length_singleton];omega) (by omega),List.append_assoc]
   rfl
  | false =>
   rw [if_neg (by simp),if_neg (by simp),ih (i + 1) k acc (by omega) (by omega) (by omega) (by omega)]
theorem rwhere_f (l : List S34) (c : List Cnd) (hl : l.length ≤ 1000) (hc : c.length ≤ 1000) (hM : ∀ e ∈ l,∀ x ∈ e.f0,x.f3.size ≤ 9223372036854775807) : verdererref20_Where.f 3000 l c = some (whereF l c) := by
 unfold verdererref20_Where.f
 have := rwhere_l0 l c hl hc hM l.length 0 3000 [] (by omega) (by omega) (by simp) (by omega)
 rw [List.drop_zero] at this
 exact this
end Go.Proofs.Ythmbfcfomcaaaaa.Z
end
section
namespace Go.Proofs.Ythmbfcfomcaaaaa.Z
set_option linter.unusedVariables false
set_option linter.unusedSimpArgs false
open Go.RowKit Go.Proofs.YthmbfcfomcaaaaaW.PrintWords Go.Proofs.YthmbfcfomcaaaaaW.PrintLast Go.Proofs.YthmbfcfomcaaaaaW.PrintMore Go.Proofs.Ythmbfcfomcaaaaa.Cmp
theorem heapV : Kd.Heap k66 := ⟨fun hb h => by rw [k66_open h];exact k66_mk _ _⟩
theorem heapE : Kd.Heap k34 := ⟨fun hb h => by
 obtain ⟨A0,c0,e,l,hC⟩ := k34_open h
 rw [e]
 exact k34_mk _ _ l (heapV.C hb hC)⟩
theorem few20_l1 (l : List En) (hl : l.length ≤ 60) : ∀ d i k,l.length - i = d → i ≤ l.length → verdererlaw20_few.l0 k l (i : Int) = some true → ∀ e ∈ l.drop i,e.f0.length ≤ 50 := by
 intro d
 induction d with
 | zero =>
  intro i k hd hi _ e he
  rw [List.drop_of_length_le (by omega)] at he
  cases he
 | succ d ih =>
  intro i k hd hi hk e he
  cases k with
  | zero => simp [verdererlaw20_few.l0] at hk
  | succ k =>
   have hin : i < l.length := by omega
   simp only [verdererlaw20_few.l0] at hk
   rw [if_pos (by omega),if_pos (by omega),show wrap64 ((i : Int) + 1) = ((i + 1 : Nat) : Int) by unfold wrap64;omega] at hk
   rw [dropE_rd hin] at he
   split at hk
   ·cases hk
   ·rename_i h2
    rcases List.mem_cons.1 he with q | q
    ·subst q;omega
    ·exact ih (i + 1) k (by omega) (by omega) hk e q
theorem few20_rows {l : List En} (h : verdererlaw20_few.f 200 l = some true) : l.length ≤ 60 ∧ ∀ e ∈ l,e.f0.length ≤ 50 := by
 unfold verdererlaw20_few.f at h
 by_cases hl : (l.length : Int) > 60
 ·rw [if_pos hl] at h;cases h
 ·rw [if_neg hl] at h
  have := few20_l1 l (by omega) l.length 0 200 (by omega) (by omega) h
  rw [List.drop_zero] at this
  exact ⟨by omega,this⟩
theorem alike_any (A0 A1 : Option Addr) (c0 c1 : Nat) (L : List En) (w : World) (h0 : EnsC w A0 c0 L) (h1 : EnsC w A1 c1 L) (hm : ∀ x ∈ L,x.f0.length ≤ 1000000) (hl : L.length ≤ 1000000) :
  Calls Try.prog 31 #[.slice A0 L.length c0,.slice A1 L.length c1] w fun e w' => e = .returned (.bool true) ∧ Below w.heap.size w w' := by
 refine (verdererref05_Alike.calls (L.length + 2000000) A0 c0 L A1 c1 L true w h0.row h0.cap h1.row h1.cap ?_).mono ?_
 ·unfold verdererref05_Alike.f
  rw [if_pos rfl]
  exact alike_l0 L hm hl L.length 0 _ (by omega) (by omega) (by omega)
 ·rintro e w' ⟨rfl,hd⟩
  exact ⟨rfl,hd.below⟩
theorem netD_ok (l : List En) : OkD (netD l) ∧ (netD l).length ≤ l.length := by
 unfold netD
 have := of_inv0 l
 split
 ·exact ⟨this.2.1,this.2.2⟩
 ·exact ⟨fun x hx => (by cases hx),Nat.zero_le _⟩
theorem takeD_ok (cols : List Int) (l : List En) : OkD (takeD cols l).2 ∧ (takeD cols l).2.length ≤ l.length := by
 unfold takeD
 split
 ·have h1 := netD_ok (takeF cols l []).2
  have h2 := takeF_len cols l []
  rw [List.length_nil,Nat.zero_add] at h2
  exact ⟨h1.1,Nat.le_trans h1.2 h2⟩
 ·exact ⟨fun x hx => (by cases hx),Nat.zero_le _⟩
theorem whereF_ok {l : List En} {c : List Cnd} {m : Nat} (h : ∀ e ∈ l,e.f0.length ≤ m) : (∀ e ∈ whereF l c,e.f0.length ≤ m) ∧ (whereF l c).length ≤ l.length := ⟨fun e he => h e (List.mem_filter.1 he).1,List.length_filter_le _ _⟩
set_option maxHeartbeats 4000000 in
set_option maxRecDepth 100000 in
theorem pick_passes (A0 A1 A2 : Option Addr) (c0 c1 c2 : Nat) (l : List En) (cs : List Cnd) (cols : List Int) (w : World) (hl : EnsC w A0 c0 l) (hcs : Kd.C k130 w A1 cs.length cs) (hc1 : cs.length ≤ c1) (hcl : Kd.C (Kd.int .i64) w A2 cols.length cols) (hc2 : cols.length ≤ c2) (M : Nat) (hM : ∀ e ∈ l,∀ x ∈ e.f0,x.f3.size ≤ M) (hM2 : M ≤ 9223372036854775807) :
  Calls Try.prog 12 #[.slice A0 l.length c0,.slice A1 cs.length c1,.slice A2 cols.length c2] w fun e w' => e = .returned (.bool true) ∧ Below w.heap.size w w' := by
 obtain ⟨N,hN⟩ : ∃ N,w.heap.size = N := ⟨_,rfl⟩
 have I0 := Aside0.mk (NextW.refl w)
 have HN := Aside0.mk hN
 have HL := Aside0.mk (fun W (hb : Below N w W) => show EnsC W A0 c0 l from hl.below (hN ▸ hb))
 have HC := Aside0.mk (fun W (hb : Below N w W) => show Kd.C k130 W A1 cs.length cs from Kd.C_below hcs (hN ▸ hb))
 have HO := Aside0.mk (fun W (hb : Below N w W) => show Kd.C (Kd.int .i64) W A2 cols.length cols from Kd.C_below hcl (hN ▸ hb))
 have C1 := Aside0.mk hc1
 have C2 := Aside0.mk hc2
 have HM := Aside0.mk (And.intro hM hM2)
 have HL0 := Aside0.mk hl
 rw [hN] at I0 ⊢
 have KE := Aside0.mk (fun W (h : NextW N w W) => known20_end W N w h)
 obtain ⟨fb,hf,_⟩ := few20_some l
 have FF := Aside0.mk hf
 obtain ⟨n1,hn1⟩ : ∃ n1,cs.length = n1 := ⟨_,rfl⟩
 obtain ⟨n2,hn2⟩ : ∃ n2,cols.length = n2 := ⟨_,rfl⟩
 have N1 := Aside0.mk hn1
 have N2 := Aside0.mk hn2
 have c1m := hc1
 rw [hn1,hn2]
 clear hl hcs hc1 hcl hc2 hM hM2 hN hf c1m hn1 hn2
 by_cases hgo : fb = true ∧ n1 ≤ 50 ∧ n2 ≤ 60
 ·obtain ⟨rfl,h1,h2⟩ := hgo
  have q1 : decide ((50 : Int) < (n1 : Int)) = false := decide_eq_false (by omega)
  have q2 : decide ((60 : Int) < (n2 : Int)) = false := decide_eq_false (by omega)
  have FR := Aside0.mk (few20_rows FF.out)
  have TA := Aside0.mk (fun W (hb : Below N w W) => take_at A0 A2 l.length c0 c2 l cols W (HL.out W hb).row (by have := FR.out.1;omega) (HO.out W hb) C2.out (by rw [N2.out];omega))
  have TB := Aside0.mk (fun W (hb : Below N w W) => rtake_at A0 A2 l.length c0 c2 l cols W (HL.out W hb).row (by have := FR.out.1;omega) (HO.out W hb) C2.out (by rw [N2.out];omega))
  have TO := Aside0.mk (takeD_ok cols l)
  obtain ⟨⟨tc,tl⟩,ht⟩ : ∃ x,takeD cols l = x := ⟨_,rfl⟩
  rw [ht,N2.out] at TA TB
  rw [ht] at TO
  simp only at TA TB TO
  have NA := Aside0.mk (fun W (hb : Below N w W) => net_at A0 l.length c0 l W (HL.out W hb).row (by have := FR.out.1;omega))
  have NB := Aside0.mk (fun W (hb : Below N w W) => ref_net2 A0 l.length c0 l W (HL.out W hb).row (by have := FR.out.1;omega))
  have NO := Aside0.mk (netD_ok l)
  obtain ⟨nl,hnl⟩ : ∃ x,netD l = x := ⟨_,rfl⟩
  obtain ⟨nc,hnc⟩ : ∃ x,(ofD l []).1 = x := ⟨_,rfl⟩
  rw [hnl,hnc] at NA NB
  rw [hnl] at NO
  have WA := Aside0.mk (fun W (hb : Below N w W) => pick_Where.calls 3000 A0 c0 l A1 c1 cs (whereF l cs) W (HL.out W hb).row (HL.out W hb).cap (HC.out W hb) C1.out (where_f l cs (by have := FR.out.1;omega) (by rw [N1.out];omega) (fun e he => by have := FR.out.2 e he;omega)))
  have WB := Aside0.mk (fun W (hb : Below N w W) => verdererref20_Where.calls 3000 (fun k => k < W.heap.size) A0 c0 l A1 c1 cs (whereF l cs) W (Kd.V_mk (HL.out W hb).cap (Kd.C_F heapE (HL.out W hb).row)) (HC.out W hb) C1.out (rwhere_f l cs (by have := FR.out.1;omega) (by rw [N1.out];omega) (fun e he x hx => Nat.le_trans (HM.out.1 e he x hx) HM.out.2)))
  have WO := Aside0.mk (whereF_ok (c := cs) FR.out.2)
  obtain ⟨wl,hwl⟩ : ∃ x,whereF l cs = x := ⟨_,rfl⟩
  rw [hwl] at WA WB WO
  rw [N1.out] at WA WB
  have d1 : (tc == tc) = true := by simp
  have d2 : (nc == nc) = true := by simp
  clear ht hnl hnc hwl h1 h2
  go_enter Try.func12,Try.ntmps12
  go_wp2_with (fail)
  refine (few20_at FF.out A0 c0 w HL0.out).mono ?_
  rintro e w1 ⟨rfl,hb⟩
  have I1 := Aside0.mk (I0.out.next hb)
  clear hb I0
  go_wp2_with (fail)
  refine (TA.out w1 I1.out.below).mono ?_
  rintro e w2 ⟨A3,c3,rfl,hC,hb⟩
  have X2 := Aside0.mk hC
  have I2 := Aside0.mk (I1.out.next hb)
  clear hC hb I1 TA
  go_wp2_with (fail)
  refine (TB.out w2 I2.out.below).mono ?_
  rintro e w3 ⟨A4,c4,rfl,hC,hb⟩
  have X3 := Aside0.mk (X2.out.below hb)
  have Y3 := Aside0.mk hC
  have I3 := Aside0.mk (I2.out.next hb)
  clear hC hb I2 X2 TB
  go_wp2_with (fail)
  refine (NA.out w3 I3.out.below).mono ?_
  rintro e w4 ⟨v,rfl,hv,hb⟩
  obtain ⟨A5,c5,rfl⟩ := Kd.R_slice hv
  have X4 := Aside0.mk (X3.out.below hb)
  have Y4 := Aside0.mk (Y3.out.below hb)
  have Z4 := Aside0.mk (show EnsC w4 A5 c5 nl from ⟨(Kd.R_reads' hv).2.1,(Kd.R_reads' hv).2.2⟩)
  have I4 := Aside0.mk (I3.out.next hb)
  clear hv hb I3 X3 Y3 NA
  go_wp2_with (fail)
  refine (NB.out w4 I4.out.below).mono ?_
  rintro e w5 ⟨A6,c6,rfl,hC,hb⟩
  have X5 := Aside0.mk (X4.out.below hb)
  have Y5 := Aside0.mk (Y4.out.below hb)
  have Z5 := Aside0.mk (Z4.out.below hb)
  have U5 := Aside0.mk hC
  have I5 := Aside0.mk (I4.out.next hb)
  clear hC hb I4 X4 Y4 Z4 NB
  go_wp2_with (fail)
  refine (WA.out w5 I5.out.below).mono ?_
  rintro e w6 ⟨v,rfl,hv,hb⟩
  obtain ⟨A7,c7,rfl⟩ := Kd.S_slice hv
  have X6 := Aside0.mk (X5.out.below hb)
  have Y6 := Aside0.mk (Y5.out.below hb)
  have Z6 := Aside0.mk (Z5.out.below hb)
  have U6 := Aside0.mk (U5.out.below hb)
  have P6 := Aside0.mk (show EnsC w6 A7 c7 wl from ⟨(Kd.S_reads' hv).2.1,(Kd.S_reads' hv).2.2⟩)
  have I6 := Aside0.mk (I5.out.next hb)
  clear hv hb I5 X5 Y5 Z5 U5 WA
  go_wp2_with (fail)
  refine (WB.out w6 I6.out.below).mono ?_
  rintro e w7 ⟨v,rfl,hv,hb⟩
  obtain ⟨A8,c8,rfl⟩ := Kd.N_slice hv
  have X7 := Aside0.mk (X6.out.below hb)
  have Y7 := Aside0.mk (Y6.out.below hb)
  have Z7 := Aside0.mk (Z6.out.below hb)
  have U7 := Aside0.mk (U6.out.below hb)
  have P7 := Aside0.mk (P6.out.below hb)
  have O7 := Aside0.mk (show EnsC w7 A8 c8 wl from ⟨(Kd.N_reads' hv).2.1,(Kd.N_reads' hv).2.2⟩)
  have I7 := Aside0.mk (I6.out.next hb)
  clear hv hb I6 X6 Y6 Z6 U6 P6 WB
  go_wp2_with (fail)
  refine (alike_any A7 A8 c7 c8 wl w7 P7.out O7.out (fun x hx => by have := WO.out.1 x hx;omega) (by have := WO.out.2;have := FR.out.1;omega)).mono ?_
  rintro e w8 ⟨rfl,hb⟩
  have X8 := Aside0.mk (X7.out.below hb)
  have Y8 := Aside0.mk (Y7.out.below hb)
  have Z8 := Aside0.mk (Z7.out.below hb)
  have U8 := Aside0.mk (U7.out.below hb)
  have I8 := Aside0.mk (I7.out.next hb)
  clear hb I7 X7 Y7 Z7 U7 P7 O7
  go_wp2_with (fail)
  refine (alike_any A3 A4 c3 c4 tl w8 X8.out Y8.out TO.out.1.len (by have := TO.out.2;have := FR.out.1;omega)).mono ?_
  rintro e w9 ⟨rfl,hb⟩
  have Z9 := Aside0.mk (Z8.out.below hb)
  have U9 := Aside0.mk (U8.out.below hb)
  have I9 := Aside0.mk (I8.out.next hb)
  clear hb I8 X8 Y8 Z8 U8
  go_wp2_with (fail)
  refine (alike_any A5 A6 c5 c6 nl w9 Z9.out U9.out NO.out.1.len (by have := NO.out.2;have := FR.out.1;omega)).mono ?_
  rintro e w10 ⟨rfl,hb⟩
  have I10 := Aside0.mk (I9.out.next hb)
  clear hb I9 Z9 U9
  go_wp2_with (fail)
  refine (KE.out _ I10.out).mono ?_
  rintro e w11 ⟨rfl,hb⟩
  go_wp2_with (fail)
  go_ret
  exact ⟨rfl,hb⟩
 ·have TKE : (fb = false) ∨ (fb = true ∧ decide ((50 : Int) < (n1 : Int)) = true) ∨ (fb = true ∧ decide ((50 : Int) < (n1 : Int)) = false ∧ decide ((60 : Int) < (n2 : Int)) = true) := by
   cases fb with
   | false => exact .inl rfl
   | true =>
    by_cases h1 : n1 ≤ 50
    ·refine .inr (.inr ⟨rfl,decide_eq_false (by omega),decide_eq_true ?_⟩)
     have : ¬ n2 ≤ 60 := fun h => hgo ⟨rfl,h1,h⟩
     omega
    ·exact .inr (.inl ⟨rfl,decide_eq_true (by omega)⟩)
  clear hgo
  rcases TKE with rfl | ⟨rfl,q1⟩ | ⟨rfl,q1,q2⟩
  all_goals (
   go_enter Try.func12,Try.ntmps12
   go_wp2_with (fail)
   refine (few20_at FF.out A0 c0 w HL0.out).mono ?_
   rintro e w1 ⟨rfl,hb⟩
   have I1 := Aside0.mk (I0.out.next hb)
   clear hb I0
   go_wp2_with (fail)
   refine (KE.out _ I1.out).mono ?_
   rintro e w2 ⟨rfl,hb⟩
   go_wp2_with (fail)
   go_ret
   exact ⟨rfl,hb⟩)
end Go.Proofs.Ythmbfcfomcaaaaa.Z
end
section
namespace Go.Proofs.Ythmbfcfomcaaaaa.Z
set_option linter.unusedVariables false
open Go.RowKit Go.Proofs.YthmbfcfomcaaaaaW.PrintWords Go.Proofs.YthmbfcfomcaaaaaW.PrintLast Go.Proofs.YthmbfcfomcaaaaaW.PrintMore
def verdererlaw20_PickPasses.f (l0 : List (S34)) (l1 : List (S130)) (l2 : List Int) : Option (Bool) := if l0.all (fun e => e.f0.all (fun x => decide (x.f3.size ≤ 9223372036854775807))) = true then some true else none
theorem verdererlaw20_PickPasses.calls (A0 : Option Addr) (c0 : Nat) (l0 : List (S34)) (A1 : Option Addr) (c1 : Nat) (l1 : List (S130)) (A2 : Option Addr) (c2 : Nat) (l2 : List Int) (r : Bool) (w : World) (hr0 : Kd.C k34 w A0 l0.length l0) (hc0 : l0.length ≤ c0) (hr1 : Kd.C k130 w A1 l1.length l1) (hc1 : l1.length ≤ c1) (hr2 : Kd.C (Kd.int .i64) w A2 l2.length l2) (hc2 : l2.length ≤ c2) (h : verdererlaw20_PickPasses.f l0 l1 l2 = some r) :
  Calls Try.prog 12 #[.slice A0 l0.length c0,.slice A1 l1.length c1,.slice A2 l2.length c2] w fun e w' => e = .returned (.bool r) ∧ Below w.heap.size w w' := by
 unfold verdererlaw20_PickPasses.f at h
 split at h
 ·rename_i hb
  obtain rfl := Option.some.inj h
  exact pick_passes A0 A1 A2 c0 c1 c2 l0 l1 l2 w ⟨hc0,hr0⟩ hr1 hc1 hr2 hc2 9223372036854775807 (fun e he x hx => of_decide_eq_true (List.all_eq_true.1 (List.all_eq_true.1 hb e he) x hx)) (Nat.le_refl _)
 ·cases h
end Go.Proofs.Ythmbfcfomcaaaaa.Z
end
section
namespace Go.Proofs.Ythmbfcfomcaaaaa.Z
open Go.RowKit Go.Proofs.YthmbfcfomcaaaaaW.PrintWords Go.Proofs.YthmbfcfomcaaaaaW.PrintLast Go.Proofs.YthmbfcfomcaaaaaW.PrintMore
theorem pickPasses_pure : ∀ (l0 : (List S34)) (l1 : (List S130)) (l2 : (List Int)),(l0.length ≤ maxLen ∧ ∀ x ∈ l0,G34 x) → (l1.length ≤ maxLen ∧ ∀ x ∈ l1,G130 x) → (l2.length ≤ maxLen ∧ ∀ x ∈ l2,(Lit.int .i64 x).wf = true) → verdererlaw20_PickPasses.f l0 l1 l2 = some true := by
 intro l0 l1 l2 h0 h1 h2
 unfold verdererlaw20_PickPasses.f
 rw [if_pos]
 rw [List.all_eq_true]
 intro e he
 rw [List.all_eq_true]
 intro x hx
 have h3 := ((h0.2 e he).1.2 x hx).2.2.2
 unfold maxLen at h3
 exact decide_eq_true h3
end Go.Proofs.Ythmbfcfomcaaaaa.Z
end
namespace Go.Proofs.Ythmbfcfomcaaaaa.pickPasses
open Go.ChangeShapes Go.WideShapes Go.ChangeAt Go.RowKit Go.Proofs.YthmbfcfomcaaaaaW.PrintWords
open Go.ChangeMaps (open_string shut_string)
set_option linter.unusedVariables false
theorem own : ownKnob Try.prog.godebug = none := by kernel_rfl
theorem laidOut : laidOutB Try.prog = true := by kernel_rfl
set_option maxRecDepth 100000 in
theorem lifted (os : Os) (started : os.Started) (H : Type) (enc : TypeId × Value → H) :
  ReturnsInHanded {} Try.checked os 12 .any (Rows.pickPassesSpec.pre6 enc Try.prog Try.f12 Rows.pickPassesRow.domain false) (Rows.pickPassesSpec.post enc Try.prog Try.f12 false true false false) := by
 refine returnsInHanded_of_change (C := Try.checked) own started (by kernel_rfl) Try.func12
  (ChangeSpec.witness6 (enc := enc) (C := Try.checked) false ⟨#[],#[.slice none 0 0,.slice none 0 0,.slice none 0 0],[]⟩ 8 (by kernel_rfl) (by kernel_rfl) (by kernel_rfl) (by kernel_rfl)) ?_
 intro W base args ds gs before hval0 hW hcnd _
 have hval : ∀ (j : Nat) t v,Try.f12.params[j]? = some t → args[j]? = some v → Value.okWide Try.prog W .any base t v := hval0
 have hW' := hW
 obtain ⟨p,q,hA0,hV,rfl,hfz,hnd⟩ := hW
 have hA : DataW.TrodAll enc Try.prog W 0 (fun _ => true) true Try.f12.params.toList args.toList ds p := hA0
 rw [Try.params12] at hA hval
 obtain ⟨v0,vs0,d0,ds0,p0,q0,hargs,rfl,rfl,h0,r0⟩ := trodAll_cons hA
 obtain ⟨v1,vs1,d1,ds1,p1,q1,rfl,rfl,rfl,h1,r1⟩ := trodAll_cons r0
 obtain ⟨v2,vs2,d2,ds2,p2,q2,rfl,rfl,rfl,h2,r2⟩ := trodAll_cons r1
 obtain ⟨rfl,rfl,rfl⟩ := trodAll_nil r2
 obtain rfl : args = #[v0,v1,v2] := by cases args;simp_all
 obtain ⟨rfl,rfl⟩ := trodVars_none hV
 obtain ⟨a0,len0,cap0,rfl⟩ := okWide_slice Try.underlying22 (hval 0 22 v0 rfl rfl)
 have k0 := h0
 have lt0 : ∀ x ∈ p0,x.block < W.heap.size := by obtain ⟨m,hm⟩ := k0;exact DataW.trod_lt m _ _ _ hm
 obtain ⟨l0,hK0,hG0⟩ : ∃ l,((Kd.slice 34 Z.k34) : Kd (List Z.S34)).K W l [.slice a0 len0 cap0] ∧ (l.length ≤ maxLen ∧ ∀ x ∈ l,Z.G34 x) := by obtain ⟨fuel,hf⟩ := h0;exact (show OfTrod Try.prog 22 (Kd.slice 34 Z.k34) _ from (ofTrod_slice Try.underlying22 (by kernel_rfl) Z.of34)) _ _ _ _ _ _ _ _ _ hf
 obtain ⟨A0,c0,he0,hl0,hC0⟩ := hK0
 simp only [List.cons.injEq,Value.slice.injEq,and_true] at he0
 obtain ⟨rfl,rfl,rfl⟩ := he0
 obtain ⟨a1,len1,cap1,rfl⟩ := okWide_slice Try.underlying75 (hval 1 75 v1 rfl rfl)
 have k1 := h1
 have lt1 : ∀ x ∈ p1,x.block < W.heap.size := by obtain ⟨m,hm⟩ := k1;exact DataW.trod_lt m _ _ _ hm
 obtain ⟨l1,hK1,hG1⟩ : ∃ l,((Kd.slice 130 Z.k130) : Kd (List Z.S130)).K W l [.slice a1 len1 cap1] ∧ (l.length ≤ maxLen ∧ ∀ x ∈ l,Z.G130 x) := by obtain ⟨fuel,hf⟩ := h1;exact (show OfTrod Try.prog 75 (Kd.slice 130 Z.k130) _ from (ofTrod_slice Try.underlying75 (by kernel_rfl) Z.of130)) _ _ _ _ _ _ _ _ _ hf
 obtain ⟨A1,c1,he1,hl1,hC1⟩ := hK1
 simp only [List.cons.injEq,Value.slice.injEq,and_true] at he1
 obtain ⟨rfl,rfl,rfl⟩ := he1
 obtain ⟨a2,len2,cap2,rfl⟩ := okWide_slice Try.underlying54 (hval 2 54 v2 rfl rfl)
 have k2 := h2
 have lt2 : ∀ x ∈ p2,x.block < W.heap.size := by obtain ⟨m,hm⟩ := k2;exact DataW.trod_lt m _ _ _ hm
 obtain ⟨l2,hK2,hG2⟩ : ∃ l,((Kd.slice 3 (Kd.int .i64)) : Kd (List Int)).K W l [.slice a2 len2 cap2] ∧ (l.length ≤ maxLen ∧ ∀ x ∈ l,(Lit.int .i64 x).wf = true) := by obtain ⟨fuel,hf⟩ := h2;exact (show OfTrod Try.prog 54 (Kd.slice 3 (Kd.int .i64)) _ from (ofTrod_slice Try.underlying54 (by kernel_rfl) (ofTrod_int Try.underlying3))) _ _ _ _ _ _ _ _ _ hf
 obtain ⟨A2,c2,he2,hl2,hC2⟩ := hK2
 simp only [List.cons.injEq,Value.slice.injEq,and_true] at he2
 obtain ⟨rfl,rfl,rfl⟩ := he2
 clear hA0 hval0
 have h := Z.pickPasses_pure l0 l1 l2 hG0 hG1 hG2
 refine (Z.verdererlaw20_PickPasses.calls _ _ l0 _ _ l1 _ _ l2 true W hC0 hl0 hC1 hl1 hC2 hl2 h).mono fun e W' ⟨he,bel⟩ => ?_
 subst he
 exact ⟨_,rfl,_,_,_,[],_,[],hW',trodAll_mk1 (shut_bool Try.underlying4 _),(trodAll_cons_mk (Below.trod laidOut (by kernel_rfl) (of_decide_eq_true (by kernel_rfl)) k0 bel lt0) (trodAll_cons_mk (Below.trod laidOut (by kernel_rfl) (of_decide_eq_true (by kernel_rfl)) k1 bel lt1) (trodAll_cons_mk (Below.trod laidOut (by kernel_rfl) (of_decide_eq_true (by kernel_rfl)) k2 bel lt2) trodAll_mk0))),rfl,bel.frame _,fun h => by cases h⟩
theorem over : Rows.pickPassesRow.holds Try.pinned (OpenSpec.ofChange Rows.pickPassesSpec) :=
 OpenClaim.holds_of_wide 12 Try.f12 rfl rfl rfl rfl rfl rfl rfl ⟨rfl,rfl,rfl,rfl,rfl⟩ rfl rfl rfl rfl rfl (by kernel_rfl) Try.func12 (by kernel_rfl)
  (of_decide_eq_true (by kernel_rfl)) (by unfold Func.isWrapper;first | (rw [if_pos (by decide +kernel)];kernel_rfl) | (rw [if_neg (by decide +kernel)];exact ⟨rfl,rfl⟩))
  (fun os started H enc _ => lifted os started H enc)
theorem proved : Rows.PickPassesSaid := over
#print axioms proved
end Go.Proofs.Ythmbfcfomcaaaaa.pickPasses
namespace Go.Proofs.Ythmbfcfomcaaaaa
theorem pickPasses_holds : Rows.PickPassesSaid := pickPasses.proved
end Go.Proofs.Ythmbfcfomcaaaaa
