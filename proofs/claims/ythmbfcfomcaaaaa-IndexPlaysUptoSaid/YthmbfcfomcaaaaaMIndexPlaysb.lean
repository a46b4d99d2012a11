/- Parts of the proof of IndexPlays: what its functions answer. -/
import Derived.Test.YthmbfcfomcaaaaaMIndexPlaysa
import Derived.Laws.MakeOwn
import Derived.Lib.SliceRun
import Derived.Laws.Slices
import Derived.Lib.Bytealg
import Derived.RegionTactic
import Derived.BigRegion
import Derived.Deep.QuietTactic
import Derived.BigQuiet
import Derived.ChangeAlike
import Derived.StillTailTactics
import Derived.Deep.LoopGhost
section
namespace Go.Proofs.Ythmbfcfomcaaaaa.Z
open Go.RowKit Go.Proofs.YthmbfcfomcaaaaaW.PrintWords Go.Proofs.YthmbfcfomcaaaaaW.PrintLast Go.Proofs.YthmbfcfomcaaaaaW.PrintMore
attribute [local go_sem] max2_int min2_int max_two min_two max_three min_three max_four min_four
set_option linter.unusedVariables false
set_option linter.unusedSimpArgs false
def value_Compare.f (a0_0 : Int) (a0_1 : Bool) (a0_2 : Int) (a0_3 : ByteArray) (a1_0 : Int) (a1_1 : Bool) (a1_2 : Int) (a1_3 : ByteArray) : Option (Int) := if a0_0 = a1_0 then (if a0_0 = 1 then ((value_truth.f a0_1).bind fun t108 => ((value_truth.f a1_1).bind fun t109 => ((cmp_Compare_119.f t108 t109).bind fun t110 => (some t110)))) else (if a0_0 = 2 then ((cmp_Compare_121.f a0_2 a1_2).bind fun t111 => (some t111)) else (if a0_0 = 3 then ((strings_Compare.f a0_3 a1_3).bind fun t112 => (some t112)) else (some 0)))) else ((cmp_Compare_119.f a0_0 a1_0).bind fun t107 => (some t107))
set_option maxHeartbeats 8000000 in
set_option maxRecDepth 100000 in
theorem value_Compare.calls (a0_0 : Int) (a0_1 : Bool) (a0_2 : Int) (a0_3 : ByteArray) (a1_0 : Int) (a1_1 : Bool) (a1_2 : Int) (a1_3 : ByteArray) (r : Int) (w : World) (h : value_Compare.f a0_0 a0_1 a0_2 a0_3 a1_0 a1_1 a1_2 a1_3 = some r) :
  Calls Try.prog 111 #[.agg #[.int .i64 a0_0,.bool a0_1,.int .i64 a0_2,.string a0_3],.agg #[.int .i64 a1_0,.bool a1_1,.int .i64 a1_2,.string a1_3]] w fun e w' => e = .returned (.int .i64 r) ∧ Below w.heap.size w w' := by
 have hu66 := Try.underlying66
 have HB := Aside0.mk (Below.refl w.heap.size w)
 have H : (if a0_0 = a1_0 then (if a0_0 = 1 then ((value_truth.f a0_1).bind fun t108 => ((value_truth.f a1_1).bind fun t109 => ((cmp_Compare_119.f t108 t109).bind fun t110 => (some t110)))) else (if a0_0 = 2 then ((cmp_Compare_121.f a0_2 a1_2).bind fun t111 => (some t111)) else (if a0_0 = 3 then ((strings_Compare.f a0_3 a1_3).bind fun t112 => (some t112)) else (some 0)))) else ((cmp_Compare_119.f a0_0 a1_0).bind fun t107 => (some t107))) = some r := h
 clear h
 by_cases c3 : a0_0 = a1_0
 ·rw [if_pos c3] at H
  have c3b0 : (a0_0 == a1_0) = true := beq_iff_eq.mpr c3
  have c3b1 : (a0_0 != a1_0) = false := bne_eq_false_iff_eq.mpr c3
  clear c3
  by_cases c4 : a0_0 = 1
  ·rw [if_pos c4] at H
   have c4b0 : (a0_0 == 1) = true := beq_iff_eq.mpr c4
   have c4b1 : (a0_0 != 1) = false := bne_eq_false_iff_eq.mpr c4
   clear c4
   replace H := Option.bind_eq_some_iff.mp H
   obtain ⟨t108,A50,H⟩ := H
   replace H : ((value_truth.f a1_1).bind fun t109 => ((cmp_Compare_119.f t108 t109).bind fun t110 => (some t110))) = some r := H
   have A5 := Aside0.mk A50
   clear A50
   replace H := Option.bind_eq_some_iff.mp H
   obtain ⟨t109,A60,H⟩ := H
   replace H : ((cmp_Compare_119.f t108 t109).bind fun t110 => (some t110)) = some r := H
   have A6 := Aside0.mk A60
   clear A60
   replace H := Option.bind_eq_some_iff.mp H
   obtain ⟨t110,A70,H⟩ := H
   replace H : (some t110) = some r := H
   have A7 := Aside0.mk A70
   clear A70
   obtain rfl := Option.some.inj H
   go_enter Try.func111,Try.ntmps111
   go_wp2_with (first | ((with_reducible refine q0p (N := 2) rfl ?_);refine q0o ?hg (N := 2) ?hd (cs := #[.int .i64 a0_0,.bool a0_1,.int .i64 a0_2,.string a0_3]) (t := 66) ?hr ?_;(case hd => rfl);(case hg => rfl);(case hr => first | (go_simp;done) | (go_simp;rfl));intro gb105 hg w8 hbox hb;have n0_ := Aside0.mk (q0n (by repeat (first | (with_reducible first | exact HB.out | apply q0b | apply q0a | apply q0c) | exact HB.out)) hb);have n1_ := Aside0.mk (hbox);have n2_ := Aside0.mk ((by rw [hg];exact (q0g (by repeat (first | (with_reducible first | exact HB.out | apply q0b | apply q0a | apply q0c) | exact HB.out))) : w.heap.size ≤ gb105));have n3_ := Aside0.mk ((by rw [hg];exact (q0g (by repeat (first | (with_reducible first | exact HB.out | apply q0b | apply q0a | apply q0c) | exact HB.out))) : w.heap.size ≤ gb105));clear HB;have HB := n0_;have BK105 := n1_;have GW105 := n2_;have GE105 := n3_;clear n0_ n1_ n2_ n3_;clear hb hbox hg) | ((with_reducible refine q0p (N := 3) rfl ?_);refine q0o ?hg (N := 3) ?hd (cs := #[.int .i64 a1_0,.bool a1_1,.int .i64 a1_2,.string a1_3]) (t := 66) ?hr ?_;(case hd => rfl);(case hg => rfl);(case hr => first | (go_simp;done) | (go_simp;rfl));intro gb106 hg w9 hbox hb;have n0_ := Aside0.mk (q0s (g := gb105) (o := .cells #[.int .i64 a0_0,.bool a0_1,.int .i64 a0_2,.string a0_3] 66 (0,0)) (by (with_reducible repeat (first | refine q0j ?_ _ | refine q0k ?_ | refine q0h ?_ _));exact BK105.out) hb);have n1_ := Aside0.mk (q0n (by repeat (first | (with_reducible first | exact HB.out | apply q0b | apply q0a | apply q0c | refine q0i ?_ GE105.out) | exact HB.out)) hb);have n2_ := Aside0.mk (hbox);have n3_ := Aside0.mk ((by rw [hg];exact (q0g (by repeat (first | (with_reducible first | exact HB.out | apply q0b | apply q0a | apply q0c | refine q0i ?_ GE105.out) | exact HB.out))) : w.heap.size ≤ gb106));have n4_ := Aside0.mk ((by rw [hg];exact (q0g (by repeat (first | (with_reducible first | exact HB.out | apply q0b | apply q0a | apply q0c | refine q0i ?_ GE105.out) | exact HB.out))) : w.heap.size ≤ gb106));have n5_ := Aside0.mk ((by rw [hg];exact Nat.ne_of_lt (blk_lt (g := gb105) (o := .cells #[.int .i64 a0_0,.bool a0_1,.int .i64 a0_2,.string a0_3] 66 (0,0)) (by (with_reducible repeat (first | refine q0j ?_ _ | refine q0k ?_ | refine q0h ?_ _));exact BK105.out)) : gb105 ≠ gb106));have n6_ := Aside0.mk ((by rw [hg];exact Nat.ne_of_gt (blk_lt (g := gb105) (o := .cells #[.int .i64 a0_0,.bool a0_1,.int .i64 a0_2,.string a0_3] 66 (0,0)) (by (with_reducible repeat (first | refine q0j ?_ _ | refine q0k ?_ | refine q0h ?_ _));exact BK105.out)) : gb106 ≠ gb105));clear BK105;clear HB;have BK105 := n0_;have HB := n1_;have BK106 := n2_;have GW106 := n3_;have GE106 := n4_;have NB105_106 := n5_;have NB106_105 := n6_;clear n0_ n1_ n2_ n3_ n4_ n5_ n6_;clear hb hbox hg;have hnb10 := NB105_106.out;have hnc10 := NB106_105.out;have hcz11_0 : w9.cell? ⟨gb105,0,none⟩ = some (.int .i64 a0_0) := (q0d BK105.out 0).trans rfl;have hcz11_1 : w9.cell? ⟨gb105,1,none⟩ = some (.bool a0_1) := (q0d BK105.out 1).trans rfl;have hcz11_2 : w9.cell? ⟨gb105,2,none⟩ = some (.int .i64 a0_2) := (q0d BK105.out 2).trans rfl;have hcz11_3 : w9.cell? ⟨gb105,3,none⟩ = some (.string a0_3) := (q0d BK105.out 3).trans rfl;have hfz11_0 := q0e BK105.out 0;have hfz11_1 := q0e BK105.out 1;have hfz11_2 := q0e BK105.out 2;have hfz11_3 := q0e BK105.out 3;have hcz12_0 : w9.cell? ⟨gb106,0,none⟩ = some (.int .i64 a1_0) := (q0d BK106.out 0).trans rfl;have hcz12_1 : w9.cell? ⟨gb106,1,none⟩ = some (.bool a1_1) := (q0d BK106.out 1).trans rfl;have hcz12_2 : w9.cell? ⟨gb106,2,none⟩ = some (.int .i64 a1_2) := (q0d BK106.out 2).trans rfl;have hcz12_3 : w9.cell? ⟨gb106,3,none⟩ = some (.string a1_3) := (q0d BK106.out 3).trans rfl;have hfz12_0 := q0e BK106.out 0;have hfz12_1 := q0e BK106.out 1;have hfz12_2 := q0e BK106.out 2;have hfz12_3 := q0e BK106.out 3) | (go_at_call 120;(with_reducible refine (value_truth.calls a0_1 t108 _ A5.out).mono ?_);rintro e w' ⟨rfl,⟨nd,rfl⟩⟩;(try first | exact ⟨rfl,_,World.drewN_drewN _ _ _⟩ | exact ⟨rfl,_,Eq.trans (World.drewN_drewN _ _ _) (congrArg (World.drewN _) (Nat.add_assoc _ _ _))⟩)) | (go_at_call 120;(with_reducible refine (value_truth.calls a1_1 t109 _ A6.out).mono ?_);rintro e w' ⟨rfl,⟨nd,rfl⟩⟩;(try first | exact ⟨rfl,_,World.drewN_drewN _ _ _⟩ | exact ⟨rfl,_,Eq.trans (World.drewN_drewN _ _ _) (congrArg (World.drewN _) (Nat.add_assoc _ _ _))⟩)) | (go_at_call 119;(with_reducible refine (cmp_Compare_119.calls t108 t109 t110 _ A7.out).mono ?_);rintro e w' ⟨rfl,⟨nd,rfl⟩⟩;(try first | exact ⟨rfl,_,World.drewN_drewN _ _ _⟩ | exact ⟨rfl,_,Eq.trans (World.drewN_drewN _ _ _) (congrArg (World.drewN _) (Nat.add_assoc _ _ _))⟩)))
   repeat (go_quiet (first | ((with_reducible refine q0p (N := 2) rfl ?_);refine q0o ?hg (N := 2) ?hd (cs := #[.int .i64 a0_0,.bool a0_1,.int .i64 a0_2,.string a0_3]) (t := 66) ?hr ?_;(case hd => rfl);(case hg => rfl);(case hr => first | (go_simp;done) | (go_simp;rfl));intro gb105 hg w8 hbox hb;have n0_ := Aside0.mk (q0n (by repeat (first | (with_reducible first | exact HB.out | apply q0b | apply q0a | apply q0c) | exact HB.out)) hb);have n1_ := Aside0.mk (hbox);have n2_ := Aside0.mk ((by rw [hg];exact (q0g (by repeat (first | (with_reducible first | exact HB.out | apply q0b | apply q0a | apply q0c) | exact HB.out))) : w.heap.size ≤ gb105));have n3_ := Aside0.mk ((by rw [hg];exact (q0g (by repeat (first | (with_reducible first | exact HB.out | apply q0b | apply q0a | apply q0c) | exact HB.out))) : w.heap.size ≤ gb105));clear HB;have HB := n0_;have BK105 := n1_;have GW105 := n2_;have GE105 := n3_;clear n0_ n1_ n2_ n3_;clear hb hbox hg) | ((with_reducible refine q0p (N := 3) rfl ?_);refine q0o ?hg (N := 3) ?hd (cs := #[.int .i64 a1_0,.bool a1_1,.int .i64 a1_2,.string a1_3]) (t := 66) ?hr ?_;(case hd => rfl);(case hg => rfl);(case hr => first | (go_simp;done) | (go_simp;rfl));intro gb106 hg w9 hbox hb;have n0_ := Aside0.mk (q0s (g := gb105) (o := .cells #[.int .i64 a0_0,.bool a0_1,.int .i64 a0_2,.string a0_3] 66 (0,0)) (by (with_reducible repeat (first | refine q0j ?_ _ | refine q0k ?_ | refine q0h ?_ _));exact BK105.out) hb);have n1_ := Aside0.mk (q0n (by repeat (first | (with_reducible first | exact HB.out | apply q0b | apply q0a | apply q0c | refine q0i ?_ GE105.out) | exact HB.out)) hb);have n2_ := Aside0.mk (hbox);have n3_ := Aside0.mk ((by rw [hg];exact (q0g (by repeat (first | (with_reducible first | exact HB.out | apply q0b | apply q0a | apply q0c | refine q0i ?_ GE105.out) | exact HB.out))) : w.heap.size ≤ gb106));have n4_ := Aside0.mk ((by rw [hg];exact (q0g (by repeat (first | (with_reducible first | exact HB.out | apply q0b | apply q0a | apply q0c | refine q0i ?_ GE105.out) | exact HB.out))) : w.heap.size ≤ gb106));have n5_ := Aside0.mk ((by rw [hg];exact Nat.ne_of_lt (blk_lt (g := gb105) (o := .cells #[.int .i64 a0_0,.bool a0_1,.int .i64 a0_2,.string a0_3] 66 (0,0)) (by (with_reducible repeat (first | refine q0j ?_ _ | refine q0k ?_ | refine q0h ?_ _));exact BK105.out)) : gb105 ≠ gb106));have n6_ := Aside0.mk ((by rw [hg];exact Nat.ne_of_gt (blk_lt (g := gb105) (o := .cells #[.int .i64 a0_0,.bool a0_1,.int .i64 a0_2,.string a0_3] 66 (0,0)) (by (with_reducible repeat (first | refine q0j ?_ _ | refine q0k ?_ | refine q0h ?_ _));exact BK105.out)) : gb106 ≠ gb105));clear BK105;clear HB;have BK105 := n0_;have HB := n1_;have BK106 := n2_;have GW106 := n3_;have GE106 := n4_;have NB105_106 := n5_;have NB106_105 := n6_;clear n0_ n1_ n2_ n3_ n4_ n5_ n6_;clear hb hbox hg;have hnb10 := NB105_106.out;have hnc10 := NB106_105.out;have hcz11_0 : w9.cell? ⟨gb105,0,none⟩ = some (.int .i64 a0_0) := (q0d BK105.out 0).trans rfl;have hcz11_1 : w9.cell? ⟨gb105,1,none⟩ = some (.bool a0_1) := (q0d BK105.out 1).trans rfl;have hcz11_2 : w9.cell? ⟨gb105,2,none⟩ = some (.int .i64 a0_2) := (q0d BK105.out 2).trans rfl;have hcz11_3 : w9.cell? ⟨gb105,3,none⟩ = some (.string a0_3) := (q0d BK105.out 3).trans rfl;have hfz11_0 := q0e BK105.out 0;have hfz11_1 := q0e BK105.out 1;have hfz11_2 := q0e BK105.out 2;have hfz11_3 := q0e BK105.out 3;have hcz12_0 : w9.cell? ⟨gb106,0,none⟩ = some (.int .i64 a1_0) := (q0d BK106.out 0).trans rfl;have hcz12_1 : w9.cell? ⟨gb106,1,none⟩ = some (.bool a1_1) := (q0d BK106.out 1).trans rfl;have hcz12_2 : w9.cell? ⟨gb106,2,none⟩ = some (.int .i64 a1_2) := (q0d BK106.out 2).trans rfl;have hcz12_3 : w9.cell? ⟨gb106,3,none⟩ = some (.string a1_3) := (q0d BK106.out 3).trans rfl;have hfz12_0 := q0e BK106.out 0;have hfz12_1 := q0e BK106.out 1;have hfz12_2 := q0e BK106.out 2;have hfz12_3 := q0e BK106.out 3) | (go_at_call 120;(with_reducible refine (value_truth.calls a0_1 t108 _ A5.out).mono ?_);rintro e w' ⟨rfl,⟨nd,rfl⟩⟩;(try first | exact ⟨rfl,_,World.drewN_drewN _ _ _⟩ | exact ⟨rfl,_,Eq.trans (World.drewN_drewN _ _ _) (congrArg (World.drewN _) (Nat.add_assoc _ _ _))⟩)) | (go_at_call 120;(with_reducible refine (value_truth.calls a1_1 t109 _ A6.out).mono ?_);rintro e w' ⟨rfl,⟨nd,rfl⟩⟩;(try first | exact ⟨rfl,_,World.drewN_drewN _ _ _⟩ | exact ⟨rfl,_,Eq.trans (World.drewN_drewN _ _ _) (congrArg (World.drewN _) (Nat.add_assoc _ _ _))⟩)) | (go_at_call 119;(with_reducible refine (cmp_Compare_119.calls t108 t109 t110 _ A7.out).mono ?_);rintro e w' ⟨rfl,⟨nd,rfl⟩⟩;(try first | exact ⟨rfl,_,World.drewN_drewN _ _ _⟩ | exact ⟨rfl,_,Eq.trans (World.drewN_drewN _ _ _) (congrArg (World.drewN _) (Nat.add_assoc _ _ _))⟩)));try go_wp2_with (first | ((with_reducible refine q0p (N := 2) rfl ?_);refine q0o ?hg (N := 2) ?hd (cs := #[.int .i64 a0_0,.bool a0_1,.int .i64 a0_2,.string a0_3]) (t := 66) ?hr ?_;(case hd => rfl);(case hg => rfl);(case hr => first | (go_simp;done) | (go_simp;rfl));intro gb105 hg w8 hbox hb;have n0_ := Aside0.mk (q0n (by repeat (first | (with_reducible first | exact HB.out | apply q0b | apply q0a | apply q0c) | exact HB.out)) hb);have n1_ := Aside0.mk (hbox);have n2_ := Aside0.mk ((by rw [hg];exact (q0g (by repeat (first | (with_reducible first | exact HB.out | apply q0b | apply q0a | apply q0c) | exact HB.out))) : w.heap.size ≤ gb105));have n3_ := Aside0.mk ((by rw [hg];exact (q0g (by repeat (first | (with_reducible first | exact HB.out | apply q0b | apply q0a | apply q0c) | exact HB.out))) : w.heap.size ≤ gb105));clear HB;have HB := n0_;have BK105 := n1_;have GW105 := n2_;have GE105 := n3_;clear n0_ n1_ n2_ n3_;clear hb hbox hg) | ((with_reducible refine q0p (N := 3) rfl ?_);refine q0o ?hg (N := 3) ?hd (cs := #[.int .i64 a1_0,.bool a1_1,.int .i64 a1_2,.string a1_3]) (t := 66) ?hr ?_;(case hd => rfl);(case hg => rfl);(case hr => first | (go_simp;done) | (go_simp;rfl));intro gb106 hg w9 hbox hb;have n0_ := Aside0.mk (q0s (g := gb105) (o := .cells #[.int .i64 a0_0,.bool a0_1,.int .i64 a0_2,.string a0_3] 66 (0,0)) (by (with_reducible repeat (first | refine q0j ?_ _ | refine q0k ?_ | refine q0h ?_ _));exact BK105.out) hb);have n1_ := Aside0.mk (q0n (by repeat (first | (with_reducible first | exact HB.out | apply q0b | apply q0a | apply q0c | refine q0i ?_ GE105.out) | exact HB.out)) hb);have n2_ := Aside0.mk (hbox);have n3_ := Aside0.mk ((by rw [hg];exact (q0g (by repeat (first | (with_reducible first | exact HB.out | apply q0b | apply q0a | apply q0c | refine q0i ?_ GE105.out) | exact HB.out))) : w.heap.size ≤ gb106));have n4_ := Aside0.mk ((by rw [hg];exact (q0g (by repeat (first | (with_reducible first | exact HB.out | apply q0b | apply q0a | apply q0c | refine q0i ?_ GE105.out) | exact HB.out))) : w.heap.size ≤ gb106));have n5_ := Aside0.mk ((by rw [hg];exact Nat.ne_of_lt (blk_lt (g := gb105) (o := .cells #[.int .i64 a0_0,.bool a0_1,.int .i64 a0_2,.string a0_3] 66 (0,0)) (by (with_reducible repeat (first | refine q0j ?_ _ | refine q0k ?_ | refine q0h ?_ _));exact BK105.out)) : gb105 ≠ gb106));have n6_ := Aside0.mk ((by rw [hg];exact Nat.ne_of_gt (blk_lt (g := gb105) (o := .cells #[.int .i64 a0_0,.bool a0_1,.int .i64 a0_2,.string a0_3] 66 (0,0)) (by (with_reducible repeat (first | refine q0j ?_ _ | refine q0k ?_ | refine q0h ?_ _));exact BK105.out)) : gb106 ≠ gb105));clear BK105;clear HB;have BK105 := n0_;have HB := n1_;have BK106 := n2_;have GW106 := n3_;have GE106 := n4_;have NB105_106 := n5_;have NB106_105 := n6_;clear n0_ n1_ n2_ n3_ n4_ n5_ n6_;clear hb hbox hg;have hnb10 := NB105_106.out;have hnc10 := NB106_105.out;have hcz11_0 : w9.cell? ⟨gb105,0,none⟩ = some (.int .i64 a0_0) := (q0d BK105.out 0).trans rfl;have hcz11_1 : w9.cell? ⟨gb105,1,none⟩ = some (.bool a0_1) := (q0d BK105.out 1).trans rfl;have hcz11_2 : w9.cell? ⟨gb105,2,none⟩ = some (.int .i64 a0_2) := (q0d BK105.out 2).trans rfl;have hcz11_3 : w9.cell? ⟨gb105,3,none⟩ = some (.string a0_3) := (q0d BK105.out 3).trans rfl;have hfz11_0 := q0e BK105.out 0;have hfz11_1 := q0e BK105.out 1;have hfz11_2 := q0e BK105.out 2;have hfz11_3 := q0e BK105.out 3;have hcz12_0 : w9.cell? ⟨gb106,0,none⟩ = some (.int .i64 a1_0) := (q0d BK106.out 0).trans rfl;have hcz12_1 : w9.cell? ⟨gb106,1,none⟩ = some (.bool a1_1) := (q0d BK106.out 1).trans rfl;have hcz12_2 : w9.cell? ⟨gb106,2,none⟩ = some (.int .i64 a1_2) := (q0d BK106.out 2).trans rfl;have hcz12_3 : w9.cell? ⟨gb106,3,none⟩ = some (.string a1_3) := (q0d BK106.out 3).trans rfl;have hfz12_0 := q0e BK106.out 0;have hfz12_1 := q0e BK106.out 1;have hfz12_2 := q0e BK106.out 2;have hfz12_3 := q0e BK106.out 3) | (go_at_call 120;(with_reducible refine (value_truth.calls a0_1 t108 _ A5.out).mono ?_);rintro e w' ⟨rfl,⟨nd,rfl⟩⟩;(try first | exact ⟨rfl,_,World.drewN_drewN _ _ _⟩ | exact ⟨rfl,_,Eq.trans (World.drewN_drewN _ _ _) (congrArg (World.drewN _) (Nat.add_assoc _ _ _))⟩)) | (go_at_call 120;(with_reducible refine (value_truth.calls a1_1 t109 _ A6.out).mono ?_);rintro e w' ⟨rfl,⟨nd,rfl⟩⟩;(try first | exact ⟨rfl,_,World.drewN_drewN _ _ _⟩ | exact ⟨rfl,_,Eq.trans (World.drewN_drewN _ _ _) (congrArg (World.drewN _) (Nat.add_assoc _ _ _))⟩)) | (go_at_call 119;(with_reducible refine (cmp_Compare_119.calls t108 t109 t110 _ A7.out).mono ?_);rintro e w' ⟨rfl,⟨nd,rfl⟩⟩;(try first | exact ⟨rfl,_,World.drewN_drewN _ _ _⟩ | exact ⟨rfl,_,Eq.trans (World.drewN_drewN _ _ _) (congrArg (World.drewN _) (Nat.add_assoc _ _ _))⟩))))
   go_ret
   exact ⟨by first | rfl | (simp [q0m,q0l] <;> rfl) | (simp [*,q0m,q0l] <;> rfl),by repeat (first | (with_reducible first | exact HB.out | apply q0b | apply q0a | apply q0c | refine q0i ?_ GE105.out | refine q0i ?_ GE106.out) | exact HB.out)⟩
  ·rw [if_neg c4] at H
   have c4b0 : (a0_0 == 1) = false := beq_eq_false_iff_ne.mpr c4
   have c4b1 : (a0_0 != 1) = true := bne_iff_ne.mpr c4
   by_cases c13 : a0_0 = 2
   ·rw [if_pos c13] at H
    have c13b0 : (a0_0 == 2) = true := beq_iff_eq.mpr c13
    have c13b1 : (a0_0 != 2) = false := bne_eq_false_iff_eq.mpr c13
    clear c13
    replace H := Option.bind_eq_some_iff.mp H
    obtain ⟨t111,A140,H⟩ := H
    replace H : (some t111) = some r := H
    have A14 := Aside0.mk A140
    clear A140
    obtain rfl := Option.some.inj H
    go_enter Try.func111,Try.ntmps111
    go_wp2_with (first | ((with_reducible refine q0p (N := 2) rfl ?_);refine q0o ?hg (N := 2) ?hd (cs := #[.int .i64 a0_0,.bool a0_1,.int .i64 a0_2,.string a0_3]) (t := 66) ?hr ?_;(case hd => rfl);(case hg => rfl);(case hr => first | (go_simp;done) | (go_simp;rfl));intro gb105 hg w15 hbox hb;have n0_ := Aside0.mk (q0n (by repeat (first | (with_reducible first | exact HB.out | apply q0b | apply q0a | apply q0c) | exact HB.out)) hb);have n1_ := Aside0.mk (hbox);have n2_ := Aside0.mk ((by rw [hg];exact (q0g (by repeat (first | (with_reducible first | exact HB.out | apply q0b | apply q0a | apply q0c) | exact HB.out))) : w.heap.size ≤ gb105));have n3_ := Aside0.mk ((by rw [hg];exact (q0g (by repeat (first | (with_reducible first | exact HB.out | apply q0b | apply q0a | apply q0c) | exact HB.out))) : w.heap.size ≤ gb105));clear HB;have HB := n0_;have BK105 := n1_;have GW105 := n2_;have GE105 := n3_;clear n0_ n1_ n2_ n3_;clear hb hbox hg) | ((with_reducible refine q0p (N := 3) rfl ?_);refine q0o ?hg (N := 3) ?hd (cs := #[.int .i64 a1_0,.bool a1_1,.int .i64 a1_2,.string a1_3]) (t := 66) ?hr ?_;(case hd => rfl);(case hg => rfl);(case hr => first | (go_simp;done) | (go_simp;rfl));intro gb106 hg w16 hbox hb;have n0_ := Aside0.mk (q0s (g := gb105) (o := .cells #[.int .i64 a0_0,.bool a0_1,.int .i64 a0_2,.string a0_3] 66 (0,0)) (by (with_reducible repeat (first | refine q0j ?_ _ | refine q0k ?_ | refine q0h ?_ _));exact BK105.out) hb);have n1_ := Aside0.mk (q0n (by repeat (first | (with_reducible first | exact HB.out | apply q0b | apply q0a | apply q0c | refine q0i ?_ GE105.out) | exact HB.out)) hb);have n2_ := Aside0.mk (hbox);have n3_ := Aside0.mk ((by rw [hg];exact (q0g (by repeat (first | (with_reducible first | exact HB.out | apply q0b | apply q0a | apply q0c | refine q0i ?_ GE105.out) | exact HB.out))) : w.heap.size ≤ gb106));have n4_ := Aside0.mk ((by rw [hg];exact (q0g (by repeat (first | (with_reducible first | exact HB.out | apply q0b | apply q0a | apply q0c | refine q0i ?_ GE105.out) | exact HB.out))) : w.heap.size ≤ gb106));have n5_ := Aside0.mk ((by rw [hg];exact Nat.ne_of_lt (blk_lt (g := gb105) (o := .cells #[.int .i64 a0_0,.bool a0_1,.int .i64 a0_2,.string a0_3] 66 (0,0)) (by (with_reducible repeat (first | refine q0j ?_ _ | refine q0k ?_ | refine q0h ?_ _));exact BK105.out)) : gb105 ≠ gb106));have n6_ := Aside0.mk ((by rw [hg];exact Nat.ne_of_gt (blk_lt (g := gb105) (o := .cells #[.int .i64 a0_0,.bool a0_1,.int .i64 a0_2,.string a0_3] 66 (0,0)) (by (with_reducible repeat (first | refine q0j ?_ _ | refine q0k ?_ | refine q0h ?_ _));exact BK105.out)) : gb106 ≠ gb105));clear BK105;clear HB;have BK105 := n0_;have HB := n1_;have BK106 := n2_;have GW106 := n3_;have GE106 := n4_;have NB105_106 := n5_;have NB106_105 := n6_;clear n0_ n1_ n2_ n3_ n4_ n5_ n6_;clear hb hbox hg;have hnb17 := NB105_106.out;have hnc17 := NB106_105.out;have hcz18_0 : w16.cell? ⟨gb105,0,none⟩ = some (.int .i64 a0_0) := (q0d BK105.out 0).trans rfl;have hcz18_1 : w16.cell? ⟨gb105,1,none⟩ = some (.bool a0_1) := (q0d BK105.out 1).trans rfl;have hcz18_2 : w16.cell? ⟨gb105,2,none⟩ = some (.int .i64 a0_2) := (q0d BK105.out 2).trans rfl;have hcz18_3 : w16.cell? ⟨gb105,3,none⟩ = some (.string a0_3) := (q0d BK105.out 3).trans rfl;have hfz18_0 := q0e BK105.out 0;have hfz18_1 := q0e BK105.out 1;have hfz18_2 := q0e BK105.out 2;have hfz18_3 := q0e BK105.out 3;have hcz19_0 : w16.cell? ⟨gb106,0,none⟩ = some (.int .i64 a1_0) := (q0d BK106.out 0).trans rfl;have hcz19_1 : w16.cell? ⟨gb106,1,none⟩ = some (.bool a1_1) := (q0d BK106.out 1).trans rfl;have hcz19_2 : w16.cell? ⟨gb106,2,none⟩ = some (.int .i64 a1_2) := (q0d BK106.out 2).trans rfl;have hcz19_3 : w16.cell? ⟨gb106,3,none⟩ = some (.string a1_3) := (q0d BK106.out 3).trans rfl;have hfz19_0 := q0e BK106.out 0;have hfz19_1 := q0e BK106.out 1;have hfz19_2 := q0e BK106.out 2;have hfz19_3 := q0e BK106.out 3) | (go_at_call 121;(with_reducible refine (cmp_Compare_121.calls a0_2 a1_2 t111 _ A14.out).mono ?_);rintro e w' ⟨rfl,⟨nd,rfl⟩⟩;(try first | exact ⟨rfl,_,World.drewN_drewN _ _ _⟩ | exact ⟨rfl,_,Eq.trans (World.drewN_drewN _ _ _) (congrArg (World.drewN _) (Nat.add_assoc _ _ _))⟩)))
    repeat (go_quiet (first | ((with_reducible refine q0p (N := 2) rfl ?_);refine q0o ?hg (N := 2) ?hd (cs := #[.int .i64 a0_0,.bool a0_1,.int .i64 a0_2,.string a0_3]) (t := 66) ?hr ?_;(case hd => rfl);(case hg => rfl);(case hr => first | (go_simp;done) | (go_simp;rfl));intro gb105 hg w15 hbox hb;have n0_ := Aside0.mk (q0n (by repeat (first | (with_reducible first | exact HB.out | apply q0b | apply q0a | apply q0c) | exact HB.out)) hb);have n1_ := Aside0.mk (hbox);have n2_ := Aside0.mk ((by rw [hg];exact (q0g (by repeat (first | (with_reducible first | exact HB.out | apply q0b | apply q0a | apply q0c) | exact HB.out))) : w.heap.size ≤ gb105));have n3_ := Aside0.mk ((by rw [hg];exact (q0g (by repeat (first | (with_reducible first | exact HB.out | apply q0b | apply q0a | apply q0c) | exact HB.out))) : w.heap.size ≤ gb105));clear HB;have HB := n0_;have BK105 := n1_;have GW105 := n2_;have GE105 := n3_;clear n0_ n1_ n2_ n3_;clear hb hbox hg) | ((with_reducible refine q0p (N := 3) rfl ?_);refine q0o ?hg (N := 3) ?hd (cs := #[.int .i64 a1_0,.bool a1_1,.int .i64 a1_2,.string a1_3]) (t := 66) ?hr ?_;(case hd => rfl);(case hg => rfl);(case hr => first | (go_simp;done) | (go_simp;rfl));intro gb106 hg w16 hbox hb;have n0_ := Aside0.mk (q0s (g := gb105) (o := .cells #[.int .i64 a0_0,.bool a0_1,.int .i64 a0_2,.string a0_3] 66 (0,0)) (by (with_reducible repeat (first | refine q0j ?_ _ | refine q0k ?_ | refine q0h ?_ _));exact BK105.out) hb);have n1_ := Aside0.mk (q0n (by repeat (first | (with_reducible first | exact HB.out | apply q0b | apply q0a | apply q0c | refine q0i ?_ GE105.out) | exact HB.out)) hb);have n2_ := Aside0.mk (hbox);have n3_ := Aside0.mk ((by rw [hg];exact (q0g (by repeat (first | (with_reducible first | exact HB.out | apply q0b | apply q0a | apply q0c | refine q0i ?_ GE105.out) | exact HB.out))) : w.heap.size ≤ gb106));have n4_ := Aside0.mk ((by rw [hg];exact (q0g (by repeat (first | (with_reducible first | exact HB.out | apply q0b | apply q0a | apply q0c | refine q0i ?_ GE105.out) | exact HB.out))) : w.heap.size ≤ gb106));have n5_ := Aside0.mk ((by rw [hg];exact Nat.ne_of_lt (blk_lt (g := gb105) (o := .cells #[.int .i64 a0_0,.bool a0_1,.int .i64 a0_2,.string a0_3] 66 (0,0)) (by (with_reducible repeat (first | refine q0j ?_ _ | refine q0k ?_ | refine q0h ?_ _));exact BK105.out)) : gb105 ≠ gb106));have n6_ := Aside0.mk ((by rw [hg];exact Nat.ne_of_gt (blk_lt (g := gb105) (o := .cells #[.int .i64 a0_0,.bool a0_1,.int .i64 a0_2,.string a0_3] 66 (0,0)) (by (with_reducible repeat (first | refine q0j ?_ _ | refine q0k ?_ | refine q0h ?_ _));exact BK105.out)) : gb106 ≠ gb105));clear BK105;clear HB;have BK105 := n0_;have HB := n1_;have BK106 := n2_;have GW106 := n3_;have GE106 := n4_;have NB105_106 := n5_;have NB106_105 := n6_;clear n0_ n1_ n2_ n3_ n4_ n5_ n6_;clear hb hbox hg;have hnb17 := NB105_106.out;have hnc17 := NB106_105.out;have hcz18_0 : w16.cell? ⟨gb105,0,none⟩ = some (.int .i64 a0_0) := (q0d BK105.out 0).trans rfl;have hcz18_1 : w16.cell? ⟨gb105,1,none⟩ = some (.bool a0_1) := (q0d BK105.out 1).trans rfl;have hcz18_2 : w16.cell? ⟨gb105,2,none⟩ = some (.int .i64 a0_2) := (q0d BK105.out 2).trans rfl;have hcz18_3 : w16.cell? ⟨gb105,3,none⟩ = some (.string a0_3) := (q0d BK105.out 3).trans rfl;have hfz18_0 := q0e BK105.out 0;have hfz18_1 := q0e BK105.out 1;have hfz18_2 := q0e BK105.out 2;have hfz18_3 := q0e BK105.out 3;have hcz19_0 : w16.cell? ⟨gb106,0,none⟩ = some (.int .i64 a1_0) := (q0d BK106.out 0).trans rfl;have hcz19_1 : w16.cell? ⟨gb106,1,none⟩ = some (.bool a1_1) := (q0d BK106.out 1).trans rfl;have hcz19_2 : w16.cell? ⟨gb106,2,none⟩ = some (.int .i64 a1_2) := (q0d BK106.out 2).trans rfl;have hcz19_3 : w16.cell? ⟨gb106,3,none⟩ = some (.string a1_3) := (q0d BK106.out 3).trans rfl;have hfz19_0 := q0e BK106.out 0;have hfz19_1 := q0e BK106.out 1;have hfz19_2 := q0e BK106.out 2;have hfz19_3 := q0e BK106.out 3) | (go_at_call 121;(with_reducible refine (cmp_Compare_121.calls a0_2 a1_2 t111 _ A14.out).mono ?_);rintro e w' ⟨rfl,⟨nd,rfl⟩⟩;(try first | exact ⟨rfl,_,World.drewN_drewN _ _ _⟩ | exact ⟨rfl,_,Eq.trans (World.drewN_drewN _ _ _) (congrArg (World.drewN _) (Nat.add_assoc _ _ _))⟩)));try go_wp2_with (first | ((with_reducible refine q0p (N := 2) rfl ?_);refine q0o ?hg (N := 2) ?hd (cs := #[.int .i64 a0_0,.bool a0_1,.int .i64 a0_2,.string a0_3]) (t := 66) ?hr ?_;(case hd => rfl);(case hg => rfl);(case hr => first | (go_simp;done) | (go_simp;rfl));intro gb105 hg w15 hbox hb;have n0_ := Aside0.mk (q0n (by repeat (first | (with_reducible first | exact HB.out | apply q0b | apply q0a | apply q0c) | exact HB.out)) hb);have n1_ := Aside0.mk (hbox);have n2_ := Aside0.mk ((by rw [hg];exact (q0g (by repeat (first | (with_reducible first | exact HB.out | apply q0b | apply q0a | apply q0c) | exact HB.out))) : w.heap.size ≤ gb105));have n3_ := Aside0.mk ((by rw [hg];exact (q0g (by repeat (first | (with_reducible first | exact HB.out | apply q0b | apply q0a | apply q0c) | exact HB.out))) : w.heap.size ≤ gb105));clear HB;have HB := n0_;have BK105 := n1_;have GW105 := n2_;have GE105 := n3_;clear n0_ n1_ n2_ n3_;clear hb hbox hg) | ((with_reducible refine q0p (N := 3) rfl ?_);refine q0o ?hg (N := 3) ?hd (cs := #[.int .i64 a1_0,.bool a1_1,.int .i64 a1_2,.string a1_3]) (t := 66) ?hr ?_;(case hd => rfl);(case hg => rfl);(case hr => first | (go_simp;done) | (go_simp;rfl));intro gb106 hg w16 hbox hb;have n0_ := Aside0.mk (q0s (g := gb105) (o := .cells #[.int .i64 a0_0,.bool a0_1,.int .i64 a0_2,.string a0_3] 66 (0,0)) (by (with_reducible repeat (first | refine q0j ?_ _ | refine q0k ?_ | refine q0h ?_ _));exact BK105.out) hb);have n1_ := Aside0.mk (q0n (by repeat (first | (with_reducible first | exact HB.out | apply q0b | apply q0a | apply q0c | refine q0i ?_ GE105.out) | exact HB.out)) hb);have n2_ := Aside0.mk (hbox);have n3_ := Aside0.mk ((by rw [hg];exact (q0g (by repeat (first | (with_reducible first | exact HB.out | apply q0b | apply q0a | apply q0c | refine q0i ?_ GE105.out) | exact HB.out))) : w.heap.size ≤ gb106));have n4_ := Aside0.mk ((by rw [hg];exact (q0g (by repeat (first | (with_reducible first | exact HB.out | apply q0b | apply q0a | apply q0c | refine q0i ?_ GE105.out) | exact HB.out))) : w.heap.size ≤ gb106));have n5_ := Aside0.mk ((by rw [hg];exact Nat.ne_of_lt (blk_lt (g := gb105) (o := .cells #[.int .i64 a0_0,.bool a0_1,.int .i64 a0_2,.string a0_3] 66 (0,0)) (by (with_reducible repeat (first | refine q0j ?_ _ | refine q0k ?_ | refine q0h ?_ _));exact BK105.out)) : gb105 ≠ gb106));have n6_ := Aside0.mk ((by rw [hg];exact Nat.ne_of_gt (blk_lt (g := gb105) (o := .cells #[.int .i64 a0_0,.bool a0_1,.int .i64 a0_2,.string a0_3] 66 (0,0)) (by (with_reducible repeat (first | refine q0j ?_ _ | refine q0k ?_ | refine q0h ?_ _));exact BK105.out)) : gb106 ≠ gb105));clear BK105;clear HB;have BK105 := n0_;have HB := n1_;have BK106 := n2_;have GW106 := n3_;have GE106 := n4_;have NB105_106 := n5_;have NB106_105 := n6_;clear n0_ n1_ n2_ n3_ n4_ n5_ n6_;clear hb hbox hg;have hnb17 := NB105_106.out;have hnc17 := NB106_105.out;have hcz18_0 : w16.cell? ⟨gb105,0,none⟩ = some (.int .i64 a0_0) := (q0d BK105.out 0).trans rfl;have hcz18_1 : w16.cell? ⟨gb105,1,none⟩ = some (.bool a0_1) := (q0d BK105.out 1).trans rfl;have hcz18_2 : w16.cell? ⟨gb105,2,none⟩ = some (.int .i64 a0_2) := (q0d BK105.out 2).trans rfl;have hcz18_3 : w16.cell? ⟨gb105,3,none⟩ = some (.string a0_3) := (q0d BK105.out 3).trans rfl;have hfz18_0 := q0e BK105.out 0;have hfz18_1 := q0e BK105.out 1;have hfz18_2 := q0e BK105.out 2;have hfz18_3 := q0e BK105.out 3;have hcz19_0 : w16.cell? ⟨gb106,0,none⟩ = some (.int .i64 a1_0) := (q0d BK106.out 0).trans rfl;have hcz19_1 : w16.cell? ⟨gb106,1,none⟩ = some (.bool a1_1) := (q0d BK106.out 1).trans rfl;have hcz19_2 : w16.cell? ⟨gb106,2,none⟩ = some (.int .i64 a1_2) := (q0d BK106.out 2).trans rfl;have hcz19_3 : w16.cell? ⟨gb106,3,none⟩ = some (.string a1_3) := (q0d BK106.out 3).trans rfl;have hfz19_0 := q0e BK106.out 0;have hfz19_1 := q0e BK106.out 1;have hfz19_2 := q0e BK106.out 2;have hfz19_3 := q0e BK106.out 3) | (go_at_call 121;(with_reducible refine (cmp_Compare_121.calls a0_2 a1_2 t111 _ A14.out).mono ?_);rintro e w' ⟨rfl,⟨nd,rfl⟩⟩;(try first | exact ⟨rfl,_,World.drewN_drewN _ _ _⟩ | exact ⟨rfl,_,Eq.trans (World.drewN_drewN _ _ _) (congrArg (World.drewN _) (Nat.add_assoc _ _ _))⟩))))
    go_ret
    exact ⟨by first | rfl | (simp [q0m,q0l] <;> rfl) | (simp [*,q0m,q0l] <;> rfl),by repeat (first | (with_reducible first | exact HB.out | apply q0b | apply q0a | apply q0c | refine q0i ?_ GE105.out | refine q0i ?_ GE106.out) | exact HB.out)⟩
   ·rw [if_neg c13] at H
    have c13b0 : (a0_0 == 2) = false := beq_eq_false_iff_ne.mpr c13
    have c13b1 : (a0_0 != 2) = true := bne_iff_ne.mpr c13
    by_cases c20 : a0_0 = 3
    ·rw [if_pos c20] at H
     have c20b0 : (a0_0 == 3) = true := beq_iff_eq.mpr c20
     have c20b1 : (a0_0 != 3) = false := bne_eq_false_iff_eq.mpr c20
     clear c20
     replace H := Option.bind_eq_some_iff.mp H
     obtain ⟨t112,A210,H⟩ := H
     replace H : (some t112) = some r := H
     have A21 := Aside0.mk A210
     clear A210
     obtain rfl := Option.some.inj H
     go_enter Try.func111,Try.ntmps111
     go_wp2_with (first | ((with_reducible refine q0p (N := 2) rfl ?_);refine q0o ?hg (N := 2) ?hd (cs := #[.int .i64 a0_0,.bool a0_1,.int .i64 a0_2,.string a0_3]) (t := 66) ?hr ?_;(case hd => rfl);(case hg => rfl);(case hr => first | (go_simp;done) | (go_simp;rfl));intro gb105 hg w22 hbox hb;have n0_ := Aside0.mk (q0n (by repeat (first | (with_reducible first | exact HB.out | apply q0b | apply q0a | apply q0c) | exact HB.out)) hb);have n1_ := Aside0.mk (hbox);have n2_ := Aside0.mk ((by rw [hg];exact (q0g (by repeat (first | (with_reducible first | exact HB.out | apply q0b | apply q0a | apply q0c) | exact HB.out))) : w.heap.size ≤ gb105));have n3_ := Aside0.mk ((by rw [hg];exact (q0g (by repeat (first | (with_reducible first | exact HB.out | apply q0b | apply q0a | apply q0c) | exact HB.out))) : w.heap.size ≤ gb105));clear HB;have HB := n0_;have BK105 := n1_;have GW105 := n2_;have GE105 := n3_;clear n0_ n1_ n2_ n3_;clear hb hbox hg) | ((with_reducible refine q0p (N := 3) rfl ?_);refine q0o ?hg (N := 3) ?hd (cs := #[.int .i64 a1_0,.bool a1_1,.int .i64 a1_2,.string a1_3]) (t := 66) ?hr ?_;(case hd => rfl);(case hg => rfl);(case hr => first | (go_simp;done) | (go_simp;rfl));intro gb106 hg w23 hbox hb;have n0_ := Aside0.mk (q0s (g := gb105) (o := .cells #[.int .i64 a0_0,.bool a0_1,.int .i64 a0_2,.string a0_3] 66 (0,0)) (by (with_reducible repeat (first | refine q0j ?_ _ | refine q0k ?_ | refine q0h ?_ _));exact BK105.out) hb);have n1_ := Aside0.mk (q0n (by repeat (first | (with_reducible first | exact HB.out | apply q0b | apply q0a | apply q0c | refine q0i ?_ GE105.out) | exact HB.out)) hb);have n2_ := Aside0.mk (hbox);have n3_ := Aside0.mk ((by rw [hg];exact (q0g (by repeat (first | (with_reducible first | exact HB.out | apply q0b | apply q0a | apply q0c | refine q0i ?_ GE105.out) | exact HB.out))) : w.heap.size ≤ gb106));have n4_ := Aside0.mk ((by rw [hg];exact (q0g (by repeat (first | (with_reducible first | exact HB.out | apply q0b | apply q0a | apply q0c | refine q0i ?_ GE105.out) | exact HB.out))) : w.heap.size ≤ gb106));have n5_ := Aside0.mk ((by rw [hg];exact Nat.ne_of_lt (blk_lt (g := gb105) (o := .cells #[.int .i64 a0_0,.bool a0_1,.int .i64 a0_2,.string a0_3] 66 (0,0)) (by (with_reducible repeat (first | refine q0j ?_ _ | refine q0k ?_ | refine q0h ?_ _));exact BK105.out)) : gb105 ≠ gb106));have n6_ := Aside0.mk ((by rw [hg];exact Nat.ne_of_gt (blk_lt (g := gb105) (o := .cells #[.int .i64 a0_0,.bool a0_1,.int .i64 a0_2,.string a0_3] 66 (0,0)) (by (with_reducible repeat (first | refine q0j ?_ _ | refine q0k ?_ | refine q0h ?_ _));exact BK105.out)) : gb106 ≠ gb105));clear BK105;clear HB;have BK105 := n0_;have HB := n1_;have BK106 := n2_;have GW106 := n3_;have GE106 := n4_;have NB105_106 := n5_;have NB106_105 := n6_;clear n0_ n1_ n2_ n3_ n4_ n5_ n6_;clear hb hbox hg;have hnb24 := NB105_106.out;have hnc24 := NB106_105.out;have hcz25_0 : w23.cell? ⟨gb105,0,none⟩ = some (.int .i64 a0_0) := (q0d BK105.out 0).trans rfl;have hcz25_1 : w23.cell? ⟨gb105,1,none⟩ = some (.bool a0_1) := (q0d BK105.out 1).trans rfl;have hcz25_2 : w23.cell? ⟨gb105,2,none⟩ = some (.int .i64 a0_2) := (q0d BK105.out 2).trans rfl;have hcz25_3 : w23.cell? ⟨gb105,3,none⟩ = some (.string a0_3) := (q0d BK105.out 3).trans rfl;have hfz25_0 := q0e BK105.out 0;have hfz25_1 := q0e BK105.out 1;have hfz25_2 := q0e BK105.out 2;have hfz25_3 := q0e BK105.out 3;have hcz26_0 : w23.cell? ⟨gb106,0,none⟩ = some (.int .i64 a1_0) := (q0d BK106.out 0).trans rfl;have hcz26_1 : w23.cell? ⟨gb106,1,none⟩ = some (.bool a1_1) := (q0d BK106.out 1).trans rfl;have hcz26_2 : w23.cell? ⟨gb106,2,none⟩ = some (.int .i64 a1_2) := (q0d BK106.out 2).trans rfl;have hcz26_3 : w23.cell? ⟨gb106,3,none⟩ = some (.string a1_3) := (q0d BK106.out 3).trans rfl;have hfz26_0 := q0e BK106.out 0;have hfz26_1 := q0e BK106.out 1;have hfz26_2 := q0e BK106.out 2;have hfz26_3 := q0e BK106.out 3) | (go_at_call 122;(with_reducible refine (strings_Compare.calls a0_3 a1_3 t112 _ A21.out).mono ?_);rintro e w27 ⟨rfl,hb⟩;have n0_ := Aside0.mk (q0s (g := gb105) (o := .cells #[.int .i64 a0_0,.bool a0_1,.int .i64 a0_2,.string a0_3] 66 (0,0)) (by (with_reducible repeat (first | refine q0j ?_ _ | refine q0k ?_ | refine q0h ?_ _));exact BK105.out) hb);have n1_ := Aside0.mk (q0s (g := gb106) (o := .cells #[.int .i64 a1_0,.bool a1_1,.int .i64 a1_2,.string a1_3] 66 (0,0)) (by (with_reducible repeat (first | refine q0j ?_ _ | refine q0k ?_ | refine q0h ?_ _));exact BK106.out) hb);have n2_ := Aside0.mk (q0n (by repeat (first | (with_reducible first | exact HB.out | apply q0b | apply q0a | apply q0c | refine q0i ?_ GE105.out | refine q0i ?_ GE106.out) | exact HB.out)) hb);clear BK105;clear BK106;clear HB;have BK105 := n0_;have BK106 := n1_;have HB := n2_;clear n0_ n1_ n2_;(try clear hb);(try clear hb2);(try clear hk);(try clear hi)))
     repeat (go_quiet (first | ((with_reducible refine q0p (N := 2) rfl ?_);refine q0o ?hg (N := 2) ?hd (cs := #[.int .i64 a0_0,.bool a0_1,.int .i64 a0_2,.string a0_3]) (t := 66) ?hr ?_;(case hd => rfl);(case hg => rfl);(case hr => first | (go_simp;done) | (go_simp;rfl));intro gb105 hg w22 hbox hb;have n0_ := Aside0.mk (q0n (by repeat (first | (with_reducible first | exact HB.out | apply q0b | apply q0a | apply q0c) | exact HB.out)) hb);have n1_ := Aside0.mk (hbox);have n2_ := Aside0.mk ((by rw [hg];exact (q0g (by repeat (first | (with_reducible first | exact HB.out | apply q0b | apply q0a | apply q0c) | exact HB.out))) : w.heap.size ≤ gb105));have n3_ := Aside0.mk ((by rw [hg];exact (q0g (by repeat (first | (with_reducible first | exact HB.out | apply q0b | apply q0a | apply q0c) | exact HB.out))) : w.heap.size ≤ gb105));clear HB;have HB := n0_;have BK105 := n1_;have GW105 := n2_;have GE105 := n3_;clear n0_ n1_ n2_ n3_;clear hb hbox hg) | ((with_reducible refine q0p (N := 3) rfl ?_);refine q0o ?hg (N := 3) ?hd (cs := #[.int .i64 a1_0,.bool a1_1,.int .i64 a1_2,.string a1_3]) (t := 66) ?hr ?_;(case hd => rfl);(case hg => rfl);(case hr => first | (go_simp;done) | (go_simp;rfl));intro gb106 hg w23 hbox hb;have n0_ := Aside0.mk (q0s (g := gb105) (o := .cells #[.int .i64 a0_0,.bool a0_1,.int .i64 a0_2,.string a0_3] 66 (0,0)) (by (with_reducible repeat (first | refine q0j ?_ _ | refine q0k ?_ | refine q0h ?_ _));exact BK105.out) hb);have n1_ := Aside0.mk (q0n (by repeat (first | (with_reducible first | exact HB.out | apply q0b | apply q0a | apply q0c | refine q0i ?_ GE105.out) | exact HB.out)) hb);have n2_ := Aside0.mk (hbox);have n3_ := Aside0.mk ((by rw [hg];exact (q0g (by repeat (first | (with_reducible first | exact HB.out | apply q0b | apply q0a | apply q0c | refine q0i ?_ GE105.out) | exact HB.out))) : w.heap.size ≤ gb106));have n4_ := Aside0.mk ((by rw [hg];exact (q0g (by repeat (first | (with_reducible first | exact HB.out | apply q0b | apply q0a | apply q0c | refine q0i ?_ GE105.out) | exact HB.out))) : w.heap.size ≤ gb106));have n5_ := Aside0.mk ((by rw [hg];exact Nat.ne_of_lt (blk_lt (g := gb105) (o := .cells #[.int .i64 a0_0,.bool a0_1,.int .i64 a0_2,.string a0_3] 66 (0,0)) (by (with_reducible repeat (first | refine q0j ?_ _ | refine q0k ?_ | refine q0h ?_ _));exact BK105.out)) : gb105 ≠ gb106));have n6_ := Aside0.mk ((by rw [hg];exact Nat.ne_of_gt (blk_lt (g := gb105) (o := .cells #[.int .i64 a0_0,.bool a0_1,.int .i64 a0_2,.string a0_3] 66 (0,0)) (by (with_reducible repeat (first | refine q0j ?_ _ | refine q0k ?_ | refine q0h ?_ _));exact BK105.out)) : gb106 ≠ gb105));clear BK105;clear HB;have BK105 := n0_;have HB := n1_;have BK106 := n2_;have GW106 := n3_;have GE106 := n4_;have NB105_106 := n5_;have NB106_105 := n6_;clear n0_ n1_ n2_ n3_ n4_ n5_ n6_;clear hb hbox hg;have hnb24 := NB105_106.out;have hnc24 := NB106_105.out;have hcz25_0 : w23.cell? ⟨gb105,0,none⟩ = some (.int .i64 a0_0) := (q0d BK105.out 0).trans rfl;have hcz25_1 : w23.cell? ⟨gb105,1,none⟩ = some (.bool a0_1) := (q0d BK105.out 1).trans rfl;have hcz25_2 : w23.cell? ⟨gb105,2,none⟩ = some (.int .i64 a0_2) := (q0d BK105.out 2).trans rfl;have hcz25_3 : w23.cell? ⟨gb105,3,none⟩ = some (.string a0_3) := (q0d BK105.out 3).trans rfl;have hfz25_0 := q0e BK105.out 0;have hfz25_1 := q0e BK105.out 1;have hfz25_2 := q0e BK105.out 2;have hfz25_3 := q0e BK105.out 3;have hcz26_0 : w23.cell? ⟨gb106,0,none⟩ = some (.int .i64 a1_0) := (q0d BK106.out 0).trans rfl;have hcz26_1 : w23.cell? ⟨gb106,1,none⟩ = some (.bool a1_1) := (q0d BK106.out 1).trans rfl;have hcz26_2 : w23.cell? ⟨gb106,2,none⟩ = some (.int .i64 a1_2) := (q0d BK106.out 2).trans rfl;have hcz26_3 : w23.cell? ⟨gb106,3,none⟩ = some (.string a1_3) := (q0d BK106.out 3).trans rfl;have hfz26_0 := q0e BK106.out 0;have hfz26_1 := q0e BK106.out 1;have hfz26_2 := q0e BK106.out 2;have hfz26_3 := q0e BK106.out 3) | (go_at_call 122;(with_reducible refine (strings_Compare.calls a0_3 a1_3 t112 _ A21.out).mono ?_);rintro e w27 ⟨rfl,hb⟩;have n0_ := Aside0.mk (q0s (g := gb105) (o := .cells #[.int .i64 a0_0,.bool a0_1,.int .i64 a0_2,.string a0_3] 66 (0,0)) (by (with_reducible repeat (first | refine q0j ?_ _ | refine q0k ?_ | refine q0h ?_ _));exact BK105.out) hb);have n1_ := Aside0.mk (q0s (g := gb106) (o := .cells #[.int .i64 a1_0,.bool a1_1,.int .i64 a1_2,.string a1_3] 66 (0,0)) (by (with_reducible repeat (first | refine q0j ?_ _ | refine q0k ?_ | refine q0h ?_ _));exact BK106.out) hb);have n2_ := Aside0.mk (q0n (by repeat (first | (with_reducible first | exact HB.out | apply q0b | apply q0a | apply q0c | refine q0i ?_ GE105.out | refine q0i ?_ GE106.out) | exact HB.out)) hb);clear BK105;clear BK106;clear HB;have BK105 := n0_;have BK106 := n1_;have HB := n2_;clear n0_ n1_ n2_;(try clear hb);(try clear hb2);(try clear hk);(try clear hi)));try go_wp2_with (first | ((with_reducible refine q0p (N := 2) rfl ?_);refine q0o ?hg (N := 2) ?hd (cs := #[.int .i64 a0_0,.bool a0_1,.int .i64 a0_2,.string a0_3]) (t := 66) ?hr ?_;(case hd => rfl);(case hg => rfl);(case hr => first | (go_simp;done) | (go_simp;rfl));intro gb105 hg w22 hbox hb;have n0_ := Aside0.mk (q0n (by repeat (first | (with_reducible first | exact HB.out | apply q0b | apply q0a | apply q0c) | exact HB.out)) hb);have n1_ := Aside0.mk (hbox);have n2_ := Aside0.mk ((by rw [hg];exact (q0g (by repeat (first | (with_reducible first | exact HB.out | apply q0b | apply q0a | apply q0c) | exact HB.out))) : w.heap.size ≤ gb105));have n3_ := Aside0.mk ((by rw [hg];exact (q0g (by repeat (first | (with_reducible first | exact HB.out | apply q0b | apply q0a | apply q0c) | exact HB.out))) : w.heap.size ≤ gb105));clear HB;have HB := n0_;have BK105 := n1_;have GW105 := n2_;have GE105 := n3_;clear n0_ n1_ n2_ n3_;clear hb hbox hg) | ((with_reducible refine q0p (N := 3) rfl ?_);refine q0o ?hg (N := 3) ?hd (cs := #[.int .i64 a1_0,.bool a1_1,.int .i64 a1_2,.string a1_3]) (t := 66) ?hr ?_;(case hd => rfl);(case hg => rfl);(case hr => first | (go_simp;done) | (go_simp;rfl));intro gb106 hg w23 hbox hb;have n0_ := Aside0.mk (q0s (g := gb105) (o := .cells #[.int .i64 a0_0,.bool a0_1,.int .i64 a0_2,.string a0_3] 66 (0,0)) (by (with_reducible repeat (first | refine q0j ?_ _ | refine q0k ?_ | refine q0h ?_ _));exact BK105.out) hb);have n1_ := Aside0.mk (q0n (by repeat (first | (with_reducible first | exact HB.out | apply q0b | apply q0a | apply q0c | refine q0i ?_ GE105.out) | exact HB.out)) hb);have n2_ := Aside0.mk (hbox);have n3_ := Aside0.mk ((by rw [hg];exact (q0g (by repeat (first | (with_reducible first | exact HB.out | apply q0b | apply q0a | apply q0c | refine q0i ?_ GE105.out) | exact HB.out))) : w.heap.size ≤ gb106));have n4_ := Aside0.mk ((by rw [hg];exact (q0g (by repeat (first | (with_reducible first | exact HB.out | apply q0b | apply q0a | apply q0c | refine q0i ?_ GE105.out) | exact HB.out))) : w.heap.size ≤ gb106));have n5_ := Aside0.mk ((by rw [hg];exact Nat.ne_of_lt (blk_lt (g := gb105) (o := .cells #[.int .i64 a0_0,.bool a0_1,.int .i64 a0_2,.string a0_3] 66 (0,0)) (by (with_reducible repeat (first | refine q0j ?_ _ | refine q0k ?_ | refine q0h ?_ _));exact BK105.out)) : gb105 ≠ gb106));have n6_ := Aside0.mk ((by rw [hg];exact Nat.ne_of_gt (blk_lt (g := gb105) (o := .cells #[.int .i64 a0_0,.bool a0_1,.int .i64 a0_2,.string a0_3] 66 (0,0)) (by (with_reducible repeat (first | refine q0j ?_ _ | refine q0k ?_ | refine q0h ?_ _));exact BK105.out)) : gb106 ≠ gb105));clear BK105;clear HB;have BK105 := n0_;have HB := n1_;have BK106 := n2_;have GW106 := n3_;have GE106 := n4_;have NB105_106 := n5_;have NB106_105 := n6_;clear n0_ n1_ n2_ n3_ n4_ n5_ n6_;clear hb hbox hg;have hnb24 := NB105_106.out;have hnc24 := NB106_105.out;have hcz25_0 : w23.cell? ⟨gb105,0,none⟩ = some (.int .i64 a0_0) := (q0d BK105.out 0).trans rfl;have hcz25_1 : w23.cell? ⟨gb105,1,none⟩ = some (.bool a0_1) := (q0d BK105.out 1).trans rfl;have hcz25_2 : w23.cell? ⟨gb105,2,none⟩ = some (.int .i64 a0_2) := (q0d BK105.out 2).trans rfl;have hcz25_3 : w23.cell? ⟨gb105,3,none⟩ = some (.string a0_3) := (q0d BK105.out 3).trans rfl;have hfz25_0 := q0e BK105.out 0;have hfz25_1 := q0e BK105.out 1;have hfz25_2 := q0e BK105.out 2;have hfz25_3 := q0e BK105.out 3;have hcz26_0 : w23.cell? ⟨gb106,0,none⟩ = some (.int .i64 a1_0) := (q0d BK106.out 0).trans rfl;have hcz26_1 : w23.cell? ⟨gb106,1,none⟩ = some (.bool a1_1) := (q0d BK106.out 1).trans rfl;have hcz26_2 : w23.cell? ⟨gb106,2,none⟩ = some (.int .i64 a1_2) := (q0d BK106.out 2).trans rfl;have hcz26_3 : w23.cell? ⟨gb106,3,none⟩ = some (.string a1_3) := (q0d BK106.out 3).trans rfl;have hfz26_0 := q0e BK106.out 0;have hfz26_1 := q0e BK106.out 1;have hfz26_2 := q0e BK106.out 2;have hfz26_3 := q0e BK106.out 3) | (go_at_call 122;(with_reducible refine (strings_Compare.calls a0_3 a1_3 t112 _ A21.out).mono ?_);rintro e w27 ⟨rfl,hb⟩;have n0_ := Aside0.mk (q0s (g := gb105) (o := .cells #[.int .i64 a0_0,.bool a0_1,.int .i64 a0_2,.string a0_3] 66 (0,0)) (by (with_reducible repeat (first | refine q0j ?_ _ | refine q0k ?_ | refine q0h ?_ _));exact BK105.out) hb);have n1_ := Aside0.mk (q0s (g := gb106) (o := .cells #[.int .i64 a1_0,.bool a1_1,.int .i64 a1_2,.string a1_3] 66 (0,0)) (by (with_reducible repeat (first | refine q0j ?_ _ | refine q0k ?_ | refine q0h ?_ _));exact BK106.out) hb);have n2_ := Aside0.mk (q0n (by repeat (first | (with_reducible first | exact HB.out | apply q0b | apply q0a | apply q0c | refine q0i ?_ GE105.out | refine q0i ?_ GE106.out) | exact HB.out)) hb);clear BK105;clear BK106;clear HB;have BK105 := n0_;have BK106 := n1_;have HB := n2_;clear n0_ n1_ n2_;(try clear hb);(try clear hb2);(try clear hk);(try clear hi))))
     go_ret
     exact ⟨by first | rfl | (simp [q0m,q0l] <;> rfl) | (simp [*,q0m,q0l] <;> rfl),by repeat (first | (with_reducible first | exact HB.out | apply q0b | apply q0a | apply q0c | refine q0i ?_ GE105.out | refine q0i ?_ GE106.out) | exact HB.out)⟩
    ·rw [if_neg c20] at H
     have c20b0 : (a0_0 == 3) = false := beq_eq_false_iff_ne.mpr c20
     have c20b1 : (a0_0 != 3) = true := bne_iff_ne.mpr c20
     obtain rfl := Option.some.inj H
     go_enter Try.func111,Try.ntmps111
     go_wp2_with (first | ((with_reducible refine q0p (N := 2) rfl ?_);refine q0o ?hg (N := 2) ?hd (cs := #[.int .i64 a0_0,.bool a0_1,.int .i64 a0_2,.string a0_3]) (t := 66) ?hr ?_;(case hd => rfl);(case hg => rfl);(case hr => first | (go_simp;done) | (go_simp;rfl));intro gb105 hg w28 hbox hb;have n0_ := Aside0.mk (q0n (by repeat (first | (with_reducible first | exact HB.out | apply q0b | apply q0a | apply q0c) | exact HB.out)) hb);have n1_ := Aside0.mk (hbox);have n2_ := Aside0.mk ((by rw [hg];exact (q0g (by repeat (first | (with_reducible first | exact HB.out | apply q0b | apply q0a | apply q0c) | exact HB.out))) : w.heap.size ≤ gb105));have n3_ := Aside0.mk ((by rw [hg];exact (q0g (by repeat (first | (with_reducible first | exact HB.out | apply q0b | apply q0a | apply q0c) | exact HB.out))) : w.heap.size ≤ gb105));clear HB;have HB := n0_;have BK105 := n1_;have GW105 := n2_;have GE105 := n3_;clear n0_ n1_ n2_ n3_;clear hb hbox hg) | ((with_reducible refine q0p (N := 3) rfl ?_);refine q0o ?hg (N := 3) ?hd (cs := #[.int .i64 a1_0,.bool a1_1,.int .i64 a1_2,.string a1_3]) (t := 66) ?hr ?_;(case hd => rfl);(case hg => rfl);(case hr => first | (go_simp;done) | (go_simp;rfl));intro gb106 hg w29 hbox hb;have n0_ := Aside0.mk (q0s (g := gb105) (o := .cells #[.int .i64 a0_0,.bool a0_1,.int .i64 a0_2,.string a0_3] 66 (0,0)) (by (with_reducible repeat (first | refine q0j ?_ _ | refine q0k ?_ | refine q0h ?_ _));exact BK105.out) hb);have n1_ := Aside0.mk (q0n (by repeat (first | (with_reducible first | exact HB.out | apply q0b | apply q0a | apply q0c | refine q0i ?_ GE105.out) | exact HB.out)) hb);have n2_ := Aside0.mk (hbox);have n3_ := Aside0.mk ((by rw [hg];exact (q0g (by repeat (first | (with_reducible first | exact HB.out | apply q0b | apply q0a | apply q0c | refine q0i ?_ GE105.out) | exact HB.out))) : w.heap.size ≤ gb106));have n4_ := Aside0.mk ((by rw [hg];exact (q0g (by repeat (first | (with_reducible first | exact HB.out | apply q0b | apply q0a | apply q0c | refine q0i ?_ GE105.out) | exact HB.out))) : w.heap.size ≤ gb106));have n5_ := Aside0.mk ((by rw [hg];exact Nat.ne_of_lt (blk_lt (g := gb105) (o := .cells #[.int .i64 a0_0,.bool a0_1,.int .i64 a0_2,.string a0_3] 66 (0,0)) (by (with_reducible repeat (first | refine q0j ?_ _ | refine q0k ?_ | refine q0h ?_ _));exact BK105.out)) : gb105 ≠ gb106));have n6_ := Aside0.mk ((by rw [hg];exact Nat.ne_of_gt (blk_lt (g := gb105) (o := .cells #[.int .i64 a0_0,.bool a0_1,.int .i64 a0_2,.string a0_3] 66 (0,0)) (by (with_reducible repeat (first | refine q0j ?_ _ | refine q0k ?_ | refine q0h ?_ _));exact BK105.out)) : gb106 ≠ gb105));clear BK105;clear HB;have BK105 := n0_;have HB := n1_;have BK106 := n2_;have GW106 := n3_;have GE106 := n4_;have NB105_106 := n5_;have NB106_105 := n6_;clear n0_ n1_ n2_ n3_ n4_ n5_ n6_;clear hb hbox hg;have hnb30 := NB105_106.out;have hnc30 := NB106_105.out;have hcz31_0 : w29.cell? ⟨gb105,0,none⟩ = some (.int .i64 a0_0) := (q0d BK105.out 0).trans rfl;have hcz31_1 : w29.cell? ⟨gb105,1,none⟩ = some (.bool a0_1) := (q0d BK105.out 1).trans rfl;have hcz31_2 : w29.cell? ⟨gb105,2,none⟩ = some (.int .i64 a0_2) := (q0d BK105.out 2).trans rfl;have hcz31_3 : w29.cell? ⟨gb105,3,none⟩ = some (.string a0_3) := (q0d BK105.out 3).trans rfl;have hfz31_0 := q0e BK105.out 0;have hfz31_1 := q0e BK105.out 1;have hfz31_2 := q0e BK105.out 2;have hfz31_3 := q0e BK105.out 3;have hcz32_0 : w29.cell? ⟨gb106,0,none⟩ = some (.int .i64 a1_0) := (q0d BK106.out 0).trans rfl;have hcz32_1 : w29.cell? ⟨gb106,1,none⟩ = some (.bool a1_1) := (q0d BK106.out 1).trans rfl;have hcz32_2 : w29.cell? ⟨gb106,2,none⟩ = some (.int .i64 a1_2) := (q0d BK106.out 2).trans rfl;have hcz32_3 : w29.cell? ⟨gb106,3,none⟩ = some (.string a1_3) := (q0d BK106.out 3).trans rfl;have hfz32_0 := q0e BK106.out 0;have hfz32_1 := q0e BK106.out 1;have hfz32_2 := q0e BK106.out 2;have hfz32_3 := q0e BK106.out 3))
     repeat (go_quiet (first | ((with_reducible refine q0p (N := 2) rfl ?_);refine q0o ?hg (N := 2) ?hd (cs := #[.int .i64 a0_0,.bool a0_1,.int .i64 a0_2,.string a0_3]) (t := 66) ?hr ?_;(case hd => rfl);(case hg => rfl);(case hr => first | (go_simp;done) | (go_simp;rfl));intro gb105 hg w28 hbox hb;have n0_ := Aside0.mk (q0n (by repeat (first | (with_reducible first | exact HB.out | apply q0b | apply q0a | apply q0c) | exact HB.out)) hb);have n1_ := Aside0.mk (hbox);have n2_ := Aside0.mk ((by rw [hg];exact (q0g (by repeat (first | (with_reducible first | exact HB.out | apply q0b | apply q0a | apply q0c) | exact HB.out))) : w.heap.size ≤ gb105));have n3_ := Aside0.mk ((by rw [hg];exact (q0g (by repeat (first | (with_reducible first | exact HB.out | apply q0b | apply q0a | apply q0c) | exact HB.out))) : w.heap.size ≤ gb105));clear HB;have HB := n0_;have BK105 := n1_;have GW105 := n2_;have GE105 := n3_;clear n0_ n1_ n2_ n3_;clear hb hbox hg) | ((with_reducible refine q0p (N := 3) rfl ?_);refine q0o ?hg (N := 3) ?hd (cs := #[.int .i64 a1_0,.bool a1_1,.int .i64 a1_2,.string a1_3]) (t := 66) ?hr ?_;(case hd => rfl);(case hg => rfl);(case hr => first | (go_simp;done) | (go_simp;rfl));intro gb106 hg w29 hbox hb;have n0_ := Aside0.mk (q0s (g := gb105) (o := .cells #[.int .i64 a0_0,.bool a0_1,.int .i64 a0_2,.string a0_3] 66 (0,0)) (by (with_reducible repeat (first | refine q0j ?_ _ | refine q0k ?_ | refine q0h ?_ _));exact BK105.out) hb);have n1_ := Aside0.mk (q0n (by repeat (first | (with_reducible first | exact HB.out | apply q0b | apply q0a | apply q0c | refine q0i ?_ GE105.out) | exact HB.out)) hb);have n2_ := Aside0.mk (hbox);have n3_ := Aside0.mk ((by rw [hg];exact (q0g (by repeat (first | (with_reducible first | exact HB.out | apply q0b | apply q0a | apply q0c | refine q0i ?_ GE105.out) | exact HB.out))) : w.heap.size ≤ gb106));have n4_ := Aside0.mk ((by rw [hg];exact (q0g (by repeat (first | (with_reducible first | exact HB.out | apply q0b | apply q0a | apply q0c | refine q0i ?_ GE105.out) | exact HB.out))) : w.heap.size ≤ gb106));have n5_ := Aside0.mk ((by rw [hg];exact Nat.ne_of_lt (blk_lt (g := gb105) (o := .cells #[.int .i64 a0_0,.bool a0_1,.int .i64 a0_2,.string a0_3] 66 (0,0)) (by (with_reducible repeat (first | refine q0j ?_ _ | refine q0k ?_ | refine q0h ?_ _));exact BK105.out)) : gb105 ≠ gb106));have n6_ := Aside0.mk ((by rw [hg];exact Nat.ne_of_gt (blk_lt (g := gb105) (o := .cells #[.int .i64 a0_0,.bool a0_1,.int .i64 a0_2,.string a0_3] 66 (0,0)) (by (with_reducible repeat (first | refine q0j ?_ _ | refine q0k ?_ | refine q0h ?_ _));exact BK105.out)) : gb106 ≠ gb105));clear BK105;clear HB;have BK105 := n0_;have HB := n1_;have BK106 := n2_;have GW106 := n3_;have GE106 := n4_;have NB105_106 := n5_;have NB106_105 := n6_;clear n0_ n1_ n2_ n3_ n4_ n5_ n6_;clear hb hbox hg;have hnb30 := NB105_106.out;have hnc30 := NB106_105.out;have hcz31_0 : w29.cell? ⟨gb105,0,none⟩ = some (.int .i64 a0_0) := (q0d BK105.out 0).trans rfl;have hcz31_1 : w29.cell? ⟨gb105,1,none⟩ = some (.bool a0_1) := (q0d BK105.out 1).trans rfl;have hcz31_2 : w29.cell? ⟨gb105,2,none⟩ = some (.int .i64 a0_2) := (q0d BK105.out 2).trans rfl;have hcz31_3 : w29.cell? ⟨gb105,3,none⟩ = some (.string a0_3) := (q0d BK105.out 3).trans rfl;have hfz31_0 := q0e BK105.out 0;have hfz31_1 := q0e BK105.out 1;have hfz31_2 := q0e BK105.out 2;have hfz31_3 := q0e BK105.out 3;have hcz32_0 : w29.cell? ⟨gb106,0,none⟩ = some (.int .i64 a1_0) := (q0d BK106.out 0).trans rfl;have hcz32_1 : w29.cell? ⟨gb106,1,none⟩ = some (.bool a1_1) := (q0d BK106.out 1).trans rfl;have hcz32_2 : w29.cell? ⟨gb106,2,none⟩ = some (.int .i64 a1_2) := (q0d BK106.out 2).trans rfl;have hcz32_3 : w29.cell? ⟨gb106,3,none⟩ = some (.string a1_3) := (q0d BK106.out 3).trans rfl;have hfz32_0 := q0e BK106.out 0;have hfz32_1 := q0e BK106.out 1;have hfz32_2 := q0e BK106.out 2;have hfz32_3 := q0e BK106.out 3));try go_wp2_with (first | ((with_reducible refine q0p (N := 2) rfl ?_);refine q0o ?hg (N := 2) ?hd (cs := #[.int .i64 a0_0,.bool a0_1,.int .i64 a0_2,.string a0_3]) (t := 66) ?hr ?_;(case hd => rfl);(case hg => rfl);(case hr => first | (go_simp;done) | (go_simp;rfl));intro gb105 hg w28 hbox hb;have n0_ := Aside0.mk (q0n (by repeat (first | (with_reducible first | exact HB.out | apply q0b | apply q0a | apply q0c) | exact HB.out)) hb);have n1_ := Aside0.mk (hbox);have n2_ := Aside0.mk ((by rw [hg];exact (q0g (by repeat (first | (with_reducible first | exact HB.out | apply q0b | apply q0a | apply q0c) | exact HB.out))) : w.heap.size ≤ gb105));have n3_ := Aside0.mk ((by rw [hg];exact (q0g (by repeat (first | (with_reducible first | exact HB.out | apply q0b | apply q0a | apply q0c) | exact HB.out))) : w.heap.size ≤ gb105));clear HB;have HB := n0_;have BK105 := n1_;have GW105 := n2_;have GE105 := n3_;clear n0_ n1_ n2_ n3_;clear hb hbox hg) | ((with_reducible refine q0p (N := 3) rfl ?_);refine q0o ?hg (N := 3) ?hd (cs := #[.int .i64 a1_0,.bool a1_1,.int .i64 a1_2,.string a1_3]) (t := 66) ?hr ?_;(case hd => rfl);(case hg => rfl);(case hr => first | (go_simp;done) | (go_simp;rfl));intro gb106 hg w29 hbox hb;have n0_ := Aside0.mk (q0s (g := gb105) (o := .cells #[.int .i64 a0_0,.bool a0_1,.int .i64 a0_2,.string a0_3] 66 (0,0)) (by (with_reducible repeat (first | refine q0j ?_ _ | refine q0k ?_ | refine q0h ?_ _));exact BK105.out) hb);have n1_ := Aside0.mk (q0n (by repeat (first | (with_reducible first | exact HB.out | apply q0b | apply q0a | apply q0c | refine q0i ?_ GE105.out) | exact HB.out)) hb);have n2_ := Aside0.mk (hbox);have n3_ := Aside0.mk ((by rw [hg];exact (q0g (by repeat (first | (with_reducible first | exact HB.out | apply q0b | apply q0a | apply q0c | refine q0i ?_ GE105.out) | exact HB.out))) : w.heap.size ≤ gb106));have n4_ := Aside0.mk ((by rw [hg];exact (q0g (by repeat (first | (with_reducible first | exact HB.out | apply q0b | apply q0a | apply q0c | refine q0i ?_ GE105.out) | exact HB.out))) : w.heap.size ≤ gb106));have n5_ := Aside0.mk ((by rw [hg];exact Nat.ne_of_lt (blk_lt (g := gb105) (o := .cells #[.int .i64 a0_0,.bool a0_1,.int .i64 a0_2,.string a0_3] 66 (0,0)) (by (with_reducible repeat (first | refine q0j ?_ _ | refine q0k ?_ | refine q0h ?_ _));exact BK105.out)) : gb105 ≠ gb106));have n6_ := Aside0.mk ((by rw [hg];exact Nat.ne_of_gt (blk_lt (g := gb105) (o := .cells #[.int .i64 a0_0,.bool a0_1,.int .i64 a0_2,.string a0_3] 66 (0,0)) (by (with_reducible repeat (first | refine q0j ?_ _ | refine q0k ?_ | refine q0h ?_ _));exact BK105.out)) : gb106 ≠ gb105));clear BK105;clear HB;have BK105 := n0_;have HB := n1_;have BK106 := n2_;have GW106 := n3_;have GE106 := n4_;have NB105_106 := n5_;have NB106_105 := n6_;clear n0_ n1_ n2_ n3_ n4_ n5_ n6_;clear hb hbox hg;have hnb30 := NB105_106.out;have hnc30 := NB106_105.out;have hcz31_0 : w29.cell? ⟨gb105,0,none⟩ = some (.int .i64 a0_0) := (q0d BK105.out 0).trans rfl;have hcz31_1 : w29.cell? ⟨gb105,1,none⟩ = some (.bool a0_1) := (q0d BK105.out 1).trans rfl;have hcz31_2 : w29.cell? ⟨gb105,2,none⟩ = some (.int .i64 a0_2) := (q0d BK105.out 2).trans rfl;have hcz31_3 : w29.cell? ⟨gb105,3,none⟩ = some (.string a0_3) := (q0d BK105.out 3).trans rfl;have hfz31_0 := q0e BK105.out 0;have hfz31_1 := q0e BK105.out 1;have hfz31_2 := q0e BK105.out 2;have hfz31_3 := q0e BK105.out 3;have hcz32_0 : w29.cell? ⟨gb106,0,none⟩ = some (.int .i64 a1_0) := (q0d BK106.out 0).trans rfl;have hcz32_1 : w29.cell? ⟨gb106,1,none⟩ = some (.bool a1_1) := (q0d BK106.out 1).trans rfl;have hcz32_2 : w29.cell? ⟨gb106,2,none⟩ = some (.int .i64 a1_2) := (q0d BK106.out 2).trans rfl;have hcz32_3 : w29.cell? ⟨gb106,3,none⟩ = some (.string a1_3) := (q0d BK106.out 3).trans rfl;have hfz32_0 := q0e BK106.out 0;have hfz32_1 := q0e BK106.out 1;have hfz32_2 := q0e BK106.out 2;have hfz32_3 := q0e BK106.out 3)))
     go_ret
     exact ⟨by first | rfl | (simp [q0m,q0l] <;> rfl) | (simp [*,q0m,q0l] <;> rfl),by repeat (first | (with_reducible first | exact HB.out | apply q0b | apply q0a | apply q0c | refine q0i ?_ GE105.out | refine q0i ?_ GE106.out) | exact HB.out)⟩
 ·rw [if_neg c3] at H
  have c3b0 : (a0_0 == a1_0) = false := beq_eq_false_iff_ne.mpr c3
  have c3b1 : (a0_0 != a1_0) = true := bne_iff_ne.mpr c3
  replace H := Option.bind_eq_some_iff.mp H
  obtain ⟨t107,A330,H⟩ := H
  replace H : (some t107) = some r := H
  have A33 := Aside0.mk A330
  clear A330
  obtain rfl := Option.some.inj H
  go_enter Try.func111,Try.ntmps111
  go_wp2_with (first | ((with_reducible refine q0p (N := 2) rfl ?_);refine q0o ?hg (N := 2) ?hd (cs := #[.int .i64 a0_0,.bool a0_1,.int .i64 a0_2,.string a0_3]) (t := 66) ?hr ?_;(case hd => rfl);(case hg => rfl);(case hr => first | (go_simp;done) | (go_simp;rfl));intro gb105 hg w34 hbox hb;have n0_ := Aside0.mk (q0n (by repeat (first | (with_reducible first | exact HB.out | apply q0b | apply q0a | apply q0c) | exact HB.out)) hb);have n1_ := Aside0.mk (hbox);have n2_ := Aside0.mk ((by rw [hg];exact (q0g (by repeat (first | (with_reducible first | exact HB.out | apply q0b | apply q0a | apply q0c) | exact HB.out))) : w.heap.size ≤ gb105));have n3_ := Aside0.mk ((by rw [hg];exact (q0g (by repeat (first | (with_reducible first | exact HB.out | apply q0b | apply q0a | apply q0c) | exact HB.out))) : w.heap.size ≤ gb105));clear HB;have HB := n0_;have BK105 := n1_;have GW105 := n2_;have GE105 := n3_;clear n0_ n1_ n2_ n3_;clear hb hbox hg) | ((with_reducible refine q0p (N := 3) rfl ?_);refine q0o ?hg (N := 3) ?hd (cs := #[.int .i64 a1_0,.bool a1_1,.int .i64 a1_2,.string a1_3]) (t := 66) ?hr ?_;(case hd => rfl);(case hg => rfl);(case hr => first | (go_simp;done) | (go_simp;rfl));intro gb106 hg w35 hbox hb;have n0_ := Aside0.mk (q0s (g := gb105) (o := .cells #[.int .i64 a0_0,.bool a0_1,.int .i64 a0_2,.string a0_3] 66 (0,0)) (by (with_reducible repeat (first | refine q0j ?_ _ | refine q0k ?_ | refine q0h ?_ _));exact BK105.out) hb);have n1_ := Aside0.mk (q0n (by repeat (first | (with_reducible first | exact HB.out | apply q0b | apply q0a | apply q0c | refine q0i ?_ GE105.out) | exact HB.out)) hb);have n2_ := Aside0.mk (hbox);have n3_ := Aside0.mk ((by rw [hg];exact (q0g (by repeat (first | (with_reducible first | exact HB.out | apply q0b | apply q0a | apply q0c | refine q0i ?_ GE105.out) | exact HB.out))) : w.heap.size ≤ gb106));have n4_ := Aside0.mk ((by rw [hg];exact (q0g (by repeat (first | (with_reducible first | exact HB.out | apply q0b | apply q0a | apply q0c | refine q0i ?_ GE105.out) | exact HB.out))) : w.heap.size ≤ gb106));have n5_ := Aside0.mk ((by rw [hg];exact Nat.ne_of_lt (blk_lt (g := gb105) (o := .cells #[.int .i64 a0_0,.bool a0_1,.int .i64 a0_2,.string a0_3] 66 (0,0)) (by (with_reducible repeat (first | refine q0j ?_ _ | refine q0k ?_ | refine q0h ?_ _));exact BK105.out)) : gb105 ≠ gb106));have n6_ := Aside0.mk ((by rw [hg];exact Nat.ne_of_gt (blk_lt (g := gb105) (o := .cells #[.int .i64 a0_0,.bool a0_1,.int .i64 a0_2,.string a0_3] 66 (0,0)) (by (with_reducible repeat (first | refine q0j ?_ _ | refine q0k ?_ | refine q0h ?_ _));exact BK105.out)) : gb106 ≠ gb105));clear BK105;clear HB;have BK105 := n0_;have HB := n1_;have BK106 := n2_;have GW106 := n3_;have GE106 := n4_;have NB105_106 := n5_;have NB106_105 := n6_;clear n0_ n1_ n2_ n3_ n4_ n5_ n6_;clear hb hbox hg;have hnb36 := NB105_106.out;have hnc36 := NB106_105.out;have hcz37_0 : w35.cell? ⟨gb105,0,none⟩ = some (.int .i64 a0_0) := (q0d BK105.out 0).trans rfl;have hcz37_1 : w35.cell? ⟨gb105,1,none⟩ = some (.bool a0_1) := (q0d BK105.out 1).trans rfl;have hcz37_2 : w35.cell? ⟨gb105,2,none⟩ = some (.int .i64 a0_2) := (q0d BK105.out 2).trans rfl;have hcz37_3 : w35.cell? ⟨gb105,3,none⟩ = some (.string a0_3) := (q0d BK105.out 3).trans rfl;have hfz37_0 := q0e BK105.out 0;have hfz37_1 := q0e BK105.out 1;have hfz37_2 := q0e BK105.out 2;have hfz37_3 := q0e BK105.out 3;have hcz38_0 : w35.cell? ⟨gb106,0,none⟩ = some (.int .i64 a1_0) := (q0d BK106.out 0).trans rfl;have hcz38_1 : w35.cell? ⟨gb106,1,none⟩ = some (.bool a1_1) := (q0d BK106.out 1).trans rfl;have hcz38_2 : w35.cell? ⟨gb106,2,none⟩ = some (.int .i64 a1_2) := (q0d BK106.out 2).trans rfl;have hcz38_3 : w35.cell? ⟨gb106,3,none⟩ = some (.string a1_3) := (q0d BK106.out 3).trans rfl;have hfz38_0 := q0e BK106.out 0;have hfz38_1 := q0e BK106.out 1;have hfz38_2 := q0e BK106.out 2;have hfz38_3 := q0e BK106.out 3) | (go_at_call 119;(with_reducible refine (cmp_Compare_119.calls a0_0 a1_0 t107 _ A33.out).mono ?_);rintro e w' ⟨rfl,⟨nd,rfl⟩⟩;(try first | exact ⟨rfl,_,World.drewN_drewN _ _ _⟩ | exact ⟨rfl,_,Eq.trans (World.drewN_drewN _ _ _) (congrArg (World.drewN _) (Nat.add_assoc _ _ _))⟩)))
  repeat (go_quiet (first | ((with_reducible refine q0p (N := 2) rfl ?_);refine q0o ?hg (N := 2) ?hd (cs := #[.int .i64 a0_0,.bool a0_1,.int .i64 a0_2,.string a0_3]) (t := 66) ?hr ?_;(case hd => rfl);(case hg => rfl);(case hr => first | (go_simp;done) | (go_simp;rfl));intro gb105 hg w34 hbox hb;have n0_ := Aside0.mk (q0n (by repeat (first | (with_reducible first | exact HB.out | apply q0b | apply q0a | apply q0c) | exact HB.out)) hb);have n1_ := Aside0.mk (hbox);have n2_ := Aside0.mk ((by rw [hg];exact (q0g (by repeat (first | (with_reducible first | exact HB.out | apply q0b | apply q0a | apply q0c) | exact HB.out))) : w.heap.size ≤ gb105));have n3_ := Aside0.mk ((by rw [hg];exact (q0g (by repeat (first | (with_reducible first | exact HB.out | apply q0b | apply q0a | apply q0c) | exact HB.out))) : w.heap.size ≤ gb105));clear HB;have HB := n0_;have BK105 := n1_;have GW105 := n2_;have GE105 := n3_;clear n0_ n1_ n2_ n3_;clear hb hbox hg) | ((with_reducible refine q0p (N := 3) rfl ?_);refine q0o ?hg (N := 3) ?hd (cs := #[.int .i64 a1_0,.bool a1_1,.int .i64 a1_2,.string a1_3]) (t := 66) ?hr ?_;(case hd => rfl);(case hg => rfl);(case hr => first | (go_simp;done) | (go_simp;rfl));intro gb106 hg w35 hbox hb;have n0_ := Aside0.mk (q0s (g := gb105) (o := .cells #[.int .i64 a0_0,.bool a0_1,.int .i64 a0_2,.string a0_3] 66 (0,0)) (by (with_reducible repeat (first | refine q0j ?_ _ | refine q0k ?_ | refine q0h ?_ _));exact BK105.out) hb);have n1_ := Aside0.mk (q0n (by repeat (first | (with_reducible first | exact HB.out | apply q0b | apply q0a | apply q0c | refine q0i ?_ GE105.out) | exact HB.out)) hb);have n2_ := Aside0.mk (hbox);have n3_ := Aside0.mk ((by rw [hg];exact (q0g (by repeat (first | (with_reducible first | exact HB.out | apply q0b | apply q0a | apply q0c | refine q0i ?_ GE105.out) | exact HB.out))) : w.heap.size ≤ gb106));have n4_ := Aside0.mk ((by rw [hg];exact (q0g (by repeat (first | (with_reducible first | exact HB.out | apply q0b | apply q0a | apply q0c | refine q0i ?_ GE105.out) | exact HB.out))) : w.heap.size ≤ gb106));have n5_ := Aside0.mk ((by rw [hg];exact Nat.ne_of_lt (blk_lt (g := gb105) (o := .cells #[.int .i64 a0_0,.bool a0_1,.int .i64 a0_2,.string a0_3] 66 (0,0)) (by (with_reducible repeat (first | refine q0j ?_ _ | refine q0k ?_ | refine q0h ?_ _));exact BK105.out)) : gb105 ≠ gb106));have n6_ := Aside0.mk ((by rw [hg];exact Nat.ne_of_gt (blk_lt (g := gb105) (o := .cells #[.int .i64 a0_0,.bool a0_1,.int .i64 a0_2,.string a0_3] 66 (0,0)) (by (with_reducible repeat (first | refine q0j ?_ _ | refine q0k ?_ | refine q0h ?_ _));exact BK105.out)) : gb106 ≠ gb105));clear BK105;clear HB;have BK105 := n0_;have HB := n1_;have BK106 := n2_;have GW106 := n3_;have GE106 := n4_;have NB105_106 := n5_;have NB106_105 := n6_;clear n0_ n1_ n2_ n3_ n4_ n5_ n6_;clear hb hbox hg;have hnb36 := NB105_106.out;have hnc36 := NB106_105.out;have hcz37_0 : w35.cell? ⟨gb105,0,none⟩ = some (.int .i64 a0_0) := (q0d BK105.out 0).trans rfl;have hcz37_1 : w35.cell? ⟨gb105,1,none⟩ = some (.bool a0_1) := (q0d BK105.out 1).trans rfl;have hcz37_2 : w35.cell? ⟨gb105,2,none⟩ = some (.int .i64 a0_2) := (q0d BK105.out 2).trans rfl;have hcz37_3 : w35.cell? ⟨gb105,3,none⟩ = some (.string a0_3) := (q0d BK105.out 3).trans rfl;have hfz37_0 := q0e BK105.out 0;have hfz37_1 := q0e BK105.out 1;have hfz37_2 := q0e BK105.out 2;have hfz37_3 := q0e BK105.out 3;have hcz38_0 : w35.cell? ⟨gb106,0,none⟩ = some (.int .i64 a1_0) := (q0d BK106.out 0).trans rfl;have hcz38_1 : w35.cell? ⟨gb106,1,none⟩ = some (.bool a1_1) := (q0d BK106.out 1).trans rfl;have hcz38_2 : w35.cell? ⟨gb106,2,none⟩ = some (.int .i64 a1_2) := (q0d BK106.out 2).trans rfl;have hcz38_3 : w35.cell? ⟨gb106,3,none⟩ = some (.string a1_3) := (q0d BK106.out 3).trans rfl;have hfz38_0 := q0e BK106.out 0;have hfz38_1 := q0e BK106.out 1;have hfz38_2 := q0e BK106.out 2;have hfz38_3 := q0e BK106.out 3) | (go_at_call 119;(with_reducible refine (cmp_Compare_119.calls a0_0 a1_0 t107 _ A33.out).mono ?_);rintro e w' ⟨rfl,⟨nd,rfl⟩⟩;(try first | exact ⟨rfl,_,World.drewN_drewN _ _ _⟩ | exact ⟨rfl,_,Eq.trans (World.drewN_drewN _ _ _) (congrArg (World.drewN _) (Nat.add_assoc _ _ _))⟩)));try go_wp2_with (first | ((with_reducible refine q0p (N := 2) rfl ?_);refine q0o ?hg (N := 2) ?hd (cs := #[.int .i64 a0_0,.bool a0_1,.int .i64 a0_2,.string a0_3]) (t := 66) ?hr ?_;(case hd => rfl);(case hg => rfl);(case hr => first | (go_simp;done) | (go_simp;rfl));intro gb105 hg w34 hbox hb;have n0_ := Aside0.mk (q0n (by repeat (first | (with_reducible first | exact HB.out | apply q0b | apply q0a | apply q0c) | exact HB.out)) hb);have n1_ := Aside0.mk (hbox);have n2_ := Aside0.mk ((by rw [hg];exact (q0g (by repeat (first | (with_reducible first | exact HB.out | apply q0b | apply q0a | apply q0c) | exact HB.out))) : w.heap.size ≤ gb105));have n3_ := Aside0.mk ((by rw [hg];exact (q0g (by repeat (first | (with_reducible first | exact HB.out | apply q0b | apply q0a | apply q0c) | exact HB.out))) : w.heap.size ≤ gb105));clear HB;have HB := n0_;have BK105 := n1_;have GW105 := n2_;have GE105 := n3_;clear n0_ n1_ n2_ n3_;clear hb hbox hg) | ((with_reducible refine q0p (N := 3) rfl ?_);refine q0o ?hg (N := 3) ?hd (cs := #[.int .i64 a1_0,.bool a1_1,.int .i64 a1_2,.string a1_3]) (t := 66) ?hr ?_;(case hd => rfl);(case hg => rfl);(case hr => first | (go_simp;done) | (go_simp;rfl));intro gb106 hg w35 hbox hb;have n0_ := Aside0.mk (q0s (g := gb105) (o := .cells #[.int .i64 a0_0,.bool a0_1,.int .i64 a0_2,.string a0_3] 66 (0,0)) (by (with_reducible repeat (first | refine q0j ?_ _ | refine q0k ?_ | refine q0h ?_ _));exact BK105.out) hb);have n1_ := Aside0.mk (q0n (by repeat (first | (with_reducible first | exact HB.out | apply q0b | apply q0a | apply q0c | refine q0i ?_ GE105.out) | exact HB.out)) hb);have n2_ := Aside0.mk (hbox);have n3_ := Aside0.mk ((by rw [hg];exact (q0g (by repeat (first | (with_reducible first | exact HB.out | apply q0b | apply q0a | apply q0c | refine q0i ?_ GE105.out) | exact HB.out))) : w.heap.size ≤ gb106));have n4_ := Aside0.mk ((by rw [hg];exact (q0g (by repeat (first | (with_reducible first | exact HB.out | apply q0b | apply q0a | apply q0c | refine q0i ?_ GE105.out) | exact HB.out))) : w.heap.size ≤ gb106));have n5_ := Aside0.mk ((by rw [hg];exact Nat.ne_of_lt (blk_lt (g := gb105) (o := .cells #[.int .i64 a0_0,.bool a0_1,.int .i64 a0_2,.string a0_3] 66 (0,0)) (by (with_reducible repeat (first | refine q0j ?_ _ | refine q0k ?_ | refine q0h ?_ _));exact BK105.out)) : gb105 ≠ gb106));have n6_ := Aside0.mk ((by rw [hg];exact Nat.ne_of_gt (blk_lt (g := gb105) (o := .cells #[.int .i64 a0_0,.bool a0_1,.int .i64 a0_2,.string a0_3] 66 (0,0)) (by (with_reducible repeat (first | refine q0j ?_ _ | refine q0k ?_ | refine q0h ?_ _));exact BK105.out)) : gb106 ≠ gb105));clear BK105;clear HB;have BK105 := n0_;have HB := n1_;have BK106 := n2_;have GW106 := n3_;have GE106 := n4_;have NB105_106 := n5_;have NB106_105 := n6_;clear n0_ n1_ n2_ n3_ n4_ n5_ n6_;clear hb hbox hg;have hnb36 := NB105_106.out;have hnc36 := NB106_105.out;have hcz37_0 : w35.cell? ⟨gb105,0,none⟩ = some (.int .i64 a0_0) := (q0d BK105.out 0).trans rfl;have hcz37_1 : w35.cell? ⟨gb105,1,none⟩ = some (.bool a0_1) := (q0d BK105.out 1).trans rfl;have hcz37_2 : w35.cell? ⟨gb105,2,none⟩ = some (.int .i64 a0_2) := (q0d BK105.out 2).trans rfl;have hcz37_3 : w35.cell? ⟨gb105,3,none⟩ = some (.string a0_3) := (q0d BK105.out 3).trans rfl;have hfz37_0 := q0e BK105.out 0;have hfz37_1 := q0e BK105.out 1;have hfz37_2 := q0e BK105.out 2;have hfz37_3 := q0e BK105.out 3;have hcz38_0 : w35.cell? ⟨gb106,0,none⟩ = some (.int .i64 a1_0) := (q0d BK106.out 0).trans rfl;have hcz38_1 : w35.cell? ⟨gb106,1,none⟩ = some (.bool a1_1) := (q0d BK106.out 1).trans rfl;have hcz38_2 : w35.cell? ⟨gb106,2,none⟩ = some (.int .i64 a1_2) := (q0d BK106.out 2).trans rfl;have hcz38_3 : w35.cell? ⟨gb106,3,none⟩ = some (.string a1_3) := (q0d BK106.out 3).trans rfl;have hfz38_0 := q0e BK106.out 0;have hfz38_1 := q0e BK106.out 1;have hfz38_2 := q0e BK106.out 2;have hfz38_3 := q0e BK106.out 3) | (go_at_call 119;(with_reducible refine (cmp_Compare_119.calls a0_0 a1_0 t107 _ A33.out).mono ?_);rintro e w' ⟨rfl,⟨nd,rfl⟩⟩;(try first | exact ⟨rfl,_,World.drewN_drewN _ _ _⟩ | exact ⟨rfl,_,Eq.trans (World.drewN_drewN _ _ _) (congrArg (World.drewN _) (Nat.add_assoc _ _ _))⟩))))
  go_ret
  exact ⟨by first | rfl | (simp [q0m,q0l] <;> rfl) | (simp [*,q0m,q0l] <;> rfl),by repeat (first | (with_reducible first | exact HB.out | apply q0b | apply q0a | apply q0c | refine q0i ?_ GE105.out | refine q0i ?_ GE106.out) | exact HB.out)⟩
end Go.Proofs.Ythmbfcfomcaaaaa.Z
end
section
namespace Go.Proofs.YthmbfcfomcaaaaaW.PrintMore
open Go.RowKit Go.Proofs.YthmbfcfomcaaaaaW.PrintWords Go.Proofs.YthmbfcfomcaaaaaW.PrintLast
section
variable {P : Program} {ops : Array Oper} {Q : Exit → Act → World → Prop}
theorem gate_tmp {rest : List Oper} {o : Oper} {a : Act} {W : World} {n : Nat} {as_ : Array Operand} {ts : Array TypeId} (_ho : o.op = .call { callee := .value (.tmp n),args := as_,argTypes := ts }) (h : wpList P ops Q (o :: rest) a W) : wpList P ops Q (o :: rest) a W := h
theorem goesT_ {rest : List Oper} {oi : Oper} {a : Act} {w : World} (N : Option Tmp) (hd : oi.dst = N) (hg : oi.guard = none) {x : Operand} {f : FuncId} {lb : Array Value} {fn : Func} {as_ : Array Operand} {ts : Array TypeId} (hf : P.funcs[f]? = some fn) (hname : (fn.name == "runtime.NumGoroutine") = false) (hb : fn.body.isSome = true) (args : Array Value)
  (hop : oi.op = .call { callee := .value x,args := as_,argTypes := ts }) (hx : a.eval x = .func (.func f) #[] lb) (hargs : as_.map a.eval ++ lb = args)
  (h : Calls P f args w fun e w' => ∃ v,e = .returned v ∧ wpList P ops Q rest (a.put N v) w') : wpList P ops Q (oi :: rest) a w := by
 refine wpList_plain hg fun K hK => ?_
 have he := enters_ hf hname hb args w
 have hrun : (execOp a.eval oi).run P w = .ok (.enter f args) w := by
  unfold execOp
  simp [hop,resolve,Deferred.ofValue,invoke,hx,hargs,he]
 unfold Oper.wp
 rw [hrun,Oper.upon_enter]
 refine h.mono fun e w'' hh => ?_
 obtain ⟨v,rfl,hk⟩ := hh
 subst hd
 exact hK _ _ hk
end
end Go.Proofs.YthmbfcfomcaaaaaW.PrintMore
namespace Go.Proofs.YthmbfcfomcaaaaaW.PrintWords
open Go.RowKit
section
variable {P : Program} {ops : Array Oper} {Q : Exit → Act → World → Prop} {o : Oper} {rest : List Oper} {a : Act}
theorem Kd.R_make0 {α : Type} (d : Kd α) {w0 W : World} (base e : Nat) (hgd : o.guard = none) {N : Tmp} (_hd : o.dst = some N) (t : TypeId) (x y : Operand) (ho : o.op = .makeSlice t x y) (n : Int) (hx : a.eval x = .int .i64 0) (hy : a.eval y = .int .i64 n)
  (ht : P.underlying t = some (.slice e)) (z : Value) (bytes : Nat) (hinfo : (P.info? e).map (fun i => (i.zero,i.size,i.bytes)) = some (some z,d.sz,bytes)) (_hz : z.cells.size = d.sz) (_hs0 : 0 < d.sz) (hb0 : 0 < bytes)
  (z0 : α) {ok okp : Nat → Prop} (_hzero : d.M W base okp z0 z.cells.toList) (_hok : ∀ k,okp k → ok k) (hfresh : ok W.heap.size) (h0 : 0 ≤ n) (hl : n.toNat * bytes ≤ 281474976710656) (HB : Below base w0 W) (hbase : base ≤ W.heap.size)
  (h : ∀ v1 w1,d.R e w1 base ok v1 [] → Below base w0 w1 → W.grownBy w1 none → (∃ b,v1.ownBlock = some b ∧ W.heap.size ≤ b) → wpList P ops Q rest (a.put o.dst v1) w1) : wpList P ops Q (o :: rest) a W := by
 obtain ⟨m,rfl⟩ := Int.eq_ofNat_of_zero_le h0
 simp only [Int.toNat_natCast] at hl
 obtain ⟨i0,hi,hzz⟩ := Option.map_eq_some_iff.1 hinfo
 simp only [Prod.mk.injEq] at hzz
 obtain ⟨hz0,hz1,hz2⟩ := hzz
 have hm : m ≤ 281474976710656 := Nat.le_trans (Nat.le_mul_of_pos_right _ hb0) hl
 obtain ⟨w',hr,hown,hg⟩ := run_make_own (P := P) (w := W) base t e i0 z d.sz ht hi hz0 hz1 .i64 .i64 m (by rw [hz2,Nat.mul_comm];exact hl) (by unfold maxLen;omega) hbase
 have hrun : (execOp a.eval o).run P W = .ok (.value (.slice (some ⟨W.heap.size,0,none⟩) 0 m)) w' := by
  simp [execOp,ho,hx,hy,hr]
 refine Kd.event_run hgd hrun (h _ _ ⟨fun k hk => ?_,[],hown,Reps.none _ _⟩ (HB.grown hg hbase (fun k hk => by simp at hk)) hg ⟨W.heap.size,by simp [Value.ownBlock],Nat.le_refl _⟩)
 have : W.heap.size = k := by simpa [Value.ownBlock] using hk
 subst this
 exact hfresh
end
end Go.Proofs.YthmbfcfomcaaaaaW.PrintWords
namespace Go.Proofs.YthmbfcfomcaaaaaW.PrintWords
open Go.RowKit
theorem nil_is {α : Type} {d : Kd α} {e base n : Nat} {ok : Nat → Prop} {w : World} {A : Option Addr} {c : Nat} {xs : List α} (h : d.R e w base ok (.slice A n c) xs) (hn : xs = [] → Value.slice A n c = .slice none 0 0) : A.isNone = ((xs.length : Int) == 0) := by
 cases xs with
 | nil =>
  have h1 := hn rfl
  injection h1 with h1
  subst h1
  rfl
 | cons x xs =>
  obtain ⟨A',c',he,_,hC⟩ := Kd.R_reads h
  injection he with h1 h2 h3
  subst h1 h2 h3
  obtain ⟨ad,_,rfl,_⟩ := Kd.C_get hC x 0 (by omega) (by simp)
  simp
  omega
theorem run_nil_is {α : Type} {P : Program} {t E : TypeId} (ht : P.underlying t = some (.slice E)) {d : Kd α} {e base : Nat} {ok : Nat → Prop} {w : World} {v : Value} {xs : List α} (h : d.R e w base ok v xs) (hn : xs = [] → v = .slice none 0 0) (W : World) :
  Sem.run P (binOp .eql t v (.slice none 0 0)) W = .ok (.bool ((xs.length : Int) == 0)) W := by
 obtain ⟨A,c,rfl⟩ := Kd.R_slice h
 rw [← nil_is h hn]
 exact Lib.run_eql_slice_nil W _ _ A _ _ 0 0 ht
theorem guard_nil_is {α : Type} {P : Program} (t : TypeId) {d : Kd α} {e base : Nat} {ok : Nat → Prop} {w : World} {v : Value} {xs : List α} (h : d.R e w base ok v xs) (x y : Operand) (W : World) :
  Sem.run P (eqGuard .eql t x y v (.slice none 0 0)) W = .ok () W := by
 obtain ⟨A,c,rfl⟩ := Kd.R_slice h
 rfl
theorem C_none {α : Type} {d : Kd α} {w : World} {xs : List α} (h : d.C w none xs.length xs) : xs = [] := by
 cases xs with
 | nil => rfl
 | cons x xs =>
  obtain ⟨ad,_,he,_⟩ := Kd.C_get h x 0 (by omega) (by simp)
  cases he
end Go.Proofs.YthmbfcfomcaaaaaW.PrintWords
end
section
namespace Go.Proofs.Ythmbfcfomcaaaaa.Z
open Go.RowKit Go.Proofs.YthmbfcfomcaaaaaW.PrintWords Go.Proofs.YthmbfcfomcaaaaaW.PrintLast Go.Proofs.YthmbfcfomcaaaaaW.PrintMore
attribute [local go_sem] max2_int min2_int max_two min_two max_three min_three max_four min_four
set_option linter.unusedVariables false
set_option linter.unusedSimpArgs false
def slices_CompareFunc.l0 : Nat → List (S66) → List (S66) → List (S66) → Int → Int → Option (Int)
 | 0,_,_,_,_,_ => none
 | k + 1,x0,x1,x11,x12,x13 => if x13 < x12 then (if 0 ≤ x13 then (if x13 < (x11.length : Int) then (if x13 ≥ (x1.length : Int) then (some 1) else (if x13 < (x1.length : Int) then ((value_Compare.f ((q0f x11 x13).f0) ((q0f x11 x13).f1) ((q0f x11 x13).f2) ((q0f x11 x13).f3) ((q0f x1 x13).f0) ((q0f x1 x13).f1) ((q0f x1 x13).f2) ((q0f x1 x13).f3)).bind fun t117 => (if t117 = 0 then (slices_CompareFunc.l0 k x0 x1 x11 x12 (wrap64 (x13 + 1))) else (some t117))) else (none))) else (none)) else (none)) else (if (x0.length : Int) < (x1.length : Int) then (some (-1)) else (some 0))
def slices_CompareFunc.f (k : Nat) (l0 : List (S66)) (l1 : List (S66)) (a2 : Int) : Option (Int) := slices_CompareFunc.l0 k l0 l1 l0 (l0.length : Int) 0
theorem slices_CompareFunc.mono_l : ∀ k,(∀ y0 y1 y2 y3 y4,LeO (slices_CompareFunc.l0 k y0 y1 y2 y3 y4) (slices_CompareFunc.l0 (k + 1) y0 y1 y2 y3 y4))
 | 0 => fun _ _ _ _ _ r h => by simp [slices_CompareFunc.l0] at h
 | k + 1 => by
  have ih0 := slices_CompareFunc.mono_l k
  ·intro y0 y1 y2 y3 y4
   unfold slices_CompareFunc.l0
   repeat' first
   | (with_reducible exact ih0 _ _ _ _ _)
   | (with_reducible exact LeO.refl _)
   | (with_reducible exact LeO.none _)
   | (with_reducible refine LeO.ite ?_ ?_)
   | (with_reducible refine LeO.bind ?_ (fun _ => ?_))
   | exact ih0 _ _ _ _ _
   | exact LeO.none _
   | refine LeO.ite ?_ ?_
   | refine LeO.bind ?_ (fun _ => ?_)
theorem slices_CompareFunc.mono : ∀ a0 a1 a2 k,LeO (slices_CompareFunc.f k a0 a1 a2) (slices_CompareFunc.f (k + 1) a0 a1 a2) := by
 intro a0 a1 a2 k
 have ih0 := slices_CompareFunc.mono_l k
 unfold slices_CompareFunc.f
 repeat' first
   | (with_reducible exact ih0 _ _ _ _ _)
   | (with_reducible exact LeO.refl _)
   | (with_reducible exact LeO.none _)
   | (with_reducible refine LeO.ite ?_ ?_)
   | (with_reducible refine LeO.bind ?_ (fun _ => ?_))
   | exact ih0 _ _ _ _ _
   | exact LeO.none _
   | refine LeO.ite ?_ ?_
   | refine LeO.bind ?_ (fun _ => ?_)
set_option maxHeartbeats 8000000 in
set_option maxRecDepth 100000 in
theorem slices_CompareFunc.calls (k : Nat) (A0 : Option Addr) (c0 : Nat) (l0 : List (S66)) (A1 : Option Addr) (c1 : Nat) (l1 : List (S66)) (a2 : Int) (r : Int) (w : World) (hr0 : Kd.C k66 w A0 l0.length l0) (hc0 : l0.length ≤ c0) (hr1 : Kd.C k66 w A1 l1.length l1) (hc1 : l1.length ≤ c1) (h : slices_CompareFunc.f k l0 l1 a2 = some r) :
  Calls Try.prog 110 #[.slice A0 l0.length c0,.slice A1 l1.length c1,.func (.func 111) #[] #[]] w fun e w' => e = .returned (.int .i64 r) ∧ Below w.heap.size w w' := by
 have hu66 := Try.underlying66
 have HR0 := Aside0.mk hr0
 have HC0 := Aside0.mk hc0
 clear hr0 hc0
 have HR1 := Aside0.mk hr1
 have HC1 := Aside0.mk hc1
 clear hr1 hc1
 have HB := Aside0.mk (Below.refl w.heap.size w)
 have H : (slices_CompareFunc.l0 k l0 l1 l0 (l0.length : Int) 0) = some r := h
 clear h
 have H' := Aside0.mk H
 clear H
 go_enter Try.func110,Try.ntmps110
 go_wp2
 go_loopg [13] k (fun kq v13 w' => ∃ (x13_1 : Int),v13 = .int .i64 x13_1 ∧ Aside0 (slices_CompareFunc.l0 kq l0 l1 l0 (l0.length : Int) x13_1 = some r) ∧ Aside0 (kq ≤ k) ∧ Aside0 (Below w.heap.size w w'))
 case atStart => exact ⟨(0),(by first | rfl | (simp;done) | (simp [*];done)),H',⟨Nat.le_refl _⟩,⟨by repeat (first | (with_reducible first | exact HB.out | apply q0b | apply q0a | apply q0c) | exact HB.out)⟩⟩
 case round =>
  clear H'
  try clear c1
  try clear p2
  obtain ⟨x13_1,rfl,HA,HK1,HB⟩ := hrel
  cases gk with
  | zero => exact absurd HA.out (by simp [slices_CompareFunc.l0])
  | succ k1 =>
   have H := HA.out
   clear HA
   simp only [slices_CompareFunc.l0] at H
   by_cases c4 : x13_1 < (l0.length : Int)
   ·rw [if_pos c4] at H
    have c4b0 : decide (x13_1 < (l0.length : Int)) = true := decide_eq_true c4
    clear c4
    by_cases c5 : 0 ≤ x13_1
    ·rw [if_pos c5] at H
     have c5b0 : decide (0 ≤ x13_1) = true := decide_eq_true c5
     clear c5
     by_cases c6 : x13_1 < (l0.length : Int)
     ·rw [if_pos c6] at H
      have c6b0 : decide (x13_1 < (l0.length : Int)) = true := decide_eq_true c6
      clear c6
      by_cases c7 : x13_1 ≥ (l1.length : Int)
      ·rw [if_pos c7] at H
       have c7b0 : decide ((l1.length : Int) ≤ x13_1) = true := decide_eq_true c7
       clear c7
       obtain rfl := Option.some.inj H
       have p113 : 0 ≤ (x13_1 : Int) := of_decide_eq_true (by first | (with_reducible assumption) | assumption)
       have q113 : x13_1 < (l0.length : Int) := of_decide_eq_true (by first | (with_reducible assumption) | assumption)
       obtain ⟨ad113,e113,hx113_0,hx113_1,hx113_2,hx113_3⟩ := at_T66 HR0.out x13_1 p113 q113
       cases e113
       replace hx113_0 := (HB.out.cell (World.block_lt_of_cell? w _ hx113_0)).trans hx113_0
       replace hx113_1 := (HB.out.cell (World.block_lt_of_cell? w _ hx113_1)).trans hx113_1
       replace hx113_2 := (HB.out.cell (World.block_lt_of_cell? w _ hx113_2)).trans hx113_2
       replace hx113_3 := (HB.out.cell (World.block_lt_of_cell? w _ hx113_3)).trans hx113_3
       replace p113 := eq_true p113
       replace q113 := eq_true q113
       go_wp2_with (first | ((with_reducible refine q0p (N := 8) rfl ?_);refine q0o ?hg (N := 8) ?hd (cs := #[.int .i64 0,.bool false,.int .i64 0,.string (⟨#[]⟩ : ByteArray)]) (t := 66) ?hr ?_;(case hd => rfl);(case hg => rfl);(case hr => first | (go_simp;done) | (go_simp;rfl));intro gb114 hg w8 hbox hb;have n0_ := Aside0.mk (q0n (by repeat (first | (with_reducible first | exact HB.out | apply q0b | apply q0a | apply q0c) | exact HB.out)) hb);have n1_ := Aside0.mk (hbox);have n2_ := Aside0.mk ((by rw [hg];exact (q0g (by repeat (first | (with_reducible first | exact HB.out | apply q0b | apply q0a | apply q0c) | exact HB.out))) : w.heap.size ≤ gb114));have n3_ := Aside0.mk ((by rw [hg];exact (q0g (by repeat (first | (with_reducible first | exact HB.out | apply q0b | apply q0a | apply q0c) | exact HB.out))) : w.heap.size ≤ gb114));clear HB;have HB := n0_;have BK114 := n1_;have GW114 := n2_;have GE114 := n3_;clear n0_ n1_ n2_ n3_;clear hb hbox hg;have hcz9_0 : w8.cell? ⟨gb114,0,none⟩ = some (.int .i64 0) := (q0d BK114.out 0).trans rfl;have hcz9_1 : w8.cell? ⟨gb114,1,none⟩ = some (.bool false) := (q0d BK114.out 1).trans rfl;have hcz9_2 : w8.cell? ⟨gb114,2,none⟩ = some (.int .i64 0) := (q0d BK114.out 2).trans rfl;have hcz9_3 : w8.cell? ⟨gb114,3,none⟩ = some (.string (⟨#[]⟩ : ByteArray)) := (q0d BK114.out 3).trans rfl;have hfz9_0 := q0e BK114.out 0;have hfz9_1 := q0e BK114.out 1;have hfz9_2 := q0e BK114.out 2;have hfz9_3 := q0e BK114.out 3))
       go_ret
       exact ⟨by first | rfl | (simp [q0m,q0l] <;> rfl) | (simp [*,q0m,q0l] <;> rfl),by repeat (first | (with_reducible first | exact HB.out | apply q0b | apply q0a | apply q0c | refine q0i ?_ GE114.out) | exact HB.out)⟩
      ·rw [if_neg c7] at H
       have c7b0 : decide ((l1.length : Int) ≤ x13_1) = false := decide_eq_false c7
       clear c7
       by_cases c10 : x13_1 < (l1.length : Int)
       ·rw [if_pos c10] at H
        have c10b0 : decide (x13_1 < (l1.length : Int)) = true := decide_eq_true c10
        clear c10
        replace H := Option.bind_eq_some_iff.mp H
        obtain ⟨t117,A110,H⟩ := H
        replace H : (if t117 = 0 then (slices_CompareFunc.l0 k1 l0 l1 l0 (l0.length : Int) (wrap64 (x13_1 + 1))) else (some t117)) = some r := H
        have A11 := Aside0.mk A110
        clear A110
        by_cases c12 : t117 = 0
        ·rw [if_pos c12] at H
         have c12b0 : (t117 == 0) = true := beq_iff_eq.mpr c12
         have c12b1 : (t117 != 0) = false := bne_eq_false_iff_eq.mpr c12
         clear c12
         have H' := Aside0.mk H
         clear H
         have p113 : 0 ≤ (x13_1 : Int) := of_decide_eq_true (by first | (with_reducible assumption) | assumption)
         have q113 : x13_1 < (l0.length : Int) := of_decide_eq_true (by first | (with_reducible assumption) | assumption)
         obtain ⟨ad113,e113,hx113_0,hx113_1,hx113_2,hx113_3⟩ := at_T66 HR0.out x13_1 p113 q113
         cases e113
         replace hx113_0 := (HB.out.cell (World.block_lt_of_cell? w _ hx113_0)).trans hx113_0
         replace hx113_1 := (HB.out.cell (World.block_lt_of_cell? w _ hx113_1)).trans hx113_1
         replace hx113_2 := (HB.out.cell (World.block_lt_of_cell? w _ hx113_2)).trans hx113_2
         replace hx113_3 := (HB.out.cell (World.block_lt_of_cell? w _ hx113_3)).trans hx113_3
         replace p113 := eq_true p113
         replace q113 := eq_true q113
         go_wp2_with (first | ((with_reducible refine q0p (N := 8) rfl ?_);refine q0o ?hg (N := 8) ?hd (cs := #[.int .i64 0,.bool false,.int .i64 0,.string (⟨#[]⟩ : ByteArray)]) (t := 66) ?hr ?_;(case hd => rfl);(case hg => rfl);(case hr => first | (go_simp;done) | (go_simp;rfl));intro gb114 hg w13 hbox hb;have n0_ := Aside0.mk (q0n (by repeat (first | (with_reducible first | exact HB.out | apply q0b | apply q0a | apply q0c) | exact HB.out)) hb);have n1_ := Aside0.mk (hbox);have n2_ := Aside0.mk ((by rw [hg];exact (q0g (by repeat (first | (with_reducible first | exact HB.out | apply q0b | apply q0a | apply q0c) | exact HB.out))) : w.heap.size ≤ gb114));have n3_ := Aside0.mk ((by rw [hg];exact (q0g (by repeat (first | (with_reducible first | exact HB.out | apply q0b | apply q0a | apply q0c) | exact HB.out))) : w.heap.size ≤ gb114));clear HB;have HB := n0_;have BK114 := n1_;have GW114 := n2_;have GE114 := n3_;clear n0_ n1_ n2_ n3_;clear hb hbox hg;have hcz14_0 : w13.cell? ⟨gb114,0,none⟩ = some (.int .i64 0) := (q0d BK114.out 0).trans rfl;have hcz14_1 : w13.cell? ⟨gb114,1,none⟩ = some (.bool false) := (q0d BK114.out 1).trans rfl;have hcz14_2 : w13.cell? ⟨gb114,2,none⟩ = some (.int .i64 0) := (q0d BK114.out 2).trans rfl;have hcz14_3 : w13.cell? ⟨gb114,3,none⟩ = some (.string (⟨#[]⟩ : ByteArray)) := (q0d BK114.out 3).trans rfl;have hfz14_0 := q0e BK114.out 0;have hfz14_1 := q0e BK114.out 1;have hfz14_2 := q0e BK114.out 2;have hfz14_3 := q0e BK114.out 3;have p115 : 0 ≤ (x13_1 : Int) := of_decide_eq_true (by first | (with_reducible assumption) | assumption);have q115 : x13_1 < (l1.length : Int) := of_decide_eq_true (by first | (with_reducible assumption) | assumption);obtain ⟨ad115,e115,hx115_0,hx115_1,hx115_2,hx115_3⟩ := at_T66 HR1.out x13_1 p115 q115;cases e115;have hn115_0 : ad115.block ≠ gb114 := Nat.ne_of_lt (Nat.lt_of_lt_of_le (by have := World.block_lt_of_cell? _ _ hx115_0;first | rwa [add_block] at this | exact this) GW114.out);have hn115_1 : ad115.block ≠ gb114 := Nat.ne_of_lt (Nat.lt_of_lt_of_le (by have := World.block_lt_of_cell? _ _ hx115_0;first | rwa [add_block] at this | exact this) GW114.out);have hn115_2 : ad115.block ≠ gb114 := Nat.ne_of_lt (Nat.lt_of_lt_of_le (by have := World.block_lt_of_cell? _ _ hx115_0;first | rwa [add_block] at this | exact this) GW114.out);have hn115_3 : ad115.block ≠ gb114 := Nat.ne_of_lt (Nat.lt_of_lt_of_le (by have := World.block_lt_of_cell? _ _ hx115_0;first | rwa [add_block] at this | exact this) GW114.out);replace hx115_0 := (HB.out.cell (World.block_lt_of_cell? w _ hx115_0)).trans hx115_0;replace hx115_1 := (HB.out.cell (World.block_lt_of_cell? w _ hx115_1)).trans hx115_1;replace hx115_2 := (HB.out.cell (World.block_lt_of_cell? w _ hx115_2)).trans hx115_2;replace hx115_3 := (HB.out.cell (World.block_lt_of_cell? w _ hx115_3)).trans hx115_3;replace hx115_0 := (cell_far (p := ⟨gb114,0,none⟩) (by first | (rw [add_block];exact hn115_0) | (show (Addr.add _ _).block ≠ _;rw [add_block];exact hn115_0) | exact hn115_0) (.int .i64 ((q0f l0 x13_1).f0))).trans hx115_0;replace hx115_1 := (cell_far (p := ⟨gb114,0,none⟩) (by first | (rw [add_block];exact hn115_0) | (show (Addr.add _ _).block ≠ _;rw [add_block];exact hn115_0) | exact hn115_0) (.int .i64 ((q0f l0 x13_1).f0))).trans hx115_1;replace hx115_2 := (cell_far (p := ⟨gb114,0,none⟩) (by first | (rw [add_block];exact hn115_0) | (show (Addr.add _ _).block ≠ _;rw [add_block];exact hn115_0) | exact hn115_0) (.int .i64 ((q0f l0 x13_1).f0))).trans hx115_2;replace hx115_3 := (cell_far (p := ⟨gb114,0,none⟩) (by first | (rw [add_block];exact hn115_0) | (show (Addr.add _ _).block ≠ _;rw [add_block];exact hn115_0) | exact hn115_0) (.int .i64 ((q0f l0 x13_1).f0))).trans hx115_3;replace hx115_0 := (cell_far (p := ⟨gb114,1,none⟩) (by first | (rw [add_block];exact hn115_1) | (show (Addr.add _ _).block ≠ _;rw [add_block];exact hn115_1) | exact hn115_1) (.bool ((q0f l0 x13_1).f1))).trans hx115_0;replace hx115_1 := (cell_far (p := ⟨gb114,1,none⟩) (by first | (rw [add_block];exact hn115_1) | (show (Addr.add _ _).block ≠ _;rw [add_block];exact hn115_1) | exact hn115_1) (.bool ((q0f l0 x13_1).f1))).trans hx115_1;replace hx115_2 := (cell_far (p := ⟨gb114,1,none⟩) (by first | (rw [add_block];exact hn115_1) | (show (Addr.add _ _).block ≠ _;rw [add_block];exact hn115_1) | exact hn115_1) (.bool ((q0f l0 x13_1).f1))).trans hx115_2;replace hx115_3 := (cell_far (p := ⟨gb114,1,none⟩) (by first | (rw [add_block];exact hn115_1) | (show (Addr.add _ _).block ≠ _;rw [add_block];exact hn115_1) | exact hn115_1) (.bool ((q0f l0 x13_1).f1))).trans hx115_3;replace hx115_0 := (cell_far (p := ⟨gb114,2,none⟩) (by first | (rw [add_block];exact hn115_2) | (show (Addr.add _ _).block ≠ _;rw [add_block];exact hn115_2) | exact hn115_2) (.int .i64 ((q0f l0 x13_1).f2))).trans hx115_0;replace hx115_1 := (cell_far (p := ⟨gb114,2,none⟩) (by first | (rw [add_block];exact hn115_2) | (show (Addr.add _ _).block ≠ _;rw [add_block];exact hn115_2) | exact hn115_2) (.int .i64 ((q0f l0 x13_1).f2))).trans hx115_1;replace hx115_2 := (cell_far (p := ⟨gb114,2,none⟩) (by first | (rw [add_block];exact hn115_2) | (show (Addr.add _ _).block ≠ _;rw [add_block];exact hn115_2) | exact hn115_2) (.int .i64 ((q0f l0 x13_1).f2))).trans hx115_2;replace hx115_3 := (cell_far (p := ⟨gb114,2,none⟩) (by first | (rw [add_block];exact hn115_2) | (show (Addr.add _ _).block ≠ _;rw [add_block];exact hn115_2) | exact hn115_2) (.int .i64 ((q0f l0 x13_1).f2))).trans hx115_3;replace hx115_0 := (cell_far (p := ⟨gb114,3,none⟩) (by first | (rw [add_block];exact hn115_3) | (show (Addr.add _ _).block ≠ _;rw [add_block];exact hn115_3) | exact hn115_3) (.string ((q0f l0 x13_1).f3))).trans hx115_0;replace hx115_1 := (cell_far (p := ⟨gb114,3,none⟩) (by first | (rw [add_block];exact hn115_3) | (show (Addr.add _ _).block ≠ _;rw [add_block];exact hn115_3) | exact hn115_3) (.string ((q0f l0 x13_1).f3))).trans hx115_1;replace hx115_2 := (cell_far (p := ⟨gb114,3,none⟩) (by first | (rw [add_block];exact hn115_3) | (show (Addr.add _ _).block ≠ _;rw [add_block];exact hn115_3) | exact hn115_3) (.string ((q0f l0 x13_1).f3))).trans hx115_2;replace hx115_3 := (cell_far (p := ⟨gb114,3,none⟩) (by first | (rw [add_block];exact hn115_3) | (show (Addr.add _ _).block ≠ _;rw [add_block];exact hn115_3) | exact hn115_3) (.string ((q0f l0 x13_1).f3))).trans hx115_3;clear hn115_0;clear hn115_1;clear hn115_2;clear hn115_3;replace p115 := eq_true p115;replace q115 := eq_true q115) | ((with_reducible refine q0p (N := 9) rfl ?_);refine q0o ?hg (N := 9) ?hd (cs := #[.int .i64 0,.bool false,.int .i64 0,.string (⟨#[]⟩ : ByteArray)]) (t := 66) ?hr ?_;(case hd => rfl);(case hg => rfl);(case hr => first | (go_simp;done) | (go_simp;rfl));intro gb116 hg w15 hbox hb;have n0_ := Aside0.mk (q0s (g := gb114) (o := .cells #[.int .i64 ((q0f l0 x13_1).f0),.bool ((q0f l0 x13_1).f1),.int .i64 ((q0f l0 x13_1).f2),.string ((q0f l0 x13_1).f3)] 66 (0,0)) (by (with_reducible repeat (first | refine q0j ?_ _ | refine q0k ?_ | refine q0h ?_ _));refine q0r (cs := #[.int .i64 ((q0f l0 x13_1).f0),.bool ((q0f l0 x13_1).f1),.int .i64 ((q0f l0 x13_1).f2),.string (⟨#[]⟩ : ByteArray)]) ?_ 3 _ rfl;(with_reducible repeat (first | refine q0j ?_ _ | refine q0k ?_ | refine q0h ?_ _));refine q0r (cs := #[.int .i64 ((q0f l0 x13_1).f0),.bool ((q0f l0 x13_1).f1),.int .i64 0,.string (⟨#[]⟩ : ByteArray)]) ?_ 2 _ rfl;(with_reducible repeat (first | refine q0j ?_ _ | refine q0k ?_ | refine q0h ?_ _));refine q0r (cs := #[.int .i64 ((q0f l0 x13_1).f0),.bool false,.int .i64 0,.string (⟨#[]⟩ : ByteArray)]) ?_ 1 _ rfl;(with_reducible repeat (first | refine q0j ?_ _ | refine q0k ?_ | refine q0h ?_ _));refine q0r (cs := #[.int .i64 0,.bool false,.int .i64 0,.string (⟨#[]⟩ : ByteArray)]) ?_ 0 _ rfl;(with_reducible repeat (first | refine q0j ?_ _ | refine q0k ?_ | refine q0h ?_ _));exact BK114.out) hb);have n1_ := Aside0.mk (q0n (by repeat (first | (with_reducible first | exact HB.out | apply q0b | apply q0a | apply q0c | refine q0i ?_ GE114.out) | exact HB.out)) hb);have n2_ := Aside0.mk (hbox);have n3_ := Aside0.mk ((by rw [hg];exact (q0g (by repeat (first | (with_reducible first | exact HB.out | apply q0b | apply q0a | apply q0c | refine q0i ?_ GE114.out) | exact HB.out))) : w.heap.size ≤ gb116));have n4_ := Aside0.mk ((by rw [hg];exact (q0g (by repeat (first | (with_reducible first | exact HB.out | apply q0b | apply q0a | apply q0c | refine q0i ?_ GE114.out) | exact HB.out))) : w.heap.size ≤ gb116));have n5_ := Aside0.mk ((by rw [hg];exact Nat.ne_of_lt (blk_lt (g := gb114) (o := .cells #[.int .i64 ((q0f l0 x13_1).f0),.bool ((q0f l0 x13_1).f1),.int .i64 ((q0f l0 x13_1).f2),.string ((q0f l0 x13_1).f3)] 66 (0,0)) (by (with_reducible repeat (first | refine q0j ?_ _ | refine q0k ?_ | refine q0h ?_ _));refine q0r (cs := #[.int .i64 ((q0f l0 x13_1).f0),.bool ((q0f l0 x13_1).f1),.int .i64 ((q0f l0 x13_1).f2),.string (⟨#[]⟩ : ByteArray)]) ?_ 3 _ rfl;(with_reducible repeat (first | refine q0j ?_ _ | refine q0k ?_ | refine q0h ?_ _));refine q0r (cs := #[.int .i64 ((q0f l0 x13_1).f0),.bool ((q0f l0 x13_1).f1),.int .i64 0,.string (⟨#[]⟩ : ByteArray)]) ?_ 2 _ rfl;(with_reducible repeat (first | refine q0j ?_ _ | refine q0k ?_ | refine q0h ?_ _));refine q0r (cs := #[.int .i64 ((q0f l0 x13_1).f0),.bool false,.int .i64 0,.string (⟨#[]⟩ : ByteArray)]) ?_ 1 _ rfl;(with_reducible repeat (first | refine q0j ?_ _ | refine q0k ?_ | refine q0h ?_ _));refine q0r (cs := #[.int .i64 0,.bool false,.int .i64 0,.string (⟨#[]⟩ : ByteArray)]) ?_ 0 _ rfl;(with_reducible repeat (first | refine q0j ?_ _ | refine q0k ?_ | refine q0h ?_ _));exact BK114.out)) : gb114 ≠ gb116));have n6_ := Aside0.mk ((by rw [hg];exact Nat.ne_of_gt (blk_lt (g := gb114) (o := .cells #[.int .i64 ((q0f l0 x13_1).f0),.bool ((q0f l0 x13_1).f1),.int .i64 ((q0f l0 x13_1).f2),.string ((q0f l0 x13_1).f3)] 66 (0,0)) (by (with_reducible repeat (first | refine q0j ?_ _ | refine q0k ?_ | refine q0h ?_ _));refine q0r (cs := #[.int .i64 ((q0f l0 x13_1).f0),.bool ((q0f l0 x13_1).f1),.int .i64 ((q0f l0 x13_1).f2),.string (⟨#[]⟩ : ByteArray)]) ?_ 3 _ rfl;(with_reducible repeat (first | refine q0j ?_ _ | refine q0k ?_ | refine q0h ?_ _));refine q0r (cs := #[.int .i64 ((q0f l0 x13_1).f0),.bool ((q0f l0 x13_1).f1),.int .i64 0,.string (⟨#[]⟩ : ByteArray)]) ?_ 2 _ rfl;(with_reducible repeat (first | refine q0j ?_ _ | refine q0k ?_ | refine q0h ?_ _));refine q0r (cs := #[.int .i64 ((q0f l0 x13_1).f0),.bool false,.int .i64 0,.string (⟨#[]⟩ : ByteArray)]) ?_ 1 _ rfl;(with_reducible repeat (first | refine q0j ?_ _ | refine q0k ?_ | refine q0h ?_ _));refine q0r (cs := #[.int .i64 0,.bool false,.int .i64 0,.string (⟨#[]⟩ : ByteArray)]) ?_ 0 _ rfl;(with_reducible repeat (first | refine q0j ?_ _ | refine q0k ?_ | refine q0h ?_ _));exact BK114.out)) : gb116 ≠ gb114));clear BK114;clear HB;have BK114 := n0_;have HB := n1_;have BK116 := n2_;have GW116 := n3_;have GE116 := n4_;have NB114_116 := n5_;have NB116_114 := n6_;clear n0_ n1_ n2_ n3_ n4_ n5_ n6_;clear hb hbox hg;have hnb16 := NB116_114.out;have hnc16 := NB114_116.out;have hcz17_0 : w15.cell? ⟨gb116,0,none⟩ = some (.int .i64 0) := (q0d BK116.out 0).trans rfl;have hcz17_1 : w15.cell? ⟨gb116,1,none⟩ = some (.bool false) := (q0d BK116.out 1).trans rfl;have hcz17_2 : w15.cell? ⟨gb116,2,none⟩ = some (.int .i64 0) := (q0d BK116.out 2).trans rfl;have hcz17_3 : w15.cell? ⟨gb116,3,none⟩ = some (.string (⟨#[]⟩ : ByteArray)) := (q0d BK116.out 3).trans rfl;have hfz17_0 := q0e BK116.out 0;have hfz17_1 := q0e BK116.out 1;have hfz17_2 := q0e BK116.out 2;have hfz17_3 := q0e BK116.out 3;have hcz18_0 : w15.cell? ⟨gb114,0,none⟩ = some (.int .i64 ((q0f l0 x13_1).f0)) := (q0d BK114.out 0).trans rfl;have hcz18_1 : w15.cell? ⟨gb114,1,none⟩ = some (.bool ((q0f l0 x13_1).f1)) := (q0d BK114.out 1).trans rfl;have hcz18_2 : w15.cell? ⟨gb114,2,none⟩ = some (.int .i64 ((q0f l0 x13_1).f2)) := (q0d BK114.out 2).trans rfl;have hcz18_3 : w15.cell? ⟨gb114,3,none⟩ = some (.string ((q0f l0 x13_1).f3)) := (q0d BK114.out 3).trans rfl;have hfz18_0 := q0e BK114.out 0;have hfz18_1 := q0e BK114.out 1;have hfz18_2 := q0e BK114.out 2;have hfz18_3 := q0e BK114.out 3) | ((with_reducible refine gate_tmp (n := 26) rfl ?_);refine goesT_ (some 29) rfl rfl Try.func111 (by kernel_rfl) rfl #[.agg #[.int .i64 ((q0f l0 x13_1).f0),.bool ((q0f l0 x13_1).f1),.int .i64 ((q0f l0 x13_1).f2),.string ((q0f l0 x13_1).f3)],.agg #[.int .i64 ((q0f l1 x13_1).f0),.bool ((q0f l1 x13_1).f1),.int .i64 ((q0f l1 x13_1).f2),.string ((q0f l1 x13_1).f3)]] rfl rfl (by (try simp only [List.map_toArray,List.map_cons,List.map_nil]);first | done | rfl | (simp only [List.length_drop,List.length_take];rfl)) ?_;(with_reducible refine (value_Compare.calls ((q0f l0 x13_1).f0) ((q0f l0 x13_1).f1) ((q0f l0 x13_1).f2) ((q0f l0 x13_1).f3) ((q0f l1 x13_1).f0) ((q0f l1 x13_1).f1) ((q0f l1 x13_1).f2) ((q0f l1 x13_1).f3) t117 _ A11.out).mono ?_);rintro e w19 ⟨rfl,hb⟩;refine ⟨_,rfl,?_⟩;have n0_ := Aside0.mk (q0s (g := gb114) (o := .cells #[.int .i64 ((q0f l0 x13_1).f0),.bool ((q0f l0 x13_1).f1),.int .i64 ((q0f l0 x13_1).f2),.string ((q0f l0 x13_1).f3)] 66 (0,0)) (by (with_reducible repeat (first | refine q0j ?_ _ | refine q0k ?_ | refine q0h ?_ _));refine blk_far ?_ NB114_116.out _;(with_reducible repeat (first | refine q0j ?_ _ | refine q0k ?_ | refine q0h ?_ _));refine blk_far ?_ NB114_116.out _;(with_reducible repeat (first | refine q0j ?_ _ | refine q0k ?_ | refine q0h ?_ _));refine blk_far ?_ NB114_116.out _;(with_reducible repeat (first | refine q0j ?_ _ | refine q0k ?_ | refine q0h ?_ _));refine blk_far ?_ NB114_116.out _;(with_reducible repeat (first | refine q0j ?_ _ | refine q0k ?_ | refine q0h ?_ _));exact BK114.out) hb);have n1_ := Aside0.mk (q0s (g := gb116) (o := .cells #[.int .i64 ((q0f l1 x13_1).f0),.bool ((q0f l1 x13_1).f1),.int .i64 ((q0f l1 x13_1).f2),.string ((q0f l1 x13_1).f3)] 66 (0,0)) (by (with_reducible repeat (first | refine q0j ?_ _ | refine q0k ?_ | refine q0h ?_ _));refine q0r (cs := #[.int .i64 ((q0f l1 x13_1).f0),.bool ((q0f l1 x13_1).f1),.int .i64 ((q0f l1 x13_1).f2),.string (⟨#[]⟩ : ByteArray)]) ?_ 3 _ rfl;(with_reducible repeat (first | refine q0j ?_ _ | refine q0k ?_ | refine q0h ?_ _));refine q0r (cs := #[.int .i64 ((q0f l1 x13_1).f0),.bool ((q0f l1 x13_1).f1),.int .i64 0,.string (⟨#[]⟩ : ByteArray)]) ?_ 2 _ rfl;(with_reducible repeat (first | refine q0j ?_ _ | refine q0k ?_ | refine q0h ?_ _));refine q0r (cs := #[.int .i64 ((q0f l1 x13_1).f0),.bool false,.int .i64 0,.string (⟨#[]⟩ : ByteArray)]) ?_ 1 _ rfl;(with_reducible repeat (first | refine q0j ?_ _ | refine q0k ?_ | refine q0h ?_ _));refine q0r (cs := #[.int .i64 0,.bool false,.int .i64 0,.string (⟨#[]⟩ : ByteArray)]) ?_ 0 _ rfl;(with_reducible repeat (first | refine q0j ?_ _ | refine q0k ?_ | refine q0h ?_ _));exact BK116.out) hb);have n2_ := Aside0.mk (q0n (by repeat (first | (with_reducible first | exact HB.out | apply q0b | apply q0a | apply q0c | refine q0i ?_ GE114.out | refine q0i ?_ GE116.out) | exact HB.out)) hb);clear BK114;clear BK116;clear HB;have BK114 := n0_;have BK116 := n1_;have HB := n2_;clear n0_ n1_ n2_;(try clear hb);(try clear hb2);(try clear hk);(try clear hi)))
         go_roundg k1
         case measure => have := HK1.out;omega
         case rel => exact ⟨(wrap64 (x13_1 + 1)),(by first | rfl | (simp;done) | (simp [*];done)),H',⟨by have := HK1.out;omega⟩,⟨by repeat (first | (with_reducible first | exact HB.out | apply q0b | apply q0a | apply q0c | refine q0i ?_ GE114.out | refine q0i ?_ GE116.out) | exact HB.out)⟩⟩
        ·rw [if_neg c12] at H
         have c12b0 : (t117 == 0) = false := beq_eq_false_iff_ne.mpr c12
         have c12b1 : (t117 != 0) = true := bne_iff_ne.mpr c12
         obtain rfl := Option.some.inj H
         have p113 : 0 ≤ (x13_1 : Int) := of_decide_eq_true (by first | (with_reducible assumption) | assumption)
         have q113 : x13_1 < (l0.length : Int) := of_decide_eq_true (by first | (with_reducible assumption) | assumption)
         obtain ⟨ad113,e113,hx113_0,hx113_1,hx113_2,hx113_3⟩ := at_T66 HR0.out x13_1 p113 q113
         cases e113
         replace hx113_0 := (HB.out.cell (World.block_lt_of_cell? w _ hx113_0)).trans hx113_0
         replace hx113_1 := (HB.out.cell (World.block_lt_of_cell? w _ hx113_1)).trans hx113_1
         replace hx113_2 := (HB.out.cell (World.block_lt_of_cell? w _ hx113_2)).trans hx113_2
         replace hx113_3 := (HB.out.cell (World.block_lt_of_cell? w _ hx113_3)).trans hx113_3
         replace p113 := eq_true p113
         replace q113 := eq_true q113
         go_wp2_with (first | ((with_reducible refine q0p (N := 8) rfl ?_);refine q0o ?hg (N := 8) ?hd (cs := #[.int .i64 0,.bool false,.int .i64 0,.string (⟨#[]⟩ : ByteArray)]) (t := 66) ?hr ?_;(case hd => rfl);(case hg => rfl);(case hr => first | (go_simp;done) | (go_simp;rfl));intro gb114 hg w20 hbox hb;have n0_ := Aside0.mk (q0n (by repeat (first | (with_reducible first | exact HB.out | apply q0b | apply q0a | apply q0c) | exact HB.out)) hb);have n1_ := Aside0.mk (hbox);have n2_ := Aside0.mk ((by rw [hg];exact (q0g (by repeat (first | (with_reducible first | exact HB.out | apply q0b | apply q0a | apply q0c) | exact HB.out))) : w.heap.size ≤ gb114));have n3_ := Aside0.mk ((by rw [hg];exact (q0g (by repeat (first | (with_reducible first | exact HB.out | apply q0b | apply q0a | apply q0c) | exact HB.out))) : w.heap.size ≤ gb114));clear HB;have HB := n0_;have BK114 := n1_;have GW114 := n2_;have GE114 := n3_;clear n0_ n1_ n2_ n3_;clear hb hbox hg;have hcz21_0 : w20.cell? ⟨gb114,0,none⟩ = some (.int .i64 0) := (q0d BK114.out 0).trans rfl;have hcz21_1 : w20.cell? ⟨gb114,1,none⟩ = some (.bool false) := (q0d BK114.out 1).trans rfl;have hcz21_2 : w20.cell? ⟨gb114,2,none⟩ = some (.int .i64 0) := (q0d BK114.out 2).trans rfl;have hcz21_3 : w20.cell? ⟨gb114,3,none⟩ = some (.string (⟨#[]⟩ : ByteArray)) := (q0d BK114.out 3).trans rfl;have hfz21_0 := q0e BK114.out 0;have hfz21_1 := q0e BK114.out 1;have hfz21_2 := q0e BK114.out 2;have hfz21_3 := q0e BK114.out 3;have p115 : 0 ≤ (x13_1 : Int) := of_decide_eq_true (by first | (with_reducible assumption) | assumption);have q115 : x13_1 < (l1.length : Int) := of_decide_eq_true (by first | (with_reducible assumption) | assumption);obtain ⟨ad115,e115,hx115_0,hx115_1,hx115_2,hx115_3⟩ := at_T66 HR1.out x13_1 p115 q115;cases e115;have hn115_0 : ad115.block ≠ gb114 := Nat.ne_of_lt (Nat.lt_of_lt_of_le (by have := World.block_lt_of_cell? _ _ hx115_0;first | rwa [add_block] at this | exact this) GW114.out);have hn115_1 : ad115.block ≠ gb114 := Nat.ne_of_lt (Nat.lt_of_lt_of_le (by have := World.block_lt_of_cell? _ _ hx115_0;first | rwa [add_block] at this | exact this) GW114.out);have hn115_2 : ad115.block ≠ gb114 := Nat.ne_of_lt (Nat.lt_of_lt_of_le (by have := World.block_lt_of_cell? _ _ hx115_0;first | rwa [add_block] at this | exact this) GW114.out);have hn115_3 : ad115.block ≠ gb114 := Nat.ne_of_lt (Nat.lt_of_lt_of_le (by have := World.block_lt_of_cell? _ _ hx115_0;first | rwa [add_block] at this | exact this) GW114.out);replace hx115_0 := (HB.out.cell (World.block_lt_of_cell? w _ hx115_0)).trans hx115_0;replace hx115_1 := (HB.out.cell (World.block_lt_of_cell? w _ hx115_1)).trans hx115_1;replace hx115_2 := (HB.out.cell (World.block_lt_of_cell? w _ hx115_2)).trans hx115_2;replace hx115_3 := (HB.out.cell (World.block_lt_of_cell? w _ hx115_3)).trans hx115_3;replace hx115_0 := (cell_far (p := ⟨gb114,0,none⟩) (by first | (rw [add_block];exact hn115_0) | (show (Addr.add _ _).block ≠ _;rw [add_block];exact hn115_0) | exact hn115_0) (.int .i64 ((q0f l0 x13_1).f0))).trans hx115_0;replace hx115_1 := (cell_far (p := ⟨gb114,0,none⟩) (by first | (rw [add_block];exact hn115_0) | (show (Addr.add _ _).block ≠ _;rw [add_block];exact hn115_0) | exact hn115_0) (.int .i64 ((q0f l0 x13_1).f0))).trans hx115_1;replace hx115_2 := (cell_far (p := ⟨gb114,0,none⟩) (by first | (rw [add_block];exact hn115_0) | (show (Addr.add _ _).block ≠ _;rw [add_block];exact hn115_0) | exact hn115_0) (.int .i64 ((q0f l0 x13_1).f0))).trans hx115_2;replace hx115_3 := (cell_far (p := ⟨gb114,0,none⟩) (by first | (rw [add_block];exact hn115_0) | (show (Addr.add _ _).block ≠ _;rw [add_block];exact hn115_0) | exact hn115_0) (.int .i64 ((q0f l0 x13_1).f0))).trans hx115_3;replace hx115_0 := (cell_far (p := ⟨gb114,1,none⟩) (by first | (rw [add_block];exact hn115_1) | (show (Addr.add _ _).block ≠ _;rw [add_block];exact hn115_1) | exact hn115_1) (.bool ((q0f l0 x13_1).f1))).trans hx115_0;replace hx115_1 := (cell_far (p := ⟨gb114,1,none⟩) (by first | (rw [add_block];exact hn115_1) | (show (Addr.add _ _).block ≠ _;rw [add_block];exact hn115_1) | exact hn115_1) (.bool ((q0f l0 x13_1).f1))).trans hx115_1;replace hx115_2 := (cell_far (p := ⟨gb114,1,none⟩) (by first | (rw [add_block];exact hn115_1) | (show (Addr.add _ _).block ≠ _;rw [add_block];exact hn115_1) | exact hn115_1) (.bool ((q0f l0 x13_1).f1))).trans hx115_2;replace hx115_3 := (cell_far (p := ⟨gb114,1,none⟩) (by first | (rw [add_block];exact hn115_1) | (show (Addr.add _ _).block ≠ _;rw [add_block];exact hn115_1) | exact hn115_1) (.bool ((q0f l0 x13_1).f1))).trans hx115_3;replace hx115_0 := (cell_far (p := ⟨gb114,2,none⟩) (by first | (rw [add_block];exact hn115_2) | (show (Addr.add _ _).block ≠ _;rw [add_block];exact hn115_2) | exact hn115_2) (.int .i64 ((q0f l0 x13_1).f2))).trans hx115_0;replace hx115_1 := (cell_far (p := ⟨gb114,2,none⟩) (by first | (rw [add_block];exact hn115_2) | (show (Addr.add _ _).block ≠ _;rw [add_block];exact hn115_2) | exact hn115_2) (.int .i64 ((q0f l0 x13_1).f2))).trans hx115_1;replace hx115_2 := (cell_far (p := ⟨gb114,2,none⟩) (by first | (rw [add_block];exact hn115_2) | (show (Addr.add _ _).block ≠ _;rw [add_block];exact hn115_2) | exact hn115_2) (.int .i64 ((q0f l0 x13_1).f2))).trans hx115_2;replace hx115_3 := (cell_far (p := ⟨gb114,2,none⟩) (by first | (rw [add_block];exact hn115_2) | (show (Addr.add _ _).block ≠ _;rw [add_block];exact hn115_2) | exact hn115_2) (.int .i64 ((q0f l0 x13_1).f2))).trans hx115_3;replace hx115_0 := (cell_far (p := ⟨gb114,3,none⟩) (by first | (rw [add_block];exact hn115_3) | (show (Addr.add _ _).block ≠ _;rw [add_block];exact hn115_3) | exact hn115_3) (.string ((q0f l0 x13_1).f3))).trans hx115_0;replace hx115_1 := (cell_far (p := ⟨gb114,3,none⟩) (by first | (rw [add_block];exact hn115_3) | (show (Addr.add _ _).block ≠ _;rw [add_block];exact hn115_3) | exact hn115_3) (.string ((q0f l0 x13_1).f3))).trans hx115_1;replace hx115_2 := (cell_far (p := ⟨gb114,3,none⟩) (by first | (rw [add_block];exact hn115_3) | (show (Addr.add _ _).block ≠ _;rw [add_block];exact hn115_3) | exact hn115_3) (.string ((q0f l0 x13_1).f3))).trans hx115_2;replace hx115_3 := (cell_far (p := ⟨gb114,3,none⟩) (by first | (rw [add_block];exact hn115_3) | (show (Addr.add _ _).block ≠ _;rw [add_block];exact hn115_3) | exact hn115_3) (.string ((q0f l0 x13_1).f3))).trans hx115_3;clear hn115_0;clear hn115_1;clear hn115_2;clear hn115_3;replace p115 := eq_true p115;replace q115 := eq_true q115) | ((with_reducible refine q0p (N := 9) rfl ?_);refine q0o ?hg (N := 9) ?hd (cs := #[.int .i64 0,.bool false,.int .i64 0,.string (⟨#[]⟩ : ByteArray)]) (t := 66) ?hr ?_;(case hd => rfl);(case hg => rfl);(case hr => first | (go_simp;done) | (go_simp;rfl));intro gb116 hg w22 hbox hb;have n0_ := Aside0.mk (q0s (g := gb114) (o := .cells #[.int .i64 ((q0f l0 x13_1).f0),.bool ((q0f l0 x13_1).f1),.int .i64 ((q0f l0 x13_1).f2),.string ((q0f l0 x13_1).f3)] 66 (0,0)) (by (with_reducible repeat (first | refine q0j ?_ _ | refine q0k ?_ | refine q0h ?_ _));refine q0r (cs := #[.int .i64 ((q0f l0 x13_1).f0),.bool ((q0f l0 x13_1).f1),.int .i64 ((q0f l0 x13_1).f2),.string (⟨#[]⟩ : ByteArray)]) ?_ 3 _ rfl;(with_reducible repeat (first | refine q0j ?_ _ | refine q0k ?_ | refine q0h ?_ _));refine q0r (cs := #[.int .i64 ((q0f l0 x13_1).f0),.bool ((q0f l0 x13_1).f1),.int .i64 0,.string (⟨#[]⟩ : ByteArray)]) ?_ 2 _ rfl;(with_reducible repeat (first | refine q0j ?_ _ | refine q0k ?_ | refine q0h ?_ _));refine q0r (cs := #[.int .i64 ((q0f l0 x13_1).f0),.bool false,.int .i64 0,.string (⟨#[]⟩ : ByteArray)]) ?_ 1 _ rfl;(with_reducible repeat (first | refine q0j ?_ _ | refine q0k ?_ | refine q0h ?_ _));refine q0r (cs := #[.int .i64 0,.bool false,.int .i64 0,.string (⟨#[]⟩ : ByteArray)]) ?_ 0 _ rfl;(with_reducible repeat (first | refine q0j ?_ _ | refine q0k ?_ | refine q0h ?_ _));exact BK114.out) hb);have n1_ := Aside0.mk (q0n (by repeat (first | (with_reducible first | exact HB.out | apply q0b | apply q0a | apply q0c | refine q0i ?_ GE114.out) | exact HB.out)) hb);have n2_ := Aside0.mk (hbox);have n3_ := Aside0.mk ((by rw [hg];exact (q0g (by repeat (first | (with_reducible first | exact HB.out | apply q0b | apply q0a | apply q0c | refine q0i ?_ GE114.out) | exact HB.out))) : w.heap.size ≤ gb116));have n4_ := Aside0.mk ((by rw [hg];exact (q0g (by repeat (first | (with_reducible first | exact HB.out | apply q0b | apply q0a | apply q0c | refine q0i ?_ GE114.out) | exact HB.out))) : w.heap.size ≤ gb116));have n5_ := Aside0.mk ((by rw [hg];exact Nat.ne_of_lt (blk_lt (g := gb114) (o := .cells #[.int .i64 ((q0f l0 x13_1).f0),.bool ((q0f l0 x13_1).f1),.int .i64 ((q0f l0 x13_1).f2),.string ((q0f l0 x13_1).f3)] 66 (0,0)) (by (with_reducible repeat (first | refine q0j ?_ _ | refine q0k ?_ | refine q0h ?_ _));refine q0r (cs := #[.int .i64 ((q0f l0 x13_1).f0),.bool ((q0f l0 x13_1).f1),.int .i64 ((q0f l0 x13_1).f2),.string (⟨#[]⟩ : ByteArray)]) ?_ 3 _ rfl;(with_reducible repeat (first | refine q0j ?_ _ | refine q0k ?_ | refine q0h ?_ _));refine q0r (cs := #[.int .i64 ((q0f l0 x13_1).f0),.bool ((q0f l0 x13_1).f1),.int .i64 0,.string (⟨#[]⟩ : ByteArray)]) ?_ 2 _ rfl;(with_reducible repeat (first | refine q0j ?_ _ | refine q0k ?_ | refine q0h ?_ _));refine q0r (cs := #[.int .i64 ((q0f l0 x13_1).f0),.bool false,.int .i64 0,.string (⟨#[]⟩ : ByteArray)]) ?_ 1 _ rfl;(with_reducible repeat (first | refine q0j ?_ _ | refine q0k ?_ | refine q0h ?_ _));refine q0r (cs := #[.int .i64 0,.bool false,.int .i64 0,.string (⟨#[]⟩ : ByteArray)]) ?_ 0 _ rfl;(with_reducible repeat (first | refine q0j ?_ _ | refine q0k ?_ | refine q0h ?_ _));exact BK114.out)) : gb114 ≠ gb116));have n6_ := Aside0.mk ((by rw [hg];exact Nat.ne_of_gt (blk_lt (g := gb114) (o := .cells #[.int .i64 ((q0f l0 x13_1).f0),.bool ((q0f l0 x13_1).f1),.int .i64 ((q0f l0 x13_1).f2),.string ((q0f l0 x13_1).f3)] 66 (0,0)) (by (with_reducible repeat (first | refine q0j ?_ _ | refine q0k ?_ | refine q0h ?_ _));refine q0r (cs := #[.int .i64 ((q0f l0 x13_1).f0),.bool ((q0f l0 x13_1).f1),.int .i64 ((q0f l0 x13_1).f2),.string (⟨#[]⟩ : ByteArray)]) ?_ 3 _ rfl;(with_reducible repeat (first | refine q0j ?_ _ | refine q0k ?_ | refine q0h ?_ _));refine q0r (cs := #[.int .i64 ((q0f l0 x13_1).f0),.bool ((q0f l0 x13_1).f1),.int .i64 0,.string (⟨#[]⟩ : ByteArray)]) ?_ 2 _ rfl;(with_reducible repeat (first | refine q0j ?_ _ | refine q0k ?_ | refine q0h ?_ _));refine q0r (cs := #[.int .i64 ((q0f l0 x13_1).f0),.bool false,.int .i64 0,.string (⟨#[]⟩ : ByteArray)]) ?_ 1 _ rfl;(with_reducible repeat (first | refine q0j ?_ _ | refine q0k ?_ | refine q0h ?_ _));refine q0r (cs := #[.int .i64 0,.bool false,.int .i64 0,.string (⟨#[]⟩ : ByteArray)]) ?_ 0 _ rfl;(with_reducible repeat (first | refine q0j ?_ _ | refine q0k ?_ | refine q0h ?_ _));exact BK114.out)) : gb116 ≠ gb114));clear BK114;clear HB;have BK114 := n0_;have HB := n1_;have BK116 := n2_;have GW116 := n3_;have GE116 := n4_;have NB114_116 := n5_;have NB116_114 := n6_;clear n0_ n1_ n2_ n3_ n4_ n5_ n6_;clear hb hbox hg;have hnb23 := NB116_114.out;have hnc23 := NB114_116.out;have hcz24_0 : w22.cell? ⟨gb116,0,none⟩ = some (.int .i64 0) := (q0d BK116.out 0).trans rfl;have hcz24_1 : w22.cell? ⟨gb116,1,none⟩ = some (.bool false) := (q0d BK116.out 1).trans rfl;have hcz24_2 : w22.cell? ⟨gb116,2,none⟩ = some (.int .i64 0) := (q0d BK116.out 2).trans rfl;have hcz24_3 : w22.cell? ⟨gb116,3,none⟩ = some (.string (⟨#[]⟩ : ByteArray)) := (q0d BK116.out 3).trans rfl;have hfz24_0 := q0e BK116.out 0;have hfz24_1 := q0e BK116.out 1;have hfz24_2 := q0e BK116.out 2;have hfz24_3 := q0e BK116.out 3;have hcz25_0 : w22.cell? ⟨gb114,0,none⟩ = some (.int .i64 ((q0f l0 x13_1).f0)) := (q0d BK114.out 0).trans rfl;have hcz25_1 : w22.cell? ⟨gb114,1,none⟩ = some (.bool ((q0f l0 x13_1).f1)) := (q0d BK114.out 1).trans rfl;have hcz25_2 : w22.cell? ⟨gb114,2,none⟩ = some (.int .i64 ((q0f l0 x13_1).f2)) := (q0d BK114.out 2).trans rfl;have hcz25_3 : w22.cell? ⟨gb114,3,none⟩ = some (.string ((q0f l0 x13_1).f3)) := (q0d BK114.out 3).trans rfl;have hfz25_0 := q0e BK114.out 0;have hfz25_1 := q0e BK114.out 1;have hfz25_2 := q0e BK114.out 2;have hfz25_3 := q0e BK114.out 3) | ((with_reducible refine gate_tmp (n := 26) rfl ?_);refine goesT_ (some 29) rfl rfl Try.func111 (by kernel_rfl) rfl #[.agg #[.int .i64 ((q0f l0 x13_1).f0),.bool ((q0f l0 x13_1).f1),.int .i64 ((q0f l0 x13_1).f2),.string ((q0f l0 x13_1).f3)],.agg #[.int .i64 ((q0f l1 x13_1).f0),.bool ((q0f l1 x13_1).f1),.int .i64 ((q0f l1 x13_1).f2),.string ((q0f l1 x13_1).f3)]] rfl rfl (by (try simp only [List.map_toArray,List.map_cons,List.map_nil]);first | done | rfl | (simp only [List.length_drop,List.length_take];rfl)) ?_;(with_reducible refine (value_Compare.calls ((q0f l0 x13_1).f0) ((q0f l0 x13_1).f1) ((q0f l0 x13_1).f2) ((q0f l0 x13_1).f3) ((q0f l1 x13_1).f0) ((q0f l1 x13_1).f1) ((q0f l1 x13_1).f2) ((q0f l1 x13_1).f3) t117 _ A11.out).mono ?_);rintro e w26 ⟨rfl,hb⟩;refine ⟨_,rfl,?_⟩;have n0_ := Aside0.mk (q0s (g := gb114) (o := .cells #[.int .i64 ((q0f l0 x13_1).f0),.bool ((q0f l0 x13_1).f1),.int .i64 ((q0f l0 x13_1).f2),.string ((q0f l0 x13_1).f3)] 66 (0,0)) (by (with_reducible repeat (first | refine q0j ?_ _ | refine q0k ?_ | refine q0h ?_ _));refine blk_far ?_ NB114_116.out _;(with_reducible repeat (first | refine q0j ?_ _ | refine q0k ?_ | refine q0h ?_ _));refine blk_far ?_ NB114_116.out _;(with_reducible repeat (first | refine q0j ?_ _ | refine q0k ?_ | refine q0h ?_ _));refine blk_far ?_ NB114_116.out _;(with_reducible repeat (first | refine q0j ?_ _ | refine q0k ?_ | refine q0h ?_ _));refine blk_far ?_ NB114_116.out _;(with_reducible repeat (first | refine q0j ?_ _ | refine q0k ?_ | refine q0h ?_ _));exact BK114.out) hb);have n1_ := Aside0.mk (q0s (g := gb116) (o := .cells #[.int .i64 ((q0f l1 x13_1).f0),.bool ((q0f l1 x13_1).f1),.int .i64 ((q0f l1 x13_1).f2),.string ((q0f l1 x13_1).f3)] 66 (0,0)) (by (with_reducible repeat (first | refine q0j ?_ _ | refine q0k ?_ | refine q0h ?_ _));refine q0r (cs := #[.int .i64 ((q0f l1 x13_1).f0),.bool ((q0f l1 x13_1).f1),.int .i64 ((q0f l1 x13_1).f2),.string (⟨#[]⟩ : ByteArray)]) ?_ 3 _ rfl;(with_reducible repeat (first | refine q0j ?_ _ | refine q0k ?_ | refine q0h ?_ _));refine q0r (cs := #[.int .i64 ((q0f l1 x13_1).f0),.bool ((q0f l1 x13_1).f1),.int .i64 0,.string (⟨#[]⟩ : ByteArray)]) ?_ 2 _ rfl;(with_reducible repeat (first | refine q0j ?_ _ | refine q0k ?_ | refine q0h ?_ _));refine q0r (cs := #[.int .i64 ((q0f l1 x13_1).f0),.bool false,.int .i64 0,.string (⟨#[]⟩ : ByteArray)]) ?_ 1 _ rfl;(with_reducible repeat (first | refine q0j ?_ _ | refine q0k ?_ | refine q0h ?_ _));refine q0r (cs := #[.int .i64 0,.bool false,.int .i64 0,.string (⟨#[]⟩ : ByteArray)]) ?_ 0 _ rfl;(with_reducible repeat (first | refine q0j ?_ _ | refine q0k ?_ | refine q0h ?_ _));exact BK116.out) hb);have n2_ := Aside0.mk (q0n (by repeat (first | (with_reducible first | exact HB.out | apply q0b | apply q0a | apply q0c | refine q0i ?_ GE114.out | refine q0i ?_ GE116.out) | exact HB.out)) hb);clear BK114;clear BK116;clear HB;have BK114 := n0_;have BK116 := n1_;have HB := n2_;clear n0_ n1_ n2_;(try clear hb);(try clear hb2);(try clear hk);(try clear hi)))
         go_ret
         exact ⟨by first | rfl | (simp [q0m,q0l] <;> rfl) | (simp [*,q0m,q0l] <;> rfl),by repeat (first | (with_reducible first | exact HB.out | apply q0b | apply q0a | apply q0c | refine q0i ?_ GE114.out | refine q0i ?_ GE116.out) | exact HB.out)⟩
       ·rw [if_neg c10] at H
        exact absurd H (by simp)
     ·rw [if_neg c6] at H
      exact absurd H (by simp)
    ·rw [if_neg c5] at H
     exact absurd H (by simp)
   ·rw [if_neg c4] at H
    have c4b0 : decide (x13_1 < (l0.length : Int)) = false := decide_eq_false c4
    clear c4
    by_cases c27 : (l0.length : Int) < (l1.length : Int)
    ·rw [if_pos c27] at H
     have c27b0 : decide ((l0.length : Int) < (l1.length : Int)) = true := decide_eq_true c27
     have c27b1 : decide (l0.length < l1.length) = true := decide_eq_true (Int.ofNat_lt.mp c27)
     clear c27
     obtain rfl := Option.some.inj H
     go_wp2
     go_ret
     exact ⟨by first | rfl | (simp [q0m,q0l] <;> rfl) | (simp [*,q0m,q0l] <;> rfl),by repeat (first | (with_reducible first | exact HB.out | apply q0b | apply q0a | apply q0c) | exact HB.out)⟩
    ·rw [if_neg c27] at H
     have c27b0 : decide ((l0.length : Int) < (l1.length : Int)) = false := decide_eq_false c27
     have c27b1 : decide (l0.length < l1.length) = false := decide_eq_false (fun h => c27 (Int.ofNat_lt.mpr h))
     clear c27
     obtain rfl := Option.some.inj H
     go_wp2
     go_ret
     exact ⟨by first | rfl | (simp [q0m,q0l] <;> rfl) | (simp [*,q0m,q0l] <;> rfl),by repeat (first | (with_reducible first | exact HB.out | apply q0b | apply q0a | apply q0c) | exact HB.out)⟩
end Go.Proofs.Ythmbfcfomcaaaaa.Z
end
section
namespace Go.Proofs.Ythmbfcfomcaaaaa.Z
open Go.RowKit Go.Proofs.YthmbfcfomcaaaaaW.PrintWords Go.Proofs.YthmbfcfomcaaaaaW.PrintLast Go.Proofs.YthmbfcfomcaaaaaW.PrintMore
attribute [local go_sem] max2_int min2_int max_two min_two max_three min_three max_four min_four
set_option linter.unusedVariables false
set_option linter.unusedSimpArgs false
def row_Compare.f (k : Nat) (l0 : List (S66)) (l1 : List (S66)) : Option (Int) := (slices_CompareFunc.f k l0 l1 4242111).bind fun t118 => (some t118)
theorem row_Compare.mono : ∀ a0 a1 k,LeO (row_Compare.f k a0 a1) (row_Compare.f (k + 1) a0 a1) := by
 intro a0 a1 k
 unfold row_Compare.f
 repeat' first
   | (with_reducible exact slices_CompareFunc.mono _ _ _ _)
   | (with_reducible exact LeO.refl _)
   | (with_reducible exact LeO.none _)
   | (with_reducible refine LeO.ite ?_ ?_)
   | (with_reducible refine LeO.bind ?_ (fun _ => ?_))
   | exact slices_CompareFunc.mono _ _ _ _
   | exact LeO.none _
   | refine LeO.ite ?_ ?_
   | refine LeO.bind ?_ (fun _ => ?_)
set_option maxHeartbeats 8000000 in
set_option maxRecDepth 100000 in
theorem row_Compare.calls (k : Nat) (A0 : Option Addr) (c0 : Nat) (l0 : List (S66)) (A1 : Option Addr) (c1 : Nat) (l1 : List (S66)) (r : Int) (w : World) (hr0 : Kd.C k66 w A0 l0.length l0) (hc0 : l0.length ≤ c0) (hr1 : Kd.C k66 w A1 l1.length l1) (hc1 : l1.length ≤ c1) (h : row_Compare.f k l0 l1 = some r) :
  Calls Try.prog 93 #[.slice A0 l0.length c0,.slice A1 l1.length c1] w fun e w' => e = .returned (.int .i64 r) ∧ Below w.heap.size w w' := by
 have HR0 := Aside0.mk hr0
 have HC0 := Aside0.mk hc0
 clear hr0 hc0
 have HR1 := Aside0.mk hr1
 have HC1 := Aside0.mk hc1
 clear hr1 hc1
 have HB := Aside0.mk (Below.refl w.heap.size w)
 have H : ((slices_CompareFunc.f k l0 l1 4242111).bind fun t118 => (some t118)) = some r := h
 clear h
 replace H := Option.bind_eq_some_iff.mp H
 obtain ⟨t118,A30,H⟩ := H
 replace H : (some t118) = some r := H
 have A3 := Aside0.mk A30
 clear A30
 obtain rfl := Option.some.inj H
 go_enter Try.func93,Try.ntmps93
 go_wp2_with (first | ((with_reducible refine q0u (f := 110) rfl ?_);refine goesL_ (some 7) rfl rfl Try.func110 (by kernel_rfl) rfl #[.slice A0 l0.length c0,.slice A1 l1.length c1,.func (.func 111) #[] #[]] rfl (by (try simp only [List.map_toArray,List.map_cons,List.map_nil]);first | done | rfl | (simp only [List.length_drop,List.length_take];rfl)) ?_;(with_reducible refine (slices_CompareFunc.calls k _ _ l0 _ _ l1 4242111 t118 _ ?side1 ?side2 ?side3 ?side4 A3.out).mono ?_);(case side1 => repeat (first | exact HR0.out | (with_reducible refine Kd.C_alloc ?_ _) | (with_reducible refine Kd.C_drewN ?_ _) | (with_reducible refine Kd.C_drew ?_)));(case side2 => exact HC0.out);(case side3 => repeat (first | exact HR1.out | (with_reducible refine Kd.C_alloc ?_ _) | (with_reducible refine Kd.C_drewN ?_ _) | (with_reducible refine Kd.C_drew ?_)));(case side4 => exact HC1.out);rintro e w4 ⟨rfl,hb⟩;refine ⟨_,rfl,?_⟩;have n0_ := Aside0.mk (q0n (by repeat (first | (with_reducible first | exact HB.out | apply q0b | apply q0a | apply q0c) | exact HB.out)) hb);clear HB;have HB := n0_;clear n0_;(try clear hb);(try clear hb2);(try clear hk);(try clear hi)))
 go_ret
 exact ⟨by first | rfl | (simp [q0m,q0l] <;> rfl) | (simp [*,q0m,q0l] <;> rfl),by repeat (first | (with_reducible first | exact HB.out | apply q0b | apply q0a | apply q0c) | exact HB.out)⟩
end Go.Proofs.Ythmbfcfomcaaaaa.Z
end
section
namespace Go.Proofs.Ythmbfcfomcaaaaa.Cmp
structure CmpLaw {α : Type} (c : α → α → Int) : Prop where
 lo : ∀ a b,-1 ≤ c a b
 anti : ∀ a b,c b a = - c a b
 le : ∀ a b d,c a b ≤ 0 → c b d ≤ 0 → c a d ≤ 0
variable {α : Type} {c : α → α → Int}
theorem CmpLaw.hi (h : CmpLaw c) (a b : α) : c a b ≤ 1 := by have := h.lo b a;have := h.anti b a;omega
theorem CmpLaw.self (h : CmpLaw c) (a : α) : c a a = 0 := by have := h.anti a a;omega
theorem CmpLaw.lt_le (h : CmpLaw c) {a b d : α} (h1 : c a b < 0) (h2 : c b d ≤ 0) : c a d < 0 := by
 have h3 := h.le a b d (by omega) h2
 rcases Int.lt_or_eq_of_le h3 with h4 | h4
 ·exact h4
 ·have h5 := h.anti a d
  have h6 := h.le b d a h2 (by omega)
  have h7 := h.anti a b
  omega
theorem CmpLaw.le_lt (h : CmpLaw c) {a b d : α} (h1 : c a b ≤ 0) (h2 : c b d < 0) : c a d < 0 := by
 have h3 := h.le a b d h1 (by omega)
 rcases Int.lt_or_eq_of_le h3 with h4 | h4
 ·exact h4
 ·have h5 := h.anti a d
  have h6 := h.le d a b (by omega) h1
  have h7 := h.anti b d
  omega
theorem CmpLaw.eq_left (h : CmpLaw c) {a b : α} (d : α) (h1 : c a b = 0) : c a d = c b d := by
 have a1 := h.anti a b
 have lo1 := h.lo a d
 have hi1 := h.hi a d
 have lo2 := h.lo b d
 have hi2 := h.hi b d
 rcases Int.lt_trichotomy (c b d) 0 with h2 | h2 | h2
 ·have := h.le_lt (a := a) (b := b) (d := d) (by omega) h2
  omega
 ·have h3 := h.le a b d (by omega) (by omega)
  have h4 := h.le d b a (by have := h.anti b d;omega) (by omega)
  have := h.anti a d
  omega
 ·have h3 : c d b < 0 := by have := h.anti b d;omega
  have := h.lt_le h3 (show c b a ≤ 0 by omega)
  have := h.anti a d
  omega
def cmpI (a b : Int) : Int := if a < b then -1 else if b < a then 1 else 0
theorem cmpI_law : CmpLaw cmpI := by
 refine ⟨fun a b => ?_,fun a b => ?_,fun a b d h1 h2 => ?_⟩ <;> unfold cmpI at * <;> repeat' split at * <;> omega
theorem cmpI_eq {a b : Int} : cmpI a b = 0 ↔ a = b := by unfold cmpI;repeat' split <;> omega
theorem CmpLaw.on {β : Type} (f : β → α) (h : CmpLaw c) : CmpLaw (fun x y => c (f x) (f y)) := ⟨fun _ _ => h.lo _ _,fun _ _ => h.anti _ _,fun _ _ _ => h.le _ _ _⟩
def andThenC (c d : α → α → Int) (a b : α) : Int := if c a b = 0 then d a b else c a b
theorem CmpLaw.andThen {d : α → α → Int} (hc : CmpLaw c) (hd : CmpLaw d) : CmpLaw (andThenC c d) := by
 refine ⟨fun a b => ?_,fun a b => ?_,fun a b e h1 h2 => ?_⟩
 ·unfold andThenC;split
  ·exact hd.lo a b
  ·exact hc.lo a b
 ·unfold andThenC
  have h1 := hc.anti a b
  have h2 := hd.anti a b
  by_cases h : c a b = 0
  ·rw [if_pos h,if_pos (by omega)];exact h2
  ·rw [if_neg h,if_neg (by omega)];exact h1
 ·unfold andThenC at *
  by_cases ha : c a b = 0
  ·rw [if_pos ha] at h1
   rw [hc.eq_left e ha]
   by_cases hb : c b e = 0
   ·rw [if_pos hb] at h2 ⊢
    exact hd.le _ _ _ h1 h2
   ·rw [if_neg hb] at h2 ⊢
    exact h2
  ·rw [if_neg ha] at h1
   have h3 : c b e ≤ 0 := by
    by_cases hb : c b e = 0
    ·omega
    ·rw [if_neg hb] at h2;exact h2
   have h4 := hc.lt_le (show c a b < 0 by omega) h3
   rw [if_neg (by omega)]
   omega
def lexC (c : α → α → Int) : List α → List α → Int
 | [],[] => 0
 | [],_ :: _ => -1
 | _ :: _,[] => 1
 | a :: as_,b :: bs => if c a b = 0 then lexC c as_ bs else c a b
theorem lexC_law (h : CmpLaw c) : CmpLaw (lexC c) := by
 have lo : ∀ a b,-1 ≤ lexC c a b := by
  intro a
  induction a with
  | nil => intro b;cases b <;> simp [lexC]
  | cons x a ih =>
   intro b
   cases b with
   | nil => simp [lexC]
   | cons y b =>
    simp only [lexC]
    split
    ·exact ih b
    ·exact h.lo x y
 have anti : ∀ a b,lexC c b a = - lexC c a b := by
  intro a
  induction a with
  | nil => intro b;cases b <;> simp [lexC]
  | cons x a ih =>
   intro b
   cases b with
   | nil => simp [lexC]
   | cons y b =>
    simp only [lexC]
    have h1 := h.anti x y
    by_cases h0 : c x y = 0
    ·rw [if_pos h0,if_pos (by omega)];exact ih b
    ·rw [if_neg h0,if_neg (by omega)];exact h1
 refine ⟨lo,anti,?_⟩
 intro a
 induction a with
 | nil =>
  intro b d h1 h2
  cases d with
  | nil => simp [lexC]
  | cons => simp [lexC]
 | cons x a ih =>
  intro b d h1 h2
  cases b with
  | nil => simp [lexC] at h1
  | cons y b =>
   cases d with
   | nil => simp [lexC] at h2
   | cons z d =>
    simp only [lexC] at h1 h2 ⊢
    by_cases hxy : c x y = 0
    ·rw [if_pos hxy] at h1
     rw [h.eq_left z hxy]
     by_cases hyz : c y z = 0
     ·rw [if_pos hyz] at h2 ⊢
      exact ih b d h1 h2
     ·rw [if_neg hyz] at h2 ⊢
      exact h2
    ·rw [if_neg hxy] at h1
     have h3 : c y z ≤ 0 := by
      by_cases hyz : c y z = 0
      ·omega
      ·rw [if_neg hyz] at h2;exact h2
     have h4 := h.lt_le (show c x y < 0 by omega) h3
     rw [if_neg (by omega)]
     omega
theorem lexC_eq (hc : ∀ a b,c a b = 0 → a = b) : ∀ a b,lexC c a b = 0 → a = b := by
 intro a
 induction a with
 | nil => intro b h;cases b with | nil => rfl | cons => simp [lexC] at h
 | cons x a ih =>
  intro b h
  cases b with
  | nil => simp [lexC] at h
  | cons y b =>
   simp only [lexC] at h
   by_cases h0 : c x y = 0
   ·rw [if_pos h0] at h
    rw [hc _ _ h0,ih _ h]
   ·rw [if_neg h0] at h
    exact absurd h h0
def cmpB (a b : List UInt8) : Int := lexC (fun x y : UInt8 => cmpI x.toNat y.toNat) a b
theorem cmpB_law : CmpLaw cmpB := lexC_law (cmpI_law.on fun x : UInt8 => (x.toNat : Int))
theorem cmpB_eq {a b : List UInt8} (h : cmpB a b = 0) : a = b := lexC_eq (fun x y hxy => by have := cmpI_eq.1 hxy;exact UInt8.toNat_inj.1 (by omega)) a b h
theorem compareBytes_eq (a b : List UInt8) : Lib.compareBytes a b = cmpB a b := by
 unfold cmpB
 induction a generalizing b with
 | nil => cases b <;> rfl
 | cons x a ih =>
  cases b with
  | nil => rfl
  | cons y b =>
   have e : lexC (fun x y : UInt8 => cmpI x.toNat y.toNat) (x :: a) (y :: b) = if cmpI x.toNat y.toNat = 0 then lexC (fun x y : UInt8 => cmpI x.toNat y.toNat) a b else cmpI x.toNat y.toNat := rfl
   rw [e,← ih b]
   simp only [Lib.compareBytes,UInt8.lt_iff_toNat_lt]
   by_cases h1 : x.toNat < y.toNat
   ·have h3 : cmpI x.toNat y.toNat = -1 := by unfold cmpI;rw [if_pos (by omega)]
    rw [if_pos h1,h3,if_neg (by omega)]
   ·by_cases h2 : y.toNat < x.toNat
    ·have h3 : cmpI x.toNat y.toNat = 1 := by unfold cmpI;rw [if_neg (by omega),if_pos (by omega)]
     rw [if_neg h1,if_pos h2,h3,if_neg (by omega)]
    ·have h3 : cmpI x.toNat y.toNat = 0 := by unfold cmpI;rw [if_neg (by omega),if_neg (by omega)]
     rw [if_neg h1,if_neg h2,h3,if_pos rfl]
end Go.Proofs.Ythmbfcfomcaaaaa.Cmp
end
section
namespace Go.Proofs.Ythmbfcfomcaaaaa.Z
open Go.RowKit Go.Proofs.YthmbfcfomcaaaaaW.PrintWords Go.Proofs.YthmbfcfomcaaaaaW.PrintLast Go.Proofs.YthmbfcfomcaaaaaW.PrintMore Go.Proofs.Ythmbfcfomcaaaaa.Cmp
theorem wrap_id {x : Int} (h0 : -9223372036854775808 ≤ x) (h1 : x ≤ 9223372036854775807) : wrap64 x = x := by unfold wrap64;omega
theorem wrap_succ {n : Nat} {m : Nat} (h : n < m) (hm : m ≤ 9223372036854775807) : wrap64 ((n : Int) + 1) = ((n + 1 : Nat) : Int) := by rw [wrap_id (by omega) (by omega)];omega
def b2i (b : Bool) : Int := if b then 1 else 0
def kcmp (a b : S66) : Int := if a.f0 = 1 then cmpI (b2i a.f1) (b2i b.f1) else if a.f0 = 2 then cmpI a.f2 b.f2 else if a.f0 = 3 then cmpB a.f3.data.toList b.f3.data.toList else 0
def vcmp (a b : S66) : Int := if a.f0 = b.f0 then kcmp a b else cmpI a.f0 b.f0
theorem vcmp_law : CmpLaw vcmp := by
 have anti : ∀ a b,vcmp b a = - vcmp a b := by
  intro a b
  unfold vcmp
  by_cases h : a.f0 = b.f0
  ·rw [if_pos h,if_pos h.symm]
   unfold kcmp
   rw [← h]
   by_cases h1 : a.f0 = 1
   ·rw [if_pos h1,if_pos h1];exact cmpI_law.anti _ _
   ·by_cases h2 : a.f0 = 2
    ·rw [if_neg h1,if_neg h1,if_pos h2,if_pos h2];exact cmpI_law.anti _ _
    ·by_cases h3 : a.f0 = 3
     ·rw [if_neg h1,if_neg h1,if_neg h2,if_neg h2,if_pos h3,if_pos h3];exact cmpB_law.anti _ _
     ·rw [if_neg h1,if_neg h1,if_neg h2,if_neg h2,if_neg h3,if_neg h3];rfl
  ·rw [if_neg h,if_neg (fun e => h e.symm)];exact cmpI_law.anti _ _
 refine ⟨fun a b => ?_,anti,fun a b d h1 h2 => ?_⟩
 ·unfold vcmp kcmp
  repeat' split
  all_goals first | exact cmpI_law.lo _ _ | exact cmpB_law.lo _ _ | omega
 ·unfold vcmp at *
  by_cases hab : a.f0 = b.f0
  ·rw [if_pos hab] at h1
   by_cases hbd : b.f0 = d.f0
   ·rw [if_pos hbd] at h2
    rw [if_pos (hab.trans hbd)]
    unfold kcmp at *
    rw [← hab] at h2
    by_cases k1 : a.f0 = 1
    ·rw [if_pos k1] at h1 h2 ⊢;exact cmpI_law.le _ _ _ h1 h2
    ·by_cases k2 : a.f0 = 2
     ·rw [if_neg k1,if_pos k2] at h1 h2 ⊢;exact cmpI_law.le _ _ _ h1 h2
     ·by_cases k3 : a.f0 = 3
      ·rw [if_neg k1,if_neg k2,if_pos k3] at h1 h2 ⊢;exact cmpB_law.le _ _ _ h1 h2
      ·rw [if_neg k1,if_neg k2,if_neg k3];omega
   ·rw [if_neg hbd] at h2
    rw [if_neg (fun e => hbd (hab.symm.trans e)),hab]
    exact h2
  ·rw [if_neg hab] at h1
   by_cases hbd : b.f0 = d.f0
   ·rw [if_neg (fun e => hab (e.trans hbd.symm)),← hbd]
    exact h1
   ·rw [if_neg hbd] at h2
    have n1 : cmpI a.f0 b.f0 ≠ 0 := fun e => hab (cmpI_eq.1 e)
    have h3 := cmpI_law.lt_le (show cmpI a.f0 b.f0 < 0 by omega) h2
    rw [if_neg (fun e => by have := cmpI_eq.2 e;omega)]
    omega
def rcmp (a b : List S66) : Int := lexC vcmp a b
theorem rcmp_law : CmpLaw rcmp := lexC_law vcmp_law
theorem isNaN_f (x : Int) : cmp_isNaN_125.f x = some false := by unfold cmp_isNaN_125.f;simp
theorem isNaN_g (x : Int) : cmp_isNaN_126.f x = some false := by unfold cmp_isNaN_126.f;simp
theorem cmp_f (a b : Int) : cmp_Compare_119.f a b = some (cmpI a b) := by
 unfold cmp_Compare_119.f cmpI
 rw [isNaN_f,isNaN_f]
 simp only [Option.bind_some,Bool.false_eq_true,if_false,gt_iff_lt]
 repeat' split
 all_goals first | rfl | omega
theorem cmp_g (a b : Int) : cmp_Compare_121.f a b = some (cmpI a b) := by
 unfold cmp_Compare_121.f cmpI
 rw [isNaN_g,isNaN_g]
 simp only [Option.bind_some,Bool.false_eq_true,if_false,gt_iff_lt]
 repeat' split
 all_goals first | rfl | omega
theorem truth_f (b : Bool) : value_truth.f b = some (b2i b) := by cases b <;> rfl
theorem vcmp_f (a b : S66) : value_Compare.f a.f0 a.f1 a.f2 a.f3 b.f0 b.f1 b.f2 b.f3 = some (vcmp a b) := by
 unfold value_Compare.f vcmp kcmp
 rw [truth_f,truth_f,cmp_g]
 simp only [Option.bind_some,cmp_f,strings_Compare.f,compareBytes_eq]
 repeat' split
 all_goals rfl
theorem rd_nat (xs : List S66) (i : Nat) : q0f xs (i : Int) = xs.getD i z66 := rfl
theorem rd_get {xs : List S66} {i : Nat} (h : i < xs.length) : q0f xs (i : Int) = xs[i] := by rw [rd_nat];simp [List.getD,List.getElem?_eq_getElem h]
theorem drop_rd {xs : List S66} {i : Nat} (h : i < xs.length) : xs.drop i = q0f xs (i : Int) :: xs.drop (i + 1) := by rw [rd_get h];exact List.drop_eq_getElem_cons h
theorem compareFunc_l0 (x0 x1 : List S66) (hl : x0.length ≤ 9223372036854775807) : ∀ d i k,x0.length - i = d → i ≤ x0.length → i ≤ x1.length → d < k → slices_CompareFunc.l0 k x0 x1 x0 (x0.length : Int) (i : Int) = some (rcmp (x0.drop i) (x1.drop i)) := by
 intro d
 induction d with
 | zero =>
  intro i k hd hi hi1 hk
  obtain ⟨k,rfl⟩ : ∃ m,k = m + 1 := ⟨k - 1,by omega⟩
  simp only [slices_CompareFunc.l0]
  rw [if_neg (by omega)]
  have e0 : x0.drop i = [] := List.drop_eq_nil_of_le (by omega)
  rw [e0]
  by_cases h : i < x1.length
  ·rw [if_pos (by omega),drop_rd h];rfl
  ·rw [if_neg (by omega),List.drop_eq_nil_of_le (by omega)];rfl
 | succ d ih =>
  intro i k hd hi hi1 hk
  obtain ⟨k,rfl⟩ : ∃ m,k = m + 1 := ⟨k - 1,by omega⟩
  have hlt : i < x0.length := by omega
  simp only [slices_CompareFunc.l0]
  rw [if_pos (by omega),if_pos (by omega),if_pos (by omega),drop_rd hlt]
  by_cases h : i < x1.length
  ·rw [if_neg (by omega),if_pos (by omega),vcmp_f,Option.bind_some,drop_rd h]
   by_cases h0 : vcmp (q0f x0 i) (q0f x1 i) = 0
   ·rw [if_pos h0,wrap_succ hlt hl,ih (i + 1) k (by omega) (by omega) (by omega) (by omega)]
    simp [rcmp,lexC,h0]
   ·rw [if_neg h0]
    simp [rcmp,lexC,h0]
  ·rw [if_pos (by omega),List.drop_eq_nil_of_le (show x1.length ≤ i by omega)]
   rfl
theorem rowCompare_f (a b : List S66) (ha : a.length ≤ 9223372036854775807) (k : Nat) (hk : a.length < k) : row_Compare.f k a b = some (rcmp a b) := by
 unfold row_Compare.f slices_CompareFunc.f
 have h := compareFunc_l0 a b ha a.length 0 k (by omega) (by omega) (by omega) hk
 rw [show ((0 : Nat) : Int) = 0 from rfl] at h
 rw [h]
 rfl
end Go.Proofs.Ythmbfcfomcaaaaa.Z
end
section
namespace Go.Proofs.Ythmbfcfomcaaaaa.Z
set_option linter.unusedVariables false
set_option linter.unusedSimpArgs false
open Go.RowKit Go.Proofs.YthmbfcfomcaaaaaW.PrintWords Go.Proofs.YthmbfcfomcaaaaaW.PrintLast Go.Proofs.YthmbfcfomcaaaaaW.PrintMore Go.Proofs.Ythmbfcfomcaaaaa.Cmp
structure Ent where
 A : Option Addr
 c : Nat
 row : List S66
 many : Int
inductive Tr where
 | nil
 | node (b : Nat) (e : Ent) (l r : Tr) (h : Int)
namespace Tr
def ptr : Tr → Value
 | nil => .pointer none
 | node b _ _ _ _ => .pointer (some ⟨b,0,none⟩)
def items : Tr → List (Nat × Ent)
 | nil => []
 | node b e l r _ => l.items ++ (b,e) :: r.items
def high : Tr → Int
 | nil => 0
 | node _ _ _ _ h => h
def size (t : Tr) : Nat := t.items.length
def Hok : Tr → Prop
 | nil => True
 | node _ _ l r h => 1 ≤ h ∧ h ≤ l.size + r.size + 1 ∧ l.Hok ∧ r.Hok
end Tr
def idsL (l : List (Nat × Ent)) : List Nat := l.map Prod.fst
def entsL (l : List (Nat × Ent)) : List Ent := l.map Prod.snd
theorem idsL_app (a b : List (Nat × Ent)) : idsL (a ++ b) = idsL a ++ idsL b := by simp [idsL]
theorem entsL_app (a b : List (Nat × Ent)) : entsL (a ++ b) = entsL a ++ entsL b := by simp [entsL]
def Srt (L : List Ent) : Prop := L.Pairwise (fun a b => rcmp a.row b.row < 0)
namespace Tr
def ids (t : Tr) : List Nat := idsL t.items
def ents (t : Tr) : List Ent := entsL t.items
theorem ids_nil : ids nil = [] := rfl
theorem q0t (b e l r h) : ids (node b e l r h) = l.ids ++ b :: r.ids := by simp [ids,items,idsL]
theorem ents_nil : ents nil = [] := rfl
theorem ents_node (b e l r h) : ents (node b e l r h) = l.ents ++ e :: r.ents := by simp [ents,items,entsL]
theorem size_nil : size nil = 0 := rfl
theorem size_node (b e l r h) : size (node b e l r h) = l.size + r.size + 1 := by simp [size,items];omega
theorem size_ents (t : Tr) : t.ents.length = t.size := by simp [ents,entsL,size]
theorem Hok.bounds : ∀ {t : Tr},t.Hok → 0 ≤ t.high ∧ t.high ≤ t.size
 | nil,_ => ⟨Int.le_refl _,Int.le_refl _⟩
 | node b e l r h,⟨h1,h2,_,_⟩ => by
  rw [size_node]
  show 0 ≤ h ∧ h ≤ _
  omega
theorem Hok.pos {t : Tr} (h : t.Hok) (hp : 0 < t.high) : ∃ b e l r k,t = node b e l r k := by
 cases t with
 | nil => exact absurd hp (by show ¬ (0 : Int) < 0;omega)
 | node b e l r k => exact ⟨_,_,_,_,_,rfl⟩
end Tr
theorem Srt.app {a b : List Ent} {e : Ent} (h : Srt (a ++ e :: b)) : Srt a ∧ Srt b ∧ (∀ x ∈ a,rcmp x.row e.row < 0) ∧ (∀ x ∈ b,rcmp e.row x.row < 0) := by
 unfold Srt at *
 rw [List.pairwise_append] at h
 obtain ⟨h1,h2,h3⟩ := h
 rw [List.pairwise_cons] at h2
 exact ⟨h1,h2.2,fun x hx => h3 x hx e (by simp),h2.1⟩
def ahead (r : List S66) (L : List Ent) : List Ent := L.filter (fun x => decide (rcmp x.row r < 0))
def behind (r : List S66) (L : List Ent) : List Ent := L.filter (fun x => !decide (rcmp x.row r < 0))
def others (r : List S66) (L : List Ent) : List Ent := L.filter (fun x => !decide (rcmp r x.row = 0))
theorem rcmp_anti (a b : List S66) : rcmp b a = - rcmp a b := rcmp_law.anti _ _
theorem filter_all {α : Type} {p : α → Bool} : ∀ {l : List α},(∀ x ∈ l,p x = true) → l.filter p = l := fun h => List.filter_eq_self.2 h
theorem filter_none {α : Type} {p : α → Bool} : ∀ {l : List α},(∀ x ∈ l,p x = false) → l.filter p = [] := fun h => List.filter_eq_nil_iff.2 (fun x hx => by simp [h x hx])
theorem ins_left {a b : List Ent} {n : Ent} (r : List S66) (h : Srt (a ++ n :: b)) (hc : rcmp r n.row < 0) : ahead r (a ++ n :: b) = ahead r a ∧ behind r (a ++ n :: b) = behind r a ++ n :: b := by
 obtain ⟨_,_,h3,h4⟩ := h.app
 have k1 : ¬ rcmp n.row r < 0 := by rw [rcmp_anti];omega
 have k2 : ∀ x ∈ b,¬ rcmp x.row r < 0 := fun x hx => by
  have := rcmp_law.lt_le hc (Int.le_of_lt (h4 x hx))
  rw [rcmp_anti];omega
 unfold ahead behind
 rw [List.filter_append,List.filter_append,List.filter_cons,List.filter_cons,filter_none (l := b) (fun x hx => by simpa using k2 x hx),filter_all (l := b) (fun x hx => by simpa using k2 x hx)]
 simp [k1]
theorem ins_right {a b : List Ent} {n : Ent} (r : List S66) (h : Srt (a ++ n :: b)) (hc : 0 < rcmp r n.row) : ahead r (a ++ n :: b) = a ++ n :: ahead r b ∧ behind r (a ++ n :: b) = behind r b := by
 obtain ⟨_,_,h3,h4⟩ := h.app
 have k1 : rcmp n.row r < 0 := by rw [rcmp_anti];omega
 have k2 : ∀ x ∈ a,rcmp x.row r < 0 := fun x hx => rcmp_law.lt_le (h3 x hx) (Int.le_of_lt k1)
 unfold ahead behind
 rw [List.filter_append,List.filter_append,List.filter_cons,List.filter_cons,filter_all (l := a) (fun x hx => by simpa using k2 x hx),filter_none (l := a) (fun x hx => by simpa using k2 x hx)]
 simp [k1]
theorem oth_left {a b : List Ent} {n : Ent} (r : List S66) (h : Srt (a ++ n :: b)) (hc : rcmp r n.row < 0) : others r (a ++ n :: b) = others r a ++ n :: b := by
 obtain ⟨_,_,h3,h4⟩ := h.app
 have k2 : ∀ x ∈ b,¬ rcmp r x.row = 0 := fun x hx => by
  have := rcmp_law.lt_le hc (Int.le_of_lt (h4 x hx))
  omega
 unfold others
 rw [List.filter_append,List.filter_cons,filter_all (l := b) (fun x hx => by simpa using k2 x hx)]
 have : ¬ rcmp r n.row = 0 := by omega
 simp [this]
theorem oth_right {a b : List Ent} {n : Ent} (r : List S66) (h : Srt (a ++ n :: b)) (hc : 0 < rcmp r n.row) : others r (a ++ n :: b) = a ++ n :: others r b := by
 obtain ⟨_,_,h3,h4⟩ := h.app
 have k1 : rcmp n.row r < 0 := by rw [rcmp_anti];omega
 have k2 : ∀ x ∈ a,¬ rcmp r x.row = 0 := fun x hx => by
  have := rcmp_law.lt_le (h3 x hx) (Int.le_of_lt k1)
  rw [rcmp_anti] at this
  omega
 unfold others
 rw [List.filter_append,List.filter_cons,filter_all (l := a) (fun x hx => by simpa using k2 x hx)]
 have : ¬ rcmp r n.row = 0 := by rw [rcmp_anti];omega
 simp [this]
theorem oth_here {a b : List Ent} {n : Ent} (r : List S66) (h : Srt (a ++ n :: b)) (hc : rcmp r n.row = 0) : others r (a ++ n :: b) = a ++ b := by
 obtain ⟨_,_,h3,h4⟩ := h.app
 have e (x : List S66) : rcmp r x = rcmp n.row x := rcmp_law.eq_left x hc
 unfold others
 rw [List.filter_append,List.filter_cons,filter_all (l := a) (fun x hx => by have := h3 x hx;rw [rcmp_anti] at this;have := e x.row;simp;omega),filter_all (l := b) (fun x hx => by have := h4 x hx;have := e x.row;simp;omega)]
 simp [hc]
end Go.Proofs.Ythmbfcfomcaaaaa.Z
end
section
namespace Go.Proofs.Ythmbfcfomcaaaaa.Z
set_option linter.unusedVariables false
set_option linter.unusedSimpArgs false
open Go.RowKit Go.Proofs.YthmbfcfomcaaaaaW.PrintWords Go.Proofs.YthmbfcfomcaaaaaW.PrintLast Go.Proofs.YthmbfcfomcaaaaaW.PrintMore Go.Proofs.Ythmbfcfomcaaaaa.Cmp
structure Ch (S : Nat → Prop) (w w' : World) : Prop where
 os : w'.os = w.os
 tape : w'.tape = w.tape
 output : w'.output = w.output
 size : w.heap.size ≤ w'.heap.size
 block : ∀ k,k < w.heap.size → ¬ S k → w'.heap[k]? = w.heap[k]?
section
variable {S S2 : Nat → Prop} {w w1 w2 w3 : World}
theorem Ch.refl (S : Nat → Prop) (w : World) : Ch S w w := ⟨rfl,rfl,rfl,Nat.le_refl _,fun _ _ _ => rfl⟩
theorem Ch.of_below (h : Below w.heap.size w w1) : Ch S w w1 := ⟨h.os,h.tape,h.output,h.size,fun k hk _ => h.block k hk⟩
theorem Ch.mono (h : Ch S w w1) (hs : ∀ k,S k → S2 k) : Ch S2 w w1 := ⟨h.os,h.tape,h.output,h.size,fun k hk hn => h.block k hk (fun h2 => hn (hs k h2))⟩
theorem Ch.then_ (h : Ch S w w1) (k : Ch S2 w1 w2) (hs : ∀ k,S2 k → S k ∨ w.heap.size ≤ k) : Ch S w w2 :=
 ⟨k.os.trans h.os,k.tape.trans h.tape,k.output.trans h.output,Nat.le_trans h.size k.size,fun i hi hn =>
  (k.block i (Nat.lt_of_lt_of_le hi h.size) (fun h2 => (hs i h2).elim hn (fun h3 => by omega))).trans (h.block i hi hn)⟩
theorem Ch.below (h : Ch S w w1) (k : Below w1.heap.size w1 w2) : Ch S w w2 := h.then_ (Ch.of_below (S := fun _ => False) k) (fun _ hk => hk.elim)
theorem Ch.drew (h : Ch S w w1) : Ch S w w1.drew := ⟨h.os,h.tape,h.output,h.size,h.block⟩
theorem Ch.drewN (h : Ch S w w1) (n : Nat) : Ch S w (w1.drewN n) := ⟨h.os,h.tape,h.output,h.size,h.block⟩
theorem Ch.alloc (h : Ch S w w1) (o : Obj) : Ch S w (w1.alloc o) := h.below (q0b (Below.refl _ _) o)
theorem Ch.setCell (h : Ch S w w1) {p : Addr} (hp : S p.block ∨ w.heap.size ≤ p.block) (u : Value) : Ch S w (w1.setCell p u) :=
 h.then_ (S2 := fun k => k = p.block) ⟨rfl,rfl,rfl,by simp [World.setCell],fun i _ hn => Below.heap_setCell w1 p u i hn⟩ (fun k hk => by rw [hk];exact hp)
theorem Ch.toBelow (h : Ch S w w1) {B : Nat} (hB : B ≤ w.heap.size) (hS : ∀ k,S k → B ≤ k) : Below B w w1 :=
 ⟨h.os,h.tape,h.output,h.size,fun k hk => h.block k (by omega) (fun hs => by have := hS k hs;omega)⟩
theorem Ch.blk (h : Ch S w w1) {g : Nat} {o : Obj} (hg : w.heap[g]? = some o) (hn : ¬ S g) : w1.heap[g]? = some o := (h.block g (blk_lt hg) hn).trans hg
theorem Ch.same (h : Ch (fun _ => False) w w1) : Below w.heap.size w w1 := h.toBelow (Nat.le_refl _) (fun _ hk => hk.elim)
end
structure EntIn (w : World) (D : Nat → Prop) (e : Ent) : Prop where
 cap : e.row.length ≤ e.c
 row : Kd.F k66 w D e.A e.row.length e.row
theorem EntIn.step {w w1 : World} {D : Nat → Prop} {e : Ent} (h : EntIn w D e) (hk : ∀ k,D k → k < w.heap.size → w1.heap[k]? = w.heap[k]?) : EntIn w1 D e := ⟨h.cap,Kd.F_step h.row hk⟩
theorem EntIn.mono {w : World} {D D' : Nat → Prop} {e : Ent} (h : EntIn w D e) (hk : ∀ k,D k → D' k) : EntIn w D' e := ⟨h.cap,Kd.F_mono h.row hk⟩
theorem EntIn.bound {w : World} {D : Nat → Prop} {e : Ent} (h : EntIn w D e) : EntIn w (fun k => D k ∧ k < w.heap.size) e := ⟨h.cap,Kd.F_bound h.row⟩
def ncells (e : Ent) (l r : Tr) (h : Int) : Array Value := #[.slice e.A e.row.length e.c,.int .i64 e.many,l.ptr,r.ptr,.int .i64 h]
def Tr.In (w : World) (D : Nat → Prop) : Tr → Prop
 | .nil => True
 | .node b e l r h => w.heap[b]? = some (.cells (ncells e l r h) 90 (0,0)) ∧ EntIn w D e ∧ l.In w D ∧ r.In w D
theorem Tr.In.lt {w : World} {D : Nat → Prop} : ∀ {t : Tr},t.In w D → ∀ k ∈ t.ids,k < w.heap.size
 | .nil,_,k,hk => by simp [Tr.ids_nil] at hk
 | .node b e l r h,⟨h0,_,hl,hr⟩,k,hk => by
  rw [Tr.q0t] at hk
  rcases List.mem_append.1 hk with h1 | h1
  ·exact Tr.In.lt hl k h1
  ·rcases List.mem_cons.1 h1 with h2 | h2
   ·subst h2;exact blk_lt h0
   ·exact Tr.In.lt hr k h2
theorem Tr.In.step {w w1 : World} {D : Nat → Prop} : ∀ {t : Tr},t.In w D → (∀ k ∈ t.ids,w1.heap[k]? = w.heap[k]?) → (∀ k,D k → k < w.heap.size → w1.heap[k]? = w.heap[k]?) → t.In w1 D
 | .nil,_,_,_ => trivial
 | .node b e l r h,⟨h0,he,hl,hr⟩,hi,hd => by
  rw [Tr.q0t] at hi
  exact ⟨(hi b (by simp)).trans h0,he.step hd,hl.step (fun k hk => hi k (by simp [hk])) hd,hr.step (fun k hk => hi k (by simp [hk])) hd⟩
theorem Tr.In.mono {w : World} {D D' : Nat → Prop} : ∀ {t : Tr},t.In w D → (∀ k,D k → D' k) → t.In w D'
 | .nil,_,_ => trivial
 | .node _ _ _ _ _,⟨h0,he,hl,hr⟩,hd => ⟨h0,he.mono hd,hl.mono hd,hr.mono hd⟩
theorem Tr.In.bound {w : World} {D : Nat → Prop} : ∀ {t : Tr},t.In w D → t.In w (fun k => D k ∧ k < w.heap.size)
 | .nil,_ => trivial
 | .node _ _ _ _ _,⟨h0,he,hl,hr⟩ => ⟨h0,he.bound,hl.bound,hr.bound⟩
theorem Tr.In.keep {w w1 : World} {D S : Nat → Prop} {t : Tr} (h : t.In w D) (hc : Ch S w w1) (hi : ∀ k ∈ t.ids,¬ S k) (hd : ∀ k,D k → ¬ S k) : t.In w1 D :=
 h.step (fun k hk => hc.block k (h.lt k hk) (hi k hk)) (fun k hk hlt => hc.block k hlt (hd k hk))
theorem Tr.In.below {w w1 : World} {D : Nat → Prop} {t : Tr} (h : t.In w D) (hb : Below w.heap.size w w1) : t.In w1 D :=
 h.keep (Ch.of_below (S := fun _ => False) hb) (fun _ _ hk => hk) (fun _ _ hk => hk)
theorem Tr.In.item {w : World} {D : Nat → Prop} : ∀ {t : Tr},t.In w D → ∀ x ∈ t.items,EntIn w D x.2
 | .nil,_,x,hx => by simp [Tr.items] at hx
 | .node b e l r h,⟨h0,he,hl,hr⟩,x,hx => by
  simp only [Tr.items] at hx
  rcases List.mem_append.1 hx with h1 | h1
  ·exact Tr.In.item hl x h1
  ·rcases List.mem_cons.1 h1 with h2 | h2
   ·subst h2;exact he
   ·exact Tr.In.item hr x h2
structure NdIn (w : World) (D : Nat → Prop) (t : Tr) : Prop where
 inn : t.In w D
 nd : t.ids.Nodup
 dis : ∀ k,D k → k ∉ t.ids
theorem NdIn.left {w : World} {D : Nat → Prop} {b : Nat} {e : Ent} {l r : Tr} {h : Int} (k : NdIn w D (.node b e l r h)) : NdIn w D l := by
 refine ⟨k.inn.2.2.1,?_,fun x hx hm => k.dis x hx (by rw [Tr.q0t];simp [hm])⟩
 have := k.nd
 rw [Tr.q0t] at this
 exact (List.nodup_append.1 this).1
theorem NdIn.right {w : World} {D : Nat → Prop} {b : Nat} {e : Ent} {l r : Tr} {h : Int} (k : NdIn w D (.node b e l r h)) : NdIn w D r := by
 refine ⟨k.inn.2.2.2,?_,fun x hx hm => k.dis x hx (by rw [Tr.q0t];simp [hm])⟩
 have := k.nd
 rw [Tr.q0t] at this
 exact (List.nodup_cons.1 (List.nodup_append.1 this).2.1).2
theorem NdIn.root {w : World} {D : Nat → Prop} {b : Nat} {e : Ent} {l r : Tr} {h : Int} (k : NdIn w D (.node b e l r h)) : b ∉ l.ids ∧ b ∉ r.ids ∧ (∀ x ∈ l.ids,x ∉ r.ids) ∧ ¬ D b := by
 have h1 := k.nd
 rw [Tr.q0t] at h1
 have h2 := List.nodup_append.1 h1
 have h3 := List.nodup_cons.1 h2.2.1
 refine ⟨fun hb => h2.2.2 b hb b (by simp) rfl,h3.1,fun x hx hr => h2.2.2 x hx x (by simp [hr]) rfl,fun hd => k.dis b hd (by rw [Tr.q0t];simp)⟩
theorem quiet_l {P : Program} {f : FuncId} {args : Array Value} {w : World} {n : Nat} {v : Value} (h : Calls P f args (w.drewN n) fun e w' => e = .returned v ∧ w.drewN n = w') : Calls P f args (w.drewN n) fun e w'' => e = .returned v ∧ ∃ m,w'' = w.drewN m :=
 h.mono fun _ _ ⟨he,hm⟩ => ⟨he,n,hm.symm⟩
theorem still_l {P : Program} {f : FuncId} {args : Array Value} {w : World} {v : Value} (h : Calls P f args w fun e w' => e = .returned v ∧ w = w') : Calls P f args w fun e w'' => e = .returned v ∧ w'' = w :=
 h.mono fun _ _ ⟨he,hm⟩ => ⟨he,hm.symm⟩
theorem ptr_case (t : Tr) : ∃ q,t.ptr = .pointer q := by cases t <;> exact ⟨_,rfl⟩
end Go.Proofs.Ythmbfcfomcaaaaa.Z
end
section
namespace Go.Proofs.Ythmbfcfomcaaaaa.Z
set_option linter.unusedVariables false
set_option linter.unusedSimpArgs false
open Go.RowKit Go.Proofs.YthmbfcfomcaaaaaW.PrintWords Go.Proofs.YthmbfcfomcaaaaaW.PrintLast Go.Proofs.YthmbfcfomcaaaaaW.PrintMore Go.Proofs.Ythmbfcfomcaaaaa.Cmp
set_option maxHeartbeats 2000000 in
set_option maxRecDepth 100000 in
theorem nd_height {D : Nat → Prop} (t : Tr) (w : World) (h : t.In w D) : Calls Try.prog 123 #[t.ptr] w fun e w' => e = .returned (.int .i64 t.high) ∧ w = w' := by
 cases t with
 | nil =>
  show Calls Try.prog 123 #[.pointer none] w _
  go_enter Try.func123,Try.ntmps123
  go_wp2
  go_ret
  exact ⟨rfl,rfl⟩
 | node b e l r k =>
  have c4 := q0d h.1 4
  simp only [ncells,List.getElem?_toArray,List.getElem?_cons_zero,List.getElem?_cons_succ] at c4
  clear h
  show Calls Try.prog 123 #[.pointer (some ⟨b,0,none⟩)] w _
  go_enter Try.func123,Try.ntmps123
  go_wp2
  go_ret
  exact ⟨rfl,rfl⟩
set_option maxHeartbeats 4000000 in
set_option maxRecDepth 100000 in
theorem nd_lean {D : Nat → Prop} (b : Nat) (e : Ent) (l r : Tr) (k d : Int) (w : World) (h : (Tr.node b e l r k).In w D) (hd : l.high - r.high = d) (bl : 0 ≤ l.high ∧ l.high ≤ 4000000000000000000) (br : 0 ≤ r.high ∧ r.high ≤ 4000000000000000000) :
  Calls Try.prog 113 #[.pointer (some ⟨b,0,none⟩)] w fun e w' => e = .returned (.int .i64 d) ∧ ∃ n,w' = w.drewN n := by
 have c2 := q0d h.1 2
 have c3 := q0d h.1 3
 simp only [ncells,List.getElem?_toArray,List.getElem?_cons_zero,List.getElem?_cons_succ] at c2 c3
 obtain ⟨l0,l1⟩ := bl
 obtain ⟨r0,r1⟩ := br
 have HL := Aside0.mk (fun w' (hw : w'.heap = w.heap) => nd_height l w' (h.2.2.1.step (fun k _ => by rw [hw]) (fun k _ _ => by rw [hw])))
 have HR := Aside0.mk (fun w' (hw : w'.heap = w.heap) => nd_height r w' (h.2.2.2.step (fun k _ => by rw [hw]) (fun k _ _ => by rw [hw])))
 have HD := Aside0.mk hd
 clear h hd
 go_enter Try.func113,Try.ntmps113
 go_wp2_with (fail)
 go_quiet ((go_at_call 123;first | exact quiet_l (HL.out _ rfl) | exact quiet_l (HR.out _ rfl)))
 go_wp2_with (fail)
 rw [HD.out]
 go_ret
 exact ⟨rfl,⟨_,rfl⟩⟩
end Go.Proofs.Ythmbfcfomcaaaaa.Z
end
section
namespace Go.Proofs.Ythmbfcfomcaaaaa.Z
set_option linter.unusedVariables false
set_option linter.unusedSimpArgs false
open Go.RowKit Go.Proofs.YthmbfcfomcaaaaaW.PrintWords Go.Proofs.YthmbfcfomcaaaaaW.PrintLast Go.Proofs.YthmbfcfomcaaaaaW.PrintMore Go.Proofs.Ythmbfcfomcaaaaa.Cmp
set_option maxHeartbeats 4000000 in
set_option maxRecDepth 100000 in
theorem nd_set {D : Nat → Prop} (b : Nat) (e : Ent) (l r : Tr) (k m : Int) (w : World) (h : (Tr.node b e l r k).In w D) (bl : 0 ≤ l.high ∧ l.high ≤ 4000000000000000000) (br : 0 ≤ r.high ∧ r.high ≤ 4000000000000000000) (hm : max l.high r.high = m) :
  Calls Try.prog 112 #[.pointer (some ⟨b,0,none⟩)] w fun e' w' => e' = .returned (.tuple #[]) ∧ w'.heap[b]? = some (.cells (ncells e l r (1 + m)) 90 (0,0)) ∧ Ch (fun x => x = b) w w' := by
 have c2 := q0d h.1 2
 have c3 := q0d h.1 3
 simp only [ncells,List.getElem?_toArray,List.getElem?_cons_zero,List.getElem?_cons_succ] at c2 c3
 obtain ⟨l0,l1⟩ := bl
 obtain ⟨r0,r1⟩ := br
 have m0 : 0 ≤ m := by omega
 have m1 : m ≤ 4000000000000000000 := by omega
 have HM := Aside0.mk hm
 have HL := Aside0.mk (fun w' (hw : w'.heap = w.heap) => nd_height l w' (h.2.2.1.step (fun k _ => by rw [hw]) (fun k _ _ => by rw [hw])))
 have HR := Aside0.mk (fun w' (hw : w'.heap = w.heap) => nd_height r w' (h.2.2.2.step (fun k _ => by rw [hw]) (fun k _ _ => by rw [hw])))
 have H0 := Aside0.mk h.1
 clear h hm
 go_enter Try.func112,Try.ntmps112
 go_wp2_with (fail)
 go_still_tail 15,(by kernel_rfl)
 still_call (still_l (HL.out w.drew rfl))
 repeat still_step
 still_call (still_l (HR.out w.drew rfl))
 repeat still_step
 refine wpStill_nil ?_
 change wpList _ _ _ _ _ w.drew
 have H1 : w.drew.heap[b]? = some (.cells (ncells e l r k) 90 (0,0)) := H0.out
 have B1 : Ch (fun x => x = b) w w.drew := (Ch.refl _ w).drew
 clear c2 c3 H0 HL HR
 generalize w.drew = w1 at *
 have z4 := q0e H1 4
 have c4 := q0d H1 4
 simp only [ncells,List.getElem?_toArray,List.getElem?_cons_zero,List.getElem?_cons_succ] at c4
 have HH := Aside0.mk H1
 have BB := Aside0.mk B1
 clear H1 B1
 rw [HM.out]
 go_wp2
 go_end0
 exact ⟨rfl,q0r HH.out 4 _ rfl,BB.out.setCell (p := ⟨b,4,none⟩) (.inl rfl) _⟩
theorem reroot {D : Nat → Prop} {b : Nat} {e : Ent} {l r : Tr} {k k' : Int} {w w' : World} (h : NdIn w D (.node b e l r k)) (hc : w'.heap[b]? = some (.cells (ncells e l r k') 90 (0,0))) (c : Ch (fun x => x = b) w w') : NdIn w' D (.node b e l r k') := by
 obtain ⟨n1,n2,n3,n4⟩ := h.root
 refine ⟨⟨hc,h.inn.2.1.step (fun x hx hlt => c.block x hlt (fun e => n4 (e ▸ hx))),h.left.inn.keep c (fun x hx e => n1 (e ▸ hx)) (fun x hx e => n4 (e ▸ hx)),h.right.inn.keep c (fun x hx e => n2 (e ▸ hx)) (fun x hx e => n4 (e ▸ hx))⟩,?_,fun x hx => ?_⟩
 ·have := h.nd
  rw [Tr.q0t] at this ⊢
  exact this
 ·have := h.dis x hx
  rw [Tr.q0t] at this ⊢
  exact this
theorem mkNd {D : Nat → Prop} {b : Nat} {e : Ent} {l r : Tr} {k : Int} {w : World} (hc : w.heap[b]? = some (.cells (ncells e l r k) 90 (0,0))) (he : EntIn w D e) (hl : l.In w D) (hr : r.In w D) (hn : (l.ids ++ b :: r.ids).Nodup) (hd : ∀ x,D x → x ∉ l.ids ++ b :: r.ids) : NdIn w D (.node b e l r k) :=
 ⟨⟨hc,he,hl,hr⟩,by rw [Tr.q0t];exact hn,fun x hx => by rw [Tr.q0t];exact hd x hx⟩
set_option maxHeartbeats 4000000 in
set_option maxRecDepth 100000 in
theorem nd_turnRight {D : Nat → Prop} (b b1 : Nat) (e e1 : Ent) (ll lr r : Tr) (k k1 m m1 : Int) (w : World) (h : NdIn w D (.node b e (.node b1 e1 ll lr k1) r k))
  (hb0 : 0 ≤ ll.high ∧ ll.high ≤ 1000000000000000000) (hb1 : 0 ≤ lr.high ∧ lr.high ≤ 1000000000000000000) (hb2 : 0 ≤ r.high ∧ r.high ≤ 1000000000000000000) (hm : max lr.high r.high = m) (hm1 : max ll.high (1 + m) = m1) :
  Calls Try.prog 115 #[.pointer (some ⟨b,0,none⟩)] w fun e' w' => e' = .returned (.pointer (some ⟨b1,0,none⟩)) ∧ NdIn w' D (.node b1 e1 ll (.node b e lr r (1 + m)) (1 + m1)) ∧ Ch (fun x => x = b ∨ x = b1) w w' := by
 have H0 := h.inn.1
 have H1 := h.inn.2.2.1.1
 have hnd := h.nd
 simp only [Tr.q0t,List.append_assoc,List.cons_append] at hnd
 have hne : b ≠ b1 := by
  intro e
  subst e
  exact h.root.1 (by rw [Tr.q0t];simp)
 have hne' : b1 ≠ b := fun e => hne e.symm
 have c2 := q0d H0 2
 have d3 := q0d H1 3
 have z2 := q0e H0 2
 have y3 := q0e H1 3
 simp only [ncells,List.getElem?_toArray,List.getElem?_cons_zero,List.getElem?_cons_succ] at c2 d3
 have c2' : w.cell? ⟨b,2,none⟩ = some (.pointer (some ⟨b1,0,none⟩)) := c2
 have HH := Aside0.mk h
 have NE := Aside0.mk hne
 have NE' := Aside0.mk hne'
 have HND := Aside0.mk hnd
 have P0 := Aside0.mk H0
 have P1 := Aside0.mk H1
 have BD := Aside0.mk (And.intro hb0 (And.intro hb1 (And.intro hb2 (And.intro hm hm1))))
 obtain ⟨q,hq⟩ := ptr_case lr
 rw [hq] at d3
 have HQ := Aside0.mk hq
 clear h H0 H1 hnd hb0 hb1 hb2 hm hm1 c2 hq
 go_enter Try.func115,Try.ntmps115
 go_wp2_with (fail)
 have hp : (Tr.node b e lr r k).ptr = .pointer (some ⟨b,0,none⟩) := rfl
 have Q0 : ((w.setCell ⟨b,2,none⟩ (.pointer q)).setCell ⟨b1,3,none⟩ (.pointer (some ⟨b,0,none⟩))).heap[b]? = some (.cells (ncells e lr r k) 90 (0,0)) := by
  refine blk_far (q0r P0.out 2 _ ?_) NE.out _
  rw [← HQ.out]
  rfl
 have Q1 : ((w.setCell ⟨b,2,none⟩ (.pointer q)).setCell ⟨b1,3,none⟩ (.pointer (some ⟨b,0,none⟩))).heap[b1]? = some (.cells (ncells e1 ll (.node b e lr r k) k1) 90 (0,0)) :=
  q0r (blk_far P1.out NE'.out _) 3 _ rfl
 have C2 : Ch (fun x => x = b ∨ x = b1) w ((w.setCell ⟨b,2,none⟩ (.pointer q)).setCell ⟨b1,3,none⟩ (.pointer (some ⟨b,0,none⟩))) :=
  ((Ch.refl _ w).setCell (p := ⟨b,2,none⟩) (.inl (.inl rfl)) _).setCell (p := ⟨b1,3,none⟩) (.inl (.inr rfl)) _
 have HC := Aside0.mk C2
 have R0 := Aside0.mk Q0
 have R1 := Aside0.mk Q1
 clear Q0 Q1 C2 hp z2 y3 d3 c2' hne hne'
 generalize (w.setCell ⟨b,2,none⟩ (.pointer q)).setCell ⟨b1,3,none⟩ (.pointer (some ⟨b,0,none⟩)) = w2 at *
 have h := HH.out
 have hsub : ∀ x,x ∈ ll.ids ++ b1 :: (lr.ids ++ b :: r.ids) → x ∈ (Tr.node b e (Tr.node b1 e1 ll lr k1) r k).ids := fun x hx => by simp only [Tr.q0t,List.append_assoc,List.cons_append];exact hx
 have hD : ∀ x,D x → x ∉ ll.ids ++ b1 :: (lr.ids ++ b :: r.ids) := fun x hx hm => h.dis x hx (hsub x hm)
 have hnd := HND.out
 have e1' := List.nodup_append.1 hnd
 have e2' := List.nodup_cons.1 e1'.2.1
 have nb1 : ∀ x ∈ lr.ids,x ≠ b ∧ x ≠ b1 := fun x hx => ⟨fun e => (List.nodup_append.1 e2'.2).2.2 x hx b (by simp) e,fun e => e2'.1 (by rw [← e];simp [hx])⟩
 have nb2 : ∀ x ∈ r.ids,x ≠ b ∧ x ≠ b1 := fun x hx => ⟨fun e => (List.nodup_cons.1 (List.nodup_append.1 e2'.2).2.1).1 (e ▸ hx),fun e => e2'.1 (by rw [← e];simp [hx])⟩
 have nb0 : ∀ x ∈ ll.ids,x ≠ b ∧ x ≠ b1 := fun x hx => ⟨fun e => e1'.2.2 x hx b (by simp) e,fun e => e1'.2.2 x hx b1 (by simp) e⟩
 have dn : ∀ x,D x → ¬ (x = b ∨ x = b1) := fun x hx e => by
  rcases e with e | e
  ·exact hD x hx (by rw [e];simp)
  ·exact hD x hx (by rw [e];simp)
 have ill := h.left.left.inn.keep HC.out (fun x hx e => e.elim (nb0 x hx).1 (nb0 x hx).2) dn
 have ilr := h.left.right.inn.keep HC.out (fun x hx e => e.elim (nb1 x hx).1 (nb1 x hx).2) dn
 have ir := h.right.inn.keep HC.out (fun x hx e => e.elim (nb2 x hx).1 (nb2 x hx).2) dn
 have ie := h.inn.2.1.step (fun x hx hlt => HC.out.block x hlt (dn x hx))
 have ie1 := h.left.inn.2.1.step (fun x hx hlt => HC.out.block x hlt (dn x hx))
 have N0 := Aside0.mk (mkNd R0.out ie ilr ir e2'.2 (fun x hx hm => hD x hx (by simp only [List.mem_append,List.mem_cons] at hm ⊢;right;right;exact hm)))
 have N1 := Aside0.mk (mkNd (k := k1) R1.out ie1 ill N0.out.inn (by rw [Tr.q0t];exact hnd) (fun x hx => by rw [Tr.q0t];exact hD x hx))
 clear ill ilr ir ie ie1 dn nb0 nb1 nb2 e1' e2' hnd hD hsub h R0 R1 HND HH
 refine (nd_set b e lr r k m w2 N0.out.inn ⟨BD.out.2.1.1,by have := BD.out.2.1.2;omega⟩ ⟨BD.out.2.2.1.1,by have := BD.out.2.2.1.2;omega⟩ BD.out.2.2.2.1).mono ?_
 rintro e' w3 ⟨rfl,hc3,ch3⟩
 have C3 := Aside0.mk (HC.out.then_ ch3 (fun x hx => .inl (.inl hx)))
 have N3 := Aside0.mk (reroot N0.out hc3 ch3)
 have J1 : w3.heap[b1]? = some (.cells (ncells e1 ll (.node b e lr r (1 + m)) k1) 90 (0,0)) := ch3.blk N1.out.inn.1 (fun e => NE'.out e)
 have K1 := Aside0.mk (mkNd J1 (N1.out.inn.2.1.step (fun x hx hlt => ch3.block x hlt (fun e => N0.out.root.2.2.2 (e ▸ hx)))) (N1.out.left.inn.keep ch3 (fun x hx e => N1.out.root.2.2.1 x hx (by rw [e,Tr.q0t];simp)) (fun x hx e => N0.out.root.2.2.2 (e ▸ hx))) N3.out.inn (by have := N1.out.nd;rw [Tr.q0t] at this;exact this) (fun x hx => by have := N1.out.dis x hx;rw [Tr.q0t] at this;exact this))
 clear hc3 ch3 J1 N0 N1 HC N3
 go_wp2_with (fail)
 refine (nd_set b1 e1 ll (.node b e lr r (1 + m)) k1 m1 w3 K1.out.inn ⟨BD.out.1.1,by have := BD.out.1.2;omega⟩ ⟨by have := BD.out;show 0 ≤ 1 + m;omega,by have := BD.out;show 1 + m ≤ _;omega⟩ BD.out.2.2.2.2).mono ?_
 rintro e' w4 ⟨rfl,hc4,ch4⟩
 have N4 := Aside0.mk (reroot K1.out hc4 ch4)
 have C4 := Aside0.mk (C3.out.then_ ch4 (fun x hx => .inl (.inr hx)))
 clear hc4 ch4 K1 C3
 go_wp2_with (fail)
 go_ret
 exact ⟨rfl,N4.out,C4.out⟩
set_option maxHeartbeats 4000000 in
set_option maxRecDepth 100000 in
theorem nd_turnLeft {D : Nat → Prop} (b b1 : Nat) (e e1 : Ent) (l rl rr : Tr) (k k1 m m1 : Int) (w : World) (h : NdIn w D (.node b e l (.node b1 e1 rl rr k1) k))
  (hb0 : 0 ≤ l.high ∧ l.high ≤ 1000000000000000000) (hb1 : 0 ≤ rl.high ∧ rl.high ≤ 1000000000000000000) (hb2 : 0 ≤ rr.high ∧ rr.high ≤ 1000000000000000000) (hm : max l.high rl.high = m) (hm1 : max (1 + m) rr.high = m1) :
  Calls Try.prog 114 #[.pointer (some ⟨b,0,none⟩)] w fun e' w' => e' = .returned (.pointer (some ⟨b1,0,none⟩)) ∧ NdIn w' D (.node b1 e1 (.node b e l rl (1 + m)) rr (1 + m1)) ∧ Ch (fun x => x = b ∨ x = b1) w w' := by
 have H0 := h.inn.1
 have H1 := h.inn.2.2.2.1
 have hnd := h.nd
 simp only [Tr.q0t,List.append_assoc,List.cons_append] at hnd
 have hne : b ≠ b1 := by
  intro e
  subst e
  exact h.root.2.1 (by rw [Tr.q0t];simp)
 have hne' : b1 ≠ b := fun e => hne e.symm
 have c2 := q0d H0 3
 have d3 := q0d H1 2
 have z2 := q0e H0 3
 have y3 := q0e H1 2
 simp only [ncells,List.getElem?_toArray,List.getElem?_cons_zero,List.getElem?_cons_succ] at c2 d3
 have c2' : w.cell? ⟨b,3,none⟩ = some (.pointer (some ⟨b1,0,none⟩)) := c2
 have HH := Aside0.mk h
 have NE := Aside0.mk hne
 have NE' := Aside0.mk hne'
 have HND := Aside0.mk hnd
 have P0 := Aside0.mk H0
 have P1 := Aside0.mk H1
 have BD := Aside0.mk (And.intro hb0 (And.intro hb1 (And.intro hb2 (And.intro hm hm1))))
 obtain ⟨q,hq⟩ := ptr_case rl
 rw [hq] at d3
 have HQ := Aside0.mk hq
 clear h H0 H1 hnd hb0 hb1 hb2 hm hm1 c2 hq
 go_enter Try.func114,Try.ntmps114
 go_wp2_with (fail)
 have Q0 : ((w.setCell ⟨b,3,none⟩ (.pointer q)).setCell ⟨b1,2,none⟩ (.pointer (some ⟨b,0,none⟩))).heap[b]? = some (.cells (ncells e l rl k) 90 (0,0)) := by
  refine blk_far (q0r P0.out 3 _ ?_) NE.out _
  rw [← HQ.out]
  rfl
 have Q1 : ((w.setCell ⟨b,3,none⟩ (.pointer q)).setCell ⟨b1,2,none⟩ (.pointer (some ⟨b,0,none⟩))).heap[b1]? = some (.cells (ncells e1 (.node b e l rl k) rr k1) 90 (0,0)) :=
  q0r (blk_far P1.out NE'.out _) 2 _ rfl
 have C2 : Ch (fun x => x = b ∨ x = b1) w ((w.setCell ⟨b,3,none⟩ (.pointer q)).setCell ⟨b1,2,none⟩ (.pointer (some ⟨b,0,none⟩))) :=
  ((Ch.refl _ w).setCell (p := ⟨b,3,none⟩) (.inl (.inl rfl)) _).setCell (p := ⟨b1,2,none⟩) (.inl (.inr rfl)) _
 have HC := Aside0.mk C2
 have R0 := Aside0.mk Q0
 have R1 := Aside0.mk Q1
 clear Q0 Q1 C2 z2 y3 d3 c2' hne hne'
 generalize (w.setCell ⟨b,3,none⟩ (.pointer q)).setCell ⟨b1,2,none⟩ (.pointer (some ⟨b,0,none⟩)) = w2 at *
 have h := HH.out
 have hsub : ∀ x,x ∈ l.ids ++ b :: (rl.ids ++ b1 :: rr.ids) → x ∈ (Tr.node b e l (Tr.node b1 e1 rl rr k1) k).ids := fun x hx => by simp only [Tr.q0t,List.append_assoc,List.cons_append];exact hx
 have hD : ∀ x,D x → x ∉ l.ids ++ b :: (rl.ids ++ b1 :: rr.ids) := fun x hx hm => h.dis x hx (hsub x hm)
 have hnd := HND.out
 have a1 := List.nodup_append.1 hnd
 have a2 := List.nodup_cons.1 a1.2.1
 have a3 := List.nodup_append.1 a2.2
 have a4 := List.nodup_cons.1 a3.2.1
 have nb0 : ∀ x ∈ l.ids,x ≠ b ∧ x ≠ b1 := fun x hx => ⟨fun e => a1.2.2 x hx b (by simp) e,fun e => a1.2.2 x hx b1 (by simp) e⟩
 have nb1 : ∀ x ∈ rl.ids,x ≠ b ∧ x ≠ b1 := fun x hx => ⟨fun e => a2.1 (by rw [← e];simp [hx]),fun e => a3.2.2 x hx b1 (by simp) e⟩
 have nb2 : ∀ x ∈ rr.ids,x ≠ b ∧ x ≠ b1 := fun x hx => ⟨fun e => a2.1 (by rw [← e];simp [hx]),fun e => a4.1 (e ▸ hx)⟩
 have dn : ∀ x,D x → ¬ (x = b ∨ x = b1) := fun x hx e => by
  rcases e with e | e
  ·exact hD x hx (by rw [e];simp)
  ·exact hD x hx (by rw [e];simp)
 have il := h.left.inn.keep HC.out (fun x hx e => e.elim (nb0 x hx).1 (nb0 x hx).2) dn
 have irl := h.right.left.inn.keep HC.out (fun x hx e => e.elim (nb1 x hx).1 (nb1 x hx).2) dn
 have irr := h.right.right.inn.keep HC.out (fun x hx e => e.elim (nb2 x hx).1 (nb2 x hx).2) dn
 have ie := h.inn.2.1.step (fun x hx hlt => HC.out.block x hlt (dn x hx))
 have ie1 := h.right.inn.2.1.step (fun x hx hlt => HC.out.block x hlt (dn x hx))
 have hn5 : ((l.ids ++ b :: rl.ids) ++ b1 :: rr.ids).Nodup := by simpa using hnd
 have hD5 : ∀ x,D x → x ∉ (l.ids ++ b :: rl.ids) ++ b1 :: rr.ids := fun x hx hm => hD x hx (by simpa using hm)
 have N0 := Aside0.mk (mkNd R0.out ie il irl (List.nodup_append.1 hn5).1 (fun x hx hm => hD5 x hx (List.mem_append_left _ hm)))
 have N1 := Aside0.mk (mkNd (k := k1) R1.out ie1 N0.out.inn irr (by rw [Tr.q0t];exact hn5) (fun x hx => by rw [Tr.q0t];exact hD5 x hx))
 clear il irl irr ie ie1 dn nb0 nb1 nb2 a1 a2 a3 a4 hnd hD hsub h R0 R1 HND HH hn5 hD5
 refine (nd_set b e l rl k m w2 N0.out.inn ⟨BD.out.1.1,by have := BD.out.1.2;omega⟩ ⟨BD.out.2.1.1,by have := BD.out.2.1.2;omega⟩ BD.out.2.2.2.1).mono ?_
 rintro e' w3 ⟨rfl,hc3,ch3⟩
 have C3 := Aside0.mk (HC.out.then_ ch3 (fun x hx => .inl (.inl hx)))
 have N3 := Aside0.mk (reroot N0.out hc3 ch3)
 have J1 : w3.heap[b1]? = some (.cells (ncells e1 (.node b e l rl (1 + m)) rr k1) 90 (0,0)) := ch3.blk N1.out.inn.1 (fun e => NE'.out e)
 have K1 := Aside0.mk (mkNd J1 (N1.out.inn.2.1.step (fun x hx hlt => ch3.block x hlt (fun e => N0.out.root.2.2.2 (e ▸ hx)))) N3.out.inn (N1.out.right.inn.keep ch3 (fun x hx e => N1.out.root.2.2.1 b (by rw [Tr.q0t];simp) (e ▸ hx)) (fun x hx e => N0.out.root.2.2.2 (e ▸ hx))) (by have := N1.out.nd;rw [Tr.q0t] at this;exact this) (fun x hx => by have := N1.out.dis x hx;rw [Tr.q0t] at this;exact this))
 clear hc3 ch3 J1 N0 N1 HC N3
 go_wp2_with (fail)
 refine (nd_set b1 e1 (.node b e l rl (1 + m)) rr k1 m1 w3 K1.out.inn ⟨by have := BD.out;show 0 ≤ 1 + m;omega,by have := BD.out;show 1 + m ≤ _;omega⟩ ⟨BD.out.2.2.1.1,by have := BD.out.2.2.1.2;omega⟩ BD.out.2.2.2.2).mono ?_
 rintro e' w4 ⟨rfl,hc4,ch4⟩
 have N4 := Aside0.mk (reroot K1.out hc4 ch4)
 have C4 := Aside0.mk (C3.out.then_ ch4 (fun x hx => .inl (.inr hx)))
 clear hc4 ch4 K1 C3
 go_wp2_with (fail)
 go_ret
 exact ⟨rfl,N4.out,C4.out⟩
end Go.Proofs.Ythmbfcfomcaaaaa.Z
end
section
namespace Go.Proofs.Ythmbfcfomcaaaaa.Z
set_option linter.unusedVariables false
set_option linter.unusedSimpArgs false
open Go.RowKit Go.Proofs.YthmbfcfomcaaaaaW.PrintWords Go.Proofs.YthmbfcfomcaaaaaW.PrintLast Go.Proofs.YthmbfcfomcaaaaaW.PrintMore Go.Proofs.Ythmbfcfomcaaaaa.Cmp
theorem NdIn.heap {w w' : World} {D : Nat → Prop} {t : Tr} (h : NdIn w D t) (e : w'.heap = w.heap) : NdIn w' D t := ⟨h.inn.step (fun k _ => by rw [e]) (fun k _ _ => by rw [e]),h.nd,h.dis⟩
theorem NdIn.keep {w w1 : World} {D S : Nat → Prop} {t : Tr} (h : NdIn w D t) (hc : Ch S w w1) (hi : ∀ k ∈ t.ids,¬ S k) (hd : ∀ k,D k → ¬ S k) : NdIn w1 D t := ⟨h.inn.keep hc hi hd,h.nd,h.dis⟩
theorem NdIn.below {w w1 : World} {D : Nat → Prop} {t : Tr} (h : NdIn w D t) (hb : Below w.heap.size w w1) : NdIn w1 D t := ⟨h.inn.below hb,h.nd,h.dis⟩
theorem NdIn.set_left {w w1 : World} {D S : Nat → Prop} {b : Nat} {e : Ent} {l l' r : Tr} {k : Int} (h : NdIn w D (.node b e l r k)) (ch : Ch S w w1) (hS : ∀ x,S x → x ∈ l.ids) (hl : NdIn w1 D l') (hsub : ∀ x ∈ l'.ids,x ∈ l.ids ∨ w.heap.size ≤ x) :
  w1.heap[b]? = some (.cells (ncells e l r k) 90 (0,0)) ∧ NdIn (w1.setCell ⟨b,2,none⟩ l'.ptr) D (.node b e l' r k) ∧ Ch (fun x => x = b ∨ S x) w (w1.setCell ⟨b,2,none⟩ l'.ptr) := by
 obtain ⟨n1,n2,n3,n4⟩ := h.root
 have hb := blk_lt h.inn.1
 have c1 : w1.heap[b]? = some (.cells (ncells e l r k) 90 (0,0)) := ch.blk h.inn.1 (fun s => n1 (hS b s))
 have nb : b ∉ l'.ids := fun hm => (hsub b hm).elim n1 (fun hx => by omega)
 have nr : ∀ x ∈ l'.ids,x ∉ r.ids := fun x hx hr => (hsub x hx).elim (fun q => n3 x q hr) (fun q => by have := h.right.inn.lt x hr;omega)
 have dS : ∀ x,D x → ¬ S x := fun x hx s => h.left.dis x hx (hS x s)
 have cb : Ch (fun x => x = b) w1 (w1.setCell ⟨b,2,none⟩ l'.ptr) := (Ch.refl (fun x => x = b) w1).setCell (p := ⟨b,2,none⟩) (.inl rfl) _
 have hr1 := h.right.keep ch (fun x hx s => n3 x (hS x s) hx) dS
 have he1 := h.inn.2.1.step (w1 := w1) (fun x hx hlt => ch.block x hlt (dS x hx))
 refine ⟨c1,⟨⟨q0r c1 2 _ rfl,he1.step (fun x hx hlt => cb.block x hlt (fun q => n4 (q ▸ hx))),hl.inn.keep cb (fun x hx q => nb (q ▸ hx)) (fun x hx q => n4 (q ▸ hx)),hr1.inn.keep cb (fun x hx q => n2 (q ▸ hx)) (fun x hx q => n4 (q ▸ hx))⟩,?_,fun x hx => ?_⟩,?_⟩
 ·rw [Tr.q0t]
  exact List.nodup_append.2 ⟨hl.nd,List.nodup_cons.2 ⟨n2,h.right.nd⟩,fun x hx y hy q => by
   subst q
   rcases List.mem_cons.1 hy with q | q
   ·exact nb (q ▸ hx)
   ·exact nr x hx q⟩
 ·rw [Tr.q0t]
  intro hm
  rcases List.mem_append.1 hm with q | q
  ·exact hl.dis x hx q
  ·rcases List.mem_cons.1 q with q | q
   ·exact n4 (q ▸ hx)
   ·exact h.right.dis x hx q
 ·exact (ch.mono (fun _ q => .inr q)).setCell (p := ⟨b,2,none⟩) (.inl (.inl rfl)) _
theorem NdIn.set_right {w w1 : World} {D S : Nat → Prop} {b : Nat} {e : Ent} {l r r' : Tr} {k : Int} (h : NdIn w D (.node b e l r k)) (ch : Ch S w w1) (hS : ∀ x,S x → x ∈ r.ids) (hr : NdIn w1 D r') (hsub : ∀ x ∈ r'.ids,x ∈ r.ids ∨ w.heap.size ≤ x) :
  w1.heap[b]? = some (.cells (ncells e l r k) 90 (0,0)) ∧ NdIn (w1.setCell ⟨b,3,none⟩ r'.ptr) D (.node b e l r' k) ∧ Ch (fun x => x = b ∨ S x) w (w1.setCell ⟨b,3,none⟩ r'.ptr) := by
 obtain ⟨n1,n2,n3,n4⟩ := h.root
 have hb := blk_lt h.inn.1
 have c1 : w1.heap[b]? = some (.cells (ncells e l r k) 90 (0,0)) := ch.blk h.inn.1 (fun s => n2 (hS b s))
 have nb : b ∉ r'.ids := fun hm => (hsub b hm).elim n2 (fun hx => by omega)
 have nr : ∀ x ∈ l.ids,x ∉ r'.ids := fun x hx hr => (hsub x hr).elim (fun q => n3 x hx q) (fun q => by have := h.left.inn.lt x hx;omega)
 have dS : ∀ x,D x → ¬ S x := fun x hx s => h.right.dis x hx (hS x s)
 have cb : Ch (fun x => x = b) w1 (w1.setCell ⟨b,3,none⟩ r'.ptr) := (Ch.refl (fun x => x = b) w1).setCell (p := ⟨b,3,none⟩) (.inl rfl) _
 have hl1 := h.left.keep ch (fun x hx s => n3 x hx (hS x s)) dS
 have he1 := h.inn.2.1.step (w1 := w1) (fun x hx hlt => ch.block x hlt (dS x hx))
 refine ⟨c1,⟨⟨q0r c1 3 _ rfl,he1.step (fun x hx hlt => cb.block x hlt (fun q => n4 (q ▸ hx))),hl1.inn.keep cb (fun x hx q => n1 (q ▸ hx)) (fun x hx q => n4 (q ▸ hx)),hr.inn.keep cb (fun x hx q => nb (q ▸ hx)) (fun x hx q => n4 (q ▸ hx))⟩,?_,fun x hx => ?_⟩,?_⟩
 ·rw [Tr.q0t]
  exact List.nodup_append.2 ⟨h.left.nd,List.nodup_cons.2 ⟨nb,hr.nd⟩,fun x hx y hy q => by
   subst q
   rcases List.mem_cons.1 hy with q | q
   ·exact n1 (q ▸ hx)
   ·exact nr x hx q⟩
 ·rw [Tr.q0t]
  intro hm
  rcases List.mem_append.1 hm with q | q
  ·exact h.left.dis x hx q
  ·rcases List.mem_cons.1 q with q | q
   ·exact n4 (q ▸ hx)
   ·exact hr.dis x hx q
 ·exact (ch.mono (fun _ q => .inr q)).setCell (p := ⟨b,3,none⟩) (.inl (.inl rfl)) _
theorem Tr.Hok.mk {b : Nat} {e : Ent} {l r : Tr} (hl : l.Hok) (hr : r.Hok) : (Tr.node b e l r (1 + max l.high r.high)).Hok := by
 have h1 := hl.bounds
 have h2 := hr.bounds
 exact ⟨by omega,by omega,hl,hr⟩
theorem Tr.Hok.big {t : Tr} (h : t.Hok) {N : Nat} (hn : t.size ≤ N) : 0 ≤ t.high ∧ t.high ≤ N := by
 have h1 := h.bounds
 omega
structure Evn (w : World) (D : Nat → Prop) (t t' : Tr) (w' : World) : Prop where
 inn : NdIn w' D t'
 items : t'.items = t.items
 hok : t'.Hok
 ch : Ch (fun x => x ∈ t.ids) w w'
theorem ids_of_items {t t' : Tr} (h : t'.items = t.items) : t'.ids = t.ids := by unfold Tr.ids;rw [h]
set_option maxHeartbeats 4000000 in
set_option maxRecDepth 100000 in
theorem nd_evenE {D : Nat → Prop} (b : Nat) (e : Ent) (l r : Tr) (k d : Int) (w : World) (h : NdIn w D (.node b e l r k)) (hl : l.Hok) (hr : r.Hok) (hs : l.size + r.size ≤ 500000000000000000) (hd : l.high - r.high = d) (d1 : d ≤ 1) (d2 : -1 ≤ d) :
  Calls Try.prog 94 #[.pointer (some ⟨b,0,none⟩)] w fun e' w' => ∃ t',e' = .returned t'.ptr ∧ Evn w D (.node b e l r k) t' w' := by
 have bl := hl.big (N := 500000000000000000) (by omega)
 have br := hr.big (N := 500000000000000000) (by omega)
 have HH := Aside0.mk h
 have HL := Aside0.mk hl
 have HR := Aside0.mk hr
 have HD := Aside0.mk hd
 have BL := Aside0.mk (show 0 ≤ l.high ∧ l.high ≤ 4000000000000000000 by omega)
 have BR := Aside0.mk (show 0 ≤ r.high ∧ r.high ≤ 4000000000000000000 by omega)
 have q1 : decide (1 < d) = false := decide_eq_false (by omega)
 have q2 : decide (d < -1) = false := decide_eq_false (by omega)
 clear h hl hr hd hs bl br
 go_enter Try.func94,Try.ntmps94
 go_wp2_with (fail)
 refine (nd_set b e l r k _ w HH.out.inn BL.out BR.out rfl).mono ?_
 rintro e' w1 ⟨rfl,hc,ch⟩
 have H1 := Aside0.mk (reroot HH.out hc ch)
 have C1 := Aside0.mk ch
 clear hc ch
 go_wp2_with (fail)
 refine (nd_lean b e l r _ d w1 H1.out.inn HD.out BL.out BR.out).mono ?_
 rintro e' w2 ⟨rfl,nq,rfl⟩
 have H2 := Aside0.mk (H1.out.heap (w' := w1.drewN nq) rfl)
 have C2 := Aside0.mk (C1.out.drewN nq)
 clear H1 C1
 generalize w1.drewN nq = w2 at *
 go_wp2_with (fail)
 go_ret
 exact ⟨_,rfl,H2.out,rfl,HL.out.mk HR.out,C2.out.mono (fun x q => by subst q;rw [Tr.q0t];simp)⟩
end Go.Proofs.Ythmbfcfomcaaaaa.Z
end
section
namespace Go.Proofs.Ythmbfcfomcaaaaa.Z
set_option linter.unusedVariables false
set_option linter.unusedSimpArgs false
open Go.RowKit Go.Proofs.YthmbfcfomcaaaaaW.PrintWords Go.Proofs.YthmbfcfomcaaaaaW.PrintLast Go.Proofs.YthmbfcfomcaaaaaW.PrintMore Go.Proofs.Ythmbfcfomcaaaaa.Cmp
set_option maxHeartbeats 4000000 in
set_option maxRecDepth 100000 in
theorem nd_evenA {D : Nat → Prop} (b b1 : Nat) (e e1 : Ent) (ll lr r : Tr) (k k1 d d1 : Int) (w : World) (h : NdIn w D (.node b e (.node b1 e1 ll lr k1) r k)) (hl : Tr.Hok (.node b1 e1 ll lr k1)) (hr : Tr.Hok r) (hs : Tr.size (.node b1 e1 ll lr k1) + Tr.size r ≤ 500000000000000000) (hd : Tr.high (.node b1 e1 ll lr k1) - Tr.high r = d) (hd1 : ll.high - lr.high = d1) (q : 1 < d) (q2 : 0 ≤ d1) :
  Calls Try.prog 94 #[.pointer (some ⟨b,0,none⟩)] w fun e' w' => ∃ t',e' = .returned t'.ptr ∧ Evn w D (.node b e (.node b1 e1 ll lr k1) r k) t' w' := by
 have bl := hl.big (N := 500000000000000000) (by omega)
 have br := hr.big (N := 500000000000000000) (by omega)
 have HH := Aside0.mk h
 have HL := Aside0.mk hl
 have HR := Aside0.mk hr
 have HD := Aside0.mk hd
 have HS := Aside0.mk hs
 have BL := Aside0.mk (show 0 ≤ Tr.high (.node b1 e1 ll lr k1) ∧ Tr.high (.node b1 e1 ll lr k1) ≤ 4000000000000000000 by omega)
 have BR := Aside0.mk (show 0 ≤ Tr.high r ∧ Tr.high r ≤ 4000000000000000000 by omega)
 have hll := hl.2.2.1
 have hlr := hl.2.2.2
 have sz := Tr.size_node b1 e1 ll lr k1
 have ba := hll.big (N := 500000000000000000) (by omega)
 have bb := hlr.big (N := 500000000000000000) (by omega)
 have BA := Aside0.mk (show 0 ≤ ll.high ∧ ll.high ≤ 4000000000000000000 by omega)
 have BB := Aside0.mk (show 0 ≤ lr.high ∧ lr.high ≤ 4000000000000000000 by omega)
 have TA := Aside0.mk (show 0 ≤ ll.high ∧ ll.high ≤ 1000000000000000000 by omega)
 have TB := Aside0.mk (show 0 ≤ lr.high ∧ lr.high ≤ 1000000000000000000 by omega)
 have TC := Aside0.mk (show 0 ≤ r.high ∧ r.high ≤ 1000000000000000000 by omega)
 have HD1 := Aside0.mk hd1
 have q1 : decide (1 < d) = true := decide_eq_true q
 have q3 : decide (d1 < 0) = false := decide_eq_false (by omega)
 have p1 : 1 < d := q
 have p3 : 0 ≤ d1 := q2
 clear hd1 q q2 hll hlr sz ba bb
 clear h hl hr hd hs bl br
 go_enter Try.func94,Try.ntmps94
 go_wp2_with (fail)
 refine (nd_set b e (.node b1 e1 ll lr k1) r k _ w HH.out.inn BL.out BR.out rfl).mono ?_
 rintro e' w1 ⟨rfl,hc,ch⟩
 have H1 := Aside0.mk (reroot HH.out hc ch)
 have C1 := Aside0.mk ch
 clear hc ch
 go_wp2_with (fail)
 refine (nd_lean b e (.node b1 e1 ll lr k1) r _ d w1 H1.out.inn HD.out BL.out BR.out).mono ?_
 rintro e' w2 ⟨rfl,nq,rfl⟩
 have H2 := Aside0.mk (H1.out.heap (w' := w1.drewN nq) rfl)
 have C2 := Aside0.mk (C1.out.drewN nq)
 clear H1 C1
 generalize w1.drewN nq = w2 at *
 have c2 := q0d H2.out.inn.1 2
 simp only [ncells,List.getElem?_toArray,List.getElem?_cons_zero,List.getElem?_cons_succ] at c2
 replace c2 : _ = some (Value.pointer (some ⟨b1,0,none⟩)) := c2
 go_wp2_with (fail)
 refine (nd_lean b1 e1 ll lr k1 d1 w2 H2.out.left.inn HD1.out BA.out BB.out).mono ?_
 rintro e' w3 ⟨rfl,nq,rfl⟩
 have H3 := Aside0.mk (H2.out.heap (w' := w2.drewN nq) rfl)
 have C3 := Aside0.mk (C2.out.drewN nq)
 clear H2 C2 c2
 generalize w2.drewN nq = w3 at *
 go_wp2_with (fail)
 refine (nd_turnRight b b1 e e1 ll lr r _ k1 _ _ w3 H3.out TA.out TB.out TC.out rfl rfl).mono ?_
 rintro e' w4 ⟨rfl,h4,c4⟩
 have H4 := Aside0.mk h4
 have C4 := Aside0.mk (C3.out.mono (S2 := fun x => x ∈ (Tr.node b e (.node b1 e1 ll lr k1) r k).ids) (fun x q => by subst q;rw [Tr.q0t];simp) |>.then_ c4 (fun x q => .inl (by rcases q with q | q <;> subst q <;> simp [Tr.q0t])))
 clear h4 c4 H3 C3
 go_wp2_with (fail)
 go_ret
 exact ⟨.node b1 e1 ll (.node b e lr r _) _,rfl,H4.out,by simp [Tr.items],(HL.out.2.2.1).mk ((HL.out.2.2.2).mk HR.out),C4.out⟩
set_option maxHeartbeats 4000000 in
set_option maxRecDepth 100000 in
theorem nd_evenC {D : Nat → Prop} (b b1 : Nat) (e e1 : Ent) (l rl rr : Tr) (k k1 d d1 : Int) (w : World) (h : NdIn w D (.node b e l (.node b1 e1 rl rr k1) k)) (hl : Tr.Hok l) (hr : Tr.Hok (.node b1 e1 rl rr k1)) (hs : Tr.size l + Tr.size (.node b1 e1 rl rr k1) ≤ 500000000000000000) (hd : Tr.high l - Tr.high (.node b1 e1 rl rr k1) = d) (hd1 : rl.high - rr.high = d1) (q : d < -1) (q2 : d1 ≤ 0) :
  Calls Try.prog 94 #[.pointer (some ⟨b,0,none⟩)] w fun e' w' => ∃ t',e' = .returned t'.ptr ∧ Evn w D (.node b e l (.node b1 e1 rl rr k1) k) t' w' := by
 have bl := hl.big (N := 500000000000000000) (by omega)
 have br := hr.big (N := 500000000000000000) (by omega)
 have HH := Aside0.mk h
 have HL := Aside0.mk hl
 have HR := Aside0.mk hr
 have HD := Aside0.mk hd
 have HS := Aside0.mk hs
 have BL := Aside0.mk (show 0 ≤ Tr.high l ∧ Tr.high l ≤ 4000000000000000000 by omega)
 have BR := Aside0.mk (show 0 ≤ Tr.high (.node b1 e1 rl rr k1) ∧ Tr.high (.node b1 e1 rl rr k1) ≤ 4000000000000000000 by omega)
 have hll := hr.2.2.1
 have hlr := hr.2.2.2
 have sz := Tr.size_node b1 e1 rl rr k1
 have ba := hll.big (N := 500000000000000000) (by omega)
 have bb := hlr.big (N := 500000000000000000) (by omega)
 have BA := Aside0.mk (show 0 ≤ rl.high ∧ rl.high ≤ 4000000000000000000 by omega)
 have BB := Aside0.mk (show 0 ≤ rr.high ∧ rr.high ≤ 4000000000000000000 by omega)
 have TA := Aside0.mk (show 0 ≤ l.high ∧ l.high ≤ 1000000000000000000 by omega)
 have TB := Aside0.mk (show 0 ≤ rl.high ∧ rl.high ≤ 1000000000000000000 by omega)
 have TC := Aside0.mk (show 0 ≤ rr.high ∧ rr.high ≤ 1000000000000000000 by omega)
 have HD1 := Aside0.mk hd1
 have q0 : decide (1 < d) = false := decide_eq_false (by omega)
 have q1 : decide (d < -1) = true := decide_eq_true q
 have q3 : decide (0 < d1) = false := decide_eq_false (by omega)
 have p1 : d < -1 := q
 have p3 : d1 ≤ 0 := q2
 clear hd1 q q2 hll hlr sz ba bb
 clear h hl hr hd hs bl br
 go_enter Try.func94,Try.ntmps94
 go_wp2_with (fail)
 refine (nd_set b e l (.node b1 e1 rl rr k1) k _ w HH.out.inn BL.out BR.out rfl).mono ?_
 rintro e' w1 ⟨rfl,hc,ch⟩
 have H1 := Aside0.mk (reroot HH.out hc ch)
 have C1 := Aside0.mk ch
 clear hc ch
 go_wp2_with (fail)
 refine (nd_lean b e l (.node b1 e1 rl rr k1) _ d w1 H1.out.inn HD.out BL.out BR.out).mono ?_
 rintro e' w2 ⟨rfl,nq,rfl⟩
 have H2 := Aside0.mk (H1.out.heap (w' := w1.drewN nq) rfl)
 have C2 := Aside0.mk (C1.out.drewN nq)
 clear H1 C1
 generalize w1.drewN nq = w2 at *
 have c2 := q0d H2.out.inn.1 3
 simp only [ncells,List.getElem?_toArray,List.getElem?_cons_zero,List.getElem?_cons_succ] at c2
 replace c2 : _ = some (Value.pointer (some ⟨b1,0,none⟩)) := c2
 go_wp2_with (fail)
 refine (nd_lean b1 e1 rl rr k1 d1 w2 H2.out.right.inn HD1.out BA.out BB.out).mono ?_
 rintro e' w3 ⟨rfl,nq,rfl⟩
 have H3 := Aside0.mk (H2.out.heap (w' := w2.drewN nq) rfl)
 have C3 := Aside0.mk (C2.out.drewN nq)
 clear H2 C2 c2
 generalize w2.drewN nq = w3 at *
 go_wp2_with (fail)
 refine (nd_turnLeft b b1 e e1 l rl rr _ k1 _ _ w3 H3.out TA.out TB.out TC.out rfl rfl).mono ?_
 rintro e' w4 ⟨rfl,h4,c4⟩
 have H4 := Aside0.mk h4
 have C4 := Aside0.mk (C3.out.mono (S2 := fun x => x ∈ (Tr.node b e l (.node b1 e1 rl rr k1) k).ids) (fun x q => by subst q;rw [Tr.q0t];simp) |>.then_ c4 (fun x q => .inl (by rcases q with q | q <;> subst q <;> simp [Tr.q0t])))
 clear h4 c4 H3 C3
 go_wp2_with (fail)
 go_ret
 exact ⟨.node b1 e1 (.node b e l rl _) rr _,rfl,H4.out,by simp [Tr.items],(HL.out.mk (HR.out.2.2.1)).mk (HR.out.2.2.2),C4.out⟩
set_option maxHeartbeats 4000000 in
set_option maxRecDepth 100000 in
theorem nd_evenB {D : Nat → Prop} (b b1 b2 : Nat) (e e1 e2 : Ent) (ll x y r : Tr) (k k1 k2 d d1 : Int) (w : World) (h : NdIn w D (.node b e (.node b1 e1 ll (.node b2 e2 x y k2) k1) r k)) (hl : Tr.Hok (.node b1 e1 ll (.node b2 e2 x y k2) k1)) (hr : Tr.Hok r) (hs : Tr.size (.node b1 e1 ll (.node b2 e2 x y k2) k1) + Tr.size r ≤ 500000000000000000) (hd : Tr.high (.node b1 e1 ll (.node b2 e2 x y k2) k1) - Tr.high r = d) (hd1 : ll.high - Tr.high (.node b2 e2 x y k2) = d1) (q : 1 < d) (q2 : d1 < 0) :
  Calls Try.prog 94 #[.pointer (some ⟨b,0,none⟩)] w fun e' w' => ∃ t',e' = .returned t'.ptr ∧ Evn w D (.node b e (.node b1 e1 ll (.node b2 e2 x y k2) k1) r k) t' w' := by
 have bl := hl.big (N := 500000000000000000) (by omega)
 have br := hr.big (N := 500000000000000000) (by omega)
 have HH := Aside0.mk h
 have HL := Aside0.mk hl
 have HR := Aside0.mk hr
 have HD := Aside0.mk hd
 have HS := Aside0.mk hs
 have BL := Aside0.mk (show 0 ≤ Tr.high (.node b1 e1 ll (.node b2 e2 x y k2) k1) ∧ Tr.high (.node b1 e1 ll (.node b2 e2 x y k2) k1) ≤ 4000000000000000000 by omega)
 have BR := Aside0.mk (show 0 ≤ Tr.high r ∧ Tr.high r ≤ 4000000000000000000 by omega)
 have hll := hl.2.2.1
 have hlr := hl.2.2.2
 have sz := Tr.size_node b1 e1 ll (.node b2 e2 x y k2) k1
 have sz2 := Tr.size_node b2 e2 x y k2
 have ba := hll.big (N := 500000000000000000) (by omega)
 have bb := hlr.big (N := 500000000000000000) (by omega)
 have bx := hlr.2.2.1.big (N := 500000000000000000) (by omega)
 have bY := hlr.2.2.2.big (N := 500000000000000000) (by omega)
 have BA := Aside0.mk (show 0 ≤ ll.high ∧ ll.high ≤ 4000000000000000000 by omega)
 have BB := Aside0.mk (show 0 ≤ Tr.high (.node b2 e2 x y k2) ∧ Tr.high (.node b2 e2 x y k2) ≤ 4000000000000000000 by omega)
 have TA := Aside0.mk (show 0 ≤ ll.high ∧ ll.high ≤ 500000000000000000 by omega)
 have TB := Aside0.mk (show 0 ≤ x.high ∧ x.high ≤ 500000000000000000 by omega)
 have TC := Aside0.mk (show 0 ≤ y.high ∧ y.high ≤ 500000000000000000 by omega)
 have TD := Aside0.mk (show 0 ≤ r.high ∧ r.high ≤ 500000000000000000 by omega)
 have HD1 := Aside0.mk hd1
 have q1 : decide (1 < d) = true := decide_eq_true q
 have q3 : decide (d1 < 0) = true := decide_eq_true q2
 have p1 : 1 < d := q
 have p3 : d1 < 0 := q2
 clear hd1 q q2 hll hlr sz sz2 ba bb bx bY
 clear h hl hr hd hs bl br
 go_enter Try.func94,Try.ntmps94
 go_wp2_with (fail)
 refine (nd_set b e (.node b1 e1 ll (.node b2 e2 x y k2) k1) r k _ w HH.out.inn BL.out BR.out rfl).mono ?_
 rintro e' w1 ⟨rfl,hc,ch⟩
 have H1 := Aside0.mk (reroot HH.out hc ch)
 have C1 := Aside0.mk ch
 clear hc ch
 go_wp2_with (fail)
 refine (nd_lean b e (.node b1 e1 ll (.node b2 e2 x y k2) k1) r _ d w1 H1.out.inn HD.out BL.out BR.out).mono ?_
 rintro e' w2 ⟨rfl,nq,rfl⟩
 have H2 := Aside0.mk (H1.out.heap (w' := w1.drewN nq) rfl)
 have C2 := Aside0.mk (C1.out.drewN nq)
 clear H1 C1
 generalize w1.drewN nq = w2 at *
 have c2 := q0d H2.out.inn.1 2
 simp only [ncells,List.getElem?_toArray,List.getElem?_cons_zero,List.getElem?_cons_succ] at c2
 replace c2 : _ = some (Value.pointer (some ⟨b1,0,none⟩)) := c2
 go_wp2_with (fail)
 refine (nd_lean b1 e1 ll (.node b2 e2 x y k2) k1 d1 w2 H2.out.left.inn HD1.out BA.out BB.out).mono ?_
 rintro e' w3 ⟨rfl,nq,rfl⟩
 have H3 := Aside0.mk (H2.out.heap (w' := w2.drewN nq) rfl)
 have C3 := Aside0.mk (C2.out.drewN nq)
 clear H2 C2 c2
 generalize w2.drewN nq = w3 at *
 have c2 := q0d H3.out.inn.1 2
 simp only [ncells,List.getElem?_toArray,List.getElem?_cons_zero,List.getElem?_cons_succ] at c2
 replace c2 : _ = some (Value.pointer (some ⟨b1,0,none⟩)) := c2
 go_wp2_with (fail)
 refine (nd_turnLeft b1 b2 e1 e2 ll x y k1 k2 _ _ w3 H3.out.left ⟨TA.out.1,by have := TA.out.2;omega⟩ ⟨TB.out.1,by have := TB.out.2;omega⟩ ⟨TC.out.1,by have := TC.out.2;omega⟩ rfl rfl).mono ?_
 rintro e' w4 ⟨rfl,h4,c4⟩
 obtain ⟨g1,g2,g3⟩ := H3.out.set_left c4 (fun x q => by rcases q with q | q <;> subst q <;> simp [Tr.q0t]) h4 (fun x q => .inl (by simpa [Tr.q0t] using q))
 have z2 := q0e g1 2
 have y2 := q0d g1 2
 simp only [ncells,List.getElem?_toArray,List.getElem?_cons_zero,List.getElem?_cons_succ] at y2
 replace y2 : _ = some (Value.pointer (some ⟨b1,0,none⟩)) := y2
 have H5 := Aside0.mk g2
 have C5 := Aside0.mk (C3.out.mono (S2 := fun x_ => x_ ∈ (Tr.node b e (.node b1 e1 ll (.node b2 e2 x y k2) k1) r k).ids) (fun x q => by subst q;rw [Tr.q0t];simp) |>.then_ g3 (fun x q => .inl (by rcases q with q | q | q <;> subst q <;> simp [Tr.q0t])))
 clear h4 c4 H3 C3 g1 g2 g3 c2
 change Aside0 (NdIn (w4.setCell ⟨b,2,none⟩ (.pointer (some ⟨b2,0,none⟩))) D _) at H5
 change Aside0 (Ch _ w (w4.setCell ⟨b,2,none⟩ (.pointer (some ⟨b2,0,none⟩)))) at C5
 go_wp2_with (fail)
 clear z2 y2
 generalize w4.setCell ⟨b,2,none⟩ (.pointer (some ⟨b2,0,none⟩)) = w5 at *
 refine (nd_turnRight b b2 e e2 (.node b1 e1 ll x _) y r _ _ _ _ w5 H5.out ⟨by have := TA.out;have := TB.out;show 0 ≤ 1 + max _ _;omega,by have := TA.out;have := TB.out;show 1 + max _ _ ≤ _;omega⟩ ⟨TC.out.1,by have := TC.out.2;omega⟩ ⟨TD.out.1,by have := TD.out.2;omega⟩ rfl rfl).mono ?_
 rintro e' w6 ⟨rfl,h6,c6⟩
 have H6 := Aside0.mk h6
 have C6 := Aside0.mk (C5.out.then_ c6 (fun x q => .inl (by rcases q with q | q <;> subst q <;> simp [Tr.q0t])))
 clear h6 c6 H5 C5
 go_wp2_with (fail)
 go_ret
 exact ⟨.node b2 e2 (.node b1 e1 ll x _) (.node b e y r _) _,rfl,H6.out,by simp [Tr.items],((HL.out.2.2.1).mk (HL.out.2.2.2.2.2.1)).mk ((HL.out.2.2.2.2.2.2).mk HR.out),C6.out⟩
set_option maxHeartbeats 4000000 in
set_option maxRecDepth 100000 in
theorem nd_evenD {D : Nat → Prop} (b b1 b2 : Nat) (e e1 e2 : Ent) (l x y rr : Tr) (k k1 k2 d d1 : Int) (w : World) (h : NdIn w D (.node b e l (.node b1 e1 (.node b2 e2 x y k2) rr k1) k)) (hl : Tr.Hok l) (hr : Tr.Hok (.node b1 e1 (.node b2 e2 x y k2) rr k1)) (hs : Tr.size l + Tr.size (.node b1 e1 (.node b2 e2 x y k2) rr k1) ≤ 500000000000000000) (hd : Tr.high l - Tr.high (.node b1 e1 (.node b2 e2 x y k2) rr k1) = d) (hd1 : Tr.high (.node b2 e2 x y k2) - rr.high = d1) (q : d < -1) (q2 : 0 < d1) :
  Calls Try.prog 94 #[.pointer (some ⟨b,0,none⟩)] w fun e' w' => ∃ t',e' = .returned t'.ptr ∧ Evn w D (.node b e l (.node b1 e1 (.node b2 e2 x y k2) rr k1) k) t' w' := by
 have bl := hl.big (N := 500000000000000000) (by omega)
 have br := hr.big (N := 500000000000000000) (by omega)
 have HH := Aside0.mk h
 have HL := Aside0.mk hl
 have HR := Aside0.mk hr
 have HD := Aside0.mk hd
 have HS := Aside0.mk hs
 have BL := Aside0.mk (show 0 ≤ Tr.high l ∧ Tr.high l ≤ 4000000000000000000 by omega)
 have BR := Aside0.mk (show 0 ≤ Tr.high (.node b1 e1 (.node b2 e2 x y k2) rr k1) ∧ Tr.high (.node b1 e1 (.node b2 e2 x y k2) rr k1) ≤ 4000000000000000000 by omega)
 have hll := hr.2.2.1
 have hlr := hr.2.2.2
 have sz := Tr.size_node b1 e1 (.node b2 e2 x y k2) rr k1
 have sz2 := Tr.size_node b2 e2 x y k2
 have ba := hll.big (N := 500000000000000000) (by omega)
 have bb := hlr.big (N := 500000000000000000) (by omega)
 have bx := hll.2.2.1.big (N := 500000000000000000) (by omega)
 have bY := hll.2.2.2.big (N := 500000000000000000) (by omega)
 have BA := Aside0.mk (show 0 ≤ Tr.high (.node b2 e2 x y k2) ∧ Tr.high (.node b2 e2 x y k2) ≤ 4000000000000000000 by omega)
 have BB := Aside0.mk (show 0 ≤ rr.high ∧ rr.high ≤ 4000000000000000000 by omega)
 have TA := Aside0.mk (show 0 ≤ rr.high ∧ rr.high ≤ 500000000000000000 by omega)
 have TB := Aside0.mk (show 0 ≤ x.high ∧ x.high ≤ 500000000000000000 by omega)
 have TC := Aside0.mk (show 0 ≤ y.high ∧ y.high ≤ 500000000000000000 by omega)
 have TD := Aside0.mk (show 0 ≤ l.high ∧ l.high ≤ 500000000000000000 by omega)
 have HD1 := Aside0.mk hd1
 have q0 : decide (1 < d) = false := decide_eq_false (by omega)
 have q1 : decide (d < -1) = true := decide_eq_true q
 have q3 : decide (0 < d1) = true := decide_eq_true q2
 have p1 : d < -1 := q
 have p3 : 0 < d1 := q2
 clear hd1 q q2 hll hlr sz sz2 ba bb bx bY
 clear h hl hr hd hs bl br
 go_enter Try.func94,Try.ntmps94
 go_wp2_with (fail)
 refine (nd_set b e l (.node b1 e1 (.node b2 e2 x y k2) rr k1) k _ w HH.out.inn BL.out BR.out rfl).mono ?_
 rintro e' w1 ⟨rfl,hc,ch⟩
 have H1 := Aside0.mk (reroot HH.out hc ch)
 have C1 := Aside0.mk ch
 clear hc ch
 go_wp2_with (fail)
 refine (nd_lean b e l (.node b1 e1 (.node b2 e2 x y k2) rr k1) _ d w1 H1.out.inn HD.out BL.out BR.out).mono ?_
 rintro e' w2 ⟨rfl,nq,rfl⟩
 have H2 := Aside0.mk (H1.out.heap (w' := w1.drewN nq) rfl)
 have C2 := Aside0.mk (C1.out.drewN nq)
 clear H1 C1
 generalize w1.drewN nq = w2 at *
 have c2 := q0d H2.out.inn.1 3
 simp only [ncells,List.getElem?_toArray,List.getElem?_cons_zero,List.getElem?_cons_succ] at c2
 replace c2 : _ = some (Value.pointer (some ⟨b1,0,none⟩)) := c2
 go_wp2_with (fail)
 refine (nd_lean b1 e1 (.node b2 e2 x y k2) rr k1 d1 w2 H2.out.right.inn HD1.out BA.out BB.out).mono ?_
 rintro e' w3 ⟨rfl,nq,rfl⟩
 have H3 := Aside0.mk (H2.out.heap (w' := w2.drewN nq) rfl)
 have C3 := Aside0.mk (C2.out.drewN nq)
 clear H2 C2 c2
 generalize w2.drewN nq = w3 at *
 have c2 := q0d H3.out.inn.1 3
 simp only [ncells,List.getElem?_toArray,List.getElem?_cons_zero,List.getElem?_cons_succ] at c2
 replace c2 : _ = some (Value.pointer (some ⟨b1,0,none⟩)) := c2
 go_wp2_with (fail)
 refine (nd_turnRight b1 b2 e1 e2 x y rr k1 k2 _ _ w3 H3.out.right ⟨TB.out.1,by have := TB.out.2;omega⟩ ⟨TC.out.1,by have := TC.out.2;omega⟩ ⟨TA.out.1,by have := TA.out.2;omega⟩ rfl rfl).mono ?_
 rintro e' w4 ⟨rfl,h4,c4⟩
 obtain ⟨g1,g2,g3⟩ := H3.out.set_right c4 (fun x q => by rcases q with q | q <;> subst q <;> simp [Tr.q0t]) h4 (fun x q => .inl (by simpa [Tr.q0t] using q))
 have z2 := q0e g1 3
 have y2 := q0d g1 3
 simp only [ncells,List.getElem?_toArray,List.getElem?_cons_zero,List.getElem?_cons_succ] at y2
 replace y2 : _ = some (Value.pointer (some ⟨b1,0,none⟩)) := y2
 have H5 := Aside0.mk g2
 have C5 := Aside0.mk (C3.out.mono (S2 := fun x_ => x_ ∈ (Tr.node b e l (.node b1 e1 (.node b2 e2 x y k2) rr k1) k).ids) (fun x q => by subst q;rw [Tr.q0t];simp) |>.then_ g3 (fun x q => .inl (by rcases q with q | q | q <;> subst q <;> simp [Tr.q0t])))
 clear h4 c4 H3 C3 g1 g2 g3 c2
 change Aside0 (NdIn (w4.setCell ⟨b,3,none⟩ (.pointer (some ⟨b2,0,none⟩))) D _) at H5
 change Aside0 (Ch _ w (w4.setCell ⟨b,3,none⟩ (.pointer (some ⟨b2,0,none⟩)))) at C5
 go_wp2_with (fail)
 clear z2 y2
 generalize w4.setCell ⟨b,3,none⟩ (.pointer (some ⟨b2,0,none⟩)) = w5 at *
 refine (nd_turnLeft b b2 e e2 l x (.node b1 e1 y rr _) _ _ _ _ w5 H5.out ⟨TD.out.1,by have := TD.out.2;omega⟩ ⟨TB.out.1,by have := TB.out.2;omega⟩ ⟨by have := TA.out;have := TC.out;show 0 ≤ 1 + max _ _;omega,by have := TA.out;have := TC.out;show 1 + max _ _ ≤ _;omega⟩ rfl rfl).mono ?_
 rintro e' w6 ⟨rfl,h6,c6⟩
 have H6 := Aside0.mk h6
 have C6 := Aside0.mk (C5.out.then_ c6 (fun x q => .inl (by rcases q with q | q <;> subst q <;> simp [Tr.q0t])))
 clear h6 c6 H5 C5
 go_wp2_with (fail)
 go_ret
 exact ⟨.node b2 e2 (.node b e l x _) (.node b1 e1 y rr _) _,rfl,H6.out,by simp [Tr.items],(HL.out.mk (HR.out.2.2.1.2.2.1)).mk ((HR.out.2.2.1.2.2.2).mk HR.out.2.2.2),C6.out⟩
theorem nd_even {D : Nat → Prop} (b : Nat) (e : Ent) (l r : Tr) (k : Int) (w : World) (h : NdIn w D (.node b e l r k)) (hl : l.Hok) (hr : r.Hok) (hs : l.size + r.size ≤ 500000000000000000) :
  Calls Try.prog 94 #[.pointer (some ⟨b,0,none⟩)] w fun e' w' => ∃ t',e' = .returned t'.ptr ∧ Evn w D (.node b e l r k) t' w' := by
 by_cases q1 : 1 < l.high - r.high
 ·obtain ⟨b1,e1,ll,lr,k1,rfl⟩ := hl.pos (by have := hr.bounds;omega)
  by_cases q2 : 0 ≤ ll.high - lr.high
  ·exact nd_evenA b b1 e e1 ll lr r k k1 _ _ w h hl hr hs rfl rfl q1 q2
  ·obtain ⟨b2,e2,x,y,k2,rfl⟩ := (hl.2.2.2).pos (by have := hl.2.2.1.bounds;omega)
   exact nd_evenB b b1 b2 e e1 e2 ll x y r k k1 k2 _ _ w h hl hr hs rfl rfl q1 (by omega)
 ·by_cases q2 : l.high - r.high < -1
  ·obtain ⟨b1,e1,rl,rr,k1,rfl⟩ := hr.pos (by have := hl.bounds;omega)
   by_cases q3 : rl.high - rr.high ≤ 0
   ·exact nd_evenC b b1 e e1 l rl rr k k1 _ _ w h hl hr hs rfl rfl q2 q3
   ·obtain ⟨b2,e2,x,y,k2,rfl⟩ := (hr.2.2.1).pos (by have := hr.2.2.2.bounds;omega)
    exact nd_evenD b b1 b2 e e1 e2 l x y rr k k1 k2 _ _ w h hl hr hs rfl rfl q2 (by omega)
  ·exact nd_evenE b e l r k _ w h hl hr hs rfl (by omega) (by omega)
end Go.Proofs.Ythmbfcfomcaaaaa.Z
end
section
namespace Go.Proofs.Ythmbfcfomcaaaaa.Z
open Go.RowKit Go.Proofs.YthmbfcfomcaaaaaW.PrintWords Go.Proofs.YthmbfcfomcaaaaaW.PrintLast Go.Proofs.YthmbfcfomcaaaaaW.PrintMore
attribute [local go_sem] max2_int min2_int max_two min_two max_three min_three max_four min_four
set_option linter.unusedVariables false
set_option linter.unusedSimpArgs false
def row_Pick.l0 : Nat → List (S66) → List (S66) → List Int → Int → Int → Option ((List (S66)) × Int)
 | 0,_,_,_,_,_ => none
 | k + 1,x0,x6,x12,x13,x14 => if x14 < x13 then (if 0 ≤ x14 then (if x14 < (x12.length : Int) then (if (rd x12 x14) < 0 then (some (([] : List (S66)),2)) else (if (rd x12 x14) ≥ (x0.length : Int) then (some (([] : List (S66)),2)) else (if 0 ≤ (rd x12 x14) then (if (rd x12 x14) < (x0.length : Int) then (if x6.length < 3518437208883 then (row_Pick.l0 k x0 (x6 ++ [(⟨(q0f x0 (rd x12 x14)).f0,(q0f x0 (rd x12 x14)).f1,(q0f x0 (rd x12 x14)).f2,(q0f x0 (rd x12 x14)).f3⟩ : S66)]) x12 x13 (wrap64 (x14 + 1))) else (none)) else (none)) else (none)))) else (none)) else (none)) else (some (x6,0))
def row_Pick.f (k : Nat) (l0 : List (S66)) (l1 : List Int) : Option ((List (S66)) × Int) := if 0 ≤ (l1.length : Int) then (if ((l1.length : Int) : Int).toNat ≤ 7036874417766 then (row_Pick.l0 k l0 (([] : List (S66))) l1 (l1.length : Int) 0) else (none)) else (none)
theorem row_Pick.mono_l : ∀ k,(∀ y0 y1 y2 y3 y4,LeO (row_Pick.l0 k y0 y1 y2 y3 y4) (row_Pick.l0 (k + 1) y0 y1 y2 y3 y4))
 | 0 => fun _ _ _ _ _ r h => by simp [row_Pick.l0] at h
 | k + 1 => by
  have ih0 := row_Pick.mono_l k
  ·intro y0 y1 y2 y3 y4
   unfold row_Pick.l0
   repeat' first
   | (with_reducible exact ih0 _ _ _ _ _)
   | (with_reducible exact LeO.refl _)
   | (with_reducible exact LeO.none _)
   | (with_reducible refine LeO.ite ?_ ?_)
   | (with_reducible refine LeO.bind ?_ (fun _ => ?_))
   | exact ih0 _ _ _ _ _
   | exact LeO.none _
   | refine LeO.ite ?_ ?_
   | refine LeO.bind ?_ (fun _ => ?_)
theorem row_Pick.mono : ∀ a0 a1 k,LeO (row_Pick.f k a0 a1) (row_Pick.f (k + 1) a0 a1) := by
 intro a0 a1 k
 have ih0 := row_Pick.mono_l k
 unfold row_Pick.f
 repeat' first
   | (with_reducible exact ih0 _ _ _ _ _)
   | (with_reducible exact LeO.refl _)
   | (with_reducible exact LeO.none _)
   | (with_reducible refine LeO.ite ?_ ?_)
   | (with_reducible refine LeO.bind ?_ (fun _ => ?_))
   | exact ih0 _ _ _ _ _
   | exact LeO.none _
   | refine LeO.ite ?_ ?_
   | refine LeO.bind ?_ (fun _ => ?_)
set_option maxHeartbeats 8000000 in
set_option maxRecDepth 100000 in
theorem row_Pick.calls (k : Nat) (A0 : Option Addr) (c0 : Nat) (l0 : List (S66)) (A1 : Option Addr) (c1 : Nat) (l1 : List Int) (r1 : List (S66)) (r2 : Int) (w : World) (hr0 : Kd.C k66 w A0 l0.length l0) (hc0 : l0.length ≤ c0) (hr1 : Kd.C (Kd.int .i64) w A1 l1.length l1) (hc1 : l1.length ≤ c1) (h : row_Pick.f k l0 l1 = some (r1,r2)) :
  Calls Try.prog 80 #[.slice A0 l0.length c0,.slice A1 l1.length c1] w fun e w' => ∃ v0_ : Value,e = .returned (.tuple #[v0_,.int .i64 r2]) ∧ Kd.R k66 66 w' w.heap.size (fun _ => True) v0_ r1 ∧ Below w.heap.size w w' := by
 have hu66 := Try.underlying66
 have HR0 := Aside0.mk hr0
 have HC0 := Aside0.mk hc0
 clear hr0 hc0
 have HR1 := Aside0.mk hr1
 have HC1 := Aside0.mk hc1
 clear hr1 hc1
 have HB := Aside0.mk (Below.refl w.heap.size w)
 have H : (if 0 ≤ (l1.length : Int) then (if ((l1.length : Int) : Int).toNat ≤ 7036874417766 then (row_Pick.l0 k l0 (([] : List (S66))) l1 (l1.length : Int) 0) else (none)) else (none)) = some (r1,r2) := h
 clear h
 by_cases c3 : 0 ≤ (l1.length : Int)
 ·rw [if_pos c3] at H
  have c3b0 := eq_true c3
  have c3b1 : decide (0 ≤ (l1.length : Int)) = true := decide_eq_true c3
  clear c3
  by_cases c4 : ((l1.length : Int) : Int).toNat ≤ 7036874417766
  ·rw [if_pos c4] at H
   have c4b0 := eq_true c4
   have c4b1 : decide (((l1.length : Int) : Int).toNat ≤ 7036874417766) = true := decide_eq_true c4
   clear c4
   obtain ⟨y174,hy174⟩ : ∃ y_ : List (S66),y_ = (([] : List (S66))) := ⟨_,rfl⟩
   replace H : (row_Pick.l0 k l0 y174 l1 (l1.length : Int) 0) = some (r1,r2) := by first | (rw [hy174];with_reducible exact H) | (have H2_ := (Option.bind_some _ _).symm.trans H;rw [hy174];with_reducible exact H2_) | (have H2_ := (Option.bind_some _ _).symm.trans H;with_reducible exact H2_) | with_reducible exact H | (rw [hy174];exact H) | exact H
   have Ny174 := Aside0.mk hy174
   clear hy174
   have H' := Aside0.mk H
   clear H
   go_enter Try.func80,Try.ntmps80
   go_wp2_with (first | ((with_reducible refine q0p (N := 11) rfl ?_);(try (refine gate_guard (by rfl) ?_;dsimp only));refine Kd.R_make0 k66 _ 66 rfl (N := 11) rfl 23 _ _ rfl (l1.length : Int) rfl rfl Try.underlying23 (.agg #[(.int .i64 0),(.bool false),(.int .i64 0),(.string ⟨#[]⟩)]) 40 info66 rfl (by decide) (by omega) z66 (ok := fun _ => True) (okp := fun _ => True) (k66_mkM _ _ _ z66 ) (fun _ hk => hk) trivial (of_decide_eq_true (by first | (with_reducible assumption) | assumption)) (Nat.le_trans (Nat.mul_le_mul_right _ (of_decide_eq_true (by first | (with_reducible assumption) | assumption) : (l1.length : Int).toNat ≤ 7036874417766)) (by omega)) (Below.refl _ _) (Nat.le_refl _) ?_;intro v175 w5 ho6 hb hg_ hnew_;clear hg_ hnew_;(first | rw [← Ny174.out] at ho6 | (simp only [Int.reduceToNat] at ho6;rw [← Ny174.out] at ho6));have n0_ := Aside0.mk (Kd.R_lower ho6 (q0g (by repeat (first | (with_reducible first | exact HB.out | apply q0b | apply q0a | apply q0c) | exact HB.out))));have n1_ := Aside0.mk (q0n (by repeat (first | (with_reducible first | exact HB.out | apply q0b | apply q0a | apply q0c) | exact HB.out)) hb);clear HB;have HO176 := n0_;have HB := n1_;clear n0_ n1_;clear hb ho6))
   go_loopg [6,14] k (fun kq v6 v14 w' => ∃ (x6_1 : List (S66)) (x14_1 : Int),v14 = .int .i64 x14_1 ∧ Aside0 (row_Pick.l0 kq l0 x6_1 l1 (l1.length : Int) x14_1 = some (r1,r2)) ∧ Aside0 (kq ≤ k) ∧ Aside0 (Kd.R k66 66 w' w.heap.size (fun _ => True) v6 x6_1) ∧ Aside0 (Below w.heap.size w w'))
   case atStart => exact ⟨(y174),(0),(by first | rfl | (simp;done) | (simp [*];done)),H',⟨Nat.le_refl _⟩,⟨by (with_reducible repeat (first | apply Kd.R_alloc | apply Kd.R_drewN | apply Kd.R_drew));exact HO176.out⟩,⟨by repeat (first | (with_reducible first | exact HB.out | apply q0b | apply q0a | apply q0c) | exact HB.out)⟩⟩
   case round =>
    clear H'
    try clear c1
    try clear p2
    try clear c3
    try clear c3b0
    try clear c3b1
    try clear c4
    try clear c4b0
    try clear c4b1
    obtain ⟨x6_1,x14_1,rfl,HA,HK1,HO_6,HB⟩ := hrel
    cases gk with
    | zero => exact absurd HA.out (by simp [row_Pick.l0])
    | succ k1 =>
     have H := HA.out
     clear HA
     simp only [row_Pick.l0] at H
     by_cases c7 : x14_1 < (l1.length : Int)
     ·rw [if_pos c7] at H
      have c7b0 : decide (x14_1 < (l1.length : Int)) = true := decide_eq_true c7
      clear c7
      by_cases c8 : 0 ≤ x14_1
      ·rw [if_pos c8] at H
       have c8b0 : decide (0 ≤ x14_1) = true := decide_eq_true c8
       clear c8
       by_cases c9 : x14_1 < (l1.length : Int)
       ·rw [if_pos c9] at H
        have c9b0 : decide (x14_1 < (l1.length : Int)) = true := decide_eq_true c9
        clear c9
        by_cases c10 : (rd l1 x14_1) < 0
        ·rw [if_pos c10] at H
         have c10b0 : decide ((rd l1 x14_1) < 0) = true := decide_eq_true c10
         clear c10
         simp only [Option.some.injEq,Prod.mk.injEq] at H
         obtain ⟨rfl,rfl⟩ := H
         have p177 : 0 ≤ (x14_1 : Int) := of_decide_eq_true (by first | (with_reducible assumption) | assumption)
         have q177 : x14_1 < (l1.length : Int) := of_decide_eq_true (by first | (with_reducible assumption) | assumption)
         obtain ⟨ad177,e177,hx177_0⟩ := Kd.at_int HR1.out x14_1 p177 q177
         cases e177
         replace hx177_0 := (HB.out.cell (World.block_lt_of_cell? w _ hx177_0)).trans hx177_0
         replace p177 := eq_true p177
         replace q177 := eq_true q177
         go_wp2
         go_ret2
         exact ⟨_,by first | rfl | (simp [q0m,q0l] <;> rfl) | (simp [*,q0m,q0l] <;> rfl),by first | exact Kd.R_nil _ _ _ _ _ | exact Kd.N_nil _ _ _ _ _ | exact Kd.V_nil _ _ _ _ _ | exact Kd.Q_nil _ _ _ _ _ | exact Kd.S_nil _ _ _ _ _,by repeat (first | (with_reducible first | exact HB.out | apply q0b | apply q0a | apply q0c) | exact HB.out)⟩
        ·rw [if_neg c10] at H
         have c10b0 : decide ((rd l1 x14_1) < 0) = false := decide_eq_false c10
         clear c10
         by_cases c11 : (rd l1 x14_1) ≥ (l0.length : Int)
         ·rw [if_pos c11] at H
          have c11b0 : decide ((l0.length : Int) ≤ (rd l1 x14_1)) = true := decide_eq_true c11
          clear c11
          simp only [Option.some.injEq,Prod.mk.injEq] at H
          obtain ⟨rfl,rfl⟩ := H
          have p177 : 0 ≤ (x14_1 : Int) := of_decide_eq_true (by first | (with_reducible assumption) | assumption)
          have q177 : x14_1 < (l1.length : Int) := of_decide_eq_true (by first | (with_reducible assumption) | assumption)
          obtain ⟨ad177,e177,hx177_0⟩ := Kd.at_int HR1.out x14_1 p177 q177
          cases e177
          replace hx177_0 := (HB.out.cell (World.block_lt_of_cell? w _ hx177_0)).trans hx177_0
          replace p177 := eq_true p177
          replace q177 := eq_true q177
          go_wp2
          go_ret2
          exact ⟨_,by first | rfl | (simp [q0m,q0l] <;> rfl) | (simp [*,q0m,q0l] <;> rfl),by first | exact Kd.R_nil _ _ _ _ _ | exact Kd.N_nil _ _ _ _ _ | exact Kd.V_nil _ _ _ _ _ | exact Kd.Q_nil _ _ _ _ _ | exact Kd.S_nil _ _ _ _ _,by repeat (first | (with_reducible first | exact HB.out | apply q0b | apply q0a | apply q0c) | exact HB.out)⟩
         ·rw [if_neg c11] at H
          have c11b0 : decide ((l0.length : Int) ≤ (rd l1 x14_1)) = false := decide_eq_false c11
          clear c11
          by_cases c12 : 0 ≤ (rd l1 x14_1)
          ·rw [if_pos c12] at H
           have c12b0 : decide (0 ≤ (rd l1 x14_1)) = true := decide_eq_true c12
           clear c12
           by_cases c13 : (rd l1 x14_1) < (l0.length : Int)
           ·rw [if_pos c13] at H
            have c13b0 : decide ((rd l1 x14_1) < (l0.length : Int)) = true := decide_eq_true c13
            clear c13
            by_cases c14 : x6_1.length < 3518437208883
            ·rw [if_pos c14] at H
             have LMc14 := Aside0.mk c14
             clear c14
             obtain ⟨y179,hy179⟩ : ∃ y_ : List (S66),y_ = (x6_1 ++ [(⟨(q0f l0 (rd l1 x14_1)).f0,(q0f l0 (rd l1 x14_1)).f1,(q0f l0 (rd l1 x14_1)).f2,(q0f l0 (rd l1 x14_1)).f3⟩ : S66)]) := ⟨_,rfl⟩
             replace H : (row_Pick.l0 k1 l0 y179 l1 (l1.length : Int) (wrap64 (x14_1 + 1))) = some (r1,r2) := by first | (rw [hy179];with_reducible exact H) | (have H2_ := (Option.bind_some _ _).symm.trans H;rw [hy179];with_reducible exact H2_) | (have H2_ := (Option.bind_some _ _).symm.trans H;with_reducible exact H2_) | with_reducible exact H | (rw [hy179];exact H) | exact H
             have Ny179 := Aside0.mk hy179
             clear hy179
             have H' := Aside0.mk H
             clear H
             have p177 : 0 ≤ (x14_1 : Int) := of_decide_eq_true (by first | (with_reducible assumption) | assumption)
             have q177 : x14_1 < (l1.length : Int) := of_decide_eq_true (by first | (with_reducible assumption) | assumption)
             obtain ⟨ad177,e177,hx177_0⟩ := Kd.at_int HR1.out x14_1 p177 q177
             cases e177
             replace hx177_0 := (HB.out.cell (World.block_lt_of_cell? w _ hx177_0)).trans hx177_0
             replace p177 := eq_true p177
             replace q177 := eq_true q177
             have p178 : 0 ≤ ((rd l1 x14_1) : Int) := of_decide_eq_true (by first | (with_reducible assumption) | assumption)
             have q178 : (rd l1 x14_1) < (l0.length : Int) := of_decide_eq_true (by first | (with_reducible assumption) | assumption)
             obtain ⟨ad178,e178,hx178_0,hx178_1,hx178_2,hx178_3⟩ := at_T66 HR0.out (rd l1 x14_1) p178 q178
             cases e178
             replace hx178_0 := (HB.out.cell (World.block_lt_of_cell? w _ hx178_0)).trans hx178_0
             replace hx178_1 := (HB.out.cell (World.block_lt_of_cell? w _ hx178_1)).trans hx178_1
             replace hx178_2 := (HB.out.cell (World.block_lt_of_cell? w _ hx178_2)).trans hx178_2
             replace hx178_3 := (HB.out.cell (World.block_lt_of_cell? w _ hx178_3)).trans hx178_3
             replace p178 := eq_true p178
             replace q178 := eq_true q178
             go_wp2_with (first | ((with_reducible refine q0v (b := .append) (xs := #[.tmp 26,.tmp 31]) rfl ?_);(try (refine gate_guard (by rfl) ?_;dsimp only));at_builtin;refine Kd.R_append k66 (w0 := w) w.heap.size rfl (.tmp 26) (.tmp 31) 23 66 (.agg #[(.int .i64 0),(.bool false),(.int .i64 0),(.string ⟨#[]⟩)]) 40 rfl Try.underlying23 info66 rfl (by decide) (by omega) u6 x6_1 (⟨(q0f l0 (rd l1 x14_1)).f0,(q0f l0 (rd l1 x14_1)).f1,(q0f l0 (rd l1 x14_1)).f2,(q0f l0 (rd l1 x14_1)).f3⟩ : S66) [.int .i64 ((q0f l0 (rd l1 x14_1)).f0),.bool ((q0f l0 (rd l1 x14_1)).f1),.int .i64 ((q0f l0 (rd l1 x14_1)).f2),.string ((q0f l0 (rd l1 x14_1)).f3)] (fun _ => True) (fun _ => False) rfl rfl ?aP (fun _ hk => hk.elim) ?aF ?aO ?aB ?aS ?aL ?_;(case aP => exact k66_mkM _ _ _ (⟨(q0f l0 (rd l1 x14_1)).f0,(q0f l0 (rd l1 x14_1)).f1,(q0f l0 (rd l1 x14_1)).f2,(q0f l0 (rd l1 x14_1)).f3⟩ : S66));(case aB => exact (by repeat (first | (with_reducible first | exact HB.out | apply q0b | apply q0a | apply q0c) | exact HB.out)));(case aF => exact (fun _ _ => trivial));(case aO => exact (by (with_reducible repeat (first | apply Kd.R_alloc | apply Kd.R_drewN | apply Kd.R_drew));exact HO_6.out));(case aS => exact (q0g (by repeat (first | (with_reducible first | exact HB.out | apply q0b | apply q0a | apply q0c) | exact HB.out))));(case aL => have := LMc14.out;omega);intro v180 w15 ho hb hg hat;rw [← Ny179.out] at ho;have n0_ := Aside0.mk (hb);have n1_ := Aside0.mk (ho);clear HB;clear HO_6;have HB := n0_;have HO181 := n1_;clear n0_ n1_;clear ho hb hg hat))
             go_roundg k1
             case measure => have := HK1.out;omega
             case rel => exact ⟨(y179),(wrap64 (x14_1 + 1)),(by first | rfl | (simp;done) | (simp [*];done)),H',⟨by have := HK1.out;omega⟩,⟨by (with_reducible repeat (first | apply Kd.R_alloc | apply Kd.R_drewN | apply Kd.R_drew));exact HO181.out⟩,⟨by repeat (first | (with_reducible first | exact HB.out | apply q0b | apply q0a | apply q0c) | exact HB.out)⟩⟩
            ·rw [if_neg c14] at H
             exact absurd H (by simp)
           ·rw [if_neg c13] at H
            exact absurd H (by simp)
          ·rw [if_neg c12] at H
           exact absurd H (by simp)
       ·rw [if_neg c9] at H
        exact absurd H (by simp)
      ·rw [if_neg c8] at H
       exact absurd H (by simp)
     ·rw [if_neg c7] at H
      have c7b0 : decide (x14_1 < (l1.length : Int)) = false := decide_eq_false c7
      clear c7
      simp only [Option.some.injEq,Prod.mk.injEq] at H
      obtain ⟨rfl,rfl⟩ := H
      go_wp2
      go_ret2
      exact ⟨_,by first | rfl | (simp [q0m,q0l] <;> rfl) | (simp [*,q0m,q0l] <;> rfl),by (with_reducible repeat (first | apply Kd.R_alloc | apply Kd.R_drewN | apply Kd.R_drew));exact HO_6.out,by repeat (first | (with_reducible first | exact HB.out | apply q0b | apply q0a | apply q0c) | exact HB.out)⟩
  ·rw [if_neg c4] at H
   exact absurd H (by simp)
 ·rw [if_neg c3] at H
  exact absurd H (by simp)
end Go.Proofs.Ythmbfcfomcaaaaa.Z
end
section
namespace Go.Proofs.Ythmbfcfomcaaaaa.Z
open Go.RowKit Go.Proofs.YthmbfcfomcaaaaaW.PrintWords Go.Proofs.YthmbfcfomcaaaaaW.PrintLast Go.Proofs.YthmbfcfomcaaaaaW.PrintMore
attribute [local go_sem] max2_int min2_int max_two min_two max_three min_three max_four min_four
set_option linter.unusedVariables false
set_option linter.unusedSimpArgs false
def slices_Clone.f (l0 : List (S66)) : Option ((List (S66))) := (some (([] : List (S66)) : List (S66))).bind fun y147 => (if y147.length + l0.length < 3518437208883 then (some (y147 ++ l0)) else (none))
set_option maxHeartbeats 8000000 in
set_option maxRecDepth 100000 in
theorem slices_Clone.calls (A0 : Option Addr) (c0 : Nat) (l0 : List (S66)) (r : List (S66)) (w : World) (hr0 : Kd.C k66 w A0 l0.length l0) (hc0 : l0.length ≤ c0) (h : slices_Clone.f l0 = some r) :
  Calls Try.prog 63 #[.slice A0 l0.length c0] w fun e w' => ∃ v0_ : Value,e = .returned (v0_) ∧ Kd.R k66 66 w' w.heap.size (fun _ => True) v0_ r ∧ Below w.heap.size w w' := by
 have hq22 : ∀ (W : World) a n c,Sem.run Try.prog (binOp .eql 23 (.slice a n c) (.slice none 0 0)) W = .ok (.bool a.isNone) W := fun W a n c => Lib.run_eql_slice_nil W _ _ a n c 0 0 Try.underlying23
 cases A0 with
 | none =>
  obtain rfl : l0 = [] := C_none hr0
  obtain rfl : r = [] := by simpa [slices_Clone.f] using h.symm
  go_enter Try.func63,Try.ntmps63
  go_wp2
  go_ret
  exact ⟨_,rfl,Kd.R_nil _ _ _ _ _,Below.refl _ _⟩
 | some ad0 =>
 have HR0 := Aside0.mk hr0
 have HC0 := Aside0.mk hc0
 clear hr0 hc0
 have HB := Aside0.mk (Below.refl w.heap.size w)
 have H : ((some (([] : List (S66)) : List (S66))).bind fun y147 => (if y147.length + l0.length < 3518437208883 then (some (y147 ++ l0)) else (none))) = some r := h
 clear h
 obtain ⟨y147,hy147⟩ : ∃ y_ : List (S66),y_ = (([] : List (S66))) := ⟨_,rfl⟩
 replace H : (if y147.length + l0.length < 3518437208883 then (some (y147 ++ l0)) else (none)) = some r := by first | (rw [hy147];with_reducible exact H) | (have H2_ := (Option.bind_some _ _).symm.trans H;rw [hy147];with_reducible exact H2_) | (have H2_ := (Option.bind_some _ _).symm.trans H;with_reducible exact H2_) | with_reducible exact H | (rw [hy147];exact H) | exact H
 have Ny147 := Aside0.mk hy147
 clear hy147
 by_cases c2 : y147.length + l0.length < 3518437208883
 ·rw [if_pos c2] at H
  have LMc2 := Aside0.mk c2
  clear c2
  obtain ⟨y150,hy150⟩ : ∃ y_ : List (S66),y_ = (y147 ++ l0) := ⟨_,rfl⟩
  replace H : (some y150) = some r := by first | (rw [hy150];with_reducible exact H) | (have H2_ := (Option.bind_some _ _).symm.trans H;rw [hy150];with_reducible exact H2_) | (have H2_ := (Option.bind_some _ _).symm.trans H;with_reducible exact H2_) | with_reducible exact H | (rw [hy150];exact H) | exact H
  have Ny150 := Aside0.mk hy150
  clear hy150
  obtain rfl := Option.some.inj H
  go_enter Try.func63,Try.ntmps63
  go_wp2_with (first | ((with_reducible refine q0p (N := 5) rfl ?_);refine Kd.R_lit k66 _ 66 ?hg (N := 5) ?hd (xs := ([] : List (S66))) (inner := []) (ok := fun _ => True) (okp := fun _ => True) ?hr ?hp (fun _ hk => hk) trivial (Below.refl _ _) (Nat.le_refl _) (by simp) ?_;(case hd => rfl);(case hg => rfl);(case hr => first | (go_simp;done) | (go_simp;rfl));(case hp => exact (Reps.none _ _));intro v148 w3 ho4 hb hg_ hnew_;clear hg_ hnew_;(first | rw [← Ny147.out] at ho4 | (simp only [Int.reduceToNat] at ho4;rw [← Ny147.out] at ho4));have n0_ := Aside0.mk (Kd.R_lower ho4 (q0g (by repeat (first | (with_reducible first | exact HB.out | apply q0b | apply q0a | apply q0c) | exact HB.out))));have n1_ := Aside0.mk (q0n (by repeat (first | (with_reducible first | exact HB.out | apply q0b | apply q0a | apply q0c) | exact HB.out)) hb);clear HB;have HO149 := n0_;have HB := n1_;clear n0_ n1_;clear hb ho4) | ((with_reducible refine q0v (b := .append) (xs := #[.tmp 5,.tmp 6]) rfl ?_);at_builtin;refine Kd.R_append_rows k66 (w0 := w) w.heap.size rfl (.tmp 5) (.tmp 6) 23 66 (.agg #[(.int .i64 0),(.bool false),(.int .i64 0),(.string ⟨#[]⟩)]) 40 rfl Try.underlying23 info66 rfl (by decide) (by omega) v148 y147 l0 _ _ _ (fun _ => True) (fun _ => False) rfl rfl ?aO ?aR (fun _ _ h => h) (fun _ h => h.elim) ?aF ?aB ?aS ?aL ?_;(case aR => repeat (first | exact (Kd.C_below HR0.out HB.out) | (with_reducible refine Kd.C_alloc ?_ _) | (with_reducible refine Kd.C_drewN ?_ _) | (with_reducible refine Kd.C_drew ?_)));(case aB => exact (by repeat (first | (with_reducible first | exact HB.out | apply q0b | apply q0a | apply q0c) | exact HB.out)));(case aF => exact (fun _ _ => trivial));(case aO => exact (by (with_reducible repeat (first | apply Kd.R_alloc | apply Kd.R_drewN | apply Kd.R_drew));exact HO149.out));(case aS => exact (q0g (by repeat (first | (with_reducible first | exact HB.out | apply q0b | apply q0a | apply q0c) | exact HB.out))));(case aL => have := LMc2.out;omega);intro v151 w5 ho hb hg hat;rw [← Ny150.out] at ho;have n0_ := Aside0.mk (hb);have n1_ := Aside0.mk (ho);clear HB;clear HO149;have HB := n0_;have HO152 := n1_;clear n0_ n1_;clear ho hb hg hat))
  go_ret
  exact ⟨_,by first | rfl | (simp [q0m,q0l] <;> rfl) | (simp [*,q0m,q0l] <;> rfl),by (with_reducible repeat (first | apply Kd.R_alloc | apply Kd.R_drewN | apply Kd.R_drew));exact HO152.out,by repeat (first | (with_reducible first | exact HB.out | apply q0b | apply q0a | apply q0c) | exact HB.out)⟩
 ·rw [if_neg c2] at H
  exact absurd H (by simp)
end Go.Proofs.Ythmbfcfomcaaaaa.Z
end
section
namespace Go.Proofs.Ythmbfcfomcaaaaa.Z
open Go.RowKit Go.Proofs.YthmbfcfomcaaaaaW.PrintWords Go.Proofs.YthmbfcfomcaaaaaW.PrintLast Go.Proofs.YthmbfcfomcaaaaaW.PrintMore
attribute [local go_sem] max2_int min2_int max_two min_two max_three min_three max_four min_four
set_option linter.unusedVariables false
set_option linter.unusedSimpArgs false
def row_Of.f (l0 : List (S66)) : Option ((List (S66))) := (slices_Clone.f l0).bind fun t153 => (some t153)
end Go.Proofs.Ythmbfcfomcaaaaa.Z
end
section
namespace Go.Proofs.Ythmbfcfomcaaaaa.Z
open Go.RowKit Go.Proofs.YthmbfcfomcaaaaaW.PrintWords Go.Proofs.YthmbfcfomcaaaaaW.PrintLast Go.Proofs.YthmbfcfomcaaaaaW.PrintMore
attribute [local go_sem] max2_int min2_int max_two min_two max_three min_three max_four min_four
set_option linter.unusedVariables false
set_option linter.unusedSimpArgs false
theorem eqA66 (d : Nat) (w : World) (x0 y0 : Int) (x1 y1 : Bool) (x2 y2 : Int) (x3 y3 : ByteArray) :
  (Op.equalIn (d + 2) 66 (.agg #[.int .i64 x0,.bool x1,.int .i64 x2,.string x3]) (.agg #[.int .i64 y0,.bool y1,.int .i64 y2,.string y3])).run Try.prog w = .ok (x0 == y0 && (x1 == y1 && (x2 == y2 && (x3.toList == y3.toList)))) w := by
 refine eqA_of Try.underlying66 (by kernel_rfl) ?_
 refine eqf_cons (by rfl) (by go_simp;rfl) (by go_simp;rfl) (by go_simp) ?_
 refine eqf_cons (by rfl) (by go_simp;rfl) (by go_simp;rfl) (by go_simp) ?_
 refine eqf_cons (by rfl) (by go_simp;rfl) (by go_simp;rfl) (by go_simp) ?_
 exact eqf_last (by rfl) (by go_simp;rfl) (by go_simp;rfl) (by go_simp)
end Go.Proofs.Ythmbfcfomcaaaaa.Z
end
section
namespace Go.Proofs.Ythmbfcfomcaaaaa.Z
open Go.RowKit Go.Proofs.YthmbfcfomcaaaaaW.PrintWords Go.Proofs.YthmbfcfomcaaaaaW.PrintLast Go.Proofs.YthmbfcfomcaaaaaW.PrintMore
attribute [local go_sem] max2_int min2_int max_two min_two max_three min_three max_four min_four
set_option linter.unusedVariables false
set_option linter.unusedSimpArgs false
def value_Null.f  : Option (Int × Bool × Int × ByteArray) := some (0,false,0,(⟨#[]⟩ : ByteArray))
set_option maxHeartbeats 8000000 in
set_option maxRecDepth 100000 in
theorem value_Null.calls  (r1 : Int) (r2 : Bool) (r3 : Int) (r4 : ByteArray) (w : World) (h : value_Null.f  = some (r1,r2,r3,r4)) :
  Calls Try.prog 106 #[] w fun e w' => e = .returned (.agg #[.int .i64 r1,.bool r2,.int .i64 r3,.string r4]) ∧ Below w.heap.size w w' := by
 have hu66 := Try.underlying66
 have HB := Aside0.mk (Below.refl w.heap.size w)
 have H : (some (0,false,0,(⟨#[]⟩ : ByteArray))) = some (r1,r2,r3,r4) := h
 clear h
 simp only [Option.some.injEq,Prod.mk.injEq] at H
 obtain ⟨rfl,rfl,rfl,rfl⟩ := H
 go_enter Try.func106,Try.ntmps106
 go_wp2_with (first | ((with_reducible refine q0p (N := 0) rfl ?_);refine q0o ?hg (N := 0) ?hd (cs := #[.int .i64 0,.bool false,.int .i64 0,.string (⟨#[]⟩ : ByteArray)]) (t := 66) ?hr ?_;(case hd => rfl);(case hg => rfl);(case hr => first | (go_simp;done) | (go_simp;rfl));intro gb119 hg w1 hbox hb;have n0_ := Aside0.mk (q0n (by repeat (first | (with_reducible first | exact HB.out | apply q0b | apply q0a | apply q0c) | exact HB.out)) hb);have n1_ := Aside0.mk (hbox);have n2_ := Aside0.mk ((by rw [hg];exact (q0g (by repeat (first | (with_reducible first | exact HB.out | apply q0b | apply q0a | apply q0c) | exact HB.out))) : w.heap.size ≤ gb119));have n3_ := Aside0.mk ((by rw [hg];exact (q0g (by repeat (first | (with_reducible first | exact HB.out | apply q0b | apply q0a | apply q0c) | exact HB.out))) : w.heap.size ≤ gb119));clear HB;have HB := n0_;have BK119 := n1_;have GW119 := n2_;have GE119 := n3_;clear n0_ n1_ n2_ n3_;clear hb hbox hg;have hcz2_0 : w1.cell? ⟨gb119,0,none⟩ = some (.int .i64 0) := (q0d BK119.out 0).trans rfl;have hcz2_1 : w1.cell? ⟨gb119,1,none⟩ = some (.bool false) := (q0d BK119.out 1).trans rfl;have hcz2_2 : w1.cell? ⟨gb119,2,none⟩ = some (.int .i64 0) := (q0d BK119.out 2).trans rfl;have hcz2_3 : w1.cell? ⟨gb119,3,none⟩ = some (.string (⟨#[]⟩ : ByteArray)) := (q0d BK119.out 3).trans rfl;have hfz2_0 := q0e BK119.out 0;have hfz2_1 := q0e BK119.out 1;have hfz2_2 := q0e BK119.out 2;have hfz2_3 := q0e BK119.out 3))
 refine bodyPost_ret (results_cell_row rfl _ _ gb119 66 #[.int .i64 0,.bool false,.int .i64 0,.string (⟨#[]⟩ : ByteArray)] (0,0) _ rfl (by (with_reducible repeat (first | refine q0j ?_ _ | refine q0k ?_ | refine q0h ?_ _));refine q0r (cs := #[.int .i64 0,.bool false,.int .i64 0,.string (⟨#[]⟩ : ByteArray)]) ?_ 3 _ rfl;(with_reducible repeat (first | refine q0j ?_ _ | refine q0k ?_ | refine q0h ?_ _));refine q0r (cs := #[.int .i64 0,.bool false,.int .i64 0,.string (⟨#[]⟩ : ByteArray)]) ?_ 2 _ rfl;(with_reducible repeat (first | refine q0j ?_ _ | refine q0k ?_ | refine q0h ?_ _));refine q0r (cs := #[.int .i64 0,.bool false,.int .i64 0,.string (⟨#[]⟩ : ByteArray)]) ?_ 1 _ rfl;(with_reducible repeat (first | refine q0j ?_ _ | refine q0k ?_ | refine q0h ?_ _));refine q0r (cs := #[.int .i64 0,.bool false,.int .i64 0,.string (⟨#[]⟩ : ByteArray)]) ?_ 0 _ rfl;(with_reducible repeat (first | refine q0j ?_ _ | refine q0k ?_ | refine q0h ?_ _));exact BK119.out) Try.underlying66 rfl (by kernel_rfl)) rfl ?_
 exact ⟨by first | rfl | (simp [q0m,q0l] <;> rfl) | (simp [*,q0m,q0l] <;> rfl),by repeat (first | (with_reducible first | exact HB.out | apply q0b | apply q0a | apply q0c | refine q0i ?_ GE119.out) | exact HB.out)⟩
end Go.Proofs.Ythmbfcfomcaaaaa.Z
end
section
namespace Go.Proofs.Ythmbfcfomcaaaaa.Z
open Go.RowKit Go.Proofs.YthmbfcfomcaaaaaW.PrintWords Go.Proofs.YthmbfcfomcaaaaaW.PrintLast Go.Proofs.YthmbfcfomcaaaaaW.PrintMore
attribute [local go_sem] max2_int min2_int max_two min_two max_three min_three max_four min_four
set_option linter.unusedVariables false
set_option linter.unusedSimpArgs false
def value_Bool.f (a0 : Bool) : Option (Int × Bool × Int × ByteArray) := some (1,a0,0,(⟨#[]⟩ : ByteArray))
set_option maxHeartbeats 8000000 in
set_option maxRecDepth 100000 in
theorem value_Bool.calls (a0 : Bool) (r1 : Int) (r2 : Bool) (r3 : Int) (r4 : ByteArray) (w : World) (h : value_Bool.f a0 = some (r1,r2,r3,r4)) :
  Calls Try.prog 107 #[.bool a0] w fun e w' => e = .returned (.agg #[.int .i64 r1,.bool r2,.int .i64 r3,.string r4]) ∧ Below w.heap.size w w' := by
 have hu66 := Try.underlying66
 have HB := Aside0.mk (Below.refl w.heap.size w)
 have H : (some (1,a0,0,(⟨#[]⟩ : ByteArray))) = some (r1,r2,r3,r4) := h
 clear h
 simp only [Option.some.injEq,Prod.mk.injEq] at H
 obtain ⟨rfl,rfl,rfl,rfl⟩ := H
 go_enter Try.func107,Try.ntmps107
 go_wp2_with (first | ((with_reducible refine q0p (N := 2) rfl ?_);refine q0o ?hg (N := 2) ?hd (cs := #[.int .i64 0,.bool false,.int .i64 0,.string (⟨#[]⟩ : ByteArray)]) (t := 66) ?hr ?_;(case hd => rfl);(case hg => rfl);(case hr => first | (go_simp;done) | (go_simp;rfl));intro gb120 hg w2 hbox hb;have n0_ := Aside0.mk (q0n (by repeat (first | (with_reducible first | exact HB.out | apply q0b | apply q0a | apply q0c) | exact HB.out)) hb);have n1_ := Aside0.mk (hbox);have n2_ := Aside0.mk ((by rw [hg];exact (q0g (by repeat (first | (with_reducible first | exact HB.out | apply q0b | apply q0a | apply q0c) | exact HB.out))) : w.heap.size ≤ gb120));have n3_ := Aside0.mk ((by rw [hg];exact (q0g (by repeat (first | (with_reducible first | exact HB.out | apply q0b | apply q0a | apply q0c) | exact HB.out))) : w.heap.size ≤ gb120));clear HB;have HB := n0_;have BK120 := n1_;have GW120 := n2_;have GE120 := n3_;clear n0_ n1_ n2_ n3_;clear hb hbox hg;have hcz3_0 : w2.cell? ⟨gb120,0,none⟩ = some (.int .i64 0) := (q0d BK120.out 0).trans rfl;have hcz3_1 : w2.cell? ⟨gb120,1,none⟩ = some (.bool false) := (q0d BK120.out 1).trans rfl;have hcz3_2 : w2.cell? ⟨gb120,2,none⟩ = some (.int .i64 0) := (q0d BK120.out 2).trans rfl;have hcz3_3 : w2.cell? ⟨gb120,3,none⟩ = some (.string (⟨#[]⟩ : ByteArray)) := (q0d BK120.out 3).trans rfl;have hfz3_0 := q0e BK120.out 0;have hfz3_1 := q0e BK120.out 1;have hfz3_2 := q0e BK120.out 2;have hfz3_3 := q0e BK120.out 3))
 refine bodyPost_ret (results_cell_row rfl _ _ gb120 66 #[.int .i64 1,.bool a0,.int .i64 0,.string (⟨#[]⟩ : ByteArray)] (0,0) _ rfl (by (with_reducible repeat (first | refine q0j ?_ _ | refine q0k ?_ | refine q0h ?_ _));refine q0r (cs := #[.int .i64 1,.bool a0,.int .i64 0,.string (⟨#[]⟩ : ByteArray)]) ?_ 3 _ rfl;(with_reducible repeat (first | refine q0j ?_ _ | refine q0k ?_ | refine q0h ?_ _));refine q0r (cs := #[.int .i64 1,.bool a0,.int .i64 0,.string (⟨#[]⟩ : ByteArray)]) ?_ 2 _ rfl;(with_reducible repeat (first | refine q0j ?_ _ | refine q0k ?_ | refine q0h ?_ _));refine q0r (cs := #[.int .i64 1,.bool false,.int .i64 0,.string (⟨#[]⟩ : ByteArray)]) ?_ 1 _ rfl;(with_reducible repeat (first | refine q0j ?_ _ | refine q0k ?_ | refine q0h ?_ _));refine q0r (cs := #[.int .i64 0,.bool false,.int .i64 0,.string (⟨#[]⟩ : ByteArray)]) ?_ 0 _ rfl;(with_reducible repeat (first | refine q0j ?_ _ | refine q0k ?_ | refine q0h ?_ _));exact BK120.out) Try.underlying66 rfl (by kernel_rfl)) rfl ?_
 exact ⟨by first | rfl | (simp [q0m,q0l] <;> rfl) | (simp [*,q0m,q0l] <;> rfl),by repeat (first | (with_reducible first | exact HB.out | apply q0b | apply q0a | apply q0c | refine q0i ?_ GE120.out) | exact HB.out)⟩
end Go.Proofs.Ythmbfcfomcaaaaa.Z
end
section
namespace Go.Proofs.Ythmbfcfomcaaaaa.Z
open Go.RowKit Go.Proofs.YthmbfcfomcaaaaaW.PrintWords Go.Proofs.YthmbfcfomcaaaaaW.PrintLast Go.Proofs.YthmbfcfomcaaaaaW.PrintMore
attribute [local go_sem] max2_int min2_int max_two min_two max_three min_three max_four min_four
set_option linter.unusedVariables false
set_option linter.unusedSimpArgs false
def value_Int.f (a0 : Int) : Option (Int × Bool × Int × ByteArray) := some (2,false,a0,(⟨#[]⟩ : ByteArray))
set_option maxHeartbeats 8000000 in
set_option maxRecDepth 100000 in
theorem value_Int.calls (a0 : Int) (r1 : Int) (r2 : Bool) (r3 : Int) (r4 : ByteArray) (w : World) (h : value_Int.f a0 = some (r1,r2,r3,r4)) :
  Calls Try.prog 108 #[.int .i64 a0] w fun e w' => e = .returned (.agg #[.int .i64 r1,.bool r2,.int .i64 r3,.string r4]) ∧ Below w.heap.size w w' := by
 have hu66 := Try.underlying66
 have HB := Aside0.mk (Below.refl w.heap.size w)
 have H : (some (2,false,a0,(⟨#[]⟩ : ByteArray))) = some (r1,r2,r3,r4) := h
 clear h
 simp only [Option.some.injEq,Prod.mk.injEq] at H
 obtain ⟨rfl,rfl,rfl,rfl⟩ := H
 go_enter Try.func108,Try.ntmps108
 go_wp2_with (first | ((with_reducible refine q0p (N := 2) rfl ?_);refine q0o ?hg (N := 2) ?hd (cs := #[.int .i64 0,.bool false,.int .i64 0,.string (⟨#[]⟩ : ByteArray)]) (t := 66) ?hr ?_;(case hd => rfl);(case hg => rfl);(case hr => first | (go_simp;done) | (go_simp;rfl));intro gb121 hg w2 hbox hb;have n0_ := Aside0.mk (q0n (by repeat (first | (with_reducible first | exact HB.out | apply q0b | apply q0a | apply q0c) | exact HB.out)) hb);have n1_ := Aside0.mk (hbox);have n2_ := Aside0.mk ((by rw [hg];exact (q0g (by repeat (first | (with_reducible first | exact HB.out | apply q0b | apply q0a | apply q0c) | exact HB.out))) : w.heap.size ≤ gb121));have n3_ := Aside0.mk ((by rw [hg];exact (q0g (by repeat (first | (with_reducible first | exact HB.out | apply q0b | apply q0a | apply q0c) | exact HB.out))) : w.heap.size ≤ gb121));clear HB;have HB := n0_;have BK121 := n1_;have GW121 := n2_;have GE121 := n3_;clear n0_ n1_ n2_ n3_;clear hb hbox hg;have hcz3_0 : w2.cell? ⟨gb121,0,none⟩ = some (.int .i64 0) := (q0d BK121.out 0).trans rfl;have hcz3_1 : w2.cell? ⟨gb121,1,none⟩ = some (.bool false) := (q0d BK121.out 1).trans rfl;have hcz3_2 : w2.cell? ⟨gb121,2,none⟩ = some (.int .i64 0) := (q0d BK121.out 2).trans rfl;have hcz3_3 : w2.cell? ⟨gb121,3,none⟩ = some (.string (⟨#[]⟩ : ByteArray)) := (q0d BK121.out 3).trans rfl;have hfz3_0 := q0e BK121.out 0;have hfz3_1 := q0e BK121.out 1;have hfz3_2 := q0e BK121.out 2;have hfz3_3 := q0e BK121.out 3))
 refine bodyPost_ret (results_cell_row rfl _ _ gb121 66 #[.int .i64 2,.bool false,.int .i64 a0,.string (⟨#[]⟩ : ByteArray)] (0,0) _ rfl (by (with_reducible repeat (first | refine q0j ?_ _ | refine q0k ?_ | refine q0h ?_ _));refine q0r (cs := #[.int .i64 2,.bool false,.int .i64 a0,.string (⟨#[]⟩ : ByteArray)]) ?_ 3 _ rfl;(with_reducible repeat (first | refine q0j ?_ _ | refine q0k ?_ | refine q0h ?_ _));refine q0r (cs := #[.int .i64 2,.bool false,.int .i64 0,.string (⟨#[]⟩ : ByteArray)]) ?_ 2 _ rfl;(with_reducible repeat (first | refine q0j ?_ _ | refine q0k ?_ | refine q0h ?_ _));refine q0r (cs := #[.int .i64 2,.bool false,.int .i64 0,.string (⟨#[]⟩ : ByteArray)]) ?_ 1 _ rfl;(with_reducible repeat (first | refine q0j ?_ _ | refine q0k ?_ | refine q0h ?_ _));refine q0r (cs := #[.int .i64 0,.bool false,.int .i64 0,.string (⟨#[]⟩ : ByteArray)]) ?_ 0 _ rfl;(with_reducible repeat (first | refine q0j ?_ _ | refine q0k ?_ | refine q0h ?_ _));exact BK121.out) Try.underlying66 rfl (by kernel_rfl)) rfl ?_
 exact ⟨by first | rfl | (simp [q0m,q0l] <;> rfl) | (simp [*,q0m,q0l] <;> rfl),by repeat (first | (with_reducible first | exact HB.out | apply q0b | apply q0a | apply q0c | refine q0i ?_ GE121.out) | exact HB.out)⟩
end Go.Proofs.Ythmbfcfomcaaaaa.Z
end
section
namespace Go.Proofs.Ythmbfcfomcaaaaa.Z
open Go.RowKit Go.Proofs.YthmbfcfomcaaaaaW.PrintWords Go.Proofs.YthmbfcfomcaaaaaW.PrintLast Go.Proofs.YthmbfcfomcaaaaaW.PrintMore
attribute [local go_sem] max2_int min2_int max_two min_two max_three min_three max_four min_four
set_option linter.unusedVariables false
set_option linter.unusedSimpArgs false
def value_Text.f (a0 : ByteArray) : Option (Int × Bool × Int × ByteArray) := some (3,false,0,a0)
set_option maxHeartbeats 8000000 in
set_option maxRecDepth 100000 in
theorem value_Text.calls (a0 : ByteArray) (r1 : Int) (r2 : Bool) (r3 : Int) (r4 : ByteArray) (w : World) (h : value_Text.f a0 = some (r1,r2,r3,r4)) :
  Calls Try.prog 109 #[.string a0] w fun e w' => e = .returned (.agg #[.int .i64 r1,.bool r2,.int .i64 r3,.string r4]) ∧ Below w.heap.size w w' := by
 have hu66 := Try.underlying66
 have HB := Aside0.mk (Below.refl w.heap.size w)
 have H : (some (3,false,0,a0)) = some (r1,r2,r3,r4) := h
 clear h
 simp only [Option.some.injEq,Prod.mk.injEq] at H
 obtain ⟨rfl,rfl,rfl,rfl⟩ := H
 go_enter Try.func109,Try.ntmps109
 go_wp2_with (first | ((with_reducible refine q0p (N := 2) rfl ?_);refine q0o ?hg (N := 2) ?hd (cs := #[.int .i64 0,.bool false,.int .i64 0,.string (⟨#[]⟩ : ByteArray)]) (t := 66) ?hr ?_;(case hd => rfl);(case hg => rfl);(case hr => first | (go_simp;done) | (go_simp;rfl));intro gb122 hg w2 hbox hb;have n0_ := Aside0.mk (q0n (by repeat (first | (with_reducible first | exact HB.out | apply q0b | apply q0a | apply q0c) | exact HB.out)) hb);have n1_ := Aside0.mk (hbox);have n2_ := Aside0.mk ((by rw [hg];exact (q0g (by repeat (first | (with_reducible first | exact HB.out | apply q0b | apply q0a | apply q0c) | exact HB.out))) : w.heap.size ≤ gb122));have n3_ := Aside0.mk ((by rw [hg];exact (q0g (by repeat (first | (with_reducible first | exact HB.out | apply q0b | apply q0a | apply q0c) | exact HB.out))) : w.heap.size ≤ gb122));clear HB;have HB := n0_;have BK122 := n1_;have GW122 := n2_;have GE122 := n3_;clear n0_ n1_ n2_ n3_;clear hb hbox hg;have hcz3_0 : w2.cell? ⟨gb122,0,none⟩ = some (.int .i64 0) := (q0d BK122.out 0).trans rfl;have hcz3_1 : w2.cell? ⟨gb122,1,none⟩ = some (.bool false) := (q0d BK122.out 1).trans rfl;have hcz3_2 : w2.cell? ⟨gb122,2,none⟩ = some (.int .i64 0) := (q0d BK122.out 2).trans rfl;have hcz3_3 : w2.cell? ⟨gb122,3,none⟩ = some (.string (⟨#[]⟩ : ByteArray)) := (q0d BK122.out 3).trans rfl;have hfz3_0 := q0e BK122.out 0;have hfz3_1 := q0e BK122.out 1;have hfz3_2 := q0e BK122.out 2;have hfz3_3 := q0e BK122.out 3))
 refine bodyPost_ret (results_cell_row rfl _ _ gb122 66 #[.int .i64 3,.bool false,.int .i64 0,.string a0] (0,0) _ rfl (by (with_reducible repeat (first | refine q0j ?_ _ | refine q0k ?_ | refine q0h ?_ _));refine q0r (cs := #[.int .i64 3,.bool false,.int .i64 0,.string (⟨#[]⟩ : ByteArray)]) ?_ 3 _ rfl;(with_reducible repeat (first | refine q0j ?_ _ | refine q0k ?_ | refine q0h ?_ _));refine q0r (cs := #[.int .i64 3,.bool false,.int .i64 0,.string (⟨#[]⟩ : ByteArray)]) ?_ 2 _ rfl;(with_reducible repeat (first | refine q0j ?_ _ | refine q0k ?_ | refine q0h ?_ _));refine q0r (cs := #[.int .i64 3,.bool false,.int .i64 0,.string (⟨#[]⟩ : ByteArray)]) ?_ 1 _ rfl;(with_reducible repeat (first | refine q0j ?_ _ | refine q0k ?_ | refine q0h ?_ _));refine q0r (cs := #[.int .i64 0,.bool false,.int .i64 0,.string (⟨#[]⟩ : ByteArray)]) ?_ 0 _ rfl;(with_reducible repeat (first | refine q0j ?_ _ | refine q0k ?_ | refine q0h ?_ _));exact BK122.out) Try.underlying66 rfl (by kernel_rfl)) rfl ?_
 exact ⟨by first | rfl | (simp [q0m,q0l] <;> rfl) | (simp [*,q0m,q0l] <;> rfl),by repeat (first | (with_reducible first | exact HB.out | apply q0b | apply q0a | apply q0c | refine q0i ?_ GE122.out) | exact HB.out)⟩
end Go.Proofs.Ythmbfcfomcaaaaa.Z
end
