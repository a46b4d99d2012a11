/- Parts of the proof of RowSorts: what its functions answer. -/
import Derived.Test.YtfoaeigoajooeaaMRowSortsa
import Derived.Laws.MakeOwn
import Derived.Lib.SliceRun
import Derived.Laws.Slices
import Derived.Lib.Bytealg
import Derived.RegionTactic
import Derived.BigRegion
import Derived.Deep.QuietTactic
import Derived.BigQuiet
import Derived.ChangeAlike
import Derived.StillTailTactics
import Derived.Deep.LoopGhost
import Derived.Deep.RegionHeld3
import Derived.Lib.Hide
import Derived.Outline
section
namespace Go.Proofs.Ytfoaeigoajooeaa.Z
open Go.RowKit Go.Proofs.YtfoaeigoajooeaaW.PrintWords Go.Proofs.YtfoaeigoajooeaaW.PrintLast Go.Proofs.YtfoaeigoajooeaaW.PrintMore
attribute [local go_sem] max2_int min2_int max_two min_two max_three min_three max_four min_four
set_option linter.unusedVariables false
set_option linter.unusedSimpArgs false
def value_Compare.f (a0_0 : Int) (a0_1 : Bool) (a0_2 : Int) (a0_3 : ByteArray) (a1_0 : Int) (a1_1 : Bool) (a1_2 : Int) (a1_3 : ByteArray) : Option (Int) := if a0_0 = a1_0 then (if a0_0 = 1 then ((value_truth.f a0_1).bind fun t129 => ((value_truth.f a1_1).bind fun t130 => ((cmp_Compare_63.f t129 t130).bind fun t131 => (some t131)))) else (if a0_0 = 2 then ((cmp_Compare_65.f a0_2 a1_2).bind fun t132 => (some t132)) else (if a0_0 = 3 then ((strings_Compare.f a0_3 a1_3).bind fun t133 => (some t133)) else (some 0)))) else ((cmp_Compare_63.f a0_0 a1_0).bind fun t128 => (some t128))
set_option maxHeartbeats 8000000 in
set_option maxRecDepth 100000 in
theorem value_Compare.calls (a0_0 : Int) (a0_1 : Bool) (a0_2 : Int) (a0_3 : ByteArray) (a1_0 : Int) (a1_1 : Bool) (a1_2 : Int) (a1_3 : ByteArray) (r : Int) (w : World) (h : value_Compare.f a0_0 a0_1 a0_2 a0_3 a1_0 a1_1 a1_2 a1_3 = some r) :
  Calls Try.prog 46 #[.agg #[.int .i64 a0_0,.bool a0_1,.int .i64 a0_2,.string a0_3],.agg #[.int .i64 a1_0,.bool a1_1,.int .i64 a1_2,.string a1_3]] w fun e w' => e = .returned (.int .i64 r) ∧ Below w.heap.size w w' := by
 have hu50 := Try.underlying50
 have HB := Aside0.mk (Below.refl w.heap.size w)
 have H : (if a0_0 = a1_0 then (if a0_0 = 1 then ((value_truth.f a0_1).bind fun t129 => ((value_truth.f a1_1).bind fun t130 => ((cmp_Compare_63.f t129 t130).bind fun t131 => (some t131)))) else (if a0_0 = 2 then ((cmp_Compare_65.f a0_2 a1_2).bind fun t132 => (some t132)) else (if a0_0 = 3 then ((strings_Compare.f a0_3 a1_3).bind fun t133 => (some t133)) else (some 0)))) else ((cmp_Compare_63.f a0_0 a1_0).bind fun t128 => (some t128))) = some r := h
 clear h
 by_cases c3 : a0_0 = a1_0
 ·rw [if_pos c3] at H
  have c3b0 : (a0_0 == a1_0) = true := beq_iff_eq.mpr c3
  have c3b1 : (a0_0 != a1_0) = false := bne_eq_false_iff_eq.mpr c3
  clear c3
  by_cases c4 : a0_0 = 1
  ·rw [if_pos c4] at H
   have c4b0 : (a0_0 == 1) = true := beq_iff_eq.mpr c4
   have c4b1 : (a0_0 != 1) = false := bne_eq_false_iff_eq.mpr c4
   clear c4
   replace H := Option.bind_eq_some_iff.mp H
   obtain ⟨t129,A50,H⟩ := H
   replace H : ((value_truth.f a1_1).bind fun t130 => ((cmp_Compare_63.f t129 t130).bind fun t131 => (some t131))) = some r := H
   have A5 := Aside0.mk A50
   clear A50
   replace H := Option.bind_eq_some_iff.mp H
   obtain ⟨t130,A60,H⟩ := H
   replace H : ((cmp_Compare_63.f t129 t130).bind fun t131 => (some t131)) = some r := H
   have A6 := Aside0.mk A60
   clear A60
   replace H := Option.bind_eq_some_iff.mp H
   obtain ⟨t131,A70,H⟩ := H
   replace H : (some t131) = some r := H
   have A7 := Aside0.mk A70
   clear A70
   obtain rfl := Option.some.inj H
   go_enter Try.func46,Try.ntmps46
   go_wp2_with (first | ((with_reducible refine q0s (N := 2) rfl ?_);refine q0r ?hg (N := 2) ?hd (cs := #[.int .i64 a0_0,.bool a0_1,.int .i64 a0_2,.string a0_3]) (t := 50) ?hr ?_;(case hd => rfl);(case hg => rfl);(case hr => first | (go_simp;done) | (go_simp;rfl));intro gb126 hg w8 hbox hb;have n0_ := Aside0.mk (q0l (by repeat (first | (with_reducible first | exact HB.out | apply q0b | apply q0a | apply q0c) | exact HB.out)) hb);have n1_ := Aside0.mk (hbox);have n2_ := Aside0.mk ((by rw [hg];exact (q0g (by repeat (first | (with_reducible first | exact HB.out | apply q0b | apply q0a | apply q0c) | exact HB.out))) : w.heap.size ≤ gb126));have n3_ := Aside0.mk ((by rw [hg];exact (q0g (by repeat (first | (with_reducible first | exact HB.out | apply q0b | apply q0a | apply q0c) | exact HB.out))) : w.heap.size ≤ gb126));clear HB;have HB := n0_;have BK126 := n1_;have GW126 := n2_;have GE126 := n3_;clear n0_ n1_ n2_ n3_;clear hb hbox hg) | ((with_reducible refine q0s (N := 3) rfl ?_);refine q0r ?hg (N := 3) ?hd (cs := #[.int .i64 a1_0,.bool a1_1,.int .i64 a1_2,.string a1_3]) (t := 50) ?hr ?_;(case hd => rfl);(case hg => rfl);(case hr => first | (go_simp;done) | (go_simp;rfl));intro gb127 hg w9 hbox hb;have n0_ := Aside0.mk (blk_below (g := gb126) (o := .cells #[.int .i64 a0_0,.bool a0_1,.int .i64 a0_2,.string a0_3] 50 (0,0)) (by (with_reducible repeat (first | refine q0i ?_ _ | refine q0j ?_ | refine q0h ?_ _));exact BK126.out) hb);have n1_ := Aside0.mk (q0l (by repeat (first | (with_reducible first | exact HB.out | apply q0b | apply q0a | apply q0c | refine q0k ?_ GE126.out) | exact HB.out)) hb);have n2_ := Aside0.mk (hbox);have n3_ := Aside0.mk ((by rw [hg];exact (q0g (by repeat (first | (with_reducible first | exact HB.out | apply q0b | apply q0a | apply q0c | refine q0k ?_ GE126.out) | exact HB.out))) : w.heap.size ≤ gb127));have n4_ := Aside0.mk ((by rw [hg];exact (q0g (by repeat (first | (with_reducible first | exact HB.out | apply q0b | apply q0a | apply q0c | refine q0k ?_ GE126.out) | exact HB.out))) : w.heap.size ≤ gb127));have n5_ := Aside0.mk ((by rw [hg];exact Nat.ne_of_lt (blk_lt (g := gb126) (o := .cells #[.int .i64 a0_0,.bool a0_1,.int .i64 a0_2,.string a0_3] 50 (0,0)) (by (with_reducible repeat (first | refine q0i ?_ _ | refine q0j ?_ | refine q0h ?_ _));exact BK126.out)) : gb126 ≠ gb127));have n6_ := Aside0.mk ((by rw [hg];exact Nat.ne_of_gt (blk_lt (g := gb126) (o := .cells #[.int .i64 a0_0,.bool a0_1,.int .i64 a0_2,.string a0_3] 50 (0,0)) (by (with_reducible repeat (first | refine q0i ?_ _ | refine q0j ?_ | refine q0h ?_ _));exact BK126.out)) : gb127 ≠ gb126));clear BK126;clear HB;have BK126 := n0_;have HB := n1_;have BK127 := n2_;have GW127 := n3_;have GE127 := n4_;have NB126_127 := n5_;have NB127_126 := n6_;clear n0_ n1_ n2_ n3_ n4_ n5_ n6_;clear hb hbox hg;have hnb10 := NB126_127.out;have hnc10 := NB127_126.out;have hcz11_0 : w9.cell? ⟨gb126,0,none⟩ = some (.int .i64 a0_0) := (q0e BK126.out 0).trans rfl;have hcz11_1 : w9.cell? ⟨gb126,1,none⟩ = some (.bool a0_1) := (q0e BK126.out 1).trans rfl;have hcz11_2 : w9.cell? ⟨gb126,2,none⟩ = some (.int .i64 a0_2) := (q0e BK126.out 2).trans rfl;have hcz11_3 : w9.cell? ⟨gb126,3,none⟩ = some (.string a0_3) := (q0e BK126.out 3).trans rfl;have hfz11_0 := q0d BK126.out 0;have hfz11_1 := q0d BK126.out 1;have hfz11_2 := q0d BK126.out 2;have hfz11_3 := q0d BK126.out 3;have hcz12_0 : w9.cell? ⟨gb127,0,none⟩ = some (.int .i64 a1_0) := (q0e BK127.out 0).trans rfl;have hcz12_1 : w9.cell? ⟨gb127,1,none⟩ = some (.bool a1_1) := (q0e BK127.out 1).trans rfl;have hcz12_2 : w9.cell? ⟨gb127,2,none⟩ = some (.int .i64 a1_2) := (q0e BK127.out 2).trans rfl;have hcz12_3 : w9.cell? ⟨gb127,3,none⟩ = some (.string a1_3) := (q0e BK127.out 3).trans rfl;have hfz12_0 := q0d BK127.out 0;have hfz12_1 := q0d BK127.out 1;have hfz12_2 := q0d BK127.out 2;have hfz12_3 := q0d BK127.out 3) | (go_at_call 64;(with_reducible refine (value_truth.calls a0_1 t129 _ A5.out).mono ?_);rintro e w' ⟨rfl,⟨nd,rfl⟩⟩;(try first | exact ⟨rfl,_,World.drewN_drewN _ _ _⟩ | exact ⟨rfl,_,Eq.trans (World.drewN_drewN _ _ _) (congrArg (World.drewN _) (Nat.add_assoc _ _ _))⟩)) | (go_at_call 64;(with_reducible refine (value_truth.calls a1_1 t130 _ A6.out).mono ?_);rintro e w' ⟨rfl,⟨nd,rfl⟩⟩;(try first | exact ⟨rfl,_,World.drewN_drewN _ _ _⟩ | exact ⟨rfl,_,Eq.trans (World.drewN_drewN _ _ _) (congrArg (World.drewN _) (Nat.add_assoc _ _ _))⟩)) | (go_at_call 63;(with_reducible refine (cmp_Compare_63.calls t129 t130 t131 _ A7.out).mono ?_);rintro e w' ⟨rfl,⟨nd,rfl⟩⟩;(try first | exact ⟨rfl,_,World.drewN_drewN _ _ _⟩ | exact ⟨rfl,_,Eq.trans (World.drewN_drewN _ _ _) (congrArg (World.drewN _) (Nat.add_assoc _ _ _))⟩)))
   repeat (go_quiet (first | ((with_reducible refine q0s (N := 2) rfl ?_);refine q0r ?hg (N := 2) ?hd (cs := #[.int .i64 a0_0,.bool a0_1,.int .i64 a0_2,.string a0_3]) (t := 50) ?hr ?_;(case hd => rfl);(case hg => rfl);(case hr => first | (go_simp;done) | (go_simp;rfl));intro gb126 hg w8 hbox hb;have n0_ := Aside0.mk (q0l (by repeat (first | (with_reducible first | exact HB.out | apply q0b | apply q0a | apply q0c) | exact HB.out)) hb);have n1_ := Aside0.mk (hbox);have n2_ := Aside0.mk ((by rw [hg];exact (q0g (by repeat (first | (with_reducible first | exact HB.out | apply q0b | apply q0a | apply q0c) | exact HB.out))) : w.heap.size ≤ gb126));have n3_ := Aside0.mk ((by rw [hg];exact (q0g (by repeat (first | (with_reducible first | exact HB.out | apply q0b | apply q0a | apply q0c) | exact HB.out))) : w.heap.size ≤ gb126));clear HB;have HB := n0_;have BK126 := n1_;have GW126 := n2_;have GE126 := n3_;clear n0_ n1_ n2_ n3_;clear hb hbox hg) | ((with_reducible refine q0s (N := 3) rfl ?_);refine q0r ?hg (N := 3) ?hd (cs := #[.int .i64 a1_0,.bool a1_1,.int .i64 a1_2,.string a1_3]) (t := 50) ?hr ?_;(case hd => rfl);(case hg => rfl);(case hr => first | (go_simp;done) | (go_simp;rfl));intro gb127 hg w9 hbox hb;have n0_ := Aside0.mk (blk_below (g := gb126) (o := .cells #[.int .i64 a0_0,.bool a0_1,.int .i64 a0_2,.string a0_3] 50 (0,0)) (by (with_reducible repeat (first | refine q0i ?_ _ | refine q0j ?_ | refine q0h ?_ _));exact BK126.out) hb);have n1_ := Aside0.mk (q0l (by repeat (first | (with_reducible first | exact HB.out | apply q0b | apply q0a | apply q0c | refine q0k ?_ GE126.out) | exact HB.out)) hb);have n2_ := Aside0.mk (hbox);have n3_ := Aside0.mk ((by rw [hg];exact (q0g (by repeat (first | (with_reducible first | exact HB.out | apply q0b | apply q0a | apply q0c | refine q0k ?_ GE126.out) | exact HB.out))) : w.heap.size ≤ gb127));have n4_ := Aside0.mk ((by rw [hg];exact (q0g (by repeat (first | (with_reducible first | exact HB.out | apply q0b | apply q0a | apply q0c | refine q0k ?_ GE126.out) | exact HB.out))) : w.heap.size ≤ gb127));have n5_ := Aside0.mk ((by rw [hg];exact Nat.ne_of_lt (blk_lt (g := gb126) (o := .cells #[.int .i64 a0_0,.bool a0_1,.int .i64 a0_2,.string a0_3] 50 (0,0)) (by (with_reducible repeat (first | refine q0i ?_ _ | refine q0j ?_ | refine q0h ?_ _));exact BK126.out)) : gb126 ≠ gb127));have n6_ := Aside0.mk ((by rw [hg];exact Nat.ne_of_gt (blk_lt (g := gb126) (o := .cells #[.int .i64 a0_0,.bool a0_1,.int .i64 a0_2,.string a0_3] 50 (0,0)) (by (with_reducible repeat (first | refine q0i ?_ _ | refine q0j ?_ | refine q0h ?_ _));exact BK126.out)) : gb127 ≠ gb126));clear BK126;clear HB;have BK126 := n0_;have HB := n1_;have BK127 := n2_;have GW127 := n3_;have GE127 := n4_;have NB126_127 := n5_;have NB127_126 := n6_;clear n0_ n1_ n2_ n3_ n4_ n5_ n6_;clear hb hbox hg;have hnb10 := NB126_127.out;have hnc10 := NB127_126.out;have hcz11_0 : w9.cell? ⟨gb126,0,none⟩ = some (.int .i64 a0_0) := (q0e BK126.out 0).trans rfl;have hcz11_1 : w9.cell? ⟨gb126,1,none⟩ = some (.bool a0_1) := (q0e BK126.out 1).trans rfl;have hcz11_2 : w9.cell? ⟨gb126,2,none⟩ = some (.int .i64 a0_2) := (q0e BK126.out 2).trans rfl;have hcz11_3 : w9.cell? ⟨gb126,3,none⟩ = some (.string a0_3) := (q0e BK126.out 3).trans rfl;have hfz11_0 := q0d BK126.out 0;have hfz11_1 := q0d BK126.out 1;have hfz11_2 := q0d BK126.out 2;have hfz11_3 := q0d BK126.out 3;have hcz12_0 : w9.cell? ⟨gb127,0,none⟩ = some (.int .i64 a1_0) := (q0e BK127.out 0).trans rfl;have hcz12_1 : w9.cell? ⟨gb127,1,none⟩ = some (.bool a1_1) := (q0e BK127.out 1).trans rfl;have hcz12_2 : w9.cell? ⟨gb127,2,none⟩ = some (.int .i64 a1_2) := (q0e BK127.out 2).trans rfl;have hcz12_3 : w9.cell? ⟨gb127,3,none⟩ = some (.string a1_3) := (q0e BK127.out 3).trans rfl;have hfz12_0 := q0d BK127.out 0;have hfz12_1 := q0d BK127.out 1;have hfz12_2 := q0d BK127.out 2;have hfz12_3 := q0d BK127.out 3) | (go_at_call 64;(with_reducible refine (value_truth.calls a0_1 t129 _ A5.out).mono ?_);rintro e w' ⟨rfl,⟨nd,rfl⟩⟩;(try first | exact ⟨rfl,_,World.drewN_drewN _ _ _⟩ | exact ⟨rfl,_,Eq.trans (World.drewN_drewN _ _ _) (congrArg (World.drewN _) (Nat.add_assoc _ _ _))⟩)) | (go_at_call 64;(with_reducible refine (value_truth.calls a1_1 t130 _ A6.out).mono ?_);rintro e w' ⟨rfl,⟨nd,rfl⟩⟩;(try first | exact ⟨rfl,_,World.drewN_drewN _ _ _⟩ | exact ⟨rfl,_,Eq.trans (World.drewN_drewN _ _ _) (congrArg (World.drewN _) (Nat.add_assoc _ _ _))⟩)) | (go_at_call 63;(with_reducible refine (cmp_Compare_63.calls t129 t130 t131 _ A7.out).mono ?_);rintro e w' ⟨rfl,⟨nd,rfl⟩⟩;(try first | exact ⟨rfl,_,World.drewN_drewN _ _ _⟩ | exact ⟨rfl,_,Eq.trans (World.drewN_drewN _ _ _) (congrArg (World.drewN _) (Nat.add_assoc _ _ _))⟩)));try go_wp2_with (first | ((with_reducible refine q0s (N := 2) rfl ?_);refine q0r ?hg (N := 2) ?hd (cs := #[.int .i64 a0_0,.bool a0_1,.int .i64 a0_2,.string a0_3]) (t := 50) ?hr ?_;(case hd => rfl);(case hg => rfl);(case hr => first | (go_simp;done) | (go_simp;rfl));intro gb126 hg w8 hbox hb;have n0_ := Aside0.mk (q0l (by repeat (first | (with_reducible first | exact HB.out | apply q0b | apply q0a | apply q0c) | exact HB.out)) hb);have n1_ := Aside0.mk (hbox);have n2_ := Aside0.mk ((by rw [hg];exact (q0g (by repeat (first | (with_reducible first | exact HB.out | apply q0b | apply q0a | apply q0c) | exact HB.out))) : w.heap.size ≤ gb126));have n3_ := Aside0.mk ((by rw [hg];exact (q0g (by repeat (first | (with_reducible first | exact HB.out | apply q0b | apply q0a | apply q0c) | exact HB.out))) : w.heap.size ≤ gb126));clear HB;have HB := n0_;have BK126 := n1_;have GW126 := n2_;have GE126 := n3_;clear n0_ n1_ n2_ n3_;clear hb hbox hg) | ((with_reducible refine q0s (N := 3) rfl ?_);refine q0r ?hg (N := 3) ?hd (cs := #[.int .i64 a1_0,.bool a1_1,.int .i64 a1_2,.string a1_3]) (t := 50) ?hr ?_;(case hd => rfl);(case hg => rfl);(case hr => first | (go_simp;done) | (go_simp;rfl));intro gb127 hg w9 hbox hb;have n0_ := Aside0.mk (blk_below (g := gb126) (o := .cells #[.int .i64 a0_0,.bool a0_1,.int .i64 a0_2,.string a0_3] 50 (0,0)) (by (with_reducible repeat (first | refine q0i ?_ _ | refine q0j ?_ | refine q0h ?_ _));exact BK126.out) hb);have n1_ := Aside0.mk (q0l (by repeat (first | (with_reducible first | exact HB.out | apply q0b | apply q0a | apply q0c | refine q0k ?_ GE126.out) | exact HB.out)) hb);have n2_ := Aside0.mk (hbox);have n3_ := Aside0.mk ((by rw [hg];exact (q0g (by repeat (first | (with_reducible first | exact HB.out | apply q0b | apply q0a | apply q0c | refine q0k ?_ GE126.out) | exact HB.out))) : w.heap.size ≤ gb127));have n4_ := Aside0.mk ((by rw [hg];exact (q0g (by repeat (first | (with_reducible first | exact HB.out | apply q0b | apply q0a | apply q0c | refine q0k ?_ GE126.out) | exact HB.out))) : w.heap.size ≤ gb127));have n5_ := Aside0.mk ((by rw [hg];exact Nat.ne_of_lt (blk_lt (g := gb126) (o := .cells #[.int .i64 a0_0,.bool a0_1,.int .i64 a0_2,.string a0_3] 50 (0,0)) (by (with_reducible repeat (first | refine q0i ?_ _ | refine q0j ?_ | refine q0h ?_ _));exact BK126.out)) : gb126 ≠ gb127));have n6_ := Aside0.mk ((by rw [hg];exact Nat.ne_of_gt (blk_lt (g := gb126) (o := .cells #[.int .i64 a0_0,.bool a0_1,.int .i64 a0_2,.string a0_3] 50 (0,0)) (by (with_reducible repeat (first | refine q0i ?_ _ | refine q0j ?_ | refine q0h ?_ _));exact BK126.out)) : gb127 ≠ gb126));clear BK126;clear HB;have BK126 := n0_;have HB := n1_;have BK127 := n2_;have GW127 := n3_;have GE127 := n4_;have NB126_127 := n5_;have NB127_126 := n6_;clear n0_ n1_ n2_ n3_ n4_ n5_ n6_;clear hb hbox hg;have hnb10 := NB126_127.out;have hnc10 := NB127_126.out;have hcz11_0 : w9.cell? ⟨gb126,0,none⟩ = some (.int .i64 a0_0) := (q0e BK126.out 0).trans rfl;have hcz11_1 : w9.cell? ⟨gb126,1,none⟩ = some (.bool a0_1) := (q0e BK126.out 1).trans rfl;have hcz11_2 : w9.cell? ⟨gb126,2,none⟩ = some (.int .i64 a0_2) := (q0e BK126.out 2).trans rfl;have hcz11_3 : w9.cell? ⟨gb126,3,none⟩ = some (.string a0_3) := (q0e BK126.out 3).trans rfl;have hfz11_0 := q0d BK126.out 0;have hfz11_1 := q0d BK126.out 1;have hfz11_2 := q0d BK126.out 2;have hfz11_3 := q0d BK126.out 3;have hcz12_0 : w9.cell? ⟨gb127,0,none⟩ = some (.int .i64 a1_0) := (q0e BK127.out 0).trans rfl;have hcz12_1 : w9.cell? ⟨gb127,1,none⟩ = some (.bool a1_1) := (q0e BK127.out 1).trans rfl;have hcz12_2 : w9.cell? ⟨gb127,2,none⟩ = some (.int .i64 a1_2) := (q0e BK127.out 2).trans rfl;have hcz12_3 : w9.cell? ⟨gb127,3,none⟩ = some (.string a1_3) := (q0e BK127.out 3).trans rfl;have hfz12_0 := q0d BK127.out 0;have hfz12_1 := q0d BK127.out 1;have hfz12_2 := q0d BK127.out 2;have hfz12_3 := q0d BK127.out 3) | (go_at_call 64;(with_reducible refine (value_truth.calls a0_1 t129 _ A5.out).mono ?_);rintro e w' ⟨rfl,⟨nd,rfl⟩⟩;(try first | exact ⟨rfl,_,World.drewN_drewN _ _ _⟩ | exact ⟨rfl,_,Eq.trans (World.drewN_drewN _ _ _) (congrArg (World.drewN _) (Nat.add_assoc _ _ _))⟩)) | (go_at_call 64;(with_reducible refine (value_truth.calls a1_1 t130 _ A6.out).mono ?_);rintro e w' ⟨rfl,⟨nd,rfl⟩⟩;(try first | exact ⟨rfl,_,World.drewN_drewN _ _ _⟩ | exact ⟨rfl,_,Eq.trans (World.drewN_drewN _ _ _) (congrArg (World.drewN _) (Nat.add_assoc _ _ _))⟩)) | (go_at_call 63;(with_reducible refine (cmp_Compare_63.calls t129 t130 t131 _ A7.out).mono ?_);rintro e w' ⟨rfl,⟨nd,rfl⟩⟩;(try first | exact ⟨rfl,_,World.drewN_drewN _ _ _⟩ | exact ⟨rfl,_,Eq.trans (World.drewN_drewN _ _ _) (congrArg (World.drewN _) (Nat.add_assoc _ _ _))⟩))))
   go_ret
   exact ⟨by first | rfl | (simp [q0n,q0o] <;> rfl) | (simp [*,q0n,q0o] <;> rfl),by repeat (first | (with_reducible first | exact HB.out | apply q0b | apply q0a | apply q0c | refine q0k ?_ GE126.out | refine q0k ?_ GE127.out) | exact HB.out)⟩
  ·rw [if_neg c4] at H
   have c4b0 : (a0_0 == 1) = false := beq_eq_false_iff_ne.mpr c4
   have c4b1 : (a0_0 != 1) = true := bne_iff_ne.mpr c4
   by_cases c13 : a0_0 = 2
   ·rw [if_pos c13] at H
    have c13b0 : (a0_0 == 2) = true := beq_iff_eq.mpr c13
    have c13b1 : (a0_0 != 2) = false := bne_eq_false_iff_eq.mpr c13
    clear c13
    replace H := Option.bind_eq_some_iff.mp H
    obtain ⟨t132,A140,H⟩ := H
    replace H : (some t132) = some r := H
    have A14 := Aside0.mk A140
    clear A140
    obtain rfl := Option.some.inj H
    go_enter Try.func46,Try.ntmps46
    go_wp2_with (first | ((with_reducible refine q0s (N := 2) rfl ?_);refine q0r ?hg (N := 2) ?hd (cs := #[.int .i64 a0_0,.bool a0_1,.int .i64 a0_2,.string a0_3]) (t := 50) ?hr ?_;(case hd => rfl);(case hg => rfl);(case hr => first | (go_simp;done) | (go_simp;rfl));intro gb126 hg w15 hbox hb;have n0_ := Aside0.mk (q0l (by repeat (first | (with_reducible first | exact HB.out | apply q0b | apply q0a | apply q0c) | exact HB.out)) hb);have n1_ := Aside0.mk (hbox);have n2_ := Aside0.mk ((by rw [hg];exact (q0g (by repeat (first | (with_reducible first | exact HB.out | apply q0b | apply q0a | apply q0c) | exact HB.out))) : w.heap.size ≤ gb126));have n3_ := Aside0.mk ((by rw [hg];exact (q0g (by repeat (first | (with_reducible first | exact HB.out | apply q0b | apply q0a | apply q0c) | exact HB.out))) : w.heap.size ≤ gb126));clear HB;have HB := n0_;have BK126 := n1_;have GW126 := n2_;have GE126 := n3_;clear n0_ n1_ n2_ n3_;clear hb hbox hg) | ((with_reducible refine q0s (N := 3) rfl ?_);refine q0r ?hg (N := 3) ?hd (cs := #[.int .i64 a1_0,.bool a1_1,.int .i64 a1_2,.string a1_3]) (t := 50) ?hr ?_;(case hd => rfl);(case hg => rfl);(case hr => first | (go_simp;done) | (go_simp;rfl));intro gb127 hg w16 hbox hb;have n0_ := Aside0.mk (blk_below (g := gb126) (o := .cells #[.int .i64 a0_0,.bool a0_1,.int .i64 a0_2,.string a0_3] 50 (0,0)) (by (with_reducible repeat (first | refine q0i ?_ _ | refine q0j ?_ | refine q0h ?_ _));exact BK126.out) hb);have n1_ := Aside0.mk (q0l (by repeat (first | (with_reducible first | exact HB.out | apply q0b | apply q0a | apply q0c | refine q0k ?_ GE126.out) | exact HB.out)) hb);have n2_ := Aside0.mk (hbox);have n3_ := Aside0.mk ((by rw [hg];exact (q0g (by repeat (first | (with_reducible first | exact HB.out | apply q0b | apply q0a | apply q0c | refine q0k ?_ GE126.out) | exact HB.out))) : w.heap.size ≤ gb127));have n4_ := Aside0.mk ((by rw [hg];exact (q0g (by repeat (first | (with_reducible first | exact HB.out | apply q0b | apply q0a | apply q0c | refine q0k ?_ GE126.out) | exact HB.out))) : w.heap.size ≤ gb127));have n5_ := Aside0.mk ((by rw [hg];exact Nat.ne_of_lt (blk_lt (g := gb126) (o := .cells #[.int .i64 a0_0,.bool a0_1,.int .i64 a0_2,.string a0_3] 50 (0,0)) (by (with_reducible repeat (first | refine q0i ?_ _ | refine q0j ?_ | refine q0h ?_ _));exact BK126.out)) : gb126 ≠ gb127));have n6_ := Aside0.mk ((by rw [hg];exact Nat.ne_of_gt (blk_lt (g := gb126) (o := .cells #[.int .i64 a0_0,.bool a0_1,.int .i64 a0_2,.string a0_3] 50 (0,0)) (by (with_reducible repeat (first | refine q0i ?_ _ | refine q0j ?_ | refine q0h ?_ _));exact BK126.out)) : gb127 ≠ gb126));clear BK126;clear HB;have BK126 := n0_;have HB := n1_;have BK127 := n2_;have GW127 := n3_;have GE127 := n4_;have NB126_127 := n5_;have NB127_126 := n6_;clear n0_ n1_ n2_ n3_ n4_ n5_ n6_;clear hb hbox hg;have hnb17 := NB126_127.out;have hnc17 := NB127_126.out;have hcz18_0 : w16.cell? ⟨gb126,0,none⟩ = some (.int .i64 a0_0) := (q0e BK126.out 0).trans rfl;have hcz18_1 : w16.cell? ⟨gb126,1,none⟩ = some (.bool a0_1) := (q0e BK126.out 1).trans rfl;have hcz18_2 : w16.cell? ⟨gb126,2,none⟩ = some (.int .i64 a0_2) := (q0e BK126.out 2).trans rfl;have hcz18_3 : w16.cell? ⟨gb126,3,none⟩ = some (.string a0_3) := (q0e BK126.out 3).trans rfl;have hfz18_0 := q0d BK126.out 0;have hfz18_1 := q0d BK126.out 1;have hfz18_2 := q0d BK126.out 2;have hfz18_3 := q0d BK126.out 3;have hcz19_0 : w16.cell? ⟨gb127,0,none⟩ = some (.int .i64 a1_0) := (q0e BK127.out 0).trans rfl;have hcz19_1 : w16.cell? ⟨gb127,1,none⟩ = some (.bool a1_1) := (q0e BK127.out 1).trans rfl;have hcz19_2 : w16.cell? ⟨gb127,2,none⟩ = some (.int .i64 a1_2) := (q0e BK127.out 2).trans rfl;have hcz19_3 : w16.cell? ⟨gb127,3,none⟩ = some (.string a1_3) := (q0e BK127.out 3).trans rfl;have hfz19_0 := q0d BK127.out 0;have hfz19_1 := q0d BK127.out 1;have hfz19_2 := q0d BK127.out 2;have hfz19_3 := q0d BK127.out 3) | (go_at_call 65;(with_reducible refine (cmp_Compare_65.calls a0_2 a1_2 t132 _ A14.out).mono ?_);rintro e w' ⟨rfl,⟨nd,rfl⟩⟩;(try first | exact ⟨rfl,_,World.drewN_drewN _ _ _⟩ | exact ⟨rfl,_,Eq.trans (World.drewN_drewN _ _ _) (congrArg (World.drewN _) (Nat.add_assoc _ _ _))⟩)))
    repeat (go_quiet (first | ((with_reducible refine q0s (N := 2) rfl ?_);refine q0r ?hg (N := 2) ?hd (cs := #[.int .i64 a0_0,.bool a0_1,.int .i64 a0_2,.string a0_3]) (t := 50) ?hr ?_;(case hd => rfl);(case hg => rfl);(case hr => first | (go_simp;done) | (go_simp;rfl));intro gb126 hg w15 hbox hb;have n0_ := Aside0.mk (q0l (by repeat (first | (with_reducible first | exact HB.out | apply q0b | apply q0a | apply q0c) | exact HB.out)) hb);have n1_ := Aside0.mk (hbox);have n2_ := Aside0.mk ((by rw [hg];exact (q0g (by repeat (first | (with_reducible first | exact HB.out | apply q0b | apply q0a | apply q0c) | exact HB.out))) : w.heap.size ≤ gb126));have n3_ := Aside0.mk ((by rw [hg];exact (q0g (by repeat (first | (with_reducible first | exact HB.out | apply q0b | apply q0a | apply q0c) | exact HB.out))) : w.heap.size ≤ gb126));clear HB;have HB := n0_;have BK126 := n1_;have GW126 := n2_;have GE126 := n3_;clear n0_ n1_ n2_ n3_;clear hb hbox hg) | ((with_reducible refine q0s (N := 3) rfl ?_);refine q0r ?hg (N := 3) ?hd (cs := #[.int .i64 a1_0,.bool a1_1,.int .i64 a1_2,.string a1_3]) (t := 50) ?hr ?_;(case hd => rfl);(case hg => rfl);(case hr => first | (go_simp;done) | (go_simp;rfl));intro gb127 hg w16 hbox hb;have n0_ := Aside0.mk (blk_below (g := gb126) (o := .cells #[.int .i64 a0_0,.bool a0_1,.int .i64 a0_2,.string a0_3] 50 (0,0)) (by (with_reducible repeat (first | refine q0i ?_ _ | refine q0j ?_ | refine q0h ?_ _));exact BK126.out) hb);have n1_ := Aside0.mk (q0l (by repeat (first | (with_reducible first | exact HB.out | apply q0b | apply q0a | apply q0c | refine q0k ?_ GE126.out) | exact HB.out)) hb);have n2_ := Aside0.mk (hbox);have n3_ := Aside0.mk ((by rw [hg];exact (q0g (by repeat (first | (with_reducible first | exact HB.out | apply q0b | apply q0a | apply q0c | refine q0k ?_ GE126.out) | exact HB.out))) : w.heap.size ≤ gb127));have n4_ := Aside0.mk ((by rw [hg];exact (q0g (by repeat (first | (with_reducible first | exact HB.out | apply q0b | apply q0a | apply q0c | refine q0k ?_ GE126.out) | exact HB.out))) : w.heap.size ≤ gb127));have n5_ := Aside0.mk ((by rw [hg];exact Nat.ne_of_lt (blk_lt (g := gb126) (o := .cells #[.int .i64 a0_0,.bool a0_1,.int .i64 a0_2,.string a0_3] 50 (0,0)) (by (with_reducible repeat (first | refine q0i ?_ _ | refine q0j ?_ | refine q0h ?_ _));exact BK126.out)) : gb126 ≠ gb127));have n6_ := Aside0.mk ((by rw [hg];exact Nat.ne_of_gt (blk_lt (g := gb126) (o := .cells #[.int .i64 a0_0,.bool a0_1,.int .i64 a0_2,.string a0_3] 50 (0,0)) (by (with_reducible repeat (first | refine q0i ?_ _ | refine q0j ?_ | refine q0h ?_ _));exact BK126.out)) : gb127 ≠ gb126));clear BK126;clear HB;have BK126 := n0_;have HB := n1_;have BK127 := n2_;have GW127 := n3_;have GE127 := n4_;have NB126_127 := n5_;have NB127_126 := n6_;clear n0_ n1_ n2_ n3_ n4_ n5_ n6_;clear hb hbox hg;have hnb17 := NB126_127.out;have hnc17 := NB127_126.out;have hcz18_0 : w16.cell? ⟨gb126,0,none⟩ = some (.int .i64 a0_0) := (q0e BK126.out 0).trans rfl;have hcz18_1 : w16.cell? ⟨gb126,1,none⟩ = some (.bool a0_1) := (q0e BK126.out 1).trans rfl;have hcz18_2 : w16.cell? ⟨gb126,2,none⟩ = some (.int .i64 a0_2) := (q0e BK126.out 2).trans rfl;have hcz18_3 : w16.cell? ⟨gb126,3,none⟩ = some (.string a0_3) := (q0e BK126.out 3).trans rfl;have hfz18_0 := q0d BK126.out 0;have hfz18_1 := q0d BK126.out 1;have hfz18_2 := q0d BK126.out 2;have hfz18_3 := q0d BK126.out 3;have hcz19_0 : w16.cell? ⟨gb127,0,none⟩ = some (.int .i64 a1_0) := (q0e BK127.out 0).trans rfl;have hcz19_1 : w16.cell? ⟨gb127,1,none⟩ = some (.bool a1_1) := (q0e BK127.out 1).trans rfl;have hcz19_2 : w16.cell? ⟨gb127,2,none⟩ = some (.int .i64 a1_2) := (q0e BK127.out 2).trans rfl;have hcz19_3 : w16.cell? ⟨gb127,3,none⟩ = some (.string a1_3) := (q0e BK127.out 3).trans rfl;have hfz19_0 := q0d BK127.out 0;have hfz19_1 := q0d BK127.out 1;have hfz19_2 := q0d BK127.out 2;have hfz19_3 := q0d BK127.out 3) | (go_at_call 65;(with_reducible refine (cmp_Compare_65.calls a0_2 a1_2 t132 _ A14.out).mono ?_);rintro e w' ⟨rfl,⟨nd,rfl⟩⟩;(try first | exact ⟨rfl,_,World.drewN_drewN _ _ _⟩ | exact ⟨rfl,_,Eq.trans (World.drewN_drewN _ _ _) (congrArg (World.drewN _) (Nat.add_assoc _ _ _))⟩)));try go_wp2_with (first | ((with_reducible refine q0s (N := 2) rfl ?_);refine q0r ?hg (N := 2) ?hd (cs := #[.int .i64 a0_0,.bool a0_1,.int .i64 a0_2,.string a0_3]) (t := 50) ?hr ?_;(case hd => rfl);(case hg => rfl);(case hr => first | (go_simp;done) | (go_simp;rfl));intro gb126 hg w15 hbox hb;have n0_ := Aside0.mk (q0l (by repeat (first | (with_reducible first | exact HB.out | apply q0b | apply q0a | apply q0c) | exact HB.out)) hb);have n1_ := Aside0.mk (hbox);have n2_ := Aside0.mk ((by rw [hg];exact (q0g (by repeat (first | (with_reducible first | exact HB.out | apply q0b | apply q0a | apply q0c) | exact HB.out))) : w.heap.size ≤ gb126));have n3_ := Aside0.mk ((by rw [hg];exact (q0g (by repeat (first | (with_reducible first | exact HB.out | apply q0b | apply q0a | apply q0c) | exact HB.out))) : w.heap.size ≤ gb126));clear HB;have HB := n0_;have BK126 := n1_;have GW126 := n2_;have GE126 := n3_;clear n0_ n1_ n2_ n3_;clear hb hbox hg) | ((with_reducible refine q0s (N := 3) rfl ?_);refine q0r ?hg (N := 3) ?hd (cs := #[.int .i64 a1_0,.bool a1_1,.int .i64 a1_2,.string a1_3]) (t := 50) ?hr ?_;(case hd => rfl);(case hg => rfl);(case hr => first | (go_simp;done) | (go_simp;rfl));intro gb127 hg w16 hbox hb;have n0_ := Aside0.mk (blk_below (g := gb126) (o := .cells #[.int .i64 a0_0,.bool a0_1,.int .i64 a0_2,.string a0_3] 50 (0,0)) (by (with_reducible repeat (first | refine q0i ?_ _ | refine q0j ?_ | refine q0h ?_ _));exact BK126.out) hb);have n1_ := Aside0.mk (q0l (by repeat (first | (with_reducible first | exact HB.out | apply q0b | apply q0a | apply q0c | refine q0k ?_ GE126.out) | exact HB.out)) hb);have n2_ := Aside0.mk (hbox);have n3_ := Aside0.mk ((by rw [hg];exact (q0g (by repeat (first | (with_reducible first | exact HB.out | apply q0b | apply q0a | apply q0c | refine q0k ?_ GE126.out) | exact HB.out))) : w.heap.size ≤ gb127));have n4_ := Aside0.mk ((by rw [hg];exact (q0g (by repeat (first | (with_reducible first | exact HB.out | apply q0b | apply q0a | apply q0c | refine q0k ?_ GE126.out) | exact HB.out))) : w.heap.size ≤ gb127));have n5_ := Aside0.mk ((by rw [hg];exact Nat.ne_of_lt (blk_lt (g := gb126) (o := .cells #[.int .i64 a0_0,.bool a0_1,.int .i64 a0_2,.string a0_3] 50 (0,0)) (by (with_reducible repeat (first | refine q0i ?_ _ | refine q0j ?_ | refine q0h ?_ _));exact BK126.out)) : gb126 ≠ gb127));have n6_ := Aside0.mk ((by rw [hg];exact Nat.ne_of_gt (blk_lt (g := gb126) (o := .cells #[.int .i64 a0_0,.bool a0_1,.int .i64 a0_2,.string a0_3] 50 (0,0)) (by (with_reducible repeat (first | refine q0i ?_ _ | refine q0j ?_ | refine q0h ?_ _));exact BK126.out)) : gb127 ≠ gb126));clear BK126;clear HB;have BK126 := n0_;have HB := n1_;have BK127 := n2_;have GW127 := n3_;have GE127 := n4_;have NB126_127 := n5_;have NB127_126 := n6_;clear n0_ n1_ n2_ n3_ n4_ n5_ n6_;clear hb hbox hg;have hnb17 := NB126_127.out;have hnc17 := NB127_126.out;have hcz18_0 : w16.cell? ⟨gb126,0,none⟩ = some (.int .i64 a0_0) := (q0e BK126.out 0).trans rfl;have hcz18_1 : w16.cell? ⟨gb126,1,none⟩ = some (.bool a0_1) := (q0e BK126.out 1).trans rfl;have hcz18_2 : w16.cell? ⟨gb126,2,none⟩ = some (.int .i64 a0_2) := (q0e BK126.out 2).trans rfl;have hcz18_3 : w16.cell? ⟨gb126,3,none⟩ = some (.string a0_3) := (q0e BK126.out 3).trans rfl;have hfz18_0 := q0d BK126.out 0;have hfz18_1 := q0d BK126.out 1;have hfz18_2 := q0d BK126.out 2;have hfz18_3 := q0d BK126.out 3;have hcz19_0 : w16.cell? ⟨gb127,0,none⟩ = some (.int .i64 a1_0) := (q0e BK127.out 0).trans rfl;have hcz19_1 : w16.cell? ⟨gb127,1,none⟩ = some (.bool a1_1) := (q0e BK127.out 1).trans rfl;have hcz19_2 : w16.cell? ⟨gb127,2,none⟩ = some (.int .i64 a1_2) := (q0e BK127.out 2).trans rfl;have hcz19_3 : w16.cell? ⟨gb127,3,none⟩ = some (.string a1_3) := (q0e BK127.out 3).trans rfl;have hfz19_0 := q0d BK127.out 0;have hfz19_1 := q0d BK127.out 1;have hfz19_2 := q0d BK127.out 2;have hfz19_3 := q0d BK127.out 3) | (go_at_call 65;(with_reducible refine (cmp_Compare_65.calls a0_2 a1_2 t132 _ A14.out).mono ?_);rintro e w' ⟨rfl,⟨nd,rfl⟩⟩;(try first | exact ⟨rfl,_,World.drewN_drewN _ _ _⟩ | exact ⟨rfl,_,Eq.trans (World.drewN_drewN _ _ _) (congrArg (World.drewN _) (Nat.add_assoc _ _ _))⟩))))
    go_ret
    exact ⟨by first | rfl | (simp [q0n,q0o] <;> rfl) | (simp [*,q0n,q0o] <;> rfl),by repeat (first | (with_reducible first | exact HB.out | apply q0b | apply q0a | apply q0c | refine q0k ?_ GE126.out | refine q0k ?_ GE127.out) | exact HB.out)⟩
   ·rw [if_neg c13] at H
    have c13b0 : (a0_0 == 2) = false := beq_eq_false_iff_ne.mpr c13
    have c13b1 : (a0_0 != 2) = true := bne_iff_ne.mpr c13
    by_cases c20 : a0_0 = 3
    ·rw [if_pos c20] at H
     have c20b0 : (a0_0 == 3) = true := beq_iff_eq.mpr c20
     have c20b1 : (a0_0 != 3) = false := bne_eq_false_iff_eq.mpr c20
     clear c20
     replace H := Option.bind_eq_some_iff.mp H
     obtain ⟨t133,A210,H⟩ := H
     replace H : (some t133) = some r := H
     have A21 := Aside0.mk A210
     clear A210
     obtain rfl := Option.some.inj H
     go_enter Try.func46,Try.ntmps46
     go_wp2_with (first | ((with_reducible refine q0s (N := 2) rfl ?_);refine q0r ?hg (N := 2) ?hd (cs := #[.int .i64 a0_0,.bool a0_1,.int .i64 a0_2,.string a0_3]) (t := 50) ?hr ?_;(case hd => rfl);(case hg => rfl);(case hr => first | (go_simp;done) | (go_simp;rfl));intro gb126 hg w22 hbox hb;have n0_ := Aside0.mk (q0l (by repeat (first | (with_reducible first | exact HB.out | apply q0b | apply q0a | apply q0c) | exact HB.out)) hb);have n1_ := Aside0.mk (hbox);have n2_ := Aside0.mk ((by rw [hg];exact (q0g (by repeat (first | (with_reducible first | exact HB.out | apply q0b | apply q0a | apply q0c) | exact HB.out))) : w.heap.size ≤ gb126));have n3_ := Aside0.mk ((by rw [hg];exact (q0g (by repeat (first | (with_reducible first | exact HB.out | apply q0b | apply q0a | apply q0c) | exact HB.out))) : w.heap.size ≤ gb126));clear HB;have HB := n0_;have BK126 := n1_;have GW126 := n2_;have GE126 := n3_;clear n0_ n1_ n2_ n3_;clear hb hbox hg) | ((with_reducible refine q0s (N := 3) rfl ?_);refine q0r ?hg (N := 3) ?hd (cs := #[.int .i64 a1_0,.bool a1_1,.int .i64 a1_2,.string a1_3]) (t := 50) ?hr ?_;(case hd => rfl);(case hg => rfl);(case hr => first | (go_simp;done) | (go_simp;rfl));intro gb127 hg w23 hbox hb;have n0_ := Aside0.mk (blk_below (g := gb126) (o := .cells #[.int .i64 a0_0,.bool a0_1,.int .i64 a0_2,.string a0_3] 50 (0,0)) (by (with_reducible repeat (first | refine q0i ?_ _ | refine q0j ?_ | refine q0h ?_ _));exact BK126.out) hb);have n1_ := Aside0.mk (q0l (by repeat (first | (with_reducible first | exact HB.out | apply q0b | apply q0a | apply q0c | refine q0k ?_ GE126.out) | exact HB.out)) hb);have n2_ := Aside0.mk (hbox);have n3_ := Aside0.mk ((by rw [hg];exact (q0g (by repeat (first | (with_reducible first | exact HB.out | apply q0b | apply q0a | apply q0c | refine q0k ?_ GE126.out) | exact HB.out))) : w.heap.size ≤ gb127));have n4_ := Aside0.mk ((by rw [hg];exact (q0g (by repeat (first | (with_reducible first | exact HB.out | apply q0b | apply q0a | apply q0c | refine q0k ?_ GE126.out) | exact HB.out))) : w.heap.size ≤ gb127));have n5_ := Aside0.mk ((by rw [hg];exact Nat.ne_of_lt (blk_lt (g := gb126) (o := .cells #[.int .i64 a0_0,.bool a0_1,.int .i64 a0_2,.string a0_3] 50 (0,0)) (by (with_reducible repeat (first | refine q0i ?_ _ | refine q0j ?_ | refine q0h ?_ _));exact BK126.out)) : gb126 ≠ gb127));have n6_ := Aside0.mk ((by rw [hg];exact Nat.ne_of_gt (blk_lt (g := gb126) (o := .cells #[.int .i64 a0_0,.bool a0_1,.int .i64 a0_2,.string a0_3] 50 (0,0)) (by (with_reducible repeat (first | refine q0i ?_ _ | refine q0j ?_ | refine q0h ?_ _));exact BK126.out)) : gb127 ≠ gb126));clear BK126;clear HB;have BK126 := n0_;have HB := n1_;have BK127 := n2_;have GW127 := n3_;have GE127 := n4_;have NB126_127 := n5_;have NB127_126 := n6_;clear n0_ n1_ n2_ n3_ n4_ n5_ n6_;clear hb hbox hg;have hnb24 := NB126_127.out;have hnc24 := NB127_126.out;have hcz25_0 : w23.cell? ⟨gb126,0,none⟩ = some (.int .i64 a0_0) := (q0e BK126.out 0).trans rfl;have hcz25_1 : w23.cell? ⟨gb126,1,none⟩ = some (.bool a0_1) := (q0e BK126.out 1).trans rfl;have hcz25_2 : w23.cell? ⟨gb126,2,none⟩ = some (.int .i64 a0_2) := (q0e BK126.out 2).trans rfl;have hcz25_3 : w23.cell? ⟨gb126,3,none⟩ = some (.string a0_3) := (q0e BK126.out 3).trans rfl;have hfz25_0 := q0d BK126.out 0;have hfz25_1 := q0d BK126.out 1;have hfz25_2 := q0d BK126.out 2;have hfz25_3 := q0d BK126.out 3;have hcz26_0 : w23.cell? ⟨gb127,0,none⟩ = some (.int .i64 a1_0) := (q0e BK127.out 0).trans rfl;have hcz26_1 : w23.cell? ⟨gb127,1,none⟩ = some (.bool a1_1) := (q0e BK127.out 1).trans rfl;have hcz26_2 : w23.cell? ⟨gb127,2,none⟩ = some (.int .i64 a1_2) := (q0e BK127.out 2).trans rfl;have hcz26_3 : w23.cell? ⟨gb127,3,none⟩ = some (.string a1_3) := (q0e BK127.out 3).trans rfl;have hfz26_0 := q0d BK127.out 0;have hfz26_1 := q0d BK127.out 1;have hfz26_2 := q0d BK127.out 2;have hfz26_3 := q0d BK127.out 3) | (go_at_call 66;(with_reducible refine (strings_Compare.calls a0_3 a1_3 t133 _ A21.out).mono ?_);rintro e w27 ⟨rfl,hb⟩;have n0_ := Aside0.mk (blk_below (g := gb126) (o := .cells #[.int .i64 a0_0,.bool a0_1,.int .i64 a0_2,.string a0_3] 50 (0,0)) (by (with_reducible repeat (first | refine q0i ?_ _ | refine q0j ?_ | refine q0h ?_ _));exact BK126.out) hb);have n1_ := Aside0.mk (blk_below (g := gb127) (o := .cells #[.int .i64 a1_0,.bool a1_1,.int .i64 a1_2,.string a1_3] 50 (0,0)) (by (with_reducible repeat (first | refine q0i ?_ _ | refine q0j ?_ | refine q0h ?_ _));exact BK127.out) hb);have n2_ := Aside0.mk (q0l (by repeat (first | (with_reducible first | exact HB.out | apply q0b | apply q0a | apply q0c | refine q0k ?_ GE126.out | refine q0k ?_ GE127.out) | exact HB.out)) hb);clear BK126;clear BK127;clear HB;have BK126 := n0_;have BK127 := n1_;have HB := n2_;clear n0_ n1_ n2_;(try clear hb);(try clear hb2);(try clear hk);(try clear hi)))
     repeat (go_quiet (first | ((with_reducible refine q0s (N := 2) rfl ?_);refine q0r ?hg (N := 2) ?hd (cs := #[.int .i64 a0_0,.bool a0_1,.int .i64 a0_2,.string a0_3]) (t := 50) ?hr ?_;(case hd => rfl);(case hg => rfl);(case hr => first | (go_simp;done) | (go_simp;rfl));intro gb126 hg w22 hbox hb;have n0_ := Aside0.mk (q0l (by repeat (first | (with_reducible first | exact HB.out | apply q0b | apply q0a | apply q0c) | exact HB.out)) hb);have n1_ := Aside0.mk (hbox);have n2_ := Aside0.mk ((by rw [hg];exact (q0g (by repeat (first | (with_reducible first | exact HB.out | apply q0b | apply q0a | apply q0c) | exact HB.out))) : w.heap.size ≤ gb126));have n3_ := Aside0.mk ((by rw [hg];exact (q0g (by repeat (first | (with_reducible first | exact HB.out | apply q0b | apply q0a | apply q0c) | exact HB.out))) : w.heap.size ≤ gb126));clear HB;have HB := n0_;have BK126 := n1_;have GW126 := n2_;have GE126 := n3_;clear n0_ n1_ n2_ n3_;clear hb hbox hg) | ((with_reducible refine q0s (N := 3) rfl ?_);refine q0r ?hg (N := 3) ?hd (cs := #[.int .i64 a1_0,.bool a1_1,.int .i64 a1_2,.string a1_3]) (t := 50) ?hr ?_;(case hd => rfl);(case hg => rfl);(case hr => first | (go_simp;done) | (go_simp;rfl));intro gb127 hg w23 hbox hb;have n0_ := Aside0.mk (blk_below (g := gb126) (o := .cells #[.int .i64 a0_0,.bool a0_1,.int .i64 a0_2,.string a0_3] 50 (0,0)) (by (with_reducible repeat (first | refine q0i ?_ _ | refine q0j ?_ | refine q0h ?_ _));exact BK126.out) hb);have n1_ := Aside0.mk (q0l (by repeat (first | (with_reducible first | exact HB.out | apply q0b | apply q0a | apply q0c | refine q0k ?_ GE126.out) | exact HB.out)) hb);have n2_ := Aside0.mk (hbox);have n3_ := Aside0.mk ((by rw [hg];exact (q0g (by repeat (first | (with_reducible first | exact HB.out | apply q0b | apply q0a | apply q0c | refine q0k ?_ GE126.out) | exact HB.out))) : w.heap.size ≤ gb127));have n4_ := Aside0.mk ((by rw [hg];exact (q0g (by repeat (first | (with_reducible first | exact HB.out | apply q0b | apply q0a | apply q0c | refine q0k ?_ GE126.out) | exact HB.out))) : w.heap.size ≤ gb127));have n5_ := Aside0.mk ((by rw [hg];exact Nat.ne_of_lt (blk_lt (g := gb126) (o := .cells #[.int .i64 a0_0,.bool a0_1,.int .i64 a0_2,.string a0_3] 50 (0,0)) (by (with_reducible repeat (first | refine q0i ?_ _ | refine q0j ?_ | refine q0h ?_ _));exact BK126.out)) : gb126 ≠ gb127));have n6_ := Aside0.mk ((by rw [hg];exact Nat.ne_of_gt (blk_lt (g := gb126) (o := .cells #[.int .i64 a0_0,.bool a0_1,.int .i64 a0_2,.string a0_3] 50 (0,0)) (by (with_reducible repeat (first | refine q0i ?_ _ | refine q0j ?_ | refine q0h ?_ _));exact BK126.out)) : gb127 ≠ gb126));clear BK126;clear HB;have BK126 := n0_;have HB := n1_;have BK127 := n2_;have GW127 := n3_;have GE127 := n4_;have NB126_127 := n5_;have NB127_126 := n6_;clear n0_ n1_ n2_ n3_ n4_ n5_ n6_;clear hb hbox hg;have hnb24 := NB126_127.out;have hnc24 := NB127_126.out;have hcz25_0 : w23.cell? ⟨gb126,0,none⟩ = some (.int .i64 a0_0) := (q0e BK126.out 0).trans rfl;have hcz25_1 : w23.cell? ⟨gb126,1,none⟩ = some (.bool a0_1) := (q0e BK126.out 1).trans rfl;have hcz25_2 : w23.cell? ⟨gb126,2,none⟩ = some (.int .i64 a0_2) := (q0e BK126.out 2).trans rfl;have hcz25_3 : w23.cell? ⟨gb126,3,none⟩ = some (.string a0_3) := (q0e BK126.out 3).trans rfl;have hfz25_0 := q0d BK126.out 0;have hfz25_1 := q0d BK126.out 1;have hfz25_2 := q0d BK126.out 2;have hfz25_3 := q0d BK126.out 3;have hcz26_0 : w23.cell? ⟨gb127,0,none⟩ = some (.int .i64 a1_0) := (q0e BK127.out 0).trans rfl;have hcz26_1 : w23.cell? ⟨gb127,1,none⟩ = some (.bool a1_1) := (q0e BK127.out 1).trans rfl;have hcz26_2 : w23.cell? ⟨gb127,2,none⟩ = some (.int .i64 a1_2) := (q0e BK127.out 2).trans rfl;have hcz26_3 : w23.cell? ⟨gb127,3,none⟩ = some (.string a1_3) := (q0e BK127.out 3).trans rfl;have hfz26_0 := q0d BK127.out 0;have hfz26_1 := q0d BK127.out 1;have hfz26_2 := q0d BK127.out 2;have hfz26_3 := q0d BK127.out 3) | (go_at_call 66;(with_reducible refine (strings_Compare.calls a0_3 a1_3 t133 _ A21.out).mono ?_);rintro e w27 ⟨rfl,hb⟩;have n0_ := Aside0.mk (blk_below (g := gb126) (o := .cells #[.int .i64 a0_0,.bool a0_1,.int .i64 a0_2,.string a0_3] 50 (0,0)) (by (with_reducible repeat (first | refine q0i ?_ _ | refine q0j ?_ | refine q0h ?_ _));exact BK126.out) hb);have n1_ := Aside0.mk (blk_below (g := gb127) (o := .cells #[.int .i64 a1_0,.bool a1_1,.int .i64 a1_2,.string a1_3] 50 (0,0)) (by (with_reducible repeat (first | refine q0i ?_ _ | refine q0j ?_ | refine q0h ?_ _));exact BK127.out) hb);have n2_ := Aside0.mk (q0l (by repeat (first | (with_reducible first | exact HB.out | apply q0b | apply q0a | apply q0c | refine q0k ?_ GE126.out | refine q0k ?_ GE127.out) | exact HB.out)) hb);clear BK126;clear BK127;clear HB;have BK126 := n0_;have BK127 := n1_;have HB := n2_;clear n0_ n1_ n2_;(try clear hb);(try clear hb2);(try clear hk);(try clear hi)));try go_wp2_with (first | ((with_reducible refine q0s (N := 2) rfl ?_);refine q0r ?hg (N := 2) ?hd (cs := #[.int .i64 a0_0,.bool a0_1,.int .i64 a0_2,.string a0_3]) (t := 50) ?hr ?_;(case hd => rfl);(case hg => rfl);(case hr => first | (go_simp;done) | (go_simp;rfl));intro gb126 hg w22 hbox hb;have n0_ := Aside0.mk (q0l (by repeat (first | (with_reducible first | exact HB.out | apply q0b | apply q0a | apply q0c) | exact HB.out)) hb);have n1_ := Aside0.mk (hbox);have n2_ := Aside0.mk ((by rw [hg];exact (q0g (by repeat (first | (with_reducible first | exact HB.out | apply q0b | apply q0a | apply q0c) | exact HB.out))) : w.heap.size ≤ gb126));have n3_ := Aside0.mk ((by rw [hg];exact (q0g (by repeat (first | (with_reducible first | exact HB.out | apply q0b | apply q0a | apply q0c) | exact HB.out))) : w.heap.size ≤ gb126));clear HB;have HB := n0_;have BK126 := n1_;have GW126 := n2_;have GE126 := n3_;clear n0_ n1_ n2_ n3_;clear hb hbox hg) | ((with_reducible refine q0s (N := 3) rfl ?_);refine q0r ?hg (N := 3) ?hd (cs := #[.int .i64 a1_0,.bool a1_1,.int .i64 a1_2,.string a1_3]) (t := 50) ?hr ?_;(case hd => rfl);(case hg => rfl);(case hr => first | (go_simp;done) | (go_simp;rfl));intro gb127 hg w23 hbox hb;have n0_ := Aside0.mk (blk_below (g := gb126) (o := .cells #[.int .i64 a0_0,.bool a0_1,.int .i64 a0_2,.string a0_3] 50 (0,0)) (by (with_reducible repeat (first | refine q0i ?_ _ | refine q0j ?_ | refine q0h ?_ _));exact BK126.out) hb);have n1_ := Aside0.mk (q0l (by repeat (first | (with_reducible first | exact HB.out | apply q0b | apply q0a | apply q0c | refine q0k ?_ GE126.out) | exact HB.out)) hb);have n2_ := Aside0.mk (hbox);have n3_ := Aside0.mk ((by rw [hg];exact (q0g (by repeat (first | (with_reducible first | exact HB.out | apply q0b | apply q0a | apply q0c | refine q0k ?_ GE126.out) | exact HB.out))) : w.heap.size ≤ gb127));have n4_ := Aside0.mk ((by rw [hg];exact (q0g (by repeat (first | (with_reducible first | exact HB.out | apply q0b | apply q0a | apply q0c | refine q0k ?_ GE126.out) | exact HB.out))) : w.heap.size ≤ gb127));have n5_ := Aside0.mk ((by rw [hg];exact Nat.ne_of_lt (blk_lt (g := gb126) (o := .cells #[.int .i64 a0_0,.bool a0_1,.int .i64 a0_2,.string a0_3] 50 (0,0)) (by (with_reducible repeat (first | refine q0i ?_ _ | refine q0j ?_ | refine q0h ?_ _));exact BK126.out)) : gb126 ≠ gb127));have n6_ := Aside0.mk ((by rw [hg];exact Nat.ne_of_gt (blk_lt (g := gb126) (o := .cells #[.int .i64 a0_0,.bool a0_1,.int .i64 a0_2,.string a0_3] 50 (0,0)) (by (with_reducible repeat (first | refine q0i ?_ _ | refine q0j ?_ | refine q0h ?_ _));exact BK126.out)) : gb127 ≠ gb126));clear BK126;clear HB;have BK126 := n0_;have HB := n1_;have BK127 := n2_;have GW127 := n3_;have GE127 := n4_;have NB126_127 := n5_;have NB127_126 := n6_;clear n0_ n1_ n2_ n3_ n4_ n5_ n6_;clear hb hbox hg;have hnb24 := NB126_127.out;have hnc24 := NB127_126.out;have hcz25_0 : w23.cell? ⟨gb126,0,none⟩ = some (.int .i64 a0_0) := (q0e BK126.out 0).trans rfl;have hcz25_1 : w23.cell? ⟨gb126,1,none⟩ = some (.bool a0_1) := (q0e BK126.out 1).trans rfl;have hcz25_2 : w23.cell? ⟨gb126,2,none⟩ = some (.int .i64 a0_2) := (q0e BK126.out 2).trans rfl;have hcz25_3 : w23.cell? ⟨gb126,3,none⟩ = some (.string a0_3) := (q0e BK126.out 3).trans rfl;have hfz25_0 := q0d BK126.out 0;have hfz25_1 := q0d BK126.out 1;have hfz25_2 := q0d BK126.out 2;have hfz25_3 := q0d BK126.out 3;have hcz26_0 : w23.cell? ⟨gb127,0,none⟩ = some (.int .i64 a1_0) := (q0e BK127.out 0).trans rfl;have hcz26_1 : w23.cell? ⟨gb127,1,none⟩ = some (.bool a1_1) := (q0e BK127.out 1).trans rfl;have hcz26_2 : w23.cell? ⟨gb127,2,none⟩ = some (.int .i64 a1_2) := (q0e BK127.out 2).trans rfl;have hcz26_3 : w23.cell? ⟨gb127,3,none⟩ = some (.string a1_3) := (q0e BK127.out 3).trans rfl;have hfz26_0 := q0d BK127.out 0;have hfz26_1 := q0d BK127.out 1;have hfz26_2 := q0d BK127.out 2;have hfz26_3 := q0d BK127.out 3) | (go_at_call 66;(with_reducible refine (strings_Compare.calls a0_3 a1_3 t133 _ A21.out).mono ?_);rintro e w27 ⟨rfl,hb⟩;have n0_ := Aside0.mk (blk_below (g := gb126) (o := .cells #[.int .i64 a0_0,.bool a0_1,.int .i64 a0_2,.string a0_3] 50 (0,0)) (by (with_reducible repeat (first | refine q0i ?_ _ | refine q0j ?_ | refine q0h ?_ _));exact BK126.out) hb);have n1_ := Aside0.mk (blk_below (g := gb127) (o := .cells #[.int .i64 a1_0,.bool a1_1,.int .i64 a1_2,.string a1_3] 50 (0,0)) (by (with_reducible repeat (first | refine q0i ?_ _ | refine q0j ?_ | refine q0h ?_ _));exact BK127.out) hb);have n2_ := Aside0.mk (q0l (by repeat (first | (with_reducible first | exact HB.out | apply q0b | apply q0a | apply q0c | refine q0k ?_ GE126.out | refine q0k ?_ GE127.out) | exact HB.out)) hb);clear BK126;clear BK127;clear HB;have BK126 := n0_;have BK127 := n1_;have HB := n2_;clear n0_ n1_ n2_;(try clear hb);(try clear hb2);(try clear hk);(try clear hi))))
     go_ret
     exact ⟨by first | rfl | (simp [q0n,q0o] <;> rfl) | (simp [*,q0n,q0o] <;> rfl),by repeat (first | (with_reducible first | exact HB.out | apply q0b | apply q0a | apply q0c | refine q0k ?_ GE126.out | refine q0k ?_ GE127.out) | exact HB.out)⟩
    ·rw [if_neg c20] at H
     have c20b0 : (a0_0 == 3) = false := beq_eq_false_iff_ne.mpr c20
     have c20b1 : (a0_0 != 3) = true := bne_iff_ne.mpr c20
     obtain rfl := Option.some.inj H
     go_enter Try.func46,Try.ntmps46
     go_wp2_with (first | ((with_reducible refine q0s (N := 2) rfl ?_);refine q0r ?hg (N := 2) ?hd (cs := #[.int .i64 a0_0,.bool a0_1,.int .i64 a0_2,.string a0_3]) (t := 50) ?hr ?_;(case hd => rfl);(case hg => rfl);(case hr => first | (go_simp;done) | (go_simp;rfl));intro gb126 hg w28 hbox hb;have n0_ := Aside0.mk (q0l (by repeat (first | (with_reducible first | exact HB.out | apply q0b | apply q0a | apply q0c) | exact HB.out)) hb);have n1_ := Aside0.mk (hbox);have n2_ := Aside0.mk ((by rw [hg];exact (q0g (by repeat (first | (with_reducible first | exact HB.out | apply q0b | apply q0a | apply q0c) | exact HB.out))) : w.heap.size ≤ gb126));have n3_ := Aside0.mk ((by rw [hg];exact (q0g (by repeat (first | (with_reducible first | exact HB.out | apply q0b | apply q0a | apply q0c) | exact HB.out))) : w.heap.size ≤ gb126));clear HB;have HB := n0_;have BK126 := n1_;have GW126 := n2_;have GE126 := n3_;clear n0_ n1_ n2_ n3_;clear hb hbox hg) | ((with_reducible refine q0s (N := 3) rfl ?_);refine q0r ?hg (N := 3) ?hd (cs := #[.int .i64 a1_0,.bool a1_1,.int .i64 a1_2,.string a1_3]) (t := 50) ?hr ?_;(case hd => rfl);(case hg => rfl);(case hr => first | (go_simp;done) | (go_simp;rfl));intro gb127 hg w29 hbox hb;have n0_ := Aside0.mk (blk_below (g := gb126) (o := .cells #[.int .i64 a0_0,.bool a0_1,.int .i64 a0_2,.string a0_3] 50 (0,0)) (by (with_reducible repeat (first | refine q0i ?_ _ | refine q0j ?_ | refine q0h ?_ _));exact BK126.out) hb);have n1_ := Aside0.mk (q0l (by repeat (first | (with_reducible first | exact HB.out | apply q0b | apply q0a | apply q0c | refine q0k ?_ GE126.out) | exact HB.out)) hb);have n2_ := Aside0.mk (hbox);have n3_ := Aside0.mk ((by rw [hg];exact (q0g (by repeat (first | (with_reducible first | exact HB.out | apply q0b | apply q0a | apply q0c | refine q0k ?_ GE126.out) | exact HB.out))) : w.heap.size ≤ gb127));have n4_ := Aside0.mk ((by rw [hg];exact (q0g (by repeat (first | (with_reducible first | exact HB.out | apply q0b | apply q0a | apply q0c | refine q0k ?_ GE126.out) | exact HB.out))) : w.heap.size ≤ gb127));have n5_ := Aside0.mk ((by rw [hg];exact Nat.ne_of_lt (blk_lt (g := gb126) (o := .cells #[.int .i64 a0_0,.bool a0_1,.int .i64 a0_2,.string a0_3] 50 (0,0)) (by (with_reducible repeat (first | refine q0i ?_ _ | refine q0j ?_ | refine q0h ?_ _));exact BK126.out)) : gb126 ≠ gb127));have n6_ := Aside0.mk ((by rw [hg];exact Nat.ne_of_gt (blk_lt (g := gb126) (o := .cells #[.int .i64 a0_0,.bool a0_1,.int .i64 a0_2,.string a0_3] 50 (0,0)) (by (with_reducible repeat (first | refine q0i ?_ _ | refine q0j ?_ | refine q0h ?_ _));exact BK126.out)) : gb127 ≠ gb126));clear BK126;clear HB;have BK126 := n0_;have HB := n1_;have BK127 := n2_;have GW127 := n3_;have GE127 := n4_;have NB126_127 := n5_;have NB127_126 := n6_;clear n0_ n1_ n2_ n3_ n4_ n5_ n6_;clear hb hbox hg;have hnb30 := NB126_127.out;have hnc30 := NB127_126.out;have hcz31_0 : w29.cell? ⟨gb126,0,none⟩ = some (.int .i64 a0_0) := (q0e BK126.out 0).trans rfl;have hcz31_1 : w29.cell? ⟨gb126,1,none⟩ = some (.bool a0_1) := (q0e BK126.out 1).trans rfl;have hcz31_2 : w29.cell? ⟨gb126,2,none⟩ = some (.int .i64 a0_2) := (q0e BK126.out 2).trans rfl;have hcz31_3 : w29.cell? ⟨gb126,3,none⟩ = some (.string a0_3) := (q0e BK126.out 3).trans rfl;have hfz31_0 := q0d BK126.out 0;have hfz31_1 := q0d BK126.out 1;have hfz31_2 := q0d BK126.out 2;have hfz31_3 := q0d BK126.out 3;have hcz32_0 : w29.cell? ⟨gb127,0,none⟩ = some (.int .i64 a1_0) := (q0e BK127.out 0).trans rfl;have hcz32_1 : w29.cell? ⟨gb127,1,none⟩ = some (.bool a1_1) := (q0e BK127.out 1).trans rfl;have hcz32_2 : w29.cell? ⟨gb127,2,none⟩ = some (.int .i64 a1_2) := (q0e BK127.out 2).trans rfl;have hcz32_3 : w29.cell? ⟨gb127,3,none⟩ = some (.string a1_3) := (q0e BK127.out 3).trans rfl;have hfz32_0 := q0d BK127.out 0;have hfz32_1 := q0d BK127.out 1;have hfz32_2 := q0d BK127.out 2;have hfz32_3 := q0d BK127.out 3))
     repeat (go_quiet (first | ((with_reducible refine q0s (N := 2) rfl ?_);refine q0r ?hg (N := 2) ?hd (cs := #[.int .i64 a0_0,.bool a0_1,.int .i64 a0_2,.string a0_3]) (t := 50) ?hr ?_;(case hd => rfl);(case hg => rfl);(case hr => first | (go_simp;done) | (go_simp;rfl));intro gb126 hg w28 hbox hb;have n0_ := Aside0.mk (q0l (by repeat (first | (with_reducible first | exact HB.out | apply q0b | apply q0a | apply q0c) | exact HB.out)) hb);have n1_ := Aside0.mk (hbox);have n2_ := Aside0.mk ((by rw [hg];exact (q0g (by repeat (first | (with_reducible first | exact HB.out | apply q0b | apply q0a | apply q0c) | exact HB.out))) : w.heap.size ≤ gb126));have n3_ := Aside0.mk ((by rw [hg];exact (q0g (by repeat (first | (with_reducible first | exact HB.out | apply q0b | apply q0a | apply q0c) | exact HB.out))) : w.heap.size ≤ gb126));clear HB;have HB := n0_;have BK126 := n1_;have GW126 := n2_;have GE126 := n3_;clear n0_ n1_ n2_ n3_;clear hb hbox hg) | ((with_reducible refine q0s (N := 3) rfl ?_);refine q0r ?hg (N := 3) ?hd (cs := #[.int .i64 a1_0,.bool a1_1,.int .i64 a1_2,.string a1_3]) (t := 50) ?hr ?_;(case hd => rfl);(case hg => rfl);(case hr => first | (go_simp;done) | (go_simp;rfl));intro gb127 hg w29 hbox hb;have n0_ := Aside0.mk (blk_below (g := gb126) (o := .cells #[.int .i64 a0_0,.bool a0_1,.int .i64 a0_2,.string a0_3] 50 (0,0)) (by (with_reducible repeat (first | refine q0i ?_ _ | refine q0j ?_ | refine q0h ?_ _));exact BK126.out) hb);have n1_ := Aside0.mk (q0l (by repeat (first | (with_reducible first | exact HB.out | apply q0b | apply q0a | apply q0c | refine q0k ?_ GE126.out) | exact HB.out)) hb);have n2_ := Aside0.mk (hbox);have n3_ := Aside0.mk ((by rw [hg];exact (q0g (by repeat (first | (with_reducible first | exact HB.out | apply q0b | apply q0a | apply q0c | refine q0k ?_ GE126.out) | exact HB.out))) : w.heap.size ≤ gb127));have n4_ := Aside0.mk ((by rw [hg];exact (q0g (by repeat (first | (with_reducible first | exact HB.out | apply q0b | apply q0a | apply q0c | refine q0k ?_ GE126.out) | exact HB.out))) : w.heap.size ≤ gb127));have n5_ := Aside0.mk ((by rw [hg];exact Nat.ne_of_lt (blk_lt (g := gb126) (o := .cells #[.int .i64 a0_0,.bool a0_1,.int .i64 a0_2,.string a0_3] 50 (0,0)) (by (with_reducible repeat (first | refine q0i ?_ _ | refine q0j ?_ | refine q0h ?_ _));exact BK126.out)) : gb126 ≠ gb127));have n6_ := Aside0.mk ((by rw [hg];exact Nat.ne_of_gt (blk_lt (g := gb126) (o := .cells #[.int .i64 a0_0,.bool a0_1,.int .i64 a0_2,.string a0_3] 50 (0,0)) (by (with_reducible repeat (first | refine q0i ?_ _ | refine q0j ?_ | refine q0h ?_ _));exact BK126.out)) : gb127 ≠ gb126));clear BK126;clear HB;have BK126 := n0_;have HB := n1_;have BK127 := n2_;have GW127 := n3_;have GE127 := n4_;have NB126_127 := n5_;have NB127_126 := n6_;clear n0_ n1_ n2_ n3_ n4_ n5_ n6_;clear hb hbox hg;have hnb30 := NB126_127.out;have hnc30 := NB127_126.out;have hcz31_0 : w29.cell? ⟨gb126,0,none⟩ = some (.int .i64 a0_0) := (q0e BK126.out 0).trans rfl;have hcz31_1 : w29.cell? ⟨gb126,1,none⟩ = some (.bool a0_1) := (q0e BK126.out 1).trans rfl;have hcz31_2 : w29.cell? ⟨gb126,2,none⟩ = some (.int .i64 a0_2) := (q0e BK126.out 2).trans rfl;have hcz31_3 : w29.cell? ⟨gb126,3,none⟩ = some (.string a0_3) := (q0e BK126.out 3).trans rfl;have hfz31_0 := q0d BK126.out 0;have hfz31_1 := q0d BK126.out 1;have hfz31_2 := q0d BK126.out 2;have hfz31_3 := q0d BK126.out 3;have hcz32_0 : w29.cell? ⟨gb127,0,none⟩ = some (.int .i64 a1_0) := (q0e BK127.out 0).trans rfl;have hcz32_1 : w29.cell? ⟨gb127,1,none⟩ = some (.bool a1_1) := (q0e BK127.out 1).trans rfl;have hcz32_2 : w29.cell? ⟨gb127,2,none⟩ = some (.int .i64 a1_2) := (q0e BK127.out 2).trans rfl;have hcz32_3 : w29.cell? ⟨gb127,3,none⟩ = some (.string a1_3) := (q0e BK127.out 3).trans rfl;have hfz32_0 := q0d BK127.out 0;have hfz32_1 := q0d BK127.out 1;have hfz32_2 := q0d BK127.out 2;have hfz32_3 := q0d BK127.out 3));try go_wp2_with (first | ((with_reducible refine q0s (N := 2) rfl ?_);refine q0r ?hg (N := 2) ?hd (cs := #[.int .i64 a0_0,.bool a0_1,.int .i64 a0_2,.string a0_3]) (t := 50) ?hr ?_;(case hd => rfl);(case hg => rfl);(case hr => first | (go_simp;done) | (go_simp;rfl));intro gb126 hg w28 hbox hb;have n0_ := Aside0.mk (q0l (by repeat (first | (with_reducible first | exact HB.out | apply q0b | apply q0a | apply q0c) | exact HB.out)) hb);have n1_ := Aside0.mk (hbox);have n2_ := Aside0.mk ((by rw [hg];exact (q0g (by repeat (first | (with_reducible first | exact HB.out | apply q0b | apply q0a | apply q0c) | exact HB.out))) : w.heap.size ≤ gb126));have n3_ := Aside0.mk ((by rw [hg];exact (q0g (by repeat (first | (with_reducible first | exact HB.out | apply q0b | apply q0a | apply q0c) | exact HB.out))) : w.heap.size ≤ gb126));clear HB;have HB := n0_;have BK126 := n1_;have GW126 := n2_;have GE126 := n3_;clear n0_ n1_ n2_ n3_;clear hb hbox hg) | ((with_reducible refine q0s (N := 3) rfl ?_);refine q0r ?hg (N := 3) ?hd (cs := #[.int .i64 a1_0,.bool a1_1,.int .i64 a1_2,.string a1_3]) (t := 50) ?hr ?_;(case hd => rfl);(case hg => rfl);(case hr => first | (go_simp;done) | (go_simp;rfl));intro gb127 hg w29 hbox hb;have n0_ := Aside0.mk (blk_below (g := gb126) (o := .cells #[.int .i64 a0_0,.bool a0_1,.int .i64 a0_2,.string a0_3] 50 (0,0)) (by (with_reducible repeat (first | refine q0i ?_ _ | refine q0j ?_ | refine q0h ?_ _));exact BK126.out) hb);have n1_ := Aside0.mk (q0l (by repeat (first | (with_reducible first | exact HB.out | apply q0b | apply q0a | apply q0c | refine q0k ?_ GE126.out) | exact HB.out)) hb);have n2_ := Aside0.mk (hbox);have n3_ := Aside0.mk ((by rw [hg];exact (q0g (by repeat (first | (with_reducible first | exact HB.out | apply q0b | apply q0a | apply q0c | refine q0k ?_ GE126.out) | exact HB.out))) : w.heap.size ≤ gb127));have n4_ := Aside0.mk ((by rw [hg];exact (q0g (by repeat (first | (with_reducible first | exact HB.out | apply q0b | apply q0a | apply q0c | refine q0k ?_ GE126.out) | exact HB.out))) : w.heap.size ≤ gb127));have n5_ := Aside0.mk ((by rw [hg];exact Nat.ne_of_lt (blk_lt (g := gb126) (o := .cells #[.int .i64 a0_0,.bool a0_1,.int .i64 a0_2,.string a0_3] 50 (0,0)) (by (with_reducible repeat (first | refine q0i ?_ _ | refine q0j ?_ | refine q0h ?_ _));exact BK126.out)) : gb126 ≠ gb127));have n6_ := Aside0.mk ((by rw [hg];exact Nat.ne_of_gt (blk_lt (g := gb126) (o := .cells #[.int .i64 a0_0,.bool a0_1,.int .i64 a0_2,.string a0_3] 50 (0,0)) (by (with_reducible repeat (first | refine q0i ?_ _ | refine q0j ?_ | refine q0h ?_ _));exact BK126.out)) : gb127 ≠ gb126));clear BK126;clear HB;have BK126 := n0_;have HB := n1_;have BK127 := n2_;have GW127 := n3_;have GE127 := n4_;have NB126_127 := n5_;have NB127_126 := n6_;clear n0_ n1_ n2_ n3_ n4_ n5_ n6_;clear hb hbox hg;have hnb30 := NB126_127.out;have hnc30 := NB127_126.out;have hcz31_0 : w29.cell? ⟨gb126,0,none⟩ = some (.int .i64 a0_0) := (q0e BK126.out 0).trans rfl;have hcz31_1 : w29.cell? ⟨gb126,1,none⟩ = some (.bool a0_1) := (q0e BK126.out 1).trans rfl;have hcz31_2 : w29.cell? ⟨gb126,2,none⟩ = some (.int .i64 a0_2) := (q0e BK126.out 2).trans rfl;have hcz31_3 : w29.cell? ⟨gb126,3,none⟩ = some (.string a0_3) := (q0e BK126.out 3).trans rfl;have hfz31_0 := q0d BK126.out 0;have hfz31_1 := q0d BK126.out 1;have hfz31_2 := q0d BK126.out 2;have hfz31_3 := q0d BK126.out 3;have hcz32_0 : w29.cell? ⟨gb127,0,none⟩ = some (.int .i64 a1_0) := (q0e BK127.out 0).trans rfl;have hcz32_1 : w29.cell? ⟨gb127,1,none⟩ = some (.bool a1_1) := (q0e BK127.out 1).trans rfl;have hcz32_2 : w29.cell? ⟨gb127,2,none⟩ = some (.int .i64 a1_2) := (q0e BK127.out 2).trans rfl;have hcz32_3 : w29.cell? ⟨gb127,3,none⟩ = some (.string a1_3) := (q0e BK127.out 3).trans rfl;have hfz32_0 := q0d BK127.out 0;have hfz32_1 := q0d BK127.out 1;have hfz32_2 := q0d BK127.out 2;have hfz32_3 := q0d BK127.out 3)))
     go_ret
     exact ⟨by first | rfl | (simp [q0n,q0o] <;> rfl) | (simp [*,q0n,q0o] <;> rfl),by repeat (first | (with_reducible first | exact HB.out | apply q0b | apply q0a | apply q0c | refine q0k ?_ GE126.out | refine q0k ?_ GE127.out) | exact HB.out)⟩
 ·rw [if_neg c3] at H
  have c3b0 : (a0_0 == a1_0) = false := beq_eq_false_iff_ne.mpr c3
  have c3b1 : (a0_0 != a1_0) = true := bne_iff_ne.mpr c3
  replace H := Option.bind_eq_some_iff.mp H
  obtain ⟨t128,A330,H⟩ := H
  replace H : (some t128) = some r := H
  have A33 := Aside0.mk A330
  clear A330
  obtain rfl := Option.some.inj H
  go_enter Try.func46,Try.ntmps46
  go_wp2_with (first | ((with_reducible refine q0s (N := 2) rfl ?_);refine q0r ?hg (N := 2) ?hd (cs := #[.int .i64 a0_0,.bool a0_1,.int .i64 a0_2,.string a0_3]) (t := 50) ?hr ?_;(case hd => rfl);(case hg => rfl);(case hr => first | (go_simp;done) | (go_simp;rfl));intro gb126 hg w34 hbox hb;have n0_ := Aside0.mk (q0l (by repeat (first | (with_reducible first | exact HB.out | apply q0b | apply q0a | apply q0c) | exact HB.out)) hb);have n1_ := Aside0.mk (hbox);have n2_ := Aside0.mk ((by rw [hg];exact (q0g (by repeat (first | (with_reducible first | exact HB.out | apply q0b | apply q0a | apply q0c) | exact HB.out))) : w.heap.size ≤ gb126));have n3_ := Aside0.mk ((by rw [hg];exact (q0g (by repeat (first | (with_reducible first | exact HB.out | apply q0b | apply q0a | apply q0c) | exact HB.out))) : w.heap.size ≤ gb126));clear HB;have HB := n0_;have BK126 := n1_;have GW126 := n2_;have GE126 := n3_;clear n0_ n1_ n2_ n3_;clear hb hbox hg) | ((with_reducible refine q0s (N := 3) rfl ?_);refine q0r ?hg (N := 3) ?hd (cs := #[.int .i64 a1_0,.bool a1_1,.int .i64 a1_2,.string a1_3]) (t := 50) ?hr ?_;(case hd => rfl);(case hg => rfl);(case hr => first | (go_simp;done) | (go_simp;rfl));intro gb127 hg w35 hbox hb;have n0_ := Aside0.mk (blk_below (g := gb126) (o := .cells #[.int .i64 a0_0,.bool a0_1,.int .i64 a0_2,.string a0_3] 50 (0,0)) (by (with_reducible repeat (first | refine q0i ?_ _ | refine q0j ?_ | refine q0h ?_ _));exact BK126.out) hb);have n1_ := Aside0.mk (q0l (by repeat (first | (with_reducible first | exact HB.out | apply q0b | apply q0a | apply q0c | refine q0k ?_ GE126.out) | exact HB.out)) hb);have n2_ := Aside0.mk (hbox);have n3_ := Aside0.mk ((by rw [hg];exact (q0g (by repeat (first | (with_reducible first | exact HB.out | apply q0b | apply q0a | apply q0c | refine q0k ?_ GE126.out) | exact HB.out))) : w.heap.size ≤ gb127));have n4_ := Aside0.mk ((by rw [hg];exact (q0g (by repeat (first | (with_reducible first | exact HB.out | apply q0b | apply q0a | apply q0c | refine q0k ?_ GE126.out) | exact HB.out))) : w.heap.size ≤ gb127));have n5_ := Aside0.mk ((by rw [hg];exact Nat.ne_of_lt (blk_lt (g := gb126) (o := .cells #[.int .i64 a0_0,.bool a0_1,.int .i64 a0_2,.string a0_3] 50 (0,0)) (by (with_reducible repeat (first | refine q0i ?_ _ | refine q0j ?_ | refine q0h ?_ _));exact BK126.out)) : gb126 ≠ gb127));have n6_ := Aside0.mk ((by rw [hg];exact Nat.ne_of_gt (blk_lt (g := gb126) (o := .cells #[.int .i64 a0_0,.bool a0_1,.int .i64 a0_2,.string a0_3] 50 (0,0)) (by (with_reducible repeat (first | refine q0i ?_ _ | refine q0j ?_ | refine q0h ?_ _));exact BK126.out)) : gb127 ≠ gb126));clear BK126;clear HB;have BK126 := n0_;have HB := n1_;have BK127 := n2_;have GW127 := n3_;have GE127 := n4_;have NB126_127 := n5_;have NB127_126 := n6_;clear n0_ n1_ n2_ n3_ n4_ n5_ n6_;clear hb hbox hg;have hnb36 := NB126_127.out;have hnc36 := NB127_126.out;have hcz37_0 : w35.cell? ⟨gb126,0,none⟩ = some (.int .i64 a0_0) := (q0e BK126.out 0).trans rfl;have hcz37_1 : w35.cell? ⟨gb126,1,none⟩ = some (.bool a0_1) := (q0e BK126.out 1).trans rfl;have hcz37_2 : w35.cell? ⟨gb126,2,none⟩ = some (.int .i64 a0_2) := (q0e BK126.out 2).trans rfl;have hcz37_3 : w35.cell? ⟨gb126,3,none⟩ = some (.string a0_3) := (q0e BK126.out 3).trans rfl;have hfz37_0 := q0d BK126.out 0;have hfz37_1 := q0d BK126.out 1;have hfz37_2 := q0d BK126.out 2;have hfz37_3 := q0d BK126.out 3;have hcz38_0 : w35.cell? ⟨gb127,0,none⟩ = some (.int .i64 a1_0) := (q0e BK127.out 0).trans rfl;have hcz38_1 : w35.cell? ⟨gb127,1,none⟩ = some (.bool a1_1) := (q0e BK127.out 1).trans rfl;have hcz38_2 : w35.cell? ⟨gb127,2,none⟩ = some (.int .i64 a1_2) := (q0e BK127.out 2).trans rfl;have hcz38_3 : w35.cell? ⟨gb127,3,none⟩ = some (.string a1_3) := (q0e BK127.out 3).trans rfl;have hfz38_0 := q0d BK127.out 0;have hfz38_1 := q0d BK127.out 1;have hfz38_2 := q0d BK127.out 2;have hfz38_3 := q0d BK127.out 3) | (go_at_call 63;(with_reducible refine (cmp_Compare_63.calls a0_0 a1_0 t128 _ A33.out).mono ?_);rintro e w' ⟨rfl,⟨nd,rfl⟩⟩;(try first | exact ⟨rfl,_,World.drewN_drewN _ _ _⟩ | exact ⟨rfl,_,Eq.trans (World.drewN_drewN _ _ _) (congrArg (World.drewN _) (Nat.add_assoc _ _ _))⟩)))
  repeat (go_quiet (first | ((with_reducible refine q0s (N := 2) rfl ?_);refine q0r ?hg (N := 2) ?hd (cs := #[.int .i64 a0_0,.bool a0_1,.int .i64 a0_2,.string a0_3]) (t := 50) ?hr ?_;(case hd => rfl);(case hg => rfl);(case hr => first | (go_simp;done) | (go_simp;rfl));intro gb126 hg w34 hbox hb;have n0_ := Aside0.mk (q0l (by repeat (first | (with_reducible first | exact HB.out | apply q0b | apply q0a | apply q0c) | exact HB.out)) hb);have n1_ := Aside0.mk (hbox);have n2_ := Aside0.mk ((by rw [hg];exact (q0g (by repeat (first | (with_reducible first | exact HB.out | apply q0b | apply q0a | apply q0c) | exact HB.out))) : w.heap.size ≤ gb126));have n3_ := Aside0.mk ((by rw [hg];exact (q0g (by repeat (first | (with_reducible first | exact HB.out | apply q0b | apply q0a | apply q0c) | exact HB.out))) : w.heap.size ≤ gb126));clear HB;have HB := n0_;have BK126 := n1_;have GW126 := n2_;have GE126 := n3_;clear n0_ n1_ n2_ n3_;clear hb hbox hg) | ((with_reducible refine q0s (N := 3) rfl ?_);refine q0r ?hg (N := 3) ?hd (cs := #[.int .i64 a1_0,.bool a1_1,.int .i64 a1_2,.string a1_3]) (t := 50) ?hr ?_;(case hd => rfl);(case hg => rfl);(case hr => first | (go_simp;done) | (go_simp;rfl));intro gb127 hg w35 hbox hb;have n0_ := Aside0.mk (blk_below (g := gb126) (o := .cells #[.int .i64 a0_0,.bool a0_1,.int .i64 a0_2,.string a0_3] 50 (0,0)) (by (with_reducible repeat (first | refine q0i ?_ _ | refine q0j ?_ | refine q0h ?_ _));exact BK126.out) hb);have n1_ := Aside0.mk (q0l (by repeat (first | (with_reducible first | exact HB.out | apply q0b | apply q0a | apply q0c | refine q0k ?_ GE126.out) | exact HB.out)) hb);have n2_ := Aside0.mk (hbox);have n3_ := Aside0.mk ((by rw [hg];exact (q0g (by repeat (first | (with_reducible first | exact HB.out | apply q0b | apply q0a | apply q0c | refine q0k ?_ GE126.out) | exact HB.out))) : w.heap.size ≤ gb127));have n4_ := Aside0.mk ((by rw [hg];exact (q0g (by repeat (first | (with_reducible first | exact HB.out | apply q0b | apply q0a | apply q0c | refine q0k ?_ GE126.out) | exact HB.out))) : w.heap.size ≤ gb127));have n5_ := Aside0.mk ((by rw [hg];exact Nat.ne_of_lt (blk_lt (g := gb126) (o := .cells #[.int .i64 a0_0,.bool a0_1,.int .i64 a0_2,.string a0_3] 50 (0,0)) (by (with_reducible repeat (first | refine q0i ?_ _ | refine q0j ?_ | refine q0h ?_ _));exact BK126.out)) : gb126 ≠ gb127));have n6_ := Aside0.mk ((by rw [hg];exact Nat.ne_of_gt (blk_lt (g := gb126) (o := .cells #[.int .i64 a0_0,.bool a0_1,.int .i64 a0_2,.string a0_3] 50 (0,0)) (by (with_reducible repeat (first | refine q0i ?_ _ | refine q0j ?_ | refine q0h ?_ _));exact BK126.out)) : gb127 ≠ gb126));clear BK126;clear HB;have BK126 := n0_;have HB := n1_;have BK127 := n2_;have GW127 := n3_;have GE127 := n4_;have NB126_127 := n5_;have NB127_126 := n6_;clear n0_ n1_ n2_ n3_ n4_ n5_ n6_;clear hb hbox hg;have hnb36 := NB126_127.out;have hnc36 := NB127_126.out;have hcz37_0 : w35.cell? ⟨gb126,0,none⟩ = some (.int .i64 a0_0) := (q0e BK126.out 0).trans rfl;have hcz37_1 : w35.cell? ⟨gb126,1,none⟩ = some (.bool a0_1) := (q0e BK126.out 1).trans rfl;have hcz37_2 : w35.cell? ⟨gb126,2,none⟩ = some (.int .i64 a0_2) := (q0e BK126.out 2).trans rfl;have hcz37_3 : w35.cell? ⟨gb126,3,none⟩ = some (.string a0_3) := (q0e BK126.out 3).trans rfl;have hfz37_0 := q0d BK126.out 0;have hfz37_1 := q0d BK126.out 1;have hfz37_2 := q0d BK126.out 2;have hfz37_3 := q0d BK126.out 3;have hcz38_0 : w35.cell? ⟨gb127,0,none⟩ = some (.int .i64 a1_0) := (q0e BK127.out 0).trans rfl;have hcz38_1 : w35.cell? ⟨gb127,1,none⟩ = some (.bool a1_1) := (q0e BK127.out 1).trans rfl;have hcz38_2 : w35.cell? ⟨gb127,2,none⟩ = some (.int .i64 a1_2) := (q0e BK127.out 2).trans rfl;have hcz38_3 : w35.cell? ⟨gb127,3,none⟩ = some (.string a1_3) := (q0e BK127.out 3).trans rfl;have hfz38_0 := q0d BK127.out 0;have hfz38_1 := q0d BK127.out 1;have hfz38_2 := q0d BK127.out 2;have hfz38_3 := q0d BK127.out 3) | (go_at_call 63;(with_reducible refine (cmp_Compare_63.calls a0_0 a1_0 t128 _ A33.out).mono ?_);rintro e w' ⟨rfl,⟨nd,rfl⟩⟩;(try first | exact ⟨rfl,_,World.drewN_drewN _ _ _⟩ | exact ⟨rfl,_,Eq.trans (World.drewN_drewN _ _ _) (congrArg (World.drewN _) (Nat.add_assoc _ _ _))⟩)));try go_wp2_with (first | ((with_reducible refine q0s (N := 2) rfl ?_);refine q0r ?hg (N := 2) ?hd (cs := #[.int .i64 a0_0,.bool a0_1,.int .i64 a0_2,.string a0_3]) (t := 50) ?hr ?_;(case hd => rfl);(case hg => rfl);(case hr => first | (go_simp;done) | (go_simp;rfl));intro gb126 hg w34 hbox hb;have n0_ := Aside0.mk (q0l (by repeat (first | (with_reducible first | exact HB.out | apply q0b | apply q0a | apply q0c) | exact HB.out)) hb);have n1_ := Aside0.mk (hbox);have n2_ := Aside0.mk ((by rw [hg];exact (q0g (by repeat (first | (with_reducible first | exact HB.out | apply q0b | apply q0a | apply q0c) | exact HB.out))) : w.heap.size ≤ gb126));have n3_ := Aside0.mk ((by rw [hg];exact (q0g (by repeat (first | (with_reducible first | exact HB.out | apply q0b | apply q0a | apply q0c) | exact HB.out))) : w.heap.size ≤ gb126));clear HB;have HB := n0_;have BK126 := n1_;have GW126 := n2_;have GE126 := n3_;clear n0_ n1_ n2_ n3_;clear hb hbox hg) | ((with_reducible refine q0s (N := 3) rfl ?_);refine q0r ?hg (N := 3) ?hd (cs := #[.int .i64 a1_0,.bool a1_1,.int .i64 a1_2,.string a1_3]) (t := 50) ?hr ?_;(case hd => rfl);(case hg => rfl);(case hr => first | (go_simp;done) | (go_simp;rfl));intro gb127 hg w35 hbox hb;have n0_ := Aside0.mk (blk_below (g := gb126) (o := .cells #[.int .i64 a0_0,.bool a0_1,.int .i64 a0_2,.string a0_3] 50 (0,0)) (by (with_reducible repeat (first | refine q0i ?_ _ | refine q0j ?_ | refine q0h ?_ _));exact BK126.out) hb);have n1_ := Aside0.mk (q0l (by repeat (first | (with_reducible first | exact HB.out | apply q0b | apply q0a | apply q0c | refine q0k ?_ GE126.out) | exact HB.out)) hb);have n2_ := Aside0.mk (hbox);have n3_ := Aside0.mk ((by rw [hg];exact (q0g (by repeat (first | (with_reducible first | exact HB.out | apply q0b | apply q0a | apply q0c | refine q0k ?_ GE126.out) | exact HB.out))) : w.heap.size ≤ gb127));have n4_ := Aside0.mk ((by rw [hg];exact (q0g (by repeat (first | (with_reducible first | exact HB.out | apply q0b | apply q0a | apply q0c | refine q0k ?_ GE126.out) | exact HB.out))) : w.heap.size ≤ gb127));have n5_ := Aside0.mk ((by rw [hg];exact Nat.ne_of_lt (blk_lt (g := gb126) (o := .cells #[.int .i64 a0_0,.bool a0_1,.int .i64 a0_2,.string a0_3] 50 (0,0)) (by (with_reducible repeat (first | refine q0i ?_ _ | refine q0j ?_ | refine q0h ?_ _));exact BK126.out)) : gb126 ≠ gb127));have n6_ := Aside0.mk ((by rw [hg];exact Nat.ne_of_gt (blk_lt (g := gb126) (o := .cells #[.int .i64 a0_0,.bool a0_1,.int .i64 a0_2,.string a0_3] 50 (0,0)) (by (with_reducible repeat (first | refine q0i ?_ _ | refine q0j ?_ | refine q0h ?_ _));exact BK126.out)) : gb127 ≠ gb126));clear BK126;clear HB;have BK126 := n0_;have HB := n1_;have BK127 := n2_;have GW127 := n3_;have GE127 := n4_;have NB126_127 := n5_;have NB127_126 := n6_;clear n0_ n1_ n2_ n3_ n4_ n5_ n6_;clear hb hbox hg;have hnb36 := NB126_127.out;have hnc36 := NB127_126.out;have hcz37_0 : w35.cell? ⟨gb126,0,none⟩ = some (.int .i64 a0_0) := (q0e BK126.out 0).trans rfl;have hcz37_1 : w35.cell? ⟨gb126,1,none⟩ = some (.bool a0_1) := (q0e BK126.out 1).trans rfl;have hcz37_2 : w35.cell? ⟨gb126,2,none⟩ = some (.int .i64 a0_2) := (q0e BK126.out 2).trans rfl;have hcz37_3 : w35.cell? ⟨gb126,3,none⟩ = some (.string a0_3) := (q0e BK126.out 3).trans rfl;have hfz37_0 := q0d BK126.out 0;have hfz37_1 := q0d BK126.out 1;have hfz37_2 := q0d BK126.out 2;have hfz37_3 := q0d BK126.out 3;have hcz38_0 : w35.cell? ⟨gb127,0,none⟩ = some (.int .i64 a1_0) := (q0e BK127.out 0).trans rfl;have hcz38_1 : w35.cell? ⟨gb127,1,none⟩ = some (.bool a1_1) := (q0e BK127.out 1).trans rfl;have hcz38_2 : w35.cell? ⟨gb127,2,none⟩ = some (.int .i64 a1_2) := (q0e BK127.out 2).trans rfl;have hcz38_3 : w35.cell? ⟨gb127,3,none⟩ = some (.string a1_3) := (q0e BK127.out 3).trans rfl;have hfz38_0 := q0d BK127.out 0;have hfz38_1 := q0d BK127.out 1;have hfz38_2 := q0d BK127.out 2;have hfz38_3 := q0d BK127.out 3) | (go_at_call 63;(with_reducible refine (cmp_Compare_63.calls a0_0 a1_0 t128 _ A33.out).mono ?_);rintro e w' ⟨rfl,⟨nd,rfl⟩⟩;(try first | exact ⟨rfl,_,World.drewN_drewN _ _ _⟩ | exact ⟨rfl,_,Eq.trans (World.drewN_drewN _ _ _) (congrArg (World.drewN _) (Nat.add_assoc _ _ _))⟩))))
  go_ret
  exact ⟨by first | rfl | (simp [q0n,q0o] <;> rfl) | (simp [*,q0n,q0o] <;> rfl),by repeat (first | (with_reducible first | exact HB.out | apply q0b | apply q0a | apply q0c | refine q0k ?_ GE126.out | refine q0k ?_ GE127.out) | exact HB.out)⟩
end Go.Proofs.Ytfoaeigoajooeaa.Z
end
section
namespace Go.Proofs.YtfoaeigoajooeaaW.PrintMore
open Go.RowKit Go.Proofs.YtfoaeigoajooeaaW.PrintWords Go.Proofs.YtfoaeigoajooeaaW.PrintLast
section
variable {P : Program} {ops : Array Oper} {Q : Exit → Act → World → Prop}
theorem gate_tmp {rest : List Oper} {o : Oper} {a : Act} {W : World} {n : Nat} {as_ : Array Operand} {ts : Array TypeId} (_ho : o.op = .call { callee := .value (.tmp n),args := as_,argTypes := ts }) (h : wpList P ops Q (o :: rest) a W) : wpList P ops Q (o :: rest) a W := h
theorem goesT_ {rest : List Oper} {oi : Oper} {a : Act} {w : World} (N : Option Tmp) (hd : oi.dst = N) (hg : oi.guard = none) {x : Operand} {f : FuncId} {lb : Array Value} {fn : Func} {as_ : Array Operand} {ts : Array TypeId} (hf : P.funcs[f]? = some fn) (hname : (fn.name == "runtime.NumGoroutine") = false) (hb : fn.body.isSome = true) (args : Array Value)
  (hop : oi.op = .call { callee := .value x,args := as_,argTypes := ts }) (hx : a.eval x = .func (.func f) #[] lb) (hargs : as_.map a.eval ++ lb = args)
  (h : Calls P f args w fun e w' => ∃ v,e = .returned v ∧ wpList P ops Q rest (a.put N v) w') : wpList P ops Q (oi :: rest) a w := by
 refine wpList_plain hg fun K hK => ?_
 have he := enters_ hf hname hb args w
 have hrun : (execOp a.eval oi).run P w = .ok (.enter f args) w := by
  unfold execOp
  simp [hop,resolve,Deferred.ofValue,invoke,hx,hargs,he]
 unfold Oper.wp
 rw [hrun,Oper.upon_enter]
 refine h.mono fun e w'' hh => ?_
 obtain ⟨v,rfl,hk⟩ := hh
 subst hd
 exact hK _ _ hk
end
end Go.Proofs.YtfoaeigoajooeaaW.PrintMore
namespace Go.Proofs.YtfoaeigoajooeaaW.PrintWords
open Go.RowKit
section
variable {P : Program} {ops : Array Oper} {Q : Exit → Act → World → Prop} {o : Oper} {rest : List Oper} {a : Act}
theorem Kd.R_make0 {α : Type} (d : Kd α) {w0 W : World} (base e : Nat) (hgd : o.guard = none) {N : Tmp} (_hd : o.dst = some N) (t : TypeId) (x y : Operand) (ho : o.op = .makeSlice t x y) (n : Int) (hx : a.eval x = .int .i64 0) (hy : a.eval y = .int .i64 n)
  (ht : P.underlying t = some (.slice e)) (z : Value) (bytes : Nat) (hinfo : (P.info? e).map (fun i => (i.zero,i.size,i.bytes)) = some (some z,d.sz,bytes)) (_hz : z.cells.size = d.sz) (_hs0 : 0 < d.sz) (hb0 : 0 < bytes)
  (z0 : α) {ok okp : Nat → Prop} (_hzero : d.M W base okp z0 z.cells.toList) (_hok : ∀ k,okp k → ok k) (hfresh : ok W.heap.size) (h0 : 0 ≤ n) (hl : n.toNat * bytes ≤ 281474976710656) (HB : Below base w0 W) (hbase : base ≤ W.heap.size)
  (h : ∀ v1 w1,d.R e w1 base ok v1 [] → Below base w0 w1 → W.grownBy w1 none → (∃ b,v1.ownBlock = some b ∧ W.heap.size ≤ b) → wpList P ops Q rest (a.put o.dst v1) w1) : wpList P ops Q (o :: rest) a W := by
 obtain ⟨m,rfl⟩ := Int.eq_ofNat_of_zero_le h0
 simp only [Int.toNat_natCast] at hl
 obtain ⟨i0,hi,hzz⟩ := Option.map_eq_some_iff.1 hinfo
 simp only [Prod.mk.injEq] at hzz
 obtain ⟨hz0,hz1,hz2⟩ := hzz
 have hm : m ≤ 281474976710656 := Nat.le_trans (Nat.le_mul_of_pos_right _ hb0) hl
 obtain ⟨w',hr,hown,hg⟩ := run_make_own (P := P) (w := W) base t e i0 z d.sz ht hi hz0 hz1 .i64 .i64 m (by rw [hz2,Nat.mul_comm];exact hl) (by unfold maxLen;omega) hbase
 have hrun : (execOp a.eval o).run P W = .ok (.value (.slice (some ⟨W.heap.size,0,none⟩) 0 m)) w' := by
  simp [execOp,ho,hx,hy,hr]
 refine Kd.event_run hgd hrun (h _ _ ⟨fun k hk => ?_,[],hown,Reps.none _ _⟩ (HB.grown hg hbase (fun k hk => by simp at hk)) hg ⟨W.heap.size,by simp [Value.ownBlock],Nat.le_refl _⟩)
 have : W.heap.size = k := by simpa [Value.ownBlock] using hk
 subst this
 exact hfresh
end
end Go.Proofs.YtfoaeigoajooeaaW.PrintWords
namespace Go.Proofs.YtfoaeigoajooeaaW.PrintWords
open Go.RowKit
theorem cut_zero {P : Program} {t e : TypeId} {z : Option Value} {sz by_ : Nat} (ht : P.underlying t = some (.slice e)) (hinfo : (P.info? e).map (fun i => (i.zero,i.size,i.bytes)) = some (z,sz,by_)) (W : World) (A : Option Addr) (n c : Nat) :
  (Instr.slice t (.slice A n c) none (some (.int .i64 0)) none).run P W = .ok (.slice A 0 c) W := by
 obtain ⟨i0,hi,_⟩ := Option.map_eq_some_iff.1 hinfo
 have hel : P.elem t = e := by simp [Program.elem,ht]
 have hu : P.underlying t = some (.slice (P.elem t)) := by rw [hel];exact ht
 have ha : (A.map fun x => x.add 0) = A := by cases A <;> simp [Addr.add]
 rw [run_slice_h W t A n c hu .i64 0 (by omega) (by omega),hel]
 simp [sizeOf,typeInfo,hi,sliced,Result.andThen,ha]
theorem C_none {α : Type} {d : Kd α} {w : World} {xs : List α} (h : d.C w none xs.length xs) : xs = [] := by
 cases xs with
 | nil => rfl
 | cons x xs =>
  obtain ⟨ad,_,he,_⟩ := Kd.C_get h x 0 (by omega) (by simp)
  cases he
end Go.Proofs.YtfoaeigoajooeaaW.PrintWords
end
section
namespace Go.Proofs.Ytfoaeigoajooeaa.Z
open Go.RowKit Go.Proofs.YtfoaeigoajooeaaW.PrintWords Go.Proofs.YtfoaeigoajooeaaW.PrintLast Go.Proofs.YtfoaeigoajooeaaW.PrintMore
attribute [local go_sem] max2_int min2_int max_two min_two max_three min_three max_four min_four
set_option linter.unusedVariables false
set_option linter.unusedSimpArgs false
def slices_CompareFunc.l0 : Nat → List (S50) → List (S50) → List (S50) → Int → Int → Option (Int)
 | 0,_,_,_,_,_ => none
 | k + 1,x0,x1,x11,x12,x13 => if x13 < x12 then (if 0 ≤ x13 then (if x13 < (x11.length : Int) then (if x13 ≥ (x1.length : Int) then (some 1) else (if x13 < (x1.length : Int) then ((value_Compare.f ((q0f x11 x13).f0) ((q0f x11 x13).f1) ((q0f x11 x13).f2) ((q0f x11 x13).f3) ((q0f x1 x13).f0) ((q0f x1 x13).f1) ((q0f x1 x13).f2) ((q0f x1 x13).f3)).bind fun t138 => (if t138 = 0 then (slices_CompareFunc.l0 k x0 x1 x11 x12 (wrap64 (x13 + 1))) else (some t138))) else (none))) else (none)) else (none)) else (if (x0.length : Int) < (x1.length : Int) then (some (-1)) else (some 0))
def slices_CompareFunc.f (k : Nat) (l0 : List (S50)) (l1 : List (S50)) (a2 : Int) : Option (Int) := slices_CompareFunc.l0 k l0 l1 l0 (l0.length : Int) 0
theorem slices_CompareFunc.mono_l : ∀ k,(∀ y0 y1 y2 y3 y4,LeO (slices_CompareFunc.l0 k y0 y1 y2 y3 y4) (slices_CompareFunc.l0 (k + 1) y0 y1 y2 y3 y4))
 | 0 => fun _ _ _ _ _ r h => by simp [slices_CompareFunc.l0] at h
 | k + 1 => by
  have ih0 := slices_CompareFunc.mono_l k
  ·intro y0 y1 y2 y3 y4
   unfold slices_CompareFunc.l0
   repeat' first
   | (with_reducible exact ih0 _ _ _ _ _)
   | (with_reducible exact LeO.refl _)
   | (with_reducible exact LeO.none _)
   | (with_reducible refine LeO.ite ?_ ?_)
   | (with_reducible refine LeO.bind ?_ (fun _ => ?_))
   | exact ih0 _ _ _ _ _
   | exact LeO.none _
   | refine LeO.ite ?_ ?_
   | refine LeO.bind ?_ (fun _ => ?_)
theorem slices_CompareFunc.mono : ∀ a0 a1 a2 k,LeO (slices_CompareFunc.f k a0 a1 a2) (slices_CompareFunc.f (k + 1) a0 a1 a2) := by
 intro a0 a1 a2 k
 have ih0 := slices_CompareFunc.mono_l k
 unfold slices_CompareFunc.f
 repeat' first
   | (with_reducible exact ih0 _ _ _ _ _)
   | (with_reducible exact LeO.refl _)
   | (with_reducible exact LeO.none _)
   | (with_reducible refine LeO.ite ?_ ?_)
   | (with_reducible refine LeO.bind ?_ (fun _ => ?_))
   | exact ih0 _ _ _ _ _
   | exact LeO.none _
   | refine LeO.ite ?_ ?_
   | refine LeO.bind ?_ (fun _ => ?_)
set_option maxHeartbeats 8000000 in
set_option maxRecDepth 100000 in
theorem slices_CompareFunc.calls (k : Nat) (A0 : Option Addr) (c0 : Nat) (l0 : List (S50)) (A1 : Option Addr) (c1 : Nat) (l1 : List (S50)) (a2 : Int) (r : Int) (w : World) (hr0 : Kd.C k50 w A0 l0.length l0) (hc0 : l0.length ≤ c0) (hr1 : Kd.C k50 w A1 l1.length l1) (hc1 : l1.length ≤ c1) (h : slices_CompareFunc.f k l0 l1 a2 = some r) :
  Calls Try.prog 45 #[.slice A0 l0.length c0,.slice A1 l1.length c1,.func (.func 46) #[] #[]] w fun e w' => e = .returned (.int .i64 r) ∧ Below w.heap.size w w' := by
 have hu50 := Try.underlying50
 have HR0 := Aside0.mk hr0
 have HC0 := Aside0.mk hc0
 clear hr0 hc0
 have HR1 := Aside0.mk hr1
 have HC1 := Aside0.mk hc1
 clear hr1 hc1
 have HB := Aside0.mk (Below.refl w.heap.size w)
 have H : (slices_CompareFunc.l0 k l0 l1 l0 (l0.length : Int) 0) = some r := h
 clear h
 have H' := Aside0.mk H
 clear H
 go_enter Try.func45,Try.ntmps45
 go_wp2
 go_loopg [13] k (fun kq v13 w' => ∃ (x13_1 : Int),v13 = .int .i64 x13_1 ∧ Aside0 (slices_CompareFunc.l0 kq l0 l1 l0 (l0.length : Int) x13_1 = some r) ∧ Aside0 (kq ≤ k) ∧ Aside0 (Below w.heap.size w w'))
 case atStart => exact ⟨(0),(by first | rfl | (simp;done) | (simp [*];done)),H',⟨Nat.le_refl _⟩,⟨by repeat (first | (with_reducible first | exact HB.out | apply q0b | apply q0a | apply q0c) | exact HB.out)⟩⟩
 case round =>
  clear H'
  try clear c1
  try clear p2
  obtain ⟨x13_1,rfl,HA,HK1,HB⟩ := hrel
  cases gk with
  | zero => exact absurd HA.out (by simp [slices_CompareFunc.l0])
  | succ k1 =>
   have H := HA.out
   clear HA
   simp only [slices_CompareFunc.l0] at H
   by_cases c4 : x13_1 < (l0.length : Int)
   ·rw [if_pos c4] at H
    have c4b0 : decide (x13_1 < (l0.length : Int)) = true := decide_eq_true c4
    clear c4
    by_cases c5 : 0 ≤ x13_1
    ·rw [if_pos c5] at H
     have c5b0 : decide (0 ≤ x13_1) = true := decide_eq_true c5
     clear c5
     by_cases c6 : x13_1 < (l0.length : Int)
     ·rw [if_pos c6] at H
      have c6b0 : decide (x13_1 < (l0.length : Int)) = true := decide_eq_true c6
      clear c6
      by_cases c7 : x13_1 ≥ (l1.length : Int)
      ·rw [if_pos c7] at H
       have c7b0 : decide ((l1.length : Int) ≤ x13_1) = true := decide_eq_true c7
       clear c7
       obtain rfl := Option.some.inj H
       have p134 : 0 ≤ (x13_1 : Int) := of_decide_eq_true (by first | (with_reducible assumption) | assumption)
       have q134 : x13_1 < (l0.length : Int) := of_decide_eq_true (by first | (with_reducible assumption) | assumption)
       obtain ⟨ad134,e134,hx134_0,hx134_1,hx134_2,hx134_3⟩ := at_T50 HR0.out x13_1 p134 q134
       cases e134
       replace hx134_0 := (HB.out.cell (World.block_lt_of_cell? w _ hx134_0)).trans hx134_0
       replace hx134_1 := (HB.out.cell (World.block_lt_of_cell? w _ hx134_1)).trans hx134_1
       replace hx134_2 := (HB.out.cell (World.block_lt_of_cell? w _ hx134_2)).trans hx134_2
       replace hx134_3 := (HB.out.cell (World.block_lt_of_cell? w _ hx134_3)).trans hx134_3
       replace p134 := eq_true p134
       replace q134 := eq_true q134
       go_wp2_with (first | ((with_reducible refine q0s (N := 8) rfl ?_);refine q0r ?hg (N := 8) ?hd (cs := #[.int .i64 0,.bool false,.int .i64 0,.string (⟨#[]⟩ : ByteArray)]) (t := 50) ?hr ?_;(case hd => rfl);(case hg => rfl);(case hr => first | (go_simp;done) | (go_simp;rfl));intro gb135 hg w8 hbox hb;have n0_ := Aside0.mk (q0l (by repeat (first | (with_reducible first | exact HB.out | apply q0b | apply q0a | apply q0c) | exact HB.out)) hb);have n1_ := Aside0.mk (hbox);have n2_ := Aside0.mk ((by rw [hg];exact (q0g (by repeat (first | (with_reducible first | exact HB.out | apply q0b | apply q0a | apply q0c) | exact HB.out))) : w.heap.size ≤ gb135));have n3_ := Aside0.mk ((by rw [hg];exact (q0g (by repeat (first | (with_reducible first | exact HB.out | apply q0b | apply q0a | apply q0c) | exact HB.out))) : w.heap.size ≤ gb135));clear HB;have HB := n0_;have BK135 := n1_;have GW135 := n2_;have GE135 := n3_;clear n0_ n1_ n2_ n3_;clear hb hbox hg;have hcz9_0 : w8.cell? ⟨gb135,0,none⟩ = some (.int .i64 0) := (q0e BK135.out 0).trans rfl;have hcz9_1 : w8.cell? ⟨gb135,1,none⟩ = some (.bool false) := (q0e BK135.out 1).trans rfl;have hcz9_2 : w8.cell? ⟨gb135,2,none⟩ = some (.int .i64 0) := (q0e BK135.out 2).trans rfl;have hcz9_3 : w8.cell? ⟨gb135,3,none⟩ = some (.string (⟨#[]⟩ : ByteArray)) := (q0e BK135.out 3).trans rfl;have hfz9_0 := q0d BK135.out 0;have hfz9_1 := q0d BK135.out 1;have hfz9_2 := q0d BK135.out 2;have hfz9_3 := q0d BK135.out 3))
       go_ret
       exact ⟨by first | rfl | (simp [q0n,q0o] <;> rfl) | (simp [*,q0n,q0o] <;> rfl),by repeat (first | (with_reducible first | exact HB.out | apply q0b | apply q0a | apply q0c | refine q0k ?_ GE135.out) | exact HB.out)⟩
      ·rw [if_neg c7] at H
       have c7b0 : decide ((l1.length : Int) ≤ x13_1) = false := decide_eq_false c7
       clear c7
       by_cases c10 : x13_1 < (l1.length : Int)
       ·rw [if_pos c10] at H
        have c10b0 : decide (x13_1 < (l1.length : Int)) = true := decide_eq_true c10
        clear c10
        replace H := Option.bind_eq_some_iff.mp H
        obtain ⟨t138,A110,H⟩ := H
        replace H : (if t138 = 0 then (slices_CompareFunc.l0 k1 l0 l1 l0 (l0.length : Int) (wrap64 (x13_1 + 1))) else (some t138)) = some r := H
        have A11 := Aside0.mk A110
        clear A110
        by_cases c12 : t138 = 0
        ·rw [if_pos c12] at H
         have c12b0 : (t138 == 0) = true := beq_iff_eq.mpr c12
         have c12b1 : (t138 != 0) = false := bne_eq_false_iff_eq.mpr c12
         clear c12
         have H' := Aside0.mk H
         clear H
         have p134 : 0 ≤ (x13_1 : Int) := of_decide_eq_true (by first | (with_reducible assumption) | assumption)
         have q134 : x13_1 < (l0.length : Int) := of_decide_eq_true (by first | (with_reducible assumption) | assumption)
         obtain ⟨ad134,e134,hx134_0,hx134_1,hx134_2,hx134_3⟩ := at_T50 HR0.out x13_1 p134 q134
         cases e134
         replace hx134_0 := (HB.out.cell (World.block_lt_of_cell? w _ hx134_0)).trans hx134_0
         replace hx134_1 := (HB.out.cell (World.block_lt_of_cell? w _ hx134_1)).trans hx134_1
         replace hx134_2 := (HB.out.cell (World.block_lt_of_cell? w _ hx134_2)).trans hx134_2
         replace hx134_3 := (HB.out.cell (World.block_lt_of_cell? w _ hx134_3)).trans hx134_3
         replace p134 := eq_true p134
         replace q134 := eq_true q134
         go_wp2_with (first | ((with_reducible refine q0s (N := 8) rfl ?_);refine q0r ?hg (N := 8) ?hd (cs := #[.int .i64 0,.bool false,.int .i64 0,.string (⟨#[]⟩ : ByteArray)]) (t := 50) ?hr ?_;(case hd => rfl);(case hg => rfl);(case hr => first | (go_simp;done) | (go_simp;rfl));intro gb135 hg w13 hbox hb;have n0_ := Aside0.mk (q0l (by repeat (first | (with_reducible first | exact HB.out | apply q0b | apply q0a | apply q0c) | exact HB.out)) hb);have n1_ := Aside0.mk (hbox);have n2_ := Aside0.mk ((by rw [hg];exact (q0g (by repeat (first | (with_reducible first | exact HB.out | apply q0b | apply q0a | apply q0c) | exact HB.out))) : w.heap.size ≤ gb135));have n3_ := Aside0.mk ((by rw [hg];exact (q0g (by repeat (first | (with_reducible first | exact HB.out | apply q0b | apply q0a | apply q0c) | exact HB.out))) : w.heap.size ≤ gb135));clear HB;have HB := n0_;have BK135 := n1_;have GW135 := n2_;have GE135 := n3_;clear n0_ n1_ n2_ n3_;clear hb hbox hg;have hcz14_0 : w13.cell? ⟨gb135,0,none⟩ = some (.int .i64 0) := (q0e BK135.out 0).trans rfl;have hcz14_1 : w13.cell? ⟨gb135,1,none⟩ = some (.bool false) := (q0e BK135.out 1).trans rfl;have hcz14_2 : w13.cell? ⟨gb135,2,none⟩ = some (.int .i64 0) := (q0e BK135.out 2).trans rfl;have hcz14_3 : w13.cell? ⟨gb135,3,none⟩ = some (.string (⟨#[]⟩ : ByteArray)) := (q0e BK135.out 3).trans rfl;have hfz14_0 := q0d BK135.out 0;have hfz14_1 := q0d BK135.out 1;have hfz14_2 := q0d BK135.out 2;have hfz14_3 := q0d BK135.out 3;have p136 : 0 ≤ (x13_1 : Int) := of_decide_eq_true (by first | (with_reducible assumption) | assumption);have q136 : x13_1 < (l1.length : Int) := of_decide_eq_true (by first | (with_reducible assumption) | assumption);obtain ⟨ad136,e136,hx136_0,hx136_1,hx136_2,hx136_3⟩ := at_T50 HR1.out x13_1 p136 q136;cases e136;have hn136_0 : ad136.block ≠ gb135 := Nat.ne_of_lt (Nat.lt_of_lt_of_le (by have := World.block_lt_of_cell? _ _ hx136_0;first | rwa [add_block] at this | exact this) GW135.out);have hn136_1 : ad136.block ≠ gb135 := Nat.ne_of_lt (Nat.lt_of_lt_of_le (by have := World.block_lt_of_cell? _ _ hx136_0;first | rwa [add_block] at this | exact this) GW135.out);have hn136_2 : ad136.block ≠ gb135 := Nat.ne_of_lt (Nat.lt_of_lt_of_le (by have := World.block_lt_of_cell? _ _ hx136_0;first | rwa [add_block] at this | exact this) GW135.out);have hn136_3 : ad136.block ≠ gb135 := Nat.ne_of_lt (Nat.lt_of_lt_of_le (by have := World.block_lt_of_cell? _ _ hx136_0;first | rwa [add_block] at this | exact this) GW135.out);replace hx136_0 := (HB.out.cell (World.block_lt_of_cell? w _ hx136_0)).trans hx136_0;replace hx136_1 := (HB.out.cell (World.block_lt_of_cell? w _ hx136_1)).trans hx136_1;replace hx136_2 := (HB.out.cell (World.block_lt_of_cell? w _ hx136_2)).trans hx136_2;replace hx136_3 := (HB.out.cell (World.block_lt_of_cell? w _ hx136_3)).trans hx136_3;replace hx136_0 := (cell_far (p := ⟨gb135,0,none⟩) (by first | (rw [add_block];exact hn136_0) | (show (Addr.add _ _).block ≠ _;rw [add_block];exact hn136_0) | exact hn136_0) (.int .i64 ((q0f l0 x13_1).f0))).trans hx136_0;replace hx136_1 := (cell_far (p := ⟨gb135,0,none⟩) (by first | (rw [add_block];exact hn136_0) | (show (Addr.add _ _).block ≠ _;rw [add_block];exact hn136_0) | exact hn136_0) (.int .i64 ((q0f l0 x13_1).f0))).trans hx136_1;replace hx136_2 := (cell_far (p := ⟨gb135,0,none⟩) (by first | (rw [add_block];exact hn136_0) | (show (Addr.add _ _).block ≠ _;rw [add_block];exact hn136_0) | exact hn136_0) (.int .i64 ((q0f l0 x13_1).f0))).trans hx136_2;replace hx136_3 := (cell_far (p := ⟨gb135,0,none⟩) (by first | (rw [add_block];exact hn136_0) | (show (Addr.add _ _).block ≠ _;rw [add_block];exact hn136_0) | exact hn136_0) (.int .i64 ((q0f l0 x13_1).f0))).trans hx136_3;replace hx136_0 := (cell_far (p := ⟨gb135,1,none⟩) (by first | (rw [add_block];exact hn136_1) | (show (Addr.add _ _).block ≠ _;rw [add_block];exact hn136_1) | exact hn136_1) (.bool ((q0f l0 x13_1).f1))).trans hx136_0;replace hx136_1 := (cell_far (p := ⟨gb135,1,none⟩) (by first | (rw [add_block];exact hn136_1) | (show (Addr.add _ _).block ≠ _;rw [add_block];exact hn136_1) | exact hn136_1) (.bool ((q0f l0 x13_1).f1))).trans hx136_1;replace hx136_2 := (cell_far (p := ⟨gb135,1,none⟩) (by first | (rw [add_block];exact hn136_1) | (show (Addr.add _ _).block ≠ _;rw [add_block];exact hn136_1) | exact hn136_1) (.bool ((q0f l0 x13_1).f1))).trans hx136_2;replace hx136_3 := (cell_far (p := ⟨gb135,1,none⟩) (by first | (rw [add_block];exact hn136_1) | (show (Addr.add _ _).block ≠ _;rw [add_block];exact hn136_1) | exact hn136_1) (.bool ((q0f l0 x13_1).f1))).trans hx136_3;replace hx136_0 := (cell_far (p := ⟨gb135,2,none⟩) (by first | (rw [add_block];exact hn136_2) | (show (Addr.add _ _).block ≠ _;rw [add_block];exact hn136_2) | exact hn136_2) (.int .i64 ((q0f l0 x13_1).f2))).trans hx136_0;replace hx136_1 := (cell_far (p := ⟨gb135,2,none⟩) (by first | (rw [add_block];exact hn136_2) | (show (Addr.add _ _).block ≠ _;rw [add_block];exact hn136_2) | exact hn136_2) (.int .i64 ((q0f l0 x13_1).f2))).trans hx136_1;replace hx136_2 := (cell_far (p := ⟨gb135,2,none⟩) (by first | (rw [add_block];exact hn136_2) | (show (Addr.add _ _).block ≠ _;rw [add_block];exact hn136_2) | exact hn136_2) (.int .i64 ((q0f l0 x13_1).f2))).trans hx136_2;replace hx136_3 := (cell_far (p := ⟨gb135,2,none⟩) (by first | (rw [add_block];exact hn136_2) | (show (Addr.add _ _).block ≠ _;rw [add_block];exact hn136_2) | exact hn136_2) (.int .i64 ((q0f l0 x13_1).f2))).trans hx136_3;replace hx136_0 := (cell_far (p := ⟨gb135,3,none⟩) (by first | (rw [add_block];exact hn136_3) | (show (Addr.add _ _).block ≠ _;rw [add_block];exact hn136_3) | exact hn136_3) (.string ((q0f l0 x13_1).f3))).trans hx136_0;replace hx136_1 := (cell_far (p := ⟨gb135,3,none⟩) (by first | (rw [add_block];exact hn136_3) | (show (Addr.add _ _).block ≠ _;rw [add_block];exact hn136_3) | exact hn136_3) (.string ((q0f l0 x13_1).f3))).trans hx136_1;replace hx136_2 := (cell_far (p := ⟨gb135,3,none⟩) (by first | (rw [add_block];exact hn136_3) | (show (Addr.add _ _).block ≠ _;rw [add_block];exact hn136_3) | exact hn136_3) (.string ((q0f l0 x13_1).f3))).trans hx136_2;replace hx136_3 := (cell_far (p := ⟨gb135,3,none⟩) (by first | (rw [add_block];exact hn136_3) | (show (Addr.add _ _).block ≠ _;rw [add_block];exact hn136_3) | exact hn136_3) (.string ((q0f l0 x13_1).f3))).trans hx136_3;clear hn136_0;clear hn136_1;clear hn136_2;clear hn136_3;replace p136 := eq_true p136;replace q136 := eq_true q136) | ((with_reducible refine q0s (N := 9) rfl ?_);refine q0r ?hg (N := 9) ?hd (cs := #[.int .i64 0,.bool false,.int .i64 0,.string (⟨#[]⟩ : ByteArray)]) (t := 50) ?hr ?_;(case hd => rfl);(case hg => rfl);(case hr => first | (go_simp;done) | (go_simp;rfl));intro gb137 hg w15 hbox hb;have n0_ := Aside0.mk (blk_below (g := gb135) (o := .cells #[.int .i64 ((q0f l0 x13_1).f0),.bool ((q0f l0 x13_1).f1),.int .i64 ((q0f l0 x13_1).f2),.string ((q0f l0 x13_1).f3)] 50 (0,0)) (by (with_reducible repeat (first | refine q0i ?_ _ | refine q0j ?_ | refine q0h ?_ _));refine blk_put (cs := #[.int .i64 ((q0f l0 x13_1).f0),.bool ((q0f l0 x13_1).f1),.int .i64 ((q0f l0 x13_1).f2),.string (⟨#[]⟩ : ByteArray)]) ?_ 3 _ rfl;(with_reducible repeat (first | refine q0i ?_ _ | refine q0j ?_ | refine q0h ?_ _));refine blk_put (cs := #[.int .i64 ((q0f l0 x13_1).f0),.bool ((q0f l0 x13_1).f1),.int .i64 0,.string (⟨#[]⟩ : ByteArray)]) ?_ 2 _ rfl;(with_reducible repeat (first | refine q0i ?_ _ | refine q0j ?_ | refine q0h ?_ _));refine blk_put (cs := #[.int .i64 ((q0f l0 x13_1).f0),.bool false,.int .i64 0,.string (⟨#[]⟩ : ByteArray)]) ?_ 1 _ rfl;(with_reducible repeat (first | refine q0i ?_ _ | refine q0j ?_ | refine q0h ?_ _));refine blk_put (cs := #[.int .i64 0,.bool false,.int .i64 0,.string (⟨#[]⟩ : ByteArray)]) ?_ 0 _ rfl;(with_reducible repeat (first | refine q0i ?_ _ | refine q0j ?_ | refine q0h ?_ _));exact BK135.out) hb);have n1_ := Aside0.mk (q0l (by repeat (first | (with_reducible first | exact HB.out | apply q0b | apply q0a | apply q0c | refine q0k ?_ GE135.out) | exact HB.out)) hb);have n2_ := Aside0.mk (hbox);have n3_ := Aside0.mk ((by rw [hg];exact (q0g (by repeat (first | (with_reducible first | exact HB.out | apply q0b | apply q0a | apply q0c | refine q0k ?_ GE135.out) | exact HB.out))) : w.heap.size ≤ gb137));have n4_ := Aside0.mk ((by rw [hg];exact (q0g (by repeat (first | (with_reducible first | exact HB.out | apply q0b | apply q0a | apply q0c | refine q0k ?_ GE135.out) | exact HB.out))) : w.heap.size ≤ gb137));have n5_ := Aside0.mk ((by rw [hg];exact Nat.ne_of_lt (blk_lt (g := gb135) (o := .cells #[.int .i64 ((q0f l0 x13_1).f0),.bool ((q0f l0 x13_1).f1),.int .i64 ((q0f l0 x13_1).f2),.string ((q0f l0 x13_1).f3)] 50 (0,0)) (by (with_reducible repeat (first | refine q0i ?_ _ | refine q0j ?_ | refine q0h ?_ _));refine blk_put (cs := #[.int .i64 ((q0f l0 x13_1).f0),.bool ((q0f l0 x13_1).f1),.int .i64 ((q0f l0 x13_1).f2),.string (⟨#[]⟩ : ByteArray)]) ?_ 3 _ rfl;(with_reducible repeat (first | refine q0i ?_ _ | refine q0j ?_ | refine q0h ?_ _));refine blk_put (cs := #[.int .i64 ((q0f l0 x13_1).f0),.bool ((q0f l0 x13_1).f1),.int .i64 0,.string (⟨#[]⟩ : ByteArray)]) ?_ 2 _ rfl;(with_reducible repeat (first | refine q0i ?_ _ | refine q0j ?_ | refine q0h ?_ _));refine blk_put (cs := #[.int .i64 ((q0f l0 x13_1).f0),.bool false,.int .i64 0,.string (⟨#[]⟩ : ByteArray)]) ?_ 1 _ rfl;(with_reducible repeat (first | refine q0i ?_ _ | refine q0j ?_ | refine q0h ?_ _));refine blk_put (cs := #[.int .i64 0,.bool false,.int .i64 0,.string (⟨#[]⟩ : ByteArray)]) ?_ 0 _ rfl;(with_reducible repeat (first | refine q0i ?_ _ | refine q0j ?_ | refine q0h ?_ _));exact BK135.out)) : gb135 ≠ gb137));have n6_ := Aside0.mk ((by rw [hg];exact Nat.ne_of_gt (blk_lt (g := gb135) (o := .cells #[.int .i64 ((q0f l0 x13_1).f0),.bool ((q0f l0 x13_1).f1),.int .i64 ((q0f l0 x13_1).f2),.string ((q0f l0 x13_1).f3)] 50 (0,0)) (by (with_reducible repeat (first | refine q0i ?_ _ | refine q0j ?_ | refine q0h ?_ _));refine blk_put (cs := #[.int .i64 ((q0f l0 x13_1).f0),.bool ((q0f l0 x13_1).f1),.int .i64 ((q0f l0 x13_1).f2),.string (⟨#[]⟩ : ByteArray)]) ?_ 3 _ rfl;(with_reducible repeat (first | refine q0i ?_ _ | refine q0j ?_ | refine q0h ?_ _));refine blk_put (cs := #[.int .i64 ((q0f l0 x13_1).f0),.bool ((q0f l0 x13_1).f1),.int .i64 0,.string (⟨#[]⟩ : ByteArray)]) ?_ 2 _ rfl;(with_reducible repeat (first | refine q0i ?_ _ | refine q0j ?_ | refine q0h ?_ _));refine blk_put (cs := #[.int .i64 ((q0f l0 x13_1).f0),.bool false,.int .i64 0,.string (⟨#[]⟩ : ByteArray)]) ?_ 1 _ rfl;(with_reducible repeat (first | refine q0i ?_ _ | refine q0j ?_ | refine q0h ?_ _));refine blk_put (cs := #[.int .i64 0,.bool false,.int .i64 0,.string (⟨#[]⟩ : ByteArray)]) ?_ 0 _ rfl;(with_reducible repeat (first | refine q0i ?_ _ | refine q0j ?_ | refine q0h ?_ _));exact BK135.out)) : gb137 ≠ gb135));clear BK135;clear HB;have BK135 := n0_;have HB := n1_;have BK137 := n2_;have GW137 := n3_;have GE137 := n4_;have NB135_137 := n5_;have NB137_135 := n6_;clear n0_ n1_ n2_ n3_ n4_ n5_ n6_;clear hb hbox hg;have hnb16 := NB137_135.out;have hnc16 := NB135_137.out;have hcz17_0 : w15.cell? ⟨gb137,0,none⟩ = some (.int .i64 0) := (q0e BK137.out 0).trans rfl;have hcz17_1 : w15.cell? ⟨gb137,1,none⟩ = some (.bool false) := (q0e BK137.out 1).trans rfl;have hcz17_2 : w15.cell? ⟨gb137,2,none⟩ = some (.int .i64 0) := (q0e BK137.out 2).trans rfl;have hcz17_3 : w15.cell? ⟨gb137,3,none⟩ = some (.string (⟨#[]⟩ : ByteArray)) := (q0e BK137.out 3).trans rfl;have hfz17_0 := q0d BK137.out 0;have hfz17_1 := q0d BK137.out 1;have hfz17_2 := q0d BK137.out 2;have hfz17_3 := q0d BK137.out 3;have hcz18_0 : w15.cell? ⟨gb135,0,none⟩ = some (.int .i64 ((q0f l0 x13_1).f0)) := (q0e BK135.out 0).trans rfl;have hcz18_1 : w15.cell? ⟨gb135,1,none⟩ = some (.bool ((q0f l0 x13_1).f1)) := (q0e BK135.out 1).trans rfl;have hcz18_2 : w15.cell? ⟨gb135,2,none⟩ = some (.int .i64 ((q0f l0 x13_1).f2)) := (q0e BK135.out 2).trans rfl;have hcz18_3 : w15.cell? ⟨gb135,3,none⟩ = some (.string ((q0f l0 x13_1).f3)) := (q0e BK135.out 3).trans rfl;have hfz18_0 := q0d BK135.out 0;have hfz18_1 := q0d BK135.out 1;have hfz18_2 := q0d BK135.out 2;have hfz18_3 := q0d BK135.out 3) | ((with_reducible refine gate_tmp (n := 26) rfl ?_);refine goesT_ (some 29) rfl rfl Try.func46 (by kernel_rfl) rfl #[.agg #[.int .i64 ((q0f l0 x13_1).f0),.bool ((q0f l0 x13_1).f1),.int .i64 ((q0f l0 x13_1).f2),.string ((q0f l0 x13_1).f3)],.agg #[.int .i64 ((q0f l1 x13_1).f0),.bool ((q0f l1 x13_1).f1),.int .i64 ((q0f l1 x13_1).f2),.string ((q0f l1 x13_1).f3)]] rfl rfl (by (try simp only [List.map_toArray,List.map_cons,List.map_nil]);first | done | rfl | (simp only [List.length_drop,List.length_take];rfl)) ?_;(with_reducible refine (value_Compare.calls ((q0f l0 x13_1).f0) ((q0f l0 x13_1).f1) ((q0f l0 x13_1).f2) ((q0f l0 x13_1).f3) ((q0f l1 x13_1).f0) ((q0f l1 x13_1).f1) ((q0f l1 x13_1).f2) ((q0f l1 x13_1).f3) t138 _ A11.out).mono ?_);rintro e w19 ⟨rfl,hb⟩;refine ⟨_,rfl,?_⟩;have n0_ := Aside0.mk (blk_below (g := gb135) (o := .cells #[.int .i64 ((q0f l0 x13_1).f0),.bool ((q0f l0 x13_1).f1),.int .i64 ((q0f l0 x13_1).f2),.string ((q0f l0 x13_1).f3)] 50 (0,0)) (by (with_reducible repeat (first | refine q0i ?_ _ | refine q0j ?_ | refine q0h ?_ _));refine blk_far ?_ NB135_137.out _;(with_reducible repeat (first | refine q0i ?_ _ | refine q0j ?_ | refine q0h ?_ _));refine blk_far ?_ NB135_137.out _;(with_reducible repeat (first | refine q0i ?_ _ | refine q0j ?_ | refine q0h ?_ _));refine blk_far ?_ NB135_137.out _;(with_reducible repeat (first | refine q0i ?_ _ | refine q0j ?_ | refine q0h ?_ _));refine blk_far ?_ NB135_137.out _;(with_reducible repeat (first | refine q0i ?_ _ | refine q0j ?_ | refine q0h ?_ _));exact BK135.out) hb);have n1_ := Aside0.mk (blk_below (g := gb137) (o := .cells #[.int .i64 ((q0f l1 x13_1).f0),.bool ((q0f l1 x13_1).f1),.int .i64 ((q0f l1 x13_1).f2),.string ((q0f l1 x13_1).f3)] 50 (0,0)) (by (with_reducible repeat (first | refine q0i ?_ _ | refine q0j ?_ | refine q0h ?_ _));refine blk_put (cs := #[.int .i64 ((q0f l1 x13_1).f0),.bool ((q0f l1 x13_1).f1),.int .i64 ((q0f l1 x13_1).f2),.string (⟨#[]⟩ : ByteArray)]) ?_ 3 _ rfl;(with_reducible repeat (first | refine q0i ?_ _ | refine q0j ?_ | refine q0h ?_ _));refine blk_put (cs := #[.int .i64 ((q0f l1 x13_1).f0),.bool ((q0f l1 x13_1).f1),.int .i64 0,.string (⟨#[]⟩ : ByteArray)]) ?_ 2 _ rfl;(with_reducible repeat (first | refine q0i ?_ _ | refine q0j ?_ | refine q0h ?_ _));refine blk_put (cs := #[.int .i64 ((q0f l1 x13_1).f0),.bool false,.int .i64 0,.string (⟨#[]⟩ : ByteArray)]) ?_ 1 _ rfl;(with_reducible repeat (first | refine q0i ?_ _ | refine q0j ?_ | refine q0h ?_ _));refine blk_put (cs := #[.int .i64 0,.bool false,.int .i64 0,.string (⟨#[]⟩ : ByteArray)]) ?_ 0 _ rfl;(with_reducible repeat (first | refine q0i ?_ _ | refine q0j ?_ | refine q0h ?_ _));exact BK137.out) hb);have n2_ := Aside0.mk (q0l (by repeat (first | (with_reducible first | exact HB.out | apply q0b | apply q0a | apply q0c | refine q0k ?_ GE135.out | refine q0k ?_ GE137.out) | exact HB.out)) hb);clear BK135;clear BK137;clear HB;have BK135 := n0_;have BK137 := n1_;have HB := n2_;clear n0_ n1_ n2_;(try clear hb);(try clear hb2);(try clear hk);(try clear hi)))
         go_roundg k1
         case measure => have := HK1.out;omega
         case rel => exact ⟨(wrap64 (x13_1 + 1)),(by first | rfl | (simp;done) | (simp [*];done)),H',⟨by have := HK1.out;omega⟩,⟨by repeat (first | (with_reducible first | exact HB.out | apply q0b | apply q0a | apply q0c | refine q0k ?_ GE135.out | refine q0k ?_ GE137.out) | exact HB.out)⟩⟩
        ·rw [if_neg c12] at H
         have c12b0 : (t138 == 0) = false := beq_eq_false_iff_ne.mpr c12
         have c12b1 : (t138 != 0) = true := bne_iff_ne.mpr c12
         obtain rfl := Option.some.inj H
         have p134 : 0 ≤ (x13_1 : Int) := of_decide_eq_true (by first | (with_reducible assumption) | assumption)
         have q134 : x13_1 < (l0.length : Int) := of_decide_eq_true (by first | (with_reducible assumption) | assumption)
         obtain ⟨ad134,e134,hx134_0,hx134_1,hx134_2,hx134_3⟩ := at_T50 HR0.out x13_1 p134 q134
         cases e134
         replace hx134_0 := (HB.out.cell (World.block_lt_of_cell? w _ hx134_0)).trans hx134_0
         replace hx134_1 := (HB.out.cell (World.block_lt_of_cell? w _ hx134_1)).trans hx134_1
         replace hx134_2 := (HB.out.cell (World.block_lt_of_cell? w _ hx134_2)).trans hx134_2
         replace hx134_3 := (HB.out.cell (World.block_lt_of_cell? w _ hx134_3)).trans hx134_3
         replace p134 := eq_true p134
         replace q134 := eq_true q134
         go_wp2_with (first | ((with_reducible refine q0s (N := 8) rfl ?_);refine q0r ?hg (N := 8) ?hd (cs := #[.int .i64 0,.bool false,.int .i64 0,.string (⟨#[]⟩ : ByteArray)]) (t := 50) ?hr ?_;(case hd => rfl);(case hg => rfl);(case hr => first | (go_simp;done) | (go_simp;rfl));intro gb135 hg w20 hbox hb;have n0_ := Aside0.mk (q0l (by repeat (first | (with_reducible first | exact HB.out | apply q0b | apply q0a | apply q0c) | exact HB.out)) hb);have n1_ := Aside0.mk (hbox);have n2_ := Aside0.mk ((by rw [hg];exact (q0g (by repeat (first | (with_reducible first | exact HB.out | apply q0b | apply q0a | apply q0c) | exact HB.out))) : w.heap.size ≤ gb135));have n3_ := Aside0.mk ((by rw [hg];exact (q0g (by repeat (first | (with_reducible first | exact HB.out | apply q0b | apply q0a | apply q0c) | exact HB.out))) : w.heap.size ≤ gb135));clear HB;have HB := n0_;have BK135 := n1_;have GW135 := n2_;have GE135 := n3_;clear n0_ n1_ n2_ n3_;clear hb hbox hg;have hcz21_0 : w20.cell? ⟨gb135,0,none⟩ = some (.int .i64 0) := (q0e BK135.out 0).trans rfl;have hcz21_1 : w20.cell? ⟨gb135,1,none⟩ = some (.bool false) := (q0e BK135.out 1).trans rfl;have hcz21_2 : w20.cell? ⟨gb135,2,none⟩ = some (.int .i64 0) := (q0e BK135.out 2).trans rfl;have hcz21_3 : w20.cell? ⟨gb135,3,none⟩ = some (.string (⟨#[]⟩ : ByteArray)) := (q0e BK135.out 3).trans rfl;have hfz21_0 := q0d BK135.out 0;have hfz21_1 := q0d BK135.out 1;have hfz21_2 := q0d BK135.out 2;have hfz21_3 := q0d BK135.out 3;have p136 : 0 ≤ (x13_1 : Int) := of_decide_eq_true (by first | (with_reducible assumption) | assumption);have q136 : x13_1 < (l1.length : Int) := of_decide_eq_true (by first | (with_reducible assumption) | assumption);obtain ⟨ad136,e136,hx136_0,hx136_1,hx136_2,hx136_3⟩ := at_T50 HR1.out x13_1 p136 q136;cases e136;have hn136_0 : ad136.block ≠ gb135 := Nat.ne_of_lt (Nat.lt_of_lt_of_le (by have := World.block_lt_of_cell? _ _ hx136_0;first | rwa [add_block] at this | exact this) GW135.out);have hn136_1 : ad136.block ≠ gb135 := Nat.ne_of_lt (Nat.lt_of_lt_of_le (by have := World.block_lt_of_cell? _ _ hx136_0;first | rwa [add_block] at this | exact this) GW135.out);have hn136_2 : ad136.block ≠ gb135 := Nat.ne_of_lt (Nat.lt_of_lt_of_le (by have := World.block_lt_of_cell? _ _ hx136_0;first | rwa [add_block] at this | exact this) GW135.out);have hn136_3 : ad136.block ≠ gb135 := Nat.ne_of_lt (Nat.lt_of_lt_of_le (by have := World.block_lt_of_cell? _ _ hx136_0;first | rwa [add_block] at this | exact this) GW135.out);replace hx136_0 := (HB.out.cell (World.block_lt_of_cell? w _ hx136_0)).trans hx136_0;replace hx136_1 := (HB.out.cell (World.block_lt_of_cell? w _ hx136_1)).trans hx136_1;replace hx136_2 := (HB.out.cell (World.block_lt_of_cell? w _ hx136_2)).trans hx136_2;replace hx136_3 := (HB.out.cell (World.block_lt_of_cell? w _ hx136_3)).trans hx136_3;replace hx136_0 := (cell_far (p := ⟨gb135,0,none⟩) (by first | (rw [add_block];exact hn136_0) | (show (Addr.add _ _).block ≠ _;rw [add_block];exact hn136_0) | exact hn136_0) (.int .i64 ((q0f l0 x13_1).f0))).trans hx136_0;replace hx136_1 := (cell_far (p := ⟨gb135,0,none⟩) (by first | (rw [add_block];exact hn136_0) | (show (Addr.add _ _).block ≠ _;rw [add_block];exact hn136_0) | exact hn136_0) (.int .i64 ((q0f l0 x13_1).f0))).trans hx136_1;replace hx136_2 := (cell_far (p := ⟨gb135,0,none⟩) (by first | (rw [add_block];exact hn136_0) | (show (Addr.add _ _).block ≠ _;rw [add_block];exact hn136_0) | exact hn136_0) (.int .i64 ((q0f l0 x13_1).f0))).trans hx136_2;replace hx136_3 := (cell_far (p := ⟨gb135,0,none⟩) (by first | (rw [add_block];exact hn136_0) | (show (Addr.add _ _).block ≠ _;rw [add_block];exact hn136_0) | exact hn136_0) (.int .i64 ((q0f l0 x13_1).f0))).trans hx136_3;replace hx136_0 := (cell_far (p := ⟨gb135,1,none⟩) (by first | (rw [add_block];exact hn136_1) | (show (Addr.add _ _).block ≠ _;rw [add_block];exact hn136_1) | exact hn136_1) (.bool ((q0f l0 x13_1).f1))).trans hx136_0;replace hx136_1 := (cell_far (p := ⟨gb135,1,none⟩) (by first | (rw [add_block];exact hn136_1) | (show (Addr.add _ _).block ≠ _;rw [add_block];exact hn136_1) | exact hn136_1) (.bool ((q0f l0 x13_1).f1))).trans hx136_1;replace hx136_2 := (cell_far (p := ⟨gb135,1,none⟩) (by first | (rw [add_block];exact hn136_1) | (show (Addr.add _ _).block ≠ _;rw [add_block];exact hn136_1) | exact hn136_1) (.bool ((q0f l0 x13_1).f1))).trans hx136_2;replace hx136_3 := (cell_far (p := ⟨gb135,1,none⟩) (by first | (rw [add_block];exact hn136_1) | (show (Addr.add _ _).block ≠ _;rw [add_block];exact hn136_1) | exact hn136_1) (.bool ((q0f l0 x13_1).f1))).trans hx136_3;replace hx136_0 := (cell_far (p := ⟨gb135,2,none⟩) (by first | (rw [add_block];exact hn136_2) | (show (Addr.add _ _).block ≠ _;rw [add_block];exact hn136_2) | exact hn136_2) (.int .i64 ((q0f l0 x13_1).f2))).trans hx136_0;replace hx136_1 := (cell_far (p := ⟨gb135,2,none⟩) (by first | (rw [add_block];exact hn136_2) | (show (Addr.add _ _).block ≠ _;rw [add_block];exact hn136_2) | exact hn136_2) (.int .i64 ((q0f l0 x13_1).f2))).trans hx136_1;replace hx136_2 := (cell_far (p := ⟨gb135,2,none⟩) (by first | (rw [add_block];exact hn136_2) | (show (Addr.add _ _).block ≠ _;rw [add_block];exact hn136_2) | exact hn136_2) (.int .i64 ((q0f l0 x13_1).f2))).trans hx136_2;replace hx136_3 := (cell_far (p := ⟨gb135,2,none⟩) (by first | (rw [add_block];exact hn136_2) | (show (Addr.add _ _).block ≠ _;rw [add_block];exact hn136_2) | exact hn136_2) (.int .i64 ((q0f l0 x13_1).f2))).trans hx136_3;replace hx136_0 := (cell_far (p := ⟨gb135,3,none⟩) (by first | (rw [add_block];exact hn136_3) | (show (Addr.add _ _).block ≠ _;rw [add_block];exact hn136_3) | exact hn136_3) (.string ((q0f l0 x13_1).f3))).trans hx136_0;replace hx136_1 := (cell_far (p := ⟨gb135,3,none⟩) (by first | (rw [add_block];exact hn136_3) | (show (Addr.add _ _).block ≠ _;rw [add_block];exact hn136_3) | exact hn136_3) (.string ((q0f l0 x13_1).f3))).trans hx136_1;replace hx136_2 := (cell_far (p := ⟨gb135,3,none⟩) (by first | (rw [add_block];exact hn136_3) | (show (Addr.add _ _).block ≠ _;rw [add_block];exact hn136_3) | exact hn136_3) (.string ((q0f l0 x13_1).f3))).trans hx136_2;replace hx136_3 := (cell_far (p := ⟨gb135,3,none⟩) (by first | (rw [add_block];exact hn136_3) | (show (Addr.add _ _).block ≠ _;rw [add_block];exact hn136_3) | exact hn136_3) (.string ((q0f l0 x13_1).f3))).trans hx136_3;clear hn136_0;clear hn136_1;clear hn136_2;clear hn136_3;replace p136 := eq_true p136;replace q136 := eq_true q136) | ((with_reducible refine q0s (N := 9) rfl ?_);refine q0r ?hg (N := 9) ?hd (cs := #[.int .i64 0,.bool false,.int .i64 0,.string (⟨#[]⟩ : ByteArray)]) (t := 50) ?hr ?_;(case hd => rfl);(case hg => rfl);(case hr => first | (go_simp;done) | (go_simp;rfl));intro gb137 hg w22 hbox hb;have n0_ := Aside0.mk (blk_below (g := gb135) (o := .cells #[.int .i64 ((q0f l0 x13_1).f0),.bool ((q0f l0 x13_1).f1),.int .i64 ((q0f l0 x13_1).f2),.string ((q0f l0 x13_1).f3)] 50 (0,0)) (by (with_reducible repeat (first | refine q0i ?_ _ | refine q0j ?_ | refine q0h ?_ _));refine blk_put (cs := #[.int .i64 ((q0f l0 x13_1).f0),.bool ((q0f l0 x13_1).f1),.int .i64 ((q0f l0 x13_1).f2),.string (⟨#[]⟩ : ByteArray)]) ?_ 3 _ rfl;(with_reducible repeat (first | refine q0i ?_ _ | refine q0j ?_ | refine q0h ?_ _));refine blk_put (cs := #[.int .i64 ((q0f l0 x13_1).f0),.bool ((q0f l0 x13_1).f1),.int .i64 0,.string (⟨#[]⟩ : ByteArray)]) ?_ 2 _ rfl;(with_reducible repeat (first | refine q0i ?_ _ | refine q0j ?_ | refine q0h ?_ _));refine blk_put (cs := #[.int .i64 ((q0f l0 x13_1).f0),.bool false,.int .i64 0,.string (⟨#[]⟩ : ByteArray)]) ?_ 1 _ rfl;(with_reducible repeat (first | refine q0i ?_ _ | refine q0j ?_ | refine q0h ?_ _));refine blk_put (cs := #[.int .i64 0,.bool false,.int .i64 0,.string (⟨#[]⟩ : ByteArray)]) ?_ 0 _ rfl;(with_reducible repeat (first | refine q0i ?_ _ | refine q0j ?_ | refine q0h ?_ _));exact BK135.out) hb);have n1_ := Aside0.mk (q0l (by repeat (first | (with_reducible first | exact HB.out | apply q0b | apply q0a | apply q0c | refine q0k ?_ GE135.out) | exact HB.out)) hb);have n2_ := Aside0.mk (hbox);have n3_ := Aside0.mk ((by rw [hg];exact (q0g (by repeat (first | (with_reducible first | exact HB.out | apply q0b | apply q0a | apply q0c | refine q0k ?_ GE135.out) | exact HB.out))) : w.heap.size ≤ gb137));have n4_ := Aside0.mk ((by rw [hg];exact (q0g (by repeat (first | (with_reducible first | exact HB.out | apply q0b | apply q0a | apply q0c | refine q0k ?_ GE135.out) | exact HB.out))) : w.heap.size ≤ gb137));have n5_ := Aside0.mk ((by rw [hg];exact Nat.ne_of_lt (blk_lt (g := gb135) (o := .cells #[.int .i64 ((q0f l0 x13_1).f0),.bool ((q0f l0 x13_1).f1),.int .i64 ((q0f l0 x13_1).f2),.string ((q0f l0 x13_1).f3)] 50 (0,0)) (by (with_reducible repeat (first | refine q0i ?_ _ | refine q0j ?_ | refine q0h ?_ _));refine blk_put (cs := #[.int .i64 ((q0f l0 x13_1).f0),.bool ((q0f l0 x13_1).f1),.int .i64 ((q0f l0 x13_1).f2),.string (⟨#[]⟩ : ByteArray)]) ?_ 3 _ rfl;(with_reducible repeat (first | refine q0i ?_ _ | refine q0j ?_ | refine q0h ?_ _));refine blk_put (cs := #[.int .i64 ((q0f l0 x13_1).f0),.bool ((q0f l0 x13_1).f1),.int .i64 0,.string (⟨#[]⟩ : ByteArray)]) ?_ 2 _ rfl;(with_reducible repeat (first | refine q0i ?_ _ | refine q0j ?_ | refine q0h ?_ _));refine blk_put (cs := #[.int .i64 ((q0f l0 x13_1).f0),.bool false,.int .i64 0,.string (⟨#[]⟩ : ByteArray)]) ?_ 1 _ rfl;(with_reducible repeat (first | refine q0i ?_ _ | refine q0j ?_ | refine q0h ?_ _));refine blk_put (cs := #[.int .i64 0,.bool false,.int .i64 0,.string (⟨#[]⟩ : ByteArray)]) ?_ 0 _ rfl;(with_reducible repeat (first | refine q0i ?_ _ | refine q0j ?_ | refine q0h ?_ _));exact BK135.out)) : gb135 ≠ gb137));have n6_ := Aside0.mk ((by rw [hg];exact Nat.ne_of_gt (blk_lt (g := gb135) (o := .cells #[.int .i64 ((q0f l0 x13_1).f0),.bool ((q0f l0 x13_1).f1),.int .i64 ((q0f l0 x13_1).f2),.string ((q0f l0 x13_1).f3)] 50 (0,0)) (by (with_reducible repeat (first | refine q0i ?_ _ | refine q0j ?_ | refine q0h ?_ _));refine blk_put (cs := #[.int .i64 ((q0f l0 x13_1).f0),.bool ((q0f l0 x13_1).f1),.int .i64 ((q0f l0 x13_1).f2),.string (⟨#[]⟩ : ByteArray)]) ?_ 3 _ rfl;(with_reducible repeat (first | refine q0i ?_ _ | refine q0j ?_ | refine q0h ?_ _));refine blk_put (cs := #[.int .i64 ((q0f l0 x13_1).f0),.bool ((q0f l0 x13_1).f1),.int .i64 0,.string (⟨#[]⟩ : ByteArray)]) ?_ 2 _ rfl;(with_reducible repeat (first | refine q0i ?_ _ | refine q0j ?_ | refine q0h ?_ _));refine blk_put (cs := #[.int .i64 ((q0f l0 x13_1).f0),.bool false,.int .i64 0,.string (⟨#[]⟩ : ByteArray)]) ?_ 1 _ rfl;(with_reducible repeat (first | refine q0i ?_ _ | refine q0j ?_ | refine q0h ?_ _));refine blk_put (cs := #[.int .i64 0,.bool false,.int .i64 0,.string (⟨#[]⟩ : ByteArray)]) ?_ 0 _ rfl;(with_reducible repeat (first | refine q0i ?_ _ | refine q0j ?_ | refine q0h ?_ _));exact BK135.out)) : gb137 ≠ gb135));clear BK135;clear HB;have BK135 := n0_;have HB := n1_;have BK137 := n2_;have GW137 := n3_;have GE137 := n4_;have NB135_137 := n5_;have NB137_135 := n6_;clear n0_ n1_ n2_ n3_ n4_ n5_ n6_;clear hb hbox hg;have hnb23 := NB137_135.out;have hnc23 := NB135_137.out;have hcz24_0 : w22.cell? ⟨gb137,0,none⟩ = some (.int .i64 0) := (q0e BK137.out 0).trans rfl;have hcz24_1 : w22.cell? ⟨gb137,1,none⟩ = some (.bool false) := (q0e BK137.out 1).trans rfl;have hcz24_2 : w22.cell? ⟨gb137,2,none⟩ = some (.int .i64 0) := (q0e BK137.out 2).trans rfl;have hcz24_3 : w22.cell? ⟨gb137,3,none⟩ = some (.string (⟨#[]⟩ : ByteArray)) := (q0e BK137.out 3).trans rfl;have hfz24_0 := q0d BK137.out 0;have hfz24_1 := q0d BK137.out 1;have hfz24_2 := q0d BK137.out 2;have hfz24_3 := q0d BK137.out 3;have hcz25_0 : w22.cell? ⟨gb135,0,none⟩ = some (.int .i64 ((q0f l0 x13_1).f0)) := (q0e BK135.out 0).trans rfl;have hcz25_1 : w22.cell? ⟨gb135,1,none⟩ = some (.bool ((q0f l0 x13_1).f1)) := (q0e BK135.out 1).trans rfl;have hcz25_2 : w22.cell? ⟨gb135,2,none⟩ = some (.int .i64 ((q0f l0 x13_1).f2)) := (q0e BK135.out 2).trans rfl;have hcz25_3 : w22.cell? ⟨gb135,3,none⟩ = some (.string ((q0f l0 x13_1).f3)) := (q0e BK135.out 3).trans rfl;have hfz25_0 := q0d BK135.out 0;have hfz25_1 := q0d BK135.out 1;have hfz25_2 := q0d BK135.out 2;have hfz25_3 := q0d BK135.out 3) | ((with_reducible refine gate_tmp (n := 26) rfl ?_);refine goesT_ (some 29) rfl rfl Try.func46 (by kernel_rfl) rfl #[.agg #[.int .i64 ((q0f l0 x13_1).f0),.bool ((q0f l0 x13_1).f1),.int .i64 ((q0f l0 x13_1).f2),.string ((q0f l0 x13_1).f3)],.agg #[.int .i64 ((q0f l1 x13_1).f0),.bool ((q0f l1 x13_1).f1),.int .i64 ((q0f l1 x13_1).f2),.string ((q0f l1 x13_1).f3)]] rfl rfl (by (try simp only [List.map_toArray,List.map_cons,List.map_nil]);first | done | rfl | (simp only [List.length_drop,List.length_take];rfl)) ?_;(with_reducible refine (value_Compare.calls ((q0f l0 x13_1).f0) ((q0f l0 x13_1).f1) ((q0f l0 x13_1).f2) ((q0f l0 x13_1).f3) ((q0f l1 x13_1).f0) ((q0f l1 x13_1).f1) ((q0f l1 x13_1).f2) ((q0f l1 x13_1).f3) t138 _ A11.out).mono ?_);rintro e w26 ⟨rfl,hb⟩;refine ⟨_,rfl,?_⟩;have n0_ := Aside0.mk (blk_below (g := gb135) (o := .cells #[.int .i64 ((q0f l0 x13_1).f0),.bool ((q0f l0 x13_1).f1),.int .i64 ((q0f l0 x13_1).f2),.string ((q0f l0 x13_1).f3)] 50 (0,0)) (by (with_reducible repeat (first | refine q0i ?_ _ | refine q0j ?_ | refine q0h ?_ _));refine blk_far ?_ NB135_137.out _;(with_reducible repeat (first | refine q0i ?_ _ | refine q0j ?_ | refine q0h ?_ _));refine blk_far ?_ NB135_137.out _;(with_reducible repeat (first | refine q0i ?_ _ | refine q0j ?_ | refine q0h ?_ _));refine blk_far ?_ NB135_137.out _;(with_reducible repeat (first | refine q0i ?_ _ | refine q0j ?_ | refine q0h ?_ _));refine blk_far ?_ NB135_137.out _;(with_reducible repeat (first | refine q0i ?_ _ | refine q0j ?_ | refine q0h ?_ _));exact BK135.out) hb);have n1_ := Aside0.mk (blk_below (g := gb137) (o := .cells #[.int .i64 ((q0f l1 x13_1).f0),.bool ((q0f l1 x13_1).f1),.int .i64 ((q0f l1 x13_1).f2),.string ((q0f l1 x13_1).f3)] 50 (0,0)) (by (with_reducible repeat (first | refine q0i ?_ _ | refine q0j ?_ | refine q0h ?_ _));refine blk_put (cs := #[.int .i64 ((q0f l1 x13_1).f0),.bool ((q0f l1 x13_1).f1),.int .i64 ((q0f l1 x13_1).f2),.string (⟨#[]⟩ : ByteArray)]) ?_ 3 _ rfl;(with_reducible repeat (first | refine q0i ?_ _ | refine q0j ?_ | refine q0h ?_ _));refine blk_put (cs := #[.int .i64 ((q0f l1 x13_1).f0),.bool ((q0f l1 x13_1).f1),.int .i64 0,.string (⟨#[]⟩ : ByteArray)]) ?_ 2 _ rfl;(with_reducible repeat (first | refine q0i ?_ _ | refine q0j ?_ | refine q0h ?_ _));refine blk_put (cs := #[.int .i64 ((q0f l1 x13_1).f0),.bool false,.int .i64 0,.string (⟨#[]⟩ : ByteArray)]) ?_ 1 _ rfl;(with_reducible repeat (first | refine q0i ?_ _ | refine q0j ?_ | refine q0h ?_ _));refine blk_put (cs := #[.int .i64 0,.bool false,.int .i64 0,.string (⟨#[]⟩ : ByteArray)]) ?_ 0 _ rfl;(with_reducible repeat (first | refine q0i ?_ _ | refine q0j ?_ | refine q0h ?_ _));exact BK137.out) hb);have n2_ := Aside0.mk (q0l (by repeat (first | (with_reducible first | exact HB.out | apply q0b | apply q0a | apply q0c | refine q0k ?_ GE135.out | refine q0k ?_ GE137.out) | exact HB.out)) hb);clear BK135;clear BK137;clear HB;have BK135 := n0_;have BK137 := n1_;have HB := n2_;clear n0_ n1_ n2_;(try clear hb);(try clear hb2);(try clear hk);(try clear hi)))
         go_ret
         exact ⟨by first | rfl | (simp [q0n,q0o] <;> rfl) | (simp [*,q0n,q0o] <;> rfl),by repeat (first | (with_reducible first | exact HB.out | apply q0b | apply q0a | apply q0c | refine q0k ?_ GE135.out | refine q0k ?_ GE137.out) | exact HB.out)⟩
       ·rw [if_neg c10] at H
        exact absurd H (by simp)
     ·rw [if_neg c6] at H
      exact absurd H (by simp)
    ·rw [if_neg c5] at H
     exact absurd H (by simp)
   ·rw [if_neg c4] at H
    have c4b0 : decide (x13_1 < (l0.length : Int)) = false := decide_eq_false c4
    clear c4
    by_cases c27 : (l0.length : Int) < (l1.length : Int)
    ·rw [if_pos c27] at H
     have c27b0 : decide ((l0.length : Int) < (l1.length : Int)) = true := decide_eq_true c27
     have c27b1 : decide (l0.length < l1.length) = true := decide_eq_true (Int.ofNat_lt.mp c27)
     clear c27
     obtain rfl := Option.some.inj H
     go_wp2
     go_ret
     exact ⟨by first | rfl | (simp [q0n,q0o] <;> rfl) | (simp [*,q0n,q0o] <;> rfl),by repeat (first | (with_reducible first | exact HB.out | apply q0b | apply q0a | apply q0c) | exact HB.out)⟩
    ·rw [if_neg c27] at H
     have c27b0 : decide ((l0.length : Int) < (l1.length : Int)) = false := decide_eq_false c27
     have c27b1 : decide (l0.length < l1.length) = false := decide_eq_false (fun h => c27 (Int.ofNat_lt.mpr h))
     clear c27
     obtain rfl := Option.some.inj H
     go_wp2
     go_ret
     exact ⟨by first | rfl | (simp [q0n,q0o] <;> rfl) | (simp [*,q0n,q0o] <;> rfl),by repeat (first | (with_reducible first | exact HB.out | apply q0b | apply q0a | apply q0c) | exact HB.out)⟩
end Go.Proofs.Ytfoaeigoajooeaa.Z
end
section
namespace Go.Proofs.Ytfoaeigoajooeaa.Z
open Go.RowKit Go.Proofs.YtfoaeigoajooeaaW.PrintWords Go.Proofs.YtfoaeigoajooeaaW.PrintLast Go.Proofs.YtfoaeigoajooeaaW.PrintMore
attribute [local go_sem] max2_int min2_int max_two min_two max_three min_three max_four min_four
set_option linter.unusedVariables false
set_option linter.unusedSimpArgs false
def row_Compare.f (k : Nat) (l0 : List (S50)) (l1 : List (S50)) : Option (Int) := (slices_CompareFunc.f k l0 l1 424246).bind fun t139 => (some t139)
theorem row_Compare.mono : ∀ a0 a1 k,LeO (row_Compare.f k a0 a1) (row_Compare.f (k + 1) a0 a1) := by
 intro a0 a1 k
 unfold row_Compare.f
 repeat' first
   | (with_reducible exact slices_CompareFunc.mono _ _ _ _)
   | (with_reducible exact LeO.refl _)
   | (with_reducible exact LeO.none _)
   | (with_reducible refine LeO.ite ?_ ?_)
   | (with_reducible refine LeO.bind ?_ (fun _ => ?_))
   | exact slices_CompareFunc.mono _ _ _ _
   | exact LeO.none _
   | refine LeO.ite ?_ ?_
   | refine LeO.bind ?_ (fun _ => ?_)
set_option maxHeartbeats 8000000 in
set_option maxRecDepth 100000 in
theorem row_Compare.calls (k : Nat) (A0 : Option Addr) (c0 : Nat) (l0 : List (S50)) (A1 : Option Addr) (c1 : Nat) (l1 : List (S50)) (r : Int) (w : World) (hr0 : Kd.C k50 w A0 l0.length l0) (hc0 : l0.length ≤ c0) (hr1 : Kd.C k50 w A1 l1.length l1) (hc1 : l1.length ≤ c1) (h : row_Compare.f k l0 l1 = some r) :
  Calls Try.prog 13 #[.slice A0 l0.length c0,.slice A1 l1.length c1] w fun e w' => e = .returned (.int .i64 r) ∧ Below w.heap.size w w' := by
 have HR0 := Aside0.mk hr0
 have HC0 := Aside0.mk hc0
 clear hr0 hc0
 have HR1 := Aside0.mk hr1
 have HC1 := Aside0.mk hc1
 clear hr1 hc1
 have HB := Aside0.mk (Below.refl w.heap.size w)
 have H : ((slices_CompareFunc.f k l0 l1 424246).bind fun t139 => (some t139)) = some r := h
 clear h
 replace H := Option.bind_eq_some_iff.mp H
 obtain ⟨t139,A30,H⟩ := H
 replace H : (some t139) = some r := H
 have A3 := Aside0.mk A30
 clear A30
 obtain rfl := Option.some.inj H
 go_enter Try.func13,Try.ntmps13
 go_wp2_with (first | ((with_reducible refine q0t (f := 45) rfl ?_);refine goesL_ (some 7) rfl rfl Try.func45 (by kernel_rfl) rfl #[.slice A0 l0.length c0,.slice A1 l1.length c1,.func (.func 46) #[] #[]] rfl (by (try simp only [List.map_toArray,List.map_cons,List.map_nil]);first | done | rfl | (simp only [List.length_drop,List.length_take];rfl)) ?_;(with_reducible refine (slices_CompareFunc.calls k _ _ l0 _ _ l1 424246 t139 _ ?side1 ?side2 ?side3 ?side4 A3.out).mono ?_);(case side1 => repeat (first | exact HR0.out | (with_reducible refine Kd.C_alloc ?_ _) | (with_reducible refine Kd.C_drewN ?_ _) | (with_reducible refine Kd.C_drew ?_)));(case side2 => exact HC0.out);(case side3 => repeat (first | exact HR1.out | (with_reducible refine Kd.C_alloc ?_ _) | (with_reducible refine Kd.C_drewN ?_ _) | (with_reducible refine Kd.C_drew ?_)));(case side4 => exact HC1.out);rintro e w4 ⟨rfl,hb⟩;refine ⟨_,rfl,?_⟩;have n0_ := Aside0.mk (q0l (by repeat (first | (with_reducible first | exact HB.out | apply q0b | apply q0a | apply q0c) | exact HB.out)) hb);clear HB;have HB := n0_;clear n0_;(try clear hb);(try clear hb2);(try clear hk);(try clear hi)))
 go_ret
 exact ⟨by first | rfl | (simp [q0n,q0o] <;> rfl) | (simp [*,q0n,q0o] <;> rfl),by repeat (first | (with_reducible first | exact HB.out | apply q0b | apply q0a | apply q0c) | exact HB.out)⟩
end Go.Proofs.Ytfoaeigoajooeaa.Z
end
section
namespace Go.Proofs.Ytfoaeigoajooeaa.Cmp
structure CmpLaw {α : Type} (c : α → α → Int) : Prop where
 lo : ∀ a b,-1 ≤ c a b
 anti : ∀ a b,c b a = - c a b
 le : ∀ a b d,c a b ≤ 0 → c b d ≤ 0 → c a d ≤ 0
variable {α : Type} {c : α → α → Int}
theorem CmpLaw.hi (h : CmpLaw c) (a b : α) : c a b ≤ 1 := by have := h.lo b a;have := h.anti b a;omega
theorem CmpLaw.lt_le (h : CmpLaw c) {a b d : α} (h1 : c a b < 0) (h2 : c b d ≤ 0) : c a d < 0 := by
 have h3 := h.le a b d (by omega) h2
 rcases Int.lt_or_eq_of_le h3 with h4 | h4
 ·exact h4
 ·have h5 := h.anti a d
  have h6 := h.le b d a h2 (by omega)
  have h7 := h.anti a b
  omega
theorem CmpLaw.le_lt (h : CmpLaw c) {a b d : α} (h1 : c a b ≤ 0) (h2 : c b d < 0) : c a d < 0 := by
 have h3 := h.le a b d h1 (by omega)
 rcases Int.lt_or_eq_of_le h3 with h4 | h4
 ·exact h4
 ·have h5 := h.anti a d
  have h6 := h.le d a b (by omega) h1
  have h7 := h.anti b d
  omega
theorem CmpLaw.eq_left (h : CmpLaw c) {a b : α} (d : α) (h1 : c a b = 0) : c a d = c b d := by
 have a1 := h.anti a b
 have lo1 := h.lo a d
 have hi1 := h.hi a d
 have lo2 := h.lo b d
 have hi2 := h.hi b d
 rcases Int.lt_trichotomy (c b d) 0 with h2 | h2 | h2
 ·have := h.le_lt (a := a) (b := b) (d := d) (by omega) h2
  omega
 ·have h3 := h.le a b d (by omega) (by omega)
  have h4 := h.le d b a (by have := h.anti b d;omega) (by omega)
  have := h.anti a d
  omega
 ·have h3 : c d b < 0 := by have := h.anti b d;omega
  have := h.lt_le h3 (show c b a ≤ 0 by omega)
  have := h.anti a d
  omega
def cmpI (a b : Int) : Int := if a < b then -1 else if b < a then 1 else 0
theorem cmpI_law : CmpLaw cmpI := by
 refine ⟨fun a b => ?_,fun a b => ?_,fun a b d h1 h2 => ?_⟩ <;> unfold cmpI at * <;> repeat' split at * <;> omega
theorem cmpI_eq {a b : Int} : cmpI a b = 0 ↔ a = b := by unfold cmpI;repeat' split <;> omega
theorem CmpLaw.on {β : Type} (f : β → α) (h : CmpLaw c) : CmpLaw (fun x y => c (f x) (f y)) := ⟨fun _ _ => h.lo _ _,fun _ _ => h.anti _ _,fun _ _ _ => h.le _ _ _⟩
def andThenC (c d : α → α → Int) (a b : α) : Int := if c a b = 0 then d a b else c a b
theorem CmpLaw.andThen {d : α → α → Int} (hc : CmpLaw c) (hd : CmpLaw d) : CmpLaw (andThenC c d) := by
 refine ⟨fun a b => ?_,fun a b => ?_,fun a b e h1 h2 => ?_⟩
 ·unfold andThenC;split
  ·exact hd.lo a b
  ·exact hc.lo a b
 ·unfold andThenC
  have h1 := hc.anti a b
  have h2 := hd.anti a b
  by_cases h : c a b = 0
  ·rw [if_pos h,if_pos (by omega)];exact h2
  ·rw [if_neg h,if_neg (by omega)];exact h1
 ·unfold andThenC at *
  by_cases ha : c a b = 0
  ·rw [if_pos ha] at h1
   rw [hc.eq_left e ha]
   by_cases hb : c b e = 0
   ·rw [if_pos hb] at h2 ⊢
    exact hd.le _ _ _ h1 h2
   ·rw [if_neg hb] at h2 ⊢
    exact h2
  ·rw [if_neg ha] at h1
   have h3 : c b e ≤ 0 := by
    by_cases hb : c b e = 0
    ·omega
    ·rw [if_neg hb] at h2;exact h2
   have h4 := hc.lt_le (show c a b < 0 by omega) h3
   rw [if_neg (by omega)]
   omega
def lexC (c : α → α → Int) : List α → List α → Int
 | [],[] => 0
 | [],_ :: _ => -1
 | _ :: _,[] => 1
 | a :: as_,b :: bs => if c a b = 0 then lexC c as_ bs else c a b
theorem lexC_law (h : CmpLaw c) : CmpLaw (lexC c) := by
 have lo : ∀ a b,-1 ≤ lexC c a b := by
  intro a
  induction a with
  | nil => intro b;cases b <;> simp [lexC]
  | cons x a ih =>
   intro b
   cases b with
   | nil => simp [lexC]
   | cons y b =>
    simp only [lexC]
    split
    ·exact ih b
    ·exact h.lo x y
 have anti : ∀ a b,lexC c b a = - lexC c a b := by
  intro a
  induction a with
  | nil => intro b;cases b <;> simp [lexC]
  | cons x a ih =>
   intro b
   cases b with
   | nil => simp [lexC]
   | cons y b =>
    simp only [lexC]
    have h1 := h.anti x y
    by_cases h0 : c x y = 0
    ·rw [if_pos h0,if_pos (by omega)];exact ih b
    ·rw [if_neg h0,if_neg (by omega)];exact h1
 refine ⟨lo,anti,?_⟩
 intro a
 induction a with
 | nil =>
  intro b d h1 h2
  cases d with
  | nil => simp [lexC]
  | cons => simp [lexC]
 | cons x a ih =>
  intro b d h1 h2
  cases b with
  | nil => simp [lexC] at h1
  | cons y b =>
   cases d with
   | nil => simp [lexC] at h2
   | cons z d =>
    simp only [lexC] at h1 h2 ⊢
    by_cases hxy : c x y = 0
    ·rw [if_pos hxy] at h1
     rw [h.eq_left z hxy]
     by_cases hyz : c y z = 0
     ·rw [if_pos hyz] at h2 ⊢
      exact ih b d h1 h2
     ·rw [if_neg hyz] at h2 ⊢
      exact h2
    ·rw [if_neg hxy] at h1
     have h3 : c y z ≤ 0 := by
      by_cases hyz : c y z = 0
      ·omega
      ·rw [if_neg hyz] at h2;exact h2
     have h4 := h.lt_le (show c x y < 0 by omega) h3
     rw [if_neg (by omega)]
     omega
def cmpB (a b : List UInt8) : Int := lexC (fun x y : UInt8 => cmpI x.toNat y.toNat) a b
theorem cmpB_law : CmpLaw cmpB := lexC_law (cmpI_law.on fun x : UInt8 => (x.toNat : Int))
theorem compareBytes_eq (a b : List UInt8) : Lib.compareBytes a b = cmpB a b := by
 unfold cmpB
 induction a generalizing b with
 | nil => cases b <;> rfl
 | cons x a ih =>
  cases b with
  | nil => rfl
  | cons y b =>
   have e : lexC (fun x y : UInt8 => cmpI x.toNat y.toNat) (x :: a) (y :: b) = if cmpI x.toNat y.toNat = 0 then lexC (fun x y : UInt8 => cmpI x.toNat y.toNat) a b else cmpI x.toNat y.toNat := rfl
   rw [e,← ih b]
   simp only [Lib.compareBytes,UInt8.lt_iff_toNat_lt]
   by_cases h1 : x.toNat < y.toNat
   ·have h3 : cmpI x.toNat y.toNat = -1 := by unfold cmpI;rw [if_pos (by omega)]
    rw [if_pos h1,h3,if_neg (by omega)]
   ·by_cases h2 : y.toNat < x.toNat
    ·have h3 : cmpI x.toNat y.toNat = 1 := by unfold cmpI;rw [if_neg (by omega),if_pos (by omega)]
     rw [if_neg h1,if_pos h2,h3,if_neg (by omega)]
    ·have h3 : cmpI x.toNat y.toNat = 0 := by unfold cmpI;rw [if_neg (by omega),if_neg (by omega)]
     rw [if_neg h1,if_neg h2,h3,if_pos rfl]
end Go.Proofs.Ytfoaeigoajooeaa.Cmp
end
section
namespace Go.Proofs.Ytfoaeigoajooeaa.Z
open Go.RowKit Go.Proofs.YtfoaeigoajooeaaW.PrintWords Go.Proofs.YtfoaeigoajooeaaW.PrintLast Go.Proofs.YtfoaeigoajooeaaW.PrintMore Go.Proofs.Ytfoaeigoajooeaa.Cmp
theorem wrap_id {x : Int} (h0 : -9223372036854775808 ≤ x) (h1 : x ≤ 9223372036854775807) : wrap64 x = x := by unfold wrap64;omega
theorem wrap_succ {n : Nat} {m : Nat} (h : n < m) (hm : m ≤ 9223372036854775807) : wrap64 ((n : Int) + 1) = ((n + 1 : Nat) : Int) := by rw [wrap_id (by omega) (by omega)];omega
def b2i (b : Bool) : Int := if b then 1 else 0
def kcmp (a b : S50) : Int := if a.f0 = 1 then cmpI (b2i a.f1) (b2i b.f1) else if a.f0 = 2 then cmpI a.f2 b.f2 else if a.f0 = 3 then cmpB a.f3.data.toList b.f3.data.toList else 0
def vcmp (a b : S50) : Int := if a.f0 = b.f0 then kcmp a b else cmpI a.f0 b.f0
theorem vcmp_law : CmpLaw vcmp := by
 have anti : ∀ a b,vcmp b a = - vcmp a b := by
  intro a b
  unfold vcmp
  by_cases h : a.f0 = b.f0
  ·rw [if_pos h,if_pos h.symm]
   unfold kcmp
   rw [← h]
   by_cases h1 : a.f0 = 1
   ·rw [if_pos h1,if_pos h1];exact cmpI_law.anti _ _
   ·by_cases h2 : a.f0 = 2
    ·rw [if_neg h1,if_neg h1,if_pos h2,if_pos h2];exact cmpI_law.anti _ _
    ·by_cases h3 : a.f0 = 3
     ·rw [if_neg h1,if_neg h1,if_neg h2,if_neg h2,if_pos h3,if_pos h3];exact cmpB_law.anti _ _
     ·rw [if_neg h1,if_neg h1,if_neg h2,if_neg h2,if_neg h3,if_neg h3];rfl
  ·rw [if_neg h,if_neg (fun e => h e.symm)];exact cmpI_law.anti _ _
 refine ⟨fun a b => ?_,anti,fun a b d h1 h2 => ?_⟩
 ·unfold vcmp kcmp
  repeat' split
  all_goals first | exact cmpI_law.lo _ _ | exact cmpB_law.lo _ _ | omega
 ·unfold vcmp at *
  by_cases hab : a.f0 = b.f0
  ·rw [if_pos hab] at h1
   by_cases hbd : b.f0 = d.f0
   ·rw [if_pos hbd] at h2
    rw [if_pos (hab.trans hbd)]
    unfold kcmp at *
    rw [← hab] at h2
    by_cases k1 : a.f0 = 1
    ·rw [if_pos k1] at h1 h2 ⊢;exact cmpI_law.le _ _ _ h1 h2
    ·by_cases k2 : a.f0 = 2
     ·rw [if_neg k1,if_pos k2] at h1 h2 ⊢;exact cmpI_law.le _ _ _ h1 h2
     ·by_cases k3 : a.f0 = 3
      ·rw [if_neg k1,if_neg k2,if_pos k3] at h1 h2 ⊢;exact cmpB_law.le _ _ _ h1 h2
      ·rw [if_neg k1,if_neg k2,if_neg k3];omega
   ·rw [if_neg hbd] at h2
    rw [if_neg (fun e => hbd (hab.symm.trans e)),hab]
    exact h2
  ·rw [if_neg hab] at h1
   by_cases hbd : b.f0 = d.f0
   ·rw [if_neg (fun e => hab (e.trans hbd.symm)),← hbd]
    exact h1
   ·rw [if_neg hbd] at h2
    have n1 : cmpI a.f0 b.f0 ≠ 0 := fun e => hab (cmpI_eq.1 e)
    have h3 := cmpI_law.lt_le (show cmpI a.f0 b.f0 < 0 by omega) h2
    rw [if_neg (fun e => by have := cmpI_eq.2 e;omega)]
    omega
def rcmp (a b : List S50) : Int := lexC vcmp a b
theorem rcmp_law : CmpLaw rcmp := lexC_law vcmp_law
theorem isNaN_f (x : Int) : cmp_isNaN_70.f x = some false := by unfold cmp_isNaN_70.f;simp
theorem isNaN_g (x : Int) : cmp_isNaN_71.f x = some false := by unfold cmp_isNaN_71.f;simp
theorem cmp_f (a b : Int) : cmp_Compare_63.f a b = some (cmpI a b) := by
 unfold cmp_Compare_63.f cmpI
 rw [isNaN_f,isNaN_f]
 simp only [Option.bind_some,Bool.false_eq_true,if_false,gt_iff_lt]
 repeat' split
 all_goals first | rfl | omega
theorem cmp_g (a b : Int) : cmp_Compare_65.f a b = some (cmpI a b) := by
 unfold cmp_Compare_65.f cmpI
 rw [isNaN_g,isNaN_g]
 simp only [Option.bind_some,Bool.false_eq_true,if_false,gt_iff_lt]
 repeat' split
 all_goals first | rfl | omega
theorem truth_f (b : Bool) : value_truth.f b = some (b2i b) := by cases b <;> rfl
theorem vcmp_f (a b : S50) : value_Compare.f a.f0 a.f1 a.f2 a.f3 b.f0 b.f1 b.f2 b.f3 = some (vcmp a b) := by
 unfold value_Compare.f vcmp kcmp
 rw [truth_f,truth_f,cmp_g]
 simp only [Option.bind_some,cmp_f,strings_Compare.f,compareBytes_eq]
 repeat' split
 all_goals rfl
theorem rd_nat (xs : List S50) (i : Nat) : q0f xs (i : Int) = xs.getD i z50 := rfl
theorem rd_get {xs : List S50} {i : Nat} (h : i < xs.length) : q0f xs (i : Int) = xs[i] := by rw [rd_nat];simp [List.getD,List.getElem?_eq_getElem h]
theorem drop_rd {xs : List S50} {i : Nat} (h : i < xs.length) : xs.drop i = q0f xs (i : Int) :: xs.drop (i + 1) := by rw [rd_get h];exact List.drop_eq_getElem_cons h
theorem compareFunc_l0 (x0 x1 : List S50) (hl : x0.length ≤ 9223372036854775807) : ∀ d i k,x0.length - i = d → i ≤ x0.length → i ≤ x1.length → d < k → slices_CompareFunc.l0 k x0 x1 x0 (x0.length : Int) (i : Int) = some (rcmp (x0.drop i) (x1.drop i)) := by
 intro d
 induction d with
 | zero =>
  intro i k hd hi hi1 hk
  obtain ⟨k,rfl⟩ : ∃ m,k = m + 1 := ⟨k - 1,by omega⟩
  simp only [slices_CompareFunc.l0]
  rw [if_neg (by omega)]
  have e0 : x0.drop i = [] := List.drop_eq_nil_of_le (by omega)
  rw [e0]
  by_cases h : i < x1.length
  ·rw [if_pos (by omega),drop_rd h];rfl
  ·rw [if_neg (by omega),List.drop_eq_nil_of_le (by omega)];rfl
 | succ d ih =>
  intro i k hd hi hi1 hk
  obtain ⟨k,rfl⟩ : ∃ m,k = m + 1 := ⟨k - 1,by omega⟩
  have hlt : i < x0.length := by omega
  simp only [slices_CompareFunc.l0]
  rw [if_pos (by omega),if_pos (by omega),if_pos (by omega),drop_rd hlt]
  by_cases h : i < x1.length
  ·rw [if_neg (by omega),if_pos (by omega),vcmp_f,Option.bind_some,drop_rd h]
   by_cases h0 : vcmp (q0f x0 i) (q0f x1 i) = 0
   ·rw [if_pos h0,wrap_succ hlt hl,ih (i + 1) k (by omega) (by omega) (by omega) (by omega)]
    simp [rcmp,lexC,h0]
   ·rw [if_neg h0]
    simp [rcmp,lexC,h0]
  ·rw [if_pos (by omega),List.drop_eq_nil_of_le (show x1.length ≤ i by omega)]
   rfl
theorem rowCompare_f (a b : List S50) (ha : a.length ≤ 9223372036854775807) (k : Nat) (hk : a.length < k) : row_Compare.f k a b = some (rcmp a b) := by
 unfold row_Compare.f slices_CompareFunc.f
 have h := compareFunc_l0 a b ha a.length 0 k (by omega) (by omega) (by omega) hk
 rw [show ((0 : Nat) : Int) = 0 from rfl] at h
 rw [h]
 rfl
end Go.Proofs.Ytfoaeigoajooeaa.Z
end
section
namespace Go.Proofs.Ytfoaeigoajooeaa.Z
set_option linter.unusedVariables false
set_option linter.unusedSimpArgs false
open Go.RowKit Go.Proofs.YtfoaeigoajooeaaW.PrintWords Go.Proofs.YtfoaeigoajooeaaW.PrintLast Go.Proofs.YtfoaeigoajooeaaW.PrintMore Go.Proofs.Ytfoaeigoajooeaa.Cmp
abbrev Rw := List S50
structure RowC (w : World) (A : Option Addr) (c : Nat) (r : List S50) : Prop where
 cap : r.length ≤ c
 row : Kd.C k50 w A r.length r
theorem RowC.below {w w1 : World} {A : Option Addr} {c : Nat} {r : List S50} (h : RowC w A c r) (hb : Below w.heap.size w w1) : RowC w1 A c r := ⟨h.cap,Kd.C_below h.row hb⟩
theorem RowC.max {w : World} {A : Option Addr} {c : Nat} {r : List S50} (h : RowC w A c r) : r.length ≤ 9223372036854775807 := h.row.2.1
theorem add_block (a : Addr) (n : Nat) : (a.add n).block = a.block := by unfold Addr.add;split <;> rfl
theorem heapV : Kd.Heap k50 := ⟨fun hb h => by rw [k50_open h];exact k50_mk _ _⟩
structure SameW (w w' : World) : Prop where
 heap : w'.heap = w.heap
 os : w'.os = w.os
 tape : w'.tape = w.tape
 output : w'.output = w.output
structure NextW (N : Nat) (w w' : World) : Prop where
 below : Below N w w'
 le : N ≤ w'.heap.size
theorem NextW.refl (w : World) : NextW w.heap.size w w := ⟨Below.refl _ _,Nat.le_refl _⟩
theorem NextW.at_ {N : Nat} {w w1 W : World} (h : NextW N w w1) (e : SameW w1 W := by exact ⟨rfl,rfl,rfl,rfl⟩) : Below N w W :=
 ⟨e.os.trans h.below.os,e.tape.trans h.below.tape,e.output.trans h.below.output,by rw [e.heap];exact h.below.size,fun k hk => by rw [e.heap];exact h.below.block k hk⟩
theorem SameW.below {w W : World} (e : SameW w W) (N : Nat) : Below N w W := ⟨e.os,e.tape,e.output,by rw [e.heap];exact Nat.le_refl _,fun k _ => by rw [e.heap]⟩
theorem SameW.refl (w : World) : SameW w w := ⟨rfl,rfl,rfl,rfl⟩
theorem SameW.drew (w : World) : SameW w w.drew := ⟨rfl,rfl,rfl,rfl⟩
theorem SameW.drewN (w : World) (n : Nat) : SameW w (w.drewN n) := ⟨rfl,rfl,rfl,rfl⟩
theorem only_refl (a : World) (g : Nat) : a.grownBy a (some g) := ⟨rfl,rfl,rfl,Nat.le_refl _,fun _ _ _ => rfl⟩
theorem only_drewN {a w : World} {row : Option Nat} (h : a.grownBy w row) (n : Nat) : a.grownBy (w.drewN n) row := ⟨h.os,h.tape,h.output,h.size,h.block⟩
theorem only_drew {a w : World} {row : Option Nat} (h : a.grownBy w row) : a.grownBy w.drew row := ⟨h.os,h.tape,h.output,h.size,h.block⟩
theorem only_setCell {a w : World} {g : Nat} {p : Addr} (h : a.grownBy w (some g)) (hp : p.block = g ∨ a.heap.size ≤ p.block) (u : Value) : a.grownBy (w.setCell p u) (some g) :=
 ⟨h.os,h.tape,h.output,by simpa [World.setCell] using h.size,fun i hi hne => (Below.heap_setCell w p u i (by
  rintro rfl
  rcases hp with hp | hp
  ·exact hne (by rw [hp])
  ·omega)).trans (h.block i hi hne)⟩
end Go.Proofs.Ytfoaeigoajooeaa.Z
end
section
namespace Go.Proofs.Ytfoaeigoajooeaa.Z
set_option linter.unusedVariables false
set_option linter.unusedSimpArgs false
open Go.RowKit Go.Proofs.YtfoaeigoajooeaaW.PrintWords Go.Proofs.YtfoaeigoajooeaaW.PrintLast Go.Proofs.YtfoaeigoajooeaaW.PrintMore
structure Fe where
 A : Option Addr
 c : Nat
 row : Rw
abbrev El := Fe × Nat
def zEl : El := (⟨none,0,[]⟩,0)
def atL (L : List El) (i : Nat) : El := L.getD i zEl
def Gd (w : World) (blk : Nat) (u : Fe) : Prop := ∀ W',(∀ k,k < w.heap.size → k ≠ blk → W'.heap[k]? = w.heap[k]?) → RowC W' u.A u.c u.row
theorem Gd.now {w : World} {blk : Nat} {u : Fe} (h : Gd w blk u) : RowC w u.A u.c u.row := h w (fun _ _ _ => rfl)
theorem Gd.step {w w1 : World} {blk : Nat} {u : Fe} (h : Gd w blk u) (hs : w.heap.size ≤ w1.heap.size) (hb : ∀ k,k < w.heap.size → k ≠ blk → w1.heap[k]? = w.heap[k]?) : Gd w1 blk u := fun W' hW => h W' (fun k hk hn => (hW k (Nat.lt_of_lt_of_le hk hs) hn).trans (hb k hk hn))
structure RowAt (w : World) (blk : Nat) (L : List El) : Prop where
 out : ∃ cells : Array Value,w.heap[blk]? = some (.cells cells 22 (0,0)) ∧ ∀ i,i < L.length → cells[i]? = some (.slice (atL L i).1.A (atL L i).1.row.length (atL L i).1.c)
 good : ∀ i,i < L.length → Gd w blk (atL L i).1
theorem RowAt.cell {w : World} {blk : Nat} {L : List El} (h : RowAt w blk L) {i : Nat} (hi : i < L.length) : w.cell? ⟨blk,i,none⟩ = some (.slice (atL L i).1.A (atL L i).1.row.length (atL L i).1.c) ∧ (∀ o,w.frozen? ⟨blk,o,none⟩ = false) ∧ blk < w.heap.size ∧ Gd w blk (atL L i).1 := by
 obtain ⟨cells,hb,hc⟩ := h.out
 obtain h0 := hc i hi
 exact ⟨(q0e hb _).trans h0,fun o => q0d hb o,blk_lt hb,h.good i hi⟩
theorem RowAt.heap {w w' : World} {blk : Nat} {L : List El} (h : RowAt w blk L) (e : ∀ k,k < w.heap.size → w'.heap[k]? = w.heap[k]?) : RowAt w' blk L := by
 obtain ⟨cells,hb,hc⟩ := h.out
 exact ⟨⟨cells,(e blk (blk_lt hb)).trans hb,hc⟩,fun i hi W' hW => h.good i hi W' (fun k hk hn => (hW k (Nat.lt_of_not_le (fun hge => by have h1 := e k hk;rw [Array.getElem?_eq_none hge,Array.getElem?_eq_getElem hk] at h1;cases h1)) hn).trans (e k hk))⟩
theorem RowAt.drew {w : World} {blk : Nat} {L : List El} (h : RowAt w blk L) : RowAt w.drew blk L := h.heap (fun _ _ => rfl)
def putN (w : World) (blk i : Nat) (u : Fe) : World := w.setCell ⟨blk,i,none⟩ (.slice u.A u.row.length u.c)
theorem putN_off (w : World) (blk i : Nat) (u : Fe) (k : Nat) (hn : k ≠ blk) : (putN w blk i u).heap[k]? = w.heap[k]? := by
 unfold putN
 rw [Below.heap_setCell _ _ _ k hn]
theorem putN_size (w : World) (blk i : Nat) (u : Fe) : w.heap.size ≤ (putN w blk i u).heap.size := by
 unfold putN
 simp [World.setCell]
theorem atL_set (L : List El) (i : Nat) (x : El) (hi : i < L.length) (j : Nat) : atL (L.set i x) j = if j = i then x else atL L j := by
 unfold atL
 by_cases e : j = i
 ·subst e;simp [List.getD,hi]
 ·rw [if_neg e];simp [List.getD,List.getElem?_set_ne (fun q => e q.symm)]
theorem RowAt.put {w : World} {blk : Nat} {L : List El} (h : RowAt w blk L) {i : Nat} (hi : i < L.length) (x : El) (hx : Gd w blk x.1) : RowAt (putN w blk i x.1) blk (L.set i x) := by
 obtain ⟨cells,hb,hc⟩ := h.out
 refine ⟨⟨cells.setIfInBounds (i) (.slice x.1.A x.1.row.length x.1.c),?_,?_⟩,?_⟩
 ·exact blk_put hb _ _ rfl
 ·intro j hj
  rw [List.length_set] at hj
  obtain g0 := hc i hi
  have s0 := (Array.getElem?_eq_some_iff.1 g0).1
  rw [atL_set L i x hi]
  by_cases e : j = i
  ·subst e
   rw [if_pos rfl]
   simp only [Array.getElem?_setIfInBounds,Array.size_setIfInBounds]
   simp <;> omega
  ·rw [if_neg e]
   obtain k0 := hc j hj
   simp only [Array.getElem?_setIfInBounds,Array.size_setIfInBounds]
   (repeat rw [if_neg (by omega)]) <;> assumption
 ·intro j hj
  rw [List.length_set] at hj
  rw [atL_set L i x hi]
  split
  ·exact hx.step (putN_size _ _ _ _) (fun k _ hn => putN_off _ _ _ _ k hn)
  ·exact (h.good j hj).step (putN_size _ _ _ _) (fun k _ hn => putN_off _ _ _ _ k hn)
def swp (L : List El) (i j : Nat) : List El := (L.set i (atL L j)).set j (atL L i)
def swpR (L : List El) (a b : Nat) : Nat → List El
 | 0 => L
 | k + 1 => swp (swpR L a b k) (a + k) (b + k)
theorem swp_len (L : List El) (i j : Nat) : (swp L i j).length = L.length := by unfold swp;simp
theorem swpR_len (L : List El) (a b : Nat) : ∀ k,(swpR L a b k).length = L.length := by
 intro k
 induction k with
 | zero => rfl
 | succ k ih => rw [swpR,swp_len,ih]
theorem RowAt.swap {w : World} {blk : Nat} {L : List El} (h : RowAt w blk L) {i j : Nat} (hi : i < L.length) (hj : j < L.length) : RowAt (putN (putN w blk i (atL L j).1) blk j (atL L i).1) blk (swp L i j) :=
 (h.put hi (atL L j) (h.good j hj)).put (by simpa using hj) (atL L i) ((h.good i hi).step (putN_size _ _ _ _) (fun k _ hn => putN_off _ _ _ _ k hn))
theorem only_putN {a w : World} {blk i : Nat} {u : Fe} (h : a.grownBy w (some blk)) : a.grownBy (putN w blk i u) (some blk) := only_setCell h (.inl rfl) _
set_option maxHeartbeats 4000000 in
set_option maxRecDepth 100000 in
theorem swap_range (blk cap a b m : Nat) (fv : Value) (L : List El) (w : World) (h : RowAt w blk L) (hb : b + m ≤ L.length) (hL : L.length ≤ 1000000) (hab : a + m ≤ b) :
  Calls Try.prog 77 #[.slice (some ⟨blk,0,none⟩) L.length cap,.int .i64 a,.int .i64 b,.int .i64 m,fv] w fun e w' => e = .returned (.tuple #[]) ∧ RowAt w' blk (swpR L a b m) ∧ w.grownBy w' (some blk) := by
 have H := Aside0.mk h
 have HG := Aside0.mk (only_refl w blk)
 clear h
 go_enter Try.func77,Try.ntmps77
 go_wp2
 go_loopw [10] (fun i wr => ∃ k : Nat,i = .int .i64 (k : Int) ∧ k ≤ m ∧ Aside0 (RowAt wr blk (swpR L a b k)) ∧ Aside0 (w.grownBy wr (some blk))) (fun i _ => m - (intOf i).toNat)
 case atStart => exact ⟨0,rfl,Nat.zero_le _,H,HG⟩
 case round =>
  clear H HG
  obtain ⟨k,rfl,hk,H,HG⟩ := hrel
  by_cases hlt : k < m
  ·have q1 : a + k < (swpR L a b k).length := by rw [swpR_len];omega
   have q2 : b + k < (swpR L a b k).length := by rw [swpR_len];omega
   obtain ⟨x0,z,hbl,_⟩ := H.out.cell q1
   obtain ⟨y0,_,_,_⟩ := H.out.cell q2
   have SW := Aside0.mk (H.out.swap q1 q2)
   have p1 : a + k < L.length := by omega
   have p2 : b + k < L.length := by omega
   have n00 : ¬ ((b + k) = (a + k)) := by omega
   generalize hx : atL (swpR L a b k) (a + k) = ex at *
   generalize hy : atL (swpR L a b k) (b + k) = ey at *
   have SN := Aside0.mk (show swp (swpR L a b k) (a + k) (b + k) = swpR L a b (k + 1) from rfl)
   clear hx hy q1 q2
   go_wp2
   go_region
   rw [SN.out] at SW
   have R1 : Aside0 (RowAt (putN (putN wr blk (a + k) ey.1) blk (b + k) ex.1) blk (swpR L a b (k + 1))) := SW
   have G1 := Aside0.mk (only_putN (i := b + k) (u := ex.1) (only_putN (i := a + k) (u := ey.1) HG.out))
   clear SW SN x0 y0 z H HG
   have R2 := R1.out.drew
   have G2 := only_drew G1.out
   unfold putN at R2 G2
   have R3 := Aside0.mk R2
   have G3 := Aside0.mk G2
   clear R1 G1 R2 G2
   go_wp2
   go_roundw
   case rel => exact ⟨k + 1,by go_num,by omega,R3,G3⟩
   case measure => simp [intOf];omega
  ·have hkm : k = m := by omega
   subst hkm
   go_wp2
   go_end0
   exact ⟨rfl,H.out,HG.out⟩
end Go.Proofs.Ytfoaeigoajooeaa.Z
end
section
namespace Go.Proofs.Ytfoaeigoajooeaa.Z
set_option linter.unusedVariables false
set_option linter.unusedSimpArgs false
set_option linter.unnecessarySimpa false
theorem atL_mid (P S : List El) (x : El) : atL (P ++ x :: S) P.length = x := by
 unfold atL
 rw [List.getD_eq_getElem?_getD,List.getElem?_append_right (Nat.le_refl _),Nat.sub_self]
 rfl
theorem atL_app (P S : List El) (n : Nat) : atL (P ++ S) (P.length + n) = atL S n := by
 unfold atL
 rw [List.getD_eq_getElem?_getD,List.getD_eq_getElem?_getD,List.getElem?_append_right (Nat.le_add_right _ _),Nat.add_sub_cancel_left]
theorem set_mid (P S : List El) (x y : El) : (P ++ x :: S).set P.length y = P ++ y :: S := by
 rw [List.set_append_right _ _ (Nat.le_refl _),Nat.sub_self]
 rfl
theorem swp_split (P M S : List El) (x y : El) : swp (P ++ x :: (M ++ y :: S)) P.length (P.length + (M.length + 1)) = P ++ y :: (M ++ x :: S) := by
 have e1 : atL (P ++ x :: (M ++ y :: S)) P.length = x := atL_mid _ _ _
 have e2 : atL (P ++ x :: (M ++ y :: S)) (P.length + (M.length + 1)) = y := by
  rw [atL_app]
  show atL (x :: (M ++ y :: S)) (M.length + 1) = y
  have := atL_mid (x :: M) S y
  simpa using this
 unfold swp
 rw [e1,e2,set_mid]
 have := set_mid (P ++ y :: M) S y x
 rw [List.length_append,List.length_cons] at this
 simpa using this
theorem swpR_split (m : Nat) : ∀ (P X M Y S : List El),X.length = m → Y.length = m → swpR (P ++ X ++ M ++ Y ++ S) P.length (P.length + X.length + M.length) m = P ++ Y ++ M ++ X ++ S := by
 induction m with
 | zero =>
  intro P X M Y S hx hy
  obtain rfl := List.length_eq_zero_iff.1 hx
  obtain rfl := List.length_eq_zero_iff.1 hy
  rfl
 | succ m ih =>
  intro P X M Y S hx hy
  rcases List.eq_nil_or_concat X with rfl | ⟨X1,x,rfl⟩
  ·simp at hx
  rcases List.eq_nil_or_concat Y with rfl | ⟨Y1,y,rfl⟩
  ·simp at hy
  rw [List.concat_eq_append] at *
  rw [List.concat_eq_append] at *
  have hx1 : X1.length = m := by simpa using hx
  have hy1 : Y1.length = m := by simpa using hy
  have h := ih P X1 ([x] ++ M) Y1 ([y] ++ S) hx1 hy1
  have e : P ++ X1 ++ ([x] ++ M) ++ Y1 ++ ([y] ++ S) = P ++ (X1 ++ [x]) ++ M ++ (Y1 ++ [y]) ++ S := by simp
  rw [e] at h
  have eb : P.length + X1.length + ([x] ++ M).length = P.length + (X1 ++ [x]).length + M.length := by simp;omega
  rw [eb] at h
  rw [swpR,h]
  have h2 := swp_split (P ++ Y1) (M ++ X1) S x y
  have e1 : P.length + m = (P ++ Y1).length := by simp [hy1]
  have e2 : P.length + (X1 ++ [x]).length + M.length + m = (P ++ Y1).length + ((M ++ X1).length + 1) := by simp [hx1,hy1];omega
  rw [e1,e2]
  have e3 : P ++ Y1 ++ ([x] ++ M) ++ X1 ++ ([y] ++ S) = P ++ Y1 ++ x :: (M ++ X1 ++ y :: S) := by simp
  rw [e3,h2]
  simp
structure Ord3 (cf : Fe → Fe → Int) : Prop where
 anti : ∀ x y,cf y x = -cf x y
 trans : ∀ x y z,cf x y ≤ 0 → cf y z ≤ 0 → cf x z ≤ 0
def Lx (cf : Fe → Fe → Int) (x y : El) : Prop := cf x.1 y.1 < 0 ∨ (cf x.1 y.1 = 0 ∧ x.2 < y.2)
theorem Lx.trans {cf : Fe → Fe → Int} (o : Ord3 cf) {x y z : El} (h1 : Lx cf x y) (h2 : Lx cf y z) : Lx cf x z := by
 unfold Lx at *
 have a1 := o.trans x.1 y.1 z.1
 have a2 := o.trans z.1 x.1 y.1
 have a3 := o.trans y.1 z.1 x.1
 have b1 := o.anti x.1 y.1
 have b2 := o.anti y.1 z.1
 have b3 := o.anti x.1 z.1
 omega
theorem Lx.asymm {cf : Fe → Fe → Int} (o : Ord3 cf) {x y : El} (h1 : Lx cf x y) (h2 : Lx cf y x) : False := by
 unfold Lx at *
 have b1 := o.anti x.1 y.1
 omega
theorem Lx.total {cf : Fe → Fe → Int} (o : Ord3 cf) {x y : El} (h : x.2 < y.2) : (cf y.1 x.1 < 0 ↔ Lx cf y x) ∧ (¬ cf y.1 x.1 < 0 ↔ Lx cf x y) := by
 unfold Lx
 have b1 := o.anti x.1 y.1
 omega
def Sorted (cf : Fe → Fe → Int) (l : List El) : Prop := l.Pairwise (Lx cf)
theorem perm_eq {cf : Fe → Fe → Int} (o : Ord3 cf) : ∀ (l l' : List El),l.Perm l' → Sorted cf l → Sorted cf l' → l = l' := by
 intro l
 induction l with
 | nil => intro l' hp _ _;exact (List.Perm.nil_eq hp)
 | cons x t ih =>
  intro l' hp h1 h2
  cases l' with
  | nil => exact absurd hp.length_eq (by simp)
  | cons y t' =>
   have hx : x ∈ y :: t' := hp.subset List.mem_cons_self
   have hy : y ∈ x :: t := hp.symm.subset List.mem_cons_self
   have e : x = y := by
    rcases List.mem_cons.1 hx with e | hx'
    ·exact e
    rcases List.mem_cons.1 hy with e | hy'
    ·exact e.symm
    exact (Lx.asymm o ((List.pairwise_cons.1 h1).1 y hy') ((List.pairwise_cons.1 h2).1 x hx')).elim
   subst e
   rw [ih t' (List.Perm.cons_inv hp) (List.pairwise_cons.1 h1).2 (List.pairwise_cons.1 h2).2]
end Go.Proofs.Ytfoaeigoajooeaa.Z
end
section
namespace Go.Proofs.Ytfoaeigoajooeaa.Z
set_option linter.unusedVariables false
set_option linter.unusedSimpArgs false
open Go.RowKit Go.Proofs.YtfoaeigoajooeaaW.PrintWords Go.Proofs.YtfoaeigoajooeaaW.PrintLast Go.Proofs.YtfoaeigoajooeaaW.PrintMore
theorem only_trans {a b c : World} {g : Nat} (h : a.grownBy b (some g)) (k : b.grownBy c (some g)) : a.grownBy c (some g) :=
 ⟨k.os.trans h.os,k.tape.trans h.tape,k.output.trans h.output,Nat.le_trans h.size k.size,fun i hi hne => (k.block i (Nat.lt_of_lt_of_le hi h.size) hne).trans (h.block i hi hne)⟩
structure Turn (R : List El) (m i j : Nat) (L : List El) : Prop where
 out : ∃ P X Y S,L = P ++ X ++ Y ++ S ∧ X.length = i ∧ Y.length = j ∧ P.length + i = m ∧ 0 < i ∧ 0 < j ∧ P ++ Y ++ X ++ S = R
theorem Turn.len {R : List El} {m i j : Nat} {L : List El} (h : Turn R m i j L) : i ≤ m ∧ m + j ≤ L.length ∧ 0 < i ∧ 0 < j ∧ R.length = L.length := by
 obtain ⟨P,X,Y,S,rfl,hx,hy,hp,h0,h1,hR⟩ := h.out
 have := congrArg List.length hR
 simp at this ⊢
 omega
theorem Turn.left {R : List El} {m i j : Nat} {L : List El} (h : Turn R m i j L) (hij : j < i) : Turn R m (i - j) j (swpR L (m - i) m j) := by
 obtain ⟨P,X,Y,S,rfl,hx,hy,hp,h0,h1,hR⟩ := h.out
 have e : X = X.take j ++ X.drop j := (List.take_append_drop j X).symm
 have l1 : (X.take j).length = j := by simp;omega
 have l2 : (X.drop j).length = i - j := by simp;omega
 generalize X.take j = X1 at *
 generalize X.drop j = X2 at *
 subst e
 have hs := swpR_split j P X1 X2 Y S l1 hy
 have e1 : P ++ (X1 ++ X2) ++ Y ++ S = P ++ X1 ++ X2 ++ Y ++ S := by simp
 have e2 : m - i = P.length := by omega
 have e3 : m = P.length + X1.length + X2.length := by simp at hx;omega
 rw [e1,e2]
 rw [← e3] at hs
 rw [hs]
 refine ⟨P ++ Y,X2,X1,S,by simp,l2,l1,by simp;omega,by omega,h1,?_⟩
 rw [← hR]
 simp
theorem Turn.right {R : List El} {m i j : Nat} {L : List El} (h : Turn R m i j L) (hij : i < j) : Turn R m i (j - i) (swpR L (m - i) (m + j - i) i) := by
 obtain ⟨P,X,Y,S,rfl,hx,hy,hp,h0,h1,hR⟩ := h.out
 have e : Y = Y.take (j - i) ++ Y.drop (j - i) := (List.take_append_drop (j - i) Y).symm
 have l1 : (Y.take (j - i)).length = j - i := by simp;omega
 have l2 : (Y.drop (j - i)).length = i := by simp;omega
 generalize Y.take (j - i) = Y1 at *
 generalize Y.drop (j - i) = Y2 at *
 subst e
 have hs := swpR_split i P X Y1 Y2 S hx l2
 have e1 : P ++ X ++ (Y1 ++ Y2) ++ S = P ++ X ++ Y1 ++ Y2 ++ S := by simp
 have e2 : m - i = P.length := by omega
 have e3 : m + j - i = P.length + X.length + Y1.length := by omega
 rw [e1,e2,e3,hs]
 refine ⟨P,Y2,Y1,X ++ S,by simp,l2,l1,hp,h0,by omega,?_⟩
 rw [← hR]
 simp
theorem Turn.done {R : List El} {m i : Nat} {L : List El} (h : Turn R m i i L) : swpR L (m - i) m i = R := by
 obtain ⟨P,X,Y,S,rfl,hx,hy,hp,h0,h1,hR⟩ := h.out
 have hs := swpR_split i P X [] Y S hx hy
 have e2 : m - i = P.length := by omega
 have e3 : m = P.length + X.length + ([] : List El).length := by simp;omega
 rw [e2]
 rw [← e3] at hs
 rw [List.append_nil] at hs
 rw [hs,← hR]
 simp
theorem swap_rangeI (blk cap a b m n : Nat) (ai bi mi : Int) (fv : Value) (L : List El) (w : World) (h : RowAt w blk L) (hn : L.length = n) (hb : b + m ≤ n) (hL : n ≤ 1000000) (hab : a + m ≤ b) (e1 : ai = a) (e2 : bi = b) (e3 : mi = m) :
  Calls Try.prog 77 #[.slice (some ⟨blk,0,none⟩) n cap,.int .i64 ai,.int .i64 bi,.int .i64 mi,fv] w fun e w' => e = .returned (.tuple #[]) ∧ RowAt w' blk (swpR L a b m) ∧ w.grownBy w' (some blk) := by
 subst e1;subst e2;subst e3;subst hn
 exact swap_range blk cap a b m fv L w h hb hL hab
set_option maxHeartbeats 4000000 in
set_option maxRecDepth 100000 in
theorem rotate (blk cap a m b n : Nat) (fv : Value) (L R : List El) (w : World) (h : RowAt w blk L) (hL : L.length ≤ 1000000) (hT : Turn R m (m - a) (b - m) L) (ha : a ≤ m) (hb : m ≤ b) (hlen : L.length = n) :
  Calls Try.prog 76 #[.slice (some ⟨blk,0,none⟩) n cap,.int .i64 a,.int .i64 m,.int .i64 b,fv] w fun e w' => e = .returned (.tuple #[]) ∧ RowAt w' blk R ∧ w.grownBy w' (some blk) := by
 have H := Aside0.mk h
 have HG := Aside0.mk (only_refl w blk)
 have HT := Aside0.mk hT
 obtain ⟨t1,t2,t3,t4,_⟩ := hT.len
 have hn : n ≤ 1000000 := by omega
 have hbn : b ≤ 1000000 := by omega
 have HL := Aside0.mk hlen
 clear h hT t1 t2 t3 t4 hlen hL
 go_enter Try.func76,Try.ntmps76
 go_wp2
 go_loopw [10,11] (fun iv jv wr => ∃ (i j : Nat) (Lk : List El),iv = .int .i64 (i : Int) ∧ jv = .int .i64 (j : Int) ∧ i ≤ 1000000 ∧ j ≤ 1000000 ∧ 0 < i ∧ 0 < j ∧ i ≤ m ∧ Aside0 (m + j ≤ n) ∧ Aside0 (Lk.length = n) ∧ Aside0 (Turn R m i j Lk) ∧ Aside0 (RowAt wr blk Lk) ∧ Aside0 (w.grownBy wr (some blk))) (fun iv jv _ => (intOf iv).toNat + (intOf jv).toNat)
 case atStart =>
  obtain ⟨t1,t2,t3,t4,_⟩ := HT.out.len
  exact ⟨m - a,b - m,L,by congr 1;omega,by congr 1;omega,by omega,by omega,t3,t4,t1,⟨by have := HL.out;omega⟩,HL,HT,H,HG⟩
 case round =>
  clear H HG HT
  obtain ⟨i,j,Lk,rfl,rfl,hi,hj,i0,j0,him,HM,HLk,HT,H,HG⟩ := hrel
  rcases Nat.lt_trichotomy i j with hij | hij | hij
  ·have b0 : ((i : Int) != (j : Int)) = true := by rw [bne_iff_ne];omega
   have b1 : decide ((j : Int) < (i : Int)) = false := decide_eq_false (by omega)
   have HR := Aside0.mk (HT.out.right hij)
   go_wp2_with (fail)
   refine (swap_rangeI blk cap (m - i) (m + j - i) i n _ _ _ fv Lk wr H.out HLk.out (by have := HM.out;omega) hn (by omega) (by omega) (by omega) rfl).mono ?_
   rintro e w1 ⟨rfl,h1,hg⟩
   have H1 := Aside0.mk h1
   have G1 := Aside0.mk (only_trans HG.out hg)
   have L1 := Aside0.mk ((swpR_len Lk (m - i) (m + j - i) i).trans HLk.out)
   have M1 := Aside0.mk (show m + (j - i) ≤ n by have := HM.out;omega)
   clear h1 hg H HG HT HLk HM
   go_wp2_with (fail)
   go_roundw
   case rel => exact ⟨i,j - i,_,rfl,by congr 1;omega,hi,by omega,i0,by omega,him,M1,L1,HR,H1,G1⟩
   case measure => simp [intOf];omega
  ·subst hij
   have b0 : ((i : Int) != (i : Int)) = false := by simp
   have HD := Aside0.mk HT.out.done
   go_wp2_with (fail)
   refine (swap_rangeI blk cap (m - i) m i n _ _ _ fv Lk wr H.out HLk.out HM.out hn (by omega) (by omega) rfl rfl).mono ?_
   rintro e w1 ⟨rfl,h1,hg⟩
   rw [HD.out] at h1
   have H1 := Aside0.mk h1
   have G1 := Aside0.mk (only_trans HG.out hg)
   clear h1 hg H HG HT HLk HM HD
   go_wp2_with (fail)
   go_end0
   exact ⟨rfl,H1.out,G1.out⟩
  ·have b0 : ((i : Int) != (j : Int)) = true := by rw [bne_iff_ne];omega
   have b1 : decide ((j : Int) < (i : Int)) = true := decide_eq_true (by omega)
   have HR := Aside0.mk (HT.out.left hij)
   go_wp2_with (fail)
   refine (swap_rangeI blk cap (m - i) m j n _ _ _ fv Lk wr H.out HLk.out HM.out hn (by omega) (by omega) rfl rfl).mono ?_
   rintro e w1 ⟨rfl,h1,hg⟩
   have H1 := Aside0.mk h1
   have G1 := Aside0.mk (only_trans HG.out hg)
   have L1 := Aside0.mk ((swpR_len Lk (m - i) m j).trans HLk.out)
   clear h1 hg H HG HT HLk
   go_wp2_with (fail)
   go_roundw
   case rel => exact ⟨i - j,j,_,by congr 1;omega,rfl,by omega,hj,by omega,j0,by omega,HM,L1,HR,H1,G1⟩
   case measure => simp [intOf];omega
end Go.Proofs.Ytfoaeigoajooeaa.Z
end
section
namespace Go.Proofs.Ytfoaeigoajooeaa.Z
set_option linter.unusedVariables false
set_option linter.unusedSimpArgs false
set_option linter.unnecessarySimpa false
def Tags (X : List El) : Prop := X.Pairwise (fun x y => x.2 < y.2)
theorem swp_comm (L : List El) {i j : Nat} (h : i ≠ j) : swp L i j = swp L j i := by
 unfold swp
 rw [List.set_comm _ _ h]
structure InsO (cf : Fe → Fe → Int) (P X S : List El) (i : Nat) (L : List El) : Prop where
 out : ∃ X1 X2 Y1,L = P ++ X1 ++ X2 ++ S ∧ P.length + X1.length = i ∧ Sorted cf X1 ∧ X = Y1 ++ X2 ∧ X1.Perm Y1
structure InsI (cf : Fe → Fe → Int) (P X S : List El) (i j : Nat) (L : List El) : Prop where
 out : ∃ L1 x R1 X2 Y1,L = P ++ L1 ++ x :: (R1 ++ X2 ++ S) ∧ P.length + L1.length = j ∧ P.length + L1.length + R1.length = i ∧ Sorted cf (L1 ++ R1) ∧ (∀ r ∈ R1,Lx cf x r) ∧ X = Y1 ++ x :: X2 ∧ (L1 ++ R1).Perm Y1
theorem InsO.start {cf : Fe → Fe → Int} {P X S : List El} (h : X ≠ []) : InsO cf P X S (P.length + 1) (P ++ X ++ S) := by
 obtain ⟨x,X2,rfl⟩ := List.exists_cons_of_ne_nil h
 exact ⟨[x],X2,[x],by simp,by simp,List.pairwise_singleton _ _,rfl,List.Perm.refl _⟩
theorem InsO.enter {cf : Fe → Fe → Int} {P X S L : List El} {i : Nat} (h : InsO cf P X S i L) (hi : i < P.length + X.length) : InsI cf P X S i i L := by
 obtain ⟨X1,X2,Y1,rfl,h1,h2,rfl,h3⟩ := h.out
 have := h3.length_eq
 cases X2 with
 | nil => simp at hi;omega
 | cons x X2 => exact ⟨X1,x,[],X2,Y1,by simp,h1,by simpa using h1,by simpa using h2,fun r hr => (by cases hr),rfl,by simpa using h3⟩
theorem InsI.len {cf : Fe → Fe → Int} {P X S L : List El} {i j : Nat} (h : InsI cf P X S i j L) : P.length ≤ j ∧ j ≤ i ∧ i < L.length := by
 obtain ⟨L1,x,R1,X2,Y1,rfl,h1,h2,h3,h4,rfl,h5⟩ := h.out
 simp
 omega
theorem InsI.test {cf : Fe → Fe → Int} {P X S L : List El} {i j : Nat} (o : Ord3 cf) (ht : Tags X) (h : InsI cf P X S i (j + 1) L) (hj : P.length < j + 1) :
  ∃ L1 y x R1 X2 Y1,L = P ++ L1 ++ y :: ([] ++ x :: (R1 ++ X2 ++ S)) ∧ P.length + L1.length = j ∧ P.length + L1.length + 1 + R1.length = i ∧ Sorted cf (L1 ++ y :: R1) ∧ (∀ r ∈ R1,Lx cf x r) ∧ X = Y1 ++ x :: X2 ∧ (L1 ++ y :: R1).Perm Y1 ∧ atL L (j + 1) = x ∧ atL L j = y ∧ y.2 < x.2 := by
 obtain ⟨L1,x,R1,X2,Y1,rfl,h1,h2,h3,h4,rfl,h5⟩ := h.out
 rcases List.eq_nil_or_concat L1 with rfl | ⟨L0,y,rfl⟩
 ·simp at h1;omega
 rw [List.concat_eq_append] at *
 have e : P ++ (L0 ++ [y]) ++ x :: (R1 ++ X2 ++ S) = P ++ L0 ++ y :: ([] ++ x :: (R1 ++ X2 ++ S)) := by simp
 have a1 : P.length + L0.length = j := by simp at h1;omega
 have h3' : Sorted cf (L0 ++ y :: R1) := by simpa using h3
 have h5' : (L0 ++ y :: R1).Perm Y1 := by simpa using h5
 refine ⟨L0,y,x,R1,X2,Y1,e,a1,by simp at h2;omega,h3',h4,rfl,h5',?_,?_,?_⟩
 ·rw [e]
  have := atL_mid (P ++ L0 ++ [y]) (R1 ++ X2 ++ S) x
  have e2 : (P ++ L0 ++ [y]).length = j + 1 := by simp;omega
  rw [e2] at this
  simpa using this
 ·rw [e]
  have := atL_mid (P ++ L0) ([] ++ x :: (R1 ++ X2 ++ S)) y
  have e2 : (P ++ L0).length = j := by simp;omega
  rw [e2] at this
  exact this
 ·have hy : y ∈ Y1 := h5'.subset (by simp)
  unfold Tags at ht
  rw [List.pairwise_append] at ht
  exact ht.2.2 y hy x List.mem_cons_self
theorem InsI.swap {cf : Fe → Fe → Int} {P X S L : List El} {i j : Nat} (o : Ord3 cf) (ht : Tags X) (h : InsI cf P X S i (j + 1) L) (hj : P.length < j + 1) (hc : cf (atL L (j + 1)).1 (atL L j).1 < 0) : InsI cf P X S i j (swp L (j + 1) j) := by
 obtain ⟨L1,y,x,R1,X2,Y1,e,h1,h2,h3,h4,h5,h6,ex,ey,hlt⟩ := h.test o ht hj
 rw [ex,ey] at hc
 have hx : Lx cf x y := (Lx.total o hlt).1.1 hc
 rw [swp_comm _ (by omega),e]
 have hs := swp_split (P ++ L1) [] (R1 ++ X2 ++ S) y x
 have e1 : (P ++ L1).length = j := by simp;omega
 rw [e1] at hs
 rw [show j + (([] : List El).length + 1) = j + 1 by rfl] at hs
 rw [hs]
 refine ⟨L1,x,y :: R1,X2,Y1,by simp,h1,by simp;omega,h3,?_,h5,h6⟩
 intro r hr
 rcases List.mem_cons.1 hr with rfl | hr
 ·exact hx
 ·exact h4 r hr
theorem InsI.stop {cf : Fe → Fe → Int} {P X S L : List El} {i j : Nat} (o : Ord3 cf) (ht : Tags X) (h : InsI cf P X S i j L) (hc : j = P.length ∨ ¬ cf (atL L j).1 (atL L (j - 1)).1 < 0) : InsO cf P X S (i + 1) L := by
 obtain ⟨b1,b2,b3⟩ := h.len
 by_cases hj : j = P.length
 ·obtain ⟨L1,x,R1,X2,Y1,e,h1,h2,h3,h4,h5,h6⟩ := h.out
  have : L1 = [] := List.length_eq_zero_iff.1 (by omega)
  subst this
  simp only [List.nil_append,List.append_nil] at *
  refine ⟨x :: R1,X2,Y1 ++ [x],by rw [e];simp,by simp at h2 ⊢;omega,?_,by rw [h5];simp,?_⟩
  ·exact List.pairwise_cons.2 ⟨h4,h3⟩
  ·exact (List.Perm.cons x h6).trans (List.perm_append_comm (l₁ := [x]) (l₂ := Y1))
 ·have hc := hc.resolve_left hj
  obtain ⟨j,rfl⟩ : ∃ q,j = q + 1 := ⟨j - 1,by omega⟩
  obtain ⟨L1,y,x,R1,X2,Y1,e,h1,h2,h3,h4,h5,h6,ex,ey,hlt⟩ := h.test o ht (by omega)
  rw [Nat.add_sub_cancel,ex,ey] at hc
  have hx : Lx cf y x := (Lx.total o hlt).2.1 hc
  refine ⟨L1 ++ y :: x :: R1,X2,Y1 ++ [x],by rw [e];simp,by simp;omega,?_,by rw [h5];simp,?_⟩
  ·unfold Sorted at *
   rw [List.pairwise_append] at h3 ⊢
   obtain ⟨g1,g2,g3⟩ := h3
   rw [List.pairwise_cons] at g2
   refine ⟨g1,List.pairwise_cons.2 ⟨?_,List.pairwise_cons.2 ⟨h4,g2.2⟩⟩,?_⟩
   ·intro r hr
    rcases List.mem_cons.1 hr with rfl | hr
    ·exact hx
    ·exact g2.1 r hr
   ·intro l hl r hr
    rcases List.mem_cons.1 hr with rfl | hr
    ·exact g3 l hl _ List.mem_cons_self
    rcases List.mem_cons.1 hr with rfl | hr
    ·exact (g3 l hl y List.mem_cons_self).trans o hx
    ·exact g3 l hl r (List.mem_cons_of_mem _ hr)
  ·have p1 : (L1 ++ y :: x :: R1).Perm (x :: (L1 ++ y :: R1)) := by
    have : L1 ++ y :: x :: R1 = (L1 ++ [y]) ++ x :: R1 := by simp
    rw [this]
    refine List.perm_middle.trans ?_
    simp
   exact p1.trans ((List.Perm.cons x h6).trans (List.perm_append_comm (l₁ := [x]) (l₂ := Y1)))
theorem InsO.final {cf : Fe → Fe → Int} {P X S L : List El} {i : Nat} (h : InsO cf P X S i L) (hi : P.length + X.length ≤ i) : ∃ C,L = P ++ C ++ S ∧ C.Perm X ∧ Sorted cf C := by
 obtain ⟨X1,X2,Y1,rfl,h1,h2,rfl,h3⟩ := h.out
 have := h3.length_eq
 have : X2 = [] := List.length_eq_zero_iff.1 (by simp at hi;omega)
 subst this
 exact ⟨X1,by simp,by simpa using h3,h2⟩
end Go.Proofs.Ytfoaeigoajooeaa.Z
end
section
namespace Go.Proofs.Ytfoaeigoajooeaa.Z
set_option linter.unusedVariables false
set_option linter.unusedSimpArgs false
open Go.RowKit Go.Proofs.YtfoaeigoajooeaaW.PrintWords Go.Proofs.YtfoaeigoajooeaaW.PrintLast Go.Proofs.YtfoaeigoajooeaaW.PrintMore
structure CmpOk (g : Nat) (cf : Fe → Fe → Int) : Prop where
 ord : Ord3 cf
 calls : ∀ (u v : Fe) (W : World) (blk : Nat),Gd W blk u → Gd W blk v → Calls Try.prog g #[.slice u.A u.row.length u.c,.slice v.A v.row.length v.c] W fun e w' => e = .returned (.int .i64 (cf u v)) ∧ Below W.heap.size W w'
theorem RowAt.below {w w' : World} {blk : Nat} {L : List El} (h : RowAt w blk L) (hb : Below w.heap.size w w') : RowAt w' blk L := by
 exact h.heap (fun k hk => hb.block k hk)
theorem RowAt.lt {w : World} {blk : Nat} {L : List El} (h : RowAt w blk L) : blk < w.heap.size := by
 obtain ⟨cells,hc,_⟩ := h.out
 exact blk_lt hc
theorem only_belowT {a w w' : World} {g : Nat} (h : a.grownBy w (some g)) (hb : Below w.heap.size w w') : a.grownBy w' (some g) :=
 only_trans h ⟨hb.os,hb.tape,hb.output,hb.size,fun i hi _ => hb.block i hi⟩
structure SameX (w w' : World) : Prop where
 heap : w'.heap = w.heap
 os : w'.os = w.os
 tape : w'.tape = w.tape
 output : w'.output = w.output
theorem sameW_next {w1 W w2 : World} (hb : Below W.heap.size W w2) (e : SameX w1 W := by exact ⟨rfl,rfl,rfl,rfl⟩) : Below w1.heap.size w1 w2 :=
 ⟨hb.os.trans e.os,hb.tape.trans e.tape,hb.output.trans e.output,by rw [← e.heap];exact hb.size,fun k hk => by rw [hb.block k (by rw [e.heap];exact hk),e.heap]⟩
set_option maxHeartbeats 8000000 in
set_option maxRecDepth 100000 in
theorem insertion (cf : Fe → Fe → Int) (hC : CmpOk 13 cf) (blk cap a b n : Nat) (P X S L : List El) (w : World) (h : RowAt w blk L) (hlen : L.length = n) (hn : n ≤ 1000000) (eL : L = P ++ X ++ S) (hP : P.length = a) (hX : a + X.length = b) (hne : X ≠ []) (ht : Tags X) :
  Calls Try.prog 73 #[.slice (some ⟨blk,0,none⟩) n cap,.int .i64 a,.int .i64 b,.func (.func 13) #[] #[]] w fun e w' => e = .returned (.tuple #[]) ∧ (∃ C,RowAt w' blk (P ++ C ++ S) ∧ C.Perm X ∧ Sorted cf C) ∧ w.grownBy w' (some blk) := by
 have H := Aside0.mk h
 have HG := Aside0.mk (only_refl w blk)
 have HO := Aside0.mk (show InsO cf P X S (a + 1) L by rw [eL,← hP];exact InsO.start hne)
 have HP := Aside0.mk hP
 have HX := Aside0.mk hX
 have HT := Aside0.mk ht
 have HL := Aside0.mk hlen
 have hab : a + 1 ≤ b := by have := List.length_pos_iff.2 hne;omega
 have hbn : b ≤ n := by rw [eL] at hlen;simp at hlen;omega
 clear h eL hP hX hne ht hlen
 go_enter Try.func73,Try.ntmps73
 go_wp2
 go_loopw [8] (fun iv wr => ∃ (i : Nat) (Lk : List El),iv = .int .i64 (i : Int) ∧ a + 1 ≤ i ∧ i ≤ b ∧ Aside0 (InsO cf P X S i Lk) ∧ Aside0 (Lk.length = n) ∧ Aside0 (RowAt wr blk Lk) ∧ Aside0 (w.grownBy wr (some blk))) (fun iv _ => b - (intOf iv).toNat)
 case atStart => exact ⟨a + 1,L,by go_num,Nat.le_refl _,hab,HO,HL,H,HG⟩
 case round =>
  clear H HG HO HL
  obtain ⟨i,Lk,rfl,hai,hib,HO,HL,H,HG⟩ := hrel
  by_cases hlt : i < b
  ·have HI := Aside0.mk (HO.out.enter (by have := HP.out;have := HX.out;omega))
   clear HO
   go_wp2
   obtain ⟨wo,rfl⟩ : ∃ wo : World,wo = wr := ⟨_,rfl⟩
   go_loopw [9] (fun jv wq => ∃ (j : Nat) (Lj : List El),jv = .int .i64 (j : Int) ∧ a ≤ j ∧ j ≤ i ∧ Aside0 (InsI cf P X S i j Lj) ∧ Aside0 (Lj.length = n) ∧ Aside0 (RowAt wq blk Lj) ∧ Aside0 (w.grownBy wq (some blk))) (fun jv _ => (intOf jv).toNat)
   case atStart => exact ⟨i,Lk,rfl,by omega,Nat.le_refl _,HI,HL,H,HG⟩
   case round =>
    clear HI HL H HG
    obtain ⟨j,Lj,rfl,haj,hji,HI,HL,H,HG⟩ := hrel
    by_cases hja : a < j
    ·obtain ⟨jp,rfl⟩ : ∃ jp,j = jp + 1 := ⟨j - 1,by omega⟩
     have lj : jp + 1 < n := by have := HI.out.len;have := HL.out;omega
     obtain ⟨x0,z,hbl,gx⟩ := H.out.cell (i := jp + 1) (by have := HL.out;omega)
     obtain ⟨y0,_,_,gy⟩ := H.out.cell (i := jp) (by have := HL.out;omega)
     have QQ : Aside0 (jp + 1 < Lj.length ∧ jp < Lj.length) := ⟨by have := HL.out;omega⟩
     have SJ := Aside0.mk (fun hc => HI.out.swap hC.ord HT.out (by have := HP.out;omega) (show cf (atL Lj (jp + 1)).1 (atL Lj jp).1 < 0 from hc))
     have SO := Aside0.mk (fun hc => HI.out.stop hC.ord HT.out (.inr (show ¬ cf (atL Lj (jp + 1)).1 (atL Lj (jp + 1 - 1)).1 < 0 from hc)))
     rw [Nat.add_sub_cancel] at SO
     generalize hx : atL Lj (jp + 1) = ex at *
     generalize hy : atL Lj jp = ey at *
     have HXE := Aside0.mk hx
     have HYE := Aside0.mk hy
     clear hx hy
     have b0 : decide ((a : Int) < (jp : Int) + 1) = true := decide_eq_true (by omega)
     have b0' : (a : Int) < (jp : Int) + 1 := by omega
     have BL := Aside0.mk hbl
     clear hbl
     have hwp : IntKind.i64.wrap (jp : Int) = (jp : Int) := by rw [IntKind.wrap_i64];omega
     have jz : (jp : Int) + 1 < (n : Int) := by omega
     have jz1 : (jp : Int) < (n : Int) := by omega
     have p0 : (0 : Int) ≤ (jp : Int) + 1 := by omega
     have p1 : (0 : Int) ≤ (jp : Int) := by omega
     have e0 : ((jp : Int) + 1).toNat = jp + 1 := by omega
     by_cases hc : cf ex.1 ey.1 < 0
     ·have c0 : decide (cf ex.1 ey.1 < 0) = true := decide_eq_true hc
      have SJ2 := Aside0.mk (SJ.out hc)
      clear SJ SO hc
      go_wp2_with (fail)
      go_region_held3 (fun w' => w'.cell? ⟨blk,(jp + 1),none⟩ = some (.slice ex.1.A ex.1.row.length ex.1.c) ∧ w'.cell? ⟨blk,jp,none⟩ = some (.slice ey.1.A ey.1.row.length ey.1.c)) (first | go_keep | exact ⟨by assumption,by assumption⟩) (first | (go_at_call 13;refine (hC.calls ex.1 ey.1 _ blk ?_ ?_).mono ?_;exact gx;exact gy;rintro e w2 ⟨rfl,hb2⟩;have N2 := Aside0.mk (sameW_next (w1 := wr) hb2);clear hb2;have u0 := (N2.out.cell (p := ⟨blk,(jp + 1),none⟩) BL.out).trans x0;have v0 := (N2.out.cell (p := ⟨blk,jp,none⟩) BL.out).trans y0))
      have R2 := H.out.below N2.out
      have SW := R2.swap QQ.out.1 QQ.out.2
      rw [HXE.out,HYE.out] at SW
      have R1 : Aside0 (RowAt (putN (putN w2 blk (jp + 1) ey.1) blk jp ex.1) blk (swp Lj (jp + 1) jp)) := ⟨SW⟩
      have z2 := (R2.cell QQ.out.2).2.1
      have G1 := Aside0.mk (only_putN (i := jp) (u := ex.1) (only_putN (i := jp + 1) (u := ey.1) (only_belowT HG.out N2.out)))
      have L1 := Aside0.mk ((swp_len Lj (jp + 1) jp).trans HL.out)
      clear R2 SW x0 gx y0 gy z H HG HI HL N2 HXE HYE QQ BL
      go_wp2_with (fail)
      go_region
      have R2 := R1.out.drew
      have G2 := only_drew G1.out
      unfold putN at R2 G2
      have R3 := Aside0.mk R2
      have G3 := Aside0.mk G2
      clear R1 G1 R2 G2 u0 v0 z2
      go_wp2
      go_roundw
      case rel => exact ⟨jp,_,rfl,by omega,by omega,SJ2,L1,R3,G3⟩
      case measure => simp [intOf] <;> omega
     ·have c0 : decide (cf ex.1 ey.1 < 0) = false := decide_eq_false hc
      have SO2 := Aside0.mk (SO.out hc)
      clear SJ SO hc
      go_wp2_with (fail)
      go_region_held3 (fun w' => w'.cell? ⟨blk,(jp + 1),none⟩ = some (.slice ex.1.A ex.1.row.length ex.1.c) ∧ w'.cell? ⟨blk,jp,none⟩ = some (.slice ey.1.A ey.1.row.length ey.1.c)) (first | go_keep | exact ⟨by assumption,by assumption⟩) (first | (go_at_call 13;refine (hC.calls ex.1 ey.1 _ blk ?_ ?_).mono ?_;exact gx;exact gy;rintro e w2 ⟨rfl,hb2⟩;have N2 := Aside0.mk (sameW_next (w1 := wr) hb2);clear hb2;have u0 := (N2.out.cell (p := ⟨blk,(jp + 1),none⟩) BL.out).trans x0;have v0 := (N2.out.cell (p := ⟨blk,jp,none⟩) BL.out).trans y0))
      have R2 := Aside0.mk (H.out.below N2.out)
      have G1 := Aside0.mk (only_belowT HG.out N2.out)
      clear x0 gx y0 gy z H HG HI N2 HXE HYE QQ BL u0 v0
      go_wp2
      go_roundw
      case rel => exact ⟨i + 1,Lj,by go_num,by omega,by omega,SO2,HL,R2,G1⟩
      case measure => simp [intOf];omega
    ·have hjae : j = a := by omega
     subst hjae
     have SO2 := Aside0.mk (HI.out.stop hC.ord HT.out (.inl HP.out.symm))
     have b0 : decide ((j : Int) < (j : Int)) = false := decide_eq_false (by omega)
     go_wp2_with (fail)
     go_quiet (fail)
     go_wp2
     go_roundw
     case rel => exact ⟨i + 1,Lj,by go_num,by omega,by omega,SO2,HL,⟨H.out.heap (fun _ _ => rfl)⟩,⟨only_drewN HG.out _⟩⟩
     case measure => simp [intOf];omega
  ·have hbi : b ≤ i := by omega
   have HF := Aside0.mk (HO.out.final (by have := HP.out;have := HX.out;omega))
   go_wp2
   go_end0
   obtain ⟨C,hCe,hC1,hC2⟩ := HF.out
   exact ⟨rfl,⟨C,by rw [← hCe];exact H.out,hC1,hC2⟩,HG.out⟩
end Go.Proofs.Ytfoaeigoajooeaa.Z
end
section
namespace Go.Proofs.Ytfoaeigoajooeaa.Z
set_option linter.unusedVariables false
set_option linter.unusedSimpArgs false
set_option linter.unnecessarySimpa false
structure Srch (pred : Nat → Prop) (lo hi i j : Nat) : Prop where
 h1 : lo ≤ i
 h2 : i ≤ j
 h3 : j ≤ hi
 yes : ∀ h,lo ≤ h → h < i → pred h
 no : ∀ h,j ≤ h → h < hi → ¬ pred h
theorem Srch.start {pred : Nat → Prop} {lo hi : Nat} (h : lo ≤ hi) : Srch pred lo hi lo hi := ⟨Nat.le_refl _,h,Nat.le_refl _,fun _ _ _ => by omega,fun _ _ _ => by omega⟩
theorem Srch.up {pred : Nat → Prop} {lo hi i j c : Nat} (h : Srch pred lo hi i j) (mono : ∀ h h',lo ≤ h' → h' ≤ h → h < hi → pred h → pred h') (hi1 : i ≤ c) (hj : c < j) (hp : pred c) : Srch pred lo hi (c + 1) j :=
 ⟨by have := h.h1;omega,by omega,h.h3,fun q q1 q2 => mono c q q1 (by omega) (by have := h.h3;omega) hp,h.no⟩
theorem Srch.down {pred : Nat → Prop} {lo hi i j c : Nat} (h : Srch pred lo hi i j) (mono : ∀ h h',lo ≤ h' → h' ≤ h → h < hi → pred h → pred h') (hi1 : i ≤ c) (hj : c < j) (hp : ¬ pred c) : Srch pred lo hi i c :=
 ⟨h.h1,hi1,by have := h.h3;omega,h.yes,fun q q1 q2 hq => hp (mono q c (by have := h.h1;omega) q1 q2 hq)⟩
theorem atL_seg {P A S : List El} {i : Nat} (h1 : P.length ≤ i) (h2 : i < P.length + A.length) : atL (P ++ A ++ S) i ∈ A ∧ atL (P ++ A ++ S) i = atL A (i - P.length) := by
 obtain ⟨k,rfl⟩ : ∃ k,i = P.length + k := ⟨i - P.length,by omega⟩
 rw [List.append_assoc,atL_app,Nat.add_sub_cancel_left]
 have hk : k < A.length := by omega
 have e : atL (A ++ S) k = A[k] := by
  unfold atL
  rw [List.getD_eq_getElem?_getD,List.getElem?_append_left hk,List.getElem?_eq_getElem hk]
  rfl
 have e2 : atL A k = A[k] := by
  unfold atL
  rw [List.getD_eq_getElem?_getD,List.getElem?_eq_getElem hk]
  rfl
 rw [e,e2]
 exact ⟨List.getElem_mem hk,rfl⟩
theorem sorted_at {cf : Fe → Fe → Int} {P A S : List El} (h : Sorted cf A) {i j : Nat} (h1 : P.length ≤ i) (hij : i < j) (h2 : j < P.length + A.length) : Lx cf (atL (P ++ A ++ S) i) (atL (P ++ A ++ S) j) := by
 rw [(atL_seg (S := S) h1 (by omega)).2,(atL_seg (S := S) (show P.length ≤ j by omega) h2).2]
 have e (k : Nat) (hk : k < A.length) : atL A k = A[k] := by
  unfold atL
  rw [List.getD_eq_getElem?_getD,List.getElem?_eq_getElem hk]
  rfl
 rw [e _ (by omega),e _ (by omega)]
 exact List.pairwise_iff_getElem.1 h _ _ _ _ (by omega)
structure Two (cf : Fe → Fe → Int) (P A B S : List El) : Prop where
 ord : Ord3 cf
 sa : Sorted cf A
 sb : Sorted cf B
 tags : ∀ x ∈ A,∀ y ∈ B,x.2 < y.2
theorem Two.atA {cf : Fe → Fe → Int} {P A B S : List El} {i : Nat} (h1 : P.length ≤ i) (h2 : i < P.length + A.length) : atL (P ++ A ++ B ++ S) i ∈ A := by
 have := (atL_seg (P := P) (A := A) (S := B ++ S) h1 h2).1
 simpa using this
theorem Two.atB {cf : Fe → Fe → Int} {P A B S : List El} {i : Nat} (h1 : P.length + A.length ≤ i) (h2 : i < P.length + A.length + B.length) : atL (P ++ A ++ B ++ S) i ∈ B := by
 have := (atL_seg (P := P ++ A) (A := B) (S := S) (by simpa using h1) (by simpa using h2)).1
 simpa using this
theorem Two.ltA {cf : Fe → Fe → Int} {P A B S : List El} (t : Two cf P A B S) {i j : Nat} (h1 : P.length ≤ i) (hij : i < j) (h2 : j < P.length + A.length) : Lx cf (atL (P ++ A ++ B ++ S) i) (atL (P ++ A ++ B ++ S) j) := by
 have := sorted_at (P := P) (A := A) (S := B ++ S) t.sa h1 hij h2
 simpa using this
theorem Two.ltB {cf : Fe → Fe → Int} {P A B S : List El} (t : Two cf P A B S) {i j : Nat} (h1 : P.length + A.length ≤ i) (hij : i < j) (h2 : j < P.length + A.length + B.length) : Lx cf (atL (P ++ A ++ B ++ S) i) (atL (P ++ A ++ B ++ S) j) := by
 have := sorted_at (P := P ++ A) (A := B) (S := S) t.sb (by simpa using h1) hij (by simpa using h2)
 simpa using this
theorem Two.cross {cf : Fe → Fe → Int} {P A B S : List El} (t : Two cf P A B S) {i j : Nat} (h1 : P.length ≤ i) (h2 : i < P.length + A.length) (h3 : P.length + A.length ≤ j) (h4 : j < P.length + A.length + B.length) :
  (cf (atL (P ++ A ++ B ++ S) j).1 (atL (P ++ A ++ B ++ S) i).1 < 0 ↔ Lx cf (atL (P ++ A ++ B ++ S) j) (atL (P ++ A ++ B ++ S) i)) ∧ (¬ cf (atL (P ++ A ++ B ++ S) j).1 (atL (P ++ A ++ B ++ S) i).1 < 0 ↔ Lx cf (atL (P ++ A ++ B ++ S) i) (atL (P ++ A ++ B ++ S) j)) :=
 Lx.total t.ord (t.tags _ (Two.atA (cf := cf) h1 h2) _ (Two.atB (cf := cf) h3 h4))
theorem Two.mono1 {cf : Fe → Fe → Int} {P A B S : List El} (t : Two cf P A B S) (hA : 0 < A.length) : ∀ h h',P.length + A.length ≤ h' → h' ≤ h → h < P.length + A.length + B.length → cf (atL (P ++ A ++ B ++ S) h).1 (atL (P ++ A ++ B ++ S) P.length).1 < 0 → cf (atL (P ++ A ++ B ++ S) h').1 (atL (P ++ A ++ B ++ S) P.length).1 < 0 := by
 intro h h' g1 g2 g3 hp
 rcases Nat.lt_or_ge h' h with c | c
 ·have c1 := (t.cross (i := P.length) (j := h) (Nat.le_refl _) (by omega) (by omega) g3).1.1 hp
  have c2 := t.ltB g1 c g3
  exact (t.cross (i := P.length) (j := h') (Nat.le_refl _) (by omega) (by omega) (by omega)).1.2 (c2.trans t.ord c1)
 ·rwa [show h' = h by omega]
theorem Two.mono2 {cf : Fe → Fe → Int} {P A B S : List El} (t : Two cf P A B S) (hB : 0 < B.length) : ∀ h h',P.length ≤ h' → h' ≤ h → h < P.length + A.length → ¬ cf (atL (P ++ A ++ B ++ S) (P.length + A.length)).1 (atL (P ++ A ++ B ++ S) h).1 < 0 → ¬ cf (atL (P ++ A ++ B ++ S) (P.length + A.length)).1 (atL (P ++ A ++ B ++ S) h').1 < 0 := by
 intro h h' g1 g2 g3 hp
 rcases Nat.lt_or_ge h' h with c | c
 ·have c1 := (t.cross (i := h) (j := P.length + A.length) (by omega) g3 (Nat.le_refl _) (by omega)).2.1 hp
  have c2 := t.ltA g1 c g3
  exact (t.cross (i := h') (j := P.length + A.length) g1 (by omega) (Nat.le_refl _) (by omega)).2.2 (c2.trans t.ord c1)
 ·rwa [show h' = h by omega]
theorem Two.mono3 {cf : Fe → Fe → Int} {P A B S : List El} (t : Two cf P A B S) (lo hi p : Nat) (h1 : P.length ≤ lo) (h2 : hi ≤ P.length + A.length) (h3 : ∀ c,lo ≤ c → c < hi → c ≤ p ∧ P.length + A.length ≤ p - c ∧ p - c < P.length + A.length + B.length) : ∀ h h',lo ≤ h' → h' ≤ h → h < hi → ¬ cf (atL (P ++ A ++ B ++ S) (p - h)).1 (atL (P ++ A ++ B ++ S) h).1 < 0 → ¬ cf (atL (P ++ A ++ B ++ S) (p - h')).1 (atL (P ++ A ++ B ++ S) h').1 < 0 := by
 intro h h' g1 g2 g3 hp
 obtain ⟨a1,a2,a3⟩ := h3 h (by omega) g3
 obtain ⟨b1,b2,b3⟩ := h3 h' g1 (by omega)
 rcases Nat.lt_or_ge h' h with c | c
 ·have c1 := (t.cross (i := h) (j := p - h) (by omega) (by omega) a2 a3).2.1 hp
  have c2 := t.ltA (i := h') (j := h) (by omega) c (by omega)
  have c3 := t.ltB (i := p - h) (j := p - h') a2 (by omega) b3
  exact (t.cross (i := h') (j := p - h') (by omega) (by omega) b2 b3).2.2 ((c2.trans t.ord c1).trans t.ord c3)
 ·rwa [show h' = h by omega]
end Go.Proofs.Ytfoaeigoajooeaa.Z
end
section
namespace Go.Proofs.Ytfoaeigoajooeaa.Z
set_option linter.unusedVariables false
set_option linter.unusedSimpArgs false
set_option linter.unnecessarySimpa false
structure GoR (P : List El) (x : El) (B1 T : List El) (k : Nat) (L : List El) : Prop where
 out : ∃ U V,L = P ++ U ++ x :: (V ++ T) ∧ B1 = U ++ V ∧ P.length + U.length = k
theorem GoR.step {P : List El} {x : El} {B1 T L : List El} {k : Nat} (h : GoR P x B1 T k L) (hk : k < P.length + B1.length) : GoR P x B1 T (k + 1) (swp L k (k + 1)) := by
 obtain ⟨U,V,rfl,rfl,h3⟩ := h.out
 cases V with
 | nil => simp at hk;omega
 | cons v V =>
  have hs := swp_split (P ++ U) [] (V ++ T) x v
  have e : (P ++ U).length = k := by simp;omega
  rw [e] at hs
  rw [show k + (([] : List El).length + 1) = k + 1 by rfl] at hs
  refine ⟨U ++ [v],V,?_,by simp,by simp;omega⟩
  rw [List.nil_append] at hs
  rw [show P ++ U ++ x :: (v :: V ++ T) = P ++ U ++ x :: v :: (V ++ T) by simp,hs]
  simp
theorem GoR.done {P : List El} {x : El} {B1 T L : List El} {k : Nat} (h : GoR P x B1 T k L) (hk : P.length + B1.length ≤ k) : L = P ++ B1 ++ x :: T := by
 obtain ⟨U,V,rfl,rfl,h3⟩ := h.out
 have : V = [] := List.length_eq_zero_iff.1 (by simp at hk;omega)
 subst this
 simp
structure GoL (P : List El) (y : El) (A2 T : List El) (k : Nat) (L : List El) : Prop where
 out : ∃ U V,L = P ++ U ++ y :: (V ++ T) ∧ A2 = U ++ V ∧ P.length + U.length = k
theorem GoL.step {P : List El} {y : El} {A2 T L : List El} {k : Nat} (h : GoL P y A2 T (k + 1) L) (hk : P.length < k + 1) : GoL P y A2 T k (swp L (k + 1) k) := by
 obtain ⟨U,V,rfl,rfl,h3⟩ := h.out
 rcases List.eq_nil_or_concat U with rfl | ⟨U0,u,rfl⟩
 ·simp at h3;omega
 rw [List.concat_eq_append] at *
 have hs := swp_split (P ++ U0) [] (V ++ T) u y
 have e : (P ++ U0).length = k := by simp at h3 ⊢;omega
 rw [e] at hs
 rw [show k + (([] : List El).length + 1) = k + 1 by rfl] at hs
 rw [List.nil_append] at hs
 refine ⟨U0,u :: V,?_,by simp,by simp at h3;omega⟩
 rw [swp_comm _ (by omega),show P ++ (U0 ++ [u]) ++ y :: (V ++ T) = P ++ U0 ++ u :: y :: (V ++ T) by simp,hs]
 simp
theorem GoL.done {P : List El} {y : El} {A2 T L : List El} {k : Nat} (h : GoL P y A2 T k L) (hk : k ≤ P.length) : L = P ++ y :: (A2 ++ T) := by
 obtain ⟨U,V,rfl,rfl,h3⟩ := h.out
 have : U = [] := List.length_eq_zero_iff.1 (by omega)
 subst this
 simp
theorem sorted_three {cf : Fe → Fe → Int} {U V : List El} {x : El} (h : Sorted cf (U ++ V)) (h1 : ∀ u ∈ U,Lx cf u x) (h2 : ∀ v ∈ V,Lx cf x v) : Sorted cf (U ++ x :: V) := by
 unfold Sorted at *
 rw [List.pairwise_append] at h ⊢
 refine ⟨h.1,List.pairwise_cons.2 ⟨h2,h.2.1⟩,fun u hu v hv => ?_⟩
 rcases List.mem_cons.1 hv with rfl | hv
 ·exact h1 u hu
 ·exact h.2.2 u hu v hv
theorem atL_of_mem {A : List El} {x : El} (h : x ∈ A) : ∃ k,k < A.length ∧ atL A k = x := by
 obtain ⟨k,hk,rfl⟩ := List.getElem_of_mem h
 refine ⟨k,hk,?_⟩
 unfold atL
 rw [List.getD_eq_getElem?_getD,List.getElem?_eq_getElem hk]
 rfl
theorem atL_pre (P A S : List El) (k : Nat) (hk : k < A.length) : atL (P ++ A ++ S) (P.length + k) = atL A k := by
 have := (atL_seg (P := P) (A := A) (S := S) (i := P.length + k) (by omega) (by omega)).2
 rwa [Nat.add_sub_cancel_left] at this
theorem Two.cut1 {cf : Fe → Fe → Int} {P B S : List El} {x : El} (t : Two cf P [x] B S) {i : Nat} (h : Srch (fun h => cf (atL (P ++ [x] ++ B ++ S) h).1 (atL (P ++ [x] ++ B ++ S) P.length).1 < 0) (P.length + 1) (P.length + 1 + B.length) i i) :
  ∃ B1 B2,B = B1 ++ B2 ∧ P.length + 1 + B1.length = i ∧ Sorted cf (B1 ++ x :: B2) ∧ (B1 ++ x :: B2).Perm ([x] ++ B) ∧ GoR P x B1 (B2 ++ S) P.length (P ++ [x] ++ B ++ S) := by
 have g1 := h.h1
 have g3 := h.h3
 have l1 : (B.take (i - (P.length + 1))).length = i - (P.length + 1) := by simp;omega
 have e : B = B.take (i - (P.length + 1)) ++ B.drop (i - (P.length + 1)) := (List.take_append_drop _ B).symm
 generalize B.take (i - (P.length + 1)) = B1 at *
 generalize B.drop (i - (P.length + 1)) = B2 at *
 subst e
 refine ⟨B1,B2,rfl,by omega,sorted_three t.sb ?_ ?_,?_,⟨[],B1,by simp,by simp,by simp⟩⟩
 ·intro u hu
  obtain ⟨k,hk,rfl⟩ := atL_of_mem hu
  have hp := h.yes (P.length + 1 + k) (by omega) (by omega)
  have hc := (t.cross (i := P.length) (j := P.length + 1 + k) (Nat.le_refl _) (by simp) (by simp <;> omega) (by simp <;> omega)).1.1 hp
  have e1 : atL (P ++ [x] ++ (B1 ++ B2) ++ S) (P.length + 1 + k) = atL B1 k := by
   have := atL_pre (P ++ [x]) B1 (B2 ++ S) k hk
   simpa using this
  have e2 : atL (P ++ [x] ++ (B1 ++ B2) ++ S) P.length = x := by
   have := atL_mid P (B1 ++ B2 ++ S) x
   simpa using this
  rwa [e1,e2] at hc
 ·intro v hv
  obtain ⟨k,hk,rfl⟩ := atL_of_mem hv
  have hp := h.no (P.length + 1 + B1.length + k) (by omega) (by simp;omega)
  have hc := (t.cross (i := P.length) (j := P.length + 1 + B1.length + k) (Nat.le_refl _) (by simp) (by simp <;> omega) (by simp <;> omega)).2.1 hp
  have e1 : atL (P ++ [x] ++ (B1 ++ B2) ++ S) (P.length + 1 + B1.length + k) = atL B2 k := by
   have := atL_pre (P ++ [x] ++ B1) B2 S k hk
   rw [show (P ++ [x] ++ B1).length = P.length + 1 + B1.length by simp;omega] at this
   rw [show P ++ [x] ++ (B1 ++ B2) ++ S = P ++ [x] ++ B1 ++ B2 ++ S by simp]
   exact this
  have e2 : atL (P ++ [x] ++ (B1 ++ B2) ++ S) P.length = x := by
   have := atL_mid P (B1 ++ B2 ++ S) x
   simpa using this
  rwa [e1,e2] at hc
 ·exact List.perm_middle
theorem Two.cut2 {cf : Fe → Fe → Int} {P A S : List El} {y : El} (t : Two cf P A [y] S) {i : Nat} (h : Srch (fun h => ¬ cf (atL (P ++ A ++ [y] ++ S) (P.length + A.length)).1 (atL (P ++ A ++ [y] ++ S) h).1 < 0) P.length (P.length + A.length) i i) :
  ∃ A1 A2,A = A1 ++ A2 ∧ P.length + A1.length = i ∧ Sorted cf (A1 ++ y :: A2) ∧ (A1 ++ y :: A2).Perm (A ++ [y]) ∧ GoL (P ++ A1) y A2 S (P.length + A.length) (P ++ A ++ [y] ++ S) := by
 have g1 := h.h1
 have g3 := h.h3
 have l1 : (A.take (i - P.length)).length = i - P.length := by simp;omega
 have e : A = A.take (i - P.length) ++ A.drop (i - P.length) := (List.take_append_drop _ A).symm
 generalize A.take (i - P.length) = A1 at *
 generalize A.drop (i - P.length) = A2 at *
 subst e
 have e2 : atL (P ++ (A1 ++ A2) ++ [y] ++ S) (P.length + (A1 ++ A2).length) = y := by
  have := atL_mid (P ++ (A1 ++ A2)) S y
  simpa using this
 refine ⟨A1,A2,rfl,by omega,sorted_three t.sa ?_ ?_,?_,⟨A2,[],by simp,by simp,by simp;omega⟩⟩
 ·intro u hu
  obtain ⟨k,hk,rfl⟩ := atL_of_mem hu
  have hp := h.yes (P.length + k) (by omega) (by omega)
  have hc := (t.cross (i := P.length + k) (j := P.length + (A1 ++ A2).length) (by omega) (by simp;omega) (Nat.le_refl _) (by simp)).2.1 hp
  have e1 : atL (P ++ (A1 ++ A2) ++ [y] ++ S) (P.length + k) = atL A1 k := by
   have := atL_pre P A1 (A2 ++ [y] ++ S) k hk
   simpa using this
  rwa [e1,e2] at hc
 ·intro v hv
  obtain ⟨k,hk,rfl⟩ := atL_of_mem hv
  have hp := h.no (P.length + A1.length + k) (by omega) (by simp;omega)
  rw [Decidable.not_not] at hp
  have hc := (t.cross (i := P.length + A1.length + k) (j := P.length + (A1 ++ A2).length) (by omega) (by simp;omega) (Nat.le_refl _) (by simp)).1.1 hp
  have e1 : atL (P ++ (A1 ++ A2) ++ [y] ++ S) (P.length + A1.length + k) = atL A2 k := by
   have := atL_pre (P ++ A1) A2 ([y] ++ S) k hk
   simpa using this
  rwa [e1,e2] at hc
 ·refine List.perm_middle.trans ?_
  exact List.perm_append_comm (l₁ := [y])
end Go.Proofs.Ytfoaeigoajooeaa.Z
end
section
namespace Go.Proofs.Ytfoaeigoajooeaa.Z
set_option linter.unusedVariables false
set_option linter.unusedSimpArgs false
open Go.RowKit Go.Proofs.YtfoaeigoajooeaaW.PrintWords Go.Proofs.YtfoaeigoajooeaaW.PrintLast Go.Proofs.YtfoaeigoajooeaaW.PrintMore
def Merged (cf : Fe → Fe → Int) (P A B S : List El) (blk : Nat) (w : World) (e : Ending) (w' : World) : Prop := e = .returned (.tuple #[]) ∧ (∃ C,RowAt w' blk (P ++ C ++ S) ∧ C.Perm (A ++ B) ∧ Sorted cf C) ∧ w.grownBy w' (some blk)
set_option maxHeartbeats 8000000 in
set_option maxRecDepth 100000 in
theorem merge1 (cf : Fe → Fe → Int) (hC : CmpOk 13 cf) (blk cap a m b n : Nat) (P B S L : List El) (x : El) (w : World) (h : RowAt w blk L) (hlen : L.length = n) (hn : n ≤ 1000000) (t : Two cf P [x] B S) (eL : L = P ++ [x] ++ B ++ S) (hP : P.length = a) (hm : m = a + 1) (hb : m + B.length = b) (hbn : b ≤ n) :
  Calls Try.prog 74 #[.slice (some ⟨blk,0,none⟩) n cap,.int .i64 a,.int .i64 m,.int .i64 b,.func (.func 13) #[] #[]] w (Merged cf P [x] B S blk w) := by
 have H := Aside0.mk h
 have HG := Aside0.mk (only_refl w blk)
 have HL := Aside0.mk hlen
 have TT := Aside0.mk t
 have EL := Aside0.mk eL
 have HP := Aside0.mk hP
 have HB := Aside0.mk hb
 have hab : m ≤ b := by omega
 have HS := Aside0.mk (show Srch (fun h => cf (atL L h).1 (atL L a).1 < 0) m b m b from Srch.start hab)
 have MN := Aside0.mk (show ∀ h h',m ≤ h' → h' ≤ h → h < b → cf (atL L h).1 (atL L a).1 < 0 → cf (atL L h').1 (atL L a).1 < 0 by
  have := t.mono1 (by simp)
  rw [eL,← hP]
  intro h h' g1 g2 g3
  exact this h h' (by simp;omega) g2 (by simp;omega))
 clear h t eL hP hlen hb
 have HM := Aside0.mk hm
 have m1 : a + 1 ≤ m := by omega
 have m2 : m ≤ a + 1 := by omega
 have bm : ((m : Int) - (a : Int) == 1) = true := by rw [beq_iff_eq];omega
 clear hm
 go_enter Try.func74,Try.ntmps74
 go_wp2
 go_loopw [10,11] (fun iv jv wr => ∃ i j : Nat,iv = .int .i64 (i : Int) ∧ jv = .int .i64 (j : Int) ∧ i ≤ j ∧ j ≤ b ∧ m ≤ i ∧ Aside0 (Srch (fun h => cf (atL L h).1 (atL L a).1 < 0) m b i j) ∧ Aside0 (RowAt wr blk L) ∧ Aside0 (w.grownBy wr (some blk))) (fun iv jv _ => (intOf jv).toNat - (intOf iv).toNat)
 case atStart => exact ⟨m,b,rfl,rfl,hab,Nat.le_refl _,Nat.le_refl _,HS,H,HG⟩
 case round =>
  clear HS H HG
  obtain ⟨i,j,rfl,rfl,hij,hjb,hai,HS,H,HG⟩ := hrel
  by_cases hlt : i < j
  ·go_wp2_with (fail)
   obtain ⟨c,hc⟩ : ∃ c : Nat,((i : Int) + (j : Int)) / 2 = (c : Int) := ⟨(i + j) / 2,by omega⟩
   have hc1 : i ≤ c := by omega
   have hc2 : c < j := by omega
   rw [hc]
   clear hc
   have p0 : (0 : Int) ≤ (c : Int) := by omega
   have p1 : (c : Int) < (n : Int) := by omega
   have p2 : (0 : Int) ≤ (a : Int) := by omega
   have p3 : (a : Int) < (n : Int) := by omega
   obtain ⟨x0,z,hbl,gx⟩ := H.out.cell (i := c) (by have := HL.out;omega)
   obtain ⟨y0,_,_,gy⟩ := H.out.cell (i := a) (by have := HL.out;omega)
   have BL := Aside0.mk hbl
   clear hbl z
   generalize hx : atL L c = ex at x0 gx
   generalize hy : atL L a = ey at y0 gy
   have HXE := Aside0.mk hx
   have HYE := Aside0.mk hy
   clear hx hy
   by_cases hv : cf ex.1 ey.1 < 0
   ·have c0 : decide (cf ex.1 ey.1 < 0) = true := decide_eq_true hv
    have SU := Aside0.mk (HS.out.up MN.out hc1 hc2 (show cf (atL L c).1 (atL L a).1 < 0 by rw [HXE.out,HYE.out];exact hv))
    clear hv HXE HYE
    go_region_held3 (fun w' => w'.cell? ⟨blk,c,none⟩ = some (.slice ex.1.A ex.1.row.length ex.1.c) ∧ w'.cell? ⟨blk,a,none⟩ = some (.slice ey.1.A ey.1.row.length ey.1.c)) (first | go_keep | exact ⟨by assumption,by assumption⟩) (first | (go_at_call 13;refine (hC.calls ex.1 ey.1 _ blk ?_ ?_).mono ?_;exact gx;exact gy;rintro e w2 ⟨rfl,hb2⟩;have N2 := Aside0.mk (sameW_next (w1 := wr) hb2);clear hb2;have u0 := (N2.out.cell (p := ⟨blk,c,none⟩) BL.out).trans x0;have v0 := (N2.out.cell (p := ⟨blk,a,none⟩) BL.out).trans y0))
    have R2 := Aside0.mk (H.out.below N2.out)
    have G1 := Aside0.mk (only_belowT HG.out N2.out)
    clear x0 gx y0 gy u0 v0 H HG HS BL N2
    go_wp2
    go_roundw
    case rel => exact ⟨c + 1,j,by go_num,rfl,by omega,hjb,by omega,SU,R2,G1⟩
    case measure => simp [intOf];omega
   ·have c0 : decide (cf ex.1 ey.1 < 0) = false := decide_eq_false hv
    have SU := Aside0.mk (HS.out.down MN.out hc1 hc2 (show ¬ cf (atL L c).1 (atL L a).1 < 0 by rw [HXE.out,HYE.out];exact hv))
    clear hv HXE HYE
    go_region_held3 (fun w' => w'.cell? ⟨blk,c,none⟩ = some (.slice ex.1.A ex.1.row.length ex.1.c) ∧ w'.cell? ⟨blk,a,none⟩ = some (.slice ey.1.A ey.1.row.length ey.1.c)) (first | go_keep | exact ⟨by assumption,by assumption⟩) (first | (go_at_call 13;refine (hC.calls ex.1 ey.1 _ blk ?_ ?_).mono ?_;exact gx;exact gy;rintro e w2 ⟨rfl,hb2⟩;have N2 := Aside0.mk (sameW_next (w1 := wr) hb2);clear hb2;have u0 := (N2.out.cell (p := ⟨blk,c,none⟩) BL.out).trans x0;have v0 := (N2.out.cell (p := ⟨blk,a,none⟩) BL.out).trans y0))
    have R2 := Aside0.mk (H.out.below N2.out)
    have G1 := Aside0.mk (only_belowT HG.out N2.out)
    clear x0 gx y0 gy u0 v0 H HG HS BL N2
    go_wp2
    go_roundw
    case rel => exact ⟨i,c,rfl,rfl,by omega,by omega,hai,SU,R2,G1⟩
    case measure => simp [intOf];omega
  ·have hije : i = j := by omega
   subst hije
   have HCUT : Aside0 (∃ B1 B2,B = B1 ++ B2 ∧ a + 1 + B1.length = i ∧ Sorted cf (B1 ++ x :: B2) ∧ (B1 ++ x :: B2).Perm ([x] ++ B) ∧ GoR P x B1 (B2 ++ S) a L) := ⟨by
    have e := EL.out
    subst e
    have e2 := HP.out
    subst e2
    exact TT.out.cut1 (by have h1 := HS.out;have h2 := HB.out;have h3 := HM.out;subst h3;rw [← h2] at h1;exact h1)⟩
   obtain ⟨B1,B2,hBB,hB1,hC1,hC2,hGR⟩ := HCUT.out
   have GR := Aside0.mk hGR
   have HF := Aside0.mk (And.intro hC1 hC2)
   have HB1 := Aside0.mk hB1
   clear hBB hB1 hC1 hC2 hGR HCUT HS
   have q0 : a + 1 ≤ i := by omega
   go_wp2
   go_loopw [13] (fun kv wr => ∃ (k : Nat) (L1 : List El),kv = .int .i64 (k : Int) ∧ a ≤ k ∧ k ≤ i ∧ k + 1 ≤ i ∧ Aside0 (GoR P x B1 (B2 ++ S) k L1) ∧ Aside0 (L1.length = n) ∧ Aside0 (RowAt wr blk L1) ∧ Aside0 (w.grownBy wr (some blk))) (fun kv _ => i - (intOf kv).toNat)
   case atStart => exact ⟨a,L,rfl,Nat.le_refl _,by omega,by omega,GR,HL,H,HG⟩
   case round =>
    clear GR H HG
    obtain ⟨k,L1,rfl,hak,hki,hki1,GR,HL1,H,HG⟩ := hrel
    by_cases hk : k + 1 < i
    ·have b0 : decide ((k : Int) < (i : Int) - 1) = true := decide_eq_true (by omega)
     have b1 : (k : Int) < (i : Int) - 1 := by omega
     have kn : k + 1 < n := by omega
     have GS := Aside0.mk (GR.out.step (by have := HP.out;have := HB1.out;omega))
     clear GR
     have QQ : Aside0 (k < L1.length ∧ k + 1 < L1.length) := ⟨by have := HL1.out;omega⟩
     obtain ⟨x0,z,_,_⟩ := H.out.cell QQ.out.1
     obtain ⟨y0,_,_,_⟩ := H.out.cell QQ.out.2
     have SW := H.out.swap QQ.out.1 QQ.out.2
     generalize atL L1 (k) = ex at *
     generalize atL L1 (k + 1) = ey at *
     have R1 : Aside0 (RowAt (putN (putN wr blk (k) ey.1) blk (k + 1) ex.1) blk (swp L1 (k) (k + 1))) := ⟨SW⟩
     have G1 := Aside0.mk (only_putN (i := k + 1) (u := ex.1) (only_putN (i := k) (u := ey.1) HG.out))
     have LN := Aside0.mk ((swp_len L1 (k) (k + 1)).trans HL1.out)
     clear SW H HG HL1 QQ
     go_wp2_with (fail)
     go_region
     have R2 := R1.out.drew
     have G2 := only_drew G1.out
     unfold putN at R2 G2
     have R3 := Aside0.mk R2
     have G3 := Aside0.mk G2
     clear R1 G1 R2 G2 x0 y0 z
     go_wp2
     go_roundw
     case rel => exact ⟨k + 1,_,by go_num,by omega,by omega,by omega,GS,LN,R3,G3⟩
     case measure => simp [intOf];omega
    ·have b0 : decide ((k : Int) < (i : Int) - 1) = false := decide_eq_false (by omega)
     have b1 : (i : Int) - 1 ≤ (k : Int) := by omega
     have HD := Aside0.mk (GR.out.done (by have := HP.out;have := HB1.out;omega))
     go_wp2
     refine bodyPost_ret (results_none rfl _ _ _) rfl ?_
     exact ⟨rfl,⟨_,by have := H.out;rw [HD.out] at this;rw [List.append_assoc,List.append_assoc,List.cons_append];rw [List.append_assoc] at this;exact this,HF.out.2,HF.out.1⟩,HG.out⟩
end Go.Proofs.Ytfoaeigoajooeaa.Z
end
section
namespace Go.Proofs.Ytfoaeigoajooeaa.Z
set_option linter.unusedVariables false
set_option linter.unusedSimpArgs false
open Go.RowKit Go.Proofs.YtfoaeigoajooeaaW.PrintWords Go.Proofs.YtfoaeigoajooeaaW.PrintLast Go.Proofs.YtfoaeigoajooeaaW.PrintMore
def NotAhd (cf : Fe → Fe → Int) (L : List El) (m h : Nat) : Prop := ¬ cf (atL L m).1 (atL L h).1 < 0
set_option maxHeartbeats 8000000 in
set_option maxRecDepth 100000 in
theorem merge2 (cf : Fe → Fe → Int) (hC : CmpOk 13 cf) (blk cap a m b n : Nat) (P A S L : List El) (y : El) (w : World) (h : RowAt w blk L) (hlen : L.length = n) (hn : n ≤ 1000000) (t : Two cf P A [y] S) (eL : L = P ++ A ++ [y] ++ S) (hP : P.length = a) (hm : a + A.length = m) (hA : 2 ≤ A.length) (hb : m + 1 = b) (hbn : b ≤ n) :
  Calls Try.prog 74 #[.slice (some ⟨blk,0,none⟩) n cap,.int .i64 a,.int .i64 m,.int .i64 b,.func (.func 13) #[] #[]] w (Merged cf P A [y] S blk w) := by
 have H := Aside0.mk h
 have HG := Aside0.mk (only_refl w blk)
 have HL := Aside0.mk hlen
 have TT := Aside0.mk t
 have EL := Aside0.mk eL
 have HP := Aside0.mk hP
 have HM := Aside0.mk hm
 have ham : a + 2 ≤ m := by omega
 have hmn : m + 1 ≤ n := by omega
 have HS := Aside0.mk (show Srch (NotAhd cf L m) a m a m from Srch.start (by omega))
 have MN := Aside0.mk (show ∀ h h',a ≤ h' → h' ≤ h → h < m → NotAhd cf L m h → NotAhd cf L m h' by
  have := t.mono2 (by simp)
  rw [eL,← hm,← hP]
  exact this)
 have b1 : m + 1 ≤ b := by omega
 have b2 : b ≤ m + 1 := by omega
 have bm : ((m : Int) - (a : Int) == 1) = false := by rw [beq_eq_false_iff_ne];omega
 have bb : ((b : Int) - (m : Int) == 1) = true := by rw [beq_iff_eq];omega
 clear h t eL hP hlen hb hm hA
 go_enter Try.func74,Try.ntmps74
 go_wp2
 go_loopw [14,15] (fun iv jv wr => ∃ i j : Nat,iv = .int .i64 (i : Int) ∧ jv = .int .i64 (j : Int) ∧ i ≤ j ∧ j ≤ m ∧ a ≤ i ∧ Aside0 (Srch (NotAhd cf L m) a m i j) ∧ Aside0 (RowAt wr blk L) ∧ Aside0 (w.grownBy wr (some blk))) (fun iv jv _ => (intOf jv).toNat - (intOf iv).toNat)
 case atStart => exact ⟨a,m,rfl,rfl,by omega,Nat.le_refl _,Nat.le_refl _,HS,H,HG⟩
 case round =>
  clear HS H HG
  obtain ⟨i,j,rfl,rfl,hij,hjb,hai,HS,H,HG⟩ := hrel
  by_cases hlt : i < j
  ·go_wp2_with (fail)
   obtain ⟨c,hc⟩ : ∃ c : Nat,((i : Int) + (j : Int)) / 2 = (c : Int) := ⟨(i + j) / 2,by omega⟩
   have hc1 : i ≤ c := by omega
   have hc2 : c < j := by omega
   rw [hc]
   clear hc
   have p0 : (0 : Int) ≤ (c : Int) := by omega
   have p1 : (c : Int) < (n : Int) := by omega
   have p2 : (0 : Int) ≤ (m : Int) := by omega
   have p3 : (m : Int) < (n : Int) := by omega
   obtain ⟨x0,z,hbl,gx⟩ := H.out.cell (i := m) (by have := HL.out;omega)
   obtain ⟨y0,_,_,gy⟩ := H.out.cell (i := c) (by have := HL.out;omega)
   have BL := Aside0.mk hbl
   clear hbl z
   generalize hx : atL L m = ex at x0 gx
   generalize hy : atL L c = ey at y0 gy
   have HXE := Aside0.mk hx
   have HYE := Aside0.mk hy
   clear hx hy
   by_cases hv : cf ex.1 ey.1 < 0
   ·have c0 : decide (cf ex.1 ey.1 < 0) = true := decide_eq_true hv
    have SU := Aside0.mk (HS.out.down MN.out hc1 hc2 (show ¬ NotAhd cf L m c by unfold NotAhd;rw [HXE.out,HYE.out];exact fun q => q hv))
    clear hv HXE HYE
    go_region_held3 (fun w' => w'.cell? ⟨blk,m,none⟩ = some (.slice ex.1.A ex.1.row.length ex.1.c) ∧ w'.cell? ⟨blk,c,none⟩ = some (.slice ey.1.A ey.1.row.length ey.1.c)) (first | go_keep | exact ⟨by assumption,by assumption⟩) (first | (go_at_call 13;refine (hC.calls ex.1 ey.1 _ blk ?_ ?_).mono ?_;exact gx;exact gy;rintro e w2 ⟨rfl,hb2⟩;have N2 := Aside0.mk (sameW_next (w1 := wr) hb2);clear hb2;have u0 := (N2.out.cell (p := ⟨blk,m,none⟩) BL.out).trans x0;have v0 := (N2.out.cell (p := ⟨blk,c,none⟩) BL.out).trans y0))
    have R2 := Aside0.mk (H.out.below N2.out)
    have G1 := Aside0.mk (only_belowT HG.out N2.out)
    clear x0 gx y0 gy u0 v0 H HG HS BL N2
    go_wp2
    go_roundw
    case rel => exact ⟨i,c,rfl,rfl,by omega,by omega,hai,SU,R2,G1⟩
    case measure => simp [intOf];omega
   ·have c0 : decide (cf ex.1 ey.1 < 0) = false := decide_eq_false hv
    have SU := Aside0.mk (HS.out.up MN.out hc1 hc2 (show NotAhd cf L m c by unfold NotAhd;rw [HXE.out,HYE.out];exact hv))
    clear hv HXE HYE
    go_region_held3 (fun w' => w'.cell? ⟨blk,m,none⟩ = some (.slice ex.1.A ex.1.row.length ex.1.c) ∧ w'.cell? ⟨blk,c,none⟩ = some (.slice ey.1.A ey.1.row.length ey.1.c)) (first | go_keep | exact ⟨by assumption,by assumption⟩) (first | (go_at_call 13;refine (hC.calls ex.1 ey.1 _ blk ?_ ?_).mono ?_;exact gx;exact gy;rintro e w2 ⟨rfl,hb2⟩;have N2 := Aside0.mk (sameW_next (w1 := wr) hb2);clear hb2;have u0 := (N2.out.cell (p := ⟨blk,m,none⟩) BL.out).trans x0;have v0 := (N2.out.cell (p := ⟨blk,c,none⟩) BL.out).trans y0))
    have R2 := Aside0.mk (H.out.below N2.out)
    have G1 := Aside0.mk (only_belowT HG.out N2.out)
    clear x0 gx y0 gy u0 v0 H HG HS BL N2
    go_wp2
    go_roundw
    case rel => exact ⟨c + 1,j,by go_num,rfl,by omega,hjb,by omega,SU,R2,G1⟩
    case measure => simp [intOf];omega
  ·have hije : i = j := by omega
   subst hije
   have HCUT : Aside0 (∃ A1 A2,A = A1 ++ A2 ∧ a + A1.length = i ∧ Sorted cf (A1 ++ y :: A2) ∧ (A1 ++ y :: A2).Perm (A ++ [y]) ∧ GoL (P ++ A1) y A2 S m L) := ⟨by
    have e := EL.out
    subst e
    have e2 := HP.out
    subst e2
    have e3 := HM.out
    subst e3
    exact TT.out.cut2 HS.out⟩
   obtain ⟨A1,A2,hAA,hA1,hC1,hC2,hGR⟩ := HCUT.out
   have GR := Aside0.mk hGR
   have HF := Aside0.mk (And.intro hC1 hC2)
   have HA1 := Aside0.mk (show (P ++ A1).length = i by have := HP.out;simp;omega)
   clear hAA hA1 hC1 hC2 hGR HCUT HS
   go_wp2
   go_loopw [17] (fun kv wr => ∃ (k : Nat) (L1 : List El),kv = .int .i64 (k : Int) ∧ i ≤ k ∧ k ≤ m ∧ Aside0 (GoL (P ++ A1) y A2 S k L1) ∧ Aside0 (L1.length = n) ∧ Aside0 (RowAt wr blk L1) ∧ Aside0 (w.grownBy wr (some blk))) (fun kv _ => (intOf kv).toNat)
   case atStart => exact ⟨m,L,rfl,by omega,Nat.le_refl _,GR,HL,H,HG⟩
   case round =>
    clear GR H HG
    obtain ⟨k,L1,rfl,hik,hkm,GR,HL1,H,HG⟩ := hrel
    by_cases hk : i < k
    ·obtain ⟨kp,rfl⟩ : ∃ kp,k = kp + 1 := ⟨k - 1,by omega⟩
     have b0 : decide ((i : Int) < (kp : Int) + 1) = true := decide_eq_true (by omega)
     have b1 : (i : Int) < (kp : Int) + 1 := by omega
     have kn : kp + 1 < n := by omega
     have GS := Aside0.mk (GR.out.step (by have := HA1.out;omega))
     have hwp : IntKind.i64.wrap (kp : Int) = (kp : Int) := by rw [IntKind.wrap_i64];omega
     have e0 : ((kp : Int) + 1).toNat = kp + 1 := by omega
     clear GR
     have QQ : Aside0 (kp + 1 < L1.length ∧ kp < L1.length) := ⟨by have := HL1.out;omega⟩
     obtain ⟨x0,z,_,_⟩ := H.out.cell QQ.out.1
     obtain ⟨y0,_,_,_⟩ := H.out.cell QQ.out.2
     have SW := H.out.swap QQ.out.1 QQ.out.2
     generalize atL L1 (kp + 1) = ex at *
     generalize atL L1 (kp) = ey at *
     have R1 : Aside0 (RowAt (putN (putN wr blk (kp + 1) ey.1) blk (kp) ex.1) blk (swp L1 (kp + 1) (kp))) := ⟨SW⟩
     have G1 := Aside0.mk (only_putN (i := kp) (u := ex.1) (only_putN (i := kp + 1) (u := ey.1) HG.out))
     have LN := Aside0.mk ((swp_len L1 (kp + 1) (kp)).trans HL1.out)
     clear SW H HG HL1 QQ
     go_wp2_with (fail)
     go_region
     have R2 := R1.out.drew
     have G2 := only_drew G1.out
     unfold putN at R2 G2
     have R3 := Aside0.mk R2
     have G3 := Aside0.mk G2
     clear R1 G1 R2 G2 x0 y0 z
     go_wp2
     go_roundw
     case rel => exact ⟨kp,_,rfl,by omega,by omega,GS,LN,R3,G3⟩
     case measure => simp [intOf] <;> omega
    ·have b0 : decide ((i : Int) < (k : Int)) = false := decide_eq_false (by omega)
     have b1 : k ≤ i := by omega
     have HD := Aside0.mk (GR.out.done (by have := HA1.out;omega))
     go_wp2
     refine bodyPost_ret (results_none rfl _ _ _) rfl ?_
     exact ⟨rfl,⟨_,by have := H.out;rw [HD.out] at this;rw [show P ++ (A1 ++ y :: A2) ++ S = P ++ A1 ++ y :: (A2 ++ S) by simp];exact this,HF.out.2,HF.out.1⟩,HG.out⟩
end Go.Proofs.Ytfoaeigoajooeaa.Z
end
section
namespace Go.Proofs.Ytfoaeigoajooeaa.Z
set_option linter.unusedVariables false
set_option linter.unusedSimpArgs false
set_option linter.unnecessarySimpa false
def NotAhd3 (cf : Fe → Fe → Int) (L : List El) (p h : Nat) : Prop := ¬ cf (atL L (p - h)).1 (atL L h).1 < 0
structure Cut (cf : Fe → Fe → Int) (A B A1 A2 B1 B2 : List El) : Prop where
 eA : A = A1 ++ A2
 eB : B = B1 ++ B2
 ab : ∀ x ∈ A1,∀ y ∈ B2,Lx cf x y
 ba : ∀ y ∈ B1,∀ x ∈ A2,Lx cf y x
theorem Two.cut3 {cf : Fe → Fe → Int} {P A B S L : List El} (t : Two cf P A B S) (eL : L = P ++ A ++ B ++ S) {a m b nn lo hi i e : Nat} (ha : P.length = a) (hm : a + A.length = m) (hb : m + B.length = b)
  (h : Srch (NotAhd3 cf L (nn - 1)) lo hi i i) (h1 : a ≤ lo) (h2 : hi ≤ m) (h3 : nn ≤ b + lo) (h4 : m + hi ≤ nn) (hl : lo = a ∨ nn = b + lo) (hh : hi = m ∨ m + hi = nn) (he : e + i = nn) :
  ∃ A1 A2 B1 B2,Cut cf A B A1 A2 B1 B2 ∧ a + A1.length = i ∧ m + B1.length = e := by
 subst eL
 have g1 := h.h1
 have g3 := h.h3
 have lA : (A.take (i - a)).length = i - a := by simp;omega
 have lB : (B.take (e - m)).length = e - m := by simp;omega
 have eA : A = A.take (i - a) ++ A.drop (i - a) := (List.take_append_drop _ A).symm
 have eB : B = B.take (e - m) ++ B.drop (e - m) := (List.take_append_drop _ B).symm
 generalize A.take (i - a) = A1 at *
 generalize A.drop (i - a) = A2 at *
 generalize B.take (e - m) = B1 at *
 generalize B.drop (e - m) = B2 at *
 subst eA;subst eB;subst ha
 have wA1 (k : Nat) (hk : k < A1.length) : atL (P ++ (A1 ++ A2) ++ (B1 ++ B2) ++ S) (P.length + k) = atL A1 k := by
  have := atL_pre P A1 (A2 ++ (B1 ++ B2) ++ S) k hk
  simpa using this
 have wA2 (k : Nat) (hk : k < A2.length) : atL (P ++ (A1 ++ A2) ++ (B1 ++ B2) ++ S) (P.length + A1.length + k) = atL A2 k := by
  have := atL_pre (P ++ A1) A2 ((B1 ++ B2) ++ S) k hk
  simpa using this
 have wB1 (k : Nat) (hk : k < B1.length) : atL (P ++ (A1 ++ A2) ++ (B1 ++ B2) ++ S) (P.length + (A1 ++ A2).length + k) = atL B1 k := by
  have := atL_pre (P ++ (A1 ++ A2)) B1 (B2 ++ S) k hk
  simpa using this
 have wB2 (k : Nat) (hk : k < B2.length) : atL (P ++ (A1 ++ A2) ++ (B1 ++ B2) ++ S) (P.length + (A1 ++ A2).length + B1.length + k) = atL B2 k := by
  have := atL_pre (P ++ (A1 ++ A2) ++ B1) B2 S k hk
  simpa [Nat.add_assoc] using this
 refine ⟨A1,A2,B1,B2,⟨rfl,rfl,?_,?_⟩,by omega,by omega⟩
 ·intro x hx y hy
  obtain ⟨k,hk,rfl⟩ := atL_of_mem hx
  obtain ⟨q,hq,rfl⟩ := atL_of_mem hy
  have n1 : (B1 ++ B2).length = B1.length + B2.length := List.length_append
  have n2 : (A1 ++ A2).length = A1.length + A2.length := List.length_append
  have hp := h.yes (i - 1) (by omega) (by omega)
  have hc := (t.cross (i := i - 1) (j := nn - 1 - (i - 1)) (by omega) (by omega) (by omega) (by omega)).2.1 hp
  rw [← wA1 k hk,← wB2 q hq]
  have c1 : atL (P ++ (A1 ++ A2) ++ (B1 ++ B2) ++ S) (P.length + k) = atL (P ++ (A1 ++ A2) ++ (B1 ++ B2) ++ S) (i - 1) ∨ Lx cf (atL (P ++ (A1 ++ A2) ++ (B1 ++ B2) ++ S) (P.length + k)) (atL (P ++ (A1 ++ A2) ++ (B1 ++ B2) ++ S) (i - 1)) := by
   rcases Nat.lt_or_ge (P.length + k) (i - 1) with c | c
   ·exact Or.inr (t.ltA (by omega) c (by omega))
   ·exact Or.inl (by congr 1;omega)
  have c2 : atL (P ++ (A1 ++ A2) ++ (B1 ++ B2) ++ S) (nn - 1 - (i - 1)) = atL (P ++ (A1 ++ A2) ++ (B1 ++ B2) ++ S) (P.length + (A1 ++ A2).length + B1.length + q) ∨ Lx cf (atL (P ++ (A1 ++ A2) ++ (B1 ++ B2) ++ S) (nn - 1 - (i - 1))) (atL (P ++ (A1 ++ A2) ++ (B1 ++ B2) ++ S) (P.length + (A1 ++ A2).length + B1.length + q)) := by
   rcases Nat.lt_or_ge (nn - 1 - (i - 1)) (P.length + (A1 ++ A2).length + B1.length + q) with c | c
   ·exact Or.inr (t.ltB (by omega) c (by omega))
   ·exact Or.inl (by congr 1;omega)
  rcases c1 with c1 | c1 <;> rcases c2 with c2 | c2
  ·rw [c1,← c2];exact hc
  ·rw [c1];exact hc.trans t.ord c2
  ·rw [← c2];exact c1.trans t.ord hc
  ·exact c1.trans t.ord (hc.trans t.ord c2)
 ·intro y hy x hx
  obtain ⟨k,hk,rfl⟩ := atL_of_mem hx
  obtain ⟨q,hq,rfl⟩ := atL_of_mem hy
  have n1 : (B1 ++ B2).length = B1.length + B2.length := List.length_append
  have n2 : (A1 ++ A2).length = A1.length + A2.length := List.length_append
  have hp := h.no i (by omega) (by omega)
  unfold NotAhd3 at hp
  rw [Decidable.not_not] at hp
  have hc := (t.cross (i := i) (j := nn - 1 - i) (by omega) (by omega) (by omega) (by omega)).1.1 hp
  rw [← wA2 k hk,← wB1 q hq]
  have c1 : atL (P ++ (A1 ++ A2) ++ (B1 ++ B2) ++ S) i = atL (P ++ (A1 ++ A2) ++ (B1 ++ B2) ++ S) (P.length + A1.length + k) ∨ Lx cf (atL (P ++ (A1 ++ A2) ++ (B1 ++ B2) ++ S) i) (atL (P ++ (A1 ++ A2) ++ (B1 ++ B2) ++ S) (P.length + A1.length + k)) := by
   rcases Nat.lt_or_ge i (P.length + A1.length + k) with c | c
   ·exact Or.inr (t.ltA (by omega) c (by omega))
   ·exact Or.inl (by congr 1;omega)
  have c2 : atL (P ++ (A1 ++ A2) ++ (B1 ++ B2) ++ S) (P.length + (A1 ++ A2).length + q) = atL (P ++ (A1 ++ A2) ++ (B1 ++ B2) ++ S) (nn - 1 - i) ∨ Lx cf (atL (P ++ (A1 ++ A2) ++ (B1 ++ B2) ++ S) (P.length + (A1 ++ A2).length + q)) (atL (P ++ (A1 ++ A2) ++ (B1 ++ B2) ++ S) (nn - 1 - i)) := by
   rcases Nat.lt_or_ge (P.length + (A1 ++ A2).length + q) (nn - 1 - i) with c | c
   ·exact Or.inr (t.ltB (by omega) c (by omega))
   ·exact Or.inl (by congr 1;omega)
  rcases c1 with c1 | c1 <;> rcases c2 with c2 | c2
  ·rw [← c1,c2];exact hc
  ·rw [← c1];exact c2.trans t.ord hc
  ·rw [c2];exact hc.trans t.ord c1
  ·exact c2.trans t.ord (hc.trans t.ord c1)
theorem Two.mono3' {cf : Fe → Fe → Int} {P A B S L : List El} (t : Two cf P A B S) (eL : L = P ++ A ++ B ++ S) {a m b nn lo hi : Nat} (ha : P.length = a) (hm : a + A.length = m) (hb : m + B.length = b) (h1 : a ≤ lo) (h2 : hi ≤ m) (h3 : nn ≤ b + lo) (h4 : m + hi ≤ nn) : ∀ h h',lo ≤ h' → h' ≤ h → h < hi → NotAhd3 cf L (nn - 1) h → NotAhd3 cf L (nn - 1) h' := by
 subst eL;subst ha;subst hm
 exact t.mono3 lo hi (nn - 1) h1 h2 fun c c1 c2 => ⟨by omega,by omega,by omega⟩
theorem Cut.two1 {cf : Fe → Fe → Int} {P A B S A1 A2 B1 B2 : List El} (t : Two cf P A B S) (c : Cut cf A B A1 A2 B1 B2) : Two cf P A1 B1 (A2 ++ B2 ++ S) := by
 have eA := c.eA
 have eB := c.eB
 subst eA;subst eB
 exact ⟨t.ord,(List.pairwise_append.1 t.sa).1,(List.pairwise_append.1 t.sb).1,fun x hx y hy => t.tags x (List.mem_append_left _ hx) y (List.mem_append_left _ hy)⟩
theorem Cut.two2 {cf : Fe → Fe → Int} {P A B S A1 A2 B1 B2 C : List El} (t : Two cf P A B S) (c : Cut cf A B A1 A2 B1 B2) : Two cf (P ++ C) A2 B2 S := by
 have eA := c.eA
 have eB := c.eB
 subst eA;subst eB
 exact ⟨t.ord,(List.pairwise_append.1 t.sa).2.1,(List.pairwise_append.1 t.sb).2.1,fun x hx y hy => t.tags x (List.mem_append_right _ hx) y (List.mem_append_right _ hy)⟩
theorem Cut.join {cf : Fe → Fe → Int} {P A B S A1 A2 B1 B2 C1 C2 : List El} (t : Two cf P A B S) (c : Cut cf A B A1 A2 B1 B2) (p1 : C1.Perm (A1 ++ B1)) (s1 : Sorted cf C1) (p2 : C2.Perm (A2 ++ B2)) (s2 : Sorted cf C2) : (C1 ++ C2).Perm (A ++ B) ∧ Sorted cf (C1 ++ C2) := by
 have eA := c.eA
 have eB := c.eB
 subst eA;subst eB
 constructor
 ·refine (p1.append p2).trans ?_
  rw [List.append_assoc,List.append_assoc]
  refine List.Perm.append_left A1 ?_
  rw [← List.append_assoc,← List.append_assoc]
  exact List.Perm.append_right B2 List.perm_append_comm
 ·refine List.pairwise_append.2 ⟨s1,s2,?_⟩
  intro x hx y hy
  rcases List.mem_append.1 (p1.mem_iff.1 hx) with hx | hx <;> rcases List.mem_append.1 (p2.mem_iff.1 hy) with hy | hy
  ·exact (List.pairwise_append.1 t.sa).2.2 x hx y hy
  ·exact c.ab x hx y hy
  ·exact c.ba x hx y hy
  ·exact (List.pairwise_append.1 t.sb).2.2 x hx y hy
theorem Cut.flat1 {cf : Fe → Fe → Int} {P A B S A1 A2 B1 B2 : List El} (t : Two cf P A B S) (c : Cut cf A B A1 A2 B1 B2) (h : A1.length = 0 ∨ B1.length = 0) : Sorted cf (A1 ++ B1) := by
 have w := c.two1 t
 rcases h with h | h
 ·rw [List.length_eq_zero_iff.1 h,List.nil_append];exact w.sb
 ·rw [List.length_eq_zero_iff.1 h,List.append_nil];exact w.sa
theorem Cut.flat2 {cf : Fe → Fe → Int} {P A B S A1 A2 B1 B2 : List El} (t : Two cf P A B S) (c : Cut cf A B A1 A2 B1 B2) (h : A2.length = 0 ∨ B2.length = 0) : Sorted cf (A2 ++ B2) := by
 have w := c.two2 (C := []) t
 rcases h with h | h
 ·rw [List.length_eq_zero_iff.1 h,List.nil_append];exact w.sb
 ·rw [List.length_eq_zero_iff.1 h,List.append_nil];exact w.sa
theorem Cut.turn {cf : Fe → Fe → Int} {P A B S A1 A2 B1 B2 L : List El} (c : Cut cf A B A1 A2 B1 B2) (eL : L = P ++ A ++ B ++ S) {a m i e : Nat} (ha : P.length = a) (hm : a + A.length = m) (hi : a + A1.length = i) (he : m + B1.length = e) (h1 : i < m) (h2 : m < e) : Turn (P ++ A1 ++ B1 ++ (A2 ++ B2 ++ S)) m (m - i) (e - m) L := by
 have eA := c.eA
 have eB := c.eB
 subst eA;subst eB;subst eL
 exact ⟨P ++ A1,A2,B1,B2 ++ S,by simp,by simp at hm;omega,by omega,by simp;omega,by omega,by omega,by simp⟩
theorem Cut.noturn {cf : Fe → Fe → Int} {P A B S A1 A2 B1 B2 L : List El} (c : Cut cf A B A1 A2 B1 B2) (eL : L = P ++ A ++ B ++ S) {a m i e : Nat} (ha : P.length = a) (hm : a + A.length = m) (hi : a + A1.length = i) (he : m + B1.length = e) (h : ¬ (i < m ∧ m < e)) : L = P ++ A1 ++ B1 ++ (A2 ++ B2 ++ S) := by
 have eA := c.eA
 have eB := c.eB
 subst eA;subst eB;subst eL
 have : A2.length = 0 ∨ B1.length = 0 := by simp at hm;omega
 rcases this with h | h
 ·rw [List.length_eq_zero_iff.1 h];simp
 ·rw [List.length_eq_zero_iff.1 h];simp
end Go.Proofs.Ytfoaeigoajooeaa.Z
end
