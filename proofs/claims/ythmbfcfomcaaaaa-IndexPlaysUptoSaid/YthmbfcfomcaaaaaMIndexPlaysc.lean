/- Parts of the proof of IndexPlays: what its functions answer. -/
import Derived.Test.YthmbfcfomcaaaaaMIndexPlaysa
import Derived.Test.YthmbfcfomcaaaaaMIndexPlaysb
import Derived.Deep.Slices
import Derived.ProofKit
section
namespace Go.Proofs.Ythmbfcfomcaaaaa.Z
open Go.RowKit Go.Proofs.YthmbfcfomcaaaaaW.PrintWords Go.Proofs.YthmbfcfomcaaaaaW.PrintLast Go.Proofs.YthmbfcfomcaaaaaW.PrintMore
attribute [local go_sem] max2_int min2_int max_two min_two max_three min_three max_four min_four
set_option linter.unusedVariables false
set_option linter.unusedSimpArgs false
attribute [local go_sem high] eqA66
def value_Right.f (a0_0 : Int) (a0_1 : Bool) (a0_2 : Int) (a0_3 : ByteArray) : Option (Bool) := if a0_0 = 0 then ((value_Null.f).bind fun bt124 => (some (a0_0 == bt124.1 && (a0_1 == bt124.2.1 && (a0_2 == bt124.2.2.1 && (a0_3.toList == bt124.2.2.2.toList)))))) else (if a0_0 = 1 then ((value_Bool.f a0_1).bind fun bt128 => (some (a0_0 == bt128.1 && (a0_1 == bt128.2.1 && (a0_2 == bt128.2.2.1 && (a0_3.toList == bt128.2.2.2.toList)))))) else (if a0_0 = 2 then ((value_Int.f a0_2).bind fun bt132 => (some (a0_0 == bt132.1 && (a0_1 == bt132.2.1 && (a0_2 == bt132.2.2.1 && (a0_3.toList == bt132.2.2.2.toList)))))) else (if a0_0 = 3 then ((value_Text.f a0_3).bind fun bt136 => (if (a0_0 == bt136.1 && (a0_1 == bt136.2.1 && (a0_2 == bt136.2.2.1 && (a0_3.toList == bt136.2.2.2.toList)))) = true then (some (decide ((a0_3.size : Int) ≤ 60))) else (some false))) else (some false))))
def value_Right.T9 : Bool × List (List Nat × List Nat) := (true,[([],[]),([],[]),([1],[1]),([2],[2]),([0,3],[0,3]),([4,3],[4]),([5],[5]),([6,5],[5,6]),([7,5],[5,7]),([8,5],[5,8]),([5,9],[5,9]),([10,5,0,1,2,3,4,5,6,7,8,9,10],[10])])
def value_Right.B9 : List Nat := [0,0,2,6,15,31,63,127,255,511,1023,2047]
theorem value_Right.tab9 : rtab .any (opsOf Try.f92 9) = value_Right.T9 := by kernel_rfl
theorem value_Right.bits9 : waitsOk value_Right.T9.2 value_Right.B9 = true := by kernel_rfl
set_option maxHeartbeats 8000000 in
set_option maxRecDepth 100000 in
theorem value_Right.calls (a0_0 : Int) (a0_1 : Bool) (a0_2 : Int) (a0_3 : ByteArray) (r : Bool) (w : World) (h : value_Right.f a0_0 a0_1 a0_2 a0_3 = some r) :
  Calls Try.prog 92 #[.agg #[.int .i64 a0_0,.bool a0_1,.int .i64 a0_2,.string a0_3]] w fun e w' => e = .returned (.bool r) ∧ Below w.heap.size w w' := by
 have hu66 := Try.underlying66
 have HB := Aside0.mk (Below.refl w.heap.size w)
 have H : (if a0_0 = 0 then ((value_Null.f).bind fun bt124 => (some (a0_0 == bt124.1 && (a0_1 == bt124.2.1 && (a0_2 == bt124.2.2.1 && (a0_3.toList == bt124.2.2.2.toList)))))) else (if a0_0 = 1 then ((value_Bool.f a0_1).bind fun bt128 => (some (a0_0 == bt128.1 && (a0_1 == bt128.2.1 && (a0_2 == bt128.2.2.1 && (a0_3.toList == bt128.2.2.2.toList)))))) else (if a0_0 = 2 then ((value_Int.f a0_2).bind fun bt132 => (some (a0_0 == bt132.1 && (a0_1 == bt132.2.1 && (a0_2 == bt132.2.2.1 && (a0_3.toList == bt132.2.2.2.toList)))))) else (if a0_0 = 3 then ((value_Text.f a0_3).bind fun bt136 => (if (a0_0 == bt136.1 && (a0_1 == bt136.2.1 && (a0_2 == bt136.2.2.1 && (a0_3.toList == bt136.2.2.2.toList)))) = true then (some (decide ((a0_3.size : Int) ≤ 60))) else (some false))) else (some false))))) = some r := h
 clear h
 by_cases c2 : a0_0 = 0
 ·rw [if_pos c2] at H
  have c2b0 : (a0_0 == 0) = true := beq_iff_eq.mpr c2
  have c2b1 : (a0_0 != 0) = false := bne_eq_false_iff_eq.mpr c2
  clear c2
  replace H := Option.bind_eq_some_iff.mp H
  obtain ⟨⟨t124,t125,t126,t127⟩,A30,H⟩ := H
  replace H : (some (a0_0 == t124 && (a0_1 == t125 && (a0_2 == t126 && (a0_3.toList == t127.toList))))) = some r := H
  have A3 := Aside0.mk A30
  clear A30
  obtain rfl := Option.some.inj H
  go_enter Try.func92,Try.ntmps92
  try go_wp2_with (first | ((with_reducible refine q0p (N := 1) rfl ?_);(try (refine gate_guard (by rfl) ?_;dsimp only));refine q0o ?hg (N := 1) ?hd (cs := #[.int .i64 a0_0,.bool a0_1,.int .i64 a0_2,.string a0_3]) (t := 66) ?hr ?_;(case hd => rfl);(case hg => rfl);(case hr => first | (go_simp;done) | (go_simp;rfl));intro gb123 hg w4 hbox hb;have n0_ := Aside0.mk (q0n (by repeat (first | (with_reducible first | exact HB.out | apply q0b | apply q0a | apply q0c) | exact HB.out)) hb);have n1_ := Aside0.mk (hbox);have n2_ := Aside0.mk ((by rw [hg];exact (q0g (by repeat (first | (with_reducible first | exact HB.out | apply q0b | apply q0a | apply q0c) | exact HB.out))) : w.heap.size ≤ gb123));have n3_ := Aside0.mk ((by rw [hg];exact (q0g (by repeat (first | (with_reducible first | exact HB.out | apply q0b | apply q0a | apply q0c) | exact HB.out))) : w.heap.size ≤ gb123));clear HB;have HB := n0_;have BK123 := n1_;have GW123 := n2_;have GE123 := n3_;clear n0_ n1_ n2_ n3_;clear hb hbox hg;have hcz5_0 : w4.cell? ⟨gb123,0,none⟩ = some (.int .i64 a0_0) := (q0d BK123.out 0).trans rfl;have hcz5_1 : w4.cell? ⟨gb123,1,none⟩ = some (.bool a0_1) := (q0d BK123.out 1).trans rfl;have hcz5_2 : w4.cell? ⟨gb123,2,none⟩ = some (.int .i64 a0_2) := (q0d BK123.out 2).trans rfl;have hcz5_3 : w4.cell? ⟨gb123,3,none⟩ = some (.string a0_3) := (q0d BK123.out 3).trans rfl;have hfz5_0 := q0e BK123.out 0;have hfz5_1 := q0e BK123.out 1;have hfz5_2 := q0e BK123.out 2;have hfz5_3 := q0e BK123.out 3))
  have n0_ := Aside0.mk (q0k BK123.out)
  have n1_ := Aside0.mk (q0c HB.out)
  clear BK123
  clear HB
  have BK123 := n0_
  have HB := n1_
  clear n0_ n1_
  refine start_ (n := 4) (S := fun w' => w'.cell? ⟨gb123,0,none⟩ = some (.int .i64 a0_0) ∧ w'.cell? ⟨gb123,1,none⟩ = some (.bool a0_1) ∧ w'.cell? ⟨gb123,2,none⟩ = some (.int .i64 a0_2) ∧ w'.cell? ⟨gb123,3,none⟩ = some (.string a0_3)) (ds := []) #[false,false,false,false] (by kernel_rfl) rfl rfl ⟨(q0d BK123.out 0).trans rfl,(q0d BK123.out 1).trans rfl,(q0d BK123.out 2).trans rfl,(q0d BK123.out 3).trans rfl⟩ (fun hHeld => ?_)
  generalize w4.drew = w6 at BK123 HB hHeld ⊢
  refine take_ (i := 0) (N := some 7) (v := ?_) (a' := ?_) #[true,false,false,false] rfl rfl (by kernel_rfl) (fun _ _ _ h => h) (Or.inl ⟨by rfl,?_⟩) hHeld ?_ ?_
  rotate_left
  ·rintro w' ⟨s0,s1,s2,s3⟩
   go_simp
   with_reducible rfl
  rotate_left
  ·simp only [Act.put,zA,zB,zC,i64_w,i32_w]
   rfl
  refine one_ (i := 1) (N := some 8) #[true,true,false,false] rfl rfl (by kernel_rfl) (by decide) (fun K hK => ?_)
  refine goes_ Try.func106 (by kernel_rfl) rfl #[] (by rfl) rfl rfl (by (try simp only [List.map_toArray,List.map_cons,List.map_nil]);first | done | rfl | (simp only [List.length_drop,List.length_take];rfl)) ?_
  with_reducible refine (value_Null.calls  t124 t125 t126 t127 _ A3.out).mono ?_
  rintro e w7 ⟨rfl,hb⟩
  refine ⟨_,rfl,?_⟩
  have n0_ := Aside0.mk (q0s (g := gb123) (o := .cells #[.int .i64 a0_0,.bool a0_1,.int .i64 a0_2,.string a0_3] 66 (0,0)) (by (with_reducible repeat (first | refine q0j ?_ _ | refine q0k ?_ | refine q0h ?_ _));exact BK123.out) hb)
  have n1_ := Aside0.mk (q0n (by repeat (first | (with_reducible first | exact HB.out | apply q0b | apply q0a | apply q0c | refine q0i ?_ GE123.out) | exact HB.out)) hb)
  clear BK123
  clear HB
  have BK123 := n0_
  have HB := n1_
  clear n0_ n1_
  (try clear hb)
  (try clear hb2)
  (try clear hk)
  (try clear hi)
  refine hK.out _ _ ⟨(q0d BK123.out 0).trans rfl,(q0d BK123.out 1).trans rfl,(q0d BK123.out 2).trans rfl,(q0d BK123.out 3).trans rfl⟩ (fun hHeld => ?_)
  clear hK K
  refine norm_ (a' := ?_) ?_ ?_
  rotate_left
  ·show Act.put _ (some 8) _ = _
   simp only [Act.put,zA,zB,zC,i64_w,i32_w]
   rfl
  refine pure_ (i := 2) (N := some 9) (v := ?_) (a' := ?_) #[true,true,true,false] rfl rfl (by kernel_rfl) (fun _ _ _ h => h) (Or.inl ⟨by rfl,?_⟩) ?_ ?_
  rotate_left
  ·intro w'
   go_simp
   with_reducible rfl
  rotate_left
  ·simp only [Act.put,zA,zB,zC,i64_w,i32_w]
   rfl
  refine pure_ (i := 3) (N := some 2) (v := ?_) (a' := ?_) #[true,true,true,true] rfl rfl (by kernel_rfl) (fun _ _ _ h => h) (Or.inl ⟨by rfl,?_⟩) ?_ ?_
  rotate_left
  ·intro w'
   go_simp
   with_reducible rfl
  rotate_left
  ·simp only [Act.put,zA,zB,zC,i64_w,i32_w]
   rfl
  refine done_ (by kernel_rfl) ?_
  try go_wp2
  go_ret
  exact ⟨by first | rfl | (simp [q0m,q0l] <;> rfl) | (simp [*,q0m,q0l] <;> rfl),by repeat (first | (with_reducible first | exact HB.out | apply q0b | apply q0a | apply q0c | refine q0i ?_ GE123.out) | exact HB.out)⟩
 ·rw [if_neg c2] at H
  have c2b0 : (a0_0 == 0) = false := beq_eq_false_iff_ne.mpr c2
  have c2b1 : (a0_0 != 0) = true := bne_iff_ne.mpr c2
  by_cases c8 : a0_0 = 1
  ·rw [if_pos c8] at H
   have c8b0 : (a0_0 == 1) = true := beq_iff_eq.mpr c8
   have c8b1 : (a0_0 != 1) = false := bne_eq_false_iff_eq.mpr c8
   clear c8
   replace H := Option.bind_eq_some_iff.mp H
   obtain ⟨⟨t128,t129,t130,t131⟩,A90,H⟩ := H
   replace H : (some (a0_0 == t128 && (a0_1 == t129 && (a0_2 == t130 && (a0_3.toList == t131.toList))))) = some r := H
   have A9 := Aside0.mk A90
   clear A90
   obtain rfl := Option.some.inj H
   go_enter Try.func92,Try.ntmps92
   try go_wp2_with (first | ((with_reducible refine q0p (N := 1) rfl ?_);(try (refine gate_guard (by rfl) ?_;dsimp only));refine q0o ?hg (N := 1) ?hd (cs := #[.int .i64 a0_0,.bool a0_1,.int .i64 a0_2,.string a0_3]) (t := 66) ?hr ?_;(case hd => rfl);(case hg => rfl);(case hr => first | (go_simp;done) | (go_simp;rfl));intro gb123 hg w10 hbox hb;have n0_ := Aside0.mk (q0n (by repeat (first | (with_reducible first | exact HB.out | apply q0b | apply q0a | apply q0c) | exact HB.out)) hb);have n1_ := Aside0.mk (hbox);have n2_ := Aside0.mk ((by rw [hg];exact (q0g (by repeat (first | (with_reducible first | exact HB.out | apply q0b | apply q0a | apply q0c) | exact HB.out))) : w.heap.size ≤ gb123));have n3_ := Aside0.mk ((by rw [hg];exact (q0g (by repeat (first | (with_reducible first | exact HB.out | apply q0b | apply q0a | apply q0c) | exact HB.out))) : w.heap.size ≤ gb123));clear HB;have HB := n0_;have BK123 := n1_;have GW123 := n2_;have GE123 := n3_;clear n0_ n1_ n2_ n3_;clear hb hbox hg;have hcz11_0 : w10.cell? ⟨gb123,0,none⟩ = some (.int .i64 a0_0) := (q0d BK123.out 0).trans rfl;have hcz11_1 : w10.cell? ⟨gb123,1,none⟩ = some (.bool a0_1) := (q0d BK123.out 1).trans rfl;have hcz11_2 : w10.cell? ⟨gb123,2,none⟩ = some (.int .i64 a0_2) := (q0d BK123.out 2).trans rfl;have hcz11_3 : w10.cell? ⟨gb123,3,none⟩ = some (.string a0_3) := (q0d BK123.out 3).trans rfl;have hfz11_0 := q0e BK123.out 0;have hfz11_1 := q0e BK123.out 1;have hfz11_2 := q0e BK123.out 2;have hfz11_3 := q0e BK123.out 3))
   have n0_ := Aside0.mk (q0k BK123.out)
   have n1_ := Aside0.mk (q0c HB.out)
   clear BK123
   clear HB
   have BK123 := n0_
   have HB := n1_
   clear n0_ n1_
   refine start_ (n := 6) (S := fun w' => w'.cell? ⟨gb123,0,none⟩ = some (.int .i64 a0_0) ∧ w'.cell? ⟨gb123,1,none⟩ = some (.bool a0_1) ∧ w'.cell? ⟨gb123,2,none⟩ = some (.int .i64 a0_2) ∧ w'.cell? ⟨gb123,3,none⟩ = some (.string a0_3)) (ds := []) #[false,false,false,false,false,false] (by kernel_rfl) rfl rfl ⟨(q0d BK123.out 0).trans rfl,(q0d BK123.out 1).trans rfl,(q0d BK123.out 2).trans rfl,(q0d BK123.out 3).trans rfl⟩ (fun hHeld => ?_)
   generalize w10.drew = w12 at BK123 HB hHeld ⊢
   refine pure_ (i := 1) (N := some 13) (v := ?_) (a' := ?_) #[false,true,false,false,false,false] rfl rfl (by kernel_rfl) (fun _ _ _ h => h) (Or.inl ⟨by rfl,?_⟩) ?_ ?_
   rotate_left
   ·intro w'
    go_simp
    with_reducible rfl
   rotate_left
   ·simp only [Act.put,zA,zB,zC,i64_w,i32_w]
    rfl
   refine take_ (i := 0) (N := some 12) (v := ?_) (a' := ?_) #[true,true,false,false,false,false] rfl rfl (by kernel_rfl) (fun _ _ _ h => h) (Or.inl ⟨by rfl,?_⟩) hHeld ?_ ?_
   rotate_left
   ·rintro w' ⟨s0,s1,s2,s3⟩
    go_simp
    with_reducible rfl
   rotate_left
   ·simp only [Act.put,zA,zB,zC,i64_w,i32_w]
    rfl
   refine take_ (i := 2) (N := some 14) (v := ?_) (a' := ?_) #[true,true,true,false,false,false] rfl rfl (by kernel_rfl) (fun _ _ _ h => h) (Or.inl ⟨by rfl,?_⟩) hHeld ?_ ?_
   rotate_left
   ·rintro w' ⟨s0,s1,s2,s3⟩
    go_simp
    with_reducible rfl
   rotate_left
   ·simp only [Act.put,zA,zB,zC,i64_w,i32_w]
    rfl
   refine one_ (i := 3) (N := some 15) #[true,true,true,true,false,false] rfl rfl (by kernel_rfl) (by decide) (fun K hK => ?_)
   refine goes_ Try.func107 (by kernel_rfl) rfl #[.bool a0_1] (by rfl) rfl rfl (by (try simp only [List.map_toArray,List.map_cons,List.map_nil]);first | done | rfl | (simp only [List.length_drop,List.length_take];rfl)) ?_
   with_reducible refine (value_Bool.calls a0_1 t128 t129 t130 t131 _ A9.out).mono ?_
   rintro e w13 ⟨rfl,hb⟩
   refine ⟨_,rfl,?_⟩
   have n0_ := Aside0.mk (q0s (g := gb123) (o := .cells #[.int .i64 a0_0,.bool a0_1,.int .i64 a0_2,.string a0_3] 66 (0,0)) (by (with_reducible repeat (first | refine q0j ?_ _ | refine q0k ?_ | refine q0h ?_ _));exact BK123.out) hb)
   have n1_ := Aside0.mk (q0n (by repeat (first | (with_reducible first | exact HB.out | apply q0b | apply q0a | apply q0c | refine q0i ?_ GE123.out) | exact HB.out)) hb)
   clear BK123
   clear HB
   have BK123 := n0_
   have HB := n1_
   clear n0_ n1_
   (try clear hb)
   (try clear hb2)
   (try clear hk)
   (try clear hi)
   refine hK.out _ _ ⟨(q0d BK123.out 0).trans rfl,(q0d BK123.out 1).trans rfl,(q0d BK123.out 2).trans rfl,(q0d BK123.out 3).trans rfl⟩ (fun hHeld => ?_)
   clear hK K
   refine norm_ (a' := ?_) ?_ ?_
   rotate_left
   ·show Act.put _ (some 15) _ = _
    simp only [Act.put,zA,zB,zC,i64_w,i32_w]
    rfl
   refine pure_ (i := 4) (N := some 16) (v := ?_) (a' := ?_) #[true,true,true,true,true,false] rfl rfl (by kernel_rfl) (fun _ _ _ h => h) (Or.inl ⟨by rfl,?_⟩) ?_ ?_
   rotate_left
   ·intro w'
    go_simp
    with_reducible rfl
   rotate_left
   ·simp only [Act.put,zA,zB,zC,i64_w,i32_w]
    rfl
   refine pure_ (i := 5) (N := some 2) (v := ?_) (a' := ?_) #[true,true,true,true,true,true] rfl rfl (by kernel_rfl) (fun _ _ _ h => h) (Or.inl ⟨by rfl,?_⟩) ?_ ?_
   rotate_left
   ·intro w'
    go_simp
    with_reducible rfl
   rotate_left
   ·simp only [Act.put,zA,zB,zC,i64_w,i32_w]
    rfl
   refine done_ (by kernel_rfl) ?_
   try go_wp2
   go_ret
   exact ⟨by first | rfl | (simp [q0m,q0l] <;> rfl) | (simp [*,q0m,q0l] <;> rfl),by repeat (first | (with_reducible first | exact HB.out | apply q0b | apply q0a | apply q0c | refine q0i ?_ GE123.out) | exact HB.out)⟩
  ·rw [if_neg c8] at H
   have c8b0 : (a0_0 == 1) = false := beq_eq_false_iff_ne.mpr c8
   have c8b1 : (a0_0 != 1) = true := bne_iff_ne.mpr c8
   by_cases c14 : a0_0 = 2
   ·rw [if_pos c14] at H
    have c14b0 : (a0_0 == 2) = true := beq_iff_eq.mpr c14
    have c14b1 : (a0_0 != 2) = false := bne_eq_false_iff_eq.mpr c14
    clear c14
    replace H := Option.bind_eq_some_iff.mp H
    obtain ⟨⟨t132,t133,t134,t135⟩,A150,H⟩ := H
    replace H : (some (a0_0 == t132 && (a0_1 == t133 && (a0_2 == t134 && (a0_3.toList == t135.toList))))) = some r := H
    have A15 := Aside0.mk A150
    clear A150
    obtain rfl := Option.some.inj H
    go_enter Try.func92,Try.ntmps92
    try go_wp2_with (first | ((with_reducible refine q0p (N := 1) rfl ?_);(try (refine gate_guard (by rfl) ?_;dsimp only));refine q0o ?hg (N := 1) ?hd (cs := #[.int .i64 a0_0,.bool a0_1,.int .i64 a0_2,.string a0_3]) (t := 66) ?hr ?_;(case hd => rfl);(case hg => rfl);(case hr => first | (go_simp;done) | (go_simp;rfl));intro gb123 hg w16 hbox hb;have n0_ := Aside0.mk (q0n (by repeat (first | (with_reducible first | exact HB.out | apply q0b | apply q0a | apply q0c) | exact HB.out)) hb);have n1_ := Aside0.mk (hbox);have n2_ := Aside0.mk ((by rw [hg];exact (q0g (by repeat (first | (with_reducible first | exact HB.out | apply q0b | apply q0a | apply q0c) | exact HB.out))) : w.heap.size ≤ gb123));have n3_ := Aside0.mk ((by rw [hg];exact (q0g (by repeat (first | (with_reducible first | exact HB.out | apply q0b | apply q0a | apply q0c) | exact HB.out))) : w.heap.size ≤ gb123));clear HB;have HB := n0_;have BK123 := n1_;have GW123 := n2_;have GE123 := n3_;clear n0_ n1_ n2_ n3_;clear hb hbox hg;have hcz17_0 : w16.cell? ⟨gb123,0,none⟩ = some (.int .i64 a0_0) := (q0d BK123.out 0).trans rfl;have hcz17_1 : w16.cell? ⟨gb123,1,none⟩ = some (.bool a0_1) := (q0d BK123.out 1).trans rfl;have hcz17_2 : w16.cell? ⟨gb123,2,none⟩ = some (.int .i64 a0_2) := (q0d BK123.out 2).trans rfl;have hcz17_3 : w16.cell? ⟨gb123,3,none⟩ = some (.string a0_3) := (q0d BK123.out 3).trans rfl;have hfz17_0 := q0e BK123.out 0;have hfz17_1 := q0e BK123.out 1;have hfz17_2 := q0e BK123.out 2;have hfz17_3 := q0e BK123.out 3))
    have n0_ := Aside0.mk (q0k BK123.out)
    have n1_ := Aside0.mk (q0c HB.out)
    clear BK123
    clear HB
    have BK123 := n0_
    have HB := n1_
    clear n0_ n1_
    refine start_ (n := 6) (S := fun w' => w'.cell? ⟨gb123,0,none⟩ = some (.int .i64 a0_0) ∧ w'.cell? ⟨gb123,1,none⟩ = some (.bool a0_1) ∧ w'.cell? ⟨gb123,2,none⟩ = some (.int .i64 a0_2) ∧ w'.cell? ⟨gb123,3,none⟩ = some (.string a0_3)) (ds := []) #[false,false,false,false,false,false] (by kernel_rfl) rfl rfl ⟨(q0d BK123.out 0).trans rfl,(q0d BK123.out 1).trans rfl,(q0d BK123.out 2).trans rfl,(q0d BK123.out 3).trans rfl⟩ (fun hHeld => ?_)
    generalize w16.drew = w18 at BK123 HB hHeld ⊢
    refine pure_ (i := 1) (N := some 20) (v := ?_) (a' := ?_) #[false,true,false,false,false,false] rfl rfl (by kernel_rfl) (fun _ _ _ h => h) (Or.inl ⟨by rfl,?_⟩) ?_ ?_
    rotate_left
    ·intro w'
     go_simp
     with_reducible rfl
    rotate_left
    ·simp only [Act.put,zA,zB,zC,i64_w,i32_w]
     rfl
    refine take_ (i := 0) (N := some 19) (v := ?_) (a' := ?_) #[true,true,false,false,false,false] rfl rfl (by kernel_rfl) (fun _ _ _ h => h) (Or.inl ⟨by rfl,?_⟩) hHeld ?_ ?_
    rotate_left
    ·rintro w' ⟨s0,s1,s2,s3⟩
     go_simp
     with_reducible rfl
    rotate_left
    ·simp only [Act.put,zA,zB,zC,i64_w,i32_w]
     rfl
    refine take_ (i := 2) (N := some 21) (v := ?_) (a' := ?_) #[true,true,true,false,false,false] rfl rfl (by kernel_rfl) (fun _ _ _ h => h) (Or.inl ⟨by rfl,?_⟩) hHeld ?_ ?_
    rotate_left
    ·rintro w' ⟨s0,s1,s2,s3⟩
     go_simp
     with_reducible rfl
    rotate_left
    ·simp only [Act.put,zA,zB,zC,i64_w,i32_w]
     rfl
    refine one_ (i := 3) (N := some 22) #[true,true,true,true,false,false] rfl rfl (by kernel_rfl) (by decide) (fun K hK => ?_)
    refine goes_ Try.func108 (by kernel_rfl) rfl #[.int .i64 a0_2] (by rfl) rfl rfl (by (try simp only [List.map_toArray,List.map_cons,List.map_nil]);first | done | rfl | (simp only [List.length_drop,List.length_take];rfl)) ?_
    with_reducible refine (value_Int.calls a0_2 t132 t133 t134 t135 _ A15.out).mono ?_
    rintro e w19 ⟨rfl,hb⟩
    refine ⟨_,rfl,?_⟩
    have n0_ := Aside0.mk (q0s (g := gb123) (o := .cells #[.int .i64 a0_0,.bool a0_1,.int .i64 a0_2,.string a0_3] 66 (0,0)) (by (with_reducible repeat (first | refine q0j ?_ _ | refine q0k ?_ | refine q0h ?_ _));exact BK123.out) hb)
    have n1_ := Aside0.mk (q0n (by repeat (first | (with_reducible first | exact HB.out | apply q0b | apply q0a | apply q0c | refine q0i ?_ GE123.out) | exact HB.out)) hb)
    clear BK123
    clear HB
    have BK123 := n0_
    have HB := n1_
    clear n0_ n1_
    (try clear hb)
    (try clear hb2)
    (try clear hk)
    (try clear hi)
    refine hK.out _ _ ⟨(q0d BK123.out 0).trans rfl,(q0d BK123.out 1).trans rfl,(q0d BK123.out 2).trans rfl,(q0d BK123.out 3).trans rfl⟩ (fun hHeld => ?_)
    clear hK K
    refine norm_ (a' := ?_) ?_ ?_
    rotate_left
    ·show Act.put _ (some 22) _ = _
     simp only [Act.put,zA,zB,zC,i64_w,i32_w]
     rfl
    refine pure_ (i := 4) (N := some 23) (v := ?_) (a' := ?_) #[true,true,true,true,true,false] rfl rfl (by kernel_rfl) (fun _ _ _ h => h) (Or.inl ⟨by rfl,?_⟩) ?_ ?_
    rotate_left
    ·intro w'
     go_simp
     with_reducible rfl
    rotate_left
    ·simp only [Act.put,zA,zB,zC,i64_w,i32_w]
     rfl
    refine pure_ (i := 5) (N := some 2) (v := ?_) (a' := ?_) #[true,true,true,true,true,true] rfl rfl (by kernel_rfl) (fun _ _ _ h => h) (Or.inl ⟨by rfl,?_⟩) ?_ ?_
    rotate_left
    ·intro w'
     go_simp
     with_reducible rfl
    rotate_left
    ·simp only [Act.put,zA,zB,zC,i64_w,i32_w]
     rfl
    refine done_ (by kernel_rfl) ?_
    try go_wp2
    go_ret
    exact ⟨by first | rfl | (simp [q0m,q0l] <;> rfl) | (simp [*,q0m,q0l] <;> rfl),by repeat (first | (with_reducible first | exact HB.out | apply q0b | apply q0a | apply q0c | refine q0i ?_ GE123.out) | exact HB.out)⟩
   ·rw [if_neg c14] at H
    have c14b0 : (a0_0 == 2) = false := beq_eq_false_iff_ne.mpr c14
    have c14b1 : (a0_0 != 2) = true := bne_iff_ne.mpr c14
    by_cases c20 : a0_0 = 3
    ·rw [if_pos c20] at H
     have c20b0 : (a0_0 == 3) = true := beq_iff_eq.mpr c20
     have c20b1 : (a0_0 != 3) = false := bne_eq_false_iff_eq.mpr c20
     clear c20
     replace H := Option.bind_eq_some_iff.mp H
     obtain ⟨⟨t136,t137,t138,t139⟩,A210,H⟩ := H
     replace H : (if (a0_0 == t136 && (a0_1 == t137 && (a0_2 == t138 && (a0_3.toList == t139.toList)))) = true then (some (decide ((a0_3.size : Int) ≤ 60))) else (some false)) = some r := H
     have A21 := Aside0.mk A210
     clear A210
     by_cases c22 : (a0_0 == t136 && (a0_1 == t137 && (a0_2 == t138 && (a0_3.toList == t139.toList)))) = true
     ·rw [if_pos c22] at H
      have c22b0 : (a0_0 == t136 && (a0_1 == t137 && (a0_2 == t138 && (a0_3.toList == t139.toList)))) = true := c22
      (try (have c22b1 : decide (a0_0 = t136 && (a0_1 == t137 && (a0_2 == t138 && (a0_3.toList == t139.toList)))) = true := by simpa using c22))
      (try (have c22b2 : (a0_0 == t136 && (a0_1 == t137 && (a0_2 == t138 && (a0_3.toList == t139.toList)))) = true := by simpa using c22))
      clear c22
      obtain rfl := Option.some.inj H
      go_enter Try.func92,Try.ntmps92
      try go_wp2_with (first | ((with_reducible refine q0p (N := 1) rfl ?_);(try (refine gate_guard (by rfl) ?_;dsimp only));refine q0o ?hg (N := 1) ?hd (cs := #[.int .i64 a0_0,.bool a0_1,.int .i64 a0_2,.string a0_3]) (t := 66) ?hr ?_;(case hd => rfl);(case hg => rfl);(case hr => first | (go_simp;done) | (go_simp;rfl));intro gb123 hg w23 hbox hb;have n0_ := Aside0.mk (q0n (by repeat (first | (with_reducible first | exact HB.out | apply q0b | apply q0a | apply q0c) | exact HB.out)) hb);have n1_ := Aside0.mk (hbox);have n2_ := Aside0.mk ((by rw [hg];exact (q0g (by repeat (first | (with_reducible first | exact HB.out | apply q0b | apply q0a | apply q0c) | exact HB.out))) : w.heap.size ≤ gb123));have n3_ := Aside0.mk ((by rw [hg];exact (q0g (by repeat (first | (with_reducible first | exact HB.out | apply q0b | apply q0a | apply q0c) | exact HB.out))) : w.heap.size ≤ gb123));clear HB;have HB := n0_;have BK123 := n1_;have GW123 := n2_;have GE123 := n3_;clear n0_ n1_ n2_ n3_;clear hb hbox hg;have hcz24_0 : w23.cell? ⟨gb123,0,none⟩ = some (.int .i64 a0_0) := (q0d BK123.out 0).trans rfl;have hcz24_1 : w23.cell? ⟨gb123,1,none⟩ = some (.bool a0_1) := (q0d BK123.out 1).trans rfl;have hcz24_2 : w23.cell? ⟨gb123,2,none⟩ = some (.int .i64 a0_2) := (q0d BK123.out 2).trans rfl;have hcz24_3 : w23.cell? ⟨gb123,3,none⟩ = some (.string a0_3) := (q0d BK123.out 3).trans rfl;have hfz24_0 := q0e BK123.out 0;have hfz24_1 := q0e BK123.out 1;have hfz24_2 := q0e BK123.out 2;have hfz24_3 := q0e BK123.out 3))
      have n0_ := Aside0.mk (q0k BK123.out)
      have n1_ := Aside0.mk (q0c HB.out)
      clear BK123
      clear HB
      have BK123 := n0_
      have HB := n1_
      clear n0_ n1_
      refine start_ (n := 12) (S := fun w' => w'.cell? ⟨gb123,0,none⟩ = some (.int .i64 a0_0) ∧ w'.cell? ⟨gb123,1,none⟩ = some (.bool a0_1) ∧ w'.cell? ⟨gb123,2,none⟩ = some (.int .i64 a0_2) ∧ w'.cell? ⟨gb123,3,none⟩ = some (.string a0_3)) (ds := []) #[false,false,false,false,false,false,false,false,false,false,false,false] (by kernel_rfl) rfl rfl ⟨(q0d BK123.out 0).trans rfl,(q0d BK123.out 1).trans rfl,(q0d BK123.out 2).trans rfl,(q0d BK123.out 3).trans rfl⟩ (fun hHeld => ?_);refine with_tabW value_Right.tab9 value_Right.bits9 (fun HT_ HW_ => ?_)
      generalize w23.drew = w25 at BK123 HB hHeld ⊢
      refine pure_ (i := 1) (N := some 27) (v := ?_) (a' := ?_) #[false,true,false,false,false,false,false,false,false,false,false,false] rfl rfl (q0q HT_.out (by kernel_rfl)) (fun _ _ _ h => h) (Or.inl ⟨by rfl,?_⟩) ?_ ?_
      rotate_left
      ·intro w'
       go_simp
       with_reducible rfl
      rotate_left
      ·simp only [Act.put,zA,zB,zC,i64_w,i32_w]
       rfl
      refine take_ (i := 0) (N := some 26) (v := ?_) (a' := ?_) #[true,true,false,false,false,false,false,false,false,false,false,false] rfl rfl (take_ofW HT_.out HW_.out (by kernel_rfl)) (fun _ _ _ h => h) (Or.inl ⟨by rfl,?_⟩) hHeld ?_ ?_
      rotate_left
      ·rintro w' ⟨s0,s1,s2,s3⟩
       go_simp
       with_reducible rfl
      rotate_left
      ·simp only [Act.put,zA,zB,zC,i64_w,i32_w]
       rfl
      refine take_ (i := 2) (N := some 28) (v := ?_) (a' := ?_) #[true,true,true,false,false,false,false,false,false,false,false,false] rfl rfl (take_ofW HT_.out HW_.out (by kernel_rfl)) (fun _ _ _ h => h) (Or.inl ⟨by rfl,?_⟩) hHeld ?_ ?_
      rotate_left
      ·rintro w' ⟨s0,s1,s2,s3⟩
       go_simp
       with_reducible rfl
      rotate_left
      ·simp only [Act.put,zA,zB,zC,i64_w,i32_w]
       rfl
      refine one_ (i := 3) (N := some 29) #[true,true,true,true,false,false,false,false,false,false,false,false] rfl rfl (one_of HT_.out (by kernel_rfl)) (by decide) (fun K hK => ?_)
      refine goes_ Try.func109 (by kernel_rfl) rfl #[.string a0_3] (by rfl) rfl rfl (by (try simp only [List.map_toArray,List.map_cons,List.map_nil]);first | done | rfl | (simp only [List.length_drop,List.length_take];rfl)) ?_
      with_reducible refine (value_Text.calls a0_3 t136 t137 t138 t139 _ A21.out).mono ?_
      rintro e w26 ⟨rfl,hb⟩
      refine ⟨_,rfl,?_⟩
      have n0_ := Aside0.mk (q0s (g := gb123) (o := .cells #[.int .i64 a0_0,.bool a0_1,.int .i64 a0_2,.string a0_3] 66 (0,0)) (by (with_reducible repeat (first | refine q0j ?_ _ | refine q0k ?_ | refine q0h ?_ _));exact BK123.out) hb)
      have n1_ := Aside0.mk (q0n (by repeat (first | (with_reducible first | exact HB.out | apply q0b | apply q0a | apply q0c | refine q0i ?_ GE123.out) | exact HB.out)) hb)
      clear BK123
      clear HB
      have BK123 := n0_
      have HB := n1_
      clear n0_ n1_
      (try clear hb)
      (try clear hb2)
      (try clear hk)
      (try clear hi)
      refine hK.out _ _ ⟨(q0d BK123.out 0).trans rfl,(q0d BK123.out 1).trans rfl,(q0d BK123.out 2).trans rfl,(q0d BK123.out 3).trans rfl⟩ (fun hHeld => ?_)
      clear hK K
      refine norm_ (a' := ?_) ?_ ?_
      rotate_left
      ·show Act.put _ (some 29) _ = _
       simp only [Act.put,zA,zB,zC,i64_w,i32_w]
       rfl
      refine pure_ (i := 4) (N := some 30) (v := ?_) (a' := ?_) #[true,true,true,true,true,false,false,false,false,false,false,false] rfl rfl (q0q HT_.out (by kernel_rfl)) (fun _ _ _ h => h) (Or.inl ⟨by rfl,?_⟩) ?_ ?_
      rotate_left
      ·intro w'
       go_simp
       with_reducible rfl
      rotate_left
      ·simp only [Act.put,zA,zB,zC,i64_w,i32_w]
       rfl
      refine pure_ (i := 5) (N := some 31) (v := ?_) (a' := ?_) #[true,true,true,true,true,true,false,false,false,false,false,false] rfl rfl (q0q HT_.out (by kernel_rfl)) (fun _ _ _ h => h) (Or.inl ⟨by rfl,?_⟩) ?_ ?_
      rotate_left
      ·intro w'
       go_simp
       with_reducible rfl
      rotate_left
      ·simp only [Act.put,zA,zB,zC,i64_w,i32_w]
       rfl
      refine pure_ (i := 6) (N := some 32) (v := ?_) (a' := ?_) #[true,true,true,true,true,true,true,false,false,false,false,false] rfl rfl (q0q HT_.out (by kernel_rfl)) (fun _ _ _ h => h) (Or.inl ⟨by rfl,?_⟩) ?_ ?_
      rotate_left
      ·intro w'
       go_simp
       with_reducible rfl
      rotate_left
      ·simp only [Act.put,zA,zB,zC,i64_w,i32_w]
       rfl
      refine take_ (i := 7) (N := some 33) (v := ?_) (a' := ?_) #[true,true,true,true,true,true,true,true,false,false,false,false] rfl rfl (take_ofW HT_.out HW_.out (by kernel_rfl)) (fun _ _ _ h => h) (Or.inl ⟨by rfl,?_⟩) hHeld ?_ ?_
      rotate_left
      ·rintro w' ⟨s0,s1,s2,s3⟩
       go_simp
       with_reducible rfl
      rotate_left
      ·simp only [Act.put,zA,zB,zC,i64_w,i32_w]
       rfl
      refine pure_ (i := 8) (N := some 34) (v := ?_) (a' := ?_) #[true,true,true,true,true,true,true,true,true,false,false,false] rfl rfl (q0q HT_.out (by kernel_rfl)) (fun _ _ _ h => h) (Or.inl ⟨by rfl,?_⟩) ?_ ?_
      rotate_left
      ·intro w'
       go_simp
       with_reducible rfl
      rotate_left
      ·simp only [Act.put,zA,zB,zC,i64_w,i32_w]
       rfl
      refine pure_ (i := 9) (N := some 35) (v := ?_) (a' := ?_) #[true,true,true,true,true,true,true,true,true,true,false,false] rfl rfl (q0q HT_.out (by kernel_rfl)) (fun _ _ _ h => h) (Or.inl ⟨by rfl,?_⟩) ?_ ?_
      rotate_left
      ·intro w'
       go_simp
       with_reducible rfl
      rotate_left
      ·simp only [Act.put,zA,zB,zC,i64_w,i32_w]
       rfl
      refine pure_ (i := 10) (N := some 36) (v := ?_) (a' := ?_) #[true,true,true,true,true,true,true,true,true,true,true,false] rfl rfl (q0q HT_.out (by kernel_rfl)) (fun _ _ _ h => h) (Or.inl ⟨by rfl,?_⟩) ?_ ?_
      rotate_left
      ·intro w'
       go_simp
       with_reducible rfl
      rotate_left
      ·simp only [Act.put,zA,zB,zC,i64_w,i32_w]
       rfl
      refine pure_ (i := 11) (N := some 2) (v := ?_) (a' := ?_) #[true,true,true,true,true,true,true,true,true,true,true,true] rfl rfl (q0q HT_.out (by kernel_rfl)) (fun _ _ _ h => h) (Or.inl ⟨by rfl,?_⟩) ?_ ?_
      rotate_left
      ·intro w'
       go_simp
       with_reducible rfl
      rotate_left
      ·simp only [Act.put,zA,zB,zC,i64_w,i32_w]
       rfl
      refine done_ (done_of HT_.out (by kernel_rfl)) ?_
      try go_wp2
      go_ret
      exact ⟨by first | rfl | (simp [q0m,q0l] <;> rfl) | (simp [*,q0m,q0l] <;> rfl),by repeat (first | (with_reducible first | exact HB.out | apply q0b | apply q0a | apply q0c | refine q0i ?_ GE123.out) | exact HB.out)⟩
     ·rw [if_neg c22] at H
      have c22b0 : (a0_0 == t136 && (a0_1 == t137 && (a0_2 == t138 && (a0_3.toList == t139.toList)))) = false := by simpa using c22
      (try (have c22b1 : decide (a0_0 = t136 && (a0_1 == t137 && (a0_2 == t138 && (a0_3.toList == t139.toList)))) = false := by simpa using c22))
      (try (have c22b2 : (a0_0 == t136 && (a0_1 == t137 && (a0_2 == t138 && (a0_3.toList == t139.toList)))) = false := by simpa using c22))
      (try (have c22b3 : ¬ (a0_0 = t136 && (a0_1 == t137 && (a0_2 == t138 && (a0_3.toList == t139.toList)))) := by simpa using c22))
      clear c22
      obtain rfl := Option.some.inj H
      go_enter Try.func92,Try.ntmps92
      try go_wp2_with (first | ((with_reducible refine q0p (N := 1) rfl ?_);(try (refine gate_guard (by rfl) ?_;dsimp only));refine q0o ?hg (N := 1) ?hd (cs := #[.int .i64 a0_0,.bool a0_1,.int .i64 a0_2,.string a0_3]) (t := 66) ?hr ?_;(case hd => rfl);(case hg => rfl);(case hr => first | (go_simp;done) | (go_simp;rfl));intro gb123 hg w27 hbox hb;have n0_ := Aside0.mk (q0n (by repeat (first | (with_reducible first | exact HB.out | apply q0b | apply q0a | apply q0c) | exact HB.out)) hb);have n1_ := Aside0.mk (hbox);have n2_ := Aside0.mk ((by rw [hg];exact (q0g (by repeat (first | (with_reducible first | exact HB.out | apply q0b | apply q0a | apply q0c) | exact HB.out))) : w.heap.size ≤ gb123));have n3_ := Aside0.mk ((by rw [hg];exact (q0g (by repeat (first | (with_reducible first | exact HB.out | apply q0b | apply q0a | apply q0c) | exact HB.out))) : w.heap.size ≤ gb123));clear HB;have HB := n0_;have BK123 := n1_;have GW123 := n2_;have GE123 := n3_;clear n0_ n1_ n2_ n3_;clear hb hbox hg;have hcz28_0 : w27.cell? ⟨gb123,0,none⟩ = some (.int .i64 a0_0) := (q0d BK123.out 0).trans rfl;have hcz28_1 : w27.cell? ⟨gb123,1,none⟩ = some (.bool a0_1) := (q0d BK123.out 1).trans rfl;have hcz28_2 : w27.cell? ⟨gb123,2,none⟩ = some (.int .i64 a0_2) := (q0d BK123.out 2).trans rfl;have hcz28_3 : w27.cell? ⟨gb123,3,none⟩ = some (.string a0_3) := (q0d BK123.out 3).trans rfl;have hfz28_0 := q0e BK123.out 0;have hfz28_1 := q0e BK123.out 1;have hfz28_2 := q0e BK123.out 2;have hfz28_3 := q0e BK123.out 3))
      have n0_ := Aside0.mk (q0k BK123.out)
      have n1_ := Aside0.mk (q0c HB.out)
      clear BK123
      clear HB
      have BK123 := n0_
      have HB := n1_
      clear n0_ n1_
      refine start_ (n := 12) (S := fun w' => w'.cell? ⟨gb123,0,none⟩ = some (.int .i64 a0_0) ∧ w'.cell? ⟨gb123,1,none⟩ = some (.bool a0_1) ∧ w'.cell? ⟨gb123,2,none⟩ = some (.int .i64 a0_2) ∧ w'.cell? ⟨gb123,3,none⟩ = some (.string a0_3)) (ds := []) #[false,false,false,false,false,false,false,false,false,false,false,false] (by kernel_rfl) rfl rfl ⟨(q0d BK123.out 0).trans rfl,(q0d BK123.out 1).trans rfl,(q0d BK123.out 2).trans rfl,(q0d BK123.out 3).trans rfl⟩ (fun hHeld => ?_);refine with_tabW value_Right.tab9 value_Right.bits9 (fun HT_ HW_ => ?_)
      generalize w27.drew = w29 at BK123 HB hHeld ⊢
      refine pure_ (i := 1) (N := some 27) (v := ?_) (a' := ?_) #[false,true,false,false,false,false,false,false,false,false,false,false] rfl rfl (q0q HT_.out (by kernel_rfl)) (fun _ _ _ h => h) (Or.inl ⟨by rfl,?_⟩) ?_ ?_
      rotate_left
      ·intro w'
       go_simp
       with_reducible rfl
      rotate_left
      ·simp only [Act.put,zA,zB,zC,i64_w,i32_w]
       rfl
      refine take_ (i := 0) (N := some 26) (v := ?_) (a' := ?_) #[true,true,false,false,false,false,false,false,false,false,false,false] rfl rfl (take_ofW HT_.out HW_.out (by kernel_rfl)) (fun _ _ _ h => h) (Or.inl ⟨by rfl,?_⟩) hHeld ?_ ?_
      rotate_left
      ·rintro w' ⟨s0,s1,s2,s3⟩
       go_simp
       with_reducible rfl
      rotate_left
      ·simp only [Act.put,zA,zB,zC,i64_w,i32_w]
       rfl
      refine take_ (i := 2) (N := some 28) (v := ?_) (a' := ?_) #[true,true,true,false,false,false,false,false,false,false,false,false] rfl rfl (take_ofW HT_.out HW_.out (by kernel_rfl)) (fun _ _ _ h => h) (Or.inl ⟨by rfl,?_⟩) hHeld ?_ ?_
      rotate_left
      ·rintro w' ⟨s0,s1,s2,s3⟩
       go_simp
       with_reducible rfl
      rotate_left
      ·simp only [Act.put,zA,zB,zC,i64_w,i32_w]
       rfl
      refine one_ (i := 3) (N := some 29) #[true,true,true,true,false,false,false,false,false,false,false,false] rfl rfl (one_of HT_.out (by kernel_rfl)) (by decide) (fun K hK => ?_)
      refine goes_ Try.func109 (by kernel_rfl) rfl #[.string a0_3] (by rfl) rfl rfl (by (try simp only [List.map_toArray,List.map_cons,List.map_nil]);first | done | rfl | (simp only [List.length_drop,List.length_take];rfl)) ?_
      with_reducible refine (value_Text.calls a0_3 t136 t137 t138 t139 _ A21.out).mono ?_
      rintro e w30 ⟨rfl,hb⟩
      refine ⟨_,rfl,?_⟩
      have n0_ := Aside0.mk (q0s (g := gb123) (o := .cells #[.int .i64 a0_0,.bool a0_1,.int .i64 a0_2,.string a0_3] 66 (0,0)) (by (with_reducible repeat (first | refine q0j ?_ _ | refine q0k ?_ | refine q0h ?_ _));exact BK123.out) hb)
      have n1_ := Aside0.mk (q0n (by repeat (first | (with_reducible first | exact HB.out | apply q0b | apply q0a | apply q0c | refine q0i ?_ GE123.out) | exact HB.out)) hb)
      clear BK123
      clear HB
      have BK123 := n0_
      have HB := n1_
      clear n0_ n1_
      (try clear hb)
      (try clear hb2)
      (try clear hk)
      (try clear hi)
      refine hK.out _ _ ⟨(q0d BK123.out 0).trans rfl,(q0d BK123.out 1).trans rfl,(q0d BK123.out 2).trans rfl,(q0d BK123.out 3).trans rfl⟩ (fun hHeld => ?_)
      clear hK K
      refine norm_ (a' := ?_) ?_ ?_
      rotate_left
      ·show Act.put _ (some 29) _ = _
       simp only [Act.put,zA,zB,zC,i64_w,i32_w]
       rfl
      refine pure_ (i := 4) (N := some 30) (v := ?_) (a' := ?_) #[true,true,true,true,true,false,false,false,false,false,false,false] rfl rfl (q0q HT_.out (by kernel_rfl)) (fun _ _ _ h => h) (Or.inl ⟨by rfl,?_⟩) ?_ ?_
      rotate_left
      ·intro w'
       go_simp
       with_reducible rfl
      rotate_left
      ·simp only [Act.put,zA,zB,zC,i64_w,i32_w]
       rfl
      refine pure_ (i := 5) (N := some 31) (v := ?_) (a' := ?_) #[true,true,true,true,true,true,false,false,false,false,false,false] rfl rfl (q0q HT_.out (by kernel_rfl)) (fun _ _ _ h => h) (Or.inl ⟨by rfl,?_⟩) ?_ ?_
      rotate_left
      ·intro w'
       go_simp
       with_reducible rfl
      rotate_left
      ·simp only [Act.put,zA,zB,zC,i64_w,i32_w]
       rfl
      refine pure_ (i := 6) (N := some 32) (v := undef) (a' := ?_) #[true,true,true,true,true,true,true,false,false,false,false,false] rfl rfl (q0q HT_.out (by kernel_rfl)) (fun _ _ _ h => h) (Or.inr ⟨by rfl,rfl⟩) ?_ ?_
      rotate_left
      ·simp only [Act.put,zA,zB,zC,i64_w,i32_w]
       rfl
      refine pure_ (i := 7) (N := some 33) (v := undef) (a' := ?_) #[true,true,true,true,true,true,true,true,false,false,false,false] rfl rfl (q0q HT_.out (by kernel_rfl)) (fun _ _ _ h => h) (Or.inr ⟨by rfl,rfl⟩) ?_ ?_
      rotate_left
      ·simp only [Act.put,zA,zB,zC,i64_w,i32_w]
       rfl
      refine pure_ (i := 8) (N := some 34) (v := undef) (a' := ?_) #[true,true,true,true,true,true,true,true,true,false,false,false] rfl rfl (q0q HT_.out (by kernel_rfl)) (fun _ _ _ h => h) (Or.inr ⟨by rfl,rfl⟩) ?_ ?_
      rotate_left
      ·simp only [Act.put,zA,zB,zC,i64_w,i32_w]
       rfl
      refine pure_ (i := 9) (N := some 35) (v := undef) (a' := ?_) #[true,true,true,true,true,true,true,true,true,true,false,false] rfl rfl (q0q HT_.out (by kernel_rfl)) (fun _ _ _ h => h) (Or.inr ⟨by rfl,rfl⟩) ?_ ?_
      rotate_left
      ·simp only [Act.put,zA,zB,zC,i64_w,i32_w]
       rfl
      refine pure_ (i := 10) (N := some 36) (v := ?_) (a' := ?_) #[true,true,true,true,true,true,true,true,true,true,true,false] rfl rfl (q0q HT_.out (by kernel_rfl)) (fun _ _ _ h => h) (Or.inl ⟨by rfl,?_⟩) ?_ ?_
      rotate_left
      ·intro w'
       go_simp
       with_reducible rfl
      rotate_left
      ·simp only [Act.put,zA,zB,zC,i64_w,i32_w]
       rfl
      refine pure_ (i := 11) (N := some 2) (v := ?_) (a' := ?_) #[true,true,true,true,true,true,true,true,true,true,true,true] rfl rfl (q0q HT_.out (by kernel_rfl)) (fun _ _ _ h => h) (Or.inl ⟨by rfl,?_⟩) ?_ ?_
      rotate_left
      ·intro w'
       go_simp
       with_reducible rfl
      rotate_left
      ·simp only [Act.put,zA,zB,zC,i64_w,i32_w]
       rfl
      refine done_ (done_of HT_.out (by kernel_rfl)) ?_
      try go_wp2
      go_ret
      exact ⟨by first | rfl | (simp [q0m,q0l] <;> rfl) | (simp [*,q0m,q0l] <;> rfl),by repeat (first | (with_reducible first | exact HB.out | apply q0b | apply q0a | apply q0c | refine q0i ?_ GE123.out) | exact HB.out)⟩
    ·rw [if_neg c20] at H
     have c20b0 : (a0_0 == 3) = false := beq_eq_false_iff_ne.mpr c20
     have c20b1 : (a0_0 != 3) = true := bne_iff_ne.mpr c20
     obtain rfl := Option.some.inj H
     go_enter Try.func92,Try.ntmps92
     go_wp2_with (first | ((with_reducible refine q0p (N := 1) rfl ?_);(try (refine gate_guard (by rfl) ?_;dsimp only));refine q0o ?hg (N := 1) ?hd (cs := #[.int .i64 a0_0,.bool a0_1,.int .i64 a0_2,.string a0_3]) (t := 66) ?hr ?_;(case hd => rfl);(case hg => rfl);(case hr => first | (go_simp;done) | (go_simp;rfl));intro gb123 hg w31 hbox hb;have n0_ := Aside0.mk (q0n (by repeat (first | (with_reducible first | exact HB.out | apply q0b | apply q0a | apply q0c) | exact HB.out)) hb);have n1_ := Aside0.mk (hbox);have n2_ := Aside0.mk ((by rw [hg];exact (q0g (by repeat (first | (with_reducible first | exact HB.out | apply q0b | apply q0a | apply q0c) | exact HB.out))) : w.heap.size ≤ gb123));have n3_ := Aside0.mk ((by rw [hg];exact (q0g (by repeat (first | (with_reducible first | exact HB.out | apply q0b | apply q0a | apply q0c) | exact HB.out))) : w.heap.size ≤ gb123));clear HB;have HB := n0_;have BK123 := n1_;have GW123 := n2_;have GE123 := n3_;clear n0_ n1_ n2_ n3_;clear hb hbox hg;have hcz32_0 : w31.cell? ⟨gb123,0,none⟩ = some (.int .i64 a0_0) := (q0d BK123.out 0).trans rfl;have hcz32_1 : w31.cell? ⟨gb123,1,none⟩ = some (.bool a0_1) := (q0d BK123.out 1).trans rfl;have hcz32_2 : w31.cell? ⟨gb123,2,none⟩ = some (.int .i64 a0_2) := (q0d BK123.out 2).trans rfl;have hcz32_3 : w31.cell? ⟨gb123,3,none⟩ = some (.string a0_3) := (q0d BK123.out 3).trans rfl;have hfz32_0 := q0e BK123.out 0;have hfz32_1 := q0e BK123.out 1;have hfz32_2 := q0e BK123.out 2;have hfz32_3 := q0e BK123.out 3))
     go_ret
     exact ⟨by first | rfl | (simp [q0m,q0l] <;> rfl) | (simp [*,q0m,q0l] <;> rfl),by repeat (first | (with_reducible first | exact HB.out | apply q0b | apply q0a | apply q0c | refine q0i ?_ GE123.out) | exact HB.out)⟩
end Go.Proofs.Ythmbfcfomcaaaaa.Z
end
section
namespace Go.Proofs.Ythmbfcfomcaaaaa.Z
open Go.RowKit Go.Proofs.YthmbfcfomcaaaaaW.PrintWords Go.Proofs.YthmbfcfomcaaaaaW.PrintLast Go.Proofs.YthmbfcfomcaaaaaW.PrintMore
attribute [local go_sem] max2_int min2_int max_two min_two max_three min_three max_four min_four
set_option linter.unusedVariables false
set_option linter.unusedSimpArgs false
def row_Right_1.f (a0_0 : Int) (a0_1 : Bool) (a0_2 : Int) (a0_3 : ByteArray) : Option (Bool) := (value_Right.f a0_0 a0_1 a0_2 a0_3).bind fun t141 => (some (!t141))
set_option maxHeartbeats 8000000 in
set_option maxRecDepth 100000 in
theorem row_Right_1.calls (a0_0 : Int) (a0_1 : Bool) (a0_2 : Int) (a0_3 : ByteArray) (r : Bool) (w : World) (h : row_Right_1.f a0_0 a0_1 a0_2 a0_3 = some r) :
  Calls Try.prog 91 #[.agg #[.int .i64 a0_0,.bool a0_1,.int .i64 a0_2,.string a0_3]] w fun e w' => e = .returned (.bool r) ∧ Below w.heap.size w w' := by
 have hu66 := Try.underlying66
 have HB := Aside0.mk (Below.refl w.heap.size w)
 have H : ((value_Right.f a0_0 a0_1 a0_2 a0_3).bind fun t141 => (some (!t141))) = some r := h
 clear h
 replace H := Option.bind_eq_some_iff.mp H
 obtain ⟨t141,A20,H⟩ := H
 replace H : (some (!t141)) = some r := H
 have A2 := Aside0.mk A20
 clear A20
 obtain rfl := Option.some.inj H
 go_enter Try.func91,Try.ntmps91
 go_wp2_with (first | ((with_reducible refine q0p (N := 1) rfl ?_);refine q0o ?hg (N := 1) ?hd (cs := #[.int .i64 a0_0,.bool a0_1,.int .i64 a0_2,.string a0_3]) (t := 66) ?hr ?_;(case hd => rfl);(case hg => rfl);(case hr => first | (go_simp;done) | (go_simp;rfl));intro gb140 hg w3 hbox hb;have n0_ := Aside0.mk (q0n (by repeat (first | (with_reducible first | exact HB.out | apply q0b | apply q0a | apply q0c) | exact HB.out)) hb);have n1_ := Aside0.mk (hbox);have n2_ := Aside0.mk ((by rw [hg];exact (q0g (by repeat (first | (with_reducible first | exact HB.out | apply q0b | apply q0a | apply q0c) | exact HB.out))) : w.heap.size ≤ gb140));have n3_ := Aside0.mk ((by rw [hg];exact (q0g (by repeat (first | (with_reducible first | exact HB.out | apply q0b | apply q0a | apply q0c) | exact HB.out))) : w.heap.size ≤ gb140));clear HB;have HB := n0_;have BK140 := n1_;have GW140 := n2_;have GE140 := n3_;clear n0_ n1_ n2_ n3_;clear hb hbox hg;have hcz4_0 : w3.cell? ⟨gb140,0,none⟩ = some (.int .i64 a0_0) := (q0d BK140.out 0).trans rfl;have hcz4_1 : w3.cell? ⟨gb140,1,none⟩ = some (.bool a0_1) := (q0d BK140.out 1).trans rfl;have hcz4_2 : w3.cell? ⟨gb140,2,none⟩ = some (.int .i64 a0_2) := (q0d BK140.out 2).trans rfl;have hcz4_3 : w3.cell? ⟨gb140,3,none⟩ = some (.string a0_3) := (q0d BK140.out 3).trans rfl;have hfz4_0 := q0e BK140.out 0;have hfz4_1 := q0e BK140.out 1;have hfz4_2 := q0e BK140.out 2;have hfz4_3 := q0e BK140.out 3) | ((with_reducible refine q0u (f := 92) rfl ?_);refine goesL_ (some 4) rfl rfl Try.func92 (by kernel_rfl) rfl #[.agg #[.int .i64 a0_0,.bool a0_1,.int .i64 a0_2,.string a0_3]] rfl (by (try simp only [List.map_toArray,List.map_cons,List.map_nil]);first | done | rfl | (simp only [List.length_drop,List.length_take];rfl)) ?_;(with_reducible refine (value_Right.calls a0_0 a0_1 a0_2 a0_3 t141 _ A2.out).mono ?_);rintro e w5 ⟨rfl,hb⟩;refine ⟨_,rfl,?_⟩;have n0_ := Aside0.mk (q0s (g := gb140) (o := .cells #[.int .i64 a0_0,.bool a0_1,.int .i64 a0_2,.string a0_3] 66 (0,0)) (by (with_reducible repeat (first | refine q0j ?_ _ | refine q0k ?_ | refine q0h ?_ _));exact BK140.out) hb);have n1_ := Aside0.mk (q0n (by repeat (first | (with_reducible first | exact HB.out | apply q0b | apply q0a | apply q0c | refine q0i ?_ GE140.out) | exact HB.out)) hb);clear BK140;clear HB;have BK140 := n0_;have HB := n1_;clear n0_ n1_;(try clear hb);(try clear hb2);(try clear hk);(try clear hi)))
 go_ret
 exact ⟨by first | rfl | (simp [q0m,q0l] <;> rfl) | (simp [*,q0m,q0l] <;> rfl),by repeat (first | (with_reducible first | exact HB.out | apply q0b | apply q0a | apply q0c | refine q0i ?_ GE140.out) | exact HB.out)⟩
end Go.Proofs.Ythmbfcfomcaaaaa.Z
end
section
namespace Go.Proofs.Ythmbfcfomcaaaaa.Z
open Go.RowKit Go.Proofs.YthmbfcfomcaaaaaW.PrintWords Go.Proofs.YthmbfcfomcaaaaaW.PrintLast Go.Proofs.YthmbfcfomcaaaaaW.PrintMore
attribute [local go_sem] max2_int min2_int max_two min_two max_three min_three max_four min_four
set_option linter.unusedVariables false
set_option linter.unusedSimpArgs false
def slices_IndexFunc_105.l0 : Nat → List (S66) → Int → Int → Option (Int)
 | 0,_,_,_ => none
 | k + 1,x0,x7,x8 => if x8 < x7 then (if 0 ≤ x8 then (if x8 < (x0.length : Int) then ((row_Right_1.f ((q0f x0 x8).f0) ((q0f x0 x8).f1) ((q0f x0 x8).f2) ((q0f x0 x8).f3)).bind fun t143 => (if t143 = true then (some x8) else (slices_IndexFunc_105.l0 k x0 x7 (wrap64 (x8 + 1))))) else (none)) else (none)) else (some (-1))
def slices_IndexFunc_105.f (k : Nat) (l0 : List (S66)) (a1 : Int) : Option (Int) := slices_IndexFunc_105.l0 k l0 (l0.length : Int) 0
theorem slices_IndexFunc_105.mono_l : ∀ k,(∀ y0 y1 y2,LeO (slices_IndexFunc_105.l0 k y0 y1 y2) (slices_IndexFunc_105.l0 (k + 1) y0 y1 y2))
 | 0 => fun _ _ _ r h => by simp [slices_IndexFunc_105.l0] at h
 | k + 1 => by
  have ih0 := slices_IndexFunc_105.mono_l k
  ·intro y0 y1 y2
   unfold slices_IndexFunc_105.l0
   repeat' first
   | (with_reducible exact ih0 _ _ _)
   | (with_reducible exact LeO.refl _)
   | (with_reducible exact LeO.none _)
   | (with_reducible refine LeO.ite ?_ ?_)
   | (with_reducible refine LeO.bind ?_ (fun _ => ?_))
   | exact ih0 _ _ _
   | exact LeO.none _
   | refine LeO.ite ?_ ?_
   | refine LeO.bind ?_ (fun _ => ?_)
theorem slices_IndexFunc_105.mono : ∀ a0 a1 k,LeO (slices_IndexFunc_105.f k a0 a1) (slices_IndexFunc_105.f (k + 1) a0 a1) := by
 intro a0 a1 k
 have ih0 := slices_IndexFunc_105.mono_l k
 unfold slices_IndexFunc_105.f
 repeat' first
   | (with_reducible exact ih0 _ _ _)
   | (with_reducible exact LeO.refl _)
   | (with_reducible exact LeO.none _)
   | (with_reducible refine LeO.ite ?_ ?_)
   | (with_reducible refine LeO.bind ?_ (fun _ => ?_))
   | exact ih0 _ _ _
   | exact LeO.none _
   | refine LeO.ite ?_ ?_
   | refine LeO.bind ?_ (fun _ => ?_)
set_option maxHeartbeats 8000000 in
set_option maxRecDepth 100000 in
theorem slices_IndexFunc_105.calls (k : Nat) (A0 : Option Addr) (c0 : Nat) (l0 : List (S66)) (a1 : Int) (r : Int) (w : World) (hr0 : Kd.C k66 w A0 l0.length l0) (hc0 : l0.length ≤ c0) (h : slices_IndexFunc_105.f k l0 a1 = some r) :
  Calls Try.prog 105 #[.slice A0 l0.length c0,.func (.func 91) #[] #[]] w fun e w' => e = .returned (.int .i64 r) ∧ Below w.heap.size w w' := by
 have hu66 := Try.underlying66
 have HR0 := Aside0.mk hr0
 have HC0 := Aside0.mk hc0
 clear hr0 hc0
 have HB := Aside0.mk (Below.refl w.heap.size w)
 have H : (slices_IndexFunc_105.l0 k l0 (l0.length : Int) 0) = some r := h
 clear h
 have H' := Aside0.mk H
 clear H
 go_enter Try.func105,Try.ntmps105
 go_wp2
 go_loopg [8] k (fun kq v8 w' => ∃ (x8_1 : Int),v8 = .int .i64 x8_1 ∧ Aside0 (slices_IndexFunc_105.l0 kq l0 (l0.length : Int) x8_1 = some r) ∧ Aside0 (kq ≤ k) ∧ Aside0 (Below w.heap.size w w'))
 case atStart => exact ⟨(0),(by first | rfl | (simp;done) | (simp [*];done)),H',⟨Nat.le_refl _⟩,⟨by repeat (first | (with_reducible first | exact HB.out | apply q0b | apply q0a | apply q0c) | exact HB.out)⟩⟩
 case round =>
  clear H'
  try clear c1
  try clear p2
  obtain ⟨x8_1,rfl,HA,HK1,HB⟩ := hrel
  cases gk with
  | zero => exact absurd HA.out (by simp [slices_IndexFunc_105.l0])
  | succ k1 =>
   have H := HA.out
   clear HA
   simp only [slices_IndexFunc_105.l0] at H
   by_cases c3 : x8_1 < (l0.length : Int)
   ·rw [if_pos c3] at H
    have c3b0 : decide (x8_1 < (l0.length : Int)) = true := decide_eq_true c3
    clear c3
    by_cases c4 : 0 ≤ x8_1
    ·rw [if_pos c4] at H
     have c4b0 : decide (0 ≤ x8_1) = true := decide_eq_true c4
     clear c4
     by_cases c5 : x8_1 < (l0.length : Int)
     ·rw [if_pos c5] at H
      have c5b0 : decide (x8_1 < (l0.length : Int)) = true := decide_eq_true c5
      clear c5
      replace H := Option.bind_eq_some_iff.mp H
      obtain ⟨t143,A60,H⟩ := H
      replace H : (if t143 = true then (some x8_1) else (slices_IndexFunc_105.l0 k1 l0 (l0.length : Int) (wrap64 (x8_1 + 1)))) = some r := H
      have A6 := Aside0.mk A60
      clear A60
      by_cases c7 : t143 = true
      ·subst c7
       have H1 : (some x8_1) = some r := by rw [if_pos rfl] at H;exact H
       clear H
       have H := H1
       clear H1
       obtain rfl := Option.some.inj H
       have p142 : 0 ≤ (x8_1 : Int) := of_decide_eq_true (by first | (with_reducible assumption) | assumption)
       have q142 : x8_1 < (l0.length : Int) := of_decide_eq_true (by first | (with_reducible assumption) | assumption)
       obtain ⟨ad142,e142,hx142_0,hx142_1,hx142_2,hx142_3⟩ := at_T66 HR0.out x8_1 p142 q142
       cases e142
       replace hx142_0 := (HB.out.cell (World.block_lt_of_cell? w _ hx142_0)).trans hx142_0
       replace hx142_1 := (HB.out.cell (World.block_lt_of_cell? w _ hx142_1)).trans hx142_1
       replace hx142_2 := (HB.out.cell (World.block_lt_of_cell? w _ hx142_2)).trans hx142_2
       replace hx142_3 := (HB.out.cell (World.block_lt_of_cell? w _ hx142_3)).trans hx142_3
       replace p142 := eq_true p142
       replace q142 := eq_true q142
       go_wp2_with (first | ((with_reducible refine gate_tmp (n := 11) rfl ?_);refine goesT_ (some 16) rfl rfl Try.func91 (by kernel_rfl) rfl #[.agg #[.int .i64 ((q0f l0 x8_1).f0),.bool ((q0f l0 x8_1).f1),.int .i64 ((q0f l0 x8_1).f2),.string ((q0f l0 x8_1).f3)]] rfl rfl (by (try simp only [List.map_toArray,List.map_cons,List.map_nil]);first | done | rfl | (simp only [List.length_drop,List.length_take];rfl)) ?_;(with_reducible refine (row_Right_1.calls ((q0f l0 x8_1).f0) ((q0f l0 x8_1).f1) ((q0f l0 x8_1).f2) ((q0f l0 x8_1).f3) true _ A6.out).mono ?_);rintro e w8 ⟨rfl,hb⟩;refine ⟨_,rfl,?_⟩;have n0_ := Aside0.mk (q0n (by repeat (first | (with_reducible first | exact HB.out | apply q0b | apply q0a | apply q0c) | exact HB.out)) hb);clear HB;have HB := n0_;clear n0_;(try clear hb);(try clear hb2);(try clear hk);(try clear hi)))
       go_ret
       exact ⟨by first | rfl | (simp [q0m,q0l] <;> rfl) | (simp [*,q0m,q0l] <;> rfl),by repeat (first | (with_reducible first | exact HB.out | apply q0b | apply q0a | apply q0c) | exact HB.out)⟩
      ·replace c7 := Bool.eq_false_iff.mpr c7
       subst c7
       have H1 : (slices_IndexFunc_105.l0 k1 l0 (l0.length : Int) (wrap64 (x8_1 + 1))) = some r := by rw [if_neg (show ¬ (false = true) by decide)] at H;exact H
       clear H
       have H := H1
       clear H1
       have H' := Aside0.mk H
       clear H
       have p142 : 0 ≤ (x8_1 : Int) := of_decide_eq_true (by first | (with_reducible assumption) | assumption)
       have q142 : x8_1 < (l0.length : Int) := of_decide_eq_true (by first | (with_reducible assumption) | assumption)
       obtain ⟨ad142,e142,hx142_0,hx142_1,hx142_2,hx142_3⟩ := at_T66 HR0.out x8_1 p142 q142
       cases e142
       replace hx142_0 := (HB.out.cell (World.block_lt_of_cell? w _ hx142_0)).trans hx142_0
       replace hx142_1 := (HB.out.cell (World.block_lt_of_cell? w _ hx142_1)).trans hx142_1
       replace hx142_2 := (HB.out.cell (World.block_lt_of_cell? w _ hx142_2)).trans hx142_2
       replace hx142_3 := (HB.out.cell (World.block_lt_of_cell? w _ hx142_3)).trans hx142_3
       replace p142 := eq_true p142
       replace q142 := eq_true q142
       go_wp2_with (first | ((with_reducible refine gate_tmp (n := 11) rfl ?_);refine goesT_ (some 16) rfl rfl Try.func91 (by kernel_rfl) rfl #[.agg #[.int .i64 ((q0f l0 x8_1).f0),.bool ((q0f l0 x8_1).f1),.int .i64 ((q0f l0 x8_1).f2),.string ((q0f l0 x8_1).f3)]] rfl rfl (by (try simp only [List.map_toArray,List.map_cons,List.map_nil]);first | done | rfl | (simp only [List.length_drop,List.length_take];rfl)) ?_;(with_reducible refine (row_Right_1.calls ((q0f l0 x8_1).f0) ((q0f l0 x8_1).f1) ((q0f l0 x8_1).f2) ((q0f l0 x8_1).f3) false _ A6.out).mono ?_);rintro e w9 ⟨rfl,hb⟩;refine ⟨_,rfl,?_⟩;have n0_ := Aside0.mk (q0n (by repeat (first | (with_reducible first | exact HB.out | apply q0b | apply q0a | apply q0c) | exact HB.out)) hb);clear HB;have HB := n0_;clear n0_;(try clear hb);(try clear hb2);(try clear hk);(try clear hi)))
       go_roundg k1
       case measure => have := HK1.out;omega
       case rel => exact ⟨(wrap64 (x8_1 + 1)),(by first | rfl | (simp;done) | (simp [*];done)),H',⟨by have := HK1.out;omega⟩,⟨by repeat (first | (with_reducible first | exact HB.out | apply q0b | apply q0a | apply q0c) | exact HB.out)⟩⟩
     ·rw [if_neg c5] at H
      exact absurd H (by simp)
    ·rw [if_neg c4] at H
     exact absurd H (by simp)
   ·rw [if_neg c3] at H
    have c3b0 : decide (x8_1 < (l0.length : Int)) = false := decide_eq_false c3
    clear c3
    obtain rfl := Option.some.inj H
    go_wp2
    go_ret
    exact ⟨by first | rfl | (simp [q0m,q0l] <;> rfl) | (simp [*,q0m,q0l] <;> rfl),by repeat (first | (with_reducible first | exact HB.out | apply q0b | apply q0a | apply q0c) | exact HB.out)⟩
end Go.Proofs.Ythmbfcfomcaaaaa.Z
end
section
namespace Go.Proofs.Ythmbfcfomcaaaaa.Z
open Go.RowKit Go.Proofs.YthmbfcfomcaaaaaW.PrintWords Go.Proofs.YthmbfcfomcaaaaaW.PrintLast Go.Proofs.YthmbfcfomcaaaaaW.PrintMore
attribute [local go_sem] max2_int min2_int max_two min_two max_three min_three max_four min_four
set_option linter.unusedVariables false
set_option linter.unusedSimpArgs false
def slices_ContainsFunc_90.f (k : Nat) (l0 : List (S66)) (a1 : Int) : Option (Bool) := (slices_IndexFunc_105.f k l0 a1).bind fun t144 => (some (decide (t144 ≥ 0)))
theorem slices_ContainsFunc_90.mono : ∀ a0 a1 k,LeO (slices_ContainsFunc_90.f k a0 a1) (slices_ContainsFunc_90.f (k + 1) a0 a1) := by
 intro a0 a1 k
 unfold slices_ContainsFunc_90.f
 repeat' first
   | (with_reducible exact slices_IndexFunc_105.mono _ _ _)
   | (with_reducible exact LeO.refl _)
   | (with_reducible exact LeO.none _)
   | (with_reducible refine LeO.ite ?_ ?_)
   | (with_reducible refine LeO.bind ?_ (fun _ => ?_))
   | exact slices_IndexFunc_105.mono _ _ _
   | exact LeO.none _
   | refine LeO.ite ?_ ?_
   | refine LeO.bind ?_ (fun _ => ?_)
set_option maxHeartbeats 8000000 in
set_option maxRecDepth 100000 in
theorem slices_ContainsFunc_90.calls (k : Nat) (A0 : Option Addr) (c0 : Nat) (l0 : List (S66)) (a1 : Int) (r : Bool) (w : World) (hr0 : Kd.C k66 w A0 l0.length l0) (hc0 : l0.length ≤ c0) (h : slices_ContainsFunc_90.f k l0 a1 = some r) :
  Calls Try.prog 90 #[.slice A0 l0.length c0,.func (.func 91) #[] #[]] w fun e w' => e = .returned (.bool r) ∧ Below w.heap.size w w' := by
 have HR0 := Aside0.mk hr0
 have HC0 := Aside0.mk hc0
 clear hr0 hc0
 have HB := Aside0.mk (Below.refl w.heap.size w)
 have H : ((slices_IndexFunc_105.f k l0 a1).bind fun t144 => (some (decide (t144 ≥ 0)))) = some r := h
 clear h
 replace H := Option.bind_eq_some_iff.mp H
 obtain ⟨t144,A30,H⟩ := H
 replace H : (some (decide (t144 ≥ 0))) = some r := H
 have A3 := Aside0.mk A30
 clear A30
 obtain rfl := Option.some.inj H
 go_enter Try.func90,Try.ntmps90
 go_wp2_with (first | ((with_reducible refine q0u (f := 105) rfl ?_);refine goesL_ (some 7) rfl rfl Try.func105 (by kernel_rfl) rfl #[.slice A0 l0.length c0,.func (.func 91) #[] #[]] rfl (by (try simp only [List.map_toArray,List.map_cons,List.map_nil]);first | done | rfl | (simp only [List.length_drop,List.length_take];rfl)) ?_;(with_reducible refine (slices_IndexFunc_105.calls k _ _ l0 a1 t144 _ ?side1 ?side2 A3.out).mono ?_);(case side1 => repeat (first | exact HR0.out | (with_reducible refine Kd.C_alloc ?_ _) | (with_reducible refine Kd.C_drewN ?_ _) | (with_reducible refine Kd.C_drew ?_)));(case side2 => exact HC0.out);rintro e w4 ⟨rfl,hb⟩;refine ⟨_,rfl,?_⟩;have n0_ := Aside0.mk (q0n (by repeat (first | (with_reducible first | exact HB.out | apply q0b | apply q0a | apply q0c) | exact HB.out)) hb);clear HB;have HB := n0_;clear n0_;(try clear hb);(try clear hb2);(try clear hk);(try clear hi)))
 go_ret
 exact ⟨by first | rfl | (simp [q0m,q0l] <;> rfl) | (simp [*,q0m,q0l] <;> rfl),by repeat (first | (with_reducible first | exact HB.out | apply q0b | apply q0a | apply q0c) | exact HB.out)⟩
end Go.Proofs.Ythmbfcfomcaaaaa.Z
end
section
namespace Go.Proofs.Ythmbfcfomcaaaaa.Z
open Go.RowKit Go.Proofs.YthmbfcfomcaaaaaW.PrintWords Go.Proofs.YthmbfcfomcaaaaaW.PrintLast Go.Proofs.YthmbfcfomcaaaaaW.PrintMore
attribute [local go_sem] max2_int min2_int max_two min_two max_three min_three max_four min_four
set_option linter.unusedVariables false
set_option linter.unusedSimpArgs false
def row_Right.f (k : Nat) (l0 : List (S66)) : Option (Bool) := if (l0.length : Int) ≤ 40 then ((slices_ContainsFunc_90.f k l0 424291).bind fun t145 => (some (!t145))) else (some false)
theorem row_Right.mono : ∀ a0 k,LeO (row_Right.f k a0) (row_Right.f (k + 1) a0) := by
 intro a0 k
 unfold row_Right.f
 repeat' first
   | (with_reducible exact slices_ContainsFunc_90.mono _ _ _)
   | (with_reducible exact LeO.refl _)
   | (with_reducible exact LeO.none _)
   | (with_reducible refine LeO.ite ?_ ?_)
   | (with_reducible refine LeO.bind ?_ (fun _ => ?_))
   | exact slices_ContainsFunc_90.mono _ _ _
   | exact LeO.none _
   | refine LeO.ite ?_ ?_
   | refine LeO.bind ?_ (fun _ => ?_)
set_option maxHeartbeats 8000000 in
set_option maxRecDepth 100000 in
theorem row_Right.calls (k : Nat) (A0 : Option Addr) (c0 : Nat) (l0 : List (S66)) (r : Bool) (w : World) (hr0 : Kd.C k66 w A0 l0.length l0) (hc0 : l0.length ≤ c0) (h : row_Right.f k l0 = some r) :
  Calls Try.prog 59 #[.slice A0 l0.length c0] w fun e w' => e = .returned (.bool r) ∧ Below w.heap.size w w' := by
 have HR0 := Aside0.mk hr0
 have HC0 := Aside0.mk hc0
 clear hr0 hc0
 have HB := Aside0.mk (Below.refl w.heap.size w)
 have H : (if (l0.length : Int) ≤ 40 then ((slices_ContainsFunc_90.f k l0 424291).bind fun t145 => (some (!t145))) else (some false)) = some r := h
 clear h
 by_cases c2 : (l0.length : Int) ≤ 40
 ·rw [if_pos c2] at H
  have c2b0 : decide ((l0.length : Int) ≤ 40) = true := decide_eq_true c2
  have c2b1 : decide (l0.length ≤ 40) = true := decide_eq_true (by omega)
  clear c2
  replace H := Option.bind_eq_some_iff.mp H
  obtain ⟨t145,A30,H⟩ := H
  replace H : (some (!t145)) = some r := H
  have A3 := Aside0.mk A30
  clear A30
  obtain rfl := Option.some.inj H
  go_enter Try.func59,Try.ntmps59
  go_wp2_with (first | (go_at_call 90;(with_reducible refine (slices_ContainsFunc_90.calls k _ _ l0 424291 t145 _ ?side1 ?side2 A3.out).mono ?_);(case side1 => repeat (first | exact HR0.out | (with_reducible refine Kd.C_alloc ?_ _) | (with_reducible refine Kd.C_drewN ?_ _) | (with_reducible refine Kd.C_drew ?_)));(case side2 => exact HC0.out);rintro e w4 ⟨rfl,hb⟩;have n0_ := Aside0.mk (q0n (by repeat (first | (with_reducible first | exact HB.out | apply q0b | apply q0a | apply q0c) | exact HB.out)) hb);clear HB;have HB := n0_;clear n0_;(try clear hb);(try clear hb2);(try clear hk);(try clear hi)))
  go_ret
  exact ⟨by first | rfl | (simp [q0m,q0l] <;> rfl) | (simp [*,q0m,q0l] <;> rfl),by repeat (first | (with_reducible first | exact HB.out | apply q0b | apply q0a | apply q0c) | exact HB.out)⟩
 ·rw [if_neg c2] at H
  have c2b0 : decide ((l0.length : Int) ≤ 40) = false := decide_eq_false c2
  have c2b1 : decide (l0.length ≤ 40) = false := decide_eq_false (by omega)
  clear c2
  obtain rfl := Option.some.inj H
  go_enter Try.func59,Try.ntmps59
  go_wp2
  go_ret
  exact ⟨by first | rfl | (simp [q0m,q0l] <;> rfl) | (simp [*,q0m,q0l] <;> rfl),by repeat (first | (with_reducible first | exact HB.out | apply q0b | apply q0a | apply q0c) | exact HB.out)⟩
end Go.Proofs.Ythmbfcfomcaaaaa.Z
end
section
namespace Go.Proofs.Ythmbfcfomcaaaaa.Z
open Go.RowKit Go.Proofs.YthmbfcfomcaaaaaW.PrintWords Go.Proofs.YthmbfcfomcaaaaaW.PrintLast Go.Proofs.YthmbfcfomcaaaaaW.PrintMore
attribute [local go_sem] max2_int min2_int max_two min_two max_three min_three max_four min_four
set_option linter.unusedVariables false
set_option linter.unusedSimpArgs false
def verdererref01_Right.f (a0_0 : Int) (a0_1 : Bool) (a0_2 : Int) (a0_3 : ByteArray) : Option (Bool) := if a0_0 < 0 then (some false) else (if a0_0 > 3 then (some false) else (if a0_0 = 1 then (if a0_0 = 2 then (if a0_0 = 3 then (some (decide ((a0_3.size : Int) ≤ 60))) else (if a0_3.toList = ([] : List UInt8) then (some (decide ((a0_3.size : Int) ≤ 60))) else (some false))) else (if a0_2 = 0 then (if a0_0 = 3 then (some (decide ((a0_3.size : Int) ≤ 60))) else (if a0_3.toList = ([] : List UInt8) then (some (decide ((a0_3.size : Int) ≤ 60))) else (some false))) else (some false))) else (if a0_1 = true then (some false) else (if a0_0 = 2 then (if a0_0 = 3 then (some (decide ((a0_3.size : Int) ≤ 60))) else (if a0_3.toList = ([] : List UInt8) then (some (decide ((a0_3.size : Int) ≤ 60))) else (some false))) else (if a0_2 = 0 then (if a0_0 = 3 then (some (decide ((a0_3.size : Int) ≤ 60))) else (if a0_3.toList = ([] : List UInt8) then (some (decide ((a0_3.size : Int) ≤ 60))) else (some false))) else (some false))))))
set_option maxHeartbeats 8000000 in
set_option maxRecDepth 100000 in
theorem verdererref01_Right.calls (a0_0 : Int) (a0_1 : Bool) (a0_2 : Int) (a0_3 : ByteArray) (r : Bool) (w : World) (h : verdererref01_Right.f a0_0 a0_1 a0_2 a0_3 = some r) :
  Calls Try.prog 95 #[.agg #[.int .i64 a0_0,.bool a0_1,.int .i64 a0_2,.string a0_3]] w fun e w' => e = .returned (.bool r) ∧ Below w.heap.size w w' := by
 have hu66 := Try.underlying66
 have HB := Aside0.mk (Below.refl w.heap.size w)
 have H : (if a0_0 < 0 then (some false) else (if a0_0 > 3 then (some false) else (if a0_0 = 1 then (if a0_0 = 2 then (if a0_0 = 3 then (some (decide ((a0_3.size : Int) ≤ 60))) else (if a0_3.toList = ([] : List UInt8) then (some (decide ((a0_3.size : Int) ≤ 60))) else (some false))) else (if a0_2 = 0 then (if a0_0 = 3 then (some (decide ((a0_3.size : Int) ≤ 60))) else (if a0_3.toList = ([] : List UInt8) then (some (decide ((a0_3.size : Int) ≤ 60))) else (some false))) else (some false))) else (if a0_1 = true then (some false) else (if a0_0 = 2 then (if a0_0 = 3 then (some (decide ((a0_3.size : Int) ≤ 60))) else (if a0_3.toList = ([] : List UInt8) then (some (decide ((a0_3.size : Int) ≤ 60))) else (some false))) else (if a0_2 = 0 then (if a0_0 = 3 then (some (decide ((a0_3.size : Int) ≤ 60))) else (if a0_3.toList = ([] : List UInt8) then (some (decide ((a0_3.size : Int) ≤ 60))) else (some false))) else (some false))))))) = some r := h
 clear h
 by_cases c2 : a0_0 < 0
 ·rw [if_pos c2] at H
  have c2b0 : decide (a0_0 < 0) = true := decide_eq_true c2
  clear c2
  obtain rfl := Option.some.inj H
  go_enter Try.func95,Try.ntmps95
  go_wp2_with (first | ((with_reducible refine q0p (N := 1) rfl ?_);refine q0o ?hg (N := 1) ?hd (cs := #[.int .i64 a0_0,.bool a0_1,.int .i64 a0_2,.string a0_3]) (t := 66) ?hr ?_;(case hd => rfl);(case hg => rfl);(case hr => first | (go_simp;done) | (go_simp;rfl));intro gb163 hg w3 hbox hb;have n0_ := Aside0.mk (q0n (by repeat (first | (with_reducible first | exact HB.out | apply q0b | apply q0a | apply q0c) | exact HB.out)) hb);have n1_ := Aside0.mk (hbox);have n2_ := Aside0.mk ((by rw [hg];exact (q0g (by repeat (first | (with_reducible first | exact HB.out | apply q0b | apply q0a | apply q0c) | exact HB.out))) : w.heap.size ≤ gb163));have n3_ := Aside0.mk ((by rw [hg];exact (q0g (by repeat (first | (with_reducible first | exact HB.out | apply q0b | apply q0a | apply q0c) | exact HB.out))) : w.heap.size ≤ gb163));clear HB;have HB := n0_;have BK163 := n1_;have GW163 := n2_;have GE163 := n3_;clear n0_ n1_ n2_ n3_;clear hb hbox hg;have hcz4_0 : w3.cell? ⟨gb163,0,none⟩ = some (.int .i64 a0_0) := (q0d BK163.out 0).trans rfl;have hcz4_1 : w3.cell? ⟨gb163,1,none⟩ = some (.bool a0_1) := (q0d BK163.out 1).trans rfl;have hcz4_2 : w3.cell? ⟨gb163,2,none⟩ = some (.int .i64 a0_2) := (q0d BK163.out 2).trans rfl;have hcz4_3 : w3.cell? ⟨gb163,3,none⟩ = some (.string a0_3) := (q0d BK163.out 3).trans rfl;have hfz4_0 := q0e BK163.out 0;have hfz4_1 := q0e BK163.out 1;have hfz4_2 := q0e BK163.out 2;have hfz4_3 := q0e BK163.out 3))
  go_ret
  exact ⟨by first | rfl | (simp [q0m,q0l] <;> rfl) | (simp [*,q0m,q0l] <;> rfl),by repeat (first | (with_reducible first | exact HB.out | apply q0b | apply q0a | apply q0c | refine q0i ?_ GE163.out) | exact HB.out)⟩
 ·rw [if_neg c2] at H
  have c2b0 : decide (a0_0 < 0) = false := decide_eq_false c2
  clear c2
  by_cases c5 : a0_0 > 3
  ·rw [if_pos c5] at H
   have c5b0 : decide (3 < a0_0) = true := decide_eq_true c5
   clear c5
   obtain rfl := Option.some.inj H
   go_enter Try.func95,Try.ntmps95
   go_wp2_with (first | ((with_reducible refine q0p (N := 1) rfl ?_);refine q0o ?hg (N := 1) ?hd (cs := #[.int .i64 a0_0,.bool a0_1,.int .i64 a0_2,.string a0_3]) (t := 66) ?hr ?_;(case hd => rfl);(case hg => rfl);(case hr => first | (go_simp;done) | (go_simp;rfl));intro gb163 hg w6 hbox hb;have n0_ := Aside0.mk (q0n (by repeat (first | (with_reducible first | exact HB.out | apply q0b | apply q0a | apply q0c) | exact HB.out)) hb);have n1_ := Aside0.mk (hbox);have n2_ := Aside0.mk ((by rw [hg];exact (q0g (by repeat (first | (with_reducible first | exact HB.out | apply q0b | apply q0a | apply q0c) | exact HB.out))) : w.heap.size ≤ gb163));have n3_ := Aside0.mk ((by rw [hg];exact (q0g (by repeat (first | (with_reducible first | exact HB.out | apply q0b | apply q0a | apply q0c) | exact HB.out))) : w.heap.size ≤ gb163));clear HB;have HB := n0_;have BK163 := n1_;have GW163 := n2_;have GE163 := n3_;clear n0_ n1_ n2_ n3_;clear hb hbox hg;have hcz7_0 : w6.cell? ⟨gb163,0,none⟩ = some (.int .i64 a0_0) := (q0d BK163.out 0).trans rfl;have hcz7_1 : w6.cell? ⟨gb163,1,none⟩ = some (.bool a0_1) := (q0d BK163.out 1).trans rfl;have hcz7_2 : w6.cell? ⟨gb163,2,none⟩ = some (.int .i64 a0_2) := (q0d BK163.out 2).trans rfl;have hcz7_3 : w6.cell? ⟨gb163,3,none⟩ = some (.string a0_3) := (q0d BK163.out 3).trans rfl;have hfz7_0 := q0e BK163.out 0;have hfz7_1 := q0e BK163.out 1;have hfz7_2 := q0e BK163.out 2;have hfz7_3 := q0e BK163.out 3))
   go_ret
   exact ⟨by first | rfl | (simp [q0m,q0l] <;> rfl) | (simp [*,q0m,q0l] <;> rfl),by repeat (first | (with_reducible first | exact HB.out | apply q0b | apply q0a | apply q0c | refine q0i ?_ GE163.out) | exact HB.out)⟩
  ·rw [if_neg c5] at H
   have c5b0 : decide (3 < a0_0) = false := decide_eq_false c5
   clear c5
   by_cases c8 : a0_0 = 1
   ·rw [if_pos c8] at H
    have c8b0 : (a0_0 == 1) = true := beq_iff_eq.mpr c8
    have c8b1 : (a0_0 != 1) = false := bne_eq_false_iff_eq.mpr c8
    clear c8
    by_cases c9 : a0_0 = 2
    ·rw [if_pos c9] at H
     have c9b0 : (a0_0 == 2) = true := beq_iff_eq.mpr c9
     have c9b1 : (a0_0 != 2) = false := bne_eq_false_iff_eq.mpr c9
     clear c9
     by_cases c10 : a0_0 = 3
     ·rw [if_pos c10] at H
      have c10b0 : (a0_0 == 3) = true := beq_iff_eq.mpr c10
      have c10b1 : (a0_0 != 3) = false := bne_eq_false_iff_eq.mpr c10
      clear c10
      obtain rfl := Option.some.inj H
      go_enter Try.func95,Try.ntmps95
      go_wp2_with (first | ((with_reducible refine q0p (N := 1) rfl ?_);refine q0o ?hg (N := 1) ?hd (cs := #[.int .i64 a0_0,.bool a0_1,.int .i64 a0_2,.string a0_3]) (t := 66) ?hr ?_;(case hd => rfl);(case hg => rfl);(case hr => first | (go_simp;done) | (go_simp;rfl));intro gb163 hg w11 hbox hb;have n0_ := Aside0.mk (q0n (by repeat (first | (with_reducible first | exact HB.out | apply q0b | apply q0a | apply q0c) | exact HB.out)) hb);have n1_ := Aside0.mk (hbox);have n2_ := Aside0.mk ((by rw [hg];exact (q0g (by repeat (first | (with_reducible first | exact HB.out | apply q0b | apply q0a | apply q0c) | exact HB.out))) : w.heap.size ≤ gb163));have n3_ := Aside0.mk ((by rw [hg];exact (q0g (by repeat (first | (with_reducible first | exact HB.out | apply q0b | apply q0a | apply q0c) | exact HB.out))) : w.heap.size ≤ gb163));clear HB;have HB := n0_;have BK163 := n1_;have GW163 := n2_;have GE163 := n3_;clear n0_ n1_ n2_ n3_;clear hb hbox hg;have hcz12_0 : w11.cell? ⟨gb163,0,none⟩ = some (.int .i64 a0_0) := (q0d BK163.out 0).trans rfl;have hcz12_1 : w11.cell? ⟨gb163,1,none⟩ = some (.bool a0_1) := (q0d BK163.out 1).trans rfl;have hcz12_2 : w11.cell? ⟨gb163,2,none⟩ = some (.int .i64 a0_2) := (q0d BK163.out 2).trans rfl;have hcz12_3 : w11.cell? ⟨gb163,3,none⟩ = some (.string a0_3) := (q0d BK163.out 3).trans rfl;have hfz12_0 := q0e BK163.out 0;have hfz12_1 := q0e BK163.out 1;have hfz12_2 := q0e BK163.out 2;have hfz12_3 := q0e BK163.out 3))
      go_ret
      exact ⟨by first | rfl | (simp [q0m,q0l] <;> rfl) | (simp [*,q0m,q0l] <;> rfl),by repeat (first | (with_reducible first | exact HB.out | apply q0b | apply q0a | apply q0c | refine q0i ?_ GE163.out) | exact HB.out)⟩
     ·rw [if_neg c10] at H
      have c10b0 : (a0_0 == 3) = false := beq_eq_false_iff_ne.mpr c10
      have c10b1 : (a0_0 != 3) = true := bne_iff_ne.mpr c10
      by_cases c13 : a0_3.toList = ([] : List UInt8)
      ·rw [if_pos c13] at H
       have c13b0 : (a0_3.toList == ([] : List UInt8)) = true := beq_iff_eq.mpr c13
       have c13b1 : (a0_3.toList != ([] : List UInt8)) = false := bne_eq_false_iff_eq.mpr c13
       clear c13
       obtain rfl := Option.some.inj H
       go_enter Try.func95,Try.ntmps95
       go_wp2_with (first | ((with_reducible refine q0p (N := 1) rfl ?_);refine q0o ?hg (N := 1) ?hd (cs := #[.int .i64 a0_0,.bool a0_1,.int .i64 a0_2,.string a0_3]) (t := 66) ?hr ?_;(case hd => rfl);(case hg => rfl);(case hr => first | (go_simp;done) | (go_simp;rfl));intro gb163 hg w14 hbox hb;have n0_ := Aside0.mk (q0n (by repeat (first | (with_reducible first | exact HB.out | apply q0b | apply q0a | apply q0c) | exact HB.out)) hb);have n1_ := Aside0.mk (hbox);have n2_ := Aside0.mk ((by rw [hg];exact (q0g (by repeat (first | (with_reducible first | exact HB.out | apply q0b | apply q0a | apply q0c) | exact HB.out))) : w.heap.size ≤ gb163));have n3_ := Aside0.mk ((by rw [hg];exact (q0g (by repeat (first | (with_reducible first | exact HB.out | apply q0b | apply q0a | apply q0c) | exact HB.out))) : w.heap.size ≤ gb163));clear HB;have HB := n0_;have BK163 := n1_;have GW163 := n2_;have GE163 := n3_;clear n0_ n1_ n2_ n3_;clear hb hbox hg;have hcz15_0 : w14.cell? ⟨gb163,0,none⟩ = some (.int .i64 a0_0) := (q0d BK163.out 0).trans rfl;have hcz15_1 : w14.cell? ⟨gb163,1,none⟩ = some (.bool a0_1) := (q0d BK163.out 1).trans rfl;have hcz15_2 : w14.cell? ⟨gb163,2,none⟩ = some (.int .i64 a0_2) := (q0d BK163.out 2).trans rfl;have hcz15_3 : w14.cell? ⟨gb163,3,none⟩ = some (.string a0_3) := (q0d BK163.out 3).trans rfl;have hfz15_0 := q0e BK163.out 0;have hfz15_1 := q0e BK163.out 1;have hfz15_2 := q0e BK163.out 2;have hfz15_3 := q0e BK163.out 3))
       go_ret
       exact ⟨by first | rfl | (simp [q0m,q0l] <;> rfl) | (simp [*,q0m,q0l] <;> rfl),by repeat (first | (with_reducible first | exact HB.out | apply q0b | apply q0a | apply q0c | refine q0i ?_ GE163.out) | exact HB.out)⟩
      ·rw [if_neg c13] at H
       have c13b0 : (a0_3.toList == ([] : List UInt8)) = false := beq_eq_false_iff_ne.mpr c13
       have c13b1 : (a0_3.toList != ([] : List UInt8)) = true := bne_iff_ne.mpr c13
       obtain rfl := Option.some.inj H
       go_enter Try.func95,Try.ntmps95
       go_wp2_with (first | ((with_reducible refine q0p (N := 1) rfl ?_);refine q0o ?hg (N := 1) ?hd (cs := #[.int .i64 a0_0,.bool a0_1,.int .i64 a0_2,.string a0_3]) (t := 66) ?hr ?_;(case hd => rfl);(case hg => rfl);(case hr => first | (go_simp;done) | (go_simp;rfl));intro gb163 hg w16 hbox hb;have n0_ := Aside0.mk (q0n (by repeat (first | (with_reducible first | exact HB.out | apply q0b | apply q0a | apply q0c) | exact HB.out)) hb);have n1_ := Aside0.mk (hbox);have n2_ := Aside0.mk ((by rw [hg];exact (q0g (by repeat (first | (with_reducible first | exact HB.out | apply q0b | apply q0a | apply q0c) | exact HB.out))) : w.heap.size ≤ gb163));have n3_ := Aside0.mk ((by rw [hg];exact (q0g (by repeat (first | (with_reducible first | exact HB.out | apply q0b | apply q0a | apply q0c) | exact HB.out))) : w.heap.size ≤ gb163));clear HB;have HB := n0_;have BK163 := n1_;have GW163 := n2_;have GE163 := n3_;clear n0_ n1_ n2_ n3_;clear hb hbox hg;have hcz17_0 : w16.cell? ⟨gb163,0,none⟩ = some (.int .i64 a0_0) := (q0d BK163.out 0).trans rfl;have hcz17_1 : w16.cell? ⟨gb163,1,none⟩ = some (.bool a0_1) := (q0d BK163.out 1).trans rfl;have hcz17_2 : w16.cell? ⟨gb163,2,none⟩ = some (.int .i64 a0_2) := (q0d BK163.out 2).trans rfl;have hcz17_3 : w16.cell? ⟨gb163,3,none⟩ = some (.string a0_3) := (q0d BK163.out 3).trans rfl;have hfz17_0 := q0e BK163.out 0;have hfz17_1 := q0e BK163.out 1;have hfz17_2 := q0e BK163.out 2;have hfz17_3 := q0e BK163.out 3))
       go_ret
       exact ⟨by first | rfl | (simp [q0m,q0l] <;> rfl) | (simp [*,q0m,q0l] <;> rfl),by repeat (first | (with_reducible first | exact HB.out | apply q0b | apply q0a | apply q0c | refine q0i ?_ GE163.out) | exact HB.out)⟩
    ·rw [if_neg c9] at H
     have c9b0 : (a0_0 == 2) = false := beq_eq_false_iff_ne.mpr c9
     have c9b1 : (a0_0 != 2) = true := bne_iff_ne.mpr c9
     by_cases c18 : a0_2 = 0
     ·rw [if_pos c18] at H
      have c18b0 : (a0_2 == 0) = true := beq_iff_eq.mpr c18
      have c18b1 : (a0_2 != 0) = false := bne_eq_false_iff_eq.mpr c18
      clear c18
      by_cases c19 : a0_0 = 3
      ·rw [if_pos c19] at H
       have c19b0 : (a0_0 == 3) = true := beq_iff_eq.mpr c19
       have c19b1 : (a0_0 != 3) = false := bne_eq_false_iff_eq.mpr c19
       clear c19
       obtain rfl := Option.some.inj H
       go_enter Try.func95,Try.ntmps95
       go_wp2_with (first | ((with_reducible refine q0p (N := 1) rfl ?_);refine q0o ?hg (N := 1) ?hd (cs := #[.int .i64 a0_0,.bool a0_1,.int .i64 a0_2,.string a0_3]) (t := 66) ?hr ?_;(case hd => rfl);(case hg => rfl);(case hr => first | (go_simp;done) | (go_simp;rfl));intro gb163 hg w20 hbox hb;have n0_ := Aside0.mk (q0n (by repeat (first | (with_reducible first | exact HB.out | apply q0b | apply q0a | apply q0c) | exact HB.out)) hb);have n1_ := Aside0.mk (hbox);have n2_ := Aside0.mk ((by rw [hg];exact (q0g (by repeat (first | (with_reducible first | exact HB.out | apply q0b | apply q0a | apply q0c) | exact HB.out))) : w.heap.size ≤ gb163));have n3_ := Aside0.mk ((by rw [hg];exact (q0g (by repeat (first | (with_reducible first | exact HB.out | apply q0b | apply q0a | apply q0c) | exact HB.out))) : w.heap.size ≤ gb163));clear HB;have HB := n0_;have BK163 := n1_;have GW163 := n2_;have GE163 := n3_;clear n0_ n1_ n2_ n3_;clear hb hbox hg;have hcz21_0 : w20.cell? ⟨gb163,0,none⟩ = some (.int .i64 a0_0) := (q0d BK163.out 0).trans rfl;have hcz21_1 : w20.cell? ⟨gb163,1,none⟩ = some (.bool a0_1) := (q0d BK163.out 1).trans rfl;have hcz21_2 : w20.cell? ⟨gb163,2,none⟩ = some (.int .i64 a0_2) := (q0d BK163.out 2).trans rfl;have hcz21_3 : w20.cell? ⟨gb163,3,none⟩ = some (.string a0_3) := (q0d BK163.out 3).trans rfl;have hfz21_0 := q0e BK163.out 0;have hfz21_1 := q0e BK163.out 1;have hfz21_2 := q0e BK163.out 2;have hfz21_3 := q0e BK163.out 3))
       go_ret
       exact ⟨by first | rfl | (simp [q0m,q0l] <;> rfl) | (simp [*,q0m,q0l] <;> rfl),by repeat (first | (with_reducible first | exact HB.out | apply q0b | apply q0a | apply q0c | refine q0i ?_ GE163.out) | exact HB.out)⟩
      ·rw [if_neg c19] at H
       have c19b0 : (a0_0 == 3) = false := beq_eq_false_iff_ne.mpr c19
       have c19b1 : (a0_0 != 3) = true := bne_iff_ne.mpr c19
       by_cases c22 : a0_3.toList = ([] : List UInt8)
       ·rw [if_pos c22] at H
        have c22b0 : (a0_3.toList == ([] : List UInt8)) = true := beq_iff_eq.mpr c22
        have c22b1 : (a0_3.toList != ([] : List UInt8)) = false := bne_eq_false_iff_eq.mpr c22
        clear c22
        obtain rfl := Option.some.inj H
        go_enter Try.func95,Try.ntmps95
        go_wp2_with (first | ((with_reducible refine q0p (N := 1) rfl ?_);refine q0o ?hg (N := 1) ?hd (cs := #[.int .i64 a0_0,.bool a0_1,.int .i64 a0_2,.string a0_3]) (t := 66) ?hr ?_;(case hd => rfl);(case hg => rfl);(case hr => first | (go_simp;done) | (go_simp;rfl));intro gb163 hg w23 hbox hb;have n0_ := Aside0.mk (q0n (by repeat (first | (with_reducible first | exact HB.out | apply q0b | apply q0a | apply q0c) | exact HB.out)) hb);have n1_ := Aside0.mk (hbox);have n2_ := Aside0.mk ((by rw [hg];exact (q0g (by repeat (first | (with_reducible first | exact HB.out | apply q0b | apply q0a | apply q0c) | exact HB.out))) : w.heap.size ≤ gb163));have n3_ := Aside0.mk ((by rw [hg];exact (q0g (by repeat (first | (with_reducible first | exact HB.out | apply q0b | apply q0a | apply q0c) | exact HB.out))) : w.heap.size ≤ gb163));clear HB;have HB := n0_;have BK163 := n1_;have GW163 := n2_;have GE163 := n3_;clear n0_ n1_ n2_ n3_;clear hb hbox hg;have hcz24_0 : w23.cell? ⟨gb163,0,none⟩ = some (.int .i64 a0_0) := (q0d BK163.out 0).trans rfl;have hcz24_1 : w23.cell? ⟨gb163,1,none⟩ = some (.bool a0_1) := (q0d BK163.out 1).trans rfl;have hcz24_2 : w23.cell? ⟨gb163,2,none⟩ = some (.int .i64 a0_2) := (q0d BK163.out 2).trans rfl;have hcz24_3 : w23.cell? ⟨gb163,3,none⟩ = some (.string a0_3) := (q0d BK163.out 3).trans rfl;have hfz24_0 := q0e BK163.out 0;have hfz24_1 := q0e BK163.out 1;have hfz24_2 := q0e BK163.out 2;have hfz24_3 := q0e BK163.out 3))
        go_ret
        exact ⟨by first | rfl | (simp [q0m,q0l] <;> rfl) | (simp [*,q0m,q0l] <;> rfl),by repeat (first | (with_reducible first | exact HB.out | apply q0b | apply q0a | apply q0c | refine q0i ?_ GE163.out) | exact HB.out)⟩
       ·rw [if_neg c22] at H
        have c22b0 : (a0_3.toList == ([] : List UInt8)) = false := beq_eq_false_iff_ne.mpr c22
        have c22b1 : (a0_3.toList != ([] : List UInt8)) = true := bne_iff_ne.mpr c22
        obtain rfl := Option.some.inj H
        go_enter Try.func95,Try.ntmps95
        go_wp2_with (first | ((with_reducible refine q0p (N := 1) rfl ?_);refine q0o ?hg (N := 1) ?hd (cs := #[.int .i64 a0_0,.bool a0_1,.int .i64 a0_2,.string a0_3]) (t := 66) ?hr ?_;(case hd => rfl);(case hg => rfl);(case hr => first | (go_simp;done) | (go_simp;rfl));intro gb163 hg w25 hbox hb;have n0_ := Aside0.mk (q0n (by repeat (first | (with_reducible first | exact HB.out | apply q0b | apply q0a | apply q0c) | exact HB.out)) hb);have n1_ := Aside0.mk (hbox);have n2_ := Aside0.mk ((by rw [hg];exact (q0g (by repeat (first | (with_reducible first | exact HB.out | apply q0b | apply q0a | apply q0c) | exact HB.out))) : w.heap.size ≤ gb163));have n3_ := Aside0.mk ((by rw [hg];exact (q0g (by repeat (first | (with_reducible first | exact HB.out | apply q0b | apply q0a | apply q0c) | exact HB.out))) : w.heap.size ≤ gb163));clear HB;have HB := n0_;have BK163 := n1_;have GW163 := n2_;have GE163 := n3_;clear n0_ n1_ n2_ n3_;clear hb hbox hg;have hcz26_0 : w25.cell? ⟨gb163,0,none⟩ = some (.int .i64 a0_0) := (q0d BK163.out 0).trans rfl;have hcz26_1 : w25.cell? ⟨gb163,1,none⟩ = some (.bool a0_1) := (q0d BK163.out 1).trans rfl;have hcz26_2 : w25.cell? ⟨gb163,2,none⟩ = some (.int .i64 a0_2) := (q0d BK163.out 2).trans rfl;have hcz26_3 : w25.cell? ⟨gb163,3,none⟩ = some (.string a0_3) := (q0d BK163.out 3).trans rfl;have hfz26_0 := q0e BK163.out 0;have hfz26_1 := q0e BK163.out 1;have hfz26_2 := q0e BK163.out 2;have hfz26_3 := q0e BK163.out 3))
        go_ret
        exact ⟨by first | rfl | (simp [q0m,q0l] <;> rfl) | (simp [*,q0m,q0l] <;> rfl),by repeat (first | (with_reducible first | exact HB.out | apply q0b | apply q0a | apply q0c | refine q0i ?_ GE163.out) | exact HB.out)⟩
     ·rw [if_neg c18] at H
      have c18b0 : (a0_2 == 0) = false := beq_eq_false_iff_ne.mpr c18
      have c18b1 : (a0_2 != 0) = true := bne_iff_ne.mpr c18
      obtain rfl := Option.some.inj H
      go_enter Try.func95,Try.ntmps95
      go_wp2_with (first | ((with_reducible refine q0p (N := 1) rfl ?_);refine q0o ?hg (N := 1) ?hd (cs := #[.int .i64 a0_0,.bool a0_1,.int .i64 a0_2,.string a0_3]) (t := 66) ?hr ?_;(case hd => rfl);(case hg => rfl);(case hr => first | (go_simp;done) | (go_simp;rfl));intro gb163 hg w27 hbox hb;have n0_ := Aside0.mk (q0n (by repeat (first | (with_reducible first | exact HB.out | apply q0b | apply q0a | apply q0c) | exact HB.out)) hb);have n1_ := Aside0.mk (hbox);have n2_ := Aside0.mk ((by rw [hg];exact (q0g (by repeat (first | (with_reducible first | exact HB.out | apply q0b | apply q0a | apply q0c) | exact HB.out))) : w.heap.size ≤ gb163));have n3_ := Aside0.mk ((by rw [hg];exact (q0g (by repeat (first | (with_reducible first | exact HB.out | apply q0b | apply q0a | apply q0c) | exact HB.out))) : w.heap.size ≤ gb163));clear HB;have HB := n0_;have BK163 := n1_;have GW163 := n2_;have GE163 := n3_;clear n0_ n1_ n2_ n3_;clear hb hbox hg;have hcz28_0 : w27.cell? ⟨gb163,0,none⟩ = some (.int .i64 a0_0) := (q0d BK163.out 0).trans rfl;have hcz28_1 : w27.cell? ⟨gb163,1,none⟩ = some (.bool a0_1) := (q0d BK163.out 1).trans rfl;have hcz28_2 : w27.cell? ⟨gb163,2,none⟩ = some (.int .i64 a0_2) := (q0d BK163.out 2).trans rfl;have hcz28_3 : w27.cell? ⟨gb163,3,none⟩ = some (.string a0_3) := (q0d BK163.out 3).trans rfl;have hfz28_0 := q0e BK163.out 0;have hfz28_1 := q0e BK163.out 1;have hfz28_2 := q0e BK163.out 2;have hfz28_3 := q0e BK163.out 3))
      go_ret
      exact ⟨by first | rfl | (simp [q0m,q0l] <;> rfl) | (simp [*,q0m,q0l] <;> rfl),by repeat (first | (with_reducible first | exact HB.out | apply q0b | apply q0a | apply q0c | refine q0i ?_ GE163.out) | exact HB.out)⟩
   ·rw [if_neg c8] at H
    have c8b0 : (a0_0 == 1) = false := beq_eq_false_iff_ne.mpr c8
    have c8b1 : (a0_0 != 1) = true := bne_iff_ne.mpr c8
    by_cases c29 : a0_1 = true
    ·subst c29
     have H1 : (some false) = some r := by rw [if_pos rfl] at H;exact H
     clear H
     have H := H1
     clear H1
     obtain rfl := Option.some.inj H
     go_enter Try.func95,Try.ntmps95
     go_wp2_with (first | ((with_reducible refine q0p (N := 1) rfl ?_);refine q0o ?hg (N := 1) ?hd (cs := #[.int .i64 a0_0,.bool true,.int .i64 a0_2,.string a0_3]) (t := 66) ?hr ?_;(case hd => rfl);(case hg => rfl);(case hr => first | (go_simp;done) | (go_simp;rfl));intro gb163 hg w30 hbox hb;have n0_ := Aside0.mk (q0n (by repeat (first | (with_reducible first | exact HB.out | apply q0b | apply q0a | apply q0c) | exact HB.out)) hb);have n1_ := Aside0.mk (hbox);have n2_ := Aside0.mk ((by rw [hg];exact (q0g (by repeat (first | (with_reducible first | exact HB.out | apply q0b | apply q0a | apply q0c) | exact HB.out))) : w.heap.size ≤ gb163));have n3_ := Aside0.mk ((by rw [hg];exact (q0g (by repeat (first | (with_reducible first | exact HB.out | apply q0b | apply q0a | apply q0c) | exact HB.out))) : w.heap.size ≤ gb163));clear HB;have HB := n0_;have BK163 := n1_;have GW163 := n2_;have GE163 := n3_;clear n0_ n1_ n2_ n3_;clear hb hbox hg;have hcz31_0 : w30.cell? ⟨gb163,0,none⟩ = some (.int .i64 a0_0) := (q0d BK163.out 0).trans rfl;have hcz31_1 : w30.cell? ⟨gb163,1,none⟩ = some (.bool true) := (q0d BK163.out 1).trans rfl;have hcz31_2 : w30.cell? ⟨gb163,2,none⟩ = some (.int .i64 a0_2) := (q0d BK163.out 2).trans rfl;have hcz31_3 : w30.cell? ⟨gb163,3,none⟩ = some (.string a0_3) := (q0d BK163.out 3).trans rfl;have hfz31_0 := q0e BK163.out 0;have hfz31_1 := q0e BK163.out 1;have hfz31_2 := q0e BK163.out 2;have hfz31_3 := q0e BK163.out 3))
     go_ret
     exact ⟨by first | rfl | (simp [q0m,q0l] <;> rfl) | (simp [*,q0m,q0l] <;> rfl),by repeat (first | (with_reducible first | exact HB.out | apply q0b | apply q0a | apply q0c | refine q0i ?_ GE163.out) | exact HB.out)⟩
    ·replace c29 := Bool.eq_false_iff.mpr c29
     subst c29
     have H1 : (if a0_0 = 2 then (if a0_0 = 3 then (some (decide ((a0_3.size : Int) ≤ 60))) else (if a0_3.toList = ([] : List UInt8) then (some (decide ((a0_3.size : Int) ≤ 60))) else (some false))) else (if a0_2 = 0 then (if a0_0 = 3 then (some (decide ((a0_3.size : Int) ≤ 60))) else (if a0_3.toList = ([] : List UInt8) then (some (decide ((a0_3.size : Int) ≤ 60))) else (some false))) else (some false))) = some r := by rw [if_neg (show ¬ (false = true) by decide)] at H;exact H
     clear H
     have H := H1
     clear H1
     by_cases c32 : a0_0 = 2
     ·rw [if_pos c32] at H
      have c32b0 : (a0_0 == 2) = true := beq_iff_eq.mpr c32
      have c32b1 : (a0_0 != 2) = false := bne_eq_false_iff_eq.mpr c32
      clear c32
      by_cases c33 : a0_0 = 3
      ·rw [if_pos c33] at H
       have c33b0 : (a0_0 == 3) = true := beq_iff_eq.mpr c33
       have c33b1 : (a0_0 != 3) = false := bne_eq_false_iff_eq.mpr c33
       clear c33
       obtain rfl := Option.some.inj H
       go_enter Try.func95,Try.ntmps95
       go_wp2_with (first | ((with_reducible refine q0p (N := 1) rfl ?_);refine q0o ?hg (N := 1) ?hd (cs := #[.int .i64 a0_0,.bool false,.int .i64 a0_2,.string a0_3]) (t := 66) ?hr ?_;(case hd => rfl);(case hg => rfl);(case hr => first | (go_simp;done) | (go_simp;rfl));intro gb163 hg w34 hbox hb;have n0_ := Aside0.mk (q0n (by repeat (first | (with_reducible first | exact HB.out | apply q0b | apply q0a | apply q0c) | exact HB.out)) hb);have n1_ := Aside0.mk (hbox);have n2_ := Aside0.mk ((by rw [hg];exact (q0g (by repeat (first | (with_reducible first | exact HB.out | apply q0b | apply q0a | apply q0c) | exact HB.out))) : w.heap.size ≤ gb163));have n3_ := Aside0.mk ((by rw [hg];exact (q0g (by repeat (first | (with_reducible first | exact HB.out | apply q0b | apply q0a | apply q0c) | exact HB.out))) : w.heap.size ≤ gb163));clear HB;have HB := n0_;have BK163 := n1_;have GW163 := n2_;have GE163 := n3_;clear n0_ n1_ n2_ n3_;clear hb hbox hg;have hcz35_0 : w34.cell? ⟨gb163,0,none⟩ = some (.int .i64 a0_0) := (q0d BK163.out 0).trans rfl;have hcz35_1 : w34.cell? ⟨gb163,1,none⟩ = some (.bool false) := (q0d BK163.out 1).trans rfl;have hcz35_2 : w34.cell? ⟨gb163,2,none⟩ = some (.int .i64 a0_2) := (q0d BK163.out 2).trans rfl;have hcz35_3 : w34.cell? ⟨gb163,3,none⟩ = some (.string a0_3) := (q0d BK163.out 3).trans rfl;have hfz35_0 := q0e BK163.out 0;have hfz35_1 := q0e BK163.out 1;have hfz35_2 := q0e BK163.out 2;have hfz35_3 := q0e BK163.out 3))
       go_ret
       exact ⟨by first | rfl | (simp [q0m,q0l] <;> rfl) | (simp [*,q0m,q0l] <;> rfl),by repeat (first | (with_reducible first | exact HB.out | apply q0b | apply q0a | apply q0c | refine q0i ?_ GE163.out) | exact HB.out)⟩
      ·rw [if_neg c33] at H
       have c33b0 : (a0_0 == 3) = false := beq_eq_false_iff_ne.mpr c33
       have c33b1 : (a0_0 != 3) = true := bne_iff_ne.mpr c33
       by_cases c36 : a0_3.toList = ([] : List UInt8)
       ·rw [if_pos c36] at H
        have c36b0 : (a0_3.toList == ([] : List UInt8)) = true := beq_iff_eq.mpr c36
        have c36b1 : (a0_3.toList != ([] : List UInt8)) = false := bne_eq_false_iff_eq.mpr c36
        clear c36
        obtain rfl := Option.some.inj H
        go_enter Try.func95,Try.ntmps95
        go_wp2_with (first | ((with_reducible refine q0p (N := 1) rfl ?_);refine q0o ?hg (N := 1) ?hd (cs := #[.int .i64 a0_0,.bool false,.int .i64 a0_2,.string a0_3]) (t := 66) ?hr ?_;(case hd => rfl);(case hg => rfl);(case hr => first | (go_simp;done) | (go_simp;rfl));intro gb163 hg w37 hbox hb;have n0_ := Aside0.mk (q0n (by repeat (first | (with_reducible first | exact HB.out | apply q0b | apply q0a | apply q0c) | exact HB.out)) hb);have n1_ := Aside0.mk (hbox);have n2_ := Aside0.mk ((by rw [hg];exact (q0g (by repeat (first | (with_reducible first | exact HB.out | apply q0b | apply q0a | apply q0c) | exact HB.out))) : w.heap.size ≤ gb163));have n3_ := Aside0.mk ((by rw [hg];exact (q0g (by repeat (first | (with_reducible first | exact HB.out | apply q0b | apply q0a | apply q0c) | exact HB.out))) : w.heap.size ≤ gb163));clear HB;have HB := n0_;have BK163 := n1_;have GW163 := n2_;have GE163 := n3_;clear n0_ n1_ n2_ n3_;clear hb hbox hg;have hcz38_0 : w37.cell? ⟨gb163,0,none⟩ = some (.int .i64 a0_0) := (q0d BK163.out 0).trans rfl;have hcz38_1 : w37.cell? ⟨gb163,1,none⟩ = some (.bool false) := (q0d BK163.out 1).trans rfl;have hcz38_2 : w37.cell? ⟨gb163,2,none⟩ = some (.int .i64 a0_2) := (q0d BK163.out 2).trans rfl;have hcz38_3 : w37.cell? ⟨gb163,3,none⟩ = some (.string a0_3) := (q0d BK163.out 3).trans rfl;have hfz38_0 := q0e BK163.out 0;have hfz38_1 := q0e BK163.out 1;have hfz38_2 := q0e BK163.out 2;have hfz38_3 := q0e BK163.out 3))
        go_ret
        exact ⟨by first | rfl | (simp [q0m,q0l] <;> rfl) | (simp [*,q0m,q0l] <;> rfl),by repeat (first | (with_reducible first | exact HB.out | apply q0b | apply q0a | apply q0c | refine q0i ?_ GE163.out) | exact HB.out)⟩
       ·rw [if_neg c36] at H
        have c36b0 : (a0_3.toList == ([] : List UInt8)) = false := beq_eq_false_iff_ne.mpr c36
        have c36b1 : (a0_3.toList != ([] : List UInt8)) = true := bne_iff_ne.mpr c36
        obtain rfl := Option.some.inj H
        go_enter Try.func95,Try.ntmps95
        go_wp2_with (first | ((with_reducible refine q0p (N := 1) rfl ?_);refine q0o ?hg (N := 1) ?hd (cs := #[.int .i64 a0_0,.bool false,.int .i64 a0_2,.string a0_3]) (t := 66) ?hr ?_;(case hd => rfl);(case hg => rfl);(case hr => first | (go_simp;done) | (go_simp;rfl));intro gb163 hg w39 hbox hb;have n0_ := Aside0.mk (q0n (by repeat (first | (with_reducible first | exact HB.out | apply q0b | apply q0a | apply q0c) | exact HB.out)) hb);have n1_ := Aside0.mk (hbox);have n2_ := Aside0.mk ((by rw [hg];exact (q0g (by repeat (first | (with_reducible first | exact HB.out | apply q0b | apply q0a | apply q0c) | exact HB.out))) : w.heap.size ≤ gb163));have n3_ := Aside0.mk ((by rw [hg];exact (q0g (by repeat (first | (with_reducible first | exact HB.out | apply q0b | apply q0a | apply q0c) | exact HB.out))) : w.heap.size ≤ gb163));clear HB;have HB := n0_;have BK163 := n1_;have GW163 := n2_;have GE163 := n3_;clear n0_ n1_ n2_ n3_;clear hb hbox hg;have hcz40_0 : w39.cell? ⟨gb163,0,none⟩ = some (.int .i64 a0_0) := (q0d BK163.out 0).trans rfl;have hcz40_1 : w39.cell? ⟨gb163,1,none⟩ = some (.bool false) := (q0d BK163.out 1).trans rfl;have hcz40_2 : w39.cell? ⟨gb163,2,none⟩ = some (.int .i64 a0_2) := (q0d BK163.out 2).trans rfl;have hcz40_3 : w39.cell? ⟨gb163,3,none⟩ = some (.string a0_3) := (q0d BK163.out 3).trans rfl;have hfz40_0 := q0e BK163.out 0;have hfz40_1 := q0e BK163.out 1;have hfz40_2 := q0e BK163.out 2;have hfz40_3 := q0e BK163.out 3))
        go_ret
        exact ⟨by first | rfl | (simp [q0m,q0l] <;> rfl) | (simp [*,q0m,q0l] <;> rfl),by repeat (first | (with_reducible first | exact HB.out | apply q0b | apply q0a | apply q0c | refine q0i ?_ GE163.out) | exact HB.out)⟩
     ·rw [if_neg c32] at H
      have c32b0 : (a0_0 == 2) = false := beq_eq_false_iff_ne.mpr c32
      have c32b1 : (a0_0 != 2) = true := bne_iff_ne.mpr c32
      by_cases c41 : a0_2 = 0
      ·rw [if_pos c41] at H
       have c41b0 : (a0_2 == 0) = true := beq_iff_eq.mpr c41
       have c41b1 : (a0_2 != 0) = false := bne_eq_false_iff_eq.mpr c41
       clear c41
       by_cases c42 : a0_0 = 3
       ·rw [if_pos c42] at H
        have c42b0 : (a0_0 == 3) = true := beq_iff_eq.mpr c42
        have c42b1 : (a0_0 != 3) = false := bne_eq_false_iff_eq.mpr c42
        clear c42
        obtain rfl := Option.some.inj H
        go_enter Try.func95,Try.ntmps95
        go_wp2_with (first | ((with_reducible refine q0p (N := 1) rfl ?_);refine q0o ?hg (N := 1) ?hd (cs := #[.int .i64 a0_0,.bool false,.int .i64 a0_2,.string a0_3]) (t := 66) ?hr ?_;(case hd => rfl);(case hg => rfl);(case hr => first | (go_simp;done) | (go_simp;rfl));intro gb163 hg w43 hbox hb;have n0_ := Aside0.mk (q0n (by repeat (first | (with_reducible first | exact HB.out | apply q0b | apply q0a | apply q0c) | exact HB.out)) hb);have n1_ := Aside0.mk (hbox);have n2_ := Aside0.mk ((by rw [hg];exact (q0g (by repeat (first | (with_reducible first | exact HB.out | apply q0b | apply q0a | apply q0c) | exact HB.out))) : w.heap.size ≤ gb163));have n3_ := Aside0.mk ((by rw [hg];exact (q0g (by repeat (first | (with_reducible first | exact HB.out | apply q0b | apply q0a | apply q0c) | exact HB.out))) : w.heap.size ≤ gb163));clear HB;have HB := n0_;have BK163 := n1_;have GW163 := n2_;have GE163 := n3_;clear n0_ n1_ n2_ n3_;clear hb hbox hg;have hcz44_0 : w43.cell? ⟨gb163,0,none⟩ = some (.int .i64 a0_0) := (q0d BK163.out 0).trans rfl;have hcz44_1 : w43.cell? ⟨gb163,1,none⟩ = some (.bool false) := (q0d BK163.out 1).trans rfl;have hcz44_2 : w43.cell? ⟨gb163,2,none⟩ = some (.int .i64 a0_2) := (q0d BK163.out 2).trans rfl;have hcz44_3 : w43.cell? ⟨gb163,3,none⟩ = some (.string a0_3) := (q0d BK163.out 3).trans rfl;have hfz44_0 := q0e BK163.out 0;have hfz44_1 := q0e BK163.out 1;have hfz44_2 := q0e BK163.out 2;have hfz44_3 := q0e BK163.out 3))
        go_ret
        exact ⟨by first | rfl | (simp [q0m,q0l] <;> rfl) | (simp [*,q0m,q0l] <;> rfl),by repeat (first | (with_reducible first | exact HB.out | apply q0b | apply q0a | apply q0c | refine q0i ?_ GE163.out) | exact HB.out)⟩
       ·rw [if_neg c42] at H
        have c42b0 : (a0_0 == 3) = false := beq_eq_false_iff_ne.mpr c42
        have c42b1 : (a0_0 != 3) = true := bne_iff_ne.mpr c42
        by_cases c45 : a0_3.toList = ([] : List UInt8)
        ·rw [if_pos c45] at H
         have c45b0 : (a0_3.toList == ([] : List UInt8)) = true := beq_iff_eq.mpr c45
         have c45b1 : (a0_3.toList != ([] : List UInt8)) = false := bne_eq_false_iff_eq.mpr c45
         clear c45
         obtain rfl := Option.some.inj H
         go_enter Try.func95,Try.ntmps95
         go_wp2_with (first | ((with_reducible refine q0p (N := 1) rfl ?_);refine q0o ?hg (N := 1) ?hd (cs := #[.int .i64 a0_0,.bool false,.int .i64 a0_2,.string a0_3]) (t := 66) ?hr ?_;(case hd => rfl);(case hg => rfl);(case hr => first | (go_simp;done) | (go_simp;rfl));intro gb163 hg w46 hbox hb;have n0_ := Aside0.mk (q0n (by repeat (first | (with_reducible first | exact HB.out | apply q0b | apply q0a | apply q0c) | exact HB.out)) hb);have n1_ := Aside0.mk (hbox);have n2_ := Aside0.mk ((by rw [hg];exact (q0g (by repeat (first | (with_reducible first | exact HB.out | apply q0b | apply q0a | apply q0c) | exact HB.out))) : w.heap.size ≤ gb163));have n3_ := Aside0.mk ((by rw [hg];exact (q0g (by repeat (first | (with_reducible first | exact HB.out | apply q0b | apply q0a | apply q0c) | exact HB.out))) : w.heap.size ≤ gb163));clear HB;have HB := n0_;have BK163 := n1_;have GW163 := n2_;have GE163 := n3_;clear n0_ n1_ n2_ n3_;clear hb hbox hg;have hcz47_0 : w46.cell? ⟨gb163,0,none⟩ = some (.int .i64 a0_0) := (q0d BK163.out 0).trans rfl;have hcz47_1 : w46.cell? ⟨gb163,1,none⟩ = some (.bool false) := (q0d BK163.out 1).trans rfl;have hcz47_2 : w46.cell? ⟨gb163,2,none⟩ = some (.int .i64 a0_2) := (q0d BK163.out 2).trans rfl;have hcz47_3 : w46.cell? ⟨gb163,3,none⟩ = some (.string a0_3) := (q0d BK163.out 3).trans rfl;have hfz47_0 := q0e BK163.out 0;have hfz47_1 := q0e BK163.out 1;have hfz47_2 := q0e BK163.out 2;have hfz47_3 := q0e BK163.out 3))
         go_ret
         exact ⟨by first | rfl | (simp [q0m,q0l] <;> rfl) | (simp [*,q0m,q0l] <;> rfl),by repeat (first | (with_reducible first | exact HB.out | apply q0b | apply q0a | apply q0c | refine q0i ?_ GE163.out) | exact HB.out)⟩
        ·rw [if_neg c45] at H
         have c45b0 : (a0_3.toList == ([] : List UInt8)) = false := beq_eq_false_iff_ne.mpr c45
         have c45b1 : (a0_3.toList != ([] : List UInt8)) = true := bne_iff_ne.mpr c45
         obtain rfl := Option.some.inj H
         go_enter Try.func95,Try.ntmps95
         go_wp2_with (first | ((with_reducible refine q0p (N := 1) rfl ?_);refine q0o ?hg (N := 1) ?hd (cs := #[.int .i64 a0_0,.bool false,.int .i64 a0_2,.string a0_3]) (t := 66) ?hr ?_;(case hd => rfl);(case hg => rfl);(case hr => first | (go_simp;done) | (go_simp;rfl));intro gb163 hg w48 hbox hb;have n0_ := Aside0.mk (q0n (by repeat (first | (with_reducible first | exact HB.out | apply q0b | apply q0a | apply q0c) | exact HB.out)) hb);have n1_ := Aside0.mk (hbox);have n2_ := Aside0.mk ((by rw [hg];exact (q0g (by repeat (first | (with_reducible first | exact HB.out | apply q0b | apply q0a | apply q0c) | exact HB.out))) : w.heap.size ≤ gb163));have n3_ := Aside0.mk ((by rw [hg];exact (q0g (by repeat (first | (with_reducible first | exact HB.out | apply q0b | apply q0a | apply q0c) | exact HB.out))) : w.heap.size ≤ gb163));clear HB;have HB := n0_;have BK163 := n1_;have GW163 := n2_;have GE163 := n3_;clear n0_ n1_ n2_ n3_;clear hb hbox hg;have hcz49_0 : w48.cell? ⟨gb163,0,none⟩ = some (.int .i64 a0_0) := (q0d BK163.out 0).trans rfl;have hcz49_1 : w48.cell? ⟨gb163,1,none⟩ = some (.bool false) := (q0d BK163.out 1).trans rfl;have hcz49_2 : w48.cell? ⟨gb163,2,none⟩ = some (.int .i64 a0_2) := (q0d BK163.out 2).trans rfl;have hcz49_3 : w48.cell? ⟨gb163,3,none⟩ = some (.string a0_3) := (q0d BK163.out 3).trans rfl;have hfz49_0 := q0e BK163.out 0;have hfz49_1 := q0e BK163.out 1;have hfz49_2 := q0e BK163.out 2;have hfz49_3 := q0e BK163.out 3))
         go_ret
         exact ⟨by first | rfl | (simp [q0m,q0l] <;> rfl) | (simp [*,q0m,q0l] <;> rfl),by repeat (first | (with_reducible first | exact HB.out | apply q0b | apply q0a | apply q0c | refine q0i ?_ GE163.out) | exact HB.out)⟩
      ·rw [if_neg c41] at H
       have c41b0 : (a0_2 == 0) = false := beq_eq_false_iff_ne.mpr c41
       have c41b1 : (a0_2 != 0) = true := bne_iff_ne.mpr c41
       obtain rfl := Option.some.inj H
       go_enter Try.func95,Try.ntmps95
       go_wp2_with (first | ((with_reducible refine q0p (N := 1) rfl ?_);refine q0o ?hg (N := 1) ?hd (cs := #[.int .i64 a0_0,.bool false,.int .i64 a0_2,.string a0_3]) (t := 66) ?hr ?_;(case hd => rfl);(case hg => rfl);(case hr => first | (go_simp;done) | (go_simp;rfl));intro gb163 hg w50 hbox hb;have n0_ := Aside0.mk (q0n (by repeat (first | (with_reducible first | exact HB.out | apply q0b | apply q0a | apply q0c) | exact HB.out)) hb);have n1_ := Aside0.mk (hbox);have n2_ := Aside0.mk ((by rw [hg];exact (q0g (by repeat (first | (with_reducible first | exact HB.out | apply q0b | apply q0a | apply q0c) | exact HB.out))) : w.heap.size ≤ gb163));have n3_ := Aside0.mk ((by rw [hg];exact (q0g (by repeat (first | (with_reducible first | exact HB.out | apply q0b | apply q0a | apply q0c) | exact HB.out))) : w.heap.size ≤ gb163));clear HB;have HB := n0_;have BK163 := n1_;have GW163 := n2_;have GE163 := n3_;clear n0_ n1_ n2_ n3_;clear hb hbox hg;have hcz51_0 : w50.cell? ⟨gb163,0,none⟩ = some (.int .i64 a0_0) := (q0d BK163.out 0).trans rfl;have hcz51_1 : w50.cell? ⟨gb163,1,none⟩ = some (.bool false) := (q0d BK163.out 1).trans rfl;have hcz51_2 : w50.cell? ⟨gb163,2,none⟩ = some (.int .i64 a0_2) := (q0d BK163.out 2).trans rfl;have hcz51_3 : w50.cell? ⟨gb163,3,none⟩ = some (.string a0_3) := (q0d BK163.out 3).trans rfl;have hfz51_0 := q0e BK163.out 0;have hfz51_1 := q0e BK163.out 1;have hfz51_2 := q0e BK163.out 2;have hfz51_3 := q0e BK163.out 3))
       go_ret
       exact ⟨by first | rfl | (simp [q0m,q0l] <;> rfl) | (simp [*,q0m,q0l] <;> rfl),by repeat (first | (with_reducible first | exact HB.out | apply q0b | apply q0a | apply q0c | refine q0i ?_ GE163.out) | exact HB.out)⟩
end Go.Proofs.Ythmbfcfomcaaaaa.Z
end
section
namespace Go.Proofs.Ythmbfcfomcaaaaa.Z
open Go.RowKit Go.Proofs.YthmbfcfomcaaaaaW.PrintWords Go.Proofs.YthmbfcfomcaaaaaW.PrintLast Go.Proofs.YthmbfcfomcaaaaaW.PrintMore
attribute [local go_sem] max2_int min2_int max_two min_two max_three min_three max_four min_four
set_option linter.unusedVariables false
set_option linter.unusedSimpArgs false
def verdererref02_Right.l0 : Nat → List (S66) → Int → Option (Bool)
 | 0,_,_ => none
 | k + 1,x0,x3 => if x3 < (x0.length : Int) then (if 0 ≤ x3 then ((verdererref01_Right.f ((q0f x0 x3).f0) ((q0f x0 x3).f1) ((q0f x0 x3).f2) ((q0f x0 x3).f3)).bind fun t165 => (if t165 = true then (verdererref02_Right.l0 k x0 (wrap64 (x3 + 1))) else (some false))) else (none)) else (some true)
def verdererref02_Right.f (k : Nat) (l0 : List (S66)) : Option (Bool) := if (l0.length : Int) > 40 then (some false) else (verdererref02_Right.l0 k l0 0)
theorem verdererref02_Right.mono_l : ∀ k,(∀ y0 y1,LeO (verdererref02_Right.l0 k y0 y1) (verdererref02_Right.l0 (k + 1) y0 y1))
 | 0 => fun _ _ r h => by simp [verdererref02_Right.l0] at h
 | k + 1 => by
  have ih0 := verdererref02_Right.mono_l k
  ·intro y0 y1
   unfold verdererref02_Right.l0
   repeat' first
   | (with_reducible exact ih0 _ _)
   | (with_reducible exact LeO.refl _)
   | (with_reducible exact LeO.none _)
   | (with_reducible refine LeO.ite ?_ ?_)
   | (with_reducible refine LeO.bind ?_ (fun _ => ?_))
   | exact ih0 _ _
   | exact LeO.none _
   | refine LeO.ite ?_ ?_
   | refine LeO.bind ?_ (fun _ => ?_)
theorem verdererref02_Right.mono : ∀ a0 k,LeO (verdererref02_Right.f k a0) (verdererref02_Right.f (k + 1) a0) := by
 intro a0 k
 have ih0 := verdererref02_Right.mono_l k
 unfold verdererref02_Right.f
 repeat' first
   | (with_reducible exact ih0 _ _)
   | (with_reducible exact LeO.refl _)
   | (with_reducible exact LeO.none _)
   | (with_reducible refine LeO.ite ?_ ?_)
   | (with_reducible refine LeO.bind ?_ (fun _ => ?_))
   | exact ih0 _ _
   | exact LeO.none _
   | refine LeO.ite ?_ ?_
   | refine LeO.bind ?_ (fun _ => ?_)
set_option maxHeartbeats 8000000 in
set_option maxRecDepth 100000 in
theorem verdererref02_Right.calls (k : Nat) (A0 : Option Addr) (c0 : Nat) (l0 : List (S66)) (r : Bool) (w : World) (hr0 : Kd.C k66 w A0 l0.length l0) (hc0 : l0.length ≤ c0) (h : verdererref02_Right.f k l0 = some r) :
  Calls Try.prog 65 #[.slice A0 l0.length c0] w fun e w' => e = .returned (.bool r) ∧ Below w.heap.size w w' := by
 have hu66 := Try.underlying66
 have HR0 := Aside0.mk hr0
 have HC0 := Aside0.mk hc0
 clear hr0 hc0
 have HB := Aside0.mk (Below.refl w.heap.size w)
 have H : (if (l0.length : Int) > 40 then (some false) else (verdererref02_Right.l0 k l0 0)) = some r := h
 clear h
 by_cases c2 : (l0.length : Int) > 40
 ·rw [if_pos c2] at H
  have c2b0 : decide (40 < (l0.length : Int)) = true := decide_eq_true c2
  have c2b1 : decide (40 < l0.length) = true := decide_eq_true (by omega)
  clear c2
  obtain rfl := Option.some.inj H
  go_enter Try.func65,Try.ntmps65
  go_wp2
  go_ret
  exact ⟨by first | rfl | (simp [q0m,q0l] <;> rfl) | (simp [*,q0m,q0l] <;> rfl),by repeat (first | (with_reducible first | exact HB.out | apply q0b | apply q0a | apply q0c) | exact HB.out)⟩
 ·rw [if_neg c2] at H
  have c2b0 : decide (40 < (l0.length : Int)) = false := decide_eq_false c2
  have c2b1 : decide (40 < l0.length) = false := decide_eq_false (by omega)
  clear c2
  have H' := Aside0.mk H
  clear H
  go_enter Try.func65,Try.ntmps65
  go_wp2
  go_loopg [3] k (fun kq v3 w' => ∃ (x3_1 : Int),v3 = .int .i64 x3_1 ∧ Aside0 (verdererref02_Right.l0 kq l0 x3_1 = some r) ∧ Aside0 (kq ≤ k) ∧ Aside0 (Below w.heap.size w w'))
  case atStart => exact ⟨(0),(by first | rfl | (simp;done) | (simp [*];done)),H',⟨Nat.le_refl _⟩,⟨by repeat (first | (with_reducible first | exact HB.out | apply q0b | apply q0a | apply q0c) | exact HB.out)⟩⟩
  case round =>
   clear H'
   try clear c2
   try clear c2b0
   try clear c2b1
   try clear p2
   obtain ⟨x3_1,rfl,HA,HK1,HB⟩ := hrel
   cases gk with
   | zero => exact absurd HA.out (by simp [verdererref02_Right.l0])
   | succ k1 =>
    have H := HA.out
    clear HA
    simp only [verdererref02_Right.l0] at H
    by_cases c3 : x3_1 < (l0.length : Int)
    ·rw [if_pos c3] at H
     have c3b0 : decide (x3_1 < (l0.length : Int)) = true := decide_eq_true c3
     clear c3
     by_cases c4 : 0 ≤ x3_1
     ·rw [if_pos c4] at H
      have c4b0 : decide (0 ≤ x3_1) = true := decide_eq_true c4
      clear c4
      replace H := Option.bind_eq_some_iff.mp H
      obtain ⟨t165,A50,H⟩ := H
      replace H : (if t165 = true then (verdererref02_Right.l0 k1 l0 (wrap64 (x3_1 + 1))) else (some false)) = some r := H
      have A5 := Aside0.mk A50
      clear A50
      by_cases c6 : t165 = true
      ·subst c6
       have H1 : (verdererref02_Right.l0 k1 l0 (wrap64 (x3_1 + 1))) = some r := by rw [if_pos rfl] at H;exact H
       clear H
       have H := H1
       clear H1
       have H' := Aside0.mk H
       clear H
       have p164 : 0 ≤ (x3_1 : Int) := of_decide_eq_true (by first | (with_reducible assumption) | assumption)
       have q164 : x3_1 < (l0.length : Int) := of_decide_eq_true (by first | (with_reducible assumption) | assumption)
       obtain ⟨ad164,e164,hx164_0,hx164_1,hx164_2,hx164_3⟩ := at_T66 HR0.out x3_1 p164 q164
       cases e164
       replace hx164_0 := (HB.out.cell (World.block_lt_of_cell? w _ hx164_0)).trans hx164_0
       replace hx164_1 := (HB.out.cell (World.block_lt_of_cell? w _ hx164_1)).trans hx164_1
       replace hx164_2 := (HB.out.cell (World.block_lt_of_cell? w _ hx164_2)).trans hx164_2
       replace hx164_3 := (HB.out.cell (World.block_lt_of_cell? w _ hx164_3)).trans hx164_3
       replace p164 := eq_true p164
       replace q164 := eq_true q164
       go_wp2_with (first | ((with_reducible refine q0u (f := 95) rfl ?_);refine goesL_ (some 17) rfl rfl Try.func95 (by kernel_rfl) rfl #[.agg #[.int .i64 ((q0f l0 x3_1).f0),.bool ((q0f l0 x3_1).f1),.int .i64 ((q0f l0 x3_1).f2),.string ((q0f l0 x3_1).f3)]] rfl (by (try simp only [List.map_toArray,List.map_cons,List.map_nil]);first | done | rfl | (simp only [List.length_drop,List.length_take];rfl)) ?_;(with_reducible refine (verdererref01_Right.calls ((q0f l0 x3_1).f0) ((q0f l0 x3_1).f1) ((q0f l0 x3_1).f2) ((q0f l0 x3_1).f3) true _ A5.out).mono ?_);rintro e w7 ⟨rfl,hb⟩;refine ⟨_,rfl,?_⟩;have n0_ := Aside0.mk (q0n (by repeat (first | (with_reducible first | exact HB.out | apply q0b | apply q0a | apply q0c) | exact HB.out)) hb);clear HB;have HB := n0_;clear n0_;(try clear hb);(try clear hb2);(try clear hk);(try clear hi)))
       go_roundg k1
       case measure => have := HK1.out;omega
       case rel => exact ⟨(wrap64 (x3_1 + 1)),(by first | rfl | (simp;done) | (simp [*];done)),H',⟨by have := HK1.out;omega⟩,⟨by repeat (first | (with_reducible first | exact HB.out | apply q0b | apply q0a | apply q0c) | exact HB.out)⟩⟩
      ·replace c6 := Bool.eq_false_iff.mpr c6
       subst c6
       have H1 : (some false) = some r := by rw [if_neg (show ¬ (false = true) by decide)] at H;exact H
       clear H
       have H := H1
       clear H1
       obtain rfl := Option.some.inj H
       have p164 : 0 ≤ (x3_1 : Int) := of_decide_eq_true (by first | (with_reducible assumption) | assumption)
       have q164 : x3_1 < (l0.length : Int) := of_decide_eq_true (by first | (with_reducible assumption) | assumption)
       obtain ⟨ad164,e164,hx164_0,hx164_1,hx164_2,hx164_3⟩ := at_T66 HR0.out x3_1 p164 q164
       cases e164
       replace hx164_0 := (HB.out.cell (World.block_lt_of_cell? w _ hx164_0)).trans hx164_0
       replace hx164_1 := (HB.out.cell (World.block_lt_of_cell? w _ hx164_1)).trans hx164_1
       replace hx164_2 := (HB.out.cell (World.block_lt_of_cell? w _ hx164_2)).trans hx164_2
       replace hx164_3 := (HB.out.cell (World.block_lt_of_cell? w _ hx164_3)).trans hx164_3
       replace p164 := eq_true p164
       replace q164 := eq_true q164
       go_wp2_with (first | ((with_reducible refine q0u (f := 95) rfl ?_);refine goesL_ (some 17) rfl rfl Try.func95 (by kernel_rfl) rfl #[.agg #[.int .i64 ((q0f l0 x3_1).f0),.bool ((q0f l0 x3_1).f1),.int .i64 ((q0f l0 x3_1).f2),.string ((q0f l0 x3_1).f3)]] rfl (by (try simp only [List.map_toArray,List.map_cons,List.map_nil]);first | done | rfl | (simp only [List.length_drop,List.length_take];rfl)) ?_;(with_reducible refine (verdererref01_Right.calls ((q0f l0 x3_1).f0) ((q0f l0 x3_1).f1) ((q0f l0 x3_1).f2) ((q0f l0 x3_1).f3) false _ A5.out).mono ?_);rintro e w8 ⟨rfl,hb⟩;refine ⟨_,rfl,?_⟩;have n0_ := Aside0.mk (q0n (by repeat (first | (with_reducible first | exact HB.out | apply q0b | apply q0a | apply q0c) | exact HB.out)) hb);clear HB;have HB := n0_;clear n0_;(try clear hb);(try clear hb2);(try clear hk);(try clear hi)))
       go_ret
       exact ⟨by first | rfl | (simp [q0m,q0l] <;> rfl) | (simp [*,q0m,q0l] <;> rfl),by repeat (first | (with_reducible first | exact HB.out | apply q0b | apply q0a | apply q0c) | exact HB.out)⟩
     ·rw [if_neg c4] at H
      exact absurd H (by simp)
    ·rw [if_neg c3] at H
     have c3b0 : decide (x3_1 < (l0.length : Int)) = false := decide_eq_false c3
     clear c3
     obtain rfl := Option.some.inj H
     go_wp2
     go_ret
     exact ⟨by first | rfl | (simp [q0m,q0l] <;> rfl) | (simp [*,q0m,q0l] <;> rfl),by repeat (first | (with_reducible first | exact HB.out | apply q0b | apply q0a | apply q0c) | exact HB.out)⟩
end Go.Proofs.Ythmbfcfomcaaaaa.Z
end
section
namespace Go.Proofs.YthmbfcfomcaaaaaW.PrintWords
open Go.RowKit Go.ChangeShapes Go.WideShapes
section
variable {P : Program} {α β : Type}
def OfTrod (P : Program) (t : TypeId) (d : Kd α) (G : α → Prop) : Prop :=
 ∀ (H : Type) (enc : TypeId × Value → H) (w : World) (base : Nat) (spare : Nat → Bool) (held : Bool) (fuel : Nat) (cs : List Value) (x : DataW H × List MemPlace),DataW.trod enc P w base spare held fuel t cs = some x → ∃ s,d.K w s cs ∧ G s
theorem ofTrod_int {t : TypeId} {k : IntKind} (ht : P.underlying t = some (.int k)) : OfTrod P t (Kd.int k) (fun n => (Lit.int k n).wf = true) := by
 intro H enc w base spare held fuel cs x h
 obtain ⟨n,rfl,_,hw⟩ := DataW.trod_int ht h
 exact ⟨n,rfl,hw⟩
theorem ofTrod_bool {t : TypeId} (ht : P.underlying t = some .bool) : OfTrod P t Kd.bool (fun _ => True) := by
 intro H enc w base spare held fuel cs x h
 obtain ⟨b,rfl,_⟩ := DataW.trod_bool ht h
 exact ⟨b,rfl,trivial⟩
theorem ofTrod_string {t : TypeId} (ht : P.underlying t = some .string) : OfTrod P t Kd.string (fun s => s.size ≤ maxLen) := by
 intro H enc w base spare held fuel cs x h
 obtain ⟨s,rfl,_,hs⟩ := DataW.trod_string ht h
 exact ⟨s,rfl,hs⟩
theorem list_of_all {n : Nat} {Q : Nat → α → Prop} (h : ∀ i,i < n → ∃ x,Q i x) : ∃ xs : List α,xs.length = n ∧ ∀ i x,xs[i]? = some x → Q i x := by
 induction n with
 | zero => exact ⟨[],rfl,fun i x hx => by simp at hx⟩
 | succ n ih =>
  obtain ⟨xs,hl,hx⟩ := ih (fun i hi => h i (by omega))
  obtain ⟨y,hy⟩ := h n (by omega)
  refine ⟨xs ++ [y],by simp [hl],fun i x hi => ?_⟩
  rcases Nat.lt_trichotomy i xs.length with hlt | rfl | hgt
  ·rw [List.getElem?_append_left hlt] at hi
   exact hx i x hi
  ·rw [List.getElem?_append_right (Nat.le_refl _)] at hi
   simp at hi
   subst hi
   rw [hl]
   exact hy
  ·rw [List.getElem?_append_right (by omega),List.getElem?_eq_none (by simp;omega)] at hi
   cases hi
theorem ofTrod_slice {t e : TypeId} {d : Kd α} {G : α → Prop} (ht : P.underlying t = some (.slice e)) (hc : P.cellsOf e = d.sz) (h : OfTrod P e d G) :
  OfTrod P t (Kd.slice e d) (fun l => l.length ≤ maxLen ∧ ∀ x ∈ l,G x) := by
 intro H enc w base spare held fuel cs x hx
 rcases Go.Deep.open_slice ht hx with ⟨rfl,_⟩ | ⟨a,len,cap,m,n,D,Pl,rfl,_,hl,hm,hmm,_,hel⟩
 ·exact ⟨[],⟨none,0,rfl,Nat.le_refl _,Kd.C_nil d w⟩,by simp,fun x hx => by simp at hx⟩
 ·have hlm : len ≤ m := by rw [hmm];split <;> omega
  obtain ⟨xs,hxl,hxs⟩ := list_of_all (n := len) (Q := fun i s => ∃ cs',w.cells? base (a.add (i * P.cellsOf e)) (P.cellsOf e) = some cs' ∧ d.K w s cs' ∧ G s) (fun i hi => by
   obtain ⟨cs',h1,h2⟩ := hel i (by omega)
   obtain ⟨s,h3,h4⟩ := h _ _ _ _ _ _ _ _ _ h2
   exact ⟨s,cs',h1,h3,h4⟩)
  refine ⟨xs,⟨some a,cap,by rw [hxl],by omega,rfl,by rw [hxl];unfold maxLen at hm;omega,fun _ => ⟨a,rfl,fun j p hp => ?_⟩⟩,by omega,fun x hx => ?_⟩
  ·obtain ⟨cs',h1,h2,_⟩ := hxs j p hp
   obtain ⟨_,hcl,hcell⟩ := World.cells?_some h1
   refine ⟨cs',by rw [hcl,hc],h2,fun i u hu => ?_⟩
   have hi : i < P.cellsOf e := by
    rw [← hcl]
    exact (List.getElem?_eq_some_iff.1 hu).1
   have := hcell i hi
   rw [Go.Deep.add_add,hc] at this
   rw [this]
   exact hu
  ·obtain ⟨i,hi,rfl⟩ := List.getElem_of_mem hx
   obtain ⟨_,_,_,h4⟩ := hxs i xs[i] (List.getElem?_eq_getElem hi)
   exact h4
def segOff (segs : List (TypeId × Nat)) (i : Nat) : Nat := ((segs.take i).map (·.2)).sum
def OfSegs (P : Program) (segs : List (TypeId × Nat)) (d : Kd α) (G : α → Prop) : Prop :=
 ∀ (H : Type) (enc : TypeId × Value → H) (w : World) (base : Nat) (spare : Nat → Bool) (held : Bool) (fuel : Nat) (cs : List Value),cs.length = segOff segs segs.length →
  (∀ i t c,segs[i]? = some (t,c) → ∃ x,DataW.trod enc P w base spare held fuel t ((cs.drop (segOff segs i)).take c) = some x) → ∃ s,d.K w s cs ∧ G s
theorem ofSegs_one {t : TypeId} {c : Nat} {d : Kd α} {G : α → Prop} (h : OfTrod P t d G) : OfSegs P [(t,c)] d G := by
 intro H enc w base spare held fuel cs hl hx
 obtain ⟨x,h1⟩ := hx 0 t c rfl
 have hl2 : cs.length = c := by simpa [segOff] using hl
 have e : ((cs.drop (segOff [(t,c)] 0)).take c) = cs := by simp [segOff,← hl2]
 rw [e] at h1
 exact h _ _ _ _ _ _ _ _ _ h1
theorem ofSegs_cons {t : TypeId} {c : Nat} {ts : List (TypeId × Nat)} {d : Kd α} {d' : Kd β} {G : α → Prop} {G' : β → Prop} (h : OfTrod P t d G) (h' : OfSegs P ts d' G') : OfSegs P ((t,c) :: ts) (Kd.pair d d') (fun x => G x.1 ∧ G' x.2) := by
 intro H enc w base spare held fuel cs hl hx
 obtain ⟨x,h1⟩ := hx 0 t c rfl
 have e : ((cs.drop (segOff ((t,c) :: ts) 0)).take c) = cs.take c := by simp [segOff]
 rw [e] at h1
 obtain ⟨s,h2,h3⟩ := h _ _ _ _ _ _ _ _ _ h1
 have hl' : (cs.drop c).length = segOff ts ts.length := by
  simp [segOff] at hl ⊢
  omega
 obtain ⟨s',h4,h5⟩ := h' H enc w base spare held fuel (cs.drop c) hl' (fun i t' c' hi => by
  obtain ⟨y,hy⟩ := hx (i + 1) t' c' (by simpa using hi)
  refine ⟨y,?_⟩
  have e2 : segOff ((t,c) :: ts) (i + 1) = c + segOff ts i := by simp [segOff]
  rw [e2] at hy
  rw [List.drop_drop]
  exact hy)
 exact ⟨(s,s'),⟨cs.take c,cs.drop c,(List.take_append_drop c cs).symm,h2,h4⟩,h3,h5⟩
theorem ofTrod_struct {t : TypeId} {fs : Array Field} {segs : List (TypeId × Nat)} {d : Kd α} {G : α → Prop} (ht : P.underlying t = some (.struct fs)) (hc : P.cellsOf t = segOff segs segs.length) (hn : fs.size = segs.length)
  (hfs : ∀ i (f : Field),fs[i]? = some f → segs[i]? = some (f.type,P.cellsOf f.type) ∧ f.offset = segOff segs i) (h : OfSegs P segs d G) : OfTrod P t d G := by
 intro H enc w base spare held fuel cs x hx
 obtain ⟨xs,n,_,_,hl,hxl,hf⟩ := DataW.trod_struct ht hx
 refine h H enc w base spare held n cs (by rw [hl,hc]) (fun i t' c' hi => ?_)
 have hlt : i < fs.size := by rw [hn];exact (List.getElem?_eq_some_iff.1 hi).1
 obtain ⟨h1,h2⟩ := hfs i fs[i] (Array.getElem?_eq_getElem hlt)
 rw [hi] at h1
 injection h1 with h1
 injection h1 with h1 h3
 have h4 := hf i fs[i] (Array.getElem?_eq_getElem hlt)
 rw [h2,← h3,← h1] at h4
 have hlt2 : i < xs.length := by omega
 rw [List.getElem?_eq_getElem hlt2] at h4
 exact ⟨_,h4⟩
theorem ofTrod_iso {t : TypeId} {d : Kd α} {G : α → Prop} (f : β → α) (g : α → β) (hg : ∀ a,f (g a) = a) (h : OfTrod P t d G) : OfTrod P t (Kd.iso d f) (fun x => G (f x)) := by
 intro H enc w base spare held fuel cs x hx
 obtain ⟨s,h1,h2⟩ := h _ _ _ _ _ _ _ _ _ hx
 exact ⟨g s,by show d.K w (f (g s)) cs;rw [hg];exact h1,by show G (f (g s));rw [hg];exact h2⟩
theorem cell_heap {w w' : World} (h : w.heap = w'.heap) (a : Addr) : w'.cell? a = w.cell? a := by unfold World.cell?;rw [h]
end
end Go.Proofs.YthmbfcfomcaaaaaW.PrintWords
end
section
namespace Go.Proofs.Ythmbfcfomcaaaaa.Z
open Go.RowKit Go.Proofs.YthmbfcfomcaaaaaW.PrintWords Go.Proofs.YthmbfcfomcaaaaaW.PrintLast Go.Proofs.YthmbfcfomcaaaaaW.PrintMore
set_option maxRecDepth 100000
def G66 (x : S66) : Prop := ((Lit.int .i64 x.f0).wf = true) ∧ (True) ∧ ((Lit.int .i64 x.f2).wf = true) ∧ (x.f3.size ≤ maxLen)
theorem of66 : OfTrod Try.prog 66 k66 G66 :=
 ofTrod_iso _ (fun a => (⟨a.1,a.2.1,a.2.2.1,a.2.2.2⟩ : S66)) (fun _ => rfl) (ofTrod_struct (segs := [(3,1),(4,1),(2,1),(9,1)]) Try.underlying66 (by kernel_rfl) rfl
  (by
   intro i f hf
   rcases i with _ | _ | _ | _ | i <;> simp at hf <;> subst hf <;> exact ⟨congrArg some (Prod.ext rfl (by kernel_rfl)),rfl⟩) (ofSegs_cons (ofTrod_int Try.underlying3) (ofSegs_cons (ofTrod_bool Try.underlying4) (ofSegs_cons (ofTrod_int Try.underlying2) (ofSegs_one (ofTrod_string Try.underlying9))))))
def G34 (x : S34) : Prop := ((x.f0.length ≤ maxLen ∧ ∀ xx ∈ x.f0,G66 xx)) ∧ ((Lit.int .i64 x.f1).wf = true)
theorem of34 : OfTrod Try.prog 34 k34 G34 :=
 ofTrod_iso _ (fun a => (⟨a.1,a.2⟩ : S34)) (fun _ => rfl) (ofTrod_struct (segs := [(23,1),(2,1)]) Try.underlying34 (by kernel_rfl) rfl
  (by
   intro i f hf
   rcases i with _ | _ | i <;> simp at hf <;> subst hf <;> exact ⟨congrArg some (Prod.ext rfl (by kernel_rfl)),rfl⟩) (ofSegs_cons (ofTrod_slice Try.underlying23 (by kernel_rfl) of66) (ofSegs_one (ofTrod_int Try.underlying2))))
end Go.Proofs.Ythmbfcfomcaaaaa.Z
end
section
namespace Go.Proofs.Ythmbfcfomcaaaaa.Z
open Go.RowKit Go.Proofs.YthmbfcfomcaaaaaW.PrintWords Go.Proofs.YthmbfcfomcaaaaaW.PrintLast Go.Proofs.YthmbfcfomcaaaaaW.PrintMore
attribute [local go_sem] max2_int min2_int max_two min_two max_three min_three max_four min_four
set_option linter.unusedVariables false
set_option linter.unusedSimpArgs false
mutual
def verdererref01_Text.l0 : Nat → ByteArray → ByteArray → Int → Option (Int)
 | 0,_,_,_ => none
 | k + 1,x0,x1,x5 => if x5 < (x0.size : Int) then (verdererref01_Text.j1 k x0 x1 x5 (decide (x5 < (x1.size : Int)))) else (verdererref01_Text.j1 k x0 x1 x5 false)
def verdererref01_Text.j1 : Nat → ByteArray → ByteArray → Int → Bool → Option (Int)
 | 0,_,_,_,_ => none
 | k + 1,x0,x1,x5,x15 => if x15 = true then (if 0 ≤ x5 then (if x5 < (x0.size : Int) then (if x5 < (x1.size : Int) then (if (bt x0 x5) < (bt x1 x5) then (some (-1)) else (if (bt x0 x5) > (bt x1 x5) then (some 1) else (verdererref01_Text.l0 k x0 x1 (wrap64 (x5 + 1))))) else (none)) else (none)) else (none)) else (if (x0.size : Int) < (x1.size : Int) then (some (-1)) else (if (x0.size : Int) > (x1.size : Int) then (some 1) else (some 0)))
end
def verdererref01_Text.f (k : Nat) (a0 : ByteArray) (a1 : ByteArray) : Option (Int) := verdererref01_Text.l0 k a0 a1 0
set_option maxHeartbeats 8000000 in
set_option maxRecDepth 100000 in
theorem verdererref01_Text.calls (k : Nat) (a0 : ByteArray) (a1 : ByteArray) (r : Int) (w : World) (h : verdererref01_Text.f k a0 a1 = some r) :
  Calls Try.prog 124 #[.string a0,.string a1] w fun e w' => e = .returned (.int .i64 r) ∧ Drawn0 w w' := by
 have H : (verdererref01_Text.l0 k a0 a1 0) = some r := h
 clear h
 have H' := Aside0.mk H
 clear H
 go_enter Try.func124,Try.ntmps124
 go_wp2
 repeat (go_quiet (fail);try go_wp2)
 go_loopg [5] k (fun kq v5 w' => ∃ (x5_1 : Int),v5 = .int .i64 x5_1 ∧ Aside0 (verdererref01_Text.l0 kq a0 a1 x5_1 = some r) ∧ Aside0 (kq ≤ k) ∧ Drawn0 w w')
 case atStart => exact ⟨(0),(by first | rfl | (simp;done) | (simp [*];done)),H',⟨Nat.le_refl _⟩,by repeat (first | exact Drawn0.refl _ | apply Drawn0.step)⟩
 case round =>
  clear H'
  try clear c1
  try clear p2
  obtain ⟨x5_1,rfl,HA,HK1,⟨m1,rfl⟩⟩ := hrel
  cases gk with
  | zero => exact absurd HA.out (by simp [verdererref01_Text.l0])
  | succ k1 =>
   have H := HA.out
   clear HA
   simp only [verdererref01_Text.l0] at H
   have HC3 := Aside0.mk H
   clear H
   go_upto_region 2 with (fail)
   repeat (go_quiet (fail);go_upto_region 2 with (fail))
   go_cut [15] (fun v15 wc => ∃ (kq : Nat) (x15_2 : Bool),v15 = .bool x15_2 ∧ Aside0 (verdererref01_Text.j1 kq a0 a1 x5_1 x15_2 = some r) ∧ Aside0 (kq ≤ k1) ∧ Drawn0 w wc)
   case first =>
    have H := HC3.out
    clear HC3
    by_cases c4 : x5_1 < (a0.size : Int)
    ·rw [if_pos c4] at H
     have c4b0 : decide (x5_1 < (a0.size : Int)) = true := decide_eq_true c4
     clear c4
     (first | rw [c4b0] | (simp only [i64_w,i32_w];rw [c4b0]) | skip)
     have H' := Aside0.mk H
     clear H
     go_wp2
     repeat (go_quiet (fail);try go_wp2)
     go_meet
     case rel => exact ⟨_,(decide (x5_1 < (a1.size : Int))),(by first | rfl | (simp;done) | (simp [*];done)),H',⟨by have := HK1.out;first | omega | exact Nat.le_refl _⟩,by repeat (first | exact Drawn0.refl _ | apply Drawn0.step)⟩
    ·rw [if_neg c4] at H
     have c4b0 : decide (x5_1 < (a0.size : Int)) = false := decide_eq_false c4
     clear c4
     (first | rw [c4b0] | (simp only [i64_w,i32_w];rw [c4b0]) | skip)
     have H' := Aside0.mk H
     clear H
     go_wp2
     repeat (go_quiet (fail);try go_wp2)
     go_meet
     case rel => exact ⟨_,(false),(by first | rfl | (simp;done) | (simp [*];done)),H',⟨by have := HK1.out;first | omega | exact Nat.le_refl _⟩,by repeat (first | exact Drawn0.refl _ | apply Drawn0.step)⟩
   case rest =>
    clear HC3
    try clear c1
    try clear p2
    try clear c4
    try clear c4b0
    try clear p2
    obtain ⟨kq,x15_2,rfl,HA,HJ2,⟨mc2,rfl⟩⟩ := hcut
    cases kq with
    | zero => exact absurd HA.out (by simp [verdererref01_Text.j1])
    | succ kj2 =>
     have H := HA.out
     clear HA
     simp only [verdererref01_Text.j1] at H
     by_cases c5 : x15_2 = true
     ·subst c5
      have H1 : (if 0 ≤ x5_1 then (if x5_1 < (a0.size : Int) then (if x5_1 < (a1.size : Int) then (if (bt a0 x5_1) < (bt a1 x5_1) then (some (-1)) else (if (bt a0 x5_1) > (bt a1 x5_1) then (some 1) else (verdererref01_Text.l0 kj2 a0 a1 (wrap64 (x5_1 + 1))))) else (none)) else (none)) else (none)) = some r := by rw [if_pos rfl] at H;exact H
      clear H
      have H := H1
      clear H1
      by_cases c6 : 0 ≤ x5_1
      ·rw [if_pos c6] at H
       have c6b0 : decide (0 ≤ x5_1) = true := decide_eq_true c6
       clear c6
       by_cases c7 : x5_1 < (a0.size : Int)
       ·rw [if_pos c7] at H
        have c7b0 : decide (x5_1 < (a0.size : Int)) = true := decide_eq_true c7
        clear c7
        by_cases c9 : x5_1 < (a1.size : Int)
        ·rw [if_pos c9] at H
         have c9b0 : decide (x5_1 < (a1.size : Int)) = true := decide_eq_true c9
         clear c9
         by_cases c11 : (bt a0 x5_1) < (bt a1 x5_1)
         ·rw [if_pos c11] at H
          have c11b0 : decide ((bt a0 x5_1) < (bt a1 x5_1)) = true := decide_eq_true c11
          clear c11
          obtain rfl := Option.some.inj H
          have p8 : 0 ≤ (x5_1 : Int) := of_decide_eq_true (by first | (with_reducible assumption) | assumption)
          have q8 : x5_1 < (a0.size : Int) := of_decide_eq_true (by first | (with_reducible assumption) | assumption)
          have hx8 := bt_at a0 x5_1
          replace p8 := eq_true p8
          replace q8 := eq_true q8
          have p10 : 0 ≤ (x5_1 : Int) := of_decide_eq_true (by first | (with_reducible assumption) | assumption)
          have q10 : x5_1 < (a1.size : Int) := of_decide_eq_true (by first | (with_reducible assumption) | assumption)
          have hx10 := bt_at a1 x5_1
          replace p10 := eq_true p10
          replace q10 := eq_true q10
          go_wp2
          repeat (go_quiet (fail);try go_wp2)
          go_ret
          exact ⟨by first | rfl | (simp;done) | (simp [*];done),by repeat (first | exact Drawn0.refl _ | apply Drawn0.step)⟩
         ·rw [if_neg c11] at H
          have c11b0 : decide ((bt a0 x5_1) < (bt a1 x5_1)) = false := decide_eq_false c11
          clear c11
          by_cases c14 : (bt a0 x5_1) > (bt a1 x5_1)
          ·rw [if_pos c14] at H
           have c14b0 : decide ((bt a1 x5_1) < (bt a0 x5_1)) = true := decide_eq_true c14
           clear c14
           obtain rfl := Option.some.inj H
           have p8 : 0 ≤ (x5_1 : Int) := of_decide_eq_true (by first | (with_reducible assumption) | assumption)
           have q8 : x5_1 < (a0.size : Int) := of_decide_eq_true (by first | (with_reducible assumption) | assumption)
           have hx8 := bt_at a0 x5_1
           replace p8 := eq_true p8
           replace q8 := eq_true q8
           have p10 : 0 ≤ (x5_1 : Int) := of_decide_eq_true (by first | (with_reducible assumption) | assumption)
           have q10 : x5_1 < (a1.size : Int) := of_decide_eq_true (by first | (with_reducible assumption) | assumption)
           have hx10 := bt_at a1 x5_1
           replace p10 := eq_true p10
           replace q10 := eq_true q10
           have p12 : 0 ≤ (x5_1 : Int) := of_decide_eq_true (by first | (with_reducible assumption) | assumption)
           have q12 : x5_1 < (a0.size : Int) := of_decide_eq_true (by first | (with_reducible assumption) | assumption)
           have hx12 := bt_at a0 x5_1
           replace p12 := eq_true p12
           replace q12 := eq_true q12
           have p13 : 0 ≤ (x5_1 : Int) := of_decide_eq_true (by first | (with_reducible assumption) | assumption)
           have q13 : x5_1 < (a1.size : Int) := of_decide_eq_true (by first | (with_reducible assumption) | assumption)
           have hx13 := bt_at a1 x5_1
           replace p13 := eq_true p13
           replace q13 := eq_true q13
           go_wp2
           repeat (go_quiet (fail);try go_wp2)
           go_ret
           exact ⟨by first | rfl | (simp;done) | (simp [*];done),by repeat (first | exact Drawn0.refl _ | apply Drawn0.step)⟩
          ·rw [if_neg c14] at H
           have c14b0 : decide ((bt a1 x5_1) < (bt a0 x5_1)) = false := decide_eq_false c14
           clear c14
           have H' := Aside0.mk H
           clear H
           have p8 : 0 ≤ (x5_1 : Int) := of_decide_eq_true (by first | (with_reducible assumption) | assumption)
           have q8 : x5_1 < (a0.size : Int) := of_decide_eq_true (by first | (with_reducible assumption) | assumption)
           have hx8 := bt_at a0 x5_1
           replace p8 := eq_true p8
           replace q8 := eq_true q8
           have p10 : 0 ≤ (x5_1 : Int) := of_decide_eq_true (by first | (with_reducible assumption) | assumption)
           have q10 : x5_1 < (a1.size : Int) := of_decide_eq_true (by first | (with_reducible assumption) | assumption)
           have hx10 := bt_at a1 x5_1
           replace p10 := eq_true p10
           replace q10 := eq_true q10
           have p12 : 0 ≤ (x5_1 : Int) := of_decide_eq_true (by first | (with_reducible assumption) | assumption)
           have q12 : x5_1 < (a0.size : Int) := of_decide_eq_true (by first | (with_reducible assumption) | assumption)
           have hx12 := bt_at a0 x5_1
           replace p12 := eq_true p12
           replace q12 := eq_true q12
           have p13 : 0 ≤ (x5_1 : Int) := of_decide_eq_true (by first | (with_reducible assumption) | assumption)
           have q13 : x5_1 < (a1.size : Int) := of_decide_eq_true (by first | (with_reducible assumption) | assumption)
           have hx13 := bt_at a1 x5_1
           replace p13 := eq_true p13
           replace q13 := eq_true q13
           go_wp2
           repeat (go_quiet (fail);try go_wp2)
           go_roundg kj2
           case measure => have := HK1.out;have := HJ2.out;omega
           case rel => exact ⟨(wrap64 (x5_1 + 1)),(by first | rfl | (simp;done) | (simp [*];done)),H',⟨by have := HK1.out;have := HJ2.out;omega⟩,by repeat (first | exact Drawn0.refl _ | apply Drawn0.step)⟩
        ·rw [if_neg c9] at H
         exact absurd H (by simp)
       ·rw [if_neg c7] at H
        exact absurd H (by simp)
      ·rw [if_neg c6] at H
       exact absurd H (by simp)
     ·replace c5 := Bool.eq_false_iff.mpr c5
      subst c5
      have H1 : (if (a0.size : Int) < (a1.size : Int) then (some (-1)) else (if (a0.size : Int) > (a1.size : Int) then (some 1) else (some 0))) = some r := by rw [if_neg (show ¬ (false = true) by decide)] at H;exact H
      clear H
      have H := H1
      clear H1
      by_cases c15 : (a0.size : Int) < (a1.size : Int)
      ·rw [if_pos c15] at H
       have c15b0 : decide ((a0.size : Int) < (a1.size : Int)) = true := decide_eq_true c15
       have c15b1 : decide (a0.size < a1.size) = true := decide_eq_true (Int.ofNat_lt.mp c15)
       clear c15
       obtain rfl := Option.some.inj H
       go_wp2
       repeat (go_quiet (fail);try go_wp2)
       go_ret
       exact ⟨by first | rfl | (simp;done) | (simp [*];done),by repeat (first | exact Drawn0.refl _ | apply Drawn0.step)⟩
      ·rw [if_neg c15] at H
       have c15b0 : decide ((a0.size : Int) < (a1.size : Int)) = false := decide_eq_false c15
       have c15b1 : decide (a0.size < a1.size) = false := decide_eq_false (fun h => c15 (Int.ofNat_lt.mpr h))
       clear c15
       by_cases c16 : (a0.size : Int) > (a1.size : Int)
       ·rw [if_pos c16] at H
        have c16b0 : decide ((a1.size : Int) < (a0.size : Int)) = true := decide_eq_true c16
        have c16b1 : decide (a1.size < a0.size) = true := decide_eq_true (Int.ofNat_lt.mp c16)
        clear c16
        obtain rfl := Option.some.inj H
        go_wp2
        repeat (go_quiet (fail);try go_wp2)
        go_ret
        exact ⟨by first | rfl | (simp;done) | (simp [*];done),by repeat (first | exact Drawn0.refl _ | apply Drawn0.step)⟩
       ·rw [if_neg c16] at H
        have c16b0 : decide ((a1.size : Int) < (a0.size : Int)) = false := decide_eq_false c16
        have c16b1 : decide (a1.size < a0.size) = false := decide_eq_false (fun h => c16 (Int.ofNat_lt.mpr h))
        clear c16
        obtain rfl := Option.some.inj H
        go_wp2
        repeat (go_quiet (fail);try go_wp2)
        go_ret
        exact ⟨by first | rfl | (simp;done) | (simp [*];done),by repeat (first | exact Drawn0.refl _ | apply Drawn0.step)⟩
end Go.Proofs.Ythmbfcfomcaaaaa.Z
end
section
namespace Go.Proofs.Ythmbfcfomcaaaaa.Z
open Go.RowKit Go.Proofs.YthmbfcfomcaaaaaW.PrintWords Go.Proofs.YthmbfcfomcaaaaaW.PrintLast Go.Proofs.YthmbfcfomcaaaaaW.PrintMore
attribute [local go_sem] max2_int min2_int max_two min_two max_three min_three max_four min_four
set_option linter.unusedVariables false
set_option linter.unusedSimpArgs false
def verdererref01_Compare.f (k : Nat) (a0_0 : Int) (a0_1 : Bool) (a0_2 : Int) (a0_3 : ByteArray) (a1_0 : Int) (a1_1 : Bool) (a1_2 : Int) (a1_3 : ByteArray) : Option (Int) := if a0_0 < a1_0 then (some (-1)) else (if a0_0 > a1_0 then (some 1) else (if a0_0 = 1 then (if (a0_1 == a1_1) = true then (some 0) else (if a1_1 = true then (some (-1)) else (some 1))) else (if a0_0 = 2 then (if a0_2 < a1_2 then (some (-1)) else (if a0_2 > a1_2 then (some 1) else (some 0))) else (if a0_0 = 3 then ((verdererref01_Text.f k a0_3 a1_3).bind fun t158 => (some t158)) else (some 0)))))
set_option maxHeartbeats 8000000 in
set_option maxRecDepth 100000 in
theorem verdererref01_Compare.calls (k : Nat) (a0_0 : Int) (a0_1 : Bool) (a0_2 : Int) (a0_3 : ByteArray) (a1_0 : Int) (a1_1 : Bool) (a1_2 : Int) (a1_3 : ByteArray) (r : Int) (w : World) (h : verdererref01_Compare.f k a0_0 a0_1 a0_2 a0_3 a1_0 a1_1 a1_2 a1_3 = some r) :
  Calls Try.prog 116 #[.agg #[.int .i64 a0_0,.bool a0_1,.int .i64 a0_2,.string a0_3],.agg #[.int .i64 a1_0,.bool a1_1,.int .i64 a1_2,.string a1_3]] w fun e w' => e = .returned (.int .i64 r) ∧ Below w.heap.size w w' := by
 have hu66 := Try.underlying66
 have HB := Aside0.mk (Below.refl w.heap.size w)
 have H : (if a0_0 < a1_0 then (some (-1)) else (if a0_0 > a1_0 then (some 1) else (if a0_0 = 1 then (if (a0_1 == a1_1) = true then (some 0) else (if a1_1 = true then (some (-1)) else (some 1))) else (if a0_0 = 2 then (if a0_2 < a1_2 then (some (-1)) else (if a0_2 > a1_2 then (some 1) else (some 0))) else (if a0_0 = 3 then ((verdererref01_Text.f k a0_3 a1_3).bind fun t158 => (some t158)) else (some 0)))))) = some r := h
 clear h
 by_cases c3 : a0_0 < a1_0
 ·rw [if_pos c3] at H
  have c3b0 : decide (a0_0 < a1_0) = true := decide_eq_true c3
  clear c3
  obtain rfl := Option.some.inj H
  go_enter Try.func116,Try.ntmps116
  go_wp2_with (first | ((with_reducible refine q0p (N := 2) rfl ?_);refine q0o ?hg (N := 2) ?hd (cs := #[.int .i64 a0_0,.bool a0_1,.int .i64 a0_2,.string a0_3]) (t := 66) ?hr ?_;(case hd => rfl);(case hg => rfl);(case hr => first | (go_simp;done) | (go_simp;rfl));intro gb156 hg w4 hbox hb;have n0_ := Aside0.mk (q0n (by repeat (first | (with_reducible first | exact HB.out | apply q0b | apply q0a | apply q0c) | exact HB.out)) hb);have n1_ := Aside0.mk (hbox);have n2_ := Aside0.mk ((by rw [hg];exact (q0g (by repeat (first | (with_reducible first | exact HB.out | apply q0b | apply q0a | apply q0c) | exact HB.out))) : w.heap.size ≤ gb156));have n3_ := Aside0.mk ((by rw [hg];exact (q0g (by repeat (first | (with_reducible first | exact HB.out | apply q0b | apply q0a | apply q0c) | exact HB.out))) : w.heap.size ≤ gb156));clear HB;have HB := n0_;have BK156 := n1_;have GW156 := n2_;have GE156 := n3_;clear n0_ n1_ n2_ n3_;clear hb hbox hg) | ((with_reducible refine q0p (N := 3) rfl ?_);refine q0o ?hg (N := 3) ?hd (cs := #[.int .i64 a1_0,.bool a1_1,.int .i64 a1_2,.string a1_3]) (t := 66) ?hr ?_;(case hd => rfl);(case hg => rfl);(case hr => first | (go_simp;done) | (go_simp;rfl));intro gb157 hg w5 hbox hb;have n0_ := Aside0.mk (q0s (g := gb156) (o := .cells #[.int .i64 a0_0,.bool a0_1,.int .i64 a0_2,.string a0_3] 66 (0,0)) (by (with_reducible repeat (first | refine q0j ?_ _ | refine q0k ?_ | refine q0h ?_ _));exact BK156.out) hb);have n1_ := Aside0.mk (q0n (by repeat (first | (with_reducible first | exact HB.out | apply q0b | apply q0a | apply q0c | refine q0i ?_ GE156.out) | exact HB.out)) hb);have n2_ := Aside0.mk (hbox);have n3_ := Aside0.mk ((by rw [hg];exact (q0g (by repeat (first | (with_reducible first | exact HB.out | apply q0b | apply q0a | apply q0c | refine q0i ?_ GE156.out) | exact HB.out))) : w.heap.size ≤ gb157));have n4_ := Aside0.mk ((by rw [hg];exact (q0g (by repeat (first | (with_reducible first | exact HB.out | apply q0b | apply q0a | apply q0c | refine q0i ?_ GE156.out) | exact HB.out))) : w.heap.size ≤ gb157));have n5_ := Aside0.mk ((by rw [hg];exact Nat.ne_of_lt (blk_lt (g := gb156) (o := .cells #[.int .i64 a0_0,.bool a0_1,.int .i64 a0_2,.string a0_3] 66 (0,0)) (by (with_reducible repeat (first | refine q0j ?_ _ | refine q0k ?_ | refine q0h ?_ _));exact BK156.out)) : gb156 ≠ gb157));have n6_ := Aside0.mk ((by rw [hg];exact Nat.ne_of_gt (blk_lt (g := gb156) (o := .cells #[.int .i64 a0_0,.bool a0_1,.int .i64 a0_2,.string a0_3] 66 (0,0)) (by (with_reducible repeat (first | refine q0j ?_ _ | refine q0k ?_ | refine q0h ?_ _));exact BK156.out)) : gb157 ≠ gb156));clear BK156;clear HB;have BK156 := n0_;have HB := n1_;have BK157 := n2_;have GW157 := n3_;have GE157 := n4_;have NB156_157 := n5_;have NB157_156 := n6_;clear n0_ n1_ n2_ n3_ n4_ n5_ n6_;clear hb hbox hg;have hnb6 := NB156_157.out;have hnc6 := NB157_156.out;have hcz7_0 : w5.cell? ⟨gb156,0,none⟩ = some (.int .i64 a0_0) := (q0d BK156.out 0).trans rfl;have hcz7_1 : w5.cell? ⟨gb156,1,none⟩ = some (.bool a0_1) := (q0d BK156.out 1).trans rfl;have hcz7_2 : w5.cell? ⟨gb156,2,none⟩ = some (.int .i64 a0_2) := (q0d BK156.out 2).trans rfl;have hcz7_3 : w5.cell? ⟨gb156,3,none⟩ = some (.string a0_3) := (q0d BK156.out 3).trans rfl;have hfz7_0 := q0e BK156.out 0;have hfz7_1 := q0e BK156.out 1;have hfz7_2 := q0e BK156.out 2;have hfz7_3 := q0e BK156.out 3;have hcz8_0 : w5.cell? ⟨gb157,0,none⟩ = some (.int .i64 a1_0) := (q0d BK157.out 0).trans rfl;have hcz8_1 : w5.cell? ⟨gb157,1,none⟩ = some (.bool a1_1) := (q0d BK157.out 1).trans rfl;have hcz8_2 : w5.cell? ⟨gb157,2,none⟩ = some (.int .i64 a1_2) := (q0d BK157.out 2).trans rfl;have hcz8_3 : w5.cell? ⟨gb157,3,none⟩ = some (.string a1_3) := (q0d BK157.out 3).trans rfl;have hfz8_0 := q0e BK157.out 0;have hfz8_1 := q0e BK157.out 1;have hfz8_2 := q0e BK157.out 2;have hfz8_3 := q0e BK157.out 3))
  go_ret
  exact ⟨by first | rfl | (simp [q0m,q0l] <;> rfl) | (simp [*,q0m,q0l] <;> rfl),by repeat (first | (with_reducible first | exact HB.out | apply q0b | apply q0a | apply q0c | refine q0i ?_ GE156.out | refine q0i ?_ GE157.out) | exact HB.out)⟩
 ·rw [if_neg c3] at H
  have c3b0 : decide (a0_0 < a1_0) = false := decide_eq_false c3
  clear c3
  by_cases c9 : a0_0 > a1_0
  ·rw [if_pos c9] at H
   have c9b0 : decide (a1_0 < a0_0) = true := decide_eq_true c9
   clear c9
   obtain rfl := Option.some.inj H
   go_enter Try.func116,Try.ntmps116
   go_wp2_with (first | ((with_reducible refine q0p (N := 2) rfl ?_);refine q0o ?hg (N := 2) ?hd (cs := #[.int .i64 a0_0,.bool a0_1,.int .i64 a0_2,.string a0_3]) (t := 66) ?hr ?_;(case hd => rfl);(case hg => rfl);(case hr => first | (go_simp;done) | (go_simp;rfl));intro gb156 hg w10 hbox hb;have n0_ := Aside0.mk (q0n (by repeat (first | (with_reducible first | exact HB.out | apply q0b | apply q0a | apply q0c) | exact HB.out)) hb);have n1_ := Aside0.mk (hbox);have n2_ := Aside0.mk ((by rw [hg];exact (q0g (by repeat (first | (with_reducible first | exact HB.out | apply q0b | apply q0a | apply q0c) | exact HB.out))) : w.heap.size ≤ gb156));have n3_ := Aside0.mk ((by rw [hg];exact (q0g (by repeat (first | (with_reducible first | exact HB.out | apply q0b | apply q0a | apply q0c) | exact HB.out))) : w.heap.size ≤ gb156));clear HB;have HB := n0_;have BK156 := n1_;have GW156 := n2_;have GE156 := n3_;clear n0_ n1_ n2_ n3_;clear hb hbox hg) | ((with_reducible refine q0p (N := 3) rfl ?_);refine q0o ?hg (N := 3) ?hd (cs := #[.int .i64 a1_0,.bool a1_1,.int .i64 a1_2,.string a1_3]) (t := 66) ?hr ?_;(case hd => rfl);(case hg => rfl);(case hr => first | (go_simp;done) | (go_simp;rfl));intro gb157 hg w11 hbox hb;have n0_ := Aside0.mk (q0s (g := gb156) (o := .cells #[.int .i64 a0_0,.bool a0_1,.int .i64 a0_2,.string a0_3] 66 (0,0)) (by (with_reducible repeat (first | refine q0j ?_ _ | refine q0k ?_ | refine q0h ?_ _));exact BK156.out) hb);have n1_ := Aside0.mk (q0n (by repeat (first | (with_reducible first | exact HB.out | apply q0b | apply q0a | apply q0c | refine q0i ?_ GE156.out) | exact HB.out)) hb);have n2_ := Aside0.mk (hbox);have n3_ := Aside0.mk ((by rw [hg];exact (q0g (by repeat (first | (with_reducible first | exact HB.out | apply q0b | apply q0a | apply q0c | refine q0i ?_ GE156.out) | exact HB.out))) : w.heap.size ≤ gb157));have n4_ := Aside0.mk ((by rw [hg];exact (q0g (by repeat (first | (with_reducible first | exact HB.out | apply q0b | apply q0a | apply q0c | refine q0i ?_ GE156.out) | exact HB.out))) : w.heap.size ≤ gb157));have n5_ := Aside0.mk ((by rw [hg];exact Nat.ne_of_lt (blk_lt (g := gb156) (o := .cells #[.int .i64 a0_0,.bool a0_1,.int .i64 a0_2,.string a0_3] 66 (0,0)) (by (with_reducible repeat (first | refine q0j ?_ _ | refine q0k ?_ | refine q0h ?_ _));exact BK156.out)) : gb156 ≠ gb157));have n6_ := Aside0.mk ((by rw [hg];exact Nat.ne_of_gt (blk_lt (g := gb156) (o := .cells #[.int .i64 a0_0,.bool a0_1,.int .i64 a0_2,.string a0_3] 66 (0,0)) (by (with_reducible repeat (first | refine q0j ?_ _ | refine q0k ?_ | refine q0h ?_ _));exact BK156.out)) : gb157 ≠ gb156));clear BK156;clear HB;have BK156 := n0_;have HB := n1_;have BK157 := n2_;have GW157 := n3_;have GE157 := n4_;have NB156_157 := n5_;have NB157_156 := n6_;clear n0_ n1_ n2_ n3_ n4_ n5_ n6_;clear hb hbox hg;have hnb12 := NB156_157.out;have hnc12 := NB157_156.out;have hcz13_0 : w11.cell? ⟨gb156,0,none⟩ = some (.int .i64 a0_0) := (q0d BK156.out 0).trans rfl;have hcz13_1 : w11.cell? ⟨gb156,1,none⟩ = some (.bool a0_1) := (q0d BK156.out 1).trans rfl;have hcz13_2 : w11.cell? ⟨gb156,2,none⟩ = some (.int .i64 a0_2) := (q0d BK156.out 2).trans rfl;have hcz13_3 : w11.cell? ⟨gb156,3,none⟩ = some (.string a0_3) := (q0d BK156.out 3).trans rfl;have hfz13_0 := q0e BK156.out 0;have hfz13_1 := q0e BK156.out 1;have hfz13_2 := q0e BK156.out 2;have hfz13_3 := q0e BK156.out 3;have hcz14_0 : w11.cell? ⟨gb157,0,none⟩ = some (.int .i64 a1_0) := (q0d BK157.out 0).trans rfl;have hcz14_1 : w11.cell? ⟨gb157,1,none⟩ = some (.bool a1_1) := (q0d BK157.out 1).trans rfl;have hcz14_2 : w11.cell? ⟨gb157,2,none⟩ = some (.int .i64 a1_2) := (q0d BK157.out 2).trans rfl;have hcz14_3 : w11.cell? ⟨gb157,3,none⟩ = some (.string a1_3) := (q0d BK157.out 3).trans rfl;have hfz14_0 := q0e BK157.out 0;have hfz14_1 := q0e BK157.out 1;have hfz14_2 := q0e BK157.out 2;have hfz14_3 := q0e BK157.out 3))
   go_ret
   exact ⟨by first | rfl | (simp [q0m,q0l] <;> rfl) | (simp [*,q0m,q0l] <;> rfl),by repeat (first | (with_reducible first | exact HB.out | apply q0b | apply q0a | apply q0c | refine q0i ?_ GE156.out | refine q0i ?_ GE157.out) | exact HB.out)⟩
  ·rw [if_neg c9] at H
   have c9b0 : decide (a1_0 < a0_0) = false := decide_eq_false c9
   clear c9
   by_cases c15 : a0_0 = 1
   ·rw [if_pos c15] at H
    have c15b0 : (a0_0 == 1) = true := beq_iff_eq.mpr c15
    have c15b1 : (a0_0 != 1) = false := bne_eq_false_iff_eq.mpr c15
    clear c15
    by_cases c16 : (a0_1 == a1_1) = true
    ·rw [if_pos c16] at H
     have c16b0 : (a0_1 == a1_1) = true := c16
     (try (have c16b1 : decide (a0_1 = a1_1) = true := by simpa using c16))
     (try (have c16b2 : (a0_1 == a1_1) = true := by simpa using c16))
     clear c16
     obtain rfl := Option.some.inj H
     go_enter Try.func116,Try.ntmps116
     go_wp2_with (first | ((with_reducible refine q0p (N := 2) rfl ?_);refine q0o ?hg (N := 2) ?hd (cs := #[.int .i64 a0_0,.bool a0_1,.int .i64 a0_2,.string a0_3]) (t := 66) ?hr ?_;(case hd => rfl);(case hg => rfl);(case hr => first | (go_simp;done) | (go_simp;rfl));intro gb156 hg w17 hbox hb;have n0_ := Aside0.mk (q0n (by repeat (first | (with_reducible first | exact HB.out | apply q0b | apply q0a | apply q0c) | exact HB.out)) hb);have n1_ := Aside0.mk (hbox);have n2_ := Aside0.mk ((by rw [hg];exact (q0g (by repeat (first | (with_reducible first | exact HB.out | apply q0b | apply q0a | apply q0c) | exact HB.out))) : w.heap.size ≤ gb156));have n3_ := Aside0.mk ((by rw [hg];exact (q0g (by repeat (first | (with_reducible first | exact HB.out | apply q0b | apply q0a | apply q0c) | exact HB.out))) : w.heap.size ≤ gb156));clear HB;have HB := n0_;have BK156 := n1_;have GW156 := n2_;have GE156 := n3_;clear n0_ n1_ n2_ n3_;clear hb hbox hg) | ((with_reducible refine q0p (N := 3) rfl ?_);refine q0o ?hg (N := 3) ?hd (cs := #[.int .i64 a1_0,.bool a1_1,.int .i64 a1_2,.string a1_3]) (t := 66) ?hr ?_;(case hd => rfl);(case hg => rfl);(case hr => first | (go_simp;done) | (go_simp;rfl));intro gb157 hg w18 hbox hb;have n0_ := Aside0.mk (q0s (g := gb156) (o := .cells #[.int .i64 a0_0,.bool a0_1,.int .i64 a0_2,.string a0_3] 66 (0,0)) (by (with_reducible repeat (first | refine q0j ?_ _ | refine q0k ?_ | refine q0h ?_ _));exact BK156.out) hb);have n1_ := Aside0.mk (q0n (by repeat (first | (with_reducible first | exact HB.out | apply q0b | apply q0a | apply q0c | refine q0i ?_ GE156.out) | exact HB.out)) hb);have n2_ := Aside0.mk (hbox);have n3_ := Aside0.mk ((by rw [hg];exact (q0g (by repeat (first | (with_reducible first | exact HB.out | apply q0b | apply q0a | apply q0c | refine q0i ?_ GE156.out) | exact HB.out))) : w.heap.size ≤ gb157));have n4_ := Aside0.mk ((by rw [hg];exact (q0g (by repeat (first | (with_reducible first | exact HB.out | apply q0b | apply q0a | apply q0c | refine q0i ?_ GE156.out) | exact HB.out))) : w.heap.size ≤ gb157));have n5_ := Aside0.mk ((by rw [hg];exact Nat.ne_of_lt (blk_lt (g := gb156) (o := .cells #[.int .i64 a0_0,.bool a0_1,.int .i64 a0_2,.string a0_3] 66 (0,0)) (by (with_reducible repeat (first | refine q0j ?_ _ | refine q0k ?_ | refine q0h ?_ _));exact BK156.out)) : gb156 ≠ gb157));have n6_ := Aside0.mk ((by rw [hg];exact Nat.ne_of_gt (blk_lt (g := gb156) (o := .cells #[.int .i64 a0_0,.bool a0_1,.int .i64 a0_2,.string a0_3] 66 (0,0)) (by (with_reducible repeat (first | refine q0j ?_ _ | refine q0k ?_ | refine q0h ?_ _));exact BK156.out)) : gb157 ≠ gb156));clear BK156;clear HB;have BK156 := n0_;have HB := n1_;have BK157 := n2_;have GW157 := n3_;have GE157 := n4_;have NB156_157 := n5_;have NB157_156 := n6_;clear n0_ n1_ n2_ n3_ n4_ n5_ n6_;clear hb hbox hg;have hnb19 := NB156_157.out;have hnc19 := NB157_156.out;have hcz20_0 : w18.cell? ⟨gb156,0,none⟩ = some (.int .i64 a0_0) := (q0d BK156.out 0).trans rfl;have hcz20_1 : w18.cell? ⟨gb156,1,none⟩ = some (.bool a0_1) := (q0d BK156.out 1).trans rfl;have hcz20_2 : w18.cell? ⟨gb156,2,none⟩ = some (.int .i64 a0_2) := (q0d BK156.out 2).trans rfl;have hcz20_3 : w18.cell? ⟨gb156,3,none⟩ = some (.string a0_3) := (q0d BK156.out 3).trans rfl;have hfz20_0 := q0e BK156.out 0;have hfz20_1 := q0e BK156.out 1;have hfz20_2 := q0e BK156.out 2;have hfz20_3 := q0e BK156.out 3;have hcz21_0 : w18.cell? ⟨gb157,0,none⟩ = some (.int .i64 a1_0) := (q0d BK157.out 0).trans rfl;have hcz21_1 : w18.cell? ⟨gb157,1,none⟩ = some (.bool a1_1) := (q0d BK157.out 1).trans rfl;have hcz21_2 : w18.cell? ⟨gb157,2,none⟩ = some (.int .i64 a1_2) := (q0d BK157.out 2).trans rfl;have hcz21_3 : w18.cell? ⟨gb157,3,none⟩ = some (.string a1_3) := (q0d BK157.out 3).trans rfl;have hfz21_0 := q0e BK157.out 0;have hfz21_1 := q0e BK157.out 1;have hfz21_2 := q0e BK157.out 2;have hfz21_3 := q0e BK157.out 3))
     go_ret
     exact ⟨by first | rfl | (simp [q0m,q0l] <;> rfl) | (simp [*,q0m,q0l] <;> rfl),by repeat (first | (with_reducible first | exact HB.out | apply q0b | apply q0a | apply q0c | refine q0i ?_ GE156.out | refine q0i ?_ GE157.out) | exact HB.out)⟩
    ·rw [if_neg c16] at H
     have c16b0 : (a0_1 == a1_1) = false := by simpa using c16
     (try (have c16b1 : decide (a0_1 = a1_1) = false := by simpa using c16))
     (try (have c16b2 : (a0_1 == a1_1) = false := by simpa using c16))
     (try (have c16b3 : ¬ (a0_1 = a1_1) := by simpa using c16))
     clear c16
     by_cases c22 : a1_1 = true
     ·subst c22
      have H1 : (some (-1)) = some r := by rw [if_pos rfl] at H;exact H
      clear H
      have H := H1
      clear H1
      obtain rfl := Option.some.inj H
      go_enter Try.func116,Try.ntmps116
      go_wp2_with (first | ((with_reducible refine q0p (N := 2) rfl ?_);refine q0o ?hg (N := 2) ?hd (cs := #[.int .i64 a0_0,.bool a0_1,.int .i64 a0_2,.string a0_3]) (t := 66) ?hr ?_;(case hd => rfl);(case hg => rfl);(case hr => first | (go_simp;done) | (go_simp;rfl));intro gb156 hg w23 hbox hb;have n0_ := Aside0.mk (q0n (by repeat (first | (with_reducible first | exact HB.out | apply q0b | apply q0a | apply q0c) | exact HB.out)) hb);have n1_ := Aside0.mk (hbox);have n2_ := Aside0.mk ((by rw [hg];exact (q0g (by repeat (first | (with_reducible first | exact HB.out | apply q0b | apply q0a | apply q0c) | exact HB.out))) : w.heap.size ≤ gb156));have n3_ := Aside0.mk ((by rw [hg];exact (q0g (by repeat (first | (with_reducible first | exact HB.out | apply q0b | apply q0a | apply q0c) | exact HB.out))) : w.heap.size ≤ gb156));clear HB;have HB := n0_;have BK156 := n1_;have GW156 := n2_;have GE156 := n3_;clear n0_ n1_ n2_ n3_;clear hb hbox hg) | ((with_reducible refine q0p (N := 3) rfl ?_);refine q0o ?hg (N := 3) ?hd (cs := #[.int .i64 a1_0,.bool true,.int .i64 a1_2,.string a1_3]) (t := 66) ?hr ?_;(case hd => rfl);(case hg => rfl);(case hr => first | (go_simp;done) | (go_simp;rfl));intro gb157 hg w24 hbox hb;have n0_ := Aside0.mk (q0s (g := gb156) (o := .cells #[.int .i64 a0_0,.bool a0_1,.int .i64 a0_2,.string a0_3] 66 (0,0)) (by (with_reducible repeat (first | refine q0j ?_ _ | refine q0k ?_ | refine q0h ?_ _));exact BK156.out) hb);have n1_ := Aside0.mk (q0n (by repeat (first | (with_reducible first | exact HB.out | apply q0b | apply q0a | apply q0c | refine q0i ?_ GE156.out) | exact HB.out)) hb);have n2_ := Aside0.mk (hbox);have n3_ := Aside0.mk ((by rw [hg];exact (q0g (by repeat (first | (with_reducible first | exact HB.out | apply q0b | apply q0a | apply q0c | refine q0i ?_ GE156.out) | exact HB.out))) : w.heap.size ≤ gb157));have n4_ := Aside0.mk ((by rw [hg];exact (q0g (by repeat (first | (with_reducible first | exact HB.out | apply q0b | apply q0a | apply q0c | refine q0i ?_ GE156.out) | exact HB.out))) : w.heap.size ≤ gb157));have n5_ := Aside0.mk ((by rw [hg];exact Nat.ne_of_lt (blk_lt (g := gb156) (o := .cells #[.int .i64 a0_0,.bool a0_1,.int .i64 a0_2,.string a0_3] 66 (0,0)) (by (with_reducible repeat (first | refine q0j ?_ _ | refine q0k ?_ | refine q0h ?_ _));exact BK156.out)) : gb156 ≠ gb157));have n6_ := Aside0.mk ((by rw [hg];exact Nat.ne_of_gt (blk_lt (g := gb156) (o := .cells #[.int .i64 a0_0,.bool a0_1,.int .i64 a0_2,.string a0_3] 66 (0,0)) (by (with_reducible repeat (first | refine q0j ?_ _ | refine q0k ?_ | refine q0h ?_ _));exact BK156.out)) : gb157 ≠ gb156));clear BK156;clear HB;have BK156 := n0_;have HB := n1_;have BK157 := n2_;have GW157 := n3_;have GE157 := n4_;have NB156_157 := n5_;have NB157_156 := n6_;clear n0_ n1_ n2_ n3_ n4_ n5_ n6_;clear hb hbox hg;have hnb25 := NB156_157.out;have hnc25 := NB157_156.out;have hcz26_0 : w24.cell? ⟨gb156,0,none⟩ = some (.int .i64 a0_0) := (q0d BK156.out 0).trans rfl;have hcz26_1 : w24.cell? ⟨gb156,1,none⟩ = some (.bool a0_1) := (q0d BK156.out 1).trans rfl;have hcz26_2 : w24.cell? ⟨gb156,2,none⟩ = some (.int .i64 a0_2) := (q0d BK156.out 2).trans rfl;have hcz26_3 : w24.cell? ⟨gb156,3,none⟩ = some (.string a0_3) := (q0d BK156.out 3).trans rfl;have hfz26_0 := q0e BK156.out 0;have hfz26_1 := q0e BK156.out 1;have hfz26_2 := q0e BK156.out 2;have hfz26_3 := q0e BK156.out 3;have hcz27_0 : w24.cell? ⟨gb157,0,none⟩ = some (.int .i64 a1_0) := (q0d BK157.out 0).trans rfl;have hcz27_1 : w24.cell? ⟨gb157,1,none⟩ = some (.bool true) := (q0d BK157.out 1).trans rfl;have hcz27_2 : w24.cell? ⟨gb157,2,none⟩ = some (.int .i64 a1_2) := (q0d BK157.out 2).trans rfl;have hcz27_3 : w24.cell? ⟨gb157,3,none⟩ = some (.string a1_3) := (q0d BK157.out 3).trans rfl;have hfz27_0 := q0e BK157.out 0;have hfz27_1 := q0e BK157.out 1;have hfz27_2 := q0e BK157.out 2;have hfz27_3 := q0e BK157.out 3))
      go_ret
      exact ⟨by first | rfl | (simp [q0m,q0l] <;> rfl) | (simp [*,q0m,q0l] <;> rfl),by repeat (first | (with_reducible first | exact HB.out | apply q0b | apply q0a | apply q0c | refine q0i ?_ GE156.out | refine q0i ?_ GE157.out) | exact HB.out)⟩
     ·replace c22 := Bool.eq_false_iff.mpr c22
      subst c22
      have H1 : (some 1) = some r := by rw [if_neg (show ¬ (false = true) by decide)] at H;exact H
      clear H
      have H := H1
      clear H1
      obtain rfl := Option.some.inj H
      go_enter Try.func116,Try.ntmps116
      go_wp2_with (first | ((with_reducible refine q0p (N := 2) rfl ?_);refine q0o ?hg (N := 2) ?hd (cs := #[.int .i64 a0_0,.bool a0_1,.int .i64 a0_2,.string a0_3]) (t := 66) ?hr ?_;(case hd => rfl);(case hg => rfl);(case hr => first | (go_simp;done) | (go_simp;rfl));intro gb156 hg w28 hbox hb;have n0_ := Aside0.mk (q0n (by repeat (first | (with_reducible first | exact HB.out | apply q0b | apply q0a | apply q0c) | exact HB.out)) hb);have n1_ := Aside0.mk (hbox);have n2_ := Aside0.mk ((by rw [hg];exact (q0g (by repeat (first | (with_reducible first | exact HB.out | apply q0b | apply q0a | apply q0c) | exact HB.out))) : w.heap.size ≤ gb156));have n3_ := Aside0.mk ((by rw [hg];exact (q0g (by repeat (first | (with_reducible first | exact HB.out | apply q0b | apply q0a | apply q0c) | exact HB.out))) : w.heap.size ≤ gb156));clear HB;have HB := n0_;have BK156 := n1_;have GW156 := n2_;have GE156 := n3_;clear n0_ n1_ n2_ n3_;clear hb hbox hg) | ((with_reducible refine q0p (N := 3) rfl ?_);refine q0o ?hg (N := 3) ?hd (cs := #[.int .i64 a1_0,.bool false,.int .i64 a1_2,.string a1_3]) (t := 66) ?hr ?_;(case hd => rfl);(case hg => rfl);(case hr => first | (go_simp;done) | (go_simp;rfl));intro gb157 hg w29 hbox hb;have n0_ := Aside0.mk (q0s (g := gb156) (o := .cells #[.int .i64 a0_0,.bool a0_1,.int .i64 a0_2,.string a0_3] 66 (0,0)) (by (with_reducible repeat (first | refine q0j ?_ _ | refine q0k ?_ | refine q0h ?_ _));exact BK156.out) hb);have n1_ := Aside0.mk (q0n (by repeat (first | (with_reducible first | exact HB.out | apply q0b | apply q0a | apply q0c | refine q0i ?_ GE156.out) | exact HB.out)) hb);have n2_ := Aside0.mk (hbox);have n3_ := Aside0.mk ((by rw [hg];exact (q0g (by repeat (first | (with_reducible first | exact HB.out | apply q0b | apply q0a | apply q0c | refine q0i ?_ GE156.out) | exact HB.out))) : w.heap.size ≤ gb157));have n4_ := Aside0.mk ((by rw [hg];exact (q0g (by repeat (first | (with_reducible first | exact HB.out | apply q0b | apply q0a | apply q0c | refine q0i ?_ GE156.out) | exact HB.out))) : w.heap.size ≤ gb157));have n5_ := Aside0.mk ((by rw [hg];exact Nat.ne_of_lt (blk_lt (g := gb156) (o := .cells #[.int .i64 a0_0,.bool a0_1,.int .i64 a0_2,.string a0_3] 66 (0,0)) (by (with_reducible repeat (first | refine q0j ?_ _ | refine q0k ?_ | refine q0h ?_ _));exact BK156.out)) : gb156 ≠ gb157));have n6_ := Aside0.mk ((by rw [hg];exact Nat.ne_of_gt (blk_lt (g := gb156) (o := .cells #[.int .i64 a0_0,.bool a0_1,.int .i64 a0_2,.string a0_3] 66 (0,0)) (by (with_reducible repeat (first | refine q0j ?_ _ | refine q0k ?_ | refine q0h ?_ _));exact BK156.out)) : gb157 ≠ gb156));clear BK156;clear HB;have BK156 := n0_;have HB := n1_;have BK157 := n2_;have GW157 := n3_;have GE157 := n4_;have NB156_157 := n5_;have NB157_156 := n6_;clear n0_ n1_ n2_ n3_ n4_ n5_ n6_;clear hb hbox hg;have hnb30 := NB156_157.out;have hnc30 := NB157_156.out;have hcz31_0 : w29.cell? ⟨gb156,0,none⟩ = some (.int .i64 a0_0) := (q0d BK156.out 0).trans rfl;have hcz31_1 : w29.cell? ⟨gb156,1,none⟩ = some (.bool a0_1) := (q0d BK156.out 1).trans rfl;have hcz31_2 : w29.cell? ⟨gb156,2,none⟩ = some (.int .i64 a0_2) := (q0d BK156.out 2).trans rfl;have hcz31_3 : w29.cell? ⟨gb156,3,none⟩ = some (.string a0_3) := (q0d BK156.out 3).trans rfl;have hfz31_0 := q0e BK156.out 0;have hfz31_1 := q0e BK156.out 1;have hfz31_2 := q0e BK156.out 2;have hfz31_3 := q0e BK156.out 3;have hcz32_0 : w29.cell? ⟨gb157,0,none⟩ = some (.int .i64 a1_0) := (q0d BK157.out 0).trans rfl;have hcz32_1 : w29.cell? ⟨gb157,1,none⟩ = some (.bool false) := (q0d BK157.out 1).trans rfl;have hcz32_2 : w29.cell? ⟨gb157,2,none⟩ = some (.int .i64 a1_2) := (q0d BK157.out 2).trans rfl;have hcz32_3 : w29.cell? ⟨gb157,3,none⟩ = some (.string a1_3) := (q0d BK157.out 3).trans rfl;have hfz32_0 := q0e BK157.out 0;have hfz32_1 := q0e BK157.out 1;have hfz32_2 := q0e BK157.out 2;have hfz32_3 := q0e BK157.out 3))
      go_ret
      exact ⟨by first | rfl | (simp [q0m,q0l] <;> rfl) | (simp [*,q0m,q0l] <;> rfl),by repeat (first | (with_reducible first | exact HB.out | apply q0b | apply q0a | apply q0c | refine q0i ?_ GE156.out | refine q0i ?_ GE157.out) | exact HB.out)⟩
   ·rw [if_neg c15] at H
    have c15b0 : (a0_0 == 1) = false := beq_eq_false_iff_ne.mpr c15
    have c15b1 : (a0_0 != 1) = true := bne_iff_ne.mpr c15
    by_cases c33 : a0_0 = 2
    ·rw [if_pos c33] at H
     have c33b0 : (a0_0 == 2) = true := beq_iff_eq.mpr c33
     have c33b1 : (a0_0 != 2) = false := bne_eq_false_iff_eq.mpr c33
     clear c33
     by_cases c34 : a0_2 < a1_2
     ·rw [if_pos c34] at H
      have c34b0 : decide (a0_2 < a1_2) = true := decide_eq_true c34
      clear c34
      obtain rfl := Option.some.inj H
      go_enter Try.func116,Try.ntmps116
      go_wp2_with (first | ((with_reducible refine q0p (N := 2) rfl ?_);refine q0o ?hg (N := 2) ?hd (cs := #[.int .i64 a0_0,.bool a0_1,.int .i64 a0_2,.string a0_3]) (t := 66) ?hr ?_;(case hd => rfl);(case hg => rfl);(case hr => first | (go_simp;done) | (go_simp;rfl));intro gb156 hg w35 hbox hb;have n0_ := Aside0.mk (q0n (by repeat (first | (with_reducible first | exact HB.out | apply q0b | apply q0a | apply q0c) | exact HB.out)) hb);have n1_ := Aside0.mk (hbox);have n2_ := Aside0.mk ((by rw [hg];exact (q0g (by repeat (first | (with_reducible first | exact HB.out | apply q0b | apply q0a | apply q0c) | exact HB.out))) : w.heap.size ≤ gb156));have n3_ := Aside0.mk ((by rw [hg];exact (q0g (by repeat (first | (with_reducible first | exact HB.out | apply q0b | apply q0a | apply q0c) | exact HB.out))) : w.heap.size ≤ gb156));clear HB;have HB := n0_;have BK156 := n1_;have GW156 := n2_;have GE156 := n3_;clear n0_ n1_ n2_ n3_;clear hb hbox hg) | ((with_reducible refine q0p (N := 3) rfl ?_);refine q0o ?hg (N := 3) ?hd (cs := #[.int .i64 a1_0,.bool a1_1,.int .i64 a1_2,.string a1_3]) (t := 66) ?hr ?_;(case hd => rfl);(case hg => rfl);(case hr => first | (go_simp;done) | (go_simp;rfl));intro gb157 hg w36 hbox hb;have n0_ := Aside0.mk (q0s (g := gb156) (o := .cells #[.int .i64 a0_0,.bool a0_1,.int .i64 a0_2,.string a0_3] 66 (0,0)) (by (with_reducible repeat (first | refine q0j ?_ _ | refine q0k ?_ | refine q0h ?_ _));exact BK156.out) hb);have n1_ := Aside0.mk (q0n (by repeat (first | (with_reducible first | exact HB.out | apply q0b | apply q0a | apply q0c | refine q0i ?_ GE156.out) | exact HB.out)) hb);have n2_ := Aside0.mk (hbox);have n3_ := Aside0.mk ((by rw [hg];exact (q0g (by repeat (first | (with_reducible first | exact HB.out | apply q0b | apply q0a | apply q0c | refine q0i ?_ GE156.out) | exact HB.out))) : w.heap.size ≤ gb157));have n4_ := Aside0.mk ((by rw [hg];exact (q0g (by repeat (first | (with_reducible first | exact HB.out | apply q0b | apply q0a | apply q0c | refine q0i ?_ GE156.out) | exact HB.out))) : w.heap.size ≤ gb157));have n5_ := Aside0.mk ((by rw [hg];exact Nat.ne_of_lt (blk_lt (g := gb156) (o := .cells #[.int .i64 a0_0,.bool a0_1,.int .i64 a0_2,.string a0_3] 66 (0,0)) (by (with_reducible repeat (first | refine q0j ?_ _ | refine q0k ?_ | refine q0h ?_ _));exact BK156.out)) : gb156 ≠ gb157));have n6_ := Aside0.mk ((by rw [hg];exact Nat.ne_of_gt (blk_lt (g := gb156) (o := .cells #[.int .i64 a0_0,.bool a0_1,.int .i64 a0_2,.string a0_3] 66 (0,0)) (by (with_reducible repeat (first | refine q0j ?_ _ | refine q0k ?_ | refine q0h ?_ _));exact BK156.out)) : gb157 ≠ gb156));clear BK156;clear HB;have BK156 := n0_;have HB := n1_;have BK157 := n2_;have GW157 := n3_;have GE157 := n4_;have NB156_157 := n5_;have NB157_156 := n6_;clear n0_ n1_ n2_ n3_ n4_ n5_ n6_;clear hb hbox hg;have hnb37 := NB156_157.out;have hnc37 := NB157_156.out;have hcz38_0 : w36.cell? ⟨gb156,0,none⟩ = some (.int .i64 a0_0) := (q0d BK156.out 0).trans rfl;have hcz38_1 : w36.cell? ⟨gb156,1,none⟩ = some (.bool a0_1) := (q0d BK156.out 1).trans rfl;have hcz38_2 : w36.cell? ⟨gb156,2,none⟩ = some (.int .i64 a0_2) := (q0d BK156.out 2).trans rfl;have hcz38_3 : w36.cell? ⟨gb156,3,none⟩ = some (.string a0_3) := (q0d BK156.out 3).trans rfl;have hfz38_0 := q0e BK156.out 0;have hfz38_1 := q0e BK156.out 1;have hfz38_2 := q0e BK156.out 2;have hfz38_3 := q0e BK156.out 3;have hcz39_0 : w36.cell? ⟨gb157,0,none⟩ = some (.int .i64 a1_0) := (q0d BK157.out 0).trans rfl;have hcz39_1 : w36.cell? ⟨gb157,1,none⟩ = some (.bool a1_1) := (q0d BK157.out 1).trans rfl;have hcz39_2 : w36.cell? ⟨gb157,2,none⟩ = some (.int .i64 a1_2) := (q0d BK157.out 2).trans rfl;have hcz39_3 : w36.cell? ⟨gb157,3,none⟩ = some (.string a1_3) := (q0d BK157.out 3).trans rfl;have hfz39_0 := q0e BK157.out 0;have hfz39_1 := q0e BK157.out 1;have hfz39_2 := q0e BK157.out 2;have hfz39_3 := q0e BK157.out 3))
      go_ret
      exact ⟨by first | rfl | (simp [q0m,q0l] <;> rfl) | (simp [*,q0m,q0l] <;> rfl),by repeat (first | (with_reducible first | exact HB.out | apply q0b | apply q0a | apply q0c | refine q0i ?_ GE156.out | refine q0i ?_ GE157.out) | exact HB.out)⟩
     ·rw [if_neg c34] at H
      have c34b0 : decide (a0_2 < a1_2) = false := decide_eq_false c34
      clear c34
      by_cases c40 : a0_2 > a1_2
      ·rw [if_pos c40] at H
       have c40b0 : decide (a1_2 < a0_2) = true := decide_eq_true c40
       clear c40
       obtain rfl := Option.some.inj H
       go_enter Try.func116,Try.ntmps116
       go_wp2_with (first | ((with_reducible refine q0p (N := 2) rfl ?_);refine q0o ?hg (N := 2) ?hd (cs := #[.int .i64 a0_0,.bool a0_1,.int .i64 a0_2,.string a0_3]) (t := 66) ?hr ?_;(case hd => rfl);(case hg => rfl);(case hr => first | (go_simp;done) | (go_simp;rfl));intro gb156 hg w41 hbox hb;have n0_ := Aside0.mk (q0n (by repeat (first | (with_reducible first | exact HB.out | apply q0b | apply q0a | apply q0c) | exact HB.out)) hb);have n1_ := Aside0.mk (hbox);have n2_ := Aside0.mk ((by rw [hg];exact (q0g (by repeat (first | (with_reducible first | exact HB.out | apply q0b | apply q0a | apply q0c) | exact HB.out))) : w.heap.size ≤ gb156));have n3_ := Aside0.mk ((by rw [hg];exact (q0g (by repeat (first | (with_reducible first | exact HB.out | apply q0b | apply q0a | apply q0c) | exact HB.out))) : w.heap.size ≤ gb156));clear HB;have HB := n0_;have BK156 := n1_;have GW156 := n2_;have GE156 := n3_;clear n0_ n1_ n2_ n3_;clear hb hbox hg) | ((with_reducible refine q0p (N := 3) rfl ?_);refine q0o ?hg (N := 3) ?hd (cs := #[.int .i64 a1_0,.bool a1_1,.int .i64 a1_2,.string a1_3]) (t := 66) ?hr ?_;(case hd => rfl);(case hg => rfl);(case hr => first | (go_simp;done) | (go_simp;rfl));intro gb157 hg w42 hbox hb;have n0_ := Aside0.mk (q0s (g := gb156) (o := .cells #[.int .i64 a0_0,.bool a0_1,.int .i64 a0_2,.string a0_3] 66 (0,0)) (by (with_reducible repeat (first | refine q0j ?_ _ | refine q0k ?_ | refine q0h ?_ _));exact BK156.out) hb);have n1_ := Aside0.mk (q0n (by repeat (first | (with_reducible first | exact HB.out | apply q0b | apply q0a | apply q0c | refine q0i ?_ GE156.out) | exact HB.out)) hb);have n2_ := Aside0.mk (hbox);have n3_ := Aside0.mk ((by rw [hg];exact (q0g (by repeat (first | (with_reducible first | exact HB.out | apply q0b | apply q0a | apply q0c | refine q0i ?_ GE156.out) | exact HB.out))) : w.heap.size ≤ gb157));have n4_ := Aside0.mk ((by rw [hg];exact (q0g (by repeat (first | (with_reducible first | exact HB.out | apply q0b | apply q0a | apply q0c | refine q0i ?_ GE156.out) | exact HB.out))) : w.heap.size ≤ gb157));have n5_ := Aside0.mk ((by rw [hg];exact Nat.ne_of_lt (blk_lt (g := gb156) (o := .cells #[.int .i64 a0_0,.bool a0_1,.int .i64 a0_2,.string a0_3] 66 (0,0)) (by (with_reducible repeat (first | refine q0j ?_ _ | refine q0k ?_ | refine q0h ?_ _));exact BK156.out)) : gb156 ≠ gb157));have n6_ := Aside0.mk ((by rw [hg];exact Nat.ne_of_gt (blk_lt (g := gb156) (o := .cells #[.int .i64 a0_0,.bool a0_1,.int .i64 a0_2,.string a0_3] 66 (0,0)) (by (with_reducible repeat (first | refine q0j ?_ _ | refine q0k ?_ | refine q0h ?_ _));exact BK156.out)) : gb157 ≠ gb156));clear BK156;clear HB;have BK156 := n0_;have HB := n1_;have BK157 := n2_;have GW157 := n3_;have GE157 := n4_;have NB156_157 := n5_;have NB157_156 := n6_;clear n0_ n1_ n2_ n3_ n4_ n5_ n6_;clear hb hbox hg;have hnb43 := NB156_157.out;have hnc43 := NB157_156.out;have hcz44_0 : w42.cell? ⟨gb156,0,none⟩ = some (.int .i64 a0_0) := (q0d BK156.out 0).trans rfl;have hcz44_1 : w42.cell? ⟨gb156,1,none⟩ = some (.bool a0_1) := (q0d BK156.out 1).trans rfl;have hcz44_2 : w42.cell? ⟨gb156,2,none⟩ = some (.int .i64 a0_2) := (q0d BK156.out 2).trans rfl;have hcz44_3 : w42.cell? ⟨gb156,3,none⟩ = some (.string a0_3) := (q0d BK156.out 3).trans rfl;have hfz44_0 := q0e BK156.out 0;have hfz44_1 := q0e BK156.out 1;have hfz44_2 := q0e BK156.out 2;have hfz44_3 := q0e BK156.out 3;have hcz45_0 : w42.cell? ⟨gb157,0,none⟩ = some (.int .i64 a1_0) := (q0d BK157.out 0).trans rfl;have hcz45_1 : w42.cell? ⟨gb157,1,none⟩ = some (.bool a1_1) := (q0d BK157.out 1).trans rfl;have hcz45_2 : w42.cell? ⟨gb157,2,none⟩ = some (.int .i64 a1_2) := (q0d BK157.out 2).trans rfl;have hcz45_3 : w42.cell? ⟨gb157,3,none⟩ = some (.string a1_3) := (q0d BK157.out 3).trans rfl;have hfz45_0 := q0e BK157.out 0;have hfz45_1 := q0e BK157.out 1;have hfz45_2 := q0e BK157.out 2;have hfz45_3 := q0e BK157.out 3))
       go_ret
       exact ⟨by first | rfl | (simp [q0m,q0l] <;> rfl) | (simp [*,q0m,q0l] <;> rfl),by repeat (first | (with_reducible first | exact HB.out | apply q0b | apply q0a | apply q0c | refine q0i ?_ GE156.out | refine q0i ?_ GE157.out) | exact HB.out)⟩
      ·rw [if_neg c40] at H
       have c40b0 : decide (a1_2 < a0_2) = false := decide_eq_false c40
       clear c40
       obtain rfl := Option.some.inj H
       go_enter Try.func116,Try.ntmps116
       go_wp2_with (first | ((with_reducible refine q0p (N := 2) rfl ?_);refine q0o ?hg (N := 2) ?hd (cs := #[.int .i64 a0_0,.bool a0_1,.int .i64 a0_2,.string a0_3]) (t := 66) ?hr ?_;(case hd => rfl);(case hg => rfl);(case hr => first | (go_simp;done) | (go_simp;rfl));intro gb156 hg w46 hbox hb;have n0_ := Aside0.mk (q0n (by repeat (first | (with_reducible first | exact HB.out | apply q0b | apply q0a | apply q0c) | exact HB.out)) hb);have n1_ := Aside0.mk (hbox);have n2_ := Aside0.mk ((by rw [hg];exact (q0g (by repeat (first | (with_reducible first | exact HB.out | apply q0b | apply q0a | apply q0c) | exact HB.out))) : w.heap.size ≤ gb156));have n3_ := Aside0.mk ((by rw [hg];exact (q0g (by repeat (first | (with_reducible first | exact HB.out | apply q0b | apply q0a | apply q0c) | exact HB.out))) : w.heap.size ≤ gb156));clear HB;have HB := n0_;have BK156 := n1_;have GW156 := n2_;have GE156 := n3_;clear n0_ n1_ n2_ n3_;clear hb hbox hg) | ((with_reducible refine q0p (N := 3) rfl ?_);refine q0o ?hg (N := 3) ?hd (cs := #[.int .i64 a1_0,.bool a1_1,.int .i64 a1_2,.string a1_3]) (t := 66) ?hr ?_;(case hd => rfl);(case hg => rfl);(case hr => first | (go_simp;done) | (go_simp;rfl));intro gb157 hg w47 hbox hb;have n0_ := Aside0.mk (q0s (g := gb156) (o := .cells #[.int .i64 a0_0,.bool a0_1,.int .i64 a0_2,.string a0_3] 66 (0,0)) (by (with_reducible repeat (first | refine q0j ?_ _ | refine q0k ?_ | refine q0h ?_ _));exact BK156.out) hb);have n1_ := Aside0.mk (q0n (by repeat (first | (with_reducible first | exact HB.out | apply q0b | apply q0a | apply q0c | refine q0i ?_ GE156.out) | exact HB.out)) hb);have n2_ := Aside0.mk (hbox);have n3_ := Aside0.mk ((by rw [hg];exact (q0g (by repeat (first | (with_reducible first | exact HB.out | apply q0b | apply q0a | apply q0c | refine q0i ?_ GE156.out) | exact HB.out))) : w.heap.size ≤ gb157));have n4_ := Aside0.mk ((by rw [hg];exact (q0g (by repeat (first | (with_reducible first | exact HB.out | apply q0b | apply q0a | apply q0c | refine q0i ?_ GE156.out) | exact HB.out))) : w.heap.size ≤ gb157));have n5_ := Aside0.mk ((by rw [hg];exact Nat.ne_of_lt (blk_lt (g := gb156) (o := .cells #[.int .i64 a0_0,.bool a0_1,.int .i64 a0_2,.string a0_3] 66 (0,0)) (by (with_reducible repeat (first | refine q0j ?_ _ | refine q0k ?_ | refine q0h ?_ _));exact BK156.out)) : gb156 ≠ gb157));have n6_ := Aside0.mk ((by rw [hg];exact Nat.ne_of_gt (blk_lt (g := gb156) (o := .cells #[.int .i64 a0_0,.bool a0_1,.int .i64 a0_2,.string a0_3] 66 (0,0)) (by (with_reducible repeat (first | refine q0j ?_ _ | refine q0k ?_ | refine q0h ?_ _));exact BK156.out)) : gb157 ≠ gb156));clear BK156;clear HB;have BK156 := n0_;have HB := n1_;have BK157 := n2_;have GW157 := n3_;have GE157 := n4_;have NB156_157 := n5_;have NB157_156 := n6_;clear n0_ n1_ n2_ n3_ n4_ n5_ n6_;clear hb hbox hg;have hnb48 := NB156_157.out;have hnc48 := NB157_156.out;have hcz49_0 : w47.cell? ⟨gb156,0,none⟩ = some (.int .i64 a0_0) := (q0d BK156.out 0).trans rfl;have hcz49_1 : w47.cell? ⟨gb156,1,none⟩ = some (.bool a0_1) := (q0d BK156.out 1).trans rfl;have hcz49_2 : w47.cell? ⟨gb156,2,none⟩ = some (.int .i64 a0_2) := (q0d BK156.out 2).trans rfl;have hcz49_3 : w47.cell? ⟨gb156,3,none⟩ = some (.string a0_3) := (q0d BK156.out 3).trans rfl;have hfz49_0 := q0e BK156.out 0;have hfz49_1 := q0e BK156.out 1;have hfz49_2 := q0e BK156.out 2;have hfz49_3 := q0e BK156.out 3;have hcz50_0 : w47.cell? ⟨gb157,0,none⟩ = some (.int .i64 a1_0) := (q0d BK157.out 0).trans rfl;have hcz50_1 : w47.cell? ⟨gb157,1,none⟩ = some (.bool a1_1) := (q0d BK157.out 1).trans rfl;have hcz50_2 : w47.cell? ⟨gb157,2,none⟩ = some (.int .i64 a1_2) := (q0d BK157.out 2).trans rfl;have hcz50_3 : w47.cell? ⟨gb157,3,none⟩ = some (.string a1_3) := (q0d BK157.out 3).trans rfl;have hfz50_0 := q0e BK157.out 0;have hfz50_1 := q0e BK157.out 1;have hfz50_2 := q0e BK157.out 2;have hfz50_3 := q0e BK157.out 3))
       go_ret
       exact ⟨by first | rfl | (simp [q0m,q0l] <;> rfl) | (simp [*,q0m,q0l] <;> rfl),by repeat (first | (with_reducible first | exact HB.out | apply q0b | apply q0a | apply q0c | refine q0i ?_ GE156.out | refine q0i ?_ GE157.out) | exact HB.out)⟩
    ·rw [if_neg c33] at H
     have c33b0 : (a0_0 == 2) = false := beq_eq_false_iff_ne.mpr c33
     have c33b1 : (a0_0 != 2) = true := bne_iff_ne.mpr c33
     by_cases c51 : a0_0 = 3
     ·rw [if_pos c51] at H
      have c51b0 : (a0_0 == 3) = true := beq_iff_eq.mpr c51
      have c51b1 : (a0_0 != 3) = false := bne_eq_false_iff_eq.mpr c51
      clear c51
      replace H := Option.bind_eq_some_iff.mp H
      obtain ⟨t158,A520,H⟩ := H
      replace H : (some t158) = some r := H
      have A52 := Aside0.mk A520
      clear A520
      obtain rfl := Option.some.inj H
      go_enter Try.func116,Try.ntmps116
      go_wp2_with (first | ((with_reducible refine q0p (N := 2) rfl ?_);refine q0o ?hg (N := 2) ?hd (cs := #[.int .i64 a0_0,.bool a0_1,.int .i64 a0_2,.string a0_3]) (t := 66) ?hr ?_;(case hd => rfl);(case hg => rfl);(case hr => first | (go_simp;done) | (go_simp;rfl));intro gb156 hg w53 hbox hb;have n0_ := Aside0.mk (q0n (by repeat (first | (with_reducible first | exact HB.out | apply q0b | apply q0a | apply q0c) | exact HB.out)) hb);have n1_ := Aside0.mk (hbox);have n2_ := Aside0.mk ((by rw [hg];exact (q0g (by repeat (first | (with_reducible first | exact HB.out | apply q0b | apply q0a | apply q0c) | exact HB.out))) : w.heap.size ≤ gb156));have n3_ := Aside0.mk ((by rw [hg];exact (q0g (by repeat (first | (with_reducible first | exact HB.out | apply q0b | apply q0a | apply q0c) | exact HB.out))) : w.heap.size ≤ gb156));clear HB;have HB := n0_;have BK156 := n1_;have GW156 := n2_;have GE156 := n3_;clear n0_ n1_ n2_ n3_;clear hb hbox hg) | ((with_reducible refine q0p (N := 3) rfl ?_);refine q0o ?hg (N := 3) ?hd (cs := #[.int .i64 a1_0,.bool a1_1,.int .i64 a1_2,.string a1_3]) (t := 66) ?hr ?_;(case hd => rfl);(case hg => rfl);(case hr => first | (go_simp;done) | (go_simp;rfl));intro gb157 hg w54 hbox hb;have n0_ := Aside0.mk (q0s (g := gb156) (o := .cells #[.int .i64 a0_0,.bool a0_1,.int .i64 a0_2,.string a0_3] 66 (0,0)) (by (with_reducible repeat (first | refine q0j ?_ _ | refine q0k ?_ | refine q0h ?_ _));exact BK156.out) hb);have n1_ := Aside0.mk (q0n (by repeat (first | (with_reducible first | exact HB.out | apply q0b | apply q0a | apply q0c | refine q0i ?_ GE156.out) | exact HB.out)) hb);have n2_ := Aside0.mk (hbox);have n3_ := Aside0.mk ((by rw [hg];exact (q0g (by repeat (first | (with_reducible first | exact HB.out | apply q0b | apply q0a | apply q0c | refine q0i ?_ GE156.out) | exact HB.out))) : w.heap.size ≤ gb157));have n4_ := Aside0.mk ((by rw [hg];exact (q0g (by repeat (first | (with_reducible first | exact HB.out | apply q0b | apply q0a | apply q0c | refine q0i ?_ GE156.out) | exact HB.out))) : w.heap.size ≤ gb157));have n5_ := Aside0.mk ((by rw [hg];exact Nat.ne_of_lt (blk_lt (g := gb156) (o := .cells #[.int .i64 a0_0,.bool a0_1,.int .i64 a0_2,.string a0_3] 66 (0,0)) (by (with_reducible repeat (first | refine q0j ?_ _ | refine q0k ?_ | refine q0h ?_ _));exact BK156.out)) : gb156 ≠ gb157));have n6_ := Aside0.mk ((by rw [hg];exact Nat.ne_of_gt (blk_lt (g := gb156) (o := .cells #[.int .i64 a0_0,.bool a0_1,.int .i64 a0_2,.string a0_3] 66 (0,0)) (by (with_reducible repeat (first | refine q0j ?_ _ | refine q0k ?_ | refine q0h ?_ _));exact BK156.out)) : gb157 ≠ gb156));clear BK156;clear HB;have BK156 := n0_;have HB := n1_;have BK157 := n2_;have GW157 := n3_;have GE157 := n4_;have NB156_157 := n5_;have NB157_156 := n6_;clear n0_ n1_ n2_ n3_ n4_ n5_ n6_;clear hb hbox hg;have hnb55 := NB156_157.out;have hnc55 := NB157_156.out;have hcz56_0 : w54.cell? ⟨gb156,0,none⟩ = some (.int .i64 a0_0) := (q0d BK156.out 0).trans rfl;have hcz56_1 : w54.cell? ⟨gb156,1,none⟩ = some (.bool a0_1) := (q0d BK156.out 1).trans rfl;have hcz56_2 : w54.cell? ⟨gb156,2,none⟩ = some (.int .i64 a0_2) := (q0d BK156.out 2).trans rfl;have hcz56_3 : w54.cell? ⟨gb156,3,none⟩ = some (.string a0_3) := (q0d BK156.out 3).trans rfl;have hfz56_0 := q0e BK156.out 0;have hfz56_1 := q0e BK156.out 1;have hfz56_2 := q0e BK156.out 2;have hfz56_3 := q0e BK156.out 3;have hcz57_0 : w54.cell? ⟨gb157,0,none⟩ = some (.int .i64 a1_0) := (q0d BK157.out 0).trans rfl;have hcz57_1 : w54.cell? ⟨gb157,1,none⟩ = some (.bool a1_1) := (q0d BK157.out 1).trans rfl;have hcz57_2 : w54.cell? ⟨gb157,2,none⟩ = some (.int .i64 a1_2) := (q0d BK157.out 2).trans rfl;have hcz57_3 : w54.cell? ⟨gb157,3,none⟩ = some (.string a1_3) := (q0d BK157.out 3).trans rfl;have hfz57_0 := q0e BK157.out 0;have hfz57_1 := q0e BK157.out 1;have hfz57_2 := q0e BK157.out 2;have hfz57_3 := q0e BK157.out 3) | ((with_reducible refine q0u (f := 124) rfl ?_);refine goesL_ (some 45) rfl rfl Try.func124 (by kernel_rfl) rfl #[.string a0_3,.string a1_3] rfl (by (try simp only [List.map_toArray,List.map_cons,List.map_nil]);first | done | rfl | (simp only [List.length_drop,List.length_take];rfl)) ?_;(with_reducible refine (verdererref01_Text.calls k a0_3 a1_3 t158 _ A52.out).mono ?_);rintro e w' ⟨rfl,⟨nd,rfl⟩⟩;refine ⟨_,rfl,?_⟩))
      go_ret
      exact ⟨by first | rfl | (simp [q0m,q0l] <;> rfl) | (simp [*,q0m,q0l] <;> rfl),by repeat (first | (with_reducible first | exact HB.out | apply q0b | apply q0a | apply q0c | refine q0i ?_ GE156.out | refine q0i ?_ GE157.out) | exact HB.out)⟩
     ·rw [if_neg c51] at H
      have c51b0 : (a0_0 == 3) = false := beq_eq_false_iff_ne.mpr c51
      have c51b1 : (a0_0 != 3) = true := bne_iff_ne.mpr c51
      obtain rfl := Option.some.inj H
      go_enter Try.func116,Try.ntmps116
      go_wp2_with (first | ((with_reducible refine q0p (N := 2) rfl ?_);refine q0o ?hg (N := 2) ?hd (cs := #[.int .i64 a0_0,.bool a0_1,.int .i64 a0_2,.string a0_3]) (t := 66) ?hr ?_;(case hd => rfl);(case hg => rfl);(case hr => first | (go_simp;done) | (go_simp;rfl));intro gb156 hg w58 hbox hb;have n0_ := Aside0.mk (q0n (by repeat (first | (with_reducible first | exact HB.out | apply q0b | apply q0a | apply q0c) | exact HB.out)) hb);have n1_ := Aside0.mk (hbox);have n2_ := Aside0.mk ((by rw [hg];exact (q0g (by repeat (first | (with_reducible first | exact HB.out | apply q0b | apply q0a | apply q0c) | exact HB.out))) : w.heap.size ≤ gb156));have n3_ := Aside0.mk ((by rw [hg];exact (q0g (by repeat (first | (with_reducible first | exact HB.out | apply q0b | apply q0a | apply q0c) | exact HB.out))) : w.heap.size ≤ gb156));clear HB;have HB := n0_;have BK156 := n1_;have GW156 := n2_;have GE156 := n3_;clear n0_ n1_ n2_ n3_;clear hb hbox hg) | ((with_reducible refine q0p (N := 3) rfl ?_);refine q0o ?hg (N := 3) ?hd (cs := #[.int .i64 a1_0,.bool a1_1,.int .i64 a1_2,.string a1_3]) (t := 66) ?hr ?_;(case hd => rfl);(case hg => rfl);(case hr => first | (go_simp;done) | (go_simp;rfl));intro gb157 hg w59 hbox hb;have n0_ := Aside0.mk (q0s (g := gb156) (o := .cells #[.int .i64 a0_0,.bool a0_1,.int .i64 a0_2,.string a0_3] 66 (0,0)) (by (with_reducible repeat (first | refine q0j ?_ _ | refine q0k ?_ | refine q0h ?_ _));exact BK156.out) hb);have n1_ := Aside0.mk (q0n (by repeat (first | (with_reducible first | exact HB.out | apply q0b | apply q0a | apply q0c | refine q0i ?_ GE156.out) | exact HB.out)) hb);have n2_ := Aside0.mk (hbox);have n3_ := Aside0.mk ((by rw [hg];exact (q0g (by repeat (first | (with_reducible first | exact HB.out | apply q0b | apply q0a | apply q0c | refine q0i ?_ GE156.out) | exact HB.out))) : w.heap.size ≤ gb157));have n4_ := Aside0.mk ((by rw [hg];exact (q0g (by repeat (first | (with_reducible first | exact HB.out | apply q0b | apply q0a | apply q0c | refine q0i ?_ GE156.out) | exact HB.out))) : w.heap.size ≤ gb157));have n5_ := Aside0.mk ((by rw [hg];exact Nat.ne_of_lt (blk_lt (g := gb156) (o := .cells #[.int .i64 a0_0,.bool a0_1,.int .i64 a0_2,.string a0_3] 66 (0,0)) (by (with_reducible repeat (first | refine q0j ?_ _ | refine q0k ?_ | refine q0h ?_ _));exact BK156.out)) : gb156 ≠ gb157));have n6_ := Aside0.mk ((by rw [hg];exact Nat.ne_of_gt (blk_lt (g := gb156) (o := .cells #[.int .i64 a0_0,.bool a0_1,.int .i64 a0_2,.string a0_3] 66 (0,0)) (by (with_reducible repeat (first | refine q0j ?_ _ | refine q0k ?_ | refine q0h ?_ _));exact BK156.out)) : gb157 ≠ gb156));clear BK156;clear HB;have BK156 := n0_;have HB := n1_;have BK157 := n2_;have GW157 := n3_;have GE157 := n4_;have NB156_157 := n5_;have NB157_156 := n6_;clear n0_ n1_ n2_ n3_ n4_ n5_ n6_;clear hb hbox hg;have hnb60 := NB156_157.out;have hnc60 := NB157_156.out;have hcz61_0 : w59.cell? ⟨gb156,0,none⟩ = some (.int .i64 a0_0) := (q0d BK156.out 0).trans rfl;have hcz61_1 : w59.cell? ⟨gb156,1,none⟩ = some (.bool a0_1) := (q0d BK156.out 1).trans rfl;have hcz61_2 : w59.cell? ⟨gb156,2,none⟩ = some (.int .i64 a0_2) := (q0d BK156.out 2).trans rfl;have hcz61_3 : w59.cell? ⟨gb156,3,none⟩ = some (.string a0_3) := (q0d BK156.out 3).trans rfl;have hfz61_0 := q0e BK156.out 0;have hfz61_1 := q0e BK156.out 1;have hfz61_2 := q0e BK156.out 2;have hfz61_3 := q0e BK156.out 3;have hcz62_0 : w59.cell? ⟨gb157,0,none⟩ = some (.int .i64 a1_0) := (q0d BK157.out 0).trans rfl;have hcz62_1 : w59.cell? ⟨gb157,1,none⟩ = some (.bool a1_1) := (q0d BK157.out 1).trans rfl;have hcz62_2 : w59.cell? ⟨gb157,2,none⟩ = some (.int .i64 a1_2) := (q0d BK157.out 2).trans rfl;have hcz62_3 : w59.cell? ⟨gb157,3,none⟩ = some (.string a1_3) := (q0d BK157.out 3).trans rfl;have hfz62_0 := q0e BK157.out 0;have hfz62_1 := q0e BK157.out 1;have hfz62_2 := q0e BK157.out 2;have hfz62_3 := q0e BK157.out 3))
      go_ret
      exact ⟨by first | rfl | (simp [q0m,q0l] <;> rfl) | (simp [*,q0m,q0l] <;> rfl),by repeat (first | (with_reducible first | exact HB.out | apply q0b | apply q0a | apply q0c | refine q0i ?_ GE156.out | refine q0i ?_ GE157.out) | exact HB.out)⟩
end Go.Proofs.Ythmbfcfomcaaaaa.Z
end
section
namespace Go.Proofs.Ythmbfcfomcaaaaa.Z
open Go.RowKit Go.Proofs.YthmbfcfomcaaaaaW.PrintWords Go.Proofs.YthmbfcfomcaaaaaW.PrintLast Go.Proofs.YthmbfcfomcaaaaaW.PrintMore
attribute [local go_sem] max2_int min2_int max_two min_two max_three min_three max_four min_four
set_option linter.unusedVariables false
set_option linter.unusedSimpArgs false
mutual
def verdererref02_Compare.l0 : Nat → List (S66) → List (S66) → Int → Option (Int)
 | 0,_,_,_ => none
 | k + 1,x0,x1,x5 => if x5 < (x0.length : Int) then (verdererref02_Compare.j1 k x0 x1 x5 (decide (x5 < (x1.length : Int)))) else (verdererref02_Compare.j1 k x0 x1 x5 false)
def verdererref02_Compare.j1 : Nat → List (S66) → List (S66) → Int → Bool → Option (Int)
 | 0,_,_,_,_ => none
 | k + 1,x0,x1,x5,x16 => if x16 = true then (if 0 ≤ x5 then (if x5 < (x0.length : Int) then (if x5 < (x1.length : Int) then ((verdererref01_Compare.f k ((q0f x0 x5).f0) ((q0f x0 x5).f1) ((q0f x0 x5).f2) ((q0f x0 x5).f3) ((q0f x1 x5).f0) ((q0f x1 x5).f1) ((q0f x1 x5).f2) ((q0f x1 x5).f3)).bind fun t161 => (if t161 = 0 then (verdererref02_Compare.l0 k x0 x1 (wrap64 (x5 + 1))) else (some t161))) else (none)) else (none)) else (none)) else (if (x0.length : Int) < (x1.length : Int) then (some (-1)) else (if (x0.length : Int) > (x1.length : Int) then (some 1) else (some 0)))
end
def verdererref02_Compare.f (k : Nat) (l0 : List (S66)) (l1 : List (S66)) : Option (Int) := verdererref02_Compare.l0 k l0 l1 0
def verdererref02_Compare.T4 : Bool × List (List Nat × List Nat) := (true,[([],[]),([],[]),([0,1],[0,1]),([2],[2]),([],[]),([],[]),([4,5],[4,5]),([6],[6]),([3,7],[3,7]),([8,8,0,1,2,3,4,5,6,7,8],[8])])
def verdererref02_Compare.B4 : List Nat := [0,0,3,7,0,0,48,112,255,511]
theorem verdererref02_Compare.tab4 : rtab .any (opsOf Try.f96 4) = verdererref02_Compare.T4 := by kernel_rfl
theorem verdererref02_Compare.bits4 : waitsOk verdererref02_Compare.T4.2 verdererref02_Compare.B4 = true := by kernel_rfl
set_option maxHeartbeats 8000000 in
set_option maxRecDepth 100000 in
theorem verdererref02_Compare.calls (k : Nat) (A0 : Option Addr) (c0 : Nat) (l0 : List (S66)) (A1 : Option Addr) (c1 : Nat) (l1 : List (S66)) (r : Int) (w : World) (hr0 : Kd.C k66 w A0 l0.length l0) (hc0 : l0.length ≤ c0) (hr1 : Kd.C k66 w A1 l1.length l1) (hc1 : l1.length ≤ c1) (h : verdererref02_Compare.f k l0 l1 = some r) :
  Calls Try.prog 96 #[.slice A0 l0.length c0,.slice A1 l1.length c1] w fun e w' => e = .returned (.int .i64 r) ∧ Below w.heap.size w w' := by
 have hu66 := Try.underlying66
 have HR0 := Aside0.mk hr0
 have HC0 := Aside0.mk hc0
 clear hr0 hc0
 have HR1 := Aside0.mk hr1
 have HC1 := Aside0.mk hc1
 clear hr1 hc1
 have HB := Aside0.mk (Below.refl w.heap.size w)
 have H : (verdererref02_Compare.l0 k l0 l1 0) = some r := h
 clear h
 have H' := Aside0.mk H
 clear H
 go_enter Try.func96,Try.ntmps96
 go_wp2
 go_loopg [5] k (fun kq v5 w' => ∃ (x5_1 : Int),v5 = .int .i64 x5_1 ∧ Aside0 (verdererref02_Compare.l0 kq l0 l1 x5_1 = some r) ∧ Aside0 (kq ≤ k) ∧ Aside0 (Below w.heap.size w w'))
 case atStart => exact ⟨(0),(by first | rfl | (simp;done) | (simp [*];done)),H',⟨Nat.le_refl _⟩,⟨by repeat (first | (with_reducible first | exact HB.out | apply q0b | apply q0a | apply q0c) | exact HB.out)⟩⟩
 case round =>
  clear H'
  try clear c1
  try clear p2
  obtain ⟨x5_1,rfl,HA,HK1,HB⟩ := hrel
  cases gk with
  | zero => exact absurd HA.out (by simp [verdererref02_Compare.l0])
  | succ k1 =>
   have H := HA.out
   clear HA
   simp only [verdererref02_Compare.l0] at H
   have HC3 := Aside0.mk H
   clear H
   go_upto_region 2 with (fail)
   go_cut [16] (fun v16 wc => ∃ (kq : Nat) (x16_2 : Bool),v16 = .bool x16_2 ∧ Aside0 (verdererref02_Compare.j1 kq l0 l1 x5_1 x16_2 = some r) ∧ Aside0 (kq ≤ k1) ∧ Aside0 (Below w.heap.size w wc))
   case first =>
    have H := HC3.out
    clear HC3
    by_cases c4 : x5_1 < (l0.length : Int)
    ·rw [if_pos c4] at H
     have c4b0 : decide (x5_1 < (l0.length : Int)) = true := decide_eq_true c4
     clear c4
     (first | rw [c4b0] | (simp only [i64_w,i32_w];rw [c4b0]) | skip)
     have H' := Aside0.mk H
     clear H
     go_wp2
     go_meet
     case rel => exact ⟨_,(decide (x5_1 < (l1.length : Int))),(by first | rfl | (simp;done) | (simp [*];done)),H',⟨by have := HK1.out;first | omega | exact Nat.le_refl _⟩,⟨by repeat (first | (with_reducible first | exact HB.out | apply q0b | apply q0a | apply q0c) | exact HB.out)⟩⟩
    ·rw [if_neg c4] at H
     have c4b0 : decide (x5_1 < (l0.length : Int)) = false := decide_eq_false c4
     clear c4
     (first | rw [c4b0] | (simp only [i64_w,i32_w];rw [c4b0]) | skip)
     have H' := Aside0.mk H
     clear H
     go_wp2
     go_meet
     case rel => exact ⟨_,(false),(by first | rfl | (simp;done) | (simp [*];done)),H',⟨by have := HK1.out;first | omega | exact Nat.le_refl _⟩,⟨by repeat (first | (with_reducible first | exact HB.out | apply q0b | apply q0a | apply q0c) | exact HB.out)⟩⟩
   case rest =>
    clear HC3
    try clear c1
    try clear p2
    try clear c4
    try clear c4b0
    try clear p2
    obtain ⟨kq,x16_2,rfl,HA,HJ2,HB⟩ := hcut
    cases kq with
    | zero => exact absurd HA.out (by simp [verdererref02_Compare.j1])
    | succ kj2 =>
     have H := HA.out
     clear HA
     simp only [verdererref02_Compare.j1] at H
     by_cases c5 : x16_2 = true
     ·subst c5
      have H1 : (if 0 ≤ x5_1 then (if x5_1 < (l0.length : Int) then (if x5_1 < (l1.length : Int) then ((verdererref01_Compare.f kj2 ((q0f l0 x5_1).f0) ((q0f l0 x5_1).f1) ((q0f l0 x5_1).f2) ((q0f l0 x5_1).f3) ((q0f l1 x5_1).f0) ((q0f l1 x5_1).f1) ((q0f l1 x5_1).f2) ((q0f l1 x5_1).f3)).bind fun t161 => (if t161 = 0 then (verdererref02_Compare.l0 kj2 l0 l1 (wrap64 (x5_1 + 1))) else (some t161))) else (none)) else (none)) else (none)) = some r := by rw [if_pos rfl] at H;exact H
      clear H
      have H := H1
      clear H1
      by_cases c6 : 0 ≤ x5_1
      ·rw [if_pos c6] at H
       have c6b0 : decide (0 ≤ x5_1) = true := decide_eq_true c6
       clear c6
       by_cases c7 : x5_1 < (l0.length : Int)
       ·rw [if_pos c7] at H
        have c7b0 : decide (x5_1 < (l0.length : Int)) = true := decide_eq_true c7
        clear c7
        by_cases c8 : x5_1 < (l1.length : Int)
        ·rw [if_pos c8] at H
         have c8b0 : decide (x5_1 < (l1.length : Int)) = true := decide_eq_true c8
         clear c8
         replace H := Option.bind_eq_some_iff.mp H
         obtain ⟨t161,A90,H⟩ := H
         replace H : (if t161 = 0 then (verdererref02_Compare.l0 kj2 l0 l1 (wrap64 (x5_1 + 1))) else (some t161)) = some r := H
         have A9 := Aside0.mk A90
         clear A90
         by_cases c10 : t161 = 0
         ·rw [if_pos c10] at H
          have c10b0 : (t161 == 0) = true := beq_iff_eq.mpr c10
          have c10b1 : (t161 != 0) = false := bne_eq_false_iff_eq.mpr c10
          clear c10
          have H' := Aside0.mk H
          clear H
          try go_wp2
          have n0_ := Aside0.mk (q0c HB.out)
          clear HB
          have HB := n0_
          clear n0_
          have p159 : 0 ≤ (x5_1 : Int) := of_decide_eq_true (by first | (with_reducible assumption) | assumption)
          have q159 : x5_1 < (l0.length : Int) := of_decide_eq_true (by first | (with_reducible assumption) | assumption)
          obtain ⟨ad159,e159,hx159_0,hx159_1,hx159_2,hx159_3⟩ := at_T66 HR0.out x5_1 p159 q159
          have hw159_3 := hx159_3
          have hw159_2 := hx159_2
          have hw159_1 := hx159_1
          have hw159_0 := hx159_0
          cases e159
          replace hx159_0 := (HB.out.cell (World.block_lt_of_cell? w _ hx159_0)).trans hx159_0
          replace hx159_1 := (HB.out.cell (World.block_lt_of_cell? w _ hx159_1)).trans hx159_1
          replace hx159_2 := (HB.out.cell (World.block_lt_of_cell? w _ hx159_2)).trans hx159_2
          replace hx159_3 := (HB.out.cell (World.block_lt_of_cell? w _ hx159_3)).trans hx159_3
          replace p159 := eq_true p159
          replace q159 := eq_true q159
          have p160 : 0 ≤ (x5_1 : Int) := of_decide_eq_true (by first | (with_reducible assumption) | assumption)
          have q160 : x5_1 < (l1.length : Int) := of_decide_eq_true (by first | (with_reducible assumption) | assumption)
          obtain ⟨ad160,e160,hx160_0,hx160_1,hx160_2,hx160_3⟩ := at_T66 HR1.out x5_1 p160 q160
          have hw160_3 := hx160_3
          have hw160_2 := hx160_2
          have hw160_1 := hx160_1
          have hw160_0 := hx160_0
          cases e160
          replace hx160_0 := (HB.out.cell (World.block_lt_of_cell? w _ hx160_0)).trans hx160_0
          replace hx160_1 := (HB.out.cell (World.block_lt_of_cell? w _ hx160_1)).trans hx160_1
          replace hx160_2 := (HB.out.cell (World.block_lt_of_cell? w _ hx160_2)).trans hx160_2
          replace hx160_3 := (HB.out.cell (World.block_lt_of_cell? w _ hx160_3)).trans hx160_3
          replace p160 := eq_true p160
          replace q160 := eq_true q160
          refine start_ (n := 10) (S := fun w' => w'.cell? (ad159.add ((x5_1).toNat * 4)) = some (.int .i64 ((q0f l0 x5_1).f0)) ∧ w'.cell? ⟨(ad159.add ((x5_1).toNat * 4)).block,(ad159.add ((x5_1).toNat * 4)).off + 1,none⟩ = some (.bool ((q0f l0 x5_1).f1)) ∧ w'.cell? ⟨(ad159.add ((x5_1).toNat * 4)).block,(ad159.add ((x5_1).toNat * 4)).off + 2,none⟩ = some (.int .i64 ((q0f l0 x5_1).f2)) ∧ w'.cell? ⟨(ad159.add ((x5_1).toNat * 4)).block,(ad159.add ((x5_1).toNat * 4)).off + 3,none⟩ = some (.string ((q0f l0 x5_1).f3)) ∧ w'.cell? (ad160.add ((x5_1).toNat * 4)) = some (.int .i64 ((q0f l1 x5_1).f0)) ∧ w'.cell? ⟨(ad160.add ((x5_1).toNat * 4)).block,(ad160.add ((x5_1).toNat * 4)).off + 1,none⟩ = some (.bool ((q0f l1 x5_1).f1)) ∧ w'.cell? ⟨(ad160.add ((x5_1).toNat * 4)).block,(ad160.add ((x5_1).toNat * 4)).off + 2,none⟩ = some (.int .i64 ((q0f l1 x5_1).f2)) ∧ w'.cell? ⟨(ad160.add ((x5_1).toNat * 4)).block,(ad160.add ((x5_1).toNat * 4)).off + 3,none⟩ = some (.string ((q0f l1 x5_1).f3))) (ds := []) #[false,false,false,false,false,false,false,false,false,false] (by kernel_rfl) rfl rfl ⟨((HB.out.cell (World.block_lt_of_cell? w _ hw159_0)).trans hw159_0),((HB.out.cell (World.block_lt_of_cell? w _ hw159_1)).trans hw159_1),((HB.out.cell (World.block_lt_of_cell? w _ hw159_2)).trans hw159_2),((HB.out.cell (World.block_lt_of_cell? w _ hw159_3)).trans hw159_3),((HB.out.cell (World.block_lt_of_cell? w _ hw160_0)).trans hw160_0),((HB.out.cell (World.block_lt_of_cell? w _ hw160_1)).trans hw160_1),((HB.out.cell (World.block_lt_of_cell? w _ hw160_2)).trans hw160_2),((HB.out.cell (World.block_lt_of_cell? w _ hw160_3)).trans hw160_3)⟩ (fun hHeld => ?_);refine with_tabW verdererref02_Compare.tab4 verdererref02_Compare.bits4 (fun HT_ HW_ => ?_)
          generalize wc.drew = w11 at HB hx159_0 hx159_1 hx159_2 hx159_3 hx160_0 hx160_1 hx160_2 hx160_3 hHeld ⊢
          refine pure_ (i := 0) (N := some 19) (v := ?_) (a' := ?_) #[true,false,false,false,false,false,false,false,false,false] rfl rfl (q0q HT_.out (by kernel_rfl)) (fun _ _ _ h => h) (Or.inl ⟨by rfl,?_⟩) ?_ ?_
          rotate_left
          ·intro w'
           go_simp
           with_reducible rfl
          rotate_left
          ·simp only [Act.put,zA,zB,zC,i64_w,i32_w]
           rfl
          refine pure_ (i := 1) (N := some 20) (v := ?_) (a' := ?_) #[true,true,false,false,false,false,false,false,false,false] rfl rfl (q0q HT_.out (by kernel_rfl)) (fun _ _ _ h => h) (Or.inl ⟨by rfl,?_⟩) ?_ ?_
          rotate_left
          ·intro w'
           go_simp
           with_reducible rfl
          rotate_left
          ·simp only [Act.put,zA,zB,zC,i64_w,i32_w]
           rfl
          refine pure_ (i := 2) (N := some 21) (v := ?_) (a' := ?_) #[true,true,true,false,false,false,false,false,false,false] rfl rfl (q0q HT_.out (by kernel_rfl)) (fun _ _ _ h => h) (Or.inl ⟨by rfl,?_⟩) ?_ ?_
          rotate_left
          ·intro w'
           go_simp
           with_reducible rfl
          rotate_left
          ·simp only [Act.put,zA,zB,zC,i64_w,i32_w]
           rfl
          refine pure_ (i := 4) (N := some 23) (v := ?_) (a' := ?_) #[true,true,true,false,true,false,false,false,false,false] rfl rfl (q0q HT_.out (by kernel_rfl)) (fun _ _ _ h => h) (Or.inl ⟨by rfl,?_⟩) ?_ ?_
          rotate_left
          ·intro w'
           go_simp
           with_reducible rfl
          rotate_left
          ·simp only [Act.put,zA,zB,zC,i64_w,i32_w]
           rfl
          refine pure_ (i := 5) (N := some 24) (v := ?_) (a' := ?_) #[true,true,true,false,true,true,false,false,false,false] rfl rfl (q0q HT_.out (by kernel_rfl)) (fun _ _ _ h => h) (Or.inl ⟨by rfl,?_⟩) ?_ ?_
          rotate_left
          ·intro w'
           go_simp
           with_reducible rfl
          rotate_left
          ·simp only [Act.put,zA,zB,zC,i64_w,i32_w]
           rfl
          refine pure_ (i := 6) (N := some 25) (v := ?_) (a' := ?_) #[true,true,true,false,true,true,true,false,false,false] rfl rfl (q0q HT_.out (by kernel_rfl)) (fun _ _ _ h => h) (Or.inl ⟨by rfl,?_⟩) ?_ ?_
          rotate_left
          ·intro w'
           go_simp
           with_reducible rfl
          rotate_left
          ·simp only [Act.put,zA,zB,zC,i64_w,i32_w]
           rfl
          refine take_ (i := 3) (N := some 22) (v := ?_) (a' := ?_) #[true,true,true,true,true,true,true,false,false,false] rfl rfl (take_ofW HT_.out HW_.out (by kernel_rfl)) (fun _ _ _ h => h) (Or.inl ⟨by rfl,?_⟩) hHeld ?_ ?_
          rotate_left
          ·rintro w' ⟨s0,s1,s2,s3,s4,s5,s6,s7⟩
           go_simp
           with_reducible rfl
          rotate_left
          ·simp only [Act.put,zA,zB,zC,i64_w,i32_w]
           rfl
          refine take_ (i := 7) (N := some 26) (v := ?_) (a' := ?_) #[true,true,true,true,true,true,true,true,false,false] rfl rfl (take_ofW HT_.out HW_.out (by kernel_rfl)) (fun _ _ _ h => h) (Or.inl ⟨by rfl,?_⟩) hHeld ?_ ?_
          rotate_left
          ·rintro w' ⟨s0,s1,s2,s3,s4,s5,s6,s7⟩
           go_simp
           with_reducible rfl
          rotate_left
          ·simp only [Act.put,zA,zB,zC,i64_w,i32_w]
           rfl
          refine one_ (i := 8) (N := some 27) #[true,true,true,true,true,true,true,true,true,false] rfl rfl (one_of HT_.out (by kernel_rfl)) (by decide) (fun K hK => ?_)
          refine goes_ Try.func116 (by kernel_rfl) rfl #[.agg #[.int .i64 ((q0f l0 x5_1).f0),.bool ((q0f l0 x5_1).f1),.int .i64 ((q0f l0 x5_1).f2),.string ((q0f l0 x5_1).f3)],.agg #[.int .i64 ((q0f l1 x5_1).f0),.bool ((q0f l1 x5_1).f1),.int .i64 ((q0f l1 x5_1).f2),.string ((q0f l1 x5_1).f3)]] (by rfl) rfl rfl (by (try simp only [List.map_toArray,List.map_cons,List.map_nil]);first | done | rfl | (simp only [List.length_drop,List.length_take];rfl)) ?_
          with_reducible refine (verdererref01_Compare.calls kj2 ((q0f l0 x5_1).f0) ((q0f l0 x5_1).f1) ((q0f l0 x5_1).f2) ((q0f l0 x5_1).f3) ((q0f l1 x5_1).f0) ((q0f l1 x5_1).f1) ((q0f l1 x5_1).f2) ((q0f l1 x5_1).f3) t161 _ A9.out).mono ?_
          rintro e w12 ⟨rfl,hb⟩
          refine ⟨_,rfl,?_⟩
          have n0_ := Aside0.mk (q0n (by repeat (first | (with_reducible first | exact HB.out | apply q0b | apply q0a | apply q0c) | exact HB.out)) hb)
          clear HB
          have HB := n0_
          clear n0_
          (try clear hb)
          (try clear hb2)
          (try clear hk)
          (try clear hi)
          refine hK.out _ _ ⟨((HB.out.cell (World.block_lt_of_cell? w _ hw159_0)).trans hw159_0),((HB.out.cell (World.block_lt_of_cell? w _ hw159_1)).trans hw159_1),((HB.out.cell (World.block_lt_of_cell? w _ hw159_2)).trans hw159_2),((HB.out.cell (World.block_lt_of_cell? w _ hw159_3)).trans hw159_3),((HB.out.cell (World.block_lt_of_cell? w _ hw160_0)).trans hw160_0),((HB.out.cell (World.block_lt_of_cell? w _ hw160_1)).trans hw160_1),((HB.out.cell (World.block_lt_of_cell? w _ hw160_2)).trans hw160_2),((HB.out.cell (World.block_lt_of_cell? w _ hw160_3)).trans hw160_3)⟩ (fun hHeld => ?_)
          clear hK K
          refine norm_ (a' := ?_) ?_ ?_
          rotate_left
          ·show Act.put _ (some 27) _ = _
           simp only [Act.put,zA,zB,zC,i64_w,i32_w]
           rfl
          refine pure_ (i := 9) (N := some 6) (v := ?_) (a' := ?_) #[true,true,true,true,true,true,true,true,true,true] rfl rfl (q0q HT_.out (by kernel_rfl)) (fun _ _ _ h => h) (Or.inl ⟨by rfl,?_⟩) ?_ ?_
          rotate_left
          ·intro w'
           go_simp
           with_reducible rfl
          rotate_left
          ·simp only [Act.put,zA,zB,zC,i64_w,i32_w]
           rfl
          refine done_ (done_of HT_.out (by kernel_rfl)) ?_
          try go_wp2
          go_roundg kj2
          case measure => have := HK1.out;have := HJ2.out;omega
          case rel => exact ⟨(wrap64 (x5_1 + 1)),(by first | rfl | (simp;done) | (simp [*];done)),H',⟨by have := HK1.out;have := HJ2.out;omega⟩,⟨by repeat (first | (with_reducible first | exact HB.out | apply q0b | apply q0a | apply q0c) | exact HB.out)⟩⟩
         ·rw [if_neg c10] at H
          have c10b0 : (t161 == 0) = false := beq_eq_false_iff_ne.mpr c10
          have c10b1 : (t161 != 0) = true := bne_iff_ne.mpr c10
          obtain rfl := Option.some.inj H
          try go_wp2
          have n0_ := Aside0.mk (q0c HB.out)
          clear HB
          have HB := n0_
          clear n0_
          have p159 : 0 ≤ (x5_1 : Int) := of_decide_eq_true (by first | (with_reducible assumption) | assumption)
          have q159 : x5_1 < (l0.length : Int) := of_decide_eq_true (by first | (with_reducible assumption) | assumption)
          obtain ⟨ad159,e159,hx159_0,hx159_1,hx159_2,hx159_3⟩ := at_T66 HR0.out x5_1 p159 q159
          have hw159_3 := hx159_3
          have hw159_2 := hx159_2
          have hw159_1 := hx159_1
          have hw159_0 := hx159_0
          cases e159
          replace hx159_0 := (HB.out.cell (World.block_lt_of_cell? w _ hx159_0)).trans hx159_0
          replace hx159_1 := (HB.out.cell (World.block_lt_of_cell? w _ hx159_1)).trans hx159_1
          replace hx159_2 := (HB.out.cell (World.block_lt_of_cell? w _ hx159_2)).trans hx159_2
          replace hx159_3 := (HB.out.cell (World.block_lt_of_cell? w _ hx159_3)).trans hx159_3
          replace p159 := eq_true p159
          replace q159 := eq_true q159
          have p160 : 0 ≤ (x5_1 : Int) := of_decide_eq_true (by first | (with_reducible assumption) | assumption)
          have q160 : x5_1 < (l1.length : Int) := of_decide_eq_true (by first | (with_reducible assumption) | assumption)
          obtain ⟨ad160,e160,hx160_0,hx160_1,hx160_2,hx160_3⟩ := at_T66 HR1.out x5_1 p160 q160
          have hw160_3 := hx160_3
          have hw160_2 := hx160_2
          have hw160_1 := hx160_1
          have hw160_0 := hx160_0
          cases e160
          replace hx160_0 := (HB.out.cell (World.block_lt_of_cell? w _ hx160_0)).trans hx160_0
          replace hx160_1 := (HB.out.cell (World.block_lt_of_cell? w _ hx160_1)).trans hx160_1
          replace hx160_2 := (HB.out.cell (World.block_lt_of_cell? w _ hx160_2)).trans hx160_2
          replace hx160_3 := (HB.out.cell (World.block_lt_of_cell? w _ hx160_3)).trans hx160_3
          replace p160 := eq_true p160
          replace q160 := eq_true q160
          refine start_ (n := 10) (S := fun w' => w'.cell? (ad159.add ((x5_1).toNat * 4)) = some (.int .i64 ((q0f l0 x5_1).f0)) ∧ w'.cell? ⟨(ad159.add ((x5_1).toNat * 4)).block,(ad159.add ((x5_1).toNat * 4)).off + 1,none⟩ = some (.bool ((q0f l0 x5_1).f1)) ∧ w'.cell? ⟨(ad159.add ((x5_1).toNat * 4)).block,(ad159.add ((x5_1).toNat * 4)).off + 2,none⟩ = some (.int .i64 ((q0f l0 x5_1).f2)) ∧ w'.cell? ⟨(ad159.add ((x5_1).toNat * 4)).block,(ad159.add ((x5_1).toNat * 4)).off + 3,none⟩ = some (.string ((q0f l0 x5_1).f3)) ∧ w'.cell? (ad160.add ((x5_1).toNat * 4)) = some (.int .i64 ((q0f l1 x5_1).f0)) ∧ w'.cell? ⟨(ad160.add ((x5_1).toNat * 4)).block,(ad160.add ((x5_1).toNat * 4)).off + 1,none⟩ = some (.bool ((q0f l1 x5_1).f1)) ∧ w'.cell? ⟨(ad160.add ((x5_1).toNat * 4)).block,(ad160.add ((x5_1).toNat * 4)).off + 2,none⟩ = some (.int .i64 ((q0f l1 x5_1).f2)) ∧ w'.cell? ⟨(ad160.add ((x5_1).toNat * 4)).block,(ad160.add ((x5_1).toNat * 4)).off + 3,none⟩ = some (.string ((q0f l1 x5_1).f3))) (ds := []) #[false,false,false,false,false,false,false,false,false,false] (by kernel_rfl) rfl rfl ⟨((HB.out.cell (World.block_lt_of_cell? w _ hw159_0)).trans hw159_0),((HB.out.cell (World.block_lt_of_cell? w _ hw159_1)).trans hw159_1),((HB.out.cell (World.block_lt_of_cell? w _ hw159_2)).trans hw159_2),((HB.out.cell (World.block_lt_of_cell? w _ hw159_3)).trans hw159_3),((HB.out.cell (World.block_lt_of_cell? w _ hw160_0)).trans hw160_0),((HB.out.cell (World.block_lt_of_cell? w _ hw160_1)).trans hw160_1),((HB.out.cell (World.block_lt_of_cell? w _ hw160_2)).trans hw160_2),((HB.out.cell (World.block_lt_of_cell? w _ hw160_3)).trans hw160_3)⟩ (fun hHeld => ?_);refine with_tabW verdererref02_Compare.tab4 verdererref02_Compare.bits4 (fun HT_ HW_ => ?_)
          generalize wc.drew = w13 at HB hx159_0 hx159_1 hx159_2 hx159_3 hx160_0 hx160_1 hx160_2 hx160_3 hHeld ⊢
          refine pure_ (i := 0) (N := some 19) (v := ?_) (a' := ?_) #[true,false,false,false,false,false,false,false,false,false] rfl rfl (q0q HT_.out (by kernel_rfl)) (fun _ _ _ h => h) (Or.inl ⟨by rfl,?_⟩) ?_ ?_
          rotate_left
          ·intro w'
           go_simp
           with_reducible rfl
          rotate_left
          ·simp only [Act.put,zA,zB,zC,i64_w,i32_w]
           rfl
          refine pure_ (i := 1) (N := some 20) (v := ?_) (a' := ?_) #[true,true,false,false,false,false,false,false,false,false] rfl rfl (q0q HT_.out (by kernel_rfl)) (fun _ _ _ h => h) (Or.inl ⟨by rfl,?_⟩) ?_ ?_
          rotate_left
          ·intro w'
           go_simp
           with_reducible rfl
          rotate_left
          ·simp only [Act.put,zA,zB,zC,i64_w,i32_w]
           rfl
          refine pure_ (i := 2) (N := some 21) (v := ?_) (a' := ?_) #[true,true,true,false,false,false,false,false,false,false] rfl rfl (q0q HT_.out (by kernel_rfl)) (fun _ _ _ h => h) (Or.inl ⟨by rfl,?_⟩) ?_ ?_
          rotate_left
          ·intro w'
           go_simp
           with_reducible rfl
          rotate_left
          ·simp only [Act.put,zA,zB,zC,i64_w,i32_w]
           rfl
          refine pure_ (i := 4) (N := some 23) (v := ?_) (a' := ?_) #[true,true,true,false,true,false,false,false,false,false] rfl rfl (q0q HT_.out (by kernel_rfl)) (fun _ _ _ h => h) (Or.inl ⟨by rfl,?_⟩) ?_ ?_
          rotate_left
          ·intro w'
           go_simp
           with_reducible rfl
          rotate_left
          ·simp only [Act.put,zA,zB,zC,i64_w,i32_w]
           rfl
          refine pure_ (i := 5) (N := some 24) (v := ?_) (a' := ?_) #[true,true,true,false,true,true,false,false,false,false] rfl rfl (q0q HT_.out (by kernel_rfl)) (fun _ _ _ h => h) (Or.inl ⟨by rfl,?_⟩) ?_ ?_
          rotate_left
          ·intro w'
           go_simp
           with_reducible rfl
          rotate_left
          ·simp only [Act.put,zA,zB,zC,i64_w,i32_w]
           rfl
          refine pure_ (i := 6) (N := some 25) (v := ?_) (a' := ?_) #[true,true,true,false,true,true,true,false,false,false] rfl rfl (q0q HT_.out (by kernel_rfl)) (fun _ _ _ h => h) (Or.inl ⟨by rfl,?_⟩) ?_ ?_
          rotate_left
          ·intro w'
           go_simp
           with_reducible rfl
          rotate_left
          ·simp only [Act.put,zA,zB,zC,i64_w,i32_w]
           rfl
          refine take_ (i := 3) (N := some 22) (v := ?_) (a' := ?_) #[true,true,true,true,true,true,true,false,false,false] rfl rfl (take_ofW HT_.out HW_.out (by kernel_rfl)) (fun _ _ _ h => h) (Or.inl ⟨by rfl,?_⟩) hHeld ?_ ?_
          rotate_left
          ·rintro w' ⟨s0,s1,s2,s3,s4,s5,s6,s7⟩
           go_simp
           with_reducible rfl
          rotate_left
          ·simp only [Act.put,zA,zB,zC,i64_w,i32_w]
           rfl
          refine take_ (i := 7) (N := some 26) (v := ?_) (a' := ?_) #[true,true,true,true,true,true,true,true,false,false] rfl rfl (take_ofW HT_.out HW_.out (by kernel_rfl)) (fun _ _ _ h => h) (Or.inl ⟨by rfl,?_⟩) hHeld ?_ ?_
          rotate_left
          ·rintro w' ⟨s0,s1,s2,s3,s4,s5,s6,s7⟩
           go_simp
           with_reducible rfl
          rotate_left
          ·simp only [Act.put,zA,zB,zC,i64_w,i32_w]
           rfl
          refine one_ (i := 8) (N := some 27) #[true,true,true,true,true,true,true,true,true,false] rfl rfl (one_of HT_.out (by kernel_rfl)) (by decide) (fun K hK => ?_)
          refine goes_ Try.func116 (by kernel_rfl) rfl #[.agg #[.int .i64 ((q0f l0 x5_1).f0),.bool ((q0f l0 x5_1).f1),.int .i64 ((q0f l0 x5_1).f2),.string ((q0f l0 x5_1).f3)],.agg #[.int .i64 ((q0f l1 x5_1).f0),.bool ((q0f l1 x5_1).f1),.int .i64 ((q0f l1 x5_1).f2),.string ((q0f l1 x5_1).f3)]] (by rfl) rfl rfl (by (try simp only [List.map_toArray,List.map_cons,List.map_nil]);first | done | rfl | (simp only [List.length_drop,List.length_take];rfl)) ?_
          with_reducible refine (verdererref01_Compare.calls kj2 ((q0f l0 x5_1).f0) ((q0f l0 x5_1).f1) ((q0f l0 x5_1).f2) ((q0f l0 x5_1).f3) ((q0f l1 x5_1).f0) ((q0f l1 x5_1).f1) ((q0f l1 x5_1).f2) ((q0f l1 x5_1).f3) t161 _ A9.out).mono ?_
          rintro e w14 ⟨rfl,hb⟩
          refine ⟨_,rfl,?_⟩
          have n0_ := Aside0.mk (q0n (by repeat (first | (with_reducible first | exact HB.out | apply q0b | apply q0a | apply q0c) | exact HB.out)) hb)
          clear HB
          have HB := n0_
          clear n0_
          (try clear hb)
          (try clear hb2)
          (try clear hk)
          (try clear hi)
          refine hK.out _ _ ⟨((HB.out.cell (World.block_lt_of_cell? w _ hw159_0)).trans hw159_0),((HB.out.cell (World.block_lt_of_cell? w _ hw159_1)).trans hw159_1),((HB.out.cell (World.block_lt_of_cell? w _ hw159_2)).trans hw159_2),((HB.out.cell (World.block_lt_of_cell? w _ hw159_3)).trans hw159_3),((HB.out.cell (World.block_lt_of_cell? w _ hw160_0)).trans hw160_0),((HB.out.cell (World.block_lt_of_cell? w _ hw160_1)).trans hw160_1),((HB.out.cell (World.block_lt_of_cell? w _ hw160_2)).trans hw160_2),((HB.out.cell (World.block_lt_of_cell? w _ hw160_3)).trans hw160_3)⟩ (fun hHeld => ?_)
          clear hK K
          refine norm_ (a' := ?_) ?_ ?_
          rotate_left
          ·show Act.put _ (some 27) _ = _
           simp only [Act.put,zA,zB,zC,i64_w,i32_w]
           rfl
          refine pure_ (i := 9) (N := some 6) (v := ?_) (a' := ?_) #[true,true,true,true,true,true,true,true,true,true] rfl rfl (q0q HT_.out (by kernel_rfl)) (fun _ _ _ h => h) (Or.inl ⟨by rfl,?_⟩) ?_ ?_
          rotate_left
          ·intro w'
           go_simp
           with_reducible rfl
          rotate_left
          ·simp only [Act.put,zA,zB,zC,i64_w,i32_w]
           rfl
          refine done_ (done_of HT_.out (by kernel_rfl)) ?_
          try go_wp2
          go_ret
          exact ⟨by first | rfl | (simp [q0m,q0l] <;> rfl) | (simp [*,q0m,q0l] <;> rfl),by repeat (first | (with_reducible first | exact HB.out | apply q0b | apply q0a | apply q0c) | exact HB.out)⟩
        ·rw [if_neg c8] at H
         exact absurd H (by simp)
       ·rw [if_neg c7] at H
        exact absurd H (by simp)
      ·rw [if_neg c6] at H
       exact absurd H (by simp)
     ·replace c5 := Bool.eq_false_iff.mpr c5
      subst c5
      have H1 : (if (l0.length : Int) < (l1.length : Int) then (some (-1)) else (if (l0.length : Int) > (l1.length : Int) then (some 1) else (some 0))) = some r := by rw [if_neg (show ¬ (false = true) by decide)] at H;exact H
      clear H
      have H := H1
      clear H1
      by_cases c15 : (l0.length : Int) < (l1.length : Int)
      ·rw [if_pos c15] at H
       have c15b0 : decide ((l0.length : Int) < (l1.length : Int)) = true := decide_eq_true c15
       have c15b1 : decide (l0.length < l1.length) = true := decide_eq_true (Int.ofNat_lt.mp c15)
       clear c15
       obtain rfl := Option.some.inj H
       go_wp2
       go_ret
       exact ⟨by first | rfl | (simp [q0m,q0l] <;> rfl) | (simp [*,q0m,q0l] <;> rfl),by repeat (first | (with_reducible first | exact HB.out | apply q0b | apply q0a | apply q0c) | exact HB.out)⟩
      ·rw [if_neg c15] at H
       have c15b0 : decide ((l0.length : Int) < (l1.length : Int)) = false := decide_eq_false c15
       have c15b1 : decide (l0.length < l1.length) = false := decide_eq_false (fun h => c15 (Int.ofNat_lt.mpr h))
       clear c15
       by_cases c16 : (l0.length : Int) > (l1.length : Int)
       ·rw [if_pos c16] at H
        have c16b0 : decide ((l1.length : Int) < (l0.length : Int)) = true := decide_eq_true c16
        have c16b1 : decide (l1.length < l0.length) = true := decide_eq_true (Int.ofNat_lt.mp c16)
        clear c16
        obtain rfl := Option.some.inj H
        go_wp2
        go_ret
        exact ⟨by first | rfl | (simp [q0m,q0l] <;> rfl) | (simp [*,q0m,q0l] <;> rfl),by repeat (first | (with_reducible first | exact HB.out | apply q0b | apply q0a | apply q0c) | exact HB.out)⟩
       ·rw [if_neg c16] at H
        have c16b0 : decide ((l1.length : Int) < (l0.length : Int)) = false := decide_eq_false c16
        have c16b1 : decide (l1.length < l0.length) = false := decide_eq_false (fun h => c16 (Int.ofNat_lt.mpr h))
        clear c16
        obtain rfl := Option.some.inj H
        go_wp2
        go_ret
        exact ⟨by first | rfl | (simp [q0m,q0l] <;> rfl) | (simp [*,q0m,q0l] <;> rfl),by repeat (first | (with_reducible first | exact HB.out | apply q0b | apply q0a | apply q0c) | exact HB.out)⟩
end Go.Proofs.Ythmbfcfomcaaaaa.Z
end
section
namespace Go.Proofs.Ythmbfcfomcaaaaa.Z
open Go.RowKit Go.Proofs.YthmbfcfomcaaaaaW.PrintWords Go.Proofs.YthmbfcfomcaaaaaW.PrintLast Go.Proofs.YthmbfcfomcaaaaaW.PrintMore
attribute [local go_sem] max2_int min2_int max_two min_two max_three min_three max_four min_four
set_option linter.unusedVariables false
set_option linter.unusedSimpArgs false
attribute [local go_sem high] eqA66
def verdererref02_Equal.l0 : Nat → List (S66) → List (S66) → Int → Option (Bool)
 | 0,_,_,_ => none
 | k + 1,x0,x1,x5 => if x5 < (x0.length : Int) then (if 0 ≤ x5 then (if x5 < (x1.length : Int) then (if (!(((q0f x0 x5).f0) == ((q0f x1 x5).f0)) || (!(((q0f x0 x5).f1) == ((q0f x1 x5).f1)) || (!(((q0f x0 x5).f2) == ((q0f x1 x5).f2)) || (!((((q0f x0 x5).f3).toList) == (((q0f x1 x5).f3).toList)))))) = true then (some false) else (verdererref02_Equal.l0 k x0 x1 (wrap64 (x5 + 1)))) else (none)) else (none)) else (some true)
def verdererref02_Equal.f (k : Nat) (l0 : List (S66)) (l1 : List (S66)) : Option (Bool) := if (l0.length : Int) = (l1.length : Int) then (verdererref02_Equal.l0 k l0 l1 0) else (some false)
theorem verdererref02_Equal.mono_l : ∀ k,(∀ y0 y1 y2,LeO (verdererref02_Equal.l0 k y0 y1 y2) (verdererref02_Equal.l0 (k + 1) y0 y1 y2))
 | 0 => fun _ _ _ r h => by simp [verdererref02_Equal.l0] at h
 | k + 1 => by
  have ih0 := verdererref02_Equal.mono_l k
  ·intro y0 y1 y2
   unfold verdererref02_Equal.l0
   repeat' first
   | (with_reducible exact ih0 _ _ _)
   | (with_reducible exact LeO.refl _)
   | (with_reducible exact LeO.none _)
   | (with_reducible refine LeO.ite ?_ ?_)
   | (with_reducible refine LeO.bind ?_ (fun _ => ?_))
   | exact ih0 _ _ _
   | exact LeO.none _
   | refine LeO.ite ?_ ?_
   | refine LeO.bind ?_ (fun _ => ?_)
theorem verdererref02_Equal.mono : ∀ a0 a1 k,LeO (verdererref02_Equal.f k a0 a1) (verdererref02_Equal.f (k + 1) a0 a1) := by
 intro a0 a1 k
 have ih0 := verdererref02_Equal.mono_l k
 unfold verdererref02_Equal.f
 repeat' first
   | (with_reducible exact ih0 _ _ _)
   | (with_reducible exact LeO.refl _)
   | (with_reducible exact LeO.none _)
   | (with_reducible refine LeO.ite ?_ ?_)
   | (with_reducible refine LeO.bind ?_ (fun _ => ?_))
   | exact ih0 _ _ _
   | exact LeO.none _
   | refine LeO.ite ?_ ?_
   | refine LeO.bind ?_ (fun _ => ?_)
set_option maxHeartbeats 8000000 in
set_option maxRecDepth 100000 in
theorem verdererref02_Equal.calls (k : Nat) (A0 : Option Addr) (c0 : Nat) (l0 : List (S66)) (A1 : Option Addr) (c1 : Nat) (l1 : List (S66)) (r : Bool) (w : World) (hr0 : Kd.C k66 w A0 l0.length l0) (hc0 : l0.length ≤ c0) (hr1 : Kd.C k66 w A1 l1.length l1) (hc1 : l1.length ≤ c1) (h : verdererref02_Equal.f k l0 l1 = some r) :
  Calls Try.prog 22 #[.slice A0 l0.length c0,.slice A1 l1.length c1] w fun e w' => e = .returned (.bool r) ∧ Drawn0 w w' := by
 have hu66 := Try.underlying66
 have HR0 := Aside0.mk hr0
 have HC0 := Aside0.mk hc0
 clear hr0 hc0
 have HR1 := Aside0.mk hr1
 have HC1 := Aside0.mk hc1
 clear hr1 hc1
 have H : (if (l0.length : Int) = (l1.length : Int) then (verdererref02_Equal.l0 k l0 l1 0) else (some false)) = some r := h
 clear h
 by_cases c3 : (l0.length : Int) = (l1.length : Int)
 ·rw [if_pos c3] at H
  have c3b0 : ((l0.length : Int) == (l1.length : Int)) = true := beq_iff_eq.mpr c3
  have c3b1 : ((l0.length : Int) != (l1.length : Int)) = false := bne_eq_false_iff_eq.mpr c3
  have c3b2 : (l0.length == l1.length) = true := by first | simpa using c3 | (simp at c3 ⊢;omega)
  clear c3
  have H' := Aside0.mk H
  clear H
  go_enter Try.func22,Try.ntmps22
  go_wp2
  repeat (go_quiet (fail);try go_wp2)
  go_loopg [5] k (fun kq v5 w' => ∃ (x5_1 : Int),v5 = .int .i64 x5_1 ∧ Aside0 (verdererref02_Equal.l0 kq l0 l1 x5_1 = some r) ∧ Aside0 (kq ≤ k) ∧ Drawn0 w w')
  case atStart => exact ⟨(0),(by first | rfl | (simp;done) | (simp [*];done)),H',⟨Nat.le_refl _⟩,by repeat (first | exact Drawn0.refl _ | apply Drawn0.step)⟩
  case round =>
   clear H'
   try clear c1
   try clear c2
   try clear p2
   try clear c3
   try clear c3b0
   try clear c3b1
   try clear c3b2
   obtain ⟨x5_1,rfl,HA,HK1,⟨m1,rfl⟩⟩ := hrel
   cases gk with
   | zero => exact absurd HA.out (by simp [verdererref02_Equal.l0])
   | succ k1 =>
    have H := HA.out
    clear HA
    simp only [verdererref02_Equal.l0] at H
    by_cases c4 : x5_1 < (l0.length : Int)
    ·rw [if_pos c4] at H
     have c4b0 : decide (x5_1 < (l0.length : Int)) = true := decide_eq_true c4
     clear c4
     by_cases c5 : 0 ≤ x5_1
     ·rw [if_pos c5] at H
      have c5b0 : decide (0 ≤ x5_1) = true := decide_eq_true c5
      clear c5
      by_cases c6 : x5_1 < (l1.length : Int)
      ·rw [if_pos c6] at H
       have c6b0 : decide (x5_1 < (l1.length : Int)) = true := decide_eq_true c6
       clear c6
       by_cases c7 : (!(((q0f l0 x5_1).f0) == ((q0f l1 x5_1).f0)) || (!(((q0f l0 x5_1).f1) == ((q0f l1 x5_1).f1)) || (!(((q0f l0 x5_1).f2) == ((q0f l1 x5_1).f2)) || (!((((q0f l0 x5_1).f3).toList) == (((q0f l1 x5_1).f3).toList)))))) = true
       ·rw [if_pos c7] at H
        have c7b0 : (!(((q0f l0 x5_1).f0) == ((q0f l1 x5_1).f0)) || (!(((q0f l0 x5_1).f1) == ((q0f l1 x5_1).f1)) || (!(((q0f l0 x5_1).f2) == ((q0f l1 x5_1).f2)) || (!((((q0f l0 x5_1).f3).toList) == (((q0f l1 x5_1).f3).toList)))))) = true := c7
        clear c7
        obtain rfl := Option.some.inj H
        have p166 : 0 ≤ (x5_1 : Int) := of_decide_eq_true (by first | (with_reducible assumption) | assumption)
        have q166 : x5_1 < (l0.length : Int) := of_decide_eq_true (by first | (with_reducible assumption) | assumption)
        obtain ⟨ad166,e166,hx166_0,hx166_1,hx166_2,hx166_3⟩ := at_T66 HR0.out x5_1 p166 q166
        cases e166
        replace p166 := eq_true p166
        replace q166 := eq_true q166
        have p167 : 0 ≤ (x5_1 : Int) := of_decide_eq_true (by first | (with_reducible assumption) | assumption)
        have q167 : x5_1 < (l1.length : Int) := of_decide_eq_true (by first | (with_reducible assumption) | assumption)
        obtain ⟨ad167,e167,hx167_0,hx167_1,hx167_2,hx167_3⟩ := at_T66 HR1.out x5_1 p167 q167
        cases e167
        replace p167 := eq_true p167
        replace q167 := eq_true q167
        go_wp2
        repeat (go_quiet (fail);try go_wp2)
        go_ret
        exact ⟨by first | rfl | (simp;done) | (simp [*];done),by repeat (first | exact Drawn0.refl _ | apply Drawn0.step)⟩
       ·rw [if_neg c7] at H
        have c7b0 : (!(((q0f l0 x5_1).f0) == ((q0f l1 x5_1).f0)) || (!(((q0f l0 x5_1).f1) == ((q0f l1 x5_1).f1)) || (!(((q0f l0 x5_1).f2) == ((q0f l1 x5_1).f2)) || (!((((q0f l0 x5_1).f3).toList) == (((q0f l1 x5_1).f3).toList)))))) = false := by simpa using c7
        clear c7
        have H' := Aside0.mk H
        clear H
        have p166 : 0 ≤ (x5_1 : Int) := of_decide_eq_true (by first | (with_reducible assumption) | assumption)
        have q166 : x5_1 < (l0.length : Int) := of_decide_eq_true (by first | (with_reducible assumption) | assumption)
        obtain ⟨ad166,e166,hx166_0,hx166_1,hx166_2,hx166_3⟩ := at_T66 HR0.out x5_1 p166 q166
        cases e166
        replace p166 := eq_true p166
        replace q166 := eq_true q166
        have p167 : 0 ≤ (x5_1 : Int) := of_decide_eq_true (by first | (with_reducible assumption) | assumption)
        have q167 : x5_1 < (l1.length : Int) := of_decide_eq_true (by first | (with_reducible assumption) | assumption)
        obtain ⟨ad167,e167,hx167_0,hx167_1,hx167_2,hx167_3⟩ := at_T66 HR1.out x5_1 p167 q167
        cases e167
        replace p167 := eq_true p167
        replace q167 := eq_true q167
        go_wp2
        repeat (go_quiet (fail);try go_wp2)
        go_roundg k1
        case measure => have := HK1.out;omega
        case rel => exact ⟨(wrap64 (x5_1 + 1)),(by first | rfl | (simp;done) | (simp [*];done)),H',⟨by have := HK1.out;omega⟩,by repeat (first | exact Drawn0.refl _ | apply Drawn0.step)⟩
      ·rw [if_neg c6] at H
       exact absurd H (by simp)
     ·rw [if_neg c5] at H
      exact absurd H (by simp)
    ·rw [if_neg c4] at H
     have c4b0 : decide (x5_1 < (l0.length : Int)) = false := decide_eq_false c4
     clear c4
     obtain rfl := Option.some.inj H
     go_wp2
     repeat (go_quiet (fail);try go_wp2)
     go_ret
     exact ⟨by first | rfl | (simp;done) | (simp [*];done),by repeat (first | exact Drawn0.refl _ | apply Drawn0.step)⟩
 ·rw [if_neg c3] at H
  have c3b0 : ((l0.length : Int) == (l1.length : Int)) = false := beq_eq_false_iff_ne.mpr c3
  have c3b1 : ((l0.length : Int) != (l1.length : Int)) = true := bne_iff_ne.mpr c3
  have c3b2 : (l0.length == l1.length) = false := by first | simpa using c3 | (simp at c3 ⊢;omega)
  obtain rfl := Option.some.inj H
  go_enter Try.func22,Try.ntmps22
  go_wp2
  repeat (go_quiet (fail);try go_wp2)
  go_ret
  exact ⟨by first | rfl | (simp;done) | (simp [*];done),by repeat (first | exact Drawn0.refl _ | apply Drawn0.step)⟩
end Go.Proofs.Ythmbfcfomcaaaaa.Z
end
section
namespace Go.Proofs.Ythmbfcfomcaaaaa.Z
open Go.RowKit Go.Proofs.YthmbfcfomcaaaaaW.PrintWords Go.Proofs.YthmbfcfomcaaaaaW.PrintLast Go.Proofs.YthmbfcfomcaaaaaW.PrintMore Go.Proofs.Ythmbfcfomcaaaaa.Cmp
theorem bt_get {s : ByteArray} {i : Nat} (h : i < s.size) : bt s (i : Int) = ((s.data.toList[i]'(by simpa using h)).toNat : Int) := by
 rw [← bt_at s (i : Int) (by simpa using h)]
 rfl
theorem bytes_drop {s : ByteArray} {i : Nat} (h : i < s.size) : s.data.toList.drop i = s.data.toList[i]'(by simpa using h) :: s.data.toList.drop (i + 1) := List.drop_eq_getElem_cons (by simpa using h)
theorem text_l0 (a b : ByteArray) (ha : a.size ≤ 9223372036854775807) : ∀ d i k,a.size - i = d → i ≤ a.size → i ≤ b.size → 2 * d + 1 < k → verdererref01_Text.l0 k a b (i : Int) = some (cmpB (a.data.toList.drop i) (b.data.toList.drop i)) := by
 intro d
 induction d with
 | zero =>
  intro i k hd hi hib hk
  obtain ⟨k,rfl⟩ : ∃ m,k = m + 2 := ⟨k - 2,by omega⟩
  have e0 : a.data.toList.drop i = [] := List.drop_eq_nil_of_le (by simp;omega)
  simp only [verdererref01_Text.l0]
  rw [if_neg (by omega),e0]
  simp only [verdererref01_Text.j1,Bool.false_eq_true,if_false]
  by_cases h : i < b.size
  ·rw [if_pos (by omega),bytes_drop h];rfl
  ·rw [if_neg (by omega),if_neg (by omega),List.drop_eq_nil_of_le (by simp;omega)];rfl
 | succ d ih =>
  intro i k hd hi hib hk
  obtain ⟨k,rfl⟩ : ∃ m,k = m + 2 := ⟨k - 2,by omega⟩
  have hlt : i < a.size := by omega
  simp only [verdererref01_Text.l0]
  rw [if_pos (by omega)]
  simp only [verdererref01_Text.j1]
  by_cases h : i < b.size
  ·rw [if_pos (decide_eq_true (by omega)),if_pos (by omega),if_pos (by omega),if_pos (by omega),bt_get hlt,bt_get h,bytes_drop hlt,bytes_drop h]
   generalize a.data.toList[i]'(by simpa using hlt) = x
   generalize b.data.toList[i]'(by simpa using h) = y
   have e : cmpB (x :: a.data.toList.drop (i + 1)) (y :: b.data.toList.drop (i + 1)) = if cmpI x.toNat y.toNat = 0 then cmpB (a.data.toList.drop (i + 1)) (b.data.toList.drop (i + 1)) else cmpI x.toNat y.toNat := rfl
   rw [e,wrap_succ hlt ha,ih (i + 1) k (by omega) (by omega) (by omega) (by omega)]
   unfold cmpI
   by_cases h1 : (x.toNat : Int) < y.toNat
   ·rw [if_pos h1,if_pos h1,if_neg (by omega)]
   ·by_cases h2 : (y.toNat : Int) < x.toNat
    ·rw [if_neg h1,if_neg h1,if_pos h2,if_pos h2,if_neg (by omega)]
    ·rw [if_neg h1,if_neg h1,if_neg h2,if_neg h2,if_pos rfl]
  ·rw [if_neg (by simp;omega),if_neg (by omega),if_pos (by omega),bytes_drop hlt,List.drop_eq_nil_of_le (show b.data.toList.length ≤ i by simp;omega)]
   rfl
theorem text_f (a b : ByteArray) (ha : a.size ≤ 9223372036854775807) (k : Nat) (hk : 2 * a.size + 1 < k) : verdererref01_Text.f k a b = some (cmpB a.data.toList b.data.toList) := by
 have h := text_l0 a b ha a.size 0 k (by omega) (by omega) (by omega) hk
 rw [show ((0 : Nat) : Int) = 0 from rfl] at h
 exact h
theorem vcmp_ref (a b : S66) (ha : a.f3.size ≤ 9223372036854775807) (k : Nat) (hk : 2 * a.f3.size + 1 < k) : verdererref01_Compare.f k a.f0 a.f1 a.f2 a.f3 b.f0 b.f1 b.f2 b.f3 = some (vcmp a b) := by
 unfold verdererref01_Compare.f vcmp
 rw [text_f _ _ ha k hk]
 simp only [Option.bind_some]
 by_cases h1 : a.f0 < b.f0
 ·rw [if_pos h1,if_neg (by omega)]
  unfold cmpI
  rw [if_pos h1]
 ·by_cases h2 : a.f0 > b.f0
  ·rw [if_neg h1,if_pos h2,if_neg (by omega)]
   unfold cmpI
   rw [if_neg h1,if_pos h2]
  ·have e : (if a.f0 = b.f0 then kcmp a b else cmpI a.f0 b.f0) = kcmp a b := if_pos (by omega)
   rw [if_neg h1,if_neg h2,e]
   unfold kcmp
   by_cases k1 : a.f0 = 1
   ·rw [if_pos k1,if_pos k1]
    cases a.f1 <;> cases b.f1 <;> rfl
   ·by_cases k2 : a.f0 = 2
    ·rw [if_neg k1,if_pos k2,if_neg k1,if_pos k2]
     unfold cmpI
     repeat' split
     all_goals first | rfl | omega
    ·by_cases k3 : a.f0 = 3
     ·rw [if_neg k1,if_neg k2,if_pos k3,if_neg k1,if_neg k2,if_pos k3]
     ·rw [if_neg k1,if_neg k2,if_neg k3,if_neg k1,if_neg k2,if_neg k3]
theorem refCompare_l0 (x0 x1 : List S66) (hl : x0.length ≤ 9223372036854775807) (M : Nat) (hM : ∀ x ∈ x0,x.f3.size ≤ M) (hM2 : M ≤ 9223372036854775807) : ∀ d i k,x0.length - i = d → i ≤ x0.length → i ≤ x1.length → 2 * d + 2 * M + 3 < k → verdererref02_Compare.l0 k x0 x1 (i : Int) = some (rcmp (x0.drop i) (x1.drop i)) := by
 intro d
 induction d with
 | zero =>
  intro i k hd hi hib hk
  obtain ⟨k,rfl⟩ : ∃ m,k = m + 2 := ⟨k - 2,by omega⟩
  simp only [verdererref02_Compare.l0]
  rw [if_neg (by omega),List.drop_eq_nil_of_le (show x0.length ≤ i by omega)]
  simp only [verdererref02_Compare.j1,Bool.false_eq_true,if_false]
  by_cases h : i < x1.length
  ·rw [if_pos (by omega),drop_rd h];rfl
  ·rw [if_neg (by omega),if_neg (by omega),List.drop_eq_nil_of_le (by omega)];rfl
 | succ d ih =>
  intro i k hd hi hib hk
  obtain ⟨k,rfl⟩ : ∃ m,k = m + 2 := ⟨k - 2,by omega⟩
  have hlt : i < x0.length := by omega
  simp only [verdererref02_Compare.l0]
  rw [if_pos (by omega)]
  simp only [verdererref02_Compare.j1]
  have hx : (q0f x0 (i : Int)).f3.size ≤ M := by rw [rd_get hlt];exact hM _ (List.getElem_mem hlt)
  by_cases h : i < x1.length
  ·rw [if_pos (decide_eq_true (by omega)),if_pos (by omega),if_pos (by omega),if_pos (by omega),vcmp_ref _ _ (by omega) k (by omega),Option.bind_some,drop_rd hlt,drop_rd h]
   by_cases h0 : vcmp (q0f x0 i) (q0f x1 i) = 0
   ·rw [if_pos h0,wrap_succ hlt hl,ih (i + 1) k (by omega) (by omega) (by omega) (by omega)]
    simp [rcmp,lexC,h0]
   ·rw [if_neg h0]
    simp [rcmp,lexC,h0]
  ·rw [if_neg (by simp;omega),if_neg (by omega),if_pos (by omega),drop_rd hlt,List.drop_eq_nil_of_le (show x1.length ≤ i by omega)]
   rfl
theorem refCompare_f (a b : List S66) (ha : a.length ≤ 9223372036854775807) (M : Nat) (hM : ∀ x ∈ a,x.f3.size ≤ M) (hM2 : M ≤ 9223372036854775807) (k : Nat) (hk : 2 * a.length + 2 * M + 3 < k) : verdererref02_Compare.f k a b = some (rcmp a b) := by
 have h := refCompare_l0 a b ha M hM hM2 a.length 0 k (by omega) (by omega) (by omega) hk
 rw [show ((0 : Nat) : Int) = 0 from rfl] at h
 exact h
theorem equal_l0 (x : List S66) (hl : x.length ≤ 9223372036854775807) : ∀ d i k,x.length - i = d → i ≤ x.length → d < k → verdererref02_Equal.l0 k x x (i : Int) = some true := by
 intro d
 induction d with
 | zero =>
  intro i k hd hi hk
  obtain ⟨k,rfl⟩ : ∃ m,k = m + 1 := ⟨k - 1,by omega⟩
  simp only [verdererref02_Equal.l0]
  rw [if_neg (by omega)]
 | succ d ih =>
  intro i k hd hi hk
  obtain ⟨k,rfl⟩ : ∃ m,k = m + 1 := ⟨k - 1,by omega⟩
  simp only [verdererref02_Equal.l0]
  rw [if_pos (by omega),if_pos (by omega),if_pos (by omega),if_neg (by simp),wrap_succ (show i < x.length by omega) hl,ih (i + 1) k (by omega) (by omega) (by omega)]
theorem equal_self (x : List S66) (hl : x.length ≤ 9223372036854775807) (k : Nat) (hk : x.length < k) : verdererref02_Equal.f k x x = some true := by
 unfold verdererref02_Equal.f
 rw [if_pos rfl]
 have h := equal_l0 x hl x.length 0 k (by omega) (by omega) hk
 rw [show ((0 : Nat) : Int) = 0 from rfl] at h
 exact h
end Go.Proofs.Ythmbfcfomcaaaaa.Z
end
section
namespace Go.Proofs.Ythmbfcfomcaaaaa.Z
open Go.RowKit Go.Proofs.YthmbfcfomcaaaaaW.PrintWords Go.Proofs.YthmbfcfomcaaaaaW.PrintLast Go.Proofs.YthmbfcfomcaaaaaW.PrintMore Go.Proofs.Ythmbfcfomcaaaaa.Cmp
def vright (a : S66) : Bool := if a.f0 = 0 then !a.f1 && (a.f2 == 0 && a.f3.toList == ([] : List UInt8)) else if a.f0 = 1 then (a.f2 == 0 && a.f3.toList == ([] : List UInt8)) else if a.f0 = 2 then (!a.f1 && a.f3.toList == ([] : List UInt8)) else if a.f0 = 3 then (!a.f1 && (a.f2 == 0 && decide (a.f3.size ≤ 60))) else false
theorem vright_f (a : S66) : value_Right.f a.f0 a.f1 a.f2 a.f3 = some (vright a) := by
 unfold value_Right.f vright
 simp only [value_Null.f,value_Bool.f,value_Int.f,value_Text.f,Option.bind_some]
 by_cases k0 : a.f0 = 0
 ·rw [if_pos k0,if_pos k0,k0];cases a.f1 <;> simp
 ·by_cases k1 : a.f0 = 1
  ·rw [if_neg k0,if_neg k0,if_pos k1,if_pos k1,k1];cases a.f1 <;> simp
  ·by_cases k2 : a.f0 = 2
   ·rw [if_neg k0,if_neg k0,if_neg k1,if_neg k1,if_pos k2,if_pos k2,k2];cases a.f1 <;> simp
   ·by_cases k3 : a.f0 = 3
    ·rw [if_neg k0,if_neg k0,if_neg k1,if_neg k1,if_neg k2,if_neg k2,if_pos k3,if_pos k3,k3]
     cases a.f1 <;> simp
     ·by_cases h : a.f2 = 0
      ·rw [if_pos h]
       simp [h]
       omega
      ·rw [if_neg h]
       simp [h]
    ·rw [if_neg k0,if_neg k0,if_neg k1,if_neg k1,if_neg k2,if_neg k2,if_neg k3,if_neg k3]
theorem vright_ref (a : S66) : verdererref01_Right.f a.f0 a.f1 a.f2 a.f3 = some (vright a) := by
 have he : a.f3.toList = [] → a.f3.size = 0 := fun h => by have := data_length a.f3;rw [show a.f3.data.toList = a.f3.toList from by rw [ByteArray.toList_eq]] at this;rw [← this,h];rfl
 unfold verdererref01_Right.f vright
 by_cases kl : a.f0 < 0
 ·rw [if_pos kl,if_neg (by omega),if_neg (by omega),if_neg (by omega),if_neg (by omega)]
 ·by_cases kg : a.f0 > 3
  ·rw [if_neg kl,if_pos kg,if_neg (by omega),if_neg (by omega),if_neg (by omega),if_neg (by omega)]
  ·rw [if_neg kl,if_neg kg]
   by_cases ht : a.f3.toList = []
   ·have hs := he ht
    by_cases k1 : a.f0 = 1
    ·rw [if_pos k1,if_neg (show ¬ a.f0 = 2 by omega),if_neg (show ¬ a.f0 = 3 by omega),if_neg (show ¬ a.f0 = 0 by omega),if_pos k1]
     by_cases h2 : a.f2 = 0 <;> simp [h2,ht,hs]
    ·by_cases k2 : a.f0 = 2
     ·rw [if_neg k1,if_pos k2,if_neg (show ¬ a.f0 = 3 by omega),if_neg (show ¬ a.f0 = 0 by omega),if_neg k1,if_pos k2]
      cases a.f1 <;> simp [ht,hs]
     ·rw [if_neg k1,if_neg k2]
      by_cases k3 : a.f0 = 3
      ·rw [if_neg (show ¬ a.f0 = 0 by omega),if_neg k1,if_neg k2,if_pos k3,if_pos k3]
       cases a.f1 <;> by_cases h2 : a.f2 = 0 <;> simp [h2,hs]
      ·rw [if_pos (show a.f0 = 0 by omega),if_neg k3]
       cases a.f1 <;> by_cases h2 : a.f2 = 0 <;> simp [h2,ht,hs]
   ·by_cases k1 : a.f0 = 1
    ·rw [if_pos k1,if_neg (show ¬ a.f0 = 2 by omega),if_neg (show ¬ a.f0 = 3 by omega),if_neg (show ¬ a.f0 = 0 by omega),if_pos k1]
     by_cases h2 : a.f2 = 0 <;> simp [h2,ht]
    ·by_cases k2 : a.f0 = 2
     ·rw [if_neg k1,if_pos k2,if_neg (show ¬ a.f0 = 3 by omega),if_neg (show ¬ a.f0 = 0 by omega),if_neg k1,if_pos k2]
      cases a.f1 <;> simp [ht]
     ·rw [if_neg k1,if_neg k2]
      by_cases k3 : a.f0 = 3
      ·rw [if_neg (show ¬ a.f0 = 0 by omega),if_neg k1,if_neg k2,if_pos k3,if_pos k3]
       cases a.f1 <;> by_cases h2 : a.f2 = 0 <;> simp [h2]
       omega
      ·rw [if_pos (show a.f0 = 0 by omega),if_neg k3]
       cases a.f1 <;> by_cases h2 : a.f2 = 0 <;> simp [h2,ht]
theorem right1_f (a : S66) : row_Right_1.f a.f0 a.f1 a.f2 a.f3 = some (!vright a) := by
 unfold row_Right_1.f
 rw [vright_f]
 rfl
def rright (r : List S66) : Bool := decide (r.length ≤ 40) && r.all vright
theorem indexFunc_l0 (x : List S66) (hl : x.length ≤ 9223372036854775807) : ∀ d i k,x.length - i = d → i ≤ x.length → d < k → ∃ r,slices_IndexFunc_105.l0 k x (x.length : Int) (i : Int) = some r ∧ decide (r ≥ 0) = !((x.drop i).all vright) := by
 intro d
 induction d with
 | zero =>
  intro i k hd hi hk
  obtain ⟨k,rfl⟩ : ∃ m,k = m + 1 := ⟨k - 1,by omega⟩
  refine ⟨-1,?_,?_⟩
  ·simp only [slices_IndexFunc_105.l0]
   rw [if_neg (by omega)]
  ·rw [List.drop_eq_nil_of_le (by omega)];rfl
 | succ d ih =>
  intro i k hd hi hk
  obtain ⟨k,rfl⟩ : ∃ m,k = m + 1 := ⟨k - 1,by omega⟩
  have hlt : i < x.length := by omega
  simp only [slices_IndexFunc_105.l0]
  rw [if_pos (by omega),if_pos (by omega),if_pos (by omega),right1_f,Option.bind_some,drop_rd hlt,List.all_cons]
  cases hv : vright (q0f x i) with
  | false =>
   refine ⟨(i : Int),?_,?_⟩
   ·rfl
   ·simp
  | true =>
   simp only [Bool.not_true,Bool.false_eq_true,if_false,Bool.true_and]
   rw [wrap_succ hlt hl]
   exact ih (i + 1) k (by omega) (by omega) (by omega)
theorem rright_f (r : List S66) (k : Nat) (hk : 40 < k) : row_Right.f k r = some (rright r) := by
 unfold row_Right.f rright slices_ContainsFunc_90.f slices_IndexFunc_105.f
 by_cases h : r.length ≤ 40
 ·obtain ⟨q,h1,h2⟩ := indexFunc_l0 r (by omega) r.length 0 k (by omega) (by omega) (by omega)
  rw [show ((0 : Nat) : Int) = 0 from rfl] at h1
  rw [if_pos (by omega),h1]
  simp only [Option.bind_some,h2]
  simp [h]
 ·rw [if_neg (by omega)]
  simp [h]
theorem refRight_l0 (x : List S66) (hl : x.length ≤ 9223372036854775807) : ∀ d i k,x.length - i = d → i ≤ x.length → d < k → verdererref02_Right.l0 k x (i : Int) = some ((x.drop i).all vright) := by
 intro d
 induction d with
 | zero =>
  intro i k hd hi hk
  obtain ⟨k,rfl⟩ : ∃ m,k = m + 1 := ⟨k - 1,by omega⟩
  simp only [verdererref02_Right.l0]
  rw [if_neg (by omega),List.drop_eq_nil_of_le (by omega)]
  rfl
 | succ d ih =>
  intro i k hd hi hk
  obtain ⟨k,rfl⟩ : ∃ m,k = m + 1 := ⟨k - 1,by omega⟩
  have hlt : i < x.length := by omega
  simp only [verdererref02_Right.l0]
  rw [if_pos (by omega),if_pos (by omega),vright_ref,Option.bind_some,drop_rd hlt,List.all_cons]
  cases vright (q0f x i) with
  | false => rfl
  | true =>
   simp only [if_true,Bool.true_and]
   rw [wrap_succ hlt hl]
   exact ih (i + 1) k (by omega) (by omega) (by omega)
theorem rright_ref (r : List S66) (k : Nat) (hk : 40 < k) : verdererref02_Right.f k r = some (rright r) := by
 unfold verdererref02_Right.f rright
 by_cases h : r.length ≤ 40
 ·have h1 := refRight_l0 r (by omega) r.length 0 k (by omega) (by omega) (by omega)
  rw [show ((0 : Nat) : Int) = 0 from rfl] at h1
  rw [if_neg (by omega),h1]
  simp [h]
 ·rw [if_pos (by omega)]
  simp [h]
end Go.Proofs.Ythmbfcfomcaaaaa.Z
end
