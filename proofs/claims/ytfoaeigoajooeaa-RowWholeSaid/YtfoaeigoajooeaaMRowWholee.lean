/-
  verdererlaw02.RowWhole: for every input the law returns true, and each argument reads behind the call as it read before. No condition.
-/
import Derived.Test.YtfoaeigoajooeaaMRowWholea
import Derived.Test.YtfoaeigoajooeaaMRowWholeb
import Derived.Test.YtfoaeigoajooeaaMRowWholec
import Derived.Test.YtfoaeigoajooeaaMRowWholed
import Derived.Test.YtfoaeigoajooeaaWMore
import Derived.Test.YtfoaeigoajooeaaWShare
import Derived.Deep.Slices
import Derived.ProofKit
import Derived.Lib.Bytealg
import Derived.Test.YtfoaeigoajooeaaRows
import Derived.WalkKit
import Derived.OpenShut
import Derived.ShutString
import Derived.ChangeOld
import Derived.Below
namespace Go.Proofs.Ytfoaeigoajooeaa.Z
open Go.RowKit Go.Proofs.YtfoaeigoajooeaaW.PrintWords Go.Proofs.YtfoaeigoajooeaaW.PrintLast Go.Proofs.YtfoaeigoajooeaaW.PrintMore
attribute [local go_sem] max2_int min2_int max_two min_two max_three min_three max_four min_four
set_option linter.unusedVariables false
set_option linter.unusedSimpArgs false
attribute [local go_sem high] eqA50
/-! ### value_Right: function 52 -/
def value_Right.f (a0_0 : Int) (a0_1 : Bool) (a0_2 : Int) (a0_3 : ByteArray) : Option (Bool) := if a0_0 = 0 then ((value_Null.f).bind fun bt305 => (some (a0_0 == bt305.1 && (a0_1 == bt305.2.1 && (a0_2 == bt305.2.2.1 && (a0_3.toList == bt305.2.2.2.toList)))))) else (if a0_0 = 1 then ((value_Bool.f a0_1).bind fun bt309 => (some (a0_0 == bt309.1 && (a0_1 == bt309.2.1 && (a0_2 == bt309.2.2.1 && (a0_3.toList == bt309.2.2.2.toList)))))) else (if a0_0 = 2 then ((value_Int.f a0_2).bind fun bt313 => (some (a0_0 == bt313.1 && (a0_1 == bt313.2.1 && (a0_2 == bt313.2.2.1 && (a0_3.toList == bt313.2.2.2.toList)))))) else (if a0_0 = 3 then ((value_Text.f a0_3).bind fun bt317 => (if (a0_0 == bt317.1 && (a0_1 == bt317.2.1 && (a0_2 == bt317.2.2.1 && (a0_3.toList == bt317.2.2.2.toList)))) = true then (some (decide ((a0_3.size : Int) ≤ 60))) else (some false))) else (some false))))
def value_Right.T9 : Bool × List (List Nat × List Nat) := (true,[([],[]),([],[]),([1],[1]),([2],[2]),([0,3],[0,3]),([4,3],[4]),([5],[5]),([6,5],[5,6]),([7,5],[5,7]),([8,5],[5,8]),([5,9],[5,9]),([10,5,0,1,2,3,4,5,6,7,8,9,10],[10])])
def value_Right.B9 : List Nat := [0,0,2,6,15,31,63,127,255,511,1023,2047]
theorem value_Right.tab9 : rtab .any (opsOf Try.f52 9) = value_Right.T9 := by kernel_rfl
theorem value_Right.bits9 : waitsOk value_Right.T9.2 value_Right.B9 = true := by kernel_rfl
set_option maxHeartbeats 8000000 in
set_option maxRecDepth 100000 in
theorem value_Right.calls (a0_0 : Int) (a0_1 : Bool) (a0_2 : Int) (a0_3 : ByteArray) (r : Bool) (w : World) (h : value_Right.f a0_0 a0_1 a0_2 a0_3 = some r) :
    Calls Try.prog 52 #[.agg #[.int .i64 a0_0,.bool a0_1,.int .i64 a0_2,.string a0_3]] w fun e w' => e = .returned (.bool r) ∧ Below w.heap.size w w' := by
  have hu50 := Try.underlying50
  have HB := Aside0.mk (Below.refl w.heap.size w)
  have H : (if a0_0 = 0 then ((value_Null.f).bind fun bt305 => (some (a0_0 == bt305.1 && (a0_1 == bt305.2.1 && (a0_2 == bt305.2.2.1 && (a0_3.toList == bt305.2.2.2.toList)))))) else (if a0_0 = 1 then ((value_Bool.f a0_1).bind fun bt309 => (some (a0_0 == bt309.1 && (a0_1 == bt309.2.1 && (a0_2 == bt309.2.2.1 && (a0_3.toList == bt309.2.2.2.toList)))))) else (if a0_0 = 2 then ((value_Int.f a0_2).bind fun bt313 => (some (a0_0 == bt313.1 && (a0_1 == bt313.2.1 && (a0_2 == bt313.2.2.1 && (a0_3.toList == bt313.2.2.2.toList)))))) else (if a0_0 = 3 then ((value_Text.f a0_3).bind fun bt317 => (if (a0_0 == bt317.1 && (a0_1 == bt317.2.1 && (a0_2 == bt317.2.2.1 && (a0_3.toList == bt317.2.2.2.toList)))) = true then (some (decide ((a0_3.size : Int) ≤ 60))) else (some false))) else (some false))))) = some r := h
  clear h
  by_cases c2 : a0_0 = 0
  · rw [if_pos c2] at H
    have c2b0 : (a0_0 == 0) = true := beq_iff_eq.mpr c2
    have c2b1 : (a0_0 != 0) = false := bne_eq_false_iff_eq.mpr c2
    clear c2
    replace H := Option.bind_eq_some_iff.mp H
    obtain ⟨⟨t305,t306,t307,t308⟩,A30,H⟩ := H
    replace H : (some (a0_0 == t305 && (a0_1 == t306 && (a0_2 == t307 && (a0_3.toList == t308.toList))))) = some r := H
    have A3 := Aside0.mk A30
    clear A30
    obtain rfl := Option.some.inj H
    go_enter Try.func52,Try.ntmps52
    try go_wp2_with (first | ((with_reducible refine gate_dst (N := 1) rfl ?_);(try (refine gate_guard (by rfl) ?_;dsimp only));refine box_event ?hg (N := 1) ?hd (cs := #[.int .i64 a0_0,.bool a0_1,.int .i64 a0_2,.string a0_3]) (t := 50) ?hr ?_;(case hd => rfl);(case hg => rfl);(case hr => first | (go_simp;done) | (go_simp;rfl));intro gb304 hg w4 hbox hb;have n0_ := Aside0.mk (below_step (by repeat (first | (with_reducible first | exact HB.out | apply below_alloc | apply pw_below_drewN | apply below_drew1) | exact HB.out)) hb);have n1_ := Aside0.mk (hbox);have n2_ := Aside0.mk ((by rw [hg];exact (below_size (by repeat (first | (with_reducible first | exact HB.out | apply below_alloc | apply pw_below_drewN | apply below_drew1) | exact HB.out))) : w.heap.size ≤ gb304));have n3_ := Aside0.mk ((by rw [hg];exact (below_size (by repeat (first | (with_reducible first | exact HB.out | apply below_alloc | apply pw_below_drewN | apply below_drew1) | exact HB.out))) : w.heap.size ≤ gb304));clear HB;have HB := n0_;have BK304 := n1_;have GW304 := n2_;have GE304 := n3_;clear n0_ n1_ n2_ n3_;clear hb hbox hg;have hcz5_0 : w4.cell? ⟨gb304,0,none⟩ = some (.int .i64 a0_0) := (blk_cell BK304.out 0).trans rfl;have hcz5_1 : w4.cell? ⟨gb304,1,none⟩ = some (.bool a0_1) := (blk_cell BK304.out 1).trans rfl;have hcz5_2 : w4.cell? ⟨gb304,2,none⟩ = some (.int .i64 a0_2) := (blk_cell BK304.out 2).trans rfl;have hcz5_3 : w4.cell? ⟨gb304,3,none⟩ = some (.string a0_3) := (blk_cell BK304.out 3).trans rfl;have hfz5_0 := blk_frozen BK304.out 0;have hfz5_1 := blk_frozen BK304.out 1;have hfz5_2 := blk_frozen BK304.out 2;have hfz5_3 := blk_frozen BK304.out 3))
    have n0_ := Aside0.mk (blk_drew BK304.out)
    have n1_ := Aside0.mk (below_drew1 HB.out)
    clear BK304
    clear HB
    have BK304 := n0_
    have HB := n1_
    clear n0_ n1_
    refine start_ (n := 4) (S := fun w' => w'.cell? ⟨gb304,0,none⟩ = some (.int .i64 a0_0) ∧ w'.cell? ⟨gb304,1,none⟩ = some (.bool a0_1) ∧ w'.cell? ⟨gb304,2,none⟩ = some (.int .i64 a0_2) ∧ w'.cell? ⟨gb304,3,none⟩ = some (.string a0_3)) (ds := []) #[false,false,false,false] (by kernel_rfl) rfl rfl ⟨(blk_cell BK304.out 0).trans rfl,(blk_cell BK304.out 1).trans rfl,(blk_cell BK304.out 2).trans rfl,(blk_cell BK304.out 3).trans rfl⟩ (fun hHeld => ?_)
    generalize w4.drew = w6 at BK304 HB hHeld ⊢
    refine take_ (i := 0) (N := some 7) (v := ?_) (a' := ?_) #[true,false,false,false] rfl rfl (by kernel_rfl) (fun _ _ _ h => h) (Or.inl ⟨by rfl,?_⟩) hHeld ?_ ?_
    rotate_left
    · rintro w' ⟨s0,s1,s2,s3⟩
      go_simp
      with_reducible rfl
    rotate_left
    · simp only [Act.put,zA,zB,zC,i64_w,i32_w]
      rfl
    refine one_ (i := 1) (N := some 8) #[true,true,false,false] rfl rfl (by kernel_rfl) (by decide) (fun K hK => ?_)
    refine goes_ Try.func44 (by kernel_rfl) rfl #[] (by rfl) rfl rfl (by (try simp only [List.map_toArray,List.map_cons,List.map_nil]);first | done | rfl | (simp only [List.length_drop,List.length_take];rfl)) ?_
    with_reducible refine (value_Null.calls  t305 t306 t307 t308 _ A3.out).mono ?_
    rintro e w7 ⟨rfl,hb⟩
    refine ⟨_,rfl,?_⟩
    have n0_ := Aside0.mk (blk_below (g := gb304) (o := .cells #[.int .i64 a0_0,.bool a0_1,.int .i64 a0_2,.string a0_3] 50 (0,0)) (by (with_reducible repeat (first | refine blk_drewN ?_ _ | refine blk_drew ?_ | refine blk_alloc ?_ _));exact BK304.out) hb)
    have n1_ := Aside0.mk (below_step (by repeat (first | (with_reducible first | exact HB.out | apply below_alloc | apply pw_below_drewN | apply below_drew1 | refine below_set ?_ GE304.out) | exact HB.out)) hb)
    clear BK304
    clear HB
    have BK304 := n0_
    have HB := n1_
    clear n0_ n1_
    (try clear hb)
    (try clear hb2)
    (try clear hk)
    (try clear hi)
    refine hK.out _ _ ⟨(blk_cell BK304.out 0).trans rfl,(blk_cell BK304.out 1).trans rfl,(blk_cell BK304.out 2).trans rfl,(blk_cell BK304.out 3).trans rfl⟩ (fun hHeld => ?_)
    clear hK K
    refine norm_ (a' := ?_) ?_ ?_
    rotate_left
    · show Act.put _ (some 8) _ = _
      simp only [Act.put,zA,zB,zC,i64_w,i32_w]
      rfl
    refine pure_ (i := 2) (N := some 9) (v := ?_) (a' := ?_) #[true,true,true,false] rfl rfl (by kernel_rfl) (fun _ _ _ h => h) (Or.inl ⟨by rfl,?_⟩) ?_ ?_
    rotate_left
    · intro w'
      go_simp
      with_reducible rfl
    rotate_left
    · simp only [Act.put,zA,zB,zC,i64_w,i32_w]
      rfl
    refine pure_ (i := 3) (N := some 2) (v := ?_) (a' := ?_) #[true,true,true,true] rfl rfl (by kernel_rfl) (fun _ _ _ h => h) (Or.inl ⟨by rfl,?_⟩) ?_ ?_
    rotate_left
    · intro w'
      go_simp
      with_reducible rfl
    rotate_left
    · simp only [Act.put,zA,zB,zC,i64_w,i32_w]
      rfl
    refine done_ (by kernel_rfl) ?_
    try go_wp2
    go_ret
    exact ⟨by first | rfl | (simp [errW_none,errW_some] <;> rfl) | (simp [*,errW_none,errW_some] <;> rfl),by repeat (first | (with_reducible first | exact HB.out | apply below_alloc | apply pw_below_drewN | apply below_drew1 | refine below_set ?_ GE304.out) | exact HB.out)⟩
  · rw [if_neg c2] at H
    have c2b0 : (a0_0 == 0) = false := beq_eq_false_iff_ne.mpr c2
    have c2b1 : (a0_0 != 0) = true := bne_iff_ne.mpr c2
    by_cases c8 : a0_0 = 1
    · rw [if_pos c8] at H
      have c8b0 : (a0_0 == 1) = true := beq_iff_eq.mpr c8
      have c8b1 : (a0_0 != 1) = false := bne_eq_false_iff_eq.mpr c8
      clear c8
      replace H := Option.bind_eq_some_iff.mp H
      obtain ⟨⟨t309,t310,t311,t312⟩,A90,H⟩ := H
      replace H : (some (a0_0 == t309 && (a0_1 == t310 && (a0_2 == t311 && (a0_3.toList == t312.toList))))) = some r := H
      have A9 := Aside0.mk A90
      clear A90
      obtain rfl := Option.some.inj H
      go_enter Try.func52,Try.ntmps52
      try go_wp2_with (first | ((with_reducible refine gate_dst (N := 1) rfl ?_);(try (refine gate_guard (by rfl) ?_;dsimp only));refine box_event ?hg (N := 1) ?hd (cs := #[.int .i64 a0_0,.bool a0_1,.int .i64 a0_2,.string a0_3]) (t := 50) ?hr ?_;(case hd => rfl);(case hg => rfl);(case hr => first | (go_simp;done) | (go_simp;rfl));intro gb304 hg w10 hbox hb;have n0_ := Aside0.mk (below_step (by repeat (first | (with_reducible first | exact HB.out | apply below_alloc | apply pw_below_drewN | apply below_drew1) | exact HB.out)) hb);have n1_ := Aside0.mk (hbox);have n2_ := Aside0.mk ((by rw [hg];exact (below_size (by repeat (first | (with_reducible first | exact HB.out | apply below_alloc | apply pw_below_drewN | apply below_drew1) | exact HB.out))) : w.heap.size ≤ gb304));have n3_ := Aside0.mk ((by rw [hg];exact (below_size (by repeat (first | (with_reducible first | exact HB.out | apply below_alloc | apply pw_below_drewN | apply below_drew1) | exact HB.out))) : w.heap.size ≤ gb304));clear HB;have HB := n0_;have BK304 := n1_;have GW304 := n2_;have GE304 := n3_;clear n0_ n1_ n2_ n3_;clear hb hbox hg;have hcz11_0 : w10.cell? ⟨gb304,0,none⟩ = some (.int .i64 a0_0) := (blk_cell BK304.out 0).trans rfl;have hcz11_1 : w10.cell? ⟨gb304,1,none⟩ = some (.bool a0_1) := (blk_cell BK304.out 1).trans rfl;have hcz11_2 : w10.cell? ⟨gb304,2,none⟩ = some (.int .i64 a0_2) := (blk_cell BK304.out 2).trans rfl;have hcz11_3 : w10.cell? ⟨gb304,3,none⟩ = some (.string a0_3) := (blk_cell BK304.out 3).trans rfl;have hfz11_0 := blk_frozen BK304.out 0;have hfz11_1 := blk_frozen BK304.out 1;have hfz11_2 := blk_frozen BK304.out 2;have hfz11_3 := blk_frozen BK304.out 3))
      have n0_ := Aside0.mk (blk_drew BK304.out)
      have n1_ := Aside0.mk (below_drew1 HB.out)
      clear BK304
      clear HB
      have BK304 := n0_
      have HB := n1_
      clear n0_ n1_
      refine start_ (n := 6) (S := fun w' => w'.cell? ⟨gb304,0,none⟩ = some (.int .i64 a0_0) ∧ w'.cell? ⟨gb304,1,none⟩ = some (.bool a0_1) ∧ w'.cell? ⟨gb304,2,none⟩ = some (.int .i64 a0_2) ∧ w'.cell? ⟨gb304,3,none⟩ = some (.string a0_3)) (ds := []) #[false,false,false,false,false,false] (by kernel_rfl) rfl rfl ⟨(blk_cell BK304.out 0).trans rfl,(blk_cell BK304.out 1).trans rfl,(blk_cell BK304.out 2).trans rfl,(blk_cell BK304.out 3).trans rfl⟩ (fun hHeld => ?_)
      generalize w10.drew = w12 at BK304 HB hHeld ⊢
      refine pure_ (i := 1) (N := some 13) (v := ?_) (a' := ?_) #[false,true,false,false,false,false] rfl rfl (by kernel_rfl) (fun _ _ _ h => h) (Or.inl ⟨by rfl,?_⟩) ?_ ?_
      rotate_left
      · intro w'
        go_simp
        with_reducible rfl
      rotate_left
      · simp only [Act.put,zA,zB,zC,i64_w,i32_w]
        rfl
      refine take_ (i := 0) (N := some 12) (v := ?_) (a' := ?_) #[true,true,false,false,false,false] rfl rfl (by kernel_rfl) (fun _ _ _ h => h) (Or.inl ⟨by rfl,?_⟩) hHeld ?_ ?_
      rotate_left
      · rintro w' ⟨s0,s1,s2,s3⟩
        go_simp
        with_reducible rfl
      rotate_left
      · simp only [Act.put,zA,zB,zC,i64_w,i32_w]
        rfl
      refine take_ (i := 2) (N := some 14) (v := ?_) (a' := ?_) #[true,true,true,false,false,false] rfl rfl (by kernel_rfl) (fun _ _ _ h => h) (Or.inl ⟨by rfl,?_⟩) hHeld ?_ ?_
      rotate_left
      · rintro w' ⟨s0,s1,s2,s3⟩
        go_simp
        with_reducible rfl
      rotate_left
      · simp only [Act.put,zA,zB,zC,i64_w,i32_w]
        rfl
      refine one_ (i := 3) (N := some 15) #[true,true,true,true,false,false] rfl rfl (by kernel_rfl) (by decide) (fun K hK => ?_)
      refine goes_ Try.func43 (by kernel_rfl) rfl #[.bool a0_1] (by rfl) rfl rfl (by (try simp only [List.map_toArray,List.map_cons,List.map_nil]);first | done | rfl | (simp only [List.length_drop,List.length_take];rfl)) ?_
      with_reducible refine (value_Bool.calls a0_1 t309 t310 t311 t312 _ A9.out).mono ?_
      rintro e w13 ⟨rfl,hb⟩
      refine ⟨_,rfl,?_⟩
      have n0_ := Aside0.mk (blk_below (g := gb304) (o := .cells #[.int .i64 a0_0,.bool a0_1,.int .i64 a0_2,.string a0_3] 50 (0,0)) (by (with_reducible repeat (first | refine blk_drewN ?_ _ | refine blk_drew ?_ | refine blk_alloc ?_ _));exact BK304.out) hb)
      have n1_ := Aside0.mk (below_step (by repeat (first | (with_reducible first | exact HB.out | apply below_alloc | apply pw_below_drewN | apply below_drew1 | refine below_set ?_ GE304.out) | exact HB.out)) hb)
      clear BK304
      clear HB
      have BK304 := n0_
      have HB := n1_
      clear n0_ n1_
      (try clear hb)
      (try clear hb2)
      (try clear hk)
      (try clear hi)
      refine hK.out _ _ ⟨(blk_cell BK304.out 0).trans rfl,(blk_cell BK304.out 1).trans rfl,(blk_cell BK304.out 2).trans rfl,(blk_cell BK304.out 3).trans rfl⟩ (fun hHeld => ?_)
      clear hK K
      refine norm_ (a' := ?_) ?_ ?_
      rotate_left
      · show Act.put _ (some 15) _ = _
        simp only [Act.put,zA,zB,zC,i64_w,i32_w]
        rfl
      refine pure_ (i := 4) (N := some 16) (v := ?_) (a' := ?_) #[true,true,true,true,true,false] rfl rfl (by kernel_rfl) (fun _ _ _ h => h) (Or.inl ⟨by rfl,?_⟩) ?_ ?_
      rotate_left
      · intro w'
        go_simp
        with_reducible rfl
      rotate_left
      · simp only [Act.put,zA,zB,zC,i64_w,i32_w]
        rfl
      refine pure_ (i := 5) (N := some 2) (v := ?_) (a' := ?_) #[true,true,true,true,true,true] rfl rfl (by kernel_rfl) (fun _ _ _ h => h) (Or.inl ⟨by rfl,?_⟩) ?_ ?_
      rotate_left
      · intro w'
        go_simp
        with_reducible rfl
      rotate_left
      · simp only [Act.put,zA,zB,zC,i64_w,i32_w]
        rfl
      refine done_ (by kernel_rfl) ?_
      try go_wp2
      go_ret
      exact ⟨by first | rfl | (simp [errW_none,errW_some] <;> rfl) | (simp [*,errW_none,errW_some] <;> rfl),by repeat (first | (with_reducible first | exact HB.out | apply below_alloc | apply pw_below_drewN | apply below_drew1 | refine below_set ?_ GE304.out) | exact HB.out)⟩
    · rw [if_neg c8] at H
      have c8b0 : (a0_0 == 1) = false := beq_eq_false_iff_ne.mpr c8
      have c8b1 : (a0_0 != 1) = true := bne_iff_ne.mpr c8
      by_cases c14 : a0_0 = 2
      · rw [if_pos c14] at H
        have c14b0 : (a0_0 == 2) = true := beq_iff_eq.mpr c14
        have c14b1 : (a0_0 != 2) = false := bne_eq_false_iff_eq.mpr c14
        clear c14
        replace H := Option.bind_eq_some_iff.mp H
        obtain ⟨⟨t313,t314,t315,t316⟩,A150,H⟩ := H
        replace H : (some (a0_0 == t313 && (a0_1 == t314 && (a0_2 == t315 && (a0_3.toList == t316.toList))))) = some r := H
        have A15 := Aside0.mk A150
        clear A150
        obtain rfl := Option.some.inj H
        go_enter Try.func52,Try.ntmps52
        try go_wp2_with (first | ((with_reducible refine gate_dst (N := 1) rfl ?_);(try (refine gate_guard (by rfl) ?_;dsimp only));refine box_event ?hg (N := 1) ?hd (cs := #[.int .i64 a0_0,.bool a0_1,.int .i64 a0_2,.string a0_3]) (t := 50) ?hr ?_;(case hd => rfl);(case hg => rfl);(case hr => first | (go_simp;done) | (go_simp;rfl));intro gb304 hg w16 hbox hb;have n0_ := Aside0.mk (below_step (by repeat (first | (with_reducible first | exact HB.out | apply below_alloc | apply pw_below_drewN | apply below_drew1) | exact HB.out)) hb);have n1_ := Aside0.mk (hbox);have n2_ := Aside0.mk ((by rw [hg];exact (below_size (by repeat (first | (with_reducible first | exact HB.out | apply below_alloc | apply pw_below_drewN | apply below_drew1) | exact HB.out))) : w.heap.size ≤ gb304));have n3_ := Aside0.mk ((by rw [hg];exact (below_size (by repeat (first | (with_reducible first | exact HB.out | apply below_alloc | apply pw_below_drewN | apply below_drew1) | exact HB.out))) : w.heap.size ≤ gb304));clear HB;have HB := n0_;have BK304 := n1_;have GW304 := n2_;have GE304 := n3_;clear n0_ n1_ n2_ n3_;clear hb hbox hg;have hcz17_0 : w16.cell? ⟨gb304,0,none⟩ = some (.int .i64 a0_0) := (blk_cell BK304.out 0).trans rfl;have hcz17_1 : w16.cell? ⟨gb304,1,none⟩ = some (.bool a0_1) := (blk_cell BK304.out 1).trans rfl;have hcz17_2 : w16.cell? ⟨gb304,2,none⟩ = some (.int .i64 a0_2) := (blk_cell BK304.out 2).trans rfl;have hcz17_3 : w16.cell? ⟨gb304,3,none⟩ = some (.string a0_3) := (blk_cell BK304.out 3).trans rfl;have hfz17_0 := blk_frozen BK304.out 0;have hfz17_1 := blk_frozen BK304.out 1;have hfz17_2 := blk_frozen BK304.out 2;have hfz17_3 := blk_frozen BK304.out 3))
        have n0_ := Aside0.mk (blk_drew BK304.out)
        have n1_ := Aside0.mk (below_drew1 HB.out)
        clear BK304
        clear HB
        have BK304 := n0_
        have HB := n1_
        clear n0_ n1_
        refine start_ (n := 6) (S := fun w' => w'.cell? ⟨gb304,0,none⟩ = some (.int .i64 a0_0) ∧ w'.cell? ⟨gb304,1,none⟩ = some (.bool a0_1) ∧ w'.cell? ⟨gb304,2,none⟩ = some (.int .i64 a0_2) ∧ w'.cell? ⟨gb304,3,none⟩ = some (.string a0_3)) (ds := []) #[false,false,false,false,false,false] (by kernel_rfl) rfl rfl ⟨(blk_cell BK304.out 0).trans rfl,(blk_cell BK304.out 1).trans rfl,(blk_cell BK304.out 2).trans rfl,(blk_cell BK304.out 3).trans rfl⟩ (fun hHeld => ?_)
        generalize w16.drew = w18 at BK304 HB hHeld ⊢
        refine pure_ (i := 1) (N := some 20) (v := ?_) (a' := ?_) #[false,true,false,false,false,false] rfl rfl (by kernel_rfl) (fun _ _ _ h => h) (Or.inl ⟨by rfl,?_⟩) ?_ ?_
        rotate_left
        · intro w'
          go_simp
          with_reducible rfl
        rotate_left
        · simp only [Act.put,zA,zB,zC,i64_w,i32_w]
          rfl
        refine take_ (i := 0) (N := some 19) (v := ?_) (a' := ?_) #[true,true,false,false,false,false] rfl rfl (by kernel_rfl) (fun _ _ _ h => h) (Or.inl ⟨by rfl,?_⟩) hHeld ?_ ?_
        rotate_left
        · rintro w' ⟨s0,s1,s2,s3⟩
          go_simp
          with_reducible rfl
        rotate_left
        · simp only [Act.put,zA,zB,zC,i64_w,i32_w]
          rfl
        refine take_ (i := 2) (N := some 21) (v := ?_) (a' := ?_) #[true,true,true,false,false,false] rfl rfl (by kernel_rfl) (fun _ _ _ h => h) (Or.inl ⟨by rfl,?_⟩) hHeld ?_ ?_
        rotate_left
        · rintro w' ⟨s0,s1,s2,s3⟩
          go_simp
          with_reducible rfl
        rotate_left
        · simp only [Act.put,zA,zB,zC,i64_w,i32_w]
          rfl
        refine one_ (i := 3) (N := some 22) #[true,true,true,true,false,false] rfl rfl (by kernel_rfl) (by decide) (fun K hK => ?_)
        refine goes_ Try.func42 (by kernel_rfl) rfl #[.int .i64 a0_2] (by rfl) rfl rfl (by (try simp only [List.map_toArray,List.map_cons,List.map_nil]);first | done | rfl | (simp only [List.length_drop,List.length_take];rfl)) ?_
        with_reducible refine (value_Int.calls a0_2 t313 t314 t315 t316 _ A15.out).mono ?_
        rintro e w19 ⟨rfl,hb⟩
        refine ⟨_,rfl,?_⟩
        have n0_ := Aside0.mk (blk_below (g := gb304) (o := .cells #[.int .i64 a0_0,.bool a0_1,.int .i64 a0_2,.string a0_3] 50 (0,0)) (by (with_reducible repeat (first | refine blk_drewN ?_ _ | refine blk_drew ?_ | refine blk_alloc ?_ _));exact BK304.out) hb)
        have n1_ := Aside0.mk (below_step (by repeat (first | (with_reducible first | exact HB.out | apply below_alloc | apply pw_below_drewN | apply below_drew1 | refine below_set ?_ GE304.out) | exact HB.out)) hb)
        clear BK304
        clear HB
        have BK304 := n0_
        have HB := n1_
        clear n0_ n1_
        (try clear hb)
        (try clear hb2)
        (try clear hk)
        (try clear hi)
        refine hK.out _ _ ⟨(blk_cell BK304.out 0).trans rfl,(blk_cell BK304.out 1).trans rfl,(blk_cell BK304.out 2).trans rfl,(blk_cell BK304.out 3).trans rfl⟩ (fun hHeld => ?_)
        clear hK K
        refine norm_ (a' := ?_) ?_ ?_
        rotate_left
        · show Act.put _ (some 22) _ = _
          simp only [Act.put,zA,zB,zC,i64_w,i32_w]
          rfl
        refine pure_ (i := 4) (N := some 23) (v := ?_) (a' := ?_) #[true,true,true,true,true,false] rfl rfl (by kernel_rfl) (fun _ _ _ h => h) (Or.inl ⟨by rfl,?_⟩) ?_ ?_
        rotate_left
        · intro w'
          go_simp
          with_reducible rfl
        rotate_left
        · simp only [Act.put,zA,zB,zC,i64_w,i32_w]
          rfl
        refine pure_ (i := 5) (N := some 2) (v := ?_) (a' := ?_) #[true,true,true,true,true,true] rfl rfl (by kernel_rfl) (fun _ _ _ h => h) (Or.inl ⟨by rfl,?_⟩) ?_ ?_
        rotate_left
        · intro w'
          go_simp
          with_reducible rfl
        rotate_left
        · simp only [Act.put,zA,zB,zC,i64_w,i32_w]
          rfl
        refine done_ (by kernel_rfl) ?_
        try go_wp2
        go_ret
        exact ⟨by first | rfl | (simp [errW_none,errW_some] <;> rfl) | (simp [*,errW_none,errW_some] <;> rfl),by repeat (first | (with_reducible first | exact HB.out | apply below_alloc | apply pw_below_drewN | apply below_drew1 | refine below_set ?_ GE304.out) | exact HB.out)⟩
      · rw [if_neg c14] at H
        have c14b0 : (a0_0 == 2) = false := beq_eq_false_iff_ne.mpr c14
        have c14b1 : (a0_0 != 2) = true := bne_iff_ne.mpr c14
        by_cases c20 : a0_0 = 3
        · rw [if_pos c20] at H
          have c20b0 : (a0_0 == 3) = true := beq_iff_eq.mpr c20
          have c20b1 : (a0_0 != 3) = false := bne_eq_false_iff_eq.mpr c20
          clear c20
          replace H := Option.bind_eq_some_iff.mp H
          obtain ⟨⟨t317,t318,t319,t320⟩,A210,H⟩ := H
          replace H : (if (a0_0 == t317 && (a0_1 == t318 && (a0_2 == t319 && (a0_3.toList == t320.toList)))) = true then (some (decide ((a0_3.size : Int) ≤ 60))) else (some false)) = some r := H
          have A21 := Aside0.mk A210
          clear A210
          by_cases c22 : (a0_0 == t317 && (a0_1 == t318 && (a0_2 == t319 && (a0_3.toList == t320.toList)))) = true
          · rw [if_pos c22] at H
            have c22b0 : (a0_0 == t317 && (a0_1 == t318 && (a0_2 == t319 && (a0_3.toList == t320.toList)))) = true := c22
            (try (have c22b1 : decide (a0_0 = t317 && (a0_1 == t318 && (a0_2 == t319 && (a0_3.toList == t320.toList)))) = true := by simpa using c22))
            (try (have c22b2 : (a0_0 == t317 && (a0_1 == t318 && (a0_2 == t319 && (a0_3.toList == t320.toList)))) = true := by simpa using c22))
            clear c22
            obtain rfl := Option.some.inj H
            go_enter Try.func52,Try.ntmps52
            try go_wp2_with (first | ((with_reducible refine gate_dst (N := 1) rfl ?_);(try (refine gate_guard (by rfl) ?_;dsimp only));refine box_event ?hg (N := 1) ?hd (cs := #[.int .i64 a0_0,.bool a0_1,.int .i64 a0_2,.string a0_3]) (t := 50) ?hr ?_;(case hd => rfl);(case hg => rfl);(case hr => first | (go_simp;done) | (go_simp;rfl));intro gb304 hg w23 hbox hb;have n0_ := Aside0.mk (below_step (by repeat (first | (with_reducible first | exact HB.out | apply below_alloc | apply pw_below_drewN | apply below_drew1) | exact HB.out)) hb);have n1_ := Aside0.mk (hbox);have n2_ := Aside0.mk ((by rw [hg];exact (below_size (by repeat (first | (with_reducible first | exact HB.out | apply below_alloc | apply pw_below_drewN | apply below_drew1) | exact HB.out))) : w.heap.size ≤ gb304));have n3_ := Aside0.mk ((by rw [hg];exact (below_size (by repeat (first | (with_reducible first | exact HB.out | apply below_alloc | apply pw_below_drewN | apply below_drew1) | exact HB.out))) : w.heap.size ≤ gb304));clear HB;have HB := n0_;have BK304 := n1_;have GW304 := n2_;have GE304 := n3_;clear n0_ n1_ n2_ n3_;clear hb hbox hg;have hcz24_0 : w23.cell? ⟨gb304,0,none⟩ = some (.int .i64 a0_0) := (blk_cell BK304.out 0).trans rfl;have hcz24_1 : w23.cell? ⟨gb304,1,none⟩ = some (.bool a0_1) := (blk_cell BK304.out 1).trans rfl;have hcz24_2 : w23.cell? ⟨gb304,2,none⟩ = some (.int .i64 a0_2) := (blk_cell BK304.out 2).trans rfl;have hcz24_3 : w23.cell? ⟨gb304,3,none⟩ = some (.string a0_3) := (blk_cell BK304.out 3).trans rfl;have hfz24_0 := blk_frozen BK304.out 0;have hfz24_1 := blk_frozen BK304.out 1;have hfz24_2 := blk_frozen BK304.out 2;have hfz24_3 := blk_frozen BK304.out 3))
            have n0_ := Aside0.mk (blk_drew BK304.out)
            have n1_ := Aside0.mk (below_drew1 HB.out)
            clear BK304
            clear HB
            have BK304 := n0_
            have HB := n1_
            clear n0_ n1_
            refine start_ (n := 12) (S := fun w' => w'.cell? ⟨gb304,0,none⟩ = some (.int .i64 a0_0) ∧ w'.cell? ⟨gb304,1,none⟩ = some (.bool a0_1) ∧ w'.cell? ⟨gb304,2,none⟩ = some (.int .i64 a0_2) ∧ w'.cell? ⟨gb304,3,none⟩ = some (.string a0_3)) (ds := []) #[false,false,false,false,false,false,false,false,false,false,false,false] (by kernel_rfl) rfl rfl ⟨(blk_cell BK304.out 0).trans rfl,(blk_cell BK304.out 1).trans rfl,(blk_cell BK304.out 2).trans rfl,(blk_cell BK304.out 3).trans rfl⟩ (fun hHeld => ?_);refine with_tabW value_Right.tab9 value_Right.bits9 (fun HT_ HW_ => ?_)
            generalize w23.drew = w25 at BK304 HB hHeld ⊢
            refine pure_ (i := 1) (N := some 27) (v := ?_) (a' := ?_) #[false,true,false,false,false,false,false,false,false,false,false,false] rfl rfl (any_of HT_.out (by kernel_rfl)) (fun _ _ _ h => h) (Or.inl ⟨by rfl,?_⟩) ?_ ?_
            rotate_left
            · intro w'
              go_simp
              with_reducible rfl
            rotate_left
            · simp only [Act.put,zA,zB,zC,i64_w,i32_w]
              rfl
            refine take_ (i := 0) (N := some 26) (v := ?_) (a' := ?_) #[true,true,false,false,false,false,false,false,false,false,false,false] rfl rfl (take_ofW HT_.out HW_.out (by kernel_rfl)) (fun _ _ _ h => h) (Or.inl ⟨by rfl,?_⟩) hHeld ?_ ?_
            rotate_left
            · rintro w' ⟨s0,s1,s2,s3⟩
              go_simp
              with_reducible rfl
            rotate_left
            · simp only [Act.put,zA,zB,zC,i64_w,i32_w]
              rfl
            refine take_ (i := 2) (N := some 28) (v := ?_) (a' := ?_) #[true,true,true,false,false,false,false,false,false,false,false,false] rfl rfl (take_ofW HT_.out HW_.out (by kernel_rfl)) (fun _ _ _ h => h) (Or.inl ⟨by rfl,?_⟩) hHeld ?_ ?_
            rotate_left
            · rintro w' ⟨s0,s1,s2,s3⟩
              go_simp
              with_reducible rfl
            rotate_left
            · simp only [Act.put,zA,zB,zC,i64_w,i32_w]
              rfl
            refine one_ (i := 3) (N := some 29) #[true,true,true,true,false,false,false,false,false,false,false,false] rfl rfl (one_of HT_.out (by kernel_rfl)) (by decide) (fun K hK => ?_)
            refine goes_ Try.func61 (by kernel_rfl) rfl #[.string a0_3] (by rfl) rfl rfl (by (try simp only [List.map_toArray,List.map_cons,List.map_nil]);first | done | rfl | (simp only [List.length_drop,List.length_take];rfl)) ?_
            with_reducible refine (value_Text.calls a0_3 t317 t318 t319 t320 _ A21.out).mono ?_
            rintro e w26 ⟨rfl,hb⟩
            refine ⟨_,rfl,?_⟩
            have n0_ := Aside0.mk (blk_below (g := gb304) (o := .cells #[.int .i64 a0_0,.bool a0_1,.int .i64 a0_2,.string a0_3] 50 (0,0)) (by (with_reducible repeat (first | refine blk_drewN ?_ _ | refine blk_drew ?_ | refine blk_alloc ?_ _));exact BK304.out) hb)
            have n1_ := Aside0.mk (below_step (by repeat (first | (with_reducible first | exact HB.out | apply below_alloc | apply pw_below_drewN | apply below_drew1 | refine below_set ?_ GE304.out) | exact HB.out)) hb)
            clear BK304
            clear HB
            have BK304 := n0_
            have HB := n1_
            clear n0_ n1_
            (try clear hb)
            (try clear hb2)
            (try clear hk)
            (try clear hi)
            refine hK.out _ _ ⟨(blk_cell BK304.out 0).trans rfl,(blk_cell BK304.out 1).trans rfl,(blk_cell BK304.out 2).trans rfl,(blk_cell BK304.out 3).trans rfl⟩ (fun hHeld => ?_)
            clear hK K
            refine norm_ (a' := ?_) ?_ ?_
            rotate_left
            · show Act.put _ (some 29) _ = _
              simp only [Act.put,zA,zB,zC,i64_w,i32_w]
              rfl
            refine pure_ (i := 4) (N := some 30) (v := ?_) (a' := ?_) #[true,true,true,true,true,false,false,false,false,false,false,false] rfl rfl (any_of HT_.out (by kernel_rfl)) (fun _ _ _ h => h) (Or.inl ⟨by rfl,?_⟩) ?_ ?_
            rotate_left
            · intro w'
              go_simp
              with_reducible rfl
            rotate_left
            · simp only [Act.put,zA,zB,zC,i64_w,i32_w]
              rfl
            refine pure_ (i := 5) (N := some 31) (v := ?_) (a' := ?_) #[true,true,true,true,true,true,false,false,false,false,false,false] rfl rfl (any_of HT_.out (by kernel_rfl)) (fun _ _ _ h => h) (Or.inl ⟨by rfl,?_⟩) ?_ ?_
            rotate_left
            · intro w'
              go_simp
              with_reducible rfl
            rotate_left
            · simp only [Act.put,zA,zB,zC,i64_w,i32_w]
              rfl
            refine pure_ (i := 6) (N := some 32) (v := ?_) (a' := ?_) #[true,true,true,true,true,true,true,false,false,false,false,false] rfl rfl (any_of HT_.out (by kernel_rfl)) (fun _ _ _ h => h) (Or.inl ⟨by rfl,?_⟩) ?_ ?_
            rotate_left
            · intro w'
              go_simp
              with_reducible rfl
            rotate_left
            · simp only [Act.put,zA,zB,zC,i64_w,i32_w]
              rfl
            refine take_ (i := 7) (N := some 33) (v := ?_) (a' := ?_) #[true,true,true,true,true,true,true,true,false,false,false,false] rfl rfl (take_ofW HT_.out HW_.out (by kernel_rfl)) (fun _ _ _ h => h) (Or.inl ⟨by rfl,?_⟩) hHeld ?_ ?_
            rotate_left
            · rintro w' ⟨s0,s1,s2,s3⟩
              go_simp
              with_reducible rfl
            rotate_left
            · simp only [Act.put,zA,zB,zC,i64_w,i32_w]
              rfl
            refine pure_ (i := 8) (N := some 34) (v := ?_) (a' := ?_) #[true,true,true,true,true,true,true,true,true,false,false,false] rfl rfl (any_of HT_.out (by kernel_rfl)) (fun _ _ _ h => h) (Or.inl ⟨by rfl,?_⟩) ?_ ?_
            rotate_left
            · intro w'
              go_simp
              with_reducible rfl
            rotate_left
            · simp only [Act.put,zA,zB,zC,i64_w,i32_w]
              rfl
            refine pure_ (i := 9) (N := some 35) (v := ?_) (a' := ?_) #[true,true,true,true,true,true,true,true,true,true,false,false] rfl rfl (any_of HT_.out (by kernel_rfl)) (fun _ _ _ h => h) (Or.inl ⟨by rfl,?_⟩) ?_ ?_
            rotate_left
            · intro w'
              go_simp
              with_reducible rfl
            rotate_left
            · simp only [Act.put,zA,zB,zC,i64_w,i32_w]
              rfl
            refine pure_ (i := 10) (N := some 36) (v := ?_) (a' := ?_) #[true,true,true,true,true,true,true,true,true,true,true,false] rfl rfl (any_of HT_.out (by kernel_rfl)) (fun _ _ _ h => h) (Or.inl ⟨by rfl,?_⟩) ?_ ?_
            rotate_left
            · intro w'
              go_simp
              with_reducible rfl
            rotate_left
            · simp only [Act.put,zA,zB,zC,i64_w,i32_w]
              rfl
            refine pure_ (i := 11) (N := some 2) (v := ?_) (a' := ?_) #[true,true,true,true,true,true,true,true,true,true,true,true] rfl rfl (any_of HT_.out (by kernel_rfl)) (fun _ _ _ h => h) (Or.inl ⟨by rfl,?_⟩) ?_ ?_
            rotate_left
            · intro w'
              go_simp
              with_reducible rfl
            rotate_left
            · simp only [Act.put,zA,zB,zC,i64_w,i32_w]
              rfl
            refine done_ (done_of HT_.out (by kernel_rfl)) ?_
            try go_wp2
            go_ret
            exact ⟨by first | rfl | (simp [errW_none,errW_some] <;> rfl) | (simp [*,errW_none,errW_some] <;> rfl),by repeat (first | (with_reducible first | exact HB.out | apply below_alloc | apply pw_below_drewN | apply below_drew1 | refine below_set ?_ GE304.out) | exact HB.out)⟩
          · rw [if_neg c22] at H
            have c22b0 : (a0_0 == t317 && (a0_1 == t318 && (a0_2 == t319 && (a0_3.toList == t320.toList)))) = false := by simpa using c22
            (try (have c22b1 : decide (a0_0 = t317 && (a0_1 == t318 && (a0_2 == t319 && (a0_3.toList == t320.toList)))) = false := by simpa using c22))
            (try (have c22b2 : (a0_0 == t317 && (a0_1 == t318 && (a0_2 == t319 && (a0_3.toList == t320.toList)))) = false := by simpa using c22))
            (try (have c22b3 : ¬ (a0_0 = t317 && (a0_1 == t318 && (a0_2 == t319 && (a0_3.toList == t320.toList)))) := by simpa using c22))
            clear c22
            obtain rfl := Option.some.inj H
            go_enter Try.func52,Try.ntmps52
            try go_wp2_with (first | ((with_reducible refine gate_dst (N := 1) rfl ?_);(try (refine gate_guard (by rfl) ?_;dsimp only));refine box_event ?hg (N := 1) ?hd (cs := #[.int .i64 a0_0,.bool a0_1,.int .i64 a0_2,.string a0_3]) (t := 50) ?hr ?_;(case hd => rfl);(case hg => rfl);(case hr => first | (go_simp;done) | (go_simp;rfl));intro gb304 hg w27 hbox hb;have n0_ := Aside0.mk (below_step (by repeat (first | (with_reducible first | exact HB.out | apply below_alloc | apply pw_below_drewN | apply below_drew1) | exact HB.out)) hb);have n1_ := Aside0.mk (hbox);have n2_ := Aside0.mk ((by rw [hg];exact (below_size (by repeat (first | (with_reducible first | exact HB.out | apply below_alloc | apply pw_below_drewN | apply below_drew1) | exact HB.out))) : w.heap.size ≤ gb304));have n3_ := Aside0.mk ((by rw [hg];exact (below_size (by repeat (first | (with_reducible first | exact HB.out | apply below_alloc | apply pw_below_drewN | apply below_drew1) | exact HB.out))) : w.heap.size ≤ gb304));clear HB;have HB := n0_;have BK304 := n1_;have GW304 := n2_;have GE304 := n3_;clear n0_ n1_ n2_ n3_;clear hb hbox hg;have hcz28_0 : w27.cell? ⟨gb304,0,none⟩ = some (.int .i64 a0_0) := (blk_cell BK304.out 0).trans rfl;have hcz28_1 : w27.cell? ⟨gb304,1,none⟩ = some (.bool a0_1) := (blk_cell BK304.out 1).trans rfl;have hcz28_2 : w27.cell? ⟨gb304,2,none⟩ = some (.int .i64 a0_2) := (blk_cell BK304.out 2).trans rfl;have hcz28_3 : w27.cell? ⟨gb304,3,none⟩ = some (.string a0_3) := (blk_cell BK304.out 3).trans rfl;have hfz28_0 := blk_frozen BK304.out 0;have hfz28_1 := blk_frozen BK304.out 1;have hfz28_2 := blk_frozen BK304.out 2;have hfz28_3 := blk_frozen BK304.out 3))
            have n0_ := Aside0.mk (blk_drew BK304.out)
            have n1_ := Aside0.mk (below_drew1 HB.out)
            clear BK304
            clear HB
            have BK304 := n0_
            have HB := n1_
            clear n0_ n1_
            refine start_ (n := 12) (S := fun w' => w'.cell? ⟨gb304,0,none⟩ = some (.int .i64 a0_0) ∧ w'.cell? ⟨gb304,1,none⟩ = some (.bool a0_1) ∧ w'.cell? ⟨gb304,2,none⟩ = some (.int .i64 a0_2) ∧ w'.cell? ⟨gb304,3,none⟩ = some (.string a0_3)) (ds := []) #[false,false,false,false,false,false,false,false,false,false,false,false] (by kernel_rfl) rfl rfl ⟨(blk_cell BK304.out 0).trans rfl,(blk_cell BK304.out 1).trans rfl,(blk_cell BK304.out 2).trans rfl,(blk_cell BK304.out 3).trans rfl⟩ (fun hHeld => ?_);refine with_tabW value_Right.tab9 value_Right.bits9 (fun HT_ HW_ => ?_)
            generalize w27.drew = w29 at BK304 HB hHeld ⊢
            refine pure_ (i := 1) (N := some 27) (v := ?_) (a' := ?_) #[false,true,false,false,false,false,false,false,false,false,false,false] rfl rfl (any_of HT_.out (by kernel_rfl)) (fun _ _ _ h => h) (Or.inl ⟨by rfl,?_⟩) ?_ ?_
            rotate_left
            · intro w'
              go_simp
              with_reducible rfl
            rotate_left
            · simp only [Act.put,zA,zB,zC,i64_w,i32_w]
              rfl
            refine take_ (i := 0) (N := some 26) (v := ?_) (a' := ?_) #[true,true,false,false,false,false,false,false,false,false,false,false] rfl rfl (take_ofW HT_.out HW_.out (by kernel_rfl)) (fun _ _ _ h => h) (Or.inl ⟨by rfl,?_⟩) hHeld ?_ ?_
            rotate_left
            · rintro w' ⟨s0,s1,s2,s3⟩
              go_simp
              with_reducible rfl
            rotate_left
            · simp only [Act.put,zA,zB,zC,i64_w,i32_w]
              rfl
            refine take_ (i := 2) (N := some 28) (v := ?_) (a' := ?_) #[true,true,true,false,false,false,false,false,false,false,false,false] rfl rfl (take_ofW HT_.out HW_.out (by kernel_rfl)) (fun _ _ _ h => h) (Or.inl ⟨by rfl,?_⟩) hHeld ?_ ?_
            rotate_left
            · rintro w' ⟨s0,s1,s2,s3⟩
              go_simp
              with_reducible rfl
            rotate_left
            · simp only [Act.put,zA,zB,zC,i64_w,i32_w]
              rfl
            refine one_ (i := 3) (N := some 29) #[true,true,true,true,false,false,false,false,false,false,false,false] rfl rfl (one_of HT_.out (by kernel_rfl)) (by decide) (fun K hK => ?_)
            refine goes_ Try.func61 (by kernel_rfl) rfl #[.string a0_3] (by rfl) rfl rfl (by (try simp only [List.map_toArray,List.map_cons,List.map_nil]);first | done | rfl | (simp only [List.length_drop,List.length_take];rfl)) ?_
            with_reducible refine (value_Text.calls a0_3 t317 t318 t319 t320 _ A21.out).mono ?_
            rintro e w30 ⟨rfl,hb⟩
            refine ⟨_,rfl,?_⟩
            have n0_ := Aside0.mk (blk_below (g := gb304) (o := .cells #[.int .i64 a0_0,.bool a0_1,.int .i64 a0_2,.string a0_3] 50 (0,0)) (by (with_reducible repeat (first | refine blk_drewN ?_ _ | refine blk_drew ?_ | refine blk_alloc ?_ _));exact BK304.out) hb)
            have n1_ := Aside0.mk (below_step (by repeat (first | (with_reducible first | exact HB.out | apply below_alloc | apply pw_below_drewN | apply below_drew1 | refine below_set ?_ GE304.out) | exact HB.out)) hb)
            clear BK304
            clear HB
            have BK304 := n0_
            have HB := n1_
            clear n0_ n1_
            (try clear hb)
            (try clear hb2)
            (try clear hk)
            (try clear hi)
            refine hK.out _ _ ⟨(blk_cell BK304.out 0).trans rfl,(blk_cell BK304.out 1).trans rfl,(blk_cell BK304.out 2).trans rfl,(blk_cell BK304.out 3).trans rfl⟩ (fun hHeld => ?_)
            clear hK K
            refine norm_ (a' := ?_) ?_ ?_
            rotate_left
            · show Act.put _ (some 29) _ = _
              simp only [Act.put,zA,zB,zC,i64_w,i32_w]
              rfl
            refine pure_ (i := 4) (N := some 30) (v := ?_) (a' := ?_) #[true,true,true,true,true,false,false,false,false,false,false,false] rfl rfl (any_of HT_.out (by kernel_rfl)) (fun _ _ _ h => h) (Or.inl ⟨by rfl,?_⟩) ?_ ?_
            rotate_left
            · intro w'
              go_simp
              with_reducible rfl
            rotate_left
            · simp only [Act.put,zA,zB,zC,i64_w,i32_w]
              rfl
            refine pure_ (i := 5) (N := some 31) (v := ?_) (a' := ?_) #[true,true,true,true,true,true,false,false,false,false,false,false] rfl rfl (any_of HT_.out (by kernel_rfl)) (fun _ _ _ h => h) (Or.inl ⟨by rfl,?_⟩) ?_ ?_
            rotate_left
            · intro w'
              go_simp
              with_reducible rfl
            rotate_left
            · simp only [Act.put,zA,zB,zC,i64_w,i32_w]
              rfl
            refine pure_ (i := 6) (N := some 32) (v := undef) (a' := ?_) #[true,true,true,true,true,true,true,false,false,false,false,false] rfl rfl (any_of HT_.out (by kernel_rfl)) (fun _ _ _ h => h) (Or.inr ⟨by rfl,rfl⟩) ?_ ?_
            rotate_left
            · simp only [Act.put,zA,zB,zC,i64_w,i32_w]
              rfl
            refine pure_ (i := 7) (N := some 33) (v := undef) (a' := ?_) #[true,true,true,true,true,true,true,true,false,false,false,false] rfl rfl (any_of HT_.out (by kernel_rfl)) (fun _ _ _ h => h) (Or.inr ⟨by rfl,rfl⟩) ?_ ?_
            rotate_left
            · simp only [Act.put,zA,zB,zC,i64_w,i32_w]
              rfl
            refine pure_ (i := 8) (N := some 34) (v := undef) (a' := ?_) #[true,true,true,true,true,true,true,true,true,false,false,false] rfl rfl (any_of HT_.out (by kernel_rfl)) (fun _ _ _ h => h) (Or.inr ⟨by rfl,rfl⟩) ?_ ?_
            rotate_left
            · simp only [Act.put,zA,zB,zC,i64_w,i32_w]
              rfl
            refine pure_ (i := 9) (N := some 35) (v := undef) (a' := ?_) #[true,true,true,true,true,true,true,true,true,true,false,false] rfl rfl (any_of HT_.out (by kernel_rfl)) (fun _ _ _ h => h) (Or.inr ⟨by rfl,rfl⟩) ?_ ?_
            rotate_left
            · simp only [Act.put,zA,zB,zC,i64_w,i32_w]
              rfl
            refine pure_ (i := 10) (N := some 36) (v := ?_) (a' := ?_) #[true,true,true,true,true,true,true,true,true,true,true,false] rfl rfl (any_of HT_.out (by kernel_rfl)) (fun _ _ _ h => h) (Or.inl ⟨by rfl,?_⟩) ?_ ?_
            rotate_left
            · intro w'
              go_simp
              with_reducible rfl
            rotate_left
            · simp only [Act.put,zA,zB,zC,i64_w,i32_w]
              rfl
            refine pure_ (i := 11) (N := some 2) (v := ?_) (a' := ?_) #[true,true,true,true,true,true,true,true,true,true,true,true] rfl rfl (any_of HT_.out (by kernel_rfl)) (fun _ _ _ h => h) (Or.inl ⟨by rfl,?_⟩) ?_ ?_
            rotate_left
            · intro w'
              go_simp
              with_reducible rfl
            rotate_left
            · simp only [Act.put,zA,zB,zC,i64_w,i32_w]
              rfl
            refine done_ (done_of HT_.out (by kernel_rfl)) ?_
            try go_wp2
            go_ret
            exact ⟨by first | rfl | (simp [errW_none,errW_some] <;> rfl) | (simp [*,errW_none,errW_some] <;> rfl),by repeat (first | (with_reducible first | exact HB.out | apply below_alloc | apply pw_below_drewN | apply below_drew1 | refine below_set ?_ GE304.out) | exact HB.out)⟩
        · rw [if_neg c20] at H
          have c20b0 : (a0_0 == 3) = false := beq_eq_false_iff_ne.mpr c20
          have c20b1 : (a0_0 != 3) = true := bne_iff_ne.mpr c20
          obtain rfl := Option.some.inj H
          go_enter Try.func52,Try.ntmps52
          go_wp2_with (first | ((with_reducible refine gate_dst (N := 1) rfl ?_);(try (refine gate_guard (by rfl) ?_;dsimp only));refine box_event ?hg (N := 1) ?hd (cs := #[.int .i64 a0_0,.bool a0_1,.int .i64 a0_2,.string a0_3]) (t := 50) ?hr ?_;(case hd => rfl);(case hg => rfl);(case hr => first | (go_simp;done) | (go_simp;rfl));intro gb304 hg w31 hbox hb;have n0_ := Aside0.mk (below_step (by repeat (first | (with_reducible first | exact HB.out | apply below_alloc | apply pw_below_drewN | apply below_drew1) | exact HB.out)) hb);have n1_ := Aside0.mk (hbox);have n2_ := Aside0.mk ((by rw [hg];exact (below_size (by repeat (first | (with_reducible first | exact HB.out | apply below_alloc | apply pw_below_drewN | apply below_drew1) | exact HB.out))) : w.heap.size ≤ gb304));have n3_ := Aside0.mk ((by rw [hg];exact (below_size (by repeat (first | (with_reducible first | exact HB.out | apply below_alloc | apply pw_below_drewN | apply below_drew1) | exact HB.out))) : w.heap.size ≤ gb304));clear HB;have HB := n0_;have BK304 := n1_;have GW304 := n2_;have GE304 := n3_;clear n0_ n1_ n2_ n3_;clear hb hbox hg;have hcz32_0 : w31.cell? ⟨gb304,0,none⟩ = some (.int .i64 a0_0) := (blk_cell BK304.out 0).trans rfl;have hcz32_1 : w31.cell? ⟨gb304,1,none⟩ = some (.bool a0_1) := (blk_cell BK304.out 1).trans rfl;have hcz32_2 : w31.cell? ⟨gb304,2,none⟩ = some (.int .i64 a0_2) := (blk_cell BK304.out 2).trans rfl;have hcz32_3 : w31.cell? ⟨gb304,3,none⟩ = some (.string a0_3) := (blk_cell BK304.out 3).trans rfl;have hfz32_0 := blk_frozen BK304.out 0;have hfz32_1 := blk_frozen BK304.out 1;have hfz32_2 := blk_frozen BK304.out 2;have hfz32_3 := blk_frozen BK304.out 3))
          go_ret
          exact ⟨by first | rfl | (simp [errW_none,errW_some] <;> rfl) | (simp [*,errW_none,errW_some] <;> rfl),by repeat (first | (with_reducible first | exact HB.out | apply below_alloc | apply pw_below_drewN | apply below_drew1 | refine below_set ?_ GE304.out) | exact HB.out)⟩
end Go.Proofs.Ytfoaeigoajooeaa.Z
namespace Go.Proofs.Ytfoaeigoajooeaa.Z
open Go.RowKit Go.Proofs.YtfoaeigoajooeaaW.PrintWords Go.Proofs.YtfoaeigoajooeaaW.PrintLast Go.Proofs.YtfoaeigoajooeaaW.PrintMore
attribute [local go_sem] max2_int min2_int max_two min_two max_three min_three max_four min_four
set_option linter.unusedVariables false
set_option linter.unusedSimpArgs false
/-! ### row_Right_1: function 51 -/
def row_Right_1.f (a0_0 : Int) (a0_1 : Bool) (a0_2 : Int) (a0_3 : ByteArray) : Option (Bool) := (value_Right.f a0_0 a0_1 a0_2 a0_3).bind fun t322 => (some (!t322))
set_option maxHeartbeats 8000000 in
set_option maxRecDepth 100000 in
theorem row_Right_1.calls (a0_0 : Int) (a0_1 : Bool) (a0_2 : Int) (a0_3 : ByteArray) (r : Bool) (w : World) (h : row_Right_1.f a0_0 a0_1 a0_2 a0_3 = some r) :
    Calls Try.prog 51 #[.agg #[.int .i64 a0_0,.bool a0_1,.int .i64 a0_2,.string a0_3]] w fun e w' => e = .returned (.bool r) ∧ Below w.heap.size w w' := by
  have hu50 := Try.underlying50
  have HB := Aside0.mk (Below.refl w.heap.size w)
  have H : ((value_Right.f a0_0 a0_1 a0_2 a0_3).bind fun t322 => (some (!t322))) = some r := h
  clear h
  replace H := Option.bind_eq_some_iff.mp H
  obtain ⟨t322,A20,H⟩ := H
  replace H : (some (!t322)) = some r := H
  have A2 := Aside0.mk A20
  clear A20
  obtain rfl := Option.some.inj H
  go_enter Try.func51,Try.ntmps51
  go_wp2_with (first | ((with_reducible refine gate_dst (N := 1) rfl ?_);refine box_event ?hg (N := 1) ?hd (cs := #[.int .i64 a0_0,.bool a0_1,.int .i64 a0_2,.string a0_3]) (t := 50) ?hr ?_;(case hd => rfl);(case hg => rfl);(case hr => first | (go_simp;done) | (go_simp;rfl));intro gb321 hg w3 hbox hb;have n0_ := Aside0.mk (below_step (by repeat (first | (with_reducible first | exact HB.out | apply below_alloc | apply pw_below_drewN | apply below_drew1) | exact HB.out)) hb);have n1_ := Aside0.mk (hbox);have n2_ := Aside0.mk ((by rw [hg];exact (below_size (by repeat (first | (with_reducible first | exact HB.out | apply below_alloc | apply pw_below_drewN | apply below_drew1) | exact HB.out))) : w.heap.size ≤ gb321));have n3_ := Aside0.mk ((by rw [hg];exact (below_size (by repeat (first | (with_reducible first | exact HB.out | apply below_alloc | apply pw_below_drewN | apply below_drew1) | exact HB.out))) : w.heap.size ≤ gb321));clear HB;have HB := n0_;have BK321 := n1_;have GW321 := n2_;have GE321 := n3_;clear n0_ n1_ n2_ n3_;clear hb hbox hg;have hcz4_0 : w3.cell? ⟨gb321,0,none⟩ = some (.int .i64 a0_0) := (blk_cell BK321.out 0).trans rfl;have hcz4_1 : w3.cell? ⟨gb321,1,none⟩ = some (.bool a0_1) := (blk_cell BK321.out 1).trans rfl;have hcz4_2 : w3.cell? ⟨gb321,2,none⟩ = some (.int .i64 a0_2) := (blk_cell BK321.out 2).trans rfl;have hcz4_3 : w3.cell? ⟨gb321,3,none⟩ = some (.string a0_3) := (blk_cell BK321.out 3).trans rfl;have hfz4_0 := blk_frozen BK321.out 0;have hfz4_1 := blk_frozen BK321.out 1;have hfz4_2 := blk_frozen BK321.out 2;have hfz4_3 := blk_frozen BK321.out 3) | ((with_reducible refine gate_callee (f := 52) rfl ?_);refine goesL_ (some 4) rfl rfl Try.func52 (by kernel_rfl) rfl #[.agg #[.int .i64 a0_0,.bool a0_1,.int .i64 a0_2,.string a0_3]] rfl (by (try simp only [List.map_toArray,List.map_cons,List.map_nil]);first | done | rfl | (simp only [List.length_drop,List.length_take];rfl)) ?_;(with_reducible refine (value_Right.calls a0_0 a0_1 a0_2 a0_3 t322 _ A2.out).mono ?_);rintro e w5 ⟨rfl,hb⟩;refine ⟨_,rfl,?_⟩;have n0_ := Aside0.mk (blk_below (g := gb321) (o := .cells #[.int .i64 a0_0,.bool a0_1,.int .i64 a0_2,.string a0_3] 50 (0,0)) (by (with_reducible repeat (first | refine blk_drewN ?_ _ | refine blk_drew ?_ | refine blk_alloc ?_ _));exact BK321.out) hb);have n1_ := Aside0.mk (below_step (by repeat (first | (with_reducible first | exact HB.out | apply below_alloc | apply pw_below_drewN | apply below_drew1 | refine below_set ?_ GE321.out) | exact HB.out)) hb);clear BK321;clear HB;have BK321 := n0_;have HB := n1_;clear n0_ n1_;(try clear hb);(try clear hb2);(try clear hk);(try clear hi)))
  go_ret
  exact ⟨by first | rfl | (simp [errW_none,errW_some] <;> rfl) | (simp [*,errW_none,errW_some] <;> rfl),by repeat (first | (with_reducible first | exact HB.out | apply below_alloc | apply pw_below_drewN | apply below_drew1 | refine below_set ?_ GE321.out) | exact HB.out)⟩
end Go.Proofs.Ytfoaeigoajooeaa.Z
namespace Go.Proofs.Ytfoaeigoajooeaa.Z
open Go.RowKit Go.Proofs.YtfoaeigoajooeaaW.PrintWords Go.Proofs.YtfoaeigoajooeaaW.PrintLast Go.Proofs.YtfoaeigoajooeaaW.PrintMore
attribute [local go_sem] max2_int min2_int max_two min_two max_three min_three max_four min_four
set_option linter.unusedVariables false
set_option linter.unusedSimpArgs false
/-! ### slices_IndexFunc: function 68 -/
def slices_IndexFunc.l0 : Nat → List (S50) → Int → Int → Option (Int)
  | 0,_,_,_ => none
  | k + 1,x0,x7,x8 => if x8 < x7 then (if 0 ≤ x8 then (if x8 < (x0.length : Int) then ((row_Right_1.f ((rd_T50 x0 x8).f0) ((rd_T50 x0 x8).f1) ((rd_T50 x0 x8).f2) ((rd_T50 x0 x8).f3)).bind fun t324 => (if t324 = true then (some x8) else (slices_IndexFunc.l0 k x0 x7 (wrap64 (x8 + 1))))) else (none)) else (none)) else (some (-1))
def slices_IndexFunc.f (k : Nat) (l0 : List (S50)) (a1 : Int) : Option (Int) := slices_IndexFunc.l0 k l0 (l0.length : Int) 0
theorem slices_IndexFunc.mono_l : ∀ k,(∀ y0 y1 y2,LeO (slices_IndexFunc.l0 k y0 y1 y2) (slices_IndexFunc.l0 (k + 1) y0 y1 y2))
  | 0 => fun _ _ _ r h => by simp [slices_IndexFunc.l0] at h
  | k + 1 => by
    have ih0 := slices_IndexFunc.mono_l k
    · intro y0 y1 y2
      unfold slices_IndexFunc.l0
      repeat' first
      | (with_reducible exact ih0 _ _ _)
      | (with_reducible exact LeO.refl _)
      | (with_reducible exact LeO.none _)
      | (with_reducible refine LeO.ite ?_ ?_)
      | (with_reducible refine LeO.bind ?_ (fun _ => ?_))
      | exact ih0 _ _ _
      | exact LeO.none _
      | refine LeO.ite ?_ ?_
      | refine LeO.bind ?_ (fun _ => ?_)
theorem slices_IndexFunc.mono : ∀ a0 a1 k,LeO (slices_IndexFunc.f k a0 a1) (slices_IndexFunc.f (k + 1) a0 a1) := by
  intro a0 a1 k
  have ih0 := slices_IndexFunc.mono_l k
  unfold slices_IndexFunc.f
  repeat' first
      | (with_reducible exact ih0 _ _ _)
      | (with_reducible exact LeO.refl _)
      | (with_reducible exact LeO.none _)
      | (with_reducible refine LeO.ite ?_ ?_)
      | (with_reducible refine LeO.bind ?_ (fun _ => ?_))
      | exact ih0 _ _ _
      | exact LeO.none _
      | refine LeO.ite ?_ ?_
      | refine LeO.bind ?_ (fun _ => ?_)
set_option maxHeartbeats 8000000 in
set_option maxRecDepth 100000 in
theorem slices_IndexFunc.calls (k : Nat) (A0 : Option Addr) (c0 : Nat) (l0 : List (S50)) (a1 : Int) (r : Int) (w : World) (hr0 : Kd.C k50 w A0 l0.length l0) (hc0 : l0.length ≤ c0) (h : slices_IndexFunc.f k l0 a1 = some r) :
    Calls Try.prog 68 #[.slice A0 l0.length c0,.func (.func 51) #[] #[]] w fun e w' => e = .returned (.int .i64 r) ∧ Below w.heap.size w w' := by
  have hu50 := Try.underlying50
  have HR0 := Aside0.mk hr0
  have HC0 := Aside0.mk hc0
  clear hr0 hc0
  have HB := Aside0.mk (Below.refl w.heap.size w)
  have H : (slices_IndexFunc.l0 k l0 (l0.length : Int) 0) = some r := h
  clear h
  have H' := Aside0.mk H
  clear H
  go_enter Try.func68,Try.ntmps68
  go_wp2
  go_loopg [8] k (fun kq v8 w' => ∃ (x8_1 : Int),v8 = .int .i64 x8_1 ∧ Aside0 (slices_IndexFunc.l0 kq l0 (l0.length : Int) x8_1 = some r) ∧ Aside0 (kq ≤ k) ∧ Aside0 (Below w.heap.size w w'))
  case atStart => exact ⟨(0),(by first | rfl | (simp;done) | (simp [*];done)),H',⟨Nat.le_refl _⟩,⟨by repeat (first | (with_reducible first | exact HB.out | apply below_alloc | apply pw_below_drewN | apply below_drew1) | exact HB.out)⟩⟩
  case round =>
    clear H'
    try clear p2
    obtain ⟨x8_1,rfl,HA,HK1,HB⟩ := hrel
    cases gk with
    | zero => exact absurd HA.out (by simp [slices_IndexFunc.l0])
    | succ k1 =>
      have H := HA.out
      clear HA
      simp only [slices_IndexFunc.l0] at H
      by_cases c3 : x8_1 < (l0.length : Int)
      · rw [if_pos c3] at H
        have c3b0 : decide (x8_1 < (l0.length : Int)) = true := decide_eq_true c3
        clear c3
        by_cases c4 : 0 ≤ x8_1
        · rw [if_pos c4] at H
          have c4b0 : decide (0 ≤ x8_1) = true := decide_eq_true c4
          clear c4
          by_cases c5 : x8_1 < (l0.length : Int)
          · rw [if_pos c5] at H
            have c5b0 : decide (x8_1 < (l0.length : Int)) = true := decide_eq_true c5
            clear c5
            replace H := Option.bind_eq_some_iff.mp H
            obtain ⟨t324,A60,H⟩ := H
            replace H : (if t324 = true then (some x8_1) else (slices_IndexFunc.l0 k1 l0 (l0.length : Int) (wrap64 (x8_1 + 1)))) = some r := H
            have A6 := Aside0.mk A60
            clear A60
            by_cases c7 : t324 = true
            · subst c7
              have H1 : (some x8_1) = some r := by rw [if_pos rfl] at H;exact H
              clear H
              have H := H1
              clear H1
              obtain rfl := Option.some.inj H
              have p323 : 0 ≤ (x8_1 : Int) := of_decide_eq_true (by first | (with_reducible assumption) | assumption)
              have q323 : x8_1 < (l0.length : Int) := of_decide_eq_true (by first | (with_reducible assumption) | assumption)
              obtain ⟨ad323,e323,hx323_0,hx323_1,hx323_2,hx323_3⟩ := at_T50 HR0.out x8_1 p323 q323
              cases e323
              replace hx323_0 := (HB.out.cell (World.block_lt_of_cell? w _ hx323_0)).trans hx323_0
              replace hx323_1 := (HB.out.cell (World.block_lt_of_cell? w _ hx323_1)).trans hx323_1
              replace hx323_2 := (HB.out.cell (World.block_lt_of_cell? w _ hx323_2)).trans hx323_2
              replace hx323_3 := (HB.out.cell (World.block_lt_of_cell? w _ hx323_3)).trans hx323_3
              replace p323 := eq_true p323
              replace q323 := eq_true q323
              go_wp2_with (first | ((with_reducible refine gate_tmp (n := 11) rfl ?_);refine goesT_ (some 16) rfl rfl Try.func51 (by kernel_rfl) rfl #[.agg #[.int .i64 ((rd_T50 l0 x8_1).f0),.bool ((rd_T50 l0 x8_1).f1),.int .i64 ((rd_T50 l0 x8_1).f2),.string ((rd_T50 l0 x8_1).f3)]] rfl rfl (by (try simp only [List.map_toArray,List.map_cons,List.map_nil]);first | done | rfl | (simp only [List.length_drop,List.length_take];rfl)) ?_;(with_reducible refine (row_Right_1.calls ((rd_T50 l0 x8_1).f0) ((rd_T50 l0 x8_1).f1) ((rd_T50 l0 x8_1).f2) ((rd_T50 l0 x8_1).f3) true _ A6.out).mono ?_);rintro e w8 ⟨rfl,hb⟩;refine ⟨_,rfl,?_⟩;have n0_ := Aside0.mk (below_step (by repeat (first | (with_reducible first | exact HB.out | apply below_alloc | apply pw_below_drewN | apply below_drew1) | exact HB.out)) hb);clear HB;have HB := n0_;clear n0_;(try clear hb);(try clear hb2);(try clear hk);(try clear hi)))
              go_ret
              exact ⟨by first | rfl | (simp [errW_none,errW_some] <;> rfl) | (simp [*,errW_none,errW_some] <;> rfl),by repeat (first | (with_reducible first | exact HB.out | apply below_alloc | apply pw_below_drewN | apply below_drew1) | exact HB.out)⟩
            · replace c7 := Bool.eq_false_iff.mpr c7
              subst c7
              have H1 : (slices_IndexFunc.l0 k1 l0 (l0.length : Int) (wrap64 (x8_1 + 1))) = some r := by rw [if_neg (show ¬ (false = true) by decide)] at H;exact H
              clear H
              have H := H1
              clear H1
              have H' := Aside0.mk H
              clear H
              have p323 : 0 ≤ (x8_1 : Int) := of_decide_eq_true (by first | (with_reducible assumption) | assumption)
              have q323 : x8_1 < (l0.length : Int) := of_decide_eq_true (by first | (with_reducible assumption) | assumption)
              obtain ⟨ad323,e323,hx323_0,hx323_1,hx323_2,hx323_3⟩ := at_T50 HR0.out x8_1 p323 q323
              cases e323
              replace hx323_0 := (HB.out.cell (World.block_lt_of_cell? w _ hx323_0)).trans hx323_0
              replace hx323_1 := (HB.out.cell (World.block_lt_of_cell? w _ hx323_1)).trans hx323_1
              replace hx323_2 := (HB.out.cell (World.block_lt_of_cell? w _ hx323_2)).trans hx323_2
              replace hx323_3 := (HB.out.cell (World.block_lt_of_cell? w _ hx323_3)).trans hx323_3
              replace p323 := eq_true p323
              replace q323 := eq_true q323
              go_wp2_with (first | ((with_reducible refine gate_tmp (n := 11) rfl ?_);refine goesT_ (some 16) rfl rfl Try.func51 (by kernel_rfl) rfl #[.agg #[.int .i64 ((rd_T50 l0 x8_1).f0),.bool ((rd_T50 l0 x8_1).f1),.int .i64 ((rd_T50 l0 x8_1).f2),.string ((rd_T50 l0 x8_1).f3)]] rfl rfl (by (try simp only [List.map_toArray,List.map_cons,List.map_nil]);first | done | rfl | (simp only [List.length_drop,List.length_take];rfl)) ?_;(with_reducible refine (row_Right_1.calls ((rd_T50 l0 x8_1).f0) ((rd_T50 l0 x8_1).f1) ((rd_T50 l0 x8_1).f2) ((rd_T50 l0 x8_1).f3) false _ A6.out).mono ?_);rintro e w9 ⟨rfl,hb⟩;refine ⟨_,rfl,?_⟩;have n0_ := Aside0.mk (below_step (by repeat (first | (with_reducible first | exact HB.out | apply below_alloc | apply pw_below_drewN | apply below_drew1) | exact HB.out)) hb);clear HB;have HB := n0_;clear n0_;(try clear hb);(try clear hb2);(try clear hk);(try clear hi)))
              go_roundg k1
              case measure => have := HK1.out;omega
              case rel => exact ⟨(wrap64 (x8_1 + 1)),(by first | rfl | (simp;done) | (simp [*];done)),H',⟨by have := HK1.out;omega⟩,⟨by repeat (first | (with_reducible first | exact HB.out | apply below_alloc | apply pw_below_drewN | apply below_drew1) | exact HB.out)⟩⟩
          · rw [if_neg c5] at H
            exact absurd H (by simp)
        · rw [if_neg c4] at H
          exact absurd H (by simp)
      · rw [if_neg c3] at H
        have c3b0 : decide (x8_1 < (l0.length : Int)) = false := decide_eq_false c3
        clear c3
        obtain rfl := Option.some.inj H
        go_wp2
        go_ret
        exact ⟨by first | rfl | (simp [errW_none,errW_some] <;> rfl) | (simp [*,errW_none,errW_some] <;> rfl),by repeat (first | (with_reducible first | exact HB.out | apply below_alloc | apply pw_below_drewN | apply below_drew1) | exact HB.out)⟩
end Go.Proofs.Ytfoaeigoajooeaa.Z
namespace Go.Proofs.Ytfoaeigoajooeaa.Z
open Go.RowKit Go.Proofs.YtfoaeigoajooeaaW.PrintWords Go.Proofs.YtfoaeigoajooeaaW.PrintLast Go.Proofs.YtfoaeigoajooeaaW.PrintMore
attribute [local go_sem] max2_int min2_int max_two min_two max_three min_three max_four min_four
set_option linter.unusedVariables false
set_option linter.unusedSimpArgs false
/-! ### slices_ContainsFunc: function 50 -/
def slices_ContainsFunc.f (k : Nat) (l0 : List (S50)) (a1 : Int) : Option (Bool) := (slices_IndexFunc.f k l0 a1).bind fun t325 => (some (decide (t325 ≥ 0)))
theorem slices_ContainsFunc.mono : ∀ a0 a1 k,LeO (slices_ContainsFunc.f k a0 a1) (slices_ContainsFunc.f (k + 1) a0 a1) := by
  intro a0 a1 k
  unfold slices_ContainsFunc.f
  repeat' first
      | (with_reducible exact slices_IndexFunc.mono _ _ _)
      | (with_reducible exact LeO.refl _)
      | (with_reducible exact LeO.none _)
      | (with_reducible refine LeO.ite ?_ ?_)
      | (with_reducible refine LeO.bind ?_ (fun _ => ?_))
      | exact slices_IndexFunc.mono _ _ _
      | exact LeO.none _
      | refine LeO.ite ?_ ?_
      | refine LeO.bind ?_ (fun _ => ?_)
set_option maxHeartbeats 8000000 in
set_option maxRecDepth 100000 in
theorem slices_ContainsFunc.calls (k : Nat) (A0 : Option Addr) (c0 : Nat) (l0 : List (S50)) (a1 : Int) (r : Bool) (w : World) (hr0 : Kd.C k50 w A0 l0.length l0) (hc0 : l0.length ≤ c0) (h : slices_ContainsFunc.f k l0 a1 = some r) :
    Calls Try.prog 50 #[.slice A0 l0.length c0,.func (.func 51) #[] #[]] w fun e w' => e = .returned (.bool r) ∧ Below w.heap.size w w' := by
  have HR0 := Aside0.mk hr0
  have HC0 := Aside0.mk hc0
  clear hr0 hc0
  have HB := Aside0.mk (Below.refl w.heap.size w)
  have H : ((slices_IndexFunc.f k l0 a1).bind fun t325 => (some (decide (t325 ≥ 0)))) = some r := h
  clear h
  replace H := Option.bind_eq_some_iff.mp H
  obtain ⟨t325,A30,H⟩ := H
  replace H : (some (decide (t325 ≥ 0))) = some r := H
  have A3 := Aside0.mk A30
  clear A30
  obtain rfl := Option.some.inj H
  go_enter Try.func50,Try.ntmps50
  go_wp2_with (first | ((with_reducible refine gate_callee (f := 68) rfl ?_);refine goesL_ (some 7) rfl rfl Try.func68 (by kernel_rfl) rfl #[.slice A0 l0.length c0,.func (.func 51) #[] #[]] rfl (by (try simp only [List.map_toArray,List.map_cons,List.map_nil]);first | done | rfl | (simp only [List.length_drop,List.length_take];rfl)) ?_;(with_reducible refine (slices_IndexFunc.calls k _ _ l0 a1 t325 _ ?side1 ?side2 A3.out).mono ?_);(case side1 => repeat (first | exact HR0.out | (with_reducible refine Kd.C_alloc ?_ _) | (with_reducible refine Kd.C_drewN ?_ _) | (with_reducible refine Kd.C_drew ?_)));(case side2 => exact HC0.out);rintro e w4 ⟨rfl,hb⟩;refine ⟨_,rfl,?_⟩;have n0_ := Aside0.mk (below_step (by repeat (first | (with_reducible first | exact HB.out | apply below_alloc | apply pw_below_drewN | apply below_drew1) | exact HB.out)) hb);clear HB;have HB := n0_;clear n0_;(try clear hb);(try clear hb2);(try clear hk);(try clear hi)))
  go_ret
  exact ⟨by first | rfl | (simp [errW_none,errW_some] <;> rfl) | (simp [*,errW_none,errW_some] <;> rfl),by repeat (first | (with_reducible first | exact HB.out | apply below_alloc | apply pw_below_drewN | apply below_drew1) | exact HB.out)⟩
end Go.Proofs.Ytfoaeigoajooeaa.Z
namespace Go.Proofs.Ytfoaeigoajooeaa.Z
open Go.RowKit Go.Proofs.YtfoaeigoajooeaaW.PrintWords Go.Proofs.YtfoaeigoajooeaaW.PrintLast Go.Proofs.YtfoaeigoajooeaaW.PrintMore
attribute [local go_sem] max2_int min2_int max_two min_two max_three min_three max_four min_four
set_option linter.unusedVariables false
set_option linter.unusedSimpArgs false
/-! ### row_Right: function 24 -/
def row_Right.f (k : Nat) (l0 : List (S50)) : Option (Bool) := if (l0.length : Int) ≤ 40 then ((slices_ContainsFunc.f k l0 424251).bind fun t326 => (some (!t326))) else (some false)
theorem row_Right.mono : ∀ a0 k,LeO (row_Right.f k a0) (row_Right.f (k + 1) a0) := by
  intro a0 k
  unfold row_Right.f
  repeat' first
      | (with_reducible exact slices_ContainsFunc.mono _ _ _)
      | (with_reducible exact LeO.refl _)
      | (with_reducible exact LeO.none _)
      | (with_reducible refine LeO.ite ?_ ?_)
      | (with_reducible refine LeO.bind ?_ (fun _ => ?_))
      | exact slices_ContainsFunc.mono _ _ _
      | exact LeO.none _
      | refine LeO.ite ?_ ?_
      | refine LeO.bind ?_ (fun _ => ?_)
set_option maxHeartbeats 8000000 in
set_option maxRecDepth 100000 in
theorem row_Right.calls (k : Nat) (A0 : Option Addr) (c0 : Nat) (l0 : List (S50)) (r : Bool) (w : World) (hr0 : Kd.C k50 w A0 l0.length l0) (hc0 : l0.length ≤ c0) (h : row_Right.f k l0 = some r) :
    Calls Try.prog 24 #[.slice A0 l0.length c0] w fun e w' => e = .returned (.bool r) ∧ Below w.heap.size w w' := by
  have HR0 := Aside0.mk hr0
  have HC0 := Aside0.mk hc0
  clear hr0 hc0
  have HB := Aside0.mk (Below.refl w.heap.size w)
  have H : (if (l0.length : Int) ≤ 40 then ((slices_ContainsFunc.f k l0 424251).bind fun t326 => (some (!t326))) else (some false)) = some r := h
  clear h
  by_cases c2 : (l0.length : Int) ≤ 40
  · rw [if_pos c2] at H
    have c2b0 : decide ((l0.length : Int) ≤ 40) = true := decide_eq_true c2
    have c2b1 : decide (l0.length ≤ 40) = true := decide_eq_true (by omega)
    clear c2
    replace H := Option.bind_eq_some_iff.mp H
    obtain ⟨t326,A30,H⟩ := H
    replace H : (some (!t326)) = some r := H
    have A3 := Aside0.mk A30
    clear A30
    obtain rfl := Option.some.inj H
    go_enter Try.func24,Try.ntmps24
    go_wp2_with (first | (go_at_call 50;(with_reducible refine (slices_ContainsFunc.calls k _ _ l0 424251 t326 _ ?side1 ?side2 A3.out).mono ?_);(case side1 => repeat (first | exact HR0.out | (with_reducible refine Kd.C_alloc ?_ _) | (with_reducible refine Kd.C_drewN ?_ _) | (with_reducible refine Kd.C_drew ?_)));(case side2 => exact HC0.out);rintro e w4 ⟨rfl,hb⟩;have n0_ := Aside0.mk (below_step (by repeat (first | (with_reducible first | exact HB.out | apply below_alloc | apply pw_below_drewN | apply below_drew1) | exact HB.out)) hb);clear HB;have HB := n0_;clear n0_;(try clear hb);(try clear hb2);(try clear hk);(try clear hi)))
    go_ret
    exact ⟨by first | rfl | (simp [errW_none,errW_some] <;> rfl) | (simp [*,errW_none,errW_some] <;> rfl),by repeat (first | (with_reducible first | exact HB.out | apply below_alloc | apply pw_below_drewN | apply below_drew1) | exact HB.out)⟩
  · rw [if_neg c2] at H
    have c2b0 : decide ((l0.length : Int) ≤ 40) = false := decide_eq_false c2
    have c2b1 : decide (l0.length ≤ 40) = false := decide_eq_false (by omega)
    clear c2
    obtain rfl := Option.some.inj H
    go_enter Try.func24,Try.ntmps24
    go_wp2
    go_ret
    exact ⟨by first | rfl | (simp [errW_none,errW_some] <;> rfl) | (simp [*,errW_none,errW_some] <;> rfl),by repeat (first | (with_reducible first | exact HB.out | apply below_alloc | apply pw_below_drewN | apply below_drew1) | exact HB.out)⟩
end Go.Proofs.Ytfoaeigoajooeaa.Z
namespace Go.Proofs.Ytfoaeigoajooeaa.Z
open Go.RowKit Go.Proofs.YtfoaeigoajooeaaW.PrintWords Go.Proofs.YtfoaeigoajooeaaW.PrintLast Go.Proofs.YtfoaeigoajooeaaW.PrintMore
attribute [local go_sem] max2_int min2_int max_two min_two max_three min_three max_four min_four
set_option linter.unusedVariables false
set_option linter.unusedSimpArgs false
/-! ### verdererref01_Right: function 53 -/
def verdererref01_Right.f (a0_0 : Int) (a0_1 : Bool) (a0_2 : Int) (a0_3 : ByteArray) : Option (Bool) := if a0_0 < 0 then (some false) else (if a0_0 > 3 then (some false) else (if a0_0 = 1 then (if a0_0 = 2 then (if a0_0 = 3 then (some (decide ((a0_3.size : Int) ≤ 60))) else (if a0_3.toList = ([] : List UInt8) then (some (decide ((a0_3.size : Int) ≤ 60))) else (some false))) else (if a0_2 = 0 then (if a0_0 = 3 then (some (decide ((a0_3.size : Int) ≤ 60))) else (if a0_3.toList = ([] : List UInt8) then (some (decide ((a0_3.size : Int) ≤ 60))) else (some false))) else (some false))) else (if a0_1 = true then (some false) else (if a0_0 = 2 then (if a0_0 = 3 then (some (decide ((a0_3.size : Int) ≤ 60))) else (if a0_3.toList = ([] : List UInt8) then (some (decide ((a0_3.size : Int) ≤ 60))) else (some false))) else (if a0_2 = 0 then (if a0_0 = 3 then (some (decide ((a0_3.size : Int) ≤ 60))) else (if a0_3.toList = ([] : List UInt8) then (some (decide ((a0_3.size : Int) ≤ 60))) else (some false))) else (some false))))))
set_option maxHeartbeats 8000000 in
set_option maxRecDepth 100000 in
theorem verdererref01_Right.calls (a0_0 : Int) (a0_1 : Bool) (a0_2 : Int) (a0_3 : ByteArray) (r : Bool) (w : World) (h : verdererref01_Right.f a0_0 a0_1 a0_2 a0_3 = some r) :
    Calls Try.prog 53 #[.agg #[.int .i64 a0_0,.bool a0_1,.int .i64 a0_2,.string a0_3]] w fun e w' => e = .returned (.bool r) ∧ Below w.heap.size w w' := by
  have hu50 := Try.underlying50
  have HB := Aside0.mk (Below.refl w.heap.size w)
  have H : (if a0_0 < 0 then (some false) else (if a0_0 > 3 then (some false) else (if a0_0 = 1 then (if a0_0 = 2 then (if a0_0 = 3 then (some (decide ((a0_3.size : Int) ≤ 60))) else (if a0_3.toList = ([] : List UInt8) then (some (decide ((a0_3.size : Int) ≤ 60))) else (some false))) else (if a0_2 = 0 then (if a0_0 = 3 then (some (decide ((a0_3.size : Int) ≤ 60))) else (if a0_3.toList = ([] : List UInt8) then (some (decide ((a0_3.size : Int) ≤ 60))) else (some false))) else (some false))) else (if a0_1 = true then (some false) else (if a0_0 = 2 then (if a0_0 = 3 then (some (decide ((a0_3.size : Int) ≤ 60))) else (if a0_3.toList = ([] : List UInt8) then (some (decide ((a0_3.size : Int) ≤ 60))) else (some false))) else (if a0_2 = 0 then (if a0_0 = 3 then (some (decide ((a0_3.size : Int) ≤ 60))) else (if a0_3.toList = ([] : List UInt8) then (some (decide ((a0_3.size : Int) ≤ 60))) else (some false))) else (some false))))))) = some r := h
  clear h
  by_cases c2 : a0_0 < 0
  · rw [if_pos c2] at H
    have c2b0 : decide (a0_0 < 0) = true := decide_eq_true c2
    clear c2
    obtain rfl := Option.some.inj H
    go_enter Try.func53,Try.ntmps53
    go_wp2_with (first | ((with_reducible refine gate_dst (N := 1) rfl ?_);refine box_event ?hg (N := 1) ?hd (cs := #[.int .i64 a0_0,.bool a0_1,.int .i64 a0_2,.string a0_3]) (t := 50) ?hr ?_;(case hd => rfl);(case hg => rfl);(case hr => first | (go_simp;done) | (go_simp;rfl));intro gb327 hg w3 hbox hb;have n0_ := Aside0.mk (below_step (by repeat (first | (with_reducible first | exact HB.out | apply below_alloc | apply pw_below_drewN | apply below_drew1) | exact HB.out)) hb);have n1_ := Aside0.mk (hbox);have n2_ := Aside0.mk ((by rw [hg];exact (below_size (by repeat (first | (with_reducible first | exact HB.out | apply below_alloc | apply pw_below_drewN | apply below_drew1) | exact HB.out))) : w.heap.size ≤ gb327));have n3_ := Aside0.mk ((by rw [hg];exact (below_size (by repeat (first | (with_reducible first | exact HB.out | apply below_alloc | apply pw_below_drewN | apply below_drew1) | exact HB.out))) : w.heap.size ≤ gb327));clear HB;have HB := n0_;have BK327 := n1_;have GW327 := n2_;have GE327 := n3_;clear n0_ n1_ n2_ n3_;clear hb hbox hg;have hcz4_0 : w3.cell? ⟨gb327,0,none⟩ = some (.int .i64 a0_0) := (blk_cell BK327.out 0).trans rfl;have hcz4_1 : w3.cell? ⟨gb327,1,none⟩ = some (.bool a0_1) := (blk_cell BK327.out 1).trans rfl;have hcz4_2 : w3.cell? ⟨gb327,2,none⟩ = some (.int .i64 a0_2) := (blk_cell BK327.out 2).trans rfl;have hcz4_3 : w3.cell? ⟨gb327,3,none⟩ = some (.string a0_3) := (blk_cell BK327.out 3).trans rfl;have hfz4_0 := blk_frozen BK327.out 0;have hfz4_1 := blk_frozen BK327.out 1;have hfz4_2 := blk_frozen BK327.out 2;have hfz4_3 := blk_frozen BK327.out 3))
    go_ret
    exact ⟨by first | rfl | (simp [errW_none,errW_some] <;> rfl) | (simp [*,errW_none,errW_some] <;> rfl),by repeat (first | (with_reducible first | exact HB.out | apply below_alloc | apply pw_below_drewN | apply below_drew1 | refine below_set ?_ GE327.out) | exact HB.out)⟩
  · rw [if_neg c2] at H
    have c2b0 : decide (a0_0 < 0) = false := decide_eq_false c2
    clear c2
    by_cases c5 : a0_0 > 3
    · rw [if_pos c5] at H
      have c5b0 : decide (3 < a0_0) = true := decide_eq_true c5
      clear c5
      obtain rfl := Option.some.inj H
      go_enter Try.func53,Try.ntmps53
      go_wp2_with (first | ((with_reducible refine gate_dst (N := 1) rfl ?_);refine box_event ?hg (N := 1) ?hd (cs := #[.int .i64 a0_0,.bool a0_1,.int .i64 a0_2,.string a0_3]) (t := 50) ?hr ?_;(case hd => rfl);(case hg => rfl);(case hr => first | (go_simp;done) | (go_simp;rfl));intro gb327 hg w6 hbox hb;have n0_ := Aside0.mk (below_step (by repeat (first | (with_reducible first | exact HB.out | apply below_alloc | apply pw_below_drewN | apply below_drew1) | exact HB.out)) hb);have n1_ := Aside0.mk (hbox);have n2_ := Aside0.mk ((by rw [hg];exact (below_size (by repeat (first | (with_reducible first | exact HB.out | apply below_alloc | apply pw_below_drewN | apply below_drew1) | exact HB.out))) : w.heap.size ≤ gb327));have n3_ := Aside0.mk ((by rw [hg];exact (below_size (by repeat (first | (with_reducible first | exact HB.out | apply below_alloc | apply pw_below_drewN | apply below_drew1) | exact HB.out))) : w.heap.size ≤ gb327));clear HB;have HB := n0_;have BK327 := n1_;have GW327 := n2_;have GE327 := n3_;clear n0_ n1_ n2_ n3_;clear hb hbox hg;have hcz7_0 : w6.cell? ⟨gb327,0,none⟩ = some (.int .i64 a0_0) := (blk_cell BK327.out 0).trans rfl;have hcz7_1 : w6.cell? ⟨gb327,1,none⟩ = some (.bool a0_1) := (blk_cell BK327.out 1).trans rfl;have hcz7_2 : w6.cell? ⟨gb327,2,none⟩ = some (.int .i64 a0_2) := (blk_cell BK327.out 2).trans rfl;have hcz7_3 : w6.cell? ⟨gb327,3,none⟩ = some (.string a0_3) := (blk_cell BK327.out 3).trans rfl;have hfz7_0 := blk_frozen BK327.out 0;have hfz7_1 := blk_frozen BK327.out 1;have hfz7_2 := blk_frozen BK327.out 2;have hfz7_3 := blk_frozen BK327.out 3))
      go_ret
      exact ⟨by first | rfl | (simp [errW_none,errW_some] <;> rfl) | (simp [*,errW_none,errW_some] <;> rfl),by repeat (first | (with_reducible first | exact HB.out | apply below_alloc | apply pw_below_drewN | apply below_drew1 | refine below_set ?_ GE327.out) | exact HB.out)⟩
    · rw [if_neg c5] at H
      have c5b0 : decide (3 < a0_0) = false := decide_eq_false c5
      clear c5
      by_cases c8 : a0_0 = 1
      · rw [if_pos c8] at H
        have c8b0 : (a0_0 == 1) = true := beq_iff_eq.mpr c8
        have c8b1 : (a0_0 != 1) = false := bne_eq_false_iff_eq.mpr c8
        clear c8
        by_cases c9 : a0_0 = 2
        · rw [if_pos c9] at H
          have c9b0 : (a0_0 == 2) = true := beq_iff_eq.mpr c9
          have c9b1 : (a0_0 != 2) = false := bne_eq_false_iff_eq.mpr c9
          clear c9
          by_cases c10 : a0_0 = 3
          · rw [if_pos c10] at H
            have c10b0 : (a0_0 == 3) = true := beq_iff_eq.mpr c10
            have c10b1 : (a0_0 != 3) = false := bne_eq_false_iff_eq.mpr c10
            clear c10
            obtain rfl := Option.some.inj H
            go_enter Try.func53,Try.ntmps53
            go_wp2_with (first | ((with_reducible refine gate_dst (N := 1) rfl ?_);refine box_event ?hg (N := 1) ?hd (cs := #[.int .i64 a0_0,.bool a0_1,.int .i64 a0_2,.string a0_3]) (t := 50) ?hr ?_;(case hd => rfl);(case hg => rfl);(case hr => first | (go_simp;done) | (go_simp;rfl));intro gb327 hg w11 hbox hb;have n0_ := Aside0.mk (below_step (by repeat (first | (with_reducible first | exact HB.out | apply below_alloc | apply pw_below_drewN | apply below_drew1) | exact HB.out)) hb);have n1_ := Aside0.mk (hbox);have n2_ := Aside0.mk ((by rw [hg];exact (below_size (by repeat (first | (with_reducible first | exact HB.out | apply below_alloc | apply pw_below_drewN | apply below_drew1) | exact HB.out))) : w.heap.size ≤ gb327));have n3_ := Aside0.mk ((by rw [hg];exact (below_size (by repeat (first | (with_reducible first | exact HB.out | apply below_alloc | apply pw_below_drewN | apply below_drew1) | exact HB.out))) : w.heap.size ≤ gb327));clear HB;have HB := n0_;have BK327 := n1_;have GW327 := n2_;have GE327 := n3_;clear n0_ n1_ n2_ n3_;clear hb hbox hg;have hcz12_0 : w11.cell? ⟨gb327,0,none⟩ = some (.int .i64 a0_0) := (blk_cell BK327.out 0).trans rfl;have hcz12_1 : w11.cell? ⟨gb327,1,none⟩ = some (.bool a0_1) := (blk_cell BK327.out 1).trans rfl;have hcz12_2 : w11.cell? ⟨gb327,2,none⟩ = some (.int .i64 a0_2) := (blk_cell BK327.out 2).trans rfl;have hcz12_3 : w11.cell? ⟨gb327,3,none⟩ = some (.string a0_3) := (blk_cell BK327.out 3).trans rfl;have hfz12_0 := blk_frozen BK327.out 0;have hfz12_1 := blk_frozen BK327.out 1;have hfz12_2 := blk_frozen BK327.out 2;have hfz12_3 := blk_frozen BK327.out 3))
            go_ret
            exact ⟨by first | rfl | (simp [errW_none,errW_some] <;> rfl) | (simp [*,errW_none,errW_some] <;> rfl),by repeat (first | (with_reducible first | exact HB.out | apply below_alloc | apply pw_below_drewN | apply below_drew1 | refine below_set ?_ GE327.out) | exact HB.out)⟩
          · rw [if_neg c10] at H
            have c10b0 : (a0_0 == 3) = false := beq_eq_false_iff_ne.mpr c10
            have c10b1 : (a0_0 != 3) = true := bne_iff_ne.mpr c10
            by_cases c13 : a0_3.toList = ([] : List UInt8)
            · rw [if_pos c13] at H
              have c13b0 : (a0_3.toList == ([] : List UInt8)) = true := beq_iff_eq.mpr c13
              have c13b1 : (a0_3.toList != ([] : List UInt8)) = false := bne_eq_false_iff_eq.mpr c13
              clear c13
              obtain rfl := Option.some.inj H
              go_enter Try.func53,Try.ntmps53
              go_wp2_with (first | ((with_reducible refine gate_dst (N := 1) rfl ?_);refine box_event ?hg (N := 1) ?hd (cs := #[.int .i64 a0_0,.bool a0_1,.int .i64 a0_2,.string a0_3]) (t := 50) ?hr ?_;(case hd => rfl);(case hg => rfl);(case hr => first | (go_simp;done) | (go_simp;rfl));intro gb327 hg w14 hbox hb;have n0_ := Aside0.mk (below_step (by repeat (first | (with_reducible first | exact HB.out | apply below_alloc | apply pw_below_drewN | apply below_drew1) | exact HB.out)) hb);have n1_ := Aside0.mk (hbox);have n2_ := Aside0.mk ((by rw [hg];exact (below_size (by repeat (first | (with_reducible first | exact HB.out | apply below_alloc | apply pw_below_drewN | apply below_drew1) | exact HB.out))) : w.heap.size ≤ gb327));have n3_ := Aside0.mk ((by rw [hg];exact (below_size (by repeat (first | (with_reducible first | exact HB.out | apply below_alloc | apply pw_below_drewN | apply below_drew1) | exact HB.out))) : w.heap.size ≤ gb327));clear HB;have HB := n0_;have BK327 := n1_;have GW327 := n2_;have GE327 := n3_;clear n0_ n1_ n2_ n3_;clear hb hbox hg;have hcz15_0 : w14.cell? ⟨gb327,0,none⟩ = some (.int .i64 a0_0) := (blk_cell BK327.out 0).trans rfl;have hcz15_1 : w14.cell? ⟨gb327,1,none⟩ = some (.bool a0_1) := (blk_cell BK327.out 1).trans rfl;have hcz15_2 : w14.cell? ⟨gb327,2,none⟩ = some (.int .i64 a0_2) := (blk_cell BK327.out 2).trans rfl;have hcz15_3 : w14.cell? ⟨gb327,3,none⟩ = some (.string a0_3) := (blk_cell BK327.out 3).trans rfl;have hfz15_0 := blk_frozen BK327.out 0;have hfz15_1 := blk_frozen BK327.out 1;have hfz15_2 := blk_frozen BK327.out 2;have hfz15_3 := blk_frozen BK327.out 3))
              go_ret
              exact ⟨by first | rfl | (simp [errW_none,errW_some] <;> rfl) | (simp [*,errW_none,errW_some] <;> rfl),by repeat (first | (with_reducible first | exact HB.out | apply below_alloc | apply pw_below_drewN | apply below_drew1 | refine below_set ?_ GE327.out) | exact HB.out)⟩
            · rw [if_neg c13] at H
              have c13b0 : (a0_3.toList == ([] : List UInt8)) = false := beq_eq_false_iff_ne.mpr c13
              have c13b1 : (a0_3.toList != ([] : List UInt8)) = true := bne_iff_ne.mpr c13
              obtain rfl := Option.some.inj H
              go_enter Try.func53,Try.ntmps53
              go_wp2_with (first | ((with_reducible refine gate_dst (N := 1) rfl ?_);refine box_event ?hg (N := 1) ?hd (cs := #[.int .i64 a0_0,.bool a0_1,.int .i64 a0_2,.string a0_3]) (t := 50) ?hr ?_;(case hd => rfl);(case hg => rfl);(case hr => first | (go_simp;done) | (go_simp;rfl));intro gb327 hg w16 hbox hb;have n0_ := Aside0.mk (below_step (by repeat (first | (with_reducible first | exact HB.out | apply below_alloc | apply pw_below_drewN | apply below_drew1) | exact HB.out)) hb);have n1_ := Aside0.mk (hbox);have n2_ := Aside0.mk ((by rw [hg];exact (below_size (by repeat (first | (with_reducible first | exact HB.out | apply below_alloc | apply pw_below_drewN | apply below_drew1) | exact HB.out))) : w.heap.size ≤ gb327));have n3_ := Aside0.mk ((by rw [hg];exact (below_size (by repeat (first | (with_reducible first | exact HB.out | apply below_alloc | apply pw_below_drewN | apply below_drew1) | exact HB.out))) : w.heap.size ≤ gb327));clear HB;have HB := n0_;have BK327 := n1_;have GW327 := n2_;have GE327 := n3_;clear n0_ n1_ n2_ n3_;clear hb hbox hg;have hcz17_0 : w16.cell? ⟨gb327,0,none⟩ = some (.int .i64 a0_0) := (blk_cell BK327.out 0).trans rfl;have hcz17_1 : w16.cell? ⟨gb327,1,none⟩ = some (.bool a0_1) := (blk_cell BK327.out 1).trans rfl;have hcz17_2 : w16.cell? ⟨gb327,2,none⟩ = some (.int .i64 a0_2) := (blk_cell BK327.out 2).trans rfl;have hcz17_3 : w16.cell? ⟨gb327,3,none⟩ = some (.string a0_3) := (blk_cell BK327.out 3).trans rfl;have hfz17_0 := blk_frozen BK327.out 0;have hfz17_1 := blk_frozen BK327.out 1;have hfz17_2 := blk_frozen BK327.out 2;have hfz17_3 := blk_frozen BK327.out 3))
              go_ret
              exact ⟨by first | rfl | (simp [errW_none,errW_some] <;> rfl) | (simp [*,errW_none,errW_some] <;> rfl),by repeat (first | (with_reducible first | exact HB.out | apply below_alloc | apply pw_below_drewN | apply below_drew1 | refine below_set ?_ GE327.out) | exact HB.out)⟩
        · rw [if_neg c9] at H
          have c9b0 : (a0_0 == 2) = false := beq_eq_false_iff_ne.mpr c9
          have c9b1 : (a0_0 != 2) = true := bne_iff_ne.mpr c9
          by_cases c18 : a0_2 = 0
          · rw [if_pos c18] at H
            have c18b0 : (a0_2 == 0) = true := beq_iff_eq.mpr c18
            have c18b1 : (a0_2 != 0) = false := bne_eq_false_iff_eq.mpr c18
            clear c18
            by_cases c19 : a0_0 = 3
            · rw [if_pos c19] at H
              have c19b0 : (a0_0 == 3) = true := beq_iff_eq.mpr c19
              have c19b1 : (a0_0 != 3) = false := bne_eq_false_iff_eq.mpr c19
              clear c19
              obtain rfl := Option.some.inj H
              go_enter Try.func53,Try.ntmps53
              go_wp2_with (first | ((with_reducible refine gate_dst (N := 1) rfl ?_);refine box_event ?hg (N := 1) ?hd (cs := #[.int .i64 a0_0,.bool a0_1,.int .i64 a0_2,.string a0_3]) (t := 50) ?hr ?_;(case hd => rfl);(case hg => rfl);(case hr => first | (go_simp;done) | (go_simp;rfl));intro gb327 hg w20 hbox hb;have n0_ := Aside0.mk (below_step (by repeat (first | (with_reducible first | exact HB.out | apply below_alloc | apply pw_below_drewN | apply below_drew1) | exact HB.out)) hb);have n1_ := Aside0.mk (hbox);have n2_ := Aside0.mk ((by rw [hg];exact (below_size (by repeat (first | (with_reducible first | exact HB.out | apply below_alloc | apply pw_below_drewN | apply below_drew1) | exact HB.out))) : w.heap.size ≤ gb327));have n3_ := Aside0.mk ((by rw [hg];exact (below_size (by repeat (first | (with_reducible first | exact HB.out | apply below_alloc | apply pw_below_drewN | apply below_drew1) | exact HB.out))) : w.heap.size ≤ gb327));clear HB;have HB := n0_;have BK327 := n1_;have GW327 := n2_;have GE327 := n3_;clear n0_ n1_ n2_ n3_;clear hb hbox hg;have hcz21_0 : w20.cell? ⟨gb327,0,none⟩ = some (.int .i64 a0_0) := (blk_cell BK327.out 0).trans rfl;have hcz21_1 : w20.cell? ⟨gb327,1,none⟩ = some (.bool a0_1) := (blk_cell BK327.out 1).trans rfl;have hcz21_2 : w20.cell? ⟨gb327,2,none⟩ = some (.int .i64 a0_2) := (blk_cell BK327.out 2).trans rfl;have hcz21_3 : w20.cell? ⟨gb327,3,none⟩ = some (.string a0_3) := (blk_cell BK327.out 3).trans rfl;have hfz21_0 := blk_frozen BK327.out 0;have hfz21_1 := blk_frozen BK327.out 1;have hfz21_2 := blk_frozen BK327.out 2;have hfz21_3 := blk_frozen BK327.out 3))
              go_ret
              exact ⟨by first | rfl | (simp [errW_none,errW_some] <;> rfl) | (simp [*,errW_none,errW_some] <;> rfl),by repeat (first | (with_reducible first | exact HB.out | apply below_alloc | apply pw_below_drewN | apply below_drew1 | refine below_set ?_ GE327.out) | exact HB.out)⟩
            · rw [if_neg c19] at H
              have c19b0 : (a0_0 == 3) = false := beq_eq_false_iff_ne.mpr c19
              have c19b1 : (a0_0 != 3) = true := bne_iff_ne.mpr c19
              by_cases c22 : a0_3.toList = ([] : List UInt8)
              · rw [if_pos c22] at H
                have c22b0 : (a0_3.toList == ([] : List UInt8)) = true := beq_iff_eq.mpr c22
                have c22b1 : (a0_3.toList != ([] : List UInt8)) = false := bne_eq_false_iff_eq.mpr c22
                clear c22
                obtain rfl := Option.some.inj H
                go_enter Try.func53,Try.ntmps53
                go_wp2_with (first | ((with_reducible refine gate_dst (N := 1) rfl ?_);refine box_event ?hg (N := 1) ?hd (cs := #[.int .i64 a0_0,.bool a0_1,.int .i64 a0_2,.string a0_3]) (t := 50) ?hr ?_;(case hd => rfl);(case hg => rfl);(case hr => first | (go_simp;done) | (go_simp;rfl));intro gb327 hg w23 hbox hb;have n0_ := Aside0.mk (below_step (by repeat (first | (with_reducible first | exact HB.out | apply below_alloc | apply pw_below_drewN | apply below_drew1) | exact HB.out)) hb);have n1_ := Aside0.mk (hbox);have n2_ := Aside0.mk ((by rw [hg];exact (below_size (by repeat (first | (with_reducible first | exact HB.out | apply below_alloc | apply pw_below_drewN | apply below_drew1) | exact HB.out))) : w.heap.size ≤ gb327));have n3_ := Aside0.mk ((by rw [hg];exact (below_size (by repeat (first | (with_reducible first | exact HB.out | apply below_alloc | apply pw_below_drewN | apply below_drew1) | exact HB.out))) : w.heap.size ≤ gb327));clear HB;have HB := n0_;have BK327 := n1_;have GW327 := n2_;have GE327 := n3_;clear n0_ n1_ n2_ n3_;clear hb hbox hg;have hcz24_0 : w23.cell? ⟨gb327,0,none⟩ = some (.int .i64 a0_0) := (blk_cell BK327.out 0).trans rfl;have hcz24_1 : w23.cell? ⟨gb327,1,none⟩ = some (.bool a0_1) := (blk_cell BK327.out 1).trans rfl;have hcz24_2 : w23.cell? ⟨gb327,2,none⟩ = some (.int .i64 a0_2) := (blk_cell BK327.out 2).trans rfl;have hcz24_3 : w23.cell? ⟨gb327,3,none⟩ = some (.string a0_3) := (blk_cell BK327.out 3).trans rfl;have hfz24_0 := blk_frozen BK327.out 0;have hfz24_1 := blk_frozen BK327.out 1;have hfz24_2 := blk_frozen BK327.out 2;have hfz24_3 := blk_frozen BK327.out 3))
                go_ret
                exact ⟨by first | rfl | (simp [errW_none,errW_some] <;> rfl) | (simp [*,errW_none,errW_some] <;> rfl),by repeat (first | (with_reducible first | exact HB.out | apply below_alloc | apply pw_below_drewN | apply below_drew1 | refine below_set ?_ GE327.out) | exact HB.out)⟩
              · rw [if_neg c22] at H
                have c22b0 : (a0_3.toList == ([] : List UInt8)) = false := beq_eq_false_iff_ne.mpr c22
                have c22b1 : (a0_3.toList != ([] : List UInt8)) = true := bne_iff_ne.mpr c22
                obtain rfl := Option.some.inj H
                go_enter Try.func53,Try.ntmps53
                go_wp2_with (first | ((with_reducible refine gate_dst (N := 1) rfl ?_);refine box_event ?hg (N := 1) ?hd (cs := #[.int .i64 a0_0,.bool a0_1,.int .i64 a0_2,.string a0_3]) (t := 50) ?hr ?_;(case hd => rfl);(case hg => rfl);(case hr => first | (go_simp;done) | (go_simp;rfl));intro gb327 hg w25 hbox hb;have n0_ := Aside0.mk (below_step (by repeat (first | (with_reducible first | exact HB.out | apply below_alloc | apply pw_below_drewN | apply below_drew1) | exact HB.out)) hb);have n1_ := Aside0.mk (hbox);have n2_ := Aside0.mk ((by rw [hg];exact (below_size (by repeat (first | (with_reducible first | exact HB.out | apply below_alloc | apply pw_below_drewN | apply below_drew1) | exact HB.out))) : w.heap.size ≤ gb327));have n3_ := Aside0.mk ((by rw [hg];exact (below_size (by repeat (first | (with_reducible first | exact HB.out | apply below_alloc | apply pw_below_drewN | apply below_drew1) | exact HB.out))) : w.heap.size ≤ gb327));clear HB;have HB := n0_;have BK327 := n1_;have GW327 := n2_;have GE327 := n3_;clear n0_ n1_ n2_ n3_;clear hb hbox hg;have hcz26_0 : w25.cell? ⟨gb327,0,none⟩ = some (.int .i64 a0_0) := (blk_cell BK327.out 0).trans rfl;have hcz26_1 : w25.cell? ⟨gb327,1,none⟩ = some (.bool a0_1) := (blk_cell BK327.out 1).trans rfl;have hcz26_2 : w25.cell? ⟨gb327,2,none⟩ = some (.int .i64 a0_2) := (blk_cell BK327.out 2).trans rfl;have hcz26_3 : w25.cell? ⟨gb327,3,none⟩ = some (.string a0_3) := (blk_cell BK327.out 3).trans rfl;have hfz26_0 := blk_frozen BK327.out 0;have hfz26_1 := blk_frozen BK327.out 1;have hfz26_2 := blk_frozen BK327.out 2;have hfz26_3 := blk_frozen BK327.out 3))
                go_ret
                exact ⟨by first | rfl | (simp [errW_none,errW_some] <;> rfl) | (simp [*,errW_none,errW_some] <;> rfl),by repeat (first | (with_reducible first | exact HB.out | apply below_alloc | apply pw_below_drewN | apply below_drew1 | refine below_set ?_ GE327.out) | exact HB.out)⟩
          · rw [if_neg c18] at H
            have c18b0 : (a0_2 == 0) = false := beq_eq_false_iff_ne.mpr c18
            have c18b1 : (a0_2 != 0) = true := bne_iff_ne.mpr c18
            obtain rfl := Option.some.inj H
            go_enter Try.func53,Try.ntmps53
            go_wp2_with (first | ((with_reducible refine gate_dst (N := 1) rfl ?_);refine box_event ?hg (N := 1) ?hd (cs := #[.int .i64 a0_0,.bool a0_1,.int .i64 a0_2,.string a0_3]) (t := 50) ?hr ?_;(case hd => rfl);(case hg => rfl);(case hr => first | (go_simp;done) | (go_simp;rfl));intro gb327 hg w27 hbox hb;have n0_ := Aside0.mk (below_step (by repeat (first | (with_reducible first | exact HB.out | apply below_alloc | apply pw_below_drewN | apply below_drew1) | exact HB.out)) hb);have n1_ := Aside0.mk (hbox);have n2_ := Aside0.mk ((by rw [hg];exact (below_size (by repeat (first | (with_reducible first | exact HB.out | apply below_alloc | apply pw_below_drewN | apply below_drew1) | exact HB.out))) : w.heap.size ≤ gb327));have n3_ := Aside0.mk ((by rw [hg];exact (below_size (by repeat (first | (with_reducible first | exact HB.out | apply below_alloc | apply pw_below_drewN | apply below_drew1) | exact HB.out))) : w.heap.size ≤ gb327));clear HB;have HB := n0_;have BK327 := n1_;have GW327 := n2_;have GE327 := n3_;clear n0_ n1_ n2_ n3_;clear hb hbox hg;have hcz28_0 : w27.cell? ⟨gb327,0,none⟩ = some (.int .i64 a0_0) := (blk_cell BK327.out 0).trans rfl;have hcz28_1 : w27.cell? ⟨gb327,1,none⟩ = some (.bool a0_1) := (blk_cell BK327.out 1).trans rfl;have hcz28_2 : w27.cell? ⟨gb327,2,none⟩ = some (.int .i64 a0_2) := (blk_cell BK327.out 2).trans rfl;have hcz28_3 : w27.cell? ⟨gb327,3,none⟩ = some (.string a0_3) := (blk_cell BK327.out 3).trans rfl;have hfz28_0 := blk_frozen BK327.out 0;have hfz28_1 := blk_frozen BK327.out 1;have hfz28_2 := blk_frozen BK327.out 2;have hfz28_3 := blk_frozen BK327.out 3))
            go_ret
            exact ⟨by first | rfl | (simp [errW_none,errW_some] <;> rfl) | (simp [*,errW_none,errW_some] <;> rfl),by repeat (first | (with_reducible first | exact HB.out | apply below_alloc | apply pw_below_drewN | apply below_drew1 | refine below_set ?_ GE327.out) | exact HB.out)⟩
      · rw [if_neg c8] at H
        have c8b0 : (a0_0 == 1) = false := beq_eq_false_iff_ne.mpr c8
        have c8b1 : (a0_0 != 1) = true := bne_iff_ne.mpr c8
        by_cases c29 : a0_1 = true
        · subst c29
          have H1 : (some false) = some r := by rw [if_pos rfl] at H;exact H
          clear H
          have H := H1
          clear H1
          obtain rfl := Option.some.inj H
          go_enter Try.func53,Try.ntmps53
          go_wp2_with (first | ((with_reducible refine gate_dst (N := 1) rfl ?_);refine box_event ?hg (N := 1) ?hd (cs := #[.int .i64 a0_0,.bool true,.int .i64 a0_2,.string a0_3]) (t := 50) ?hr ?_;(case hd => rfl);(case hg => rfl);(case hr => first | (go_simp;done) | (go_simp;rfl));intro gb327 hg w30 hbox hb;have n0_ := Aside0.mk (below_step (by repeat (first | (with_reducible first | exact HB.out | apply below_alloc | apply pw_below_drewN | apply below_drew1) | exact HB.out)) hb);have n1_ := Aside0.mk (hbox);have n2_ := Aside0.mk ((by rw [hg];exact (below_size (by repeat (first | (with_reducible first | exact HB.out | apply below_alloc | apply pw_below_drewN | apply below_drew1) | exact HB.out))) : w.heap.size ≤ gb327));have n3_ := Aside0.mk ((by rw [hg];exact (below_size (by repeat (first | (with_reducible first | exact HB.out | apply below_alloc | apply pw_below_drewN | apply below_drew1) | exact HB.out))) : w.heap.size ≤ gb327));clear HB;have HB := n0_;have BK327 := n1_;have GW327 := n2_;have GE327 := n3_;clear n0_ n1_ n2_ n3_;clear hb hbox hg;have hcz31_0 : w30.cell? ⟨gb327,0,none⟩ = some (.int .i64 a0_0) := (blk_cell BK327.out 0).trans rfl;have hcz31_1 : w30.cell? ⟨gb327,1,none⟩ = some (.bool true) := (blk_cell BK327.out 1).trans rfl;have hcz31_2 : w30.cell? ⟨gb327,2,none⟩ = some (.int .i64 a0_2) := (blk_cell BK327.out 2).trans rfl;have hcz31_3 : w30.cell? ⟨gb327,3,none⟩ = some (.string a0_3) := (blk_cell BK327.out 3).trans rfl;have hfz31_0 := blk_frozen BK327.out 0;have hfz31_1 := blk_frozen BK327.out 1;have hfz31_2 := blk_frozen BK327.out 2;have hfz31_3 := blk_frozen BK327.out 3))
          go_ret
          exact ⟨by first | rfl | (simp [errW_none,errW_some] <;> rfl) | (simp [*,errW_none,errW_some] <;> rfl),by repeat (first | (with_reducible first | exact HB.out | apply below_alloc | apply pw_below_drewN | apply below_drew1 | refine below_set ?_ GE327.out) | exact HB.out)⟩
        · replace c29 := Bool.eq_false_iff.mpr c29
          subst c29
          have H1 : (if a0_0 = 2 then (if a0_0 = 3 then (some (decide ((a0_3.size : Int) ≤ 60))) else (if a0_3.toList = ([] : List UInt8) then (some (decide ((a0_3.size : Int) ≤ 60))) else (some false))) else (if a0_2 = 0 then (if a0_0 = 3 then (some (decide ((a0_3.size : Int) ≤ 60))) else (if a0_3.toList = ([] : List UInt8) then (some (decide ((a0_3.size : Int) ≤ 60))) else (some false))) else (some false))) = some r := by rw [if_neg (show ¬ (false = true) by decide)] at H;exact H
          clear H
          have H := H1
          clear H1
          by_cases c32 : a0_0 = 2
          · rw [if_pos c32] at H
            have c32b0 : (a0_0 == 2) = true := beq_iff_eq.mpr c32
            have c32b1 : (a0_0 != 2) = false := bne_eq_false_iff_eq.mpr c32
            clear c32
            by_cases c33 : a0_0 = 3
            · rw [if_pos c33] at H
              have c33b0 : (a0_0 == 3) = true := beq_iff_eq.mpr c33
              have c33b1 : (a0_0 != 3) = false := bne_eq_false_iff_eq.mpr c33
              clear c33
              obtain rfl := Option.some.inj H
              go_enter Try.func53,Try.ntmps53
              go_wp2_with (first | ((with_reducible refine gate_dst (N := 1) rfl ?_);refine box_event ?hg (N := 1) ?hd (cs := #[.int .i64 a0_0,.bool false,.int .i64 a0_2,.string a0_3]) (t := 50) ?hr ?_;(case hd => rfl);(case hg => rfl);(case hr => first | (go_simp;done) | (go_simp;rfl));intro gb327 hg w34 hbox hb;have n0_ := Aside0.mk (below_step (by repeat (first | (with_reducible first | exact HB.out | apply below_alloc | apply pw_below_drewN | apply below_drew1) | exact HB.out)) hb);have n1_ := Aside0.mk (hbox);have n2_ := Aside0.mk ((by rw [hg];exact (below_size (by repeat (first | (with_reducible first | exact HB.out | apply below_alloc | apply pw_below_drewN | apply below_drew1) | exact HB.out))) : w.heap.size ≤ gb327));have n3_ := Aside0.mk ((by rw [hg];exact (below_size (by repeat (first | (with_reducible first | exact HB.out | apply below_alloc | apply pw_below_drewN | apply below_drew1) | exact HB.out))) : w.heap.size ≤ gb327));clear HB;have HB := n0_;have BK327 := n1_;have GW327 := n2_;have GE327 := n3_;clear n0_ n1_ n2_ n3_;clear hb hbox hg;have hcz35_0 : w34.cell? ⟨gb327,0,none⟩ = some (.int .i64 a0_0) := (blk_cell BK327.out 0).trans rfl;have hcz35_1 : w34.cell? ⟨gb327,1,none⟩ = some (.bool false) := (blk_cell BK327.out 1).trans rfl;have hcz35_2 : w34.cell? ⟨gb327,2,none⟩ = some (.int .i64 a0_2) := (blk_cell BK327.out 2).trans rfl;have hcz35_3 : w34.cell? ⟨gb327,3,none⟩ = some (.string a0_3) := (blk_cell BK327.out 3).trans rfl;have hfz35_0 := blk_frozen BK327.out 0;have hfz35_1 := blk_frozen BK327.out 1;have hfz35_2 := blk_frozen BK327.out 2;have hfz35_3 := blk_frozen BK327.out 3))
              go_ret
              exact ⟨by first | rfl | (simp [errW_none,errW_some] <;> rfl) | (simp [*,errW_none,errW_some] <;> rfl),by repeat (first | (with_reducible first | exact HB.out | apply below_alloc | apply pw_below_drewN | apply below_drew1 | refine below_set ?_ GE327.out) | exact HB.out)⟩
            · rw [if_neg c33] at H
              have c33b0 : (a0_0 == 3) = false := beq_eq_false_iff_ne.mpr c33
              have c33b1 : (a0_0 != 3) = true := bne_iff_ne.mpr c33
              by_cases c36 : a0_3.toList = ([] : List UInt8)
              · rw [if_pos c36] at H
                have c36b0 : (a0_3.toList == ([] : List UInt8)) = true := beq_iff_eq.mpr c36
                have c36b1 : (a0_3.toList != ([] : List UInt8)) = false := bne_eq_false_iff_eq.mpr c36
                clear c36
                obtain rfl := Option.some.inj H
                go_enter Try.func53,Try.ntmps53
                go_wp2_with (first | ((with_reducible refine gate_dst (N := 1) rfl ?_);refine box_event ?hg (N := 1) ?hd (cs := #[.int .i64 a0_0,.bool false,.int .i64 a0_2,.string a0_3]) (t := 50) ?hr ?_;(case hd => rfl);(case hg => rfl);(case hr => first | (go_simp;done) | (go_simp;rfl));intro gb327 hg w37 hbox hb;have n0_ := Aside0.mk (below_step (by repeat (first | (with_reducible first | exact HB.out | apply below_alloc | apply pw_below_drewN | apply below_drew1) | exact HB.out)) hb);have n1_ := Aside0.mk (hbox);have n2_ := Aside0.mk ((by rw [hg];exact (below_size (by repeat (first | (with_reducible first | exact HB.out | apply below_alloc | apply pw_below_drewN | apply below_drew1) | exact HB.out))) : w.heap.size ≤ gb327));have n3_ := Aside0.mk ((by rw [hg];exact (below_size (by repeat (first | (with_reducible first | exact HB.out | apply below_alloc | apply pw_below_drewN | apply below_drew1) | exact HB.out))) : w.heap.size ≤ gb327));clear HB;have HB := n0_;have BK327 := n1_;have GW327 := n2_;have GE327 := n3_;clear n0_ n1_ n2_ n3_;clear hb hbox hg;have hcz38_0 : w37.cell? ⟨gb327,0,none⟩ = some (.int .i64 a0_0) := (blk_cell BK327.out 0).trans rfl;have hcz38_1 : w37.cell? ⟨gb327,1,none⟩ = some (.bool false) := (blk_cell BK327.out 1).trans rfl;have hcz38_2 : w37.cell? ⟨gb327,2,none⟩ = some (.int .i64 a0_2) := (blk_cell BK327.out 2).trans rfl;have hcz38_3 : w37.cell? ⟨gb327,3,none⟩ = some (.string a0_3) := (blk_cell BK327.out 3).trans rfl;have hfz38_0 := blk_frozen BK327.out 0;have hfz38_1 := blk_frozen BK327.out 1;have hfz38_2 := blk_frozen BK327.out 2;have hfz38_3 := blk_frozen BK327.out 3))
                go_ret
                exact ⟨by first | rfl | (simp [errW_none,errW_some] <;> rfl) | (simp [*,errW_none,errW_some] <;> rfl),by repeat (first | (with_reducible first | exact HB.out | apply below_alloc | apply pw_below_drewN | apply below_drew1 | refine below_set ?_ GE327.out) | exact HB.out)⟩
              · rw [if_neg c36] at H
                have c36b0 : (a0_3.toList == ([] : List UInt8)) = false := beq_eq_false_iff_ne.mpr c36
                have c36b1 : (a0_3.toList != ([] : List UInt8)) = true := bne_iff_ne.mpr c36
                obtain rfl := Option.some.inj H
                go_enter Try.func53,Try.ntmps53
                go_wp2_with (first | ((with_reducible refine gate_dst (N := 1) rfl ?_);refine box_event ?hg (N := 1) ?hd (cs := #[.int .i64 a0_0,.bool false,.int .i64 a0_2,.string a0_3]) (t := 50) ?hr ?_;(case hd => rfl);(case hg => rfl);(case hr => first | (go_simp;done) | (go_simp;rfl));intro gb327 hg w39 hbox hb;have n0_ := Aside0.mk (below_step (by repeat (first | (with_reducible first | exact HB.out | apply below_alloc | apply pw_below_drewN | apply below_drew1) | exact HB.out)) hb);have n1_ := Aside0.mk (hbox);have n2_ := Aside0.mk ((by rw [hg];exact (below_size (by repeat (first | (with_reducible first | exact HB.out | apply below_alloc | apply pw_below_drewN | apply below_drew1) | exact HB.out))) : w.heap.size ≤ gb327));have n3_ := Aside0.mk ((by rw [hg];exact (below_size (by repeat (first | (with_reducible first | exact HB.out | apply below_alloc | apply pw_below_drewN | apply below_drew1) | exact HB.out))) : w.heap.size ≤ gb327));clear HB;have HB := n0_;have BK327 := n1_;have GW327 := n2_;have GE327 := n3_;clear n0_ n1_ n2_ n3_;clear hb hbox hg;have hcz40_0 : w39.cell? ⟨gb327,0,none⟩ = some (.int .i64 a0_0) := (blk_cell BK327.out 0).trans rfl;have hcz40_1 : w39.cell? ⟨gb327,1,none⟩ = some (.bool false) := (blk_cell BK327.out 1).trans rfl;have hcz40_2 : w39.cell? ⟨gb327,2,none⟩ = some (.int .i64 a0_2) := (blk_cell BK327.out 2).trans rfl;have hcz40_3 : w39.cell? ⟨gb327,3,none⟩ = some (.string a0_3) := (blk_cell BK327.out 3).trans rfl;have hfz40_0 := blk_frozen BK327.out 0;have hfz40_1 := blk_frozen BK327.out 1;have hfz40_2 := blk_frozen BK327.out 2;have hfz40_3 := blk_frozen BK327.out 3))
                go_ret
                exact ⟨by first | rfl | (simp [errW_none,errW_some] <;> rfl) | (simp [*,errW_none,errW_some] <;> rfl),by repeat (first | (with_reducible first | exact HB.out | apply below_alloc | apply pw_below_drewN | apply below_drew1 | refine below_set ?_ GE327.out) | exact HB.out)⟩
          · rw [if_neg c32] at H
            have c32b0 : (a0_0 == 2) = false := beq_eq_false_iff_ne.mpr c32
            have c32b1 : (a0_0 != 2) = true := bne_iff_ne.mpr c32
            by_cases c41 : a0_2 = 0
            · rw [if_pos c41] at H
              have c41b0 : (a0_2 == 0) = true := beq_iff_eq.mpr c41
              have c41b1 : (a0_2 != 0) = false := bne_eq_false_iff_eq.mpr c41
              clear c41
              by_cases c42 : a0_0 = 3
              · rw [if_pos c42] at H
                have c42b0 : (a0_0 == 3) = true := beq_iff_eq.mpr c42
                have c42b1 : (a0_0 != 3) = false := bne_eq_false_iff_eq.mpr c42
                clear c42
                obtain rfl := Option.some.inj H
                go_enter Try.func53,Try.ntmps53
                go_wp2_with (first | ((with_reducible refine gate_dst (N := 1) rfl ?_);refine box_event ?hg (N := 1) ?hd (cs := #[.int .i64 a0_0,.bool false,.int .i64 a0_2,.string a0_3]) (t := 50) ?hr ?_;(case hd => rfl);(case hg => rfl);(case hr => first | (go_simp;done) | (go_simp;rfl));intro gb327 hg w43 hbox hb;have n0_ := Aside0.mk (below_step (by repeat (first | (with_reducible first | exact HB.out | apply below_alloc | apply pw_below_drewN | apply below_drew1) | exact HB.out)) hb);have n1_ := Aside0.mk (hbox);have n2_ := Aside0.mk ((by rw [hg];exact (below_size (by repeat (first | (with_reducible first | exact HB.out | apply below_alloc | apply pw_below_drewN | apply below_drew1) | exact HB.out))) : w.heap.size ≤ gb327));have n3_ := Aside0.mk ((by rw [hg];exact (below_size (by repeat (first | (with_reducible first | exact HB.out | apply below_alloc | apply pw_below_drewN | apply below_drew1) | exact HB.out))) : w.heap.size ≤ gb327));clear HB;have HB := n0_;have BK327 := n1_;have GW327 := n2_;have GE327 := n3_;clear n0_ n1_ n2_ n3_;clear hb hbox hg;have hcz44_0 : w43.cell? ⟨gb327,0,none⟩ = some (.int .i64 a0_0) := (blk_cell BK327.out 0).trans rfl;have hcz44_1 : w43.cell? ⟨gb327,1,none⟩ = some (.bool false) := (blk_cell BK327.out 1).trans rfl;have hcz44_2 : w43.cell? ⟨gb327,2,none⟩ = some (.int .i64 a0_2) := (blk_cell BK327.out 2).trans rfl;have hcz44_3 : w43.cell? ⟨gb327,3,none⟩ = some (.string a0_3) := (blk_cell BK327.out 3).trans rfl;have hfz44_0 := blk_frozen BK327.out 0;have hfz44_1 := blk_frozen BK327.out 1;have hfz44_2 := blk_frozen BK327.out 2;have hfz44_3 := blk_frozen BK327.out 3))
                go_ret
                exact ⟨by first | rfl | (simp [errW_none,errW_some] <;> rfl) | (simp [*,errW_none,errW_some] <;> rfl),by repeat (first | (with_reducible first | exact HB.out | apply below_alloc | apply pw_below_drewN | apply below_drew1 | refine below_set ?_ GE327.out) | exact HB.out)⟩
              · rw [if_neg c42] at H
                have c42b0 : (a0_0 == 3) = false := beq_eq_false_iff_ne.mpr c42
                have c42b1 : (a0_0 != 3) = true := bne_iff_ne.mpr c42
                by_cases c45 : a0_3.toList = ([] : List UInt8)
                · rw [if_pos c45] at H
                  have c45b0 : (a0_3.toList == ([] : List UInt8)) = true := beq_iff_eq.mpr c45
                  have c45b1 : (a0_3.toList != ([] : List UInt8)) = false := bne_eq_false_iff_eq.mpr c45
                  clear c45
                  obtain rfl := Option.some.inj H
                  go_enter Try.func53,Try.ntmps53
                  go_wp2_with (first | ((with_reducible refine gate_dst (N := 1) rfl ?_);refine box_event ?hg (N := 1) ?hd (cs := #[.int .i64 a0_0,.bool false,.int .i64 a0_2,.string a0_3]) (t := 50) ?hr ?_;(case hd => rfl);(case hg => rfl);(case hr => first | (go_simp;done) | (go_simp;rfl));intro gb327 hg w46 hbox hb;have n0_ := Aside0.mk (below_step (by repeat (first | (with_reducible first | exact HB.out | apply below_alloc | apply pw_below_drewN | apply below_drew1) | exact HB.out)) hb);have n1_ := Aside0.mk (hbox);have n2_ := Aside0.mk ((by rw [hg];exact (below_size (by repeat (first | (with_reducible first | exact HB.out | apply below_alloc | apply pw_below_drewN | apply below_drew1) | exact HB.out))) : w.heap.size ≤ gb327));have n3_ := Aside0.mk ((by rw [hg];exact (below_size (by repeat (first | (with_reducible first | exact HB.out | apply below_alloc | apply pw_below_drewN | apply below_drew1) | exact HB.out))) : w.heap.size ≤ gb327));clear HB;have HB := n0_;have BK327 := n1_;have GW327 := n2_;have GE327 := n3_;clear n0_ n1_ n2_ n3_;clear hb hbox hg;have hcz47_0 : w46.cell? ⟨gb327,0,none⟩ = some (.int .i64 a0_0) := (blk_cell BK327.out 0).trans rfl;have hcz47_1 : w46.cell? ⟨gb327,1,none⟩ = some (.bool false) := (blk_cell BK327.out 1).trans rfl;have hcz47_2 : w46.cell? ⟨gb327,2,none⟩ = some (.int .i64 a0_2) := (blk_cell BK327.out 2).trans rfl;have hcz47_3 : w46.cell? ⟨gb327,3,none⟩ = some (.string a0_3) := (blk_cell BK327.out 3).trans rfl;have hfz47_0 := blk_frozen BK327.out 0;have hfz47_1 := blk_frozen BK327.out 1;have hfz47_2 := blk_frozen BK327.out 2;have hfz47_3 := blk_frozen BK327.out 3))
                  go_ret
                  exact ⟨by first | rfl | (simp [errW_none,errW_some] <;> rfl) | (simp [*,errW_none,errW_some] <;> rfl),by repeat (first | (with_reducible first | exact HB.out | apply below_alloc | apply pw_below_drewN | apply below_drew1 | refine below_set ?_ GE327.out) | exact HB.out)⟩
                · rw [if_neg c45] at H
                  have c45b0 : (a0_3.toList == ([] : List UInt8)) = false := beq_eq_false_iff_ne.mpr c45
                  have c45b1 : (a0_3.toList != ([] : List UInt8)) = true := bne_iff_ne.mpr c45
                  obtain rfl := Option.some.inj H
                  go_enter Try.func53,Try.ntmps53
                  go_wp2_with (first | ((with_reducible refine gate_dst (N := 1) rfl ?_);refine box_event ?hg (N := 1) ?hd (cs := #[.int .i64 a0_0,.bool false,.int .i64 a0_2,.string a0_3]) (t := 50) ?hr ?_;(case hd => rfl);(case hg => rfl);(case hr => first | (go_simp;done) | (go_simp;rfl));intro gb327 hg w48 hbox hb;have n0_ := Aside0.mk (below_step (by repeat (first | (with_reducible first | exact HB.out | apply below_alloc | apply pw_below_drewN | apply below_drew1) | exact HB.out)) hb);have n1_ := Aside0.mk (hbox);have n2_ := Aside0.mk ((by rw [hg];exact (below_size (by repeat (first | (with_reducible first | exact HB.out | apply below_alloc | apply pw_below_drewN | apply below_drew1) | exact HB.out))) : w.heap.size ≤ gb327));have n3_ := Aside0.mk ((by rw [hg];exact (below_size (by repeat (first | (with_reducible first | exact HB.out | apply below_alloc | apply pw_below_drewN | apply below_drew1) | exact HB.out))) : w.heap.size ≤ gb327));clear HB;have HB := n0_;have BK327 := n1_;have GW327 := n2_;have GE327 := n3_;clear n0_ n1_ n2_ n3_;clear hb hbox hg;have hcz49_0 : w48.cell? ⟨gb327,0,none⟩ = some (.int .i64 a0_0) := (blk_cell BK327.out 0).trans rfl;have hcz49_1 : w48.cell? ⟨gb327,1,none⟩ = some (.bool false) := (blk_cell BK327.out 1).trans rfl;have hcz49_2 : w48.cell? ⟨gb327,2,none⟩ = some (.int .i64 a0_2) := (blk_cell BK327.out 2).trans rfl;have hcz49_3 : w48.cell? ⟨gb327,3,none⟩ = some (.string a0_3) := (blk_cell BK327.out 3).trans rfl;have hfz49_0 := blk_frozen BK327.out 0;have hfz49_1 := blk_frozen BK327.out 1;have hfz49_2 := blk_frozen BK327.out 2;have hfz49_3 := blk_frozen BK327.out 3))
                  go_ret
                  exact ⟨by first | rfl | (simp [errW_none,errW_some] <;> rfl) | (simp [*,errW_none,errW_some] <;> rfl),by repeat (first | (with_reducible first | exact HB.out | apply below_alloc | apply pw_below_drewN | apply below_drew1 | refine below_set ?_ GE327.out) | exact HB.out)⟩
            · rw [if_neg c41] at H
              have c41b0 : (a0_2 == 0) = false := beq_eq_false_iff_ne.mpr c41
              have c41b1 : (a0_2 != 0) = true := bne_iff_ne.mpr c41
              obtain rfl := Option.some.inj H
              go_enter Try.func53,Try.ntmps53
              go_wp2_with (first | ((with_reducible refine gate_dst (N := 1) rfl ?_);refine box_event ?hg (N := 1) ?hd (cs := #[.int .i64 a0_0,.bool false,.int .i64 a0_2,.string a0_3]) (t := 50) ?hr ?_;(case hd => rfl);(case hg => rfl);(case hr => first | (go_simp;done) | (go_simp;rfl));intro gb327 hg w50 hbox hb;have n0_ := Aside0.mk (below_step (by repeat (first | (with_reducible first | exact HB.out | apply below_alloc | apply pw_below_drewN | apply below_drew1) | exact HB.out)) hb);have n1_ := Aside0.mk (hbox);have n2_ := Aside0.mk ((by rw [hg];exact (below_size (by repeat (first | (with_reducible first | exact HB.out | apply below_alloc | apply pw_below_drewN | apply below_drew1) | exact HB.out))) : w.heap.size ≤ gb327));have n3_ := Aside0.mk ((by rw [hg];exact (below_size (by repeat (first | (with_reducible first | exact HB.out | apply below_alloc | apply pw_below_drewN | apply below_drew1) | exact HB.out))) : w.heap.size ≤ gb327));clear HB;have HB := n0_;have BK327 := n1_;have GW327 := n2_;have GE327 := n3_;clear n0_ n1_ n2_ n3_;clear hb hbox hg;have hcz51_0 : w50.cell? ⟨gb327,0,none⟩ = some (.int .i64 a0_0) := (blk_cell BK327.out 0).trans rfl;have hcz51_1 : w50.cell? ⟨gb327,1,none⟩ = some (.bool false) := (blk_cell BK327.out 1).trans rfl;have hcz51_2 : w50.cell? ⟨gb327,2,none⟩ = some (.int .i64 a0_2) := (blk_cell BK327.out 2).trans rfl;have hcz51_3 : w50.cell? ⟨gb327,3,none⟩ = some (.string a0_3) := (blk_cell BK327.out 3).trans rfl;have hfz51_0 := blk_frozen BK327.out 0;have hfz51_1 := blk_frozen BK327.out 1;have hfz51_2 := blk_frozen BK327.out 2;have hfz51_3 := blk_frozen BK327.out 3))
              go_ret
              exact ⟨by first | rfl | (simp [errW_none,errW_some] <;> rfl) | (simp [*,errW_none,errW_some] <;> rfl),by repeat (first | (with_reducible first | exact HB.out | apply below_alloc | apply pw_below_drewN | apply below_drew1 | refine below_set ?_ GE327.out) | exact HB.out)⟩
end Go.Proofs.Ytfoaeigoajooeaa.Z
namespace Go.Proofs.Ytfoaeigoajooeaa.Z
open Go.RowKit Go.Proofs.YtfoaeigoajooeaaW.PrintWords Go.Proofs.YtfoaeigoajooeaaW.PrintLast Go.Proofs.YtfoaeigoajooeaaW.PrintMore
attribute [local go_sem] max2_int min2_int max_two min_two max_three min_three max_four min_four
set_option linter.unusedVariables false
set_option linter.unusedSimpArgs false
/-! ### verdererref02_Right: function 25 -/
def verdererref02_Right.l0 : Nat → List (S50) → Int → Option (Bool)
  | 0,_,_ => none
  | k + 1,x0,x3 => if x3 < (x0.length : Int) then (if 0 ≤ x3 then ((verdererref01_Right.f ((rd_T50 x0 x3).f0) ((rd_T50 x0 x3).f1) ((rd_T50 x0 x3).f2) ((rd_T50 x0 x3).f3)).bind fun t329 => (if t329 = true then (verdererref02_Right.l0 k x0 (wrap64 (x3 + 1))) else (some false))) else (none)) else (some true)
def verdererref02_Right.f (k : Nat) (l0 : List (S50)) : Option (Bool) := if (l0.length : Int) > 40 then (some false) else (verdererref02_Right.l0 k l0 0)
theorem verdererref02_Right.mono_l : ∀ k,(∀ y0 y1,LeO (verdererref02_Right.l0 k y0 y1) (verdererref02_Right.l0 (k + 1) y0 y1))
  | 0 => fun _ _ r h => by simp [verdererref02_Right.l0] at h
  | k + 1 => by
    have ih0 := verdererref02_Right.mono_l k
    · intro y0 y1
      unfold verdererref02_Right.l0
      repeat' first
      | (with_reducible exact ih0 _ _)
      | (with_reducible exact LeO.refl _)
      | (with_reducible exact LeO.none _)
      | (with_reducible refine LeO.ite ?_ ?_)
      | (with_reducible refine LeO.bind ?_ (fun _ => ?_))
      | exact ih0 _ _
      | exact LeO.none _
      | refine LeO.ite ?_ ?_
      | refine LeO.bind ?_ (fun _ => ?_)
theorem verdererref02_Right.mono : ∀ a0 k,LeO (verdererref02_Right.f k a0) (verdererref02_Right.f (k + 1) a0) := by
  intro a0 k
  have ih0 := verdererref02_Right.mono_l k
  unfold verdererref02_Right.f
  repeat' first
      | (with_reducible exact ih0 _ _)
      | (with_reducible exact LeO.refl _)
      | (with_reducible exact LeO.none _)
      | (with_reducible refine LeO.ite ?_ ?_)
      | (with_reducible refine LeO.bind ?_ (fun _ => ?_))
      | exact ih0 _ _
      | exact LeO.none _
      | refine LeO.ite ?_ ?_
      | refine LeO.bind ?_ (fun _ => ?_)
set_option maxHeartbeats 8000000 in
set_option maxRecDepth 100000 in
theorem verdererref02_Right.calls (k : Nat) (A0 : Option Addr) (c0 : Nat) (l0 : List (S50)) (r : Bool) (w : World) (hr0 : Kd.C k50 w A0 l0.length l0) (hc0 : l0.length ≤ c0) (h : verdererref02_Right.f k l0 = some r) :
    Calls Try.prog 25 #[.slice A0 l0.length c0] w fun e w' => e = .returned (.bool r) ∧ Below w.heap.size w w' := by
  have hu50 := Try.underlying50
  have HR0 := Aside0.mk hr0
  have HC0 := Aside0.mk hc0
  clear hr0 hc0
  have HB := Aside0.mk (Below.refl w.heap.size w)
  have H : (if (l0.length : Int) > 40 then (some false) else (verdererref02_Right.l0 k l0 0)) = some r := h
  clear h
  by_cases c2 : (l0.length : Int) > 40
  · rw [if_pos c2] at H
    have c2b0 : decide (40 < (l0.length : Int)) = true := decide_eq_true c2
    have c2b1 : decide (40 < l0.length) = true := decide_eq_true (by omega)
    clear c2
    obtain rfl := Option.some.inj H
    go_enter Try.func25,Try.ntmps25
    go_wp2
    go_ret
    exact ⟨by first | rfl | (simp [errW_none,errW_some] <;> rfl) | (simp [*,errW_none,errW_some] <;> rfl),by repeat (first | (with_reducible first | exact HB.out | apply below_alloc | apply pw_below_drewN | apply below_drew1) | exact HB.out)⟩
  · rw [if_neg c2] at H
    have c2b0 : decide (40 < (l0.length : Int)) = false := decide_eq_false c2
    have c2b1 : decide (40 < l0.length) = false := decide_eq_false (by omega)
    clear c2
    have H' := Aside0.mk H
    clear H
    go_enter Try.func25,Try.ntmps25
    go_wp2
    go_loopg [3] k (fun kq v3 w' => ∃ (x3_1 : Int),v3 = .int .i64 x3_1 ∧ Aside0 (verdererref02_Right.l0 kq l0 x3_1 = some r) ∧ Aside0 (kq ≤ k) ∧ Aside0 (Below w.heap.size w w'))
    case atStart => exact ⟨(0),(by first | rfl | (simp;done) | (simp [*];done)),H',⟨Nat.le_refl _⟩,⟨by repeat (first | (with_reducible first | exact HB.out | apply below_alloc | apply pw_below_drewN | apply below_drew1) | exact HB.out)⟩⟩
    case round =>
      clear H'
      try clear c2
      try clear c2b0
      try clear c2b1
      try clear p2
      obtain ⟨x3_1,rfl,HA,HK1,HB⟩ := hrel
      cases gk with
      | zero => exact absurd HA.out (by simp [verdererref02_Right.l0])
      | succ k1 =>
        have H := HA.out
        clear HA
        simp only [verdererref02_Right.l0] at H
        by_cases c3 : x3_1 < (l0.length : Int)
        · rw [if_pos c3] at H
          have c3b0 : decide (x3_1 < (l0.length : Int)) = true := decide_eq_true c3
          clear c3
          by_cases c4 : 0 ≤ x3_1
          · rw [if_pos c4] at H
            have c4b0 : decide (0 ≤ x3_1) = true := decide_eq_true c4
            clear c4
            replace H := Option.bind_eq_some_iff.mp H
            obtain ⟨t329,A50,H⟩ := H
            replace H : (if t329 = true then (verdererref02_Right.l0 k1 l0 (wrap64 (x3_1 + 1))) else (some false)) = some r := H
            have A5 := Aside0.mk A50
            clear A50
            by_cases c6 : t329 = true
            · subst c6
              have H1 : (verdererref02_Right.l0 k1 l0 (wrap64 (x3_1 + 1))) = some r := by rw [if_pos rfl] at H;exact H
              clear H
              have H := H1
              clear H1
              have H' := Aside0.mk H
              clear H
              have p328 : 0 ≤ (x3_1 : Int) := of_decide_eq_true (by first | (with_reducible assumption) | assumption)
              have q328 : x3_1 < (l0.length : Int) := of_decide_eq_true (by first | (with_reducible assumption) | assumption)
              obtain ⟨ad328,e328,hx328_0,hx328_1,hx328_2,hx328_3⟩ := at_T50 HR0.out x3_1 p328 q328
              cases e328
              replace hx328_0 := (HB.out.cell (World.block_lt_of_cell? w _ hx328_0)).trans hx328_0
              replace hx328_1 := (HB.out.cell (World.block_lt_of_cell? w _ hx328_1)).trans hx328_1
              replace hx328_2 := (HB.out.cell (World.block_lt_of_cell? w _ hx328_2)).trans hx328_2
              replace hx328_3 := (HB.out.cell (World.block_lt_of_cell? w _ hx328_3)).trans hx328_3
              replace p328 := eq_true p328
              replace q328 := eq_true q328
              go_wp2_with (first | ((with_reducible refine gate_callee (f := 53) rfl ?_);refine goesL_ (some 17) rfl rfl Try.func53 (by kernel_rfl) rfl #[.agg #[.int .i64 ((rd_T50 l0 x3_1).f0),.bool ((rd_T50 l0 x3_1).f1),.int .i64 ((rd_T50 l0 x3_1).f2),.string ((rd_T50 l0 x3_1).f3)]] rfl (by (try simp only [List.map_toArray,List.map_cons,List.map_nil]);first | done | rfl | (simp only [List.length_drop,List.length_take];rfl)) ?_;(with_reducible refine (verdererref01_Right.calls ((rd_T50 l0 x3_1).f0) ((rd_T50 l0 x3_1).f1) ((rd_T50 l0 x3_1).f2) ((rd_T50 l0 x3_1).f3) true _ A5.out).mono ?_);rintro e w7 ⟨rfl,hb⟩;refine ⟨_,rfl,?_⟩;have n0_ := Aside0.mk (below_step (by repeat (first | (with_reducible first | exact HB.out | apply below_alloc | apply pw_below_drewN | apply below_drew1) | exact HB.out)) hb);clear HB;have HB := n0_;clear n0_;(try clear hb);(try clear hb2);(try clear hk);(try clear hi)))
              go_roundg k1
              case measure => have := HK1.out;omega
              case rel => exact ⟨(wrap64 (x3_1 + 1)),(by first | rfl | (simp;done) | (simp [*];done)),H',⟨by have := HK1.out;omega⟩,⟨by repeat (first | (with_reducible first | exact HB.out | apply below_alloc | apply pw_below_drewN | apply below_drew1) | exact HB.out)⟩⟩
            · replace c6 := Bool.eq_false_iff.mpr c6
              subst c6
              have H1 : (some false) = some r := by rw [if_neg (show ¬ (false = true) by decide)] at H;exact H
              clear H
              have H := H1
              clear H1
              obtain rfl := Option.some.inj H
              have p328 : 0 ≤ (x3_1 : Int) := of_decide_eq_true (by first | (with_reducible assumption) | assumption)
              have q328 : x3_1 < (l0.length : Int) := of_decide_eq_true (by first | (with_reducible assumption) | assumption)
              obtain ⟨ad328,e328,hx328_0,hx328_1,hx328_2,hx328_3⟩ := at_T50 HR0.out x3_1 p328 q328
              cases e328
              replace hx328_0 := (HB.out.cell (World.block_lt_of_cell? w _ hx328_0)).trans hx328_0
              replace hx328_1 := (HB.out.cell (World.block_lt_of_cell? w _ hx328_1)).trans hx328_1
              replace hx328_2 := (HB.out.cell (World.block_lt_of_cell? w _ hx328_2)).trans hx328_2
              replace hx328_3 := (HB.out.cell (World.block_lt_of_cell? w _ hx328_3)).trans hx328_3
              replace p328 := eq_true p328
              replace q328 := eq_true q328
              go_wp2_with (first | ((with_reducible refine gate_callee (f := 53) rfl ?_);refine goesL_ (some 17) rfl rfl Try.func53 (by kernel_rfl) rfl #[.agg #[.int .i64 ((rd_T50 l0 x3_1).f0),.bool ((rd_T50 l0 x3_1).f1),.int .i64 ((rd_T50 l0 x3_1).f2),.string ((rd_T50 l0 x3_1).f3)]] rfl (by (try simp only [List.map_toArray,List.map_cons,List.map_nil]);first | done | rfl | (simp only [List.length_drop,List.length_take];rfl)) ?_;(with_reducible refine (verdererref01_Right.calls ((rd_T50 l0 x3_1).f0) ((rd_T50 l0 x3_1).f1) ((rd_T50 l0 x3_1).f2) ((rd_T50 l0 x3_1).f3) false _ A5.out).mono ?_);rintro e w8 ⟨rfl,hb⟩;refine ⟨_,rfl,?_⟩;have n0_ := Aside0.mk (below_step (by repeat (first | (with_reducible first | exact HB.out | apply below_alloc | apply pw_below_drewN | apply below_drew1) | exact HB.out)) hb);clear HB;have HB := n0_;clear n0_;(try clear hb);(try clear hb2);(try clear hk);(try clear hi)))
              go_ret
              exact ⟨by first | rfl | (simp [errW_none,errW_some] <;> rfl) | (simp [*,errW_none,errW_some] <;> rfl),by repeat (first | (with_reducible first | exact HB.out | apply below_alloc | apply pw_below_drewN | apply below_drew1) | exact HB.out)⟩
          · rw [if_neg c4] at H
            exact absurd H (by simp)
        · rw [if_neg c3] at H
          have c3b0 : decide (x3_1 < (l0.length : Int)) = false := decide_eq_false c3
          clear c3
          obtain rfl := Option.some.inj H
          go_wp2
          go_ret
          exact ⟨by first | rfl | (simp [errW_none,errW_some] <;> rfl) | (simp [*,errW_none,errW_some] <;> rfl),by repeat (first | (with_reducible first | exact HB.out | apply below_alloc | apply pw_below_drewN | apply below_drew1) | exact HB.out)⟩
end Go.Proofs.Ytfoaeigoajooeaa.Z
/- What came in,read as lists: from the row's reading (DataW.trod) to the print's kinds (Kd). -/
namespace Go.Proofs.YtfoaeigoajooeaaW.PrintWords
open Go.RowKit Go.ChangeShapes Go.WideShapes
section
variable {P : Program} {α β : Type}
/-- Whatever reads as a datum of type t reads as a value of kind d that is good. -/
def OfTrod (P : Program) (t : TypeId) (d : Kd α) (G : α → Prop) : Prop :=
  ∀ (H : Type) (enc : TypeId × Value → H) (w : World) (base : Nat) (spare : Nat → Bool) (held : Bool) (fuel : Nat) (cs : List Value) (x : DataW H × List MemPlace),DataW.trod enc P w base spare held fuel t cs = some x → ∃ s,d.K w s cs ∧ G s
theorem ofTrod_int {t : TypeId} {k : IntKind} (ht : P.underlying t = some (.int k)) : OfTrod P t (Kd.int k) (fun n => (Lit.int k n).wf = true) := by
  intro H enc w base spare held fuel cs x h
  obtain ⟨n,rfl,_,hw⟩ := DataW.trod_int ht h
  exact ⟨n,rfl,hw⟩
theorem ofTrod_bool {t : TypeId} (ht : P.underlying t = some .bool) : OfTrod P t Kd.bool (fun _ => True) := by
  intro H enc w base spare held fuel cs x h
  obtain ⟨b,rfl,_⟩ := DataW.trod_bool ht h
  exact ⟨b,rfl,trivial⟩
theorem ofTrod_string {t : TypeId} (ht : P.underlying t = some .string) : OfTrod P t Kd.string (fun s => s.size ≤ maxLen) := by
  intro H enc w base spare held fuel cs x h
  obtain ⟨s,rfl,_,hs⟩ := DataW.trod_string ht h
  exact ⟨s,rfl,hs⟩
theorem list_of_all {n : Nat} {Q : Nat → α → Prop} (h : ∀ i,i < n → ∃ x,Q i x) : ∃ xs : List α,xs.length = n ∧ ∀ i x,xs[i]? = some x → Q i x := by
  induction n with
  | zero => exact ⟨[],rfl,fun i x hx => by simp at hx⟩
  | succ n ih =>
    obtain ⟨xs,hl,hx⟩ := ih (fun i hi => h i (by omega))
    obtain ⟨y,hy⟩ := h n (by omega)
    refine ⟨xs ++ [y],by simp [hl],fun i x hi => ?_⟩
    rcases Nat.lt_trichotomy i xs.length with hlt | rfl | hgt
    · rw [List.getElem?_append_left hlt] at hi
      exact hx i x hi
    · rw [List.getElem?_append_right (Nat.le_refl _)] at hi
      simp at hi
      subst hi
      rw [hl]
      exact hy
    · rw [List.getElem?_append_right (by omega),List.getElem?_eq_none (by simp;omega)] at hi
      cases hi
theorem ofTrod_slice {t e : TypeId} {d : Kd α} {G : α → Prop} (ht : P.underlying t = some (.slice e)) (hc : P.cellsOf e = d.sz) (h : OfTrod P e d G) :
    OfTrod P t (Kd.slice e d) (fun l => l.length ≤ maxLen ∧ ∀ x ∈ l,G x) := by
  intro H enc w base spare held fuel cs x hx
  rcases Go.Deep.open_slice ht hx with ⟨rfl,_⟩ | ⟨a,len,cap,m,n,D,Pl,rfl,_,hl,hm,hmm,_,hel⟩
  · exact ⟨[],⟨none,0,rfl,Nat.le_refl _,Kd.C_nil d w⟩,by simp,fun x hx => by simp at hx⟩
  · have hlm : len ≤ m := by rw [hmm];split <;> omega
    obtain ⟨xs,hxl,hxs⟩ := list_of_all (n := len) (Q := fun i s => ∃ cs',w.cells? base (a.add (i * P.cellsOf e)) (P.cellsOf e) = some cs' ∧ d.K w s cs' ∧ G s) (fun i hi => by
      obtain ⟨cs',h1,h2⟩ := hel i (by omega)
      obtain ⟨s,h3,h4⟩ := h _ _ _ _ _ _ _ _ _ h2
      exact ⟨s,cs',h1,h3,h4⟩)
    refine ⟨xs,⟨some a,cap,by rw [hxl],by omega,rfl,by rw [hxl];unfold maxLen at hm;omega,fun _ => ⟨a,rfl,fun j p hp => ?_⟩⟩,by omega,fun x hx => ?_⟩
    · obtain ⟨cs',h1,h2,_⟩ := hxs j p hp
      obtain ⟨_,hcl,hcell⟩ := World.cells?_some h1
      refine ⟨cs',by rw [hcl,hc],h2,fun i u hu => ?_⟩
      have hi : i < P.cellsOf e := by
        rw [← hcl]
        exact (List.getElem?_eq_some_iff.1 hu).1
      have := hcell i hi
      rw [Go.Deep.add_add,hc] at this
      rw [this]
      exact hu
    · obtain ⟨i,hi,rfl⟩ := List.getElem_of_mem hx
      obtain ⟨_,_,_,h4⟩ := hxs i xs[i] (List.getElem?_eq_getElem hi)
      exact h4
/-- Where segment i of some types,of some sizes,begins. -/
def segOff (segs : List (TypeId × Nat)) (i : Nat) : Nat := ((segs.take i).map (·.2)).sum
def OfSegs (P : Program) (segs : List (TypeId × Nat)) (d : Kd α) (G : α → Prop) : Prop :=
  ∀ (H : Type) (enc : TypeId × Value → H) (w : World) (base : Nat) (spare : Nat → Bool) (held : Bool) (fuel : Nat) (cs : List Value),cs.length = segOff segs segs.length →
    (∀ i t c,segs[i]? = some (t,c) → ∃ x,DataW.trod enc P w base spare held fuel t ((cs.drop (segOff segs i)).take c) = some x) → ∃ s,d.K w s cs ∧ G s
theorem ofSegs_one {t : TypeId} {c : Nat} {d : Kd α} {G : α → Prop} (h : OfTrod P t d G) : OfSegs P [(t,c)] d G := by
  intro H enc w base spare held fuel cs hl hx
  obtain ⟨x,h1⟩ := hx 0 t c rfl
  have hl2 : cs.length = c := by simpa [segOff] using hl
  have e : ((cs.drop (segOff [(t,c)] 0)).take c) = cs := by simp [segOff,← hl2]
  rw [e] at h1
  exact h _ _ _ _ _ _ _ _ _ h1
theorem ofSegs_cons {t : TypeId} {c : Nat} {ts : List (TypeId × Nat)} {d : Kd α} {d' : Kd β} {G : α → Prop} {G' : β → Prop} (h : OfTrod P t d G) (h' : OfSegs P ts d' G') : OfSegs P ((t,c) :: ts) (Kd.pair d d') (fun x => G x.1 ∧ G' x.2) := by
  intro H enc w base spare held fuel cs hl hx
  obtain ⟨x,h1⟩ := hx 0 t c rfl
  have e : ((cs.drop (segOff ((t,c) :: ts) 0)).take c) = cs.take c := by simp [segOff]
  rw [e] at h1
  obtain ⟨s,h2,h3⟩ := h _ _ _ _ _ _ _ _ _ h1
  have hl' : (cs.drop c).length = segOff ts ts.length := by
    simp [segOff] at hl ⊢
    omega
  obtain ⟨s',h4,h5⟩ := h' H enc w base spare held fuel (cs.drop c) hl' (fun i t' c' hi => by
    obtain ⟨y,hy⟩ := hx (i + 1) t' c' (by simpa using hi)
    refine ⟨y,?_⟩
    have e2 : segOff ((t,c) :: ts) (i + 1) = c + segOff ts i := by simp [segOff]
    rw [e2] at hy
    rw [List.drop_drop]
    exact hy)
  exact ⟨(s,s'),⟨cs.take c,cs.drop c,(List.take_append_drop c cs).symm,h2,h4⟩,h3,h5⟩
theorem ofTrod_struct {t : TypeId} {fs : Array Field} {segs : List (TypeId × Nat)} {d : Kd α} {G : α → Prop} (ht : P.underlying t = some (.struct fs)) (hc : P.cellsOf t = segOff segs segs.length) (hn : fs.size = segs.length)
    (hfs : ∀ i (f : Field),fs[i]? = some f → segs[i]? = some (f.type,P.cellsOf f.type) ∧ f.offset = segOff segs i) (h : OfSegs P segs d G) : OfTrod P t d G := by
  intro H enc w base spare held fuel cs x hx
  obtain ⟨xs,n,_,_,hl,hxl,hf⟩ := DataW.trod_struct ht hx
  refine h H enc w base spare held n cs (by rw [hl,hc]) (fun i t' c' hi => ?_)
  have hlt : i < fs.size := by rw [hn];exact (List.getElem?_eq_some_iff.1 hi).1
  obtain ⟨h1,h2⟩ := hfs i fs[i] (Array.getElem?_eq_getElem hlt)
  rw [hi] at h1
  injection h1 with h1
  injection h1 with h1 h3
  have h4 := hf i fs[i] (Array.getElem?_eq_getElem hlt)
  rw [h2,← h3,← h1] at h4
  have hlt2 : i < xs.length := by omega
  rw [List.getElem?_eq_getElem hlt2] at h4
  exact ⟨_,h4⟩
theorem ofTrod_iso {t : TypeId} {d : Kd α} {G : α → Prop} (f : β → α) (g : α → β) (hg : ∀ a,f (g a) = a) (h : OfTrod P t d G) : OfTrod P t (Kd.iso d f) (fun x => G (f x)) := by
  intro H enc w base spare held fuel cs x hx
  obtain ⟨s,h1,h2⟩ := h _ _ _ _ _ _ _ _ _ hx
  exact ⟨g s,by show d.K w (f (g s)) cs;rw [hg];exact h1,by show G (f (g s));rw [hg];exact h2⟩
/-- A kind that looks at the heap alone. -/
def HeapOnly (d : Kd α) : Prop := ∀ {w w' : World} {x : α} {cs : List Value},w.heap = w'.heap → d.K w x cs → d.K w' x cs
theorem cell_heap {w w' : World} (h : w.heap = w'.heap) (a : Addr) : w'.cell? a = w.cell? a := by unfold World.cell?;rw [h]
theorem heapOnly_int (k : IntKind) : HeapOnly (Kd.int k) := fun _ h => h
theorem heapOnly_bool : HeapOnly Kd.bool := fun _ h => h
theorem heapOnly_string : HeapOnly Kd.string := fun _ h => h
theorem C_heap {d : Kd α} (hd : HeapOnly d) {w w' : World} {A : Option Addr} {n : Nat} {xs : List α} (hh : w.heap = w'.heap) (h : d.C w A n xs) : d.C w' A n xs := by
  refine ⟨h.1,h.2.1,fun hn => ?_⟩
  obtain ⟨ad,e,hx⟩ := h.2.2 hn
  refine ⟨ad,e,fun j p hp => ?_⟩
  obtain ⟨c,h1,h2,h3⟩ := hx j p hp
  exact ⟨c,h1,hd hh h2,fun i u hu => by rw [cell_heap hh];exact h3 i u hu⟩
theorem heapOnly_slice {e : Nat} {d : Kd α} (hd : HeapOnly d) : HeapOnly (Kd.slice e d) := by
  rintro w w' x cs hh ⟨A,c,rfl,hl,hr⟩
  exact ⟨A,c,rfl,hl,C_heap hd hh hr⟩
theorem heapOnly_pair {a : Kd α} {b : Kd β} (ha : HeapOnly a) (hb : HeapOnly b) : HeapOnly (Kd.pair a b) := by
  rintro w w' x cs hh ⟨c0,c1,rfl,h0,h1⟩
  exact ⟨c0,c1,rfl,ha hh h0,hb hh h1⟩
theorem heapOnly_iso {d : Kd α} (f : β → α) (hd : HeapOnly d) : HeapOnly (Kd.iso d f) := fun hh h => hd hh h
/-- What came in,as what may be shared. -/
theorem F_of_C {d : Kd α} (hd : HeapOnly d) {W : World} {A : Option Addr} {n : Nat} {xs : List α} (h : d.C W A n xs) : Kd.F d W (fun _ => True) A n xs := by
  intro W' hW
  have hs : W.heap.size ≤ W'.heap.size := by
    rcases Nat.eq_zero_or_pos W.heap.size with h0 | h0
    · omega
    · have := heap_lt (hW (W.heap.size - 1) trivial (by omega)) (by omega)
      omega
  have hb : Below W.heap.size W { W with heap := W'.heap } := ⟨rfl,rfl,rfl,hs,fun k hk => hW k trivial hk⟩
  have hc : d.C { W with heap := W'.heap } A n xs := Kd.C_below h hb
  exact C_heap (w := { W with heap := W'.heap }) hd rfl hc
end
end Go.Proofs.YtfoaeigoajooeaaW.PrintWords
/- How the laws' arguments are read. -/
namespace Go.Proofs.Ytfoaeigoajooeaa.Z
open Go.RowKit Go.Proofs.YtfoaeigoajooeaaW.PrintWords Go.Proofs.YtfoaeigoajooeaaW.PrintLast Go.Proofs.YtfoaeigoajooeaaW.PrintMore
set_option maxRecDepth 100000
def G50 (x : S50) : Prop := ((Lit.int .i64 x.f0).wf = true) ∧ (True) ∧ ((Lit.int .i64 x.f2).wf = true) ∧ (x.f3.size ≤ maxLen)
theorem of50 : OfTrod Try.prog 50 k50 G50 :=
  ofTrod_iso _ (fun a => (⟨a.1,a.2.1,a.2.2.1,a.2.2.2⟩ : S50)) (fun _ => rfl) (ofTrod_struct (segs := [(3,1),(4,1),(2,1),(9,1)]) Try.underlying50 (by kernel_rfl) rfl
    (by
      intro i f hf
      rcases i with _ | _ | _ | _ | i <;> simp at hf <;> subst hf <;> exact ⟨congrArg some (Prod.ext rfl (by kernel_rfl)),rfl⟩) (ofSegs_cons (ofTrod_int Try.underlying3) (ofSegs_cons (ofTrod_bool Try.underlying4) (ofSegs_cons (ofTrod_int Try.underlying2) (ofSegs_one (ofTrod_string Try.underlying9))))))
theorem ho50 : HeapOnly k50 := heapOnly_iso _ (heapOnly_pair (heapOnly_int _) (heapOnly_pair heapOnly_bool (heapOnly_pair (heapOnly_int _) heapOnly_string)))
def G39 (x : S39) : Prop := ((Lit.int .i64 x.f0).wf = true) ∧ ((Lit.int .i64 x.f1).wf = true)
theorem of39 : OfTrod Try.prog 39 k39 G39 :=
  ofTrod_iso _ (fun a => (⟨a.1,a.2⟩ : S39)) (fun _ => rfl) (ofTrod_struct (segs := [(3,1),(3,1)]) Try.underlying39 (by kernel_rfl) rfl
    (by
      intro i f hf
      rcases i with _ | _ | i <;> simp at hf <;> subst hf <;> exact ⟨congrArg some (Prod.ext rfl (by kernel_rfl)),rfl⟩) (ofSegs_cons (ofTrod_int Try.underlying3) (ofSegs_one (ofTrod_int Try.underlying3))))
theorem ho39 : HeapOnly k39 := heapOnly_iso _ (heapOnly_pair (heapOnly_int _) (heapOnly_int _))
end Go.Proofs.Ytfoaeigoajooeaa.Z
namespace Go.Proofs.Ytfoaeigoajooeaa.Z
open Go.RowKit Go.Proofs.YtfoaeigoajooeaaW.PrintWords Go.Proofs.YtfoaeigoajooeaaW.PrintLast Go.Proofs.YtfoaeigoajooeaaW.PrintMore
attribute [local go_sem] max2_int min2_int max_two min_two max_three min_three max_four min_four
set_option linter.unusedVariables false
set_option linter.unusedSimpArgs false
/-! ### verdererref02_Compare: function 22 -/
mutual
def verdererref02_Compare.l0 : Nat → List (S50) → List (S50) → Int → Option (Int)
  | 0,_,_,_ => none
  | k + 1,x0,x1,x5 => if x5 < (x0.length : Int) then (verdererref02_Compare.j1 k x0 x1 x5 (decide (x5 < (x1.length : Int)))) else (verdererref02_Compare.j1 k x0 x1 x5 false)
def verdererref02_Compare.j1 : Nat → List (S50) → List (S50) → Int → Bool → Option (Int)
  | 0,_,_,_,_ => none
  | k + 1,x0,x1,x5,x16 => if x16 = true then (if 0 ≤ x5 then (if x5 < (x0.length : Int) then (if x5 < (x1.length : Int) then ((verdererref01_Compare.f k ((rd_T50 x0 x5).f0) ((rd_T50 x0 x5).f1) ((rd_T50 x0 x5).f2) ((rd_T50 x0 x5).f3) ((rd_T50 x1 x5).f0) ((rd_T50 x1 x5).f1) ((rd_T50 x1 x5).f2) ((rd_T50 x1 x5).f3)).bind fun t301 => (if t301 = 0 then (verdererref02_Compare.l0 k x0 x1 (wrap64 (x5 + 1))) else (some t301))) else (none)) else (none)) else (none)) else (if (x0.length : Int) < (x1.length : Int) then (some (-1)) else (if (x0.length : Int) > (x1.length : Int) then (some 1) else (some 0)))
end
def verdererref02_Compare.f (k : Nat) (l0 : List (S50)) (l1 : List (S50)) : Option (Int) := verdererref02_Compare.l0 k l0 l1 0
theorem verdererref02_Compare.mono_l : ∀ k,(∀ y0 y1 y2,LeO (verdererref02_Compare.l0 k y0 y1 y2) (verdererref02_Compare.l0 (k + 1) y0 y1 y2)) ∧ (∀ y0 y1 y2 y3,LeO (verdererref02_Compare.j1 k y0 y1 y2 y3) (verdererref02_Compare.j1 (k + 1) y0 y1 y2 y3))
  | 0 => ⟨fun _ _ _ r h => by simp [verdererref02_Compare.l0] at h,fun _ _ _ _ r h => by simp [verdererref02_Compare.j1] at h⟩
  | k + 1 => by
    obtain ⟨ih0,ih1⟩ := verdererref02_Compare.mono_l k
    refine ⟨?_,?_⟩
    · intro y0 y1 y2
      unfold verdererref02_Compare.l0
      repeat' first
      | (with_reducible exact ih0 _ _ _)
      | (with_reducible exact ih1 _ _ _ _)
      | (with_reducible exact verdererref01_Compare.mono _ _ _ _ _ _ _ _ _)
      | (with_reducible exact LeO.refl _)
      | (with_reducible exact LeO.none _)
      | (with_reducible refine LeO.ite ?_ ?_)
      | (with_reducible refine LeO.bind ?_ (fun _ => ?_))
      | exact ih0 _ _ _
      | exact ih1 _ _ _ _
      | exact verdererref01_Compare.mono _ _ _ _ _ _ _ _ _
      | exact LeO.none _
      | refine LeO.ite ?_ ?_
      | refine LeO.bind ?_ (fun _ => ?_)
    · intro y0 y1 y2 y3
      unfold verdererref02_Compare.j1
      repeat' first
      | (with_reducible exact ih0 _ _ _)
      | (with_reducible exact ih1 _ _ _ _)
      | (with_reducible exact verdererref01_Compare.mono _ _ _ _ _ _ _ _ _)
      | (with_reducible exact LeO.refl _)
      | (with_reducible exact LeO.none _)
      | (with_reducible refine LeO.ite ?_ ?_)
      | (with_reducible refine LeO.bind ?_ (fun _ => ?_))
      | exact ih0 _ _ _
      | exact ih1 _ _ _ _
      | exact verdererref01_Compare.mono _ _ _ _ _ _ _ _ _
      | exact LeO.none _
      | refine LeO.ite ?_ ?_
      | refine LeO.bind ?_ (fun _ => ?_)
theorem verdererref02_Compare.mono : ∀ a0 a1 k,LeO (verdererref02_Compare.f k a0 a1) (verdererref02_Compare.f (k + 1) a0 a1) := by
  intro a0 a1 k
  obtain ⟨ih0,ih1⟩ := verdererref02_Compare.mono_l k
  unfold verdererref02_Compare.f
  repeat' first
      | (with_reducible exact ih0 _ _ _)
      | (with_reducible exact ih1 _ _ _ _)
      | (with_reducible exact verdererref01_Compare.mono _ _ _ _ _ _ _ _ _)
      | (with_reducible exact LeO.refl _)
      | (with_reducible exact LeO.none _)
      | (with_reducible refine LeO.ite ?_ ?_)
      | (with_reducible refine LeO.bind ?_ (fun _ => ?_))
      | exact ih0 _ _ _
      | exact ih1 _ _ _ _
      | exact verdererref01_Compare.mono _ _ _ _ _ _ _ _ _
      | exact LeO.none _
      | refine LeO.ite ?_ ?_
      | refine LeO.bind ?_ (fun _ => ?_)
def verdererref02_Compare.T4 : Bool × List (List Nat × List Nat) := (true,[([],[]),([],[]),([0,1],[0,1]),([2],[2]),([],[]),([],[]),([4,5],[4,5]),([6],[6]),([3,7],[3,7]),([8,8,0,1,2,3,4,5,6,7,8],[8])])
def verdererref02_Compare.B4 : List Nat := [0,0,3,7,0,0,48,112,255,511]
theorem verdererref02_Compare.tab4 : rtab .any (opsOf Try.f22 4) = verdererref02_Compare.T4 := by kernel_rfl
theorem verdererref02_Compare.bits4 : waitsOk verdererref02_Compare.T4.2 verdererref02_Compare.B4 = true := by kernel_rfl
set_option maxHeartbeats 8000000 in
set_option maxRecDepth 100000 in
theorem verdererref02_Compare.calls (k : Nat) (A0 : Option Addr) (c0 : Nat) (l0 : List (S50)) (A1 : Option Addr) (c1 : Nat) (l1 : List (S50)) (r : Int) (w : World) (hr0 : Kd.C k50 w A0 l0.length l0) (hc0 : l0.length ≤ c0) (hr1 : Kd.C k50 w A1 l1.length l1) (hc1 : l1.length ≤ c1) (h : verdererref02_Compare.f k l0 l1 = some r) :
    Calls Try.prog 22 #[.slice A0 l0.length c0,.slice A1 l1.length c1] w fun e w' => e = .returned (.int .i64 r) ∧ Below w.heap.size w w' := by
  have hu50 := Try.underlying50
  have HR0 := Aside0.mk hr0
  have HC0 := Aside0.mk hc0
  clear hr0 hc0
  have HR1 := Aside0.mk hr1
  have HC1 := Aside0.mk hc1
  clear hr1 hc1
  have HB := Aside0.mk (Below.refl w.heap.size w)
  have H : (verdererref02_Compare.l0 k l0 l1 0) = some r := h
  clear h
  have H' := Aside0.mk H
  clear H
  go_enter Try.func22,Try.ntmps22
  go_wp2
  go_loopg [5] k (fun kq v5 w' => ∃ (x5_1 : Int),v5 = .int .i64 x5_1 ∧ Aside0 (verdererref02_Compare.l0 kq l0 l1 x5_1 = some r) ∧ Aside0 (kq ≤ k) ∧ Aside0 (Below w.heap.size w w'))
  case atStart => exact ⟨(0),(by first | rfl | (simp;done) | (simp [*];done)),H',⟨Nat.le_refl _⟩,⟨by repeat (first | (with_reducible first | exact HB.out | apply below_alloc | apply pw_below_drewN | apply below_drew1) | exact HB.out)⟩⟩
  case round =>
    clear H'
    try clear c1
    try clear c2
    try clear p2
    obtain ⟨x5_1,rfl,HA,HK1,HB⟩ := hrel
    cases gk with
    | zero => exact absurd HA.out (by simp [verdererref02_Compare.l0])
    | succ k1 =>
      have H := HA.out
      clear HA
      simp only [verdererref02_Compare.l0] at H
      have HC3 := Aside0.mk H
      clear H
      go_upto_region 2 with (fail)
      go_cut [16] (fun v16 wc => ∃ (kq : Nat) (x16_2 : Bool),v16 = .bool x16_2 ∧ Aside0 (verdererref02_Compare.j1 kq l0 l1 x5_1 x16_2 = some r) ∧ Aside0 (kq ≤ k1) ∧ Aside0 (Below w.heap.size w wc))
      case first =>
        have H := HC3.out
        clear HC3
        by_cases c4 : x5_1 < (l0.length : Int)
        · rw [if_pos c4] at H
          have c4b0 : decide (x5_1 < (l0.length : Int)) = true := decide_eq_true c4
          clear c4
          (first | rw [c4b0] | (simp only [i64_w,i32_w];rw [c4b0]) | skip)
          have H' := Aside0.mk H
          clear H
          go_wp2
          go_meet
          case rel => exact ⟨_,(decide (x5_1 < (l1.length : Int))),(by first | rfl | (simp;done) | (simp [*];done)),H',⟨by have := HK1.out;first | omega | exact Nat.le_refl _⟩,⟨by repeat (first | (with_reducible first | exact HB.out | apply below_alloc | apply pw_below_drewN | apply below_drew1) | exact HB.out)⟩⟩
        · rw [if_neg c4] at H
          have c4b0 : decide (x5_1 < (l0.length : Int)) = false := decide_eq_false c4
          clear c4
          (first | rw [c4b0] | (simp only [i64_w,i32_w];rw [c4b0]) | skip)
          have H' := Aside0.mk H
          clear H
          go_wp2
          go_meet
          case rel => exact ⟨_,(false),(by first | rfl | (simp;done) | (simp [*];done)),H',⟨by have := HK1.out;first | omega | exact Nat.le_refl _⟩,⟨by repeat (first | (with_reducible first | exact HB.out | apply below_alloc | apply pw_below_drewN | apply below_drew1) | exact HB.out)⟩⟩
      case rest =>
        clear HC3
        try clear c1
        try clear c2
        try clear p2
        try clear c4
        try clear c4b0
        try clear p2
        obtain ⟨kq,x16_2,rfl,HA,HJ2,HB⟩ := hcut
        cases kq with
        | zero => exact absurd HA.out (by simp [verdererref02_Compare.j1])
        | succ kj2 =>
          have H := HA.out
          clear HA
          simp only [verdererref02_Compare.j1] at H
          by_cases c5 : x16_2 = true
          · subst c5
            have H1 : (if 0 ≤ x5_1 then (if x5_1 < (l0.length : Int) then (if x5_1 < (l1.length : Int) then ((verdererref01_Compare.f kj2 ((rd_T50 l0 x5_1).f0) ((rd_T50 l0 x5_1).f1) ((rd_T50 l0 x5_1).f2) ((rd_T50 l0 x5_1).f3) ((rd_T50 l1 x5_1).f0) ((rd_T50 l1 x5_1).f1) ((rd_T50 l1 x5_1).f2) ((rd_T50 l1 x5_1).f3)).bind fun t301 => (if t301 = 0 then (verdererref02_Compare.l0 kj2 l0 l1 (wrap64 (x5_1 + 1))) else (some t301))) else (none)) else (none)) else (none)) = some r := by rw [if_pos rfl] at H;exact H
            clear H
            have H := H1
            clear H1
            by_cases c6 : 0 ≤ x5_1
            · rw [if_pos c6] at H
              have c6b0 : decide (0 ≤ x5_1) = true := decide_eq_true c6
              clear c6
              by_cases c7 : x5_1 < (l0.length : Int)
              · rw [if_pos c7] at H
                have c7b0 : decide (x5_1 < (l0.length : Int)) = true := decide_eq_true c7
                clear c7
                by_cases c8 : x5_1 < (l1.length : Int)
                · rw [if_pos c8] at H
                  have c8b0 : decide (x5_1 < (l1.length : Int)) = true := decide_eq_true c8
                  clear c8
                  replace H := Option.bind_eq_some_iff.mp H
                  obtain ⟨t301,A90,H⟩ := H
                  replace H : (if t301 = 0 then (verdererref02_Compare.l0 kj2 l0 l1 (wrap64 (x5_1 + 1))) else (some t301)) = some r := H
                  have A9 := Aside0.mk A90
                  clear A90
                  by_cases c10 : t301 = 0
                  · rw [if_pos c10] at H
                    have c10b0 : (t301 == 0) = true := beq_iff_eq.mpr c10
                    have c10b1 : (t301 != 0) = false := bne_eq_false_iff_eq.mpr c10
                    clear c10
                    have H' := Aside0.mk H
                    clear H
                    try go_wp2
                    have n0_ := Aside0.mk (below_drew1 HB.out)
                    clear HB
                    have HB := n0_
                    clear n0_
                    have p299 : 0 ≤ (x5_1 : Int) := of_decide_eq_true (by first | (with_reducible assumption) | assumption)
                    have q299 : x5_1 < (l0.length : Int) := of_decide_eq_true (by first | (with_reducible assumption) | assumption)
                    obtain ⟨ad299,e299,hx299_0,hx299_1,hx299_2,hx299_3⟩ := at_T50 HR0.out x5_1 p299 q299
                    have hw299_3 := hx299_3
                    have hw299_2 := hx299_2
                    have hw299_1 := hx299_1
                    have hw299_0 := hx299_0
                    cases e299
                    replace hx299_0 := (HB.out.cell (World.block_lt_of_cell? w _ hx299_0)).trans hx299_0
                    replace hx299_1 := (HB.out.cell (World.block_lt_of_cell? w _ hx299_1)).trans hx299_1
                    replace hx299_2 := (HB.out.cell (World.block_lt_of_cell? w _ hx299_2)).trans hx299_2
                    replace hx299_3 := (HB.out.cell (World.block_lt_of_cell? w _ hx299_3)).trans hx299_3
                    replace p299 := eq_true p299
                    replace q299 := eq_true q299
                    have p300 : 0 ≤ (x5_1 : Int) := of_decide_eq_true (by first | (with_reducible assumption) | assumption)
                    have q300 : x5_1 < (l1.length : Int) := of_decide_eq_true (by first | (with_reducible assumption) | assumption)
                    obtain ⟨ad300,e300,hx300_0,hx300_1,hx300_2,hx300_3⟩ := at_T50 HR1.out x5_1 p300 q300
                    have hw300_3 := hx300_3
                    have hw300_2 := hx300_2
                    have hw300_1 := hx300_1
                    have hw300_0 := hx300_0
                    cases e300
                    replace hx300_0 := (HB.out.cell (World.block_lt_of_cell? w _ hx300_0)).trans hx300_0
                    replace hx300_1 := (HB.out.cell (World.block_lt_of_cell? w _ hx300_1)).trans hx300_1
                    replace hx300_2 := (HB.out.cell (World.block_lt_of_cell? w _ hx300_2)).trans hx300_2
                    replace hx300_3 := (HB.out.cell (World.block_lt_of_cell? w _ hx300_3)).trans hx300_3
                    replace p300 := eq_true p300
                    replace q300 := eq_true q300
                    refine start_ (n := 10) (S := fun w' => w'.cell? (ad299.add ((x5_1).toNat * 4)) = some (.int .i64 ((rd_T50 l0 x5_1).f0)) ∧ w'.cell? ⟨(ad299.add ((x5_1).toNat * 4)).block,(ad299.add ((x5_1).toNat * 4)).off + 1,none⟩ = some (.bool ((rd_T50 l0 x5_1).f1)) ∧ w'.cell? ⟨(ad299.add ((x5_1).toNat * 4)).block,(ad299.add ((x5_1).toNat * 4)).off + 2,none⟩ = some (.int .i64 ((rd_T50 l0 x5_1).f2)) ∧ w'.cell? ⟨(ad299.add ((x5_1).toNat * 4)).block,(ad299.add ((x5_1).toNat * 4)).off + 3,none⟩ = some (.string ((rd_T50 l0 x5_1).f3)) ∧ w'.cell? (ad300.add ((x5_1).toNat * 4)) = some (.int .i64 ((rd_T50 l1 x5_1).f0)) ∧ w'.cell? ⟨(ad300.add ((x5_1).toNat * 4)).block,(ad300.add ((x5_1).toNat * 4)).off + 1,none⟩ = some (.bool ((rd_T50 l1 x5_1).f1)) ∧ w'.cell? ⟨(ad300.add ((x5_1).toNat * 4)).block,(ad300.add ((x5_1).toNat * 4)).off + 2,none⟩ = some (.int .i64 ((rd_T50 l1 x5_1).f2)) ∧ w'.cell? ⟨(ad300.add ((x5_1).toNat * 4)).block,(ad300.add ((x5_1).toNat * 4)).off + 3,none⟩ = some (.string ((rd_T50 l1 x5_1).f3))) (ds := []) #[false,false,false,false,false,false,false,false,false,false] (by kernel_rfl) rfl rfl ⟨((HB.out.cell (World.block_lt_of_cell? w _ hw299_0)).trans hw299_0),((HB.out.cell (World.block_lt_of_cell? w _ hw299_1)).trans hw299_1),((HB.out.cell (World.block_lt_of_cell? w _ hw299_2)).trans hw299_2),((HB.out.cell (World.block_lt_of_cell? w _ hw299_3)).trans hw299_3),((HB.out.cell (World.block_lt_of_cell? w _ hw300_0)).trans hw300_0),((HB.out.cell (World.block_lt_of_cell? w _ hw300_1)).trans hw300_1),((HB.out.cell (World.block_lt_of_cell? w _ hw300_2)).trans hw300_2),((HB.out.cell (World.block_lt_of_cell? w _ hw300_3)).trans hw300_3)⟩ (fun hHeld => ?_);refine with_tabW verdererref02_Compare.tab4 verdererref02_Compare.bits4 (fun HT_ HW_ => ?_)
                    generalize wc.drew = w11 at HB hx299_0 hx299_1 hx299_2 hx299_3 hx300_0 hx300_1 hx300_2 hx300_3 hHeld ⊢
                    refine pure_ (i := 0) (N := some 19) (v := ?_) (a' := ?_) #[true,false,false,false,false,false,false,false,false,false] rfl rfl (any_of HT_.out (by kernel_rfl)) (fun _ _ _ h => h) (Or.inl ⟨by rfl,?_⟩) ?_ ?_
                    rotate_left
                    · intro w'
                      go_simp
                      with_reducible rfl
                    rotate_left
                    · simp only [Act.put,zA,zB,zC,i64_w,i32_w]
                      rfl
                    refine pure_ (i := 1) (N := some 20) (v := ?_) (a' := ?_) #[true,true,false,false,false,false,false,false,false,false] rfl rfl (any_of HT_.out (by kernel_rfl)) (fun _ _ _ h => h) (Or.inl ⟨by rfl,?_⟩) ?_ ?_
                    rotate_left
                    · intro w'
                      go_simp
                      with_reducible rfl
                    rotate_left
                    · simp only [Act.put,zA,zB,zC,i64_w,i32_w]
                      rfl
                    refine pure_ (i := 2) (N := some 21) (v := ?_) (a' := ?_) #[true,true,true,false,false,false,false,false,false,false] rfl rfl (any_of HT_.out (by kernel_rfl)) (fun _ _ _ h => h) (Or.inl ⟨by rfl,?_⟩) ?_ ?_
                    rotate_left
                    · intro w'
                      go_simp
                      with_reducible rfl
                    rotate_left
                    · simp only [Act.put,zA,zB,zC,i64_w,i32_w]
                      rfl
                    refine pure_ (i := 4) (N := some 23) (v := ?_) (a' := ?_) #[true,true,true,false,true,false,false,false,false,false] rfl rfl (any_of HT_.out (by kernel_rfl)) (fun _ _ _ h => h) (Or.inl ⟨by rfl,?_⟩) ?_ ?_
                    rotate_left
                    · intro w'
                      go_simp
                      with_reducible rfl
                    rotate_left
                    · simp only [Act.put,zA,zB,zC,i64_w,i32_w]
                      rfl
                    refine pure_ (i := 5) (N := some 24) (v := ?_) (a' := ?_) #[true,true,true,false,true,true,false,false,false,false] rfl rfl (any_of HT_.out (by kernel_rfl)) (fun _ _ _ h => h) (Or.inl ⟨by rfl,?_⟩) ?_ ?_
                    rotate_left
                    · intro w'
                      go_simp
                      with_reducible rfl
                    rotate_left
                    · simp only [Act.put,zA,zB,zC,i64_w,i32_w]
                      rfl
                    refine pure_ (i := 6) (N := some 25) (v := ?_) (a' := ?_) #[true,true,true,false,true,true,true,false,false,false] rfl rfl (any_of HT_.out (by kernel_rfl)) (fun _ _ _ h => h) (Or.inl ⟨by rfl,?_⟩) ?_ ?_
                    rotate_left
                    · intro w'
                      go_simp
                      with_reducible rfl
                    rotate_left
                    · simp only [Act.put,zA,zB,zC,i64_w,i32_w]
                      rfl
                    refine take_ (i := 3) (N := some 22) (v := ?_) (a' := ?_) #[true,true,true,true,true,true,true,false,false,false] rfl rfl (take_ofW HT_.out HW_.out (by kernel_rfl)) (fun _ _ _ h => h) (Or.inl ⟨by rfl,?_⟩) hHeld ?_ ?_
                    rotate_left
                    · rintro w' ⟨s0,s1,s2,s3,s4,s5,s6,s7⟩
                      go_simp
                      with_reducible rfl
                    rotate_left
                    · simp only [Act.put,zA,zB,zC,i64_w,i32_w]
                      rfl
                    refine take_ (i := 7) (N := some 26) (v := ?_) (a' := ?_) #[true,true,true,true,true,true,true,true,false,false] rfl rfl (take_ofW HT_.out HW_.out (by kernel_rfl)) (fun _ _ _ h => h) (Or.inl ⟨by rfl,?_⟩) hHeld ?_ ?_
                    rotate_left
                    · rintro w' ⟨s0,s1,s2,s3,s4,s5,s6,s7⟩
                      go_simp
                      with_reducible rfl
                    rotate_left
                    · simp only [Act.put,zA,zB,zC,i64_w,i32_w]
                      rfl
                    refine one_ (i := 8) (N := some 27) #[true,true,true,true,true,true,true,true,true,false] rfl rfl (one_of HT_.out (by kernel_rfl)) (by decide) (fun K hK => ?_)
                    refine goes_ Try.func49 (by kernel_rfl) rfl #[.agg #[.int .i64 ((rd_T50 l0 x5_1).f0),.bool ((rd_T50 l0 x5_1).f1),.int .i64 ((rd_T50 l0 x5_1).f2),.string ((rd_T50 l0 x5_1).f3)],.agg #[.int .i64 ((rd_T50 l1 x5_1).f0),.bool ((rd_T50 l1 x5_1).f1),.int .i64 ((rd_T50 l1 x5_1).f2),.string ((rd_T50 l1 x5_1).f3)]] (by rfl) rfl rfl (by (try simp only [List.map_toArray,List.map_cons,List.map_nil]);first | done | rfl | (simp only [List.length_drop,List.length_take];rfl)) ?_
                    with_reducible refine (verdererref01_Compare.calls kj2 ((rd_T50 l0 x5_1).f0) ((rd_T50 l0 x5_1).f1) ((rd_T50 l0 x5_1).f2) ((rd_T50 l0 x5_1).f3) ((rd_T50 l1 x5_1).f0) ((rd_T50 l1 x5_1).f1) ((rd_T50 l1 x5_1).f2) ((rd_T50 l1 x5_1).f3) t301 _ A9.out).mono ?_
                    rintro e w12 ⟨rfl,hb⟩
                    refine ⟨_,rfl,?_⟩
                    have n0_ := Aside0.mk (below_step (by repeat (first | (with_reducible first | exact HB.out | apply below_alloc | apply pw_below_drewN | apply below_drew1) | exact HB.out)) hb)
                    clear HB
                    have HB := n0_
                    clear n0_
                    (try clear hb)
                    (try clear hb2)
                    (try clear hk)
                    (try clear hi)
                    refine hK.out _ _ ⟨((HB.out.cell (World.block_lt_of_cell? w _ hw299_0)).trans hw299_0),((HB.out.cell (World.block_lt_of_cell? w _ hw299_1)).trans hw299_1),((HB.out.cell (World.block_lt_of_cell? w _ hw299_2)).trans hw299_2),((HB.out.cell (World.block_lt_of_cell? w _ hw299_3)).trans hw299_3),((HB.out.cell (World.block_lt_of_cell? w _ hw300_0)).trans hw300_0),((HB.out.cell (World.block_lt_of_cell? w _ hw300_1)).trans hw300_1),((HB.out.cell (World.block_lt_of_cell? w _ hw300_2)).trans hw300_2),((HB.out.cell (World.block_lt_of_cell? w _ hw300_3)).trans hw300_3)⟩ (fun hHeld => ?_)
                    clear hK K
                    refine norm_ (a' := ?_) ?_ ?_
                    rotate_left
                    · show Act.put _ (some 27) _ = _
                      simp only [Act.put,zA,zB,zC,i64_w,i32_w]
                      rfl
                    refine pure_ (i := 9) (N := some 6) (v := ?_) (a' := ?_) #[true,true,true,true,true,true,true,true,true,true] rfl rfl (any_of HT_.out (by kernel_rfl)) (fun _ _ _ h => h) (Or.inl ⟨by rfl,?_⟩) ?_ ?_
                    rotate_left
                    · intro w'
                      go_simp
                      with_reducible rfl
                    rotate_left
                    · simp only [Act.put,zA,zB,zC,i64_w,i32_w]
                      rfl
                    refine done_ (done_of HT_.out (by kernel_rfl)) ?_
                    try go_wp2
                    go_roundg kj2
                    case measure => have := HK1.out;have := HJ2.out;omega
                    case rel => exact ⟨(wrap64 (x5_1 + 1)),(by first | rfl | (simp;done) | (simp [*];done)),H',⟨by have := HK1.out;have := HJ2.out;omega⟩,⟨by repeat (first | (with_reducible first | exact HB.out | apply below_alloc | apply pw_below_drewN | apply below_drew1) | exact HB.out)⟩⟩
                  · rw [if_neg c10] at H
                    have c10b0 : (t301 == 0) = false := beq_eq_false_iff_ne.mpr c10
                    have c10b1 : (t301 != 0) = true := bne_iff_ne.mpr c10
                    obtain rfl := Option.some.inj H
                    try go_wp2
                    have n0_ := Aside0.mk (below_drew1 HB.out)
                    clear HB
                    have HB := n0_
                    clear n0_
                    have p299 : 0 ≤ (x5_1 : Int) := of_decide_eq_true (by first | (with_reducible assumption) | assumption)
                    have q299 : x5_1 < (l0.length : Int) := of_decide_eq_true (by first | (with_reducible assumption) | assumption)
                    obtain ⟨ad299,e299,hx299_0,hx299_1,hx299_2,hx299_3⟩ := at_T50 HR0.out x5_1 p299 q299
                    have hw299_3 := hx299_3
                    have hw299_2 := hx299_2
                    have hw299_1 := hx299_1
                    have hw299_0 := hx299_0
                    cases e299
                    replace hx299_0 := (HB.out.cell (World.block_lt_of_cell? w _ hx299_0)).trans hx299_0
                    replace hx299_1 := (HB.out.cell (World.block_lt_of_cell? w _ hx299_1)).trans hx299_1
                    replace hx299_2 := (HB.out.cell (World.block_lt_of_cell? w _ hx299_2)).trans hx299_2
                    replace hx299_3 := (HB.out.cell (World.block_lt_of_cell? w _ hx299_3)).trans hx299_3
                    replace p299 := eq_true p299
                    replace q299 := eq_true q299
                    have p300 : 0 ≤ (x5_1 : Int) := of_decide_eq_true (by first | (with_reducible assumption) | assumption)
                    have q300 : x5_1 < (l1.length : Int) := of_decide_eq_true (by first | (with_reducible assumption) | assumption)
                    obtain ⟨ad300,e300,hx300_0,hx300_1,hx300_2,hx300_3⟩ := at_T50 HR1.out x5_1 p300 q300
                    have hw300_3 := hx300_3
                    have hw300_2 := hx300_2
                    have hw300_1 := hx300_1
                    have hw300_0 := hx300_0
                    cases e300
                    replace hx300_0 := (HB.out.cell (World.block_lt_of_cell? w _ hx300_0)).trans hx300_0
                    replace hx300_1 := (HB.out.cell (World.block_lt_of_cell? w _ hx300_1)).trans hx300_1
                    replace hx300_2 := (HB.out.cell (World.block_lt_of_cell? w _ hx300_2)).trans hx300_2
                    replace hx300_3 := (HB.out.cell (World.block_lt_of_cell? w _ hx300_3)).trans hx300_3
                    replace p300 := eq_true p300
                    replace q300 := eq_true q300
                    refine start_ (n := 10) (S := fun w' => w'.cell? (ad299.add ((x5_1).toNat * 4)) = some (.int .i64 ((rd_T50 l0 x5_1).f0)) ∧ w'.cell? ⟨(ad299.add ((x5_1).toNat * 4)).block,(ad299.add ((x5_1).toNat * 4)).off + 1,none⟩ = some (.bool ((rd_T50 l0 x5_1).f1)) ∧ w'.cell? ⟨(ad299.add ((x5_1).toNat * 4)).block,(ad299.add ((x5_1).toNat * 4)).off + 2,none⟩ = some (.int .i64 ((rd_T50 l0 x5_1).f2)) ∧ w'.cell? ⟨(ad299.add ((x5_1).toNat * 4)).block,(ad299.add ((x5_1).toNat * 4)).off + 3,none⟩ = some (.string ((rd_T50 l0 x5_1).f3)) ∧ w'.cell? (ad300.add ((x5_1).toNat * 4)) = some (.int .i64 ((rd_T50 l1 x5_1).f0)) ∧ w'.cell? ⟨(ad300.add ((x5_1).toNat * 4)).block,(ad300.add ((x5_1).toNat * 4)).off + 1,none⟩ = some (.bool ((rd_T50 l1 x5_1).f1)) ∧ w'.cell? ⟨(ad300.add ((x5_1).toNat * 4)).block,(ad300.add ((x5_1).toNat * 4)).off + 2,none⟩ = some (.int .i64 ((rd_T50 l1 x5_1).f2)) ∧ w'.cell? ⟨(ad300.add ((x5_1).toNat * 4)).block,(ad300.add ((x5_1).toNat * 4)).off + 3,none⟩ = some (.string ((rd_T50 l1 x5_1).f3))) (ds := []) #[false,false,false,false,false,false,false,false,false,false] (by kernel_rfl) rfl rfl ⟨((HB.out.cell (World.block_lt_of_cell? w _ hw299_0)).trans hw299_0),((HB.out.cell (World.block_lt_of_cell? w _ hw299_1)).trans hw299_1),((HB.out.cell (World.block_lt_of_cell? w _ hw299_2)).trans hw299_2),((HB.out.cell (World.block_lt_of_cell? w _ hw299_3)).trans hw299_3),((HB.out.cell (World.block_lt_of_cell? w _ hw300_0)).trans hw300_0),((HB.out.cell (World.block_lt_of_cell? w _ hw300_1)).trans hw300_1),((HB.out.cell (World.block_lt_of_cell? w _ hw300_2)).trans hw300_2),((HB.out.cell (World.block_lt_of_cell? w _ hw300_3)).trans hw300_3)⟩ (fun hHeld => ?_);refine with_tabW verdererref02_Compare.tab4 verdererref02_Compare.bits4 (fun HT_ HW_ => ?_)
                    generalize wc.drew = w13 at HB hx299_0 hx299_1 hx299_2 hx299_3 hx300_0 hx300_1 hx300_2 hx300_3 hHeld ⊢
                    refine pure_ (i := 0) (N := some 19) (v := ?_) (a' := ?_) #[true,false,false,false,false,false,false,false,false,false] rfl rfl (any_of HT_.out (by kernel_rfl)) (fun _ _ _ h => h) (Or.inl ⟨by rfl,?_⟩) ?_ ?_
                    rotate_left
                    · intro w'
                      go_simp
                      with_reducible rfl
                    rotate_left
                    · simp only [Act.put,zA,zB,zC,i64_w,i32_w]
                      rfl
                    refine pure_ (i := 1) (N := some 20) (v := ?_) (a' := ?_) #[true,true,false,false,false,false,false,false,false,false] rfl rfl (any_of HT_.out (by kernel_rfl)) (fun _ _ _ h => h) (Or.inl ⟨by rfl,?_⟩) ?_ ?_
                    rotate_left
                    · intro w'
                      go_simp
                      with_reducible rfl
                    rotate_left
                    · simp only [Act.put,zA,zB,zC,i64_w,i32_w]
                      rfl
                    refine pure_ (i := 2) (N := some 21) (v := ?_) (a' := ?_) #[true,true,true,false,false,false,false,false,false,false] rfl rfl (any_of HT_.out (by kernel_rfl)) (fun _ _ _ h => h) (Or.inl ⟨by rfl,?_⟩) ?_ ?_
                    rotate_left
                    · intro w'
                      go_simp
                      with_reducible rfl
                    rotate_left
                    · simp only [Act.put,zA,zB,zC,i64_w,i32_w]
                      rfl
                    refine pure_ (i := 4) (N := some 23) (v := ?_) (a' := ?_) #[true,true,true,false,true,false,false,false,false,false] rfl rfl (any_of HT_.out (by kernel_rfl)) (fun _ _ _ h => h) (Or.inl ⟨by rfl,?_⟩) ?_ ?_
                    rotate_left
                    · intro w'
                      go_simp
                      with_reducible rfl
                    rotate_left
                    · simp only [Act.put,zA,zB,zC,i64_w,i32_w]
                      rfl
                    refine pure_ (i := 5) (N := some 24) (v := ?_) (a' := ?_) #[true,true,true,false,true,true,false,false,false,false] rfl rfl (any_of HT_.out (by kernel_rfl)) (fun _ _ _ h => h) (Or.inl ⟨by rfl,?_⟩) ?_ ?_
                    rotate_left
                    · intro w'
                      go_simp
                      with_reducible rfl
                    rotate_left
                    · simp only [Act.put,zA,zB,zC,i64_w,i32_w]
                      rfl
                    refine pure_ (i := 6) (N := some 25) (v := ?_) (a' := ?_) #[true,true,true,false,true,true,true,false,false,false] rfl rfl (any_of HT_.out (by kernel_rfl)) (fun _ _ _ h => h) (Or.inl ⟨by rfl,?_⟩) ?_ ?_
                    rotate_left
                    · intro w'
                      go_simp
                      with_reducible rfl
                    rotate_left
                    · simp only [Act.put,zA,zB,zC,i64_w,i32_w]
                      rfl
                    refine take_ (i := 3) (N := some 22) (v := ?_) (a' := ?_) #[true,true,true,true,true,true,true,false,false,false] rfl rfl (take_ofW HT_.out HW_.out (by kernel_rfl)) (fun _ _ _ h => h) (Or.inl ⟨by rfl,?_⟩) hHeld ?_ ?_
                    rotate_left
                    · rintro w' ⟨s0,s1,s2,s3,s4,s5,s6,s7⟩
                      go_simp
                      with_reducible rfl
                    rotate_left
                    · simp only [Act.put,zA,zB,zC,i64_w,i32_w]
                      rfl
                    refine take_ (i := 7) (N := some 26) (v := ?_) (a' := ?_) #[true,true,true,true,true,true,true,true,false,false] rfl rfl (take_ofW HT_.out HW_.out (by kernel_rfl)) (fun _ _ _ h => h) (Or.inl ⟨by rfl,?_⟩) hHeld ?_ ?_
                    rotate_left
                    · rintro w' ⟨s0,s1,s2,s3,s4,s5,s6,s7⟩
                      go_simp
                      with_reducible rfl
                    rotate_left
                    · simp only [Act.put,zA,zB,zC,i64_w,i32_w]
                      rfl
                    refine one_ (i := 8) (N := some 27) #[true,true,true,true,true,true,true,true,true,false] rfl rfl (one_of HT_.out (by kernel_rfl)) (by decide) (fun K hK => ?_)
                    refine goes_ Try.func49 (by kernel_rfl) rfl #[.agg #[.int .i64 ((rd_T50 l0 x5_1).f0),.bool ((rd_T50 l0 x5_1).f1),.int .i64 ((rd_T50 l0 x5_1).f2),.string ((rd_T50 l0 x5_1).f3)],.agg #[.int .i64 ((rd_T50 l1 x5_1).f0),.bool ((rd_T50 l1 x5_1).f1),.int .i64 ((rd_T50 l1 x5_1).f2),.string ((rd_T50 l1 x5_1).f3)]] (by rfl) rfl rfl (by (try simp only [List.map_toArray,List.map_cons,List.map_nil]);first | done | rfl | (simp only [List.length_drop,List.length_take];rfl)) ?_
                    with_reducible refine (verdererref01_Compare.calls kj2 ((rd_T50 l0 x5_1).f0) ((rd_T50 l0 x5_1).f1) ((rd_T50 l0 x5_1).f2) ((rd_T50 l0 x5_1).f3) ((rd_T50 l1 x5_1).f0) ((rd_T50 l1 x5_1).f1) ((rd_T50 l1 x5_1).f2) ((rd_T50 l1 x5_1).f3) t301 _ A9.out).mono ?_
                    rintro e w14 ⟨rfl,hb⟩
                    refine ⟨_,rfl,?_⟩
                    have n0_ := Aside0.mk (below_step (by repeat (first | (with_reducible first | exact HB.out | apply below_alloc | apply pw_below_drewN | apply below_drew1) | exact HB.out)) hb)
                    clear HB
                    have HB := n0_
                    clear n0_
                    (try clear hb)
                    (try clear hb2)
                    (try clear hk)
                    (try clear hi)
                    refine hK.out _ _ ⟨((HB.out.cell (World.block_lt_of_cell? w _ hw299_0)).trans hw299_0),((HB.out.cell (World.block_lt_of_cell? w _ hw299_1)).trans hw299_1),((HB.out.cell (World.block_lt_of_cell? w _ hw299_2)).trans hw299_2),((HB.out.cell (World.block_lt_of_cell? w _ hw299_3)).trans hw299_3),((HB.out.cell (World.block_lt_of_cell? w _ hw300_0)).trans hw300_0),((HB.out.cell (World.block_lt_of_cell? w _ hw300_1)).trans hw300_1),((HB.out.cell (World.block_lt_of_cell? w _ hw300_2)).trans hw300_2),((HB.out.cell (World.block_lt_of_cell? w _ hw300_3)).trans hw300_3)⟩ (fun hHeld => ?_)
                    clear hK K
                    refine norm_ (a' := ?_) ?_ ?_
                    rotate_left
                    · show Act.put _ (some 27) _ = _
                      simp only [Act.put,zA,zB,zC,i64_w,i32_w]
                      rfl
                    refine pure_ (i := 9) (N := some 6) (v := ?_) (a' := ?_) #[true,true,true,true,true,true,true,true,true,true] rfl rfl (any_of HT_.out (by kernel_rfl)) (fun _ _ _ h => h) (Or.inl ⟨by rfl,?_⟩) ?_ ?_
                    rotate_left
                    · intro w'
                      go_simp
                      with_reducible rfl
                    rotate_left
                    · simp only [Act.put,zA,zB,zC,i64_w,i32_w]
                      rfl
                    refine done_ (done_of HT_.out (by kernel_rfl)) ?_
                    try go_wp2
                    go_ret
                    exact ⟨by first | rfl | (simp [errW_none,errW_some] <;> rfl) | (simp [*,errW_none,errW_some] <;> rfl),by repeat (first | (with_reducible first | exact HB.out | apply below_alloc | apply pw_below_drewN | apply below_drew1) | exact HB.out)⟩
                · rw [if_neg c8] at H
                  exact absurd H (by simp)
              · rw [if_neg c7] at H
                exact absurd H (by simp)
            · rw [if_neg c6] at H
              exact absurd H (by simp)
          · replace c5 := Bool.eq_false_iff.mpr c5
            subst c5
            have H1 : (if (l0.length : Int) < (l1.length : Int) then (some (-1)) else (if (l0.length : Int) > (l1.length : Int) then (some 1) else (some 0))) = some r := by rw [if_neg (show ¬ (false = true) by decide)] at H;exact H
            clear H
            have H := H1
            clear H1
            by_cases c15 : (l0.length : Int) < (l1.length : Int)
            · rw [if_pos c15] at H
              have c15b0 : decide ((l0.length : Int) < (l1.length : Int)) = true := decide_eq_true c15
              have c15b1 : decide (l0.length < l1.length) = true := decide_eq_true (Int.ofNat_lt.mp c15)
              clear c15
              obtain rfl := Option.some.inj H
              go_wp2
              go_ret
              exact ⟨by first | rfl | (simp [errW_none,errW_some] <;> rfl) | (simp [*,errW_none,errW_some] <;> rfl),by repeat (first | (with_reducible first | exact HB.out | apply below_alloc | apply pw_below_drewN | apply below_drew1) | exact HB.out)⟩
            · rw [if_neg c15] at H
              have c15b0 : decide ((l0.length : Int) < (l1.length : Int)) = false := decide_eq_false c15
              have c15b1 : decide (l0.length < l1.length) = false := decide_eq_false (fun h => c15 (Int.ofNat_lt.mpr h))
              clear c15
              by_cases c16 : (l0.length : Int) > (l1.length : Int)
              · rw [if_pos c16] at H
                have c16b0 : decide ((l1.length : Int) < (l0.length : Int)) = true := decide_eq_true c16
                have c16b1 : decide (l1.length < l0.length) = true := decide_eq_true (Int.ofNat_lt.mp c16)
                clear c16
                obtain rfl := Option.some.inj H
                go_wp2
                go_ret
                exact ⟨by first | rfl | (simp [errW_none,errW_some] <;> rfl) | (simp [*,errW_none,errW_some] <;> rfl),by repeat (first | (with_reducible first | exact HB.out | apply below_alloc | apply pw_below_drewN | apply below_drew1) | exact HB.out)⟩
              · rw [if_neg c16] at H
                have c16b0 : decide ((l1.length : Int) < (l0.length : Int)) = false := decide_eq_false c16
                have c16b1 : decide (l1.length < l0.length) = false := decide_eq_false (fun h => c16 (Int.ofNat_lt.mpr h))
                clear c16
                obtain rfl := Option.some.inj H
                go_wp2
                go_ret
                exact ⟨by first | rfl | (simp [errW_none,errW_some] <;> rfl) | (simp [*,errW_none,errW_some] <;> rfl),by repeat (first | (with_reducible first | exact HB.out | apply below_alloc | apply pw_below_drewN | apply below_drew1) | exact HB.out)⟩
end Go.Proofs.Ytfoaeigoajooeaa.Z
/- Comparisons: what goes ahead of what,plain. -/
namespace Go.Proofs.Ytfoaeigoajooeaa.Cmp
structure CmpLaw {α : Type} (c : α → α → Int) : Prop where
  lo : ∀ a b,-1 ≤ c a b
  anti : ∀ a b,c b a = - c a b
  le : ∀ a b d,c a b ≤ 0 → c b d ≤ 0 → c a d ≤ 0
variable {α : Type} {c : α → α → Int}
theorem CmpLaw.hi (h : CmpLaw c) (a b : α) : c a b ≤ 1 := by have := h.lo b a;have := h.anti b a;omega
theorem CmpLaw.self (h : CmpLaw c) (a : α) : c a a = 0 := by have := h.anti a a;omega
theorem CmpLaw.lt_le (h : CmpLaw c) {a b d : α} (h1 : c a b < 0) (h2 : c b d ≤ 0) : c a d < 0 := by
  have h3 := h.le a b d (by omega) h2
  rcases Int.lt_or_eq_of_le h3 with h4 | h4
  · exact h4
  · have h5 := h.anti a d
    have h6 := h.le b d a h2 (by omega)
    have h7 := h.anti a b
    omega
theorem CmpLaw.le_lt (h : CmpLaw c) {a b d : α} (h1 : c a b ≤ 0) (h2 : c b d < 0) : c a d < 0 := by
  have h3 := h.le a b d h1 (by omega)
  rcases Int.lt_or_eq_of_le h3 with h4 | h4
  · exact h4
  · have h5 := h.anti a d
    have h6 := h.le d a b (by omega) h1
    have h7 := h.anti b d
    omega
theorem CmpLaw.eq_left (h : CmpLaw c) {a b : α} (d : α) (h1 : c a b = 0) : c a d = c b d := by
  have a1 := h.anti a b
  have lo1 := h.lo a d
  have hi1 := h.hi a d
  have lo2 := h.lo b d
  have hi2 := h.hi b d
  rcases Int.lt_trichotomy (c b d) 0 with h2 | h2 | h2
  · have := h.le_lt (a := a) (b := b) (d := d) (by omega) h2
    omega
  · have h3 := h.le a b d (by omega) (by omega)
    have h4 := h.le d b a (by have := h.anti b d;omega) (by omega)
    have := h.anti a d
    omega
  · have h3 : c d b < 0 := by have := h.anti b d;omega
    have := h.lt_le h3 (show c b a ≤ 0 by omega)
    have := h.anti a d
    omega
theorem CmpLaw.eq_right (h : CmpLaw c) (d : α) {a b : α} (h1 : c a b = 0) : c d a = c d b := by
  have h2 := h.eq_left d h1
  have h3 := h.anti a d
  have h4 := h.anti b d
  omega
theorem CmpLaw.eq_trans (h : CmpLaw c) {a b d : α} (h1 : c a b = 0) (h2 : c b d = 0) : c a d = 0 := by rw [h.eq_left d h1];exact h2
def cmpI (a b : Int) : Int := if a < b then -1 else if b < a then 1 else 0
theorem cmpI_law : CmpLaw cmpI := by
  refine ⟨fun a b => ?_,fun a b => ?_,fun a b d h1 h2 => ?_⟩ <;> unfold cmpI at * <;> repeat' split at * <;> omega
theorem cmpI_eq {a b : Int} : cmpI a b = 0 ↔ a = b := by unfold cmpI;repeat' split <;> omega
theorem CmpLaw.on {β : Type} (f : β → α) (h : CmpLaw c) : CmpLaw (fun x y => c (f x) (f y)) := ⟨fun _ _ => h.lo _ _,fun _ _ => h.anti _ _,fun _ _ _ => h.le _ _ _⟩
theorem cmpLaw_zero : CmpLaw (fun _ _ : α => (0 : Int)) := ⟨fun _ _ => by omega,fun _ _ => rfl,fun _ _ _ _ _ => by omega⟩
/-- First by one comparison,then by another one. -/
def andThenC (c d : α → α → Int) (a b : α) : Int := if c a b = 0 then d a b else c a b
theorem CmpLaw.andThen {d : α → α → Int} (hc : CmpLaw c) (hd : CmpLaw d) : CmpLaw (andThenC c d) := by
  refine ⟨fun a b => ?_,fun a b => ?_,fun a b e h1 h2 => ?_⟩
  · unfold andThenC;split
    · exact hd.lo a b
    · exact hc.lo a b
  · unfold andThenC
    have h1 := hc.anti a b
    have h2 := hd.anti a b
    by_cases h : c a b = 0
    · rw [if_pos h,if_pos (by omega)];exact h2
    · rw [if_neg h,if_neg (by omega)];exact h1
  · unfold andThenC at *
    by_cases ha : c a b = 0
    · rw [if_pos ha] at h1
      rw [hc.eq_left e ha]
      by_cases hb : c b e = 0
      · rw [if_pos hb] at h2 ⊢
        exact hd.le _ _ _ h1 h2
      · rw [if_neg hb] at h2 ⊢
        exact h2
    · rw [if_neg ha] at h1
      have h3 : c b e ≤ 0 := by
        by_cases hb : c b e = 0
        · omega
        · rw [if_neg hb] at h2;exact h2
      have h4 := hc.lt_le (show c a b < 0 by omega) h3
      rw [if_neg (by omega)]
      omega
/-- Lists,element by element. -/
def lexC (c : α → α → Int) : List α → List α → Int
  | [],[] => 0
  | [],_ :: _ => -1
  | _ :: _,[] => 1
  | a :: as_,b :: bs => if c a b = 0 then lexC c as_ bs else c a b
theorem lexC_law (h : CmpLaw c) : CmpLaw (lexC c) := by
  have lo : ∀ a b,-1 ≤ lexC c a b := by
    intro a
    induction a with
    | nil => intro b;cases b <;> simp [lexC]
    | cons x a ih =>
      intro b
      cases b with
      | nil => simp [lexC]
      | cons y b =>
        simp only [lexC]
        split
        · exact ih b
        · exact h.lo x y
  have anti : ∀ a b,lexC c b a = - lexC c a b := by
    intro a
    induction a with
    | nil => intro b;cases b <;> simp [lexC]
    | cons x a ih =>
      intro b
      cases b with
      | nil => simp [lexC]
      | cons y b =>
        simp only [lexC]
        have h1 := h.anti x y
        by_cases h0 : c x y = 0
        · rw [if_pos h0,if_pos (by omega)];exact ih b
        · rw [if_neg h0,if_neg (by omega)];exact h1
  refine ⟨lo,anti,?_⟩
  intro a
  induction a with
  | nil =>
    intro b d h1 h2
    cases d with
    | nil => simp [lexC]
    | cons => simp [lexC]
  | cons x a ih =>
    intro b d h1 h2
    cases b with
    | nil => simp [lexC] at h1
    | cons y b =>
      cases d with
      | nil => simp [lexC] at h2
      | cons z d =>
        simp only [lexC] at h1 h2 ⊢
        by_cases hxy : c x y = 0
        · rw [if_pos hxy] at h1
          rw [h.eq_left z hxy]
          by_cases hyz : c y z = 0
          · rw [if_pos hyz] at h2 ⊢
            exact ih b d h1 h2
          · rw [if_neg hyz] at h2 ⊢
            exact h2
        · rw [if_neg hxy] at h1
          have h3 : c y z ≤ 0 := by
            by_cases hyz : c y z = 0
            · omega
            · rw [if_neg hyz] at h2;exact h2
          have h4 := h.lt_le (show c x y < 0 by omega) h3
          rw [if_neg (by omega)]
          omega
theorem lexC_eq (hc : ∀ a b,c a b = 0 → a = b) : ∀ a b,lexC c a b = 0 → a = b := by
  intro a
  induction a with
  | nil => intro b h;cases b with | nil => rfl | cons => simp [lexC] at h
  | cons x a ih =>
    intro b h
    cases b with
    | nil => simp [lexC] at h
    | cons y b =>
      simp only [lexC] at h
      by_cases h0 : c x y = 0
      · rw [if_pos h0] at h
        rw [hc _ _ h0,ih _ h]
      · rw [if_neg h0] at h
        exact absurd h h0
/-- Bytes. -/
def cmpB (a b : List UInt8) : Int := lexC (fun x y : UInt8 => cmpI x.toNat y.toNat) a b
theorem cmpB_law : CmpLaw cmpB := lexC_law (cmpI_law.on fun x : UInt8 => (x.toNat : Int))
theorem cmpB_eq {a b : List UInt8} (h : cmpB a b = 0) : a = b := lexC_eq (fun x y hxy => by have := cmpI_eq.1 hxy;exact UInt8.toNat_inj.1 (by omega)) a b h
theorem compareBytes_eq (a b : List UInt8) : Lib.compareBytes a b = cmpB a b := by
  unfold cmpB
  induction a generalizing b with
  | nil => cases b <;> rfl
  | cons x a ih =>
    cases b with
    | nil => rfl
    | cons y b =>
      have e : lexC (fun x y : UInt8 => cmpI x.toNat y.toNat) (x :: a) (y :: b) = if cmpI x.toNat y.toNat = 0 then lexC (fun x y : UInt8 => cmpI x.toNat y.toNat) a b else cmpI x.toNat y.toNat := rfl
      rw [e,← ih b]
      simp only [Lib.compareBytes,UInt8.lt_iff_toNat_lt]
      by_cases h1 : x.toNat < y.toNat
      · have h3 : cmpI x.toNat y.toNat = -1 := by unfold cmpI;rw [if_pos (by omega)]
        rw [if_pos h1,h3,if_neg (by omega)]
      · by_cases h2 : y.toNat < x.toNat
        · have h3 : cmpI x.toNat y.toNat = 1 := by unfold cmpI;rw [if_neg (by omega),if_pos (by omega)]
          rw [if_neg h1,if_pos h2,h3,if_neg (by omega)]
        · have h3 : cmpI x.toNat y.toNat = 0 := by unfold cmpI;rw [if_neg (by omega),if_neg (by omega)]
          rw [if_neg h1,if_neg h2,h3,if_pos rfl]
end Go.Proofs.Ytfoaeigoajooeaa.Cmp
/- Values and rows in their order: what value.Compare and row.Compare answer. -/
namespace Go.Proofs.Ytfoaeigoajooeaa.Z
open Go.RowKit Go.Proofs.YtfoaeigoajooeaaW.PrintWords Go.Proofs.YtfoaeigoajooeaaW.PrintLast Go.Proofs.YtfoaeigoajooeaaW.PrintMore Go.Proofs.Ytfoaeigoajooeaa.Cmp
theorem wrap_id {x : Int} (h0 : -9223372036854775808 ≤ x) (h1 : x ≤ 9223372036854775807) : wrap64 x = x := by unfold wrap64;omega
theorem wrap_succ {n : Nat} {m : Nat} (h : n < m) (hm : m ≤ 9223372036854775807) : wrap64 ((n : Int) + 1) = ((n + 1 : Nat) : Int) := by rw [wrap_id (by omega) (by omega)];omega
def b2i (b : Bool) : Int := if b then 1 else 0
def kcmp (a b : S50) : Int := if a.f0 = 1 then cmpI (b2i a.f1) (b2i b.f1) else if a.f0 = 2 then cmpI a.f2 b.f2 else if a.f0 = 3 then cmpB a.f3.data.toList b.f3.data.toList else 0
def vcmp (a b : S50) : Int := if a.f0 = b.f0 then kcmp a b else cmpI a.f0 b.f0
theorem vcmp_law : CmpLaw vcmp := by
  have anti : ∀ a b,vcmp b a = - vcmp a b := by
    intro a b
    unfold vcmp
    by_cases h : a.f0 = b.f0
    · rw [if_pos h,if_pos h.symm]
      unfold kcmp
      rw [← h]
      by_cases h1 : a.f0 = 1
      · rw [if_pos h1,if_pos h1];exact cmpI_law.anti _ _
      · by_cases h2 : a.f0 = 2
        · rw [if_neg h1,if_neg h1,if_pos h2,if_pos h2];exact cmpI_law.anti _ _
        · by_cases h3 : a.f0 = 3
          · rw [if_neg h1,if_neg h1,if_neg h2,if_neg h2,if_pos h3,if_pos h3];exact cmpB_law.anti _ _
          · rw [if_neg h1,if_neg h1,if_neg h2,if_neg h2,if_neg h3,if_neg h3];rfl
    · rw [if_neg h,if_neg (fun e => h e.symm)];exact cmpI_law.anti _ _
  refine ⟨fun a b => ?_,anti,fun a b d h1 h2 => ?_⟩
  · unfold vcmp kcmp
    repeat' split
    all_goals first | exact cmpI_law.lo _ _ | exact cmpB_law.lo _ _ | omega
  · unfold vcmp at *
    by_cases hab : a.f0 = b.f0
    · rw [if_pos hab] at h1
      by_cases hbd : b.f0 = d.f0
      · rw [if_pos hbd] at h2
        rw [if_pos (hab.trans hbd)]
        unfold kcmp at *
        rw [← hab] at h2
        by_cases k1 : a.f0 = 1
        · rw [if_pos k1] at h1 h2 ⊢;exact cmpI_law.le _ _ _ h1 h2
        · by_cases k2 : a.f0 = 2
          · rw [if_neg k1,if_pos k2] at h1 h2 ⊢;exact cmpI_law.le _ _ _ h1 h2
          · by_cases k3 : a.f0 = 3
            · rw [if_neg k1,if_neg k2,if_pos k3] at h1 h2 ⊢;exact cmpB_law.le _ _ _ h1 h2
            · rw [if_neg k1,if_neg k2,if_neg k3];omega
      · rw [if_neg hbd] at h2
        rw [if_neg (fun e => hbd (hab.symm.trans e)),hab]
        exact h2
    · rw [if_neg hab] at h1
      by_cases hbd : b.f0 = d.f0
      · rw [if_neg (fun e => hab (e.trans hbd.symm)),← hbd]
        exact h1
      · rw [if_neg hbd] at h2
        have n1 : cmpI a.f0 b.f0 ≠ 0 := fun e => hab (cmpI_eq.1 e)
        have h3 := cmpI_law.lt_le (show cmpI a.f0 b.f0 < 0 by omega) h2
        rw [if_neg (fun e => by have := cmpI_eq.2 e;omega)]
        omega
def rcmp (a b : List S50) : Int := lexC vcmp a b
theorem rcmp_law : CmpLaw rcmp := lexC_law vcmp_law
theorem isNaN_f (x : Int) : cmp_isNaN_70.f x = some false := by unfold cmp_isNaN_70.f;simp
theorem isNaN_g (x : Int) : cmp_isNaN_71.f x = some false := by unfold cmp_isNaN_71.f;simp
theorem cmp_f (a b : Int) : cmp_Compare_63.f a b = some (cmpI a b) := by
  unfold cmp_Compare_63.f cmpI
  rw [isNaN_f,isNaN_f]
  simp only [Option.bind_some,Bool.false_eq_true,if_false,gt_iff_lt]
  repeat' split
  all_goals first | rfl | omega
theorem cmp_g (a b : Int) : cmp_Compare_65.f a b = some (cmpI a b) := by
  unfold cmp_Compare_65.f cmpI
  rw [isNaN_g,isNaN_g]
  simp only [Option.bind_some,Bool.false_eq_true,if_false,gt_iff_lt]
  repeat' split
  all_goals first | rfl | omega
theorem truth_f (b : Bool) : value_truth.f b = some (b2i b) := by cases b <;> rfl
theorem vcmp_f (a b : S50) : value_Compare.f a.f0 a.f1 a.f2 a.f3 b.f0 b.f1 b.f2 b.f3 = some (vcmp a b) := by
  unfold value_Compare.f vcmp kcmp
  rw [truth_f,truth_f,cmp_g]
  simp only [Option.bind_some,cmp_f,strings_Compare.f,compareBytes_eq]
  repeat' split
  all_goals rfl
theorem rd_nat (xs : List S50) (i : Nat) : rd_T50 xs (i : Int) = xs.getD i z50 := rfl
theorem rd_get {xs : List S50} {i : Nat} (h : i < xs.length) : rd_T50 xs (i : Int) = xs[i] := by rw [rd_nat];simp [List.getD,List.getElem?_eq_getElem h]
theorem drop_rd {xs : List S50} {i : Nat} (h : i < xs.length) : xs.drop i = rd_T50 xs (i : Int) :: xs.drop (i + 1) := by rw [rd_get h];exact List.drop_eq_getElem_cons h
theorem compareFunc_l0 (x0 x1 : List S50) (hl : x0.length ≤ 9223372036854775807) : ∀ d i k,x0.length - i = d → i ≤ x0.length → i ≤ x1.length → d < k → slices_CompareFunc.l0 k x0 x1 x0 (x0.length : Int) (i : Int) = some (rcmp (x0.drop i) (x1.drop i)) := by
  intro d
  induction d with
  | zero =>
    intro i k hd hi hi1 hk
    obtain ⟨k,rfl⟩ : ∃ m,k = m + 1 := ⟨k - 1,by omega⟩
    simp only [slices_CompareFunc.l0]
    rw [if_neg (by omega)]
    have e0 : x0.drop i = [] := List.drop_eq_nil_of_le (by omega)
    rw [e0]
    by_cases h : i < x1.length
    · rw [if_pos (by omega),drop_rd h];rfl
    · rw [if_neg (by omega),List.drop_eq_nil_of_le (by omega)];rfl
  | succ d ih =>
    intro i k hd hi hi1 hk
    obtain ⟨k,rfl⟩ : ∃ m,k = m + 1 := ⟨k - 1,by omega⟩
    have hlt : i < x0.length := by omega
    simp only [slices_CompareFunc.l0]
    rw [if_pos (by omega),if_pos (by omega),if_pos (by omega),drop_rd hlt]
    by_cases h : i < x1.length
    · rw [if_neg (by omega),if_pos (by omega),vcmp_f,Option.bind_some,drop_rd h]
      by_cases h0 : vcmp (rd_T50 x0 i) (rd_T50 x1 i) = 0
      · rw [if_pos h0,wrap_succ hlt hl,ih (i + 1) k (by omega) (by omega) (by omega) (by omega)]
        simp [rcmp,lexC,h0]
      · rw [if_neg h0]
        simp [rcmp,lexC,h0]
    · rw [if_pos (by omega),List.drop_eq_nil_of_le (show x1.length ≤ i by omega)]
      rfl
theorem rowCompare_f (a b : List S50) (ha : a.length ≤ 9223372036854775807) (k : Nat) (hk : a.length < k) : row_Compare.f k a b = some (rcmp a b) := by
  unfold row_Compare.f slices_CompareFunc.f
  have h := compareFunc_l0 a b ha a.length 0 k (by omega) (by omega) (by omega) hk
  rw [show ((0 : Nat) : Int) = 0 from rfl] at h
  rw [h]
  rfl
end Go.Proofs.Ytfoaeigoajooeaa.Z
/- The document's order of values and rows is the same;rows that are one,cell by cell. -/
namespace Go.Proofs.Ytfoaeigoajooeaa.Z
open Go.RowKit Go.Proofs.YtfoaeigoajooeaaW.PrintWords Go.Proofs.YtfoaeigoajooeaaW.PrintLast Go.Proofs.YtfoaeigoajooeaaW.PrintMore Go.Proofs.Ytfoaeigoajooeaa.Cmp
theorem bt_get {s : ByteArray} {i : Nat} (h : i < s.size) : bt s (i : Int) = ((s.data.toList[i]'(by simpa using h)).toNat : Int) := by
  rw [← bt_at s (i : Int) (by simpa using h)]
  rfl
theorem bytes_drop {s : ByteArray} {i : Nat} (h : i < s.size) : s.data.toList.drop i = s.data.toList[i]'(by simpa using h) :: s.data.toList.drop (i + 1) := List.drop_eq_getElem_cons (by simpa using h)
theorem text_l0 (a b : ByteArray) (ha : a.size ≤ 9223372036854775807) : ∀ d i k,a.size - i = d → i ≤ a.size → i ≤ b.size → 2 * d + 1 < k → verdererref01_Text.l0 k a b (i : Int) = some (cmpB (a.data.toList.drop i) (b.data.toList.drop i)) := by
  intro d
  induction d with
  | zero =>
    intro i k hd hi hib hk
    obtain ⟨k,rfl⟩ : ∃ m,k = m + 2 := ⟨k - 2,by omega⟩
    have e0 : a.data.toList.drop i = [] := List.drop_eq_nil_of_le (by simp;omega)
    simp only [verdererref01_Text.l0]
    rw [if_neg (by omega),e0]
    simp only [verdererref01_Text.j1,Bool.false_eq_true,if_false]
    by_cases h : i < b.size
    · rw [if_pos (by omega),bytes_drop h];rfl
    · rw [if_neg (by omega),if_neg (by omega),List.drop_eq_nil_of_le (by simp;omega)];rfl
  | succ d ih =>
    intro i k hd hi hib hk
    obtain ⟨k,rfl⟩ : ∃ m,k = m + 2 := ⟨k - 2,by omega⟩
    have hlt : i < a.size := by omega
    simp only [verdererref01_Text.l0]
    rw [if_pos (by omega)]
    simp only [verdererref01_Text.j1]
    by_cases h : i < b.size
    · rw [if_pos (decide_eq_true (by omega)),if_pos (by omega),if_pos (by omega),if_pos (by omega),bt_get hlt,bt_get h,bytes_drop hlt,bytes_drop h]
      generalize a.data.toList[i]'(by simpa using hlt) = x
      generalize b.data.toList[i]'(by simpa using h) = y
      have e : cmpB (x :: a.data.toList.drop (i + 1)) (y :: b.data.toList.drop (i + 1)) = if cmpI x.toNat y.toNat = 0 then cmpB (a.data.toList.drop (i + 1)) (b.data.toList.drop (i + 1)) else cmpI x.toNat y.toNat := rfl
      rw [e,wrap_succ hlt ha,ih (i + 1) k (by omega) (by omega) (by omega) (by omega)]
      unfold cmpI
      by_cases h1 : (x.toNat : Int) < y.toNat
      · rw [if_pos h1,if_pos h1,if_neg (by omega)]
      · by_cases h2 : (y.toNat : Int) < x.toNat
        · rw [if_neg h1,if_neg h1,if_pos h2,if_pos h2,if_neg (by omega)]
        · rw [if_neg h1,if_neg h1,if_neg h2,if_neg h2,if_pos rfl]
    · rw [if_neg (by simp;omega),if_neg (by omega),if_pos (by omega),bytes_drop hlt,List.drop_eq_nil_of_le (show b.data.toList.length ≤ i by simp;omega)]
      rfl
theorem text_f (a b : ByteArray) (ha : a.size ≤ 9223372036854775807) (k : Nat) (hk : 2 * a.size + 1 < k) : verdererref01_Text.f k a b = some (cmpB a.data.toList b.data.toList) := by
  have h := text_l0 a b ha a.size 0 k (by omega) (by omega) (by omega) hk
  rw [show ((0 : Nat) : Int) = 0 from rfl] at h
  exact h
theorem vcmp_ref (a b : S50) (ha : a.f3.size ≤ 9223372036854775807) (k : Nat) (hk : 2 * a.f3.size + 1 < k) : verdererref01_Compare.f k a.f0 a.f1 a.f2 a.f3 b.f0 b.f1 b.f2 b.f3 = some (vcmp a b) := by
  unfold verdererref01_Compare.f vcmp
  rw [text_f _ _ ha k hk]
  simp only [Option.bind_some]
  by_cases h1 : a.f0 < b.f0
  · rw [if_pos h1,if_neg (by omega)]
    unfold cmpI
    rw [if_pos h1]
  · by_cases h2 : a.f0 > b.f0
    · rw [if_neg h1,if_pos h2,if_neg (by omega)]
      unfold cmpI
      rw [if_neg h1,if_pos h2]
    · have e : (if a.f0 = b.f0 then kcmp a b else cmpI a.f0 b.f0) = kcmp a b := if_pos (by omega)
      rw [if_neg h1,if_neg h2,e]
      unfold kcmp
      by_cases k1 : a.f0 = 1
      · rw [if_pos k1,if_pos k1]
        cases a.f1 <;> cases b.f1 <;> rfl
      · by_cases k2 : a.f0 = 2
        · rw [if_neg k1,if_pos k2,if_neg k1,if_pos k2]
          unfold cmpI
          repeat' split
          all_goals first | rfl | omega
        · by_cases k3 : a.f0 = 3
          · rw [if_neg k1,if_neg k2,if_pos k3,if_neg k1,if_neg k2,if_pos k3]
          · rw [if_neg k1,if_neg k2,if_neg k3,if_neg k1,if_neg k2,if_neg k3]
theorem refCompare_l0 (x0 x1 : List S50) (hl : x0.length ≤ 9223372036854775807) (M : Nat) (hM : ∀ x ∈ x0,x.f3.size ≤ M) (hM2 : M ≤ 9223372036854775807) : ∀ d i k,x0.length - i = d → i ≤ x0.length → i ≤ x1.length → 2 * d + 2 * M + 3 < k → verdererref02_Compare.l0 k x0 x1 (i : Int) = some (rcmp (x0.drop i) (x1.drop i)) := by
  intro d
  induction d with
  | zero =>
    intro i k hd hi hib hk
    obtain ⟨k,rfl⟩ : ∃ m,k = m + 2 := ⟨k - 2,by omega⟩
    simp only [verdererref02_Compare.l0]
    rw [if_neg (by omega),List.drop_eq_nil_of_le (show x0.length ≤ i by omega)]
    simp only [verdererref02_Compare.j1,Bool.false_eq_true,if_false]
    by_cases h : i < x1.length
    · rw [if_pos (by omega),drop_rd h];rfl
    · rw [if_neg (by omega),if_neg (by omega),List.drop_eq_nil_of_le (by omega)];rfl
  | succ d ih =>
    intro i k hd hi hib hk
    obtain ⟨k,rfl⟩ : ∃ m,k = m + 2 := ⟨k - 2,by omega⟩
    have hlt : i < x0.length := by omega
    simp only [verdererref02_Compare.l0]
    rw [if_pos (by omega)]
    simp only [verdererref02_Compare.j1]
    have hx : (rd_T50 x0 (i : Int)).f3.size ≤ M := by rw [rd_get hlt];exact hM _ (List.getElem_mem hlt)
    by_cases h : i < x1.length
    · rw [if_pos (decide_eq_true (by omega)),if_pos (by omega),if_pos (by omega),if_pos (by omega),vcmp_ref _ _ (by omega) k (by omega),Option.bind_some,drop_rd hlt,drop_rd h]
      by_cases h0 : vcmp (rd_T50 x0 i) (rd_T50 x1 i) = 0
      · rw [if_pos h0,wrap_succ hlt hl,ih (i + 1) k (by omega) (by omega) (by omega) (by omega)]
        simp [rcmp,lexC,h0]
      · rw [if_neg h0]
        simp [rcmp,lexC,h0]
    · rw [if_neg (by simp;omega),if_neg (by omega),if_pos (by omega),drop_rd hlt,List.drop_eq_nil_of_le (show x1.length ≤ i by omega)]
      rfl
theorem refCompare_f (a b : List S50) (ha : a.length ≤ 9223372036854775807) (M : Nat) (hM : ∀ x ∈ a,x.f3.size ≤ M) (hM2 : M ≤ 9223372036854775807) (k : Nat) (hk : 2 * a.length + 2 * M + 3 < k) : verdererref02_Compare.f k a b = some (rcmp a b) := by
  have h := refCompare_l0 a b ha M hM hM2 a.length 0 k (by omega) (by omega) (by omega) hk
  rw [show ((0 : Nat) : Int) = 0 from rfl] at h
  exact h
/-- A bound of all texts of some values. -/
theorem texts_bound (l : List S50) (h : ∀ x ∈ l,x.f3.size ≤ 9223372036854775807) : ∃ M,(∀ x ∈ l,x.f3.size ≤ M) ∧ M ≤ 9223372036854775807 := ⟨9223372036854775807,h,Nat.le_refl _⟩
theorem equal_l0 (x : List S50) (hl : x.length ≤ 9223372036854775807) : ∀ d i k,x.length - i = d → i ≤ x.length → d < k → verdererref02_Equal.l0 k x x (i : Int) = some true := by
  intro d
  induction d with
  | zero =>
    intro i k hd hi hk
    obtain ⟨k,rfl⟩ : ∃ m,k = m + 1 := ⟨k - 1,by omega⟩
    simp only [verdererref02_Equal.l0]
    rw [if_neg (by omega)]
  | succ d ih =>
    intro i k hd hi hk
    obtain ⟨k,rfl⟩ : ∃ m,k = m + 1 := ⟨k - 1,by omega⟩
    simp only [verdererref02_Equal.l0]
    rw [if_pos (by omega),if_pos (by omega),if_pos (by omega),if_neg (by simp),wrap_succ (show i < x.length by omega) hl,ih (i + 1) k (by omega) (by omega) (by omega)]
theorem equal_self (x : List S50) (hl : x.length ≤ 9223372036854775807) (k : Nat) (hk : x.length < k) : verdererref02_Equal.f k x x = some true := by
  unfold verdererref02_Equal.f
  rw [if_pos rfl]
  have h := equal_l0 x hl x.length 0 k (by omega) (by omega) hk
  rw [show ((0 : Nat) : Int) = 0 from rfl] at h
  exact h
end Go.Proofs.Ytfoaeigoajooeaa.Z
/- Cells of rows,copies,and whether rows can be. -/
namespace Go.Proofs.Ytfoaeigoajooeaa.Z
open Go.RowKit Go.Proofs.YtfoaeigoajooeaaW.PrintWords Go.Proofs.YtfoaeigoajooeaaW.PrintLast Go.Proofs.YtfoaeigoajooeaaW.PrintMore Go.Proofs.Ytfoaeigoajooeaa.Cmp
theorem of_f (x : List S50) (hx : x.length < 3518437208883) : row_Of.f x = some x := by
  unfold row_Of.f slices_Clone.f
  simp only [Option.bind_some,List.length_nil,Nat.zero_add,List.nil_append]
  rw [if_pos hx]
  rfl
/-- Can a value be? -/
def vright (a : S50) : Bool := if a.f0 = 0 then !a.f1 && (a.f2 == 0 && a.f3.toList == ([] : List UInt8)) else if a.f0 = 1 then (a.f2 == 0 && a.f3.toList == ([] : List UInt8)) else if a.f0 = 2 then (!a.f1 && a.f3.toList == ([] : List UInt8)) else if a.f0 = 3 then (!a.f1 && (a.f2 == 0 && decide (a.f3.size ≤ 60))) else false
theorem vright_f (a : S50) : value_Right.f a.f0 a.f1 a.f2 a.f3 = some (vright a) := by
  unfold value_Right.f vright
  simp only [value_Null.f,value_Bool.f,value_Int.f,value_Text.f,Option.bind_some]
  by_cases k0 : a.f0 = 0
  · rw [if_pos k0,if_pos k0,k0];cases a.f1 <;> simp
  · by_cases k1 : a.f0 = 1
    · rw [if_neg k0,if_neg k0,if_pos k1,if_pos k1,k1];cases a.f1 <;> simp
    · by_cases k2 : a.f0 = 2
      · rw [if_neg k0,if_neg k0,if_neg k1,if_neg k1,if_pos k2,if_pos k2,k2];cases a.f1 <;> simp
      · by_cases k3 : a.f0 = 3
        · rw [if_neg k0,if_neg k0,if_neg k1,if_neg k1,if_neg k2,if_neg k2,if_pos k3,if_pos k3,k3]
          cases a.f1 <;> simp
          · by_cases h : a.f2 = 0
            · rw [if_pos h]
              simp [h]
              omega
            · rw [if_neg h]
              simp [h]
        · rw [if_neg k0,if_neg k0,if_neg k1,if_neg k1,if_neg k2,if_neg k2,if_neg k3,if_neg k3]
theorem vright_ref (a : S50) : verdererref01_Right.f a.f0 a.f1 a.f2 a.f3 = some (vright a) := by
  have he : a.f3.toList = [] → a.f3.size = 0 := fun h => by have := data_length a.f3;rw [show a.f3.data.toList = a.f3.toList from by rw [ByteArray.toList_eq]] at this;rw [← this,h];rfl
  unfold verdererref01_Right.f vright
  by_cases kl : a.f0 < 0
  · rw [if_pos kl,if_neg (by omega),if_neg (by omega),if_neg (by omega),if_neg (by omega)]
  · by_cases kg : a.f0 > 3
    · rw [if_neg kl,if_pos kg,if_neg (by omega),if_neg (by omega),if_neg (by omega),if_neg (by omega)]
    · rw [if_neg kl,if_neg kg]
      by_cases ht : a.f3.toList = []
      · have hs := he ht
        by_cases k1 : a.f0 = 1
        · rw [if_pos k1,if_neg (show ¬ a.f0 = 2 by omega),if_neg (show ¬ a.f0 = 3 by omega),if_neg (show ¬ a.f0 = 0 by omega),if_pos k1]
          by_cases h2 : a.f2 = 0 <;> simp [h2,ht,hs]
        · by_cases k2 : a.f0 = 2
          · rw [if_neg k1,if_pos k2,if_neg (show ¬ a.f0 = 3 by omega),if_neg (show ¬ a.f0 = 0 by omega),if_neg k1,if_pos k2]
            cases a.f1 <;> simp [ht,hs]
          · rw [if_neg k1,if_neg k2]
            by_cases k3 : a.f0 = 3
            · rw [if_neg (show ¬ a.f0 = 0 by omega),if_neg k1,if_neg k2,if_pos k3,if_pos k3]
              cases a.f1 <;> by_cases h2 : a.f2 = 0 <;> simp [h2,hs]
            · rw [if_pos (show a.f0 = 0 by omega),if_neg k3]
              cases a.f1 <;> by_cases h2 : a.f2 = 0 <;> simp [h2,ht,hs]
      · by_cases k1 : a.f0 = 1
        · rw [if_pos k1,if_neg (show ¬ a.f0 = 2 by omega),if_neg (show ¬ a.f0 = 3 by omega),if_neg (show ¬ a.f0 = 0 by omega),if_pos k1]
          by_cases h2 : a.f2 = 0 <;> simp [h2,ht]
        · by_cases k2 : a.f0 = 2
          · rw [if_neg k1,if_pos k2,if_neg (show ¬ a.f0 = 3 by omega),if_neg (show ¬ a.f0 = 0 by omega),if_neg k1,if_pos k2]
            cases a.f1 <;> simp [ht]
          · rw [if_neg k1,if_neg k2]
            by_cases k3 : a.f0 = 3
            · rw [if_neg (show ¬ a.f0 = 0 by omega),if_neg k1,if_neg k2,if_pos k3,if_pos k3]
              cases a.f1 <;> by_cases h2 : a.f2 = 0 <;> simp [h2]
              omega
            · rw [if_pos (show a.f0 = 0 by omega),if_neg k3]
              cases a.f1 <;> by_cases h2 : a.f2 = 0 <;> simp [h2,ht]
theorem right1_f (a : S50) : row_Right_1.f a.f0 a.f1 a.f2 a.f3 = some (!vright a) := by
  unfold row_Right_1.f
  rw [vright_f]
  rfl
def rright (r : List S50) : Bool := decide (r.length ≤ 40) && r.all vright
theorem indexFunc_l0 (x : List S50) (hl : x.length ≤ 9223372036854775807) : ∀ d i k,x.length - i = d → i ≤ x.length → d < k → ∃ r,slices_IndexFunc.l0 k x (x.length : Int) (i : Int) = some r ∧ decide (r ≥ 0) = !((x.drop i).all vright) := by
  intro d
  induction d with
  | zero =>
    intro i k hd hi hk
    obtain ⟨k,rfl⟩ : ∃ m,k = m + 1 := ⟨k - 1,by omega⟩
    refine ⟨-1,?_,?_⟩
    · simp only [slices_IndexFunc.l0]
      rw [if_neg (by omega)]
    · rw [List.drop_eq_nil_of_le (by omega)];rfl
  | succ d ih =>
    intro i k hd hi hk
    obtain ⟨k,rfl⟩ : ∃ m,k = m + 1 := ⟨k - 1,by omega⟩
    have hlt : i < x.length := by omega
    simp only [slices_IndexFunc.l0]
    rw [if_pos (by omega),if_pos (by omega),if_pos (by omega),right1_f,Option.bind_some,drop_rd hlt,List.all_cons]
    cases hv : vright (rd_T50 x i) with
    | false =>
      refine ⟨(i : Int),?_,?_⟩
      · rfl
      · simp
    | true =>
      simp only [Bool.not_true,Bool.false_eq_true,if_false,Bool.true_and]
      rw [wrap_succ hlt hl]
      exact ih (i + 1) k (by omega) (by omega) (by omega)
theorem rright_f (r : List S50) (k : Nat) (hk : 40 < k) : row_Right.f k r = some (rright r) := by
  unfold row_Right.f rright slices_ContainsFunc.f slices_IndexFunc.f
  by_cases h : r.length ≤ 40
  · obtain ⟨q,h1,h2⟩ := indexFunc_l0 r (by omega) r.length 0 k (by omega) (by omega) (by omega)
    rw [show ((0 : Nat) : Int) = 0 from rfl] at h1
    rw [if_pos (by omega),h1]
    simp only [Option.bind_some,h2]
    simp [h]
  · rw [if_neg (by omega)]
    simp [h]
theorem refRight_l0 (x : List S50) (hl : x.length ≤ 9223372036854775807) : ∀ d i k,x.length - i = d → i ≤ x.length → d < k → verdererref02_Right.l0 k x (i : Int) = some ((x.drop i).all vright) := by
  intro d
  induction d with
  | zero =>
    intro i k hd hi hk
    obtain ⟨k,rfl⟩ : ∃ m,k = m + 1 := ⟨k - 1,by omega⟩
    simp only [verdererref02_Right.l0]
    rw [if_neg (by omega),List.drop_eq_nil_of_le (by omega)]
    rfl
  | succ d ih =>
    intro i k hd hi hk
    obtain ⟨k,rfl⟩ : ∃ m,k = m + 1 := ⟨k - 1,by omega⟩
    have hlt : i < x.length := by omega
    simp only [verdererref02_Right.l0]
    rw [if_pos (by omega),if_pos (by omega),vright_ref,Option.bind_some,drop_rd hlt,List.all_cons]
    cases vright (rd_T50 x i) with
    | false => rfl
    | true =>
      simp only [if_true,Bool.true_and]
      rw [wrap_succ hlt hl]
      exact ih (i + 1) k (by omega) (by omega) (by omega)
theorem rright_ref (r : List S50) (k : Nat) (hk : 40 < k) : verdererref02_Right.f k r = some (rright r) := by
  unfold verdererref02_Right.f rright
  by_cases h : r.length ≤ 40
  · have h1 := refRight_l0 r (by omega) r.length 0 k (by omega) (by omega) (by omega)
    rw [show ((0 : Nat) : Int) = 0 from rfl] at h1
    rw [if_neg (by omega),h1]
    simp [h]
  · rw [if_pos (by omega)]
    simp [h]
end Go.Proofs.Ytfoaeigoajooeaa.Z
/- Some cells of rows,rows one behind the other,pairs of cells. -/
namespace Go.Proofs.Ytfoaeigoajooeaa.Z
open Go.RowKit Go.Proofs.YtfoaeigoajooeaaW.PrintWords Go.Proofs.YtfoaeigoajooeaaW.PrintLast Go.Proofs.YtfoaeigoajooeaaW.PrintMore Go.Proofs.Ytfoaeigoajooeaa.Cmp
theorem rdI_get {xs : List Int} {i : Nat} (h : i < xs.length) : rd xs (i : Int) = xs[i] := by unfold rd;simp [List.getD,List.getElem?_eq_getElem h]
theorem dropI_rd {xs : List Int} {i : Nat} (h : i < xs.length) : xs.drop i = rd xs (i : Int) :: xs.drop (i + 1) := by rw [rdI_get h];exact List.drop_eq_getElem_cons h
theorem rdP_get {xs : List S39} {i : Nat} (h : i < xs.length) : rd_T39 xs (i : Int) = xs[i] := by unfold rd_T39;simp [List.getD,List.getElem?_eq_getElem h]
theorem dropP_rd {xs : List S39} {i : Nat} (h : i < xs.length) : xs.drop i = rd_T39 xs (i : Int) :: xs.drop (i + 1) := by rw [rdP_get h];exact List.drop_eq_getElem_cons h
/-- Some cells of a row,behind others. -/
def pickF (r : List S50) : List Int → List S50 → List S50 × Int
  | [],acc => (acc,0)
  | c :: cs,acc => if c < 0 ∨ c ≥ (r.length : Int) then ([],2) else pickF r cs (acc ++ [rd_T50 r c])
theorem pick_l0 (r : List S50) (cols : List Int) (hl : cols.length ≤ 1000000000) : ∀ d i k acc,cols.length - i = d → i ≤ cols.length → acc.length ≤ i → d < k → row_Pick.l0 k r acc cols (cols.length : Int) (i : Int) = some (pickF r (cols.drop i) acc) := by
  intro d
  induction d with
  | zero =>
    intro i k acc hd hi ha hk
    obtain ⟨k,rfl⟩ : ∃ m,k = m + 1 := ⟨k - 1,by omega⟩
    simp only [row_Pick.l0]
    rw [if_neg (by omega),List.drop_eq_nil_of_le (by omega)]
    rfl
  | succ d ih =>
    intro i k acc hd hi ha hk
    obtain ⟨k,rfl⟩ : ∃ m,k = m + 1 := ⟨k - 1,by omega⟩
    have hlt : i < cols.length := by omega
    simp only [row_Pick.l0]
    rw [if_pos (by omega),if_pos (by omega),if_pos (by omega),dropI_rd hlt]
    simp only [pickF]
    by_cases h1 : rd cols (i : Int) < 0
    · rw [if_pos h1,if_pos (.inl h1)]
    · by_cases h2 : rd cols (i : Int) ≥ (r.length : Int)
      · rw [if_neg h1,if_pos h2,if_pos (.inr h2)]
      · rw [if_neg h1,if_neg h2,if_pos (by omega),if_pos (by omega),if_pos (by omega),if_neg (by omega),wrap_succ hlt (by omega)]
        exact ih (i + 1) k _ (by omega) (by omega) (by simp;omega) (by omega)
theorem pick_f (r : List S50) (cols : List Int) (hl : cols.length ≤ 1000000000) (k : Nat) (hk : cols.length < k) : row_Pick.f k r cols = some (pickF r cols []) := by
  unfold row_Pick.f
  have h := pick_l0 r cols hl cols.length 0 k [] (by omega) (by omega) (by simp) hk
  rw [show ((0 : Nat) : Int) = 0 from rfl] at h
  rw [if_pos (by omega),if_pos (by omega),h]
  rfl
theorem pickR_l0 (r : List S50) (cols : List Int) (hl : cols.length ≤ 1000000000) : ∀ d i k acc,cols.length - i = d → i ≤ cols.length → acc.length ≤ i → d < k → verdererref02_Pick.l0 k r cols acc (i : Int) = some (pickF r (cols.drop i) acc) := by
  intro d
  induction d with
  | zero =>
    intro i k acc hd hi ha hk
    obtain ⟨k,rfl⟩ : ∃ m,k = m + 1 := ⟨k - 1,by omega⟩
    simp only [verdererref02_Pick.l0]
    rw [if_neg (by omega),List.drop_eq_nil_of_le (by omega)]
    rfl
  | succ d ih =>
    intro i k acc hd hi ha hk
    obtain ⟨k,rfl⟩ : ∃ m,k = m + 1 := ⟨k - 1,by omega⟩
    have hlt : i < cols.length := by omega
    simp only [verdererref02_Pick.l0]
    rw [if_pos (by omega),if_pos (by omega),dropI_rd hlt]
    simp only [pickF]
    by_cases h1 : rd cols (i : Int) < 0
    · rw [if_pos h1,if_pos (.inl h1)]
    · by_cases h2 : rd cols (i : Int) ≥ (r.length : Int)
      · rw [if_neg h1,if_pos h2,if_pos (.inr h2)]
      · rw [if_neg h1,if_neg h2,if_pos (by omega),if_pos (by omega),if_pos (by omega),if_neg (by omega),wrap_succ hlt (by omega)]
        exact ih (i + 1) k _ (by omega) (by omega) (by simp;omega) (by omega)
theorem pickR_f (r : List S50) (cols : List Int) (hl : cols.length ≤ 1000000000) (k : Nat) (hk : cols.length < k) : verdererref02_Pick.f k r cols = some (pickF r cols []) := by
  have h := pickR_l0 r cols hl cols.length 0 k [] (by omega) (by omega) (by simp) hk
  rw [show ((0 : Nat) : Int) = 0 from rfl] at h
  exact h
theorem pickF_len (r : List S50) : ∀ cols acc,(pickF r cols acc).1.length ≤ acc.length + cols.length := by
  intro cols
  induction cols with
  | nil => intro acc;simp [pickF]
  | cons c cs ih =>
    intro acc
    simp only [pickF]
    split
    · simp
    · have := ih (acc ++ [rd_T50 r c])
      simp at this ⊢
      omega
/-- All cells of a row are the row. -/
theorem pickF_all (r : List S50) : ∀ d i,r.length - i = d → i ≤ r.length → pickF r ((List.range' i d).map (fun n : Nat => (n : Int))) (r.take i) = (r,0) := by
  intro d
  induction d with
  | zero =>
    intro i hd hi
    rw [List.take_of_length_le (by omega)]
    rfl
  | succ d ih =>
    intro i hd hi
    rw [List.range'_succ,List.map_cons]
    simp only [pickF]
    rw [if_neg (by omega),rd_get (show i < r.length by omega),← List.take_succ_eq_append_getElem (show i < r.length by omega)]
    exact ih (i + 1) (by omega) (by omega)
/-- Do pairs of cells go together? -/
def pairsF (a b : List S50) (l : List S39) : Bool := l.all fun p => decide (0 ≤ p.f0) && decide (p.f0 < (a.length : Int)) && decide (0 ≤ p.f1) && decide (p.f1 < (b.length : Int)) && decide (vcmp (rd_T50 a p.f0) (rd_T50 b p.f1) = 0)
theorem cell_f (r : List S50) (i : Int) : row_cell.f r i = if 0 ≤ i ∧ i < (r.length : Int) then some ((rd_T50 r i).f0,(rd_T50 r i).f1,(rd_T50 r i).f2,(rd_T50 r i).f3,true) else some (0,false,0,⟨#[]⟩,false) := by
  unfold row_cell.f
  by_cases h1 : i < 0
  · rw [if_pos h1,if_neg (by omega)]
  · by_cases h2 : i ≥ (r.length : Int)
    · rw [if_neg h1,if_pos h2,if_neg (by omega)]
    · rw [if_neg h1,if_neg h2,if_pos (by omega),if_pos (by omega),if_pos (by omega)]
theorem pairs_l0 (a b : List S50) (l : List S39) (hl : l.length ≤ 9223372036854775807) : ∀ d i k,l.length - i = d → i ≤ l.length → d < k → row_Pairs.l0 k a b l (l.length : Int) (i : Int) = some (pairsF a b (l.drop i)) := by
  intro d
  induction d with
  | zero =>
    intro i k hd hi hk
    obtain ⟨k,rfl⟩ : ∃ m,k = m + 1 := ⟨k - 1,by omega⟩
    simp only [row_Pairs.l0]
    rw [if_neg (by omega),List.drop_eq_nil_of_le (by omega)]
    rfl
  | succ d ih =>
    intro i k hd hi hk
    obtain ⟨k,rfl⟩ : ∃ m,k = m + 1 := ⟨k - 1,by omega⟩
    have hlt : i < l.length := by omega
    simp only [row_Pairs.l0]
    rw [if_pos (by omega),if_pos (by omega),if_pos (by omega),dropP_rd hlt,cell_f,cell_f]
    generalize rd_T39 l (i : Int) = p
    have e : pairsF a b (p :: l.drop (i + 1)) = ((decide (0 ≤ p.f0) && decide (p.f0 < (a.length : Int)) && decide (0 ≤ p.f1) && decide (p.f1 < (b.length : Int)) && decide (vcmp (rd_T50 a p.f0) (rd_T50 b p.f1) = 0)) && pairsF a b (l.drop (i + 1))) := rfl
    rw [e]
    by_cases h1 : 0 ≤ p.f0 ∧ p.f0 < (a.length : Int)
    · rw [if_pos h1]
      by_cases h2 : 0 ≤ p.f1 ∧ p.f1 < (b.length : Int)
      · rw [if_pos h2]
        simp only [Option.bind_some,if_true]
        rw [vcmp_f,Option.bind_some]
        by_cases h3 : vcmp (rd_T50 a p.f0) (rd_T50 b p.f1) = 0
        · rw [if_pos h3,wrap_succ hlt hl,ih (i + 1) k (by omega) (by omega) (by omega)]
          simp [h1,h2,h3]
        · rw [if_neg h3]
          simp [h3]
      · rw [if_neg h2]
        simp only [Option.bind_some,if_true,Bool.false_eq_true,if_false]
        rcases Decidable.not_and_iff_or_not.1 h2 with h | h <;> simp [h]
    · rw [if_neg h1]
      have e2 : ∀ z : Option (Int × Bool × Int × ByteArray × Bool),(∃ q,z = some q) → ((some ((0 : Int),false,(0 : Int),(⟨#[]⟩ : ByteArray),false)).bind fun bt240 => z.bind fun bt246 => (if bt240.2.2.2.2 = true then (if bt246.2.2.2.2 = true then ((value_Compare.f bt240.1 bt240.2.1 bt240.2.2.1 bt240.2.2.2.1 bt246.1 bt246.2.1 bt246.2.2.1 bt246.2.2.2.1).bind fun t252 => (if t252 = 0 then (row_Pairs.l0 k a b l (l.length : Int) (wrap64 ((i : Int) + 1))) else (some false))) else (some false)) else (some false))) = some false := by
        rintro z ⟨q,rfl⟩
        simp
      rw [e2 _ (by split <;> exact ⟨_,rfl⟩)]
      rcases Decidable.not_and_iff_or_not.1 h1 with h | h <;> simp [h]
theorem pairs_f (a b : List S50) (l : List S39) (hl : l.length ≤ 9223372036854775807) (k : Nat) (hk : l.length < k) : row_Pairs.f k a b l = some (pairsF a b l) := by
  have h := pairs_l0 a b l hl l.length 0 k (by omega) (by omega) hk
  rw [show ((0 : Nat) : Int) = 0 from rfl] at h
  exact h
theorem rd_mem {xs : List S50} {i : Int} (h0 : 0 ≤ i) (h1 : i < (xs.length : Int)) : rd_T50 xs i ∈ xs := by
  obtain ⟨n,rfl⟩ := Int.eq_ofNat_of_zero_le h0
  rw [rd_get (by omega)]
  exact List.getElem_mem _
theorem pairsR_l0 (a b : List S50) (l : List S39) (hl : l.length ≤ 9223372036854775807) (M : Nat) (hM : ∀ x ∈ a,x.f3.size ≤ M) (hM2 : M ≤ 9223372036854775807) : ∀ d i k,l.length - i = d → i ≤ l.length → d + 2 * M + 2 < k → verdererref02_Pairs.l0 k a b l (i : Int) = some (pairsF a b (l.drop i)) := by
  intro d
  induction d with
  | zero =>
    intro i k hd hi hk
    obtain ⟨k,rfl⟩ : ∃ m,k = m + 1 := ⟨k - 1,by omega⟩
    simp only [verdererref02_Pairs.l0]
    rw [if_neg (by omega),List.drop_eq_nil_of_le (by omega)]
    rfl
  | succ d ih =>
    intro i k hd hi hk
    obtain ⟨k,rfl⟩ : ∃ m,k = m + 1 := ⟨k - 1,by omega⟩
    have hlt : i < l.length := by omega
    simp only [verdererref02_Pairs.l0]
    rw [if_pos (by omega),if_pos (by omega),dropP_rd hlt]
    generalize rd_T39 l (i : Int) = p
    have e : pairsF a b (p :: l.drop (i + 1)) = ((decide (0 ≤ p.f0) && decide (p.f0 < (a.length : Int)) && decide (0 ≤ p.f1) && decide (p.f1 < (b.length : Int)) && decide (vcmp (rd_T50 a p.f0) (rd_T50 b p.f1) = 0)) && pairsF a b (l.drop (i + 1))) := rfl
    rw [e]
    by_cases h1 : p.f0 < 0
    · rw [if_pos h1];simp [show ¬ 0 ≤ p.f0 by omega]
    · by_cases h2 : p.f0 ≥ (a.length : Int)
      · rw [if_neg h1,if_pos h2];simp [show ¬ p.f0 < (a.length : Int) by omega]
      · by_cases h3 : p.f1 < 0
        · rw [if_neg h1,if_neg h2,if_pos h3];simp [show ¬ 0 ≤ p.f1 by omega]
        · by_cases h4 : p.f1 ≥ (b.length : Int)
          · rw [if_neg h1,if_neg h2,if_neg h3,if_pos h4];simp [show ¬ p.f1 < (b.length : Int) by omega]
          · have hm := hM _ (rd_mem (xs := a) (i := p.f0) (by omega) (by omega))
            rw [if_neg h1,if_neg h2,if_neg h3,if_neg h4,if_pos (by omega),if_pos (by omega),if_pos (by omega),if_pos (by omega),vcmp_ref _ _ (by omega) k (by omega),Option.bind_some]
            by_cases h5 : vcmp (rd_T50 a p.f0) (rd_T50 b p.f1) = 0
            · rw [if_pos h5,wrap_succ hlt hl,ih (i + 1) k (by omega) (by omega) (by omega)]
              simp [h5,show 0 ≤ p.f0 by omega,show p.f0 < (a.length : Int) by omega,show 0 ≤ p.f1 by omega,show p.f1 < (b.length : Int) by omega]
            · rw [if_neg h5]
              simp [h5]
theorem pairsR_f (a b : List S50) (l : List S39) (hl : l.length ≤ 9223372036854775807) (M : Nat) (hM : ∀ x ∈ a,x.f3.size ≤ M) (hM2 : M ≤ 9223372036854775807) (k : Nat) (hk : l.length + 2 * M + 2 < k) : verdererref02_Pairs.f k a b l = some (pairsF a b l) := by
  have h := pairsR_l0 a b l hl M hM hM2 l.length 0 k (by omega) (by omega) hk
  rw [show ((0 : Nat) : Int) = 0 from rfl] at h
  exact h
theorem join_f (a b : List S50) (ha : a.length ≤ 1000) (hb : b.length ≤ 1000) (k : Nat) : row_Join.f (k + 6) [a,b] = some (a ++ b) := by
  unfold row_Join.f slices_Concat.f
  have w1 : wrap64 (0 + (a.length : Int)) = (a.length : Int) := by rw [wrap_id (by omega) (by omega)];omega
  have w2 : wrap64 ((a.length : Int) + (b.length : Int)) = (a.length : Int) + (b.length : Int) := wrap_id (by omega) (by omega)
  have r0 : rd_L4 [a,b] 0 = a := rfl
  have r1 : rd_L4 [a,b] 1 = b := rfl
  have i1 : wrap64 ((0 : Int) + 1) = 1 := wrap_id (by omega) (by omega)
  have i2 : wrap64 ((1 : Int) + 1) = 2 := wrap_id (by omega) (by omega)
  simp only [slices_Concat.l0,slices_Concat.l1,List.length_cons,List.length_nil,r0,i1,r1,i2,w1,w2]
  rw [if_pos (by omega),if_pos (by omega),if_pos (by omega),if_neg (by omega),if_pos (by omega),if_pos (by omega),if_pos (by omega),if_neg (by omega),if_neg (by omega)]
  unfold slices_Grow.f
  rw [if_pos (by omega)]
  simp only [Option.bind_some,List.length_nil,List.nil_append]
  rw [if_pos (by omega),if_pos (by omega),if_pos (by omega),if_pos (by omega),if_pos (by omega),if_pos (by omega),if_pos (by omega),if_pos (by omega),if_neg (by omega)]
  rfl
theorem joinR_f (a b : List S50) (ha : a.length ≤ 1000) (hb : b.length ≤ 1000) : verdererref02_Join.f a b = some (a ++ b) := by
  unfold verdererref02_Join.f
  rw [if_pos (by simp;omega)]
  simp only [Option.bind_some,List.nil_append]
  rw [if_pos (by omega)]
end Go.Proofs.Ytfoaeigoajooeaa.Z
/- The fixed calls of chapter 2's statements come as they must. -/
namespace Go.Proofs.Ytfoaeigoajooeaa.Z
open Go.RowKit Go.Proofs.YtfoaeigoajooeaaW.PrintWords Go.Proofs.YtfoaeigoajooeaaW.PrintLast Go.Proofs.YtfoaeigoajooeaaW.PrintMore
theorem known02 (k : Nat) (hk : 60 ≤ k) : verdererlaw02_known.f k = some true := at_rounds (fun k => verdererlaw02_known.mono k) hk (by decide +kernel)
end Go.Proofs.Ytfoaeigoajooeaa.Z
/- The plain law of RowWhole. -/
namespace Go.Proofs.Ytfoaeigoajooeaa.Z
open Go.RowKit Go.Proofs.YtfoaeigoajooeaaW.PrintWords Go.Proofs.YtfoaeigoajooeaaW.PrintLast Go.Proofs.YtfoaeigoajooeaaW.PrintMore Go.Proofs.Ytfoaeigoajooeaa.Cmp
def nums_ (n : Nat) : List Int := (List.range' 0 n).map (fun n : Nat => (n : Int))
def prs_ (n : Nat) : List S39 := (List.range' 0 n).map (fun n : Nat => (⟨(n : Int),(n : Int)⟩ : S39))
theorem nums_succ (n : Nat) : nums_ n ++ [(n : Int)] = nums_ (n + 1) := by unfold nums_;rw [List.range'_1_concat];simp
theorem prs_succ (n : Nat) : prs_ n ++ [(⟨(n : Int),(n : Int)⟩ : S39)] = prs_ (n + 1) := by unfold prs_;rw [List.range'_1_concat];simp
theorem nums_len (n : Nat) : (nums_ n).length = n := by simp [nums_]
theorem prs_len (n : Nat) : (prs_ n).length = n := by simp [prs_]
theorem prs_ok (a : List S50) : pairsF a a (prs_ a.length) = true := by
  unfold pairsF prs_
  rw [List.all_eq_true]
  intro p hp
  rw [List.mem_map] at hp
  obtain ⟨n,hn,rfl⟩ := hp
  have hn2 : n < a.length := by simpa using List.mem_range'_1.1 hn
  simp [vcmp_law.self]
  omega
theorem rowWhole_l0 (a : List S50) (ha : a.length ≤ 100) : ∀ d i k,a.length - i = d → i ≤ a.length → d + 1000 < k → verdererlaw02_RowWhole.l0 k a (nums_ i) (prs_ i) (i : Int) = some true := by
  intro d
  induction d with
  | zero =>
    intro i k hd hi hk
    obtain ⟨k,rfl⟩ : ∃ m,k = m + 1 := ⟨k - 1,by omega⟩
    obtain rfl : i = a.length := by omega
    simp only [verdererlaw02_RowWhole.l0]
    rw [if_neg (by omega),pick_f a _ (by rw [nums_len];omega) k (by rw [nums_len];omega)]
    have e : pickF a (nums_ a.length) [] = (a,0) := pickF_all a a.length 0 (by omega) (by omega)
    rw [e]
    simp only [Option.bind_some]
    rw [equal_self a (by omega) k (by omega)]
    simp only [Option.bind_some,if_true]
    rw [pairs_f a a _ (by rw [prs_len];omega) k (by rw [prs_len];omega),prs_ok]
    unfold row_Same.f
    rw [rowCompare_f a a (by omega) k (by omega),rcmp_law.self]
    simp only [Option.bind_some,if_true,beq_self_eq_true,known02 k (by omega)]
  | succ d ih =>
    intro i k hd hi hk
    obtain ⟨k,rfl⟩ : ∃ m,k = m + 1 := ⟨k - 1,by omega⟩
    simp only [verdererlaw02_RowWhole.l0]
    rw [if_pos (by omega),if_pos (by rw [nums_len];omega),if_pos (by rw [prs_len];omega),nums_succ,prs_succ,wrap_succ (show i < a.length by omega) (by omega)]
    exact ih (i + 1) k (by omega) (by omega) (by omega)
theorem rowWhole_pure : ∀ (l0 : (List S50)),(l0.length ≤ maxLen ∧ ∀ x ∈ l0,G50 x) → ∃ k,verdererlaw02_RowWhole.f k l0 = some true := by
  intro l0 _
  obtain ⟨k,hk⟩ : ∃ k,2000 < k := ⟨2001,by omega⟩
  refine ⟨k,?_⟩
  unfold verdererlaw02_RowWhole.f
  split
  · simp only [known02 k (by omega),Option.bind_some]
  · exact rowWhole_l0 l0 (by omega) l0.length 0 k (by omega) (by omega) (by omega)
end Go.Proofs.Ytfoaeigoajooeaa.Z
namespace Go.Proofs.Ytfoaeigoajooeaa.rowWhole
open Go.ChangeShapes Go.WideShapes Go.ChangeAt Go.RowKit Go.Proofs.YtfoaeigoajooeaaW.PrintWords
open Go.ChangeMaps (open_string shut_string)
set_option linter.unusedVariables false
theorem own : ownKnob Try.prog.godebug = none := by kernel_rfl
theorem laidOut : laidOutB Try.prog = true := by kernel_rfl
set_option maxRecDepth 100000 in
theorem lifted (os : Os) (started : os.Started) (H : Type) (enc : TypeId × Value → H) :
    ReturnsInHanded {} Try.checked os 5 .any (Rows.rowWholeSpec.pre6 enc Try.prog Try.f5 Rows.rowWholeRow.domain false) (Rows.rowWholeSpec.post enc Try.prog Try.f5 false true false false) := by
  refine returnsInHanded_of_change (C := Try.checked) own started (by kernel_rfl) Try.func5
    (ChangeSpec.witness6 (enc := enc) (C := Try.checked) false ⟨#[],#[.slice none 0 0],[]⟩ 8 (by kernel_rfl) (by kernel_rfl) (by kernel_rfl) (by kernel_rfl)) ?_
  intro W base args ds gs before hval0 hW hcnd _
  have hval : ∀ (j : Nat) t v,Try.f5.params[j]? = some t → args[j]? = some v → Value.okWide Try.prog W .any base t v := hval0
  have hW' := hW
  obtain ⟨p,q,hA0,hV,rfl,hfz,hnd⟩ := hW
  have hA : DataW.TrodAll enc Try.prog W 0 (fun _ => true) true Try.f5.params.toList args.toList ds p := hA0
  rw [Try.params5] at hA hval
  obtain ⟨v0,vs0,d0,ds0,p0,q0,hargs,rfl,rfl,h0,r0⟩ := trodAll_cons hA
  obtain ⟨rfl,rfl,rfl⟩ := trodAll_nil r0
  obtain rfl : args = #[v0] := by cases args;simp_all
  obtain ⟨rfl,rfl⟩ := trodVars_none hV
  obtain ⟨a0,len0,cap0,rfl⟩ := okWide_slice Try.underlying22 (hval 0 22 v0 rfl rfl)
  have k0 := h0
  have lt0 : ∀ x ∈ p0,x.block < W.heap.size := by obtain ⟨m,hm⟩ := k0;exact DataW.trod_lt m _ _ _ hm
  obtain ⟨l0,hK0,hG0⟩ : ∃ l,((Kd.slice 50 Z.k50) : Kd (List Z.S50)).K W l [.slice a0 len0 cap0] ∧ (l.length ≤ maxLen ∧ ∀ x ∈ l,Z.G50 x) := by obtain ⟨fuel,hf⟩ := h0;exact (show OfTrod Try.prog 22 (Kd.slice 50 Z.k50) _ from (ofTrod_slice Try.underlying22 (by kernel_rfl) Z.of50)) _ _ _ _ _ _ _ _ _ hf
  obtain ⟨A0,c0,he0,hl0,hC0⟩ := hK0
  simp only [List.cons.injEq,Value.slice.injEq,and_true] at he0
  obtain ⟨rfl,rfl,rfl⟩ := he0
  clear hA0 hval0
  obtain ⟨k,h⟩ := Z.rowWhole_pure l0 hG0
  refine (Z.verdererlaw02_RowWhole.calls k _ _ l0 true W hC0 hl0 h).mono fun e W' ⟨he,bel⟩ => ?_
  subst he
  exact ⟨_,rfl,_,_,_,[],_,[],hW',trodAll_mk1 (shut_bool Try.underlying4 _),(trodAll_cons_mk (Below.trod laidOut (by kernel_rfl) (of_decide_eq_true (by kernel_rfl)) k0 bel lt0) trodAll_mk0),rfl,bel.frame _,fun h => by cases h⟩
theorem over : Rows.rowWholeRow.holds Try.pinned (OpenSpec.ofChange Rows.rowWholeSpec) :=
  OpenClaim.holds_of_wide 5 Try.f5 rfl rfl rfl rfl rfl rfl rfl ⟨rfl,rfl,rfl,rfl,rfl⟩ rfl rfl rfl rfl rfl (by kernel_rfl) Try.func5 (by kernel_rfl)
    (of_decide_eq_true (by kernel_rfl)) (by unfold Func.isWrapper;first | (rw [if_pos (by decide +kernel)];kernel_rfl) | (rw [if_neg (by decide +kernel)];exact ⟨rfl,rfl⟩))
    (fun os started H enc _ => lifted os started H enc)
theorem proved : Rows.RowWholeSaid := over
#print axioms proved
end Go.Proofs.Ytfoaeigoajooeaa.rowWhole
namespace Go.Proofs.Ytfoaeigoajooeaa
/-- The row,under a short name,for the claim. -/
theorem rowWhole_holds : Rows.RowWholeSaid := rowWhole.proved
end Go.Proofs.Ytfoaeigoajooeaa
