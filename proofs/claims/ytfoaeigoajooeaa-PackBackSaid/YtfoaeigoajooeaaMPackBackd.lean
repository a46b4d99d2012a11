/- Parts of the proof of PackBack: what its functions answer. -/
import Derived.Test.YtfoaeigoajooeaaMPackBacka
import Derived.Test.YtfoaeigoajooeaaMPackBackb
import Derived.Test.YtfoaeigoajooeaaMPackBackc
section
namespace Go.Proofs.Ytfoaeigoajooeaa.Z
open Go.RowKit Go.Proofs.YtfoaeigoajooeaaW.PrintWords Go.Proofs.YtfoaeigoajooeaaW.PrintLast Go.Proofs.YtfoaeigoajooeaaW.PrintMore
attribute [local go_sem] max2_int min2_int max_two min_two max_three min_three max_four min_four
set_option linter.unusedVariables false
set_option linter.unusedSimpArgs false
mutual
def verdererref04_Value.l0 : Nat → Int → List Int → Int → Option (List Int)
  | 0,_,_,_ => none
  | k + 1,x3,x4,x5 => if x5 ≥ 0 then (if 0 ≤ (IntKind.u64.wrap (wrap64 (8 * x5))) then (if x4.length < 140737488355328 then (verdererref04_Value.l0 k x3 (x4 ++ [(shr .u64 x3 (IntKind.u64.wrap (wrap64 (8 * x5)))) % 256]) (wrap64 (x5 - 1))) else (none)) else (none)) else (some x4)
def verdererref04_Value.l1 : Nat → List Int → Int → Int → Bool → Int → ByteArray → Option (List Int)
  | 0,_,_,_,_,_,_ => none
  | k + 1,x6,x7,x534000,x534001,x534002,x534003 => if x7 < (x534003.size : Int) then (if 0 ≤ x7 then (if x6.length < 140737488355328 then ((some (x6 ++ [bt x534003 x7] : List Int)).bind fun y553 => (if (bt x534003 x7) = 0 then (if y553.length < 140737488355328 then (verdererref04_Value.l1 k (y553 ++ [255]) (wrap64 (x7 + 1)) x534000 x534001 x534002 x534003) else (none)) else (verdererref04_Value.l1 k y553 (wrap64 (x7 + 1)) x534000 x534001 x534002 x534003))) else (none)) else (none)) else ((some (([0,1] : List Int) : List Int)).bind fun y559 => (if x6.length + y559.length < 140737488355328 then (some (x6 ++ y559)) else (none)))
end
def verdererref04_Value.f (k : Nat) (a0_0 : Int) (a0_1 : Bool) (a0_2 : Int) (a0_3 : ByteArray) : Option (List Int) := (verdererref01_Right.f a0_0 a0_1 a0_2 a0_3).bind fun t534 => (if t534 = true then (if a0_0 = 0 then (some (([1] : List Int))) else (if a0_0 = 1 then (if a0_1 = true then (some (([2,1] : List Int))) else (some (([2,0] : List Int)))) else (if a0_0 = 2 then (verdererref04_Value.l0 k (IntKind.u64.wrap ((IntKind.u64.wrap (a0_2)) + 9223372036854775808)) (([3] : List Int)) 7) else (verdererref04_Value.l1 k (([4] : List Int)) 0 a0_0 a0_1 a0_2 a0_3)))) else (some ([] : List Int)))
theorem verdererref04_Value.mono_l : ∀ k,(∀ y0 y1 y2,LeO (verdererref04_Value.l0 k y0 y1 y2) (verdererref04_Value.l0 (k + 1) y0 y1 y2)) ∧ (∀ y0 y1 y2 y3 y4 y5,LeO (verdererref04_Value.l1 k y0 y1 y2 y3 y4 y5) (verdererref04_Value.l1 (k + 1) y0 y1 y2 y3 y4 y5))
  | 0 => ⟨fun _ _ _ r h => by simp [verdererref04_Value.l0] at h,fun _ _ _ _ _ _ r h => by simp [verdererref04_Value.l1] at h⟩
  | k + 1 => by
    obtain ⟨ih0,ih1⟩ := verdererref04_Value.mono_l k
    refine ⟨?_,?_⟩
    · intro y0 y1 y2
      unfold verdererref04_Value.l0
      repeat' first
      | (with_reducible exact ih0 _ _ _)
      | (with_reducible exact ih1 _ _ _ _ _ _)
      | (with_reducible exact LeO.refl _)
      | (with_reducible exact LeO.none _)
      | (with_reducible refine LeO.ite ?_ ?_)
      | (with_reducible refine LeO.bind ?_ (fun _ => ?_))
      | exact ih0 _ _ _
      | exact ih1 _ _ _ _ _ _
      | exact LeO.none _
      | refine LeO.ite ?_ ?_
      | refine LeO.bind ?_ (fun _ => ?_)
    · intro y0 y1 y2 y3 y4 y5
      unfold verdererref04_Value.l1
      repeat' first
      | (with_reducible exact ih0 _ _ _)
      | (with_reducible exact ih1 _ _ _ _ _ _)
      | (with_reducible exact LeO.refl _)
      | (with_reducible exact LeO.none _)
      | (with_reducible refine LeO.ite ?_ ?_)
      | (with_reducible refine LeO.bind ?_ (fun _ => ?_))
      | exact ih0 _ _ _
      | exact ih1 _ _ _ _ _ _
      | exact LeO.none _
      | refine LeO.ite ?_ ?_
      | refine LeO.bind ?_ (fun _ => ?_)
theorem verdererref04_Value.mono : ∀ a0 a1 a2 a3 k,LeO (verdererref04_Value.f k a0 a1 a2 a3) (verdererref04_Value.f (k + 1) a0 a1 a2 a3) := by
  intro a0 a1 a2 a3 k
  obtain ⟨ih0,ih1⟩ := verdererref04_Value.mono_l k
  unfold verdererref04_Value.f
  repeat' first
      | (with_reducible exact ih0 _ _ _)
      | (with_reducible exact ih1 _ _ _ _ _ _)
      | (with_reducible exact LeO.refl _)
      | (with_reducible exact LeO.none _)
      | (with_reducible refine LeO.ite ?_ ?_)
      | (with_reducible refine LeO.bind ?_ (fun _ => ?_))
      | exact ih0 _ _ _
      | exact ih1 _ _ _ _ _ _
      | exact LeO.none _
      | refine LeO.ite ?_ ?_
      | refine LeO.bind ?_ (fun _ => ?_)
set_option maxHeartbeats 8000000 in
set_option maxRecDepth 100000 in
theorem verdererref04_Value.calls (k : Nat) (a0_0 : Int) (a0_1 : Bool) (a0_2 : Int) (a0_3 : ByteArray) (r : List Int) (w : World) (h : verdererref04_Value.f k a0_0 a0_1 a0_2 a0_3 = some r) :
    Calls Try.prog 34 #[.agg #[.int .i64 a0_0,.bool a0_1,.int .i64 a0_2,.string a0_3]] w fun e w' => ∃ v0_ : Value,e = .returned (v0_) ∧ Kd.R (Kd.int .u8) 5 w' w.heap.size (fun _ => True) v0_ r ∧ Below w.heap.size w w' := by
  have hu50 := Try.underlying50
  have HB := Aside0.mk (Below.refl w.heap.size w)
  have H : ((verdererref01_Right.f a0_0 a0_1 a0_2 a0_3).bind fun t534 => (if t534 = true then (if a0_0 = 0 then (some (([1] : List Int))) else (if a0_0 = 1 then (if a0_1 = true then (some (([2,1] : List Int))) else (some (([2,0] : List Int)))) else (if a0_0 = 2 then (verdererref04_Value.l0 k (IntKind.u64.wrap ((IntKind.u64.wrap (a0_2)) + 9223372036854775808)) (([3] : List Int)) 7) else (verdererref04_Value.l1 k (([4] : List Int)) 0 a0_0 a0_1 a0_2 a0_3)))) else (some ([] : List Int)))) = some r := h
  clear h
  replace H := Option.bind_eq_some_iff.mp H
  obtain ⟨t534,A20,H⟩ := H
  replace H : (if t534 = true then (if a0_0 = 0 then (some (([1] : List Int))) else (if a0_0 = 1 then (if a0_1 = true then (some (([2,1] : List Int))) else (some (([2,0] : List Int)))) else (if a0_0 = 2 then (verdererref04_Value.l0 k (IntKind.u64.wrap ((IntKind.u64.wrap (a0_2)) + 9223372036854775808)) (([3] : List Int)) 7) else (verdererref04_Value.l1 k (([4] : List Int)) 0 a0_0 a0_1 a0_2 a0_3)))) else (some ([] : List Int))) = some r := H
  have A2 := Aside0.mk A20
  clear A20
  by_cases c3 : t534 = true
  · subst c3
    have H1 : (if a0_0 = 0 then (some (([1] : List Int))) else (if a0_0 = 1 then (if a0_1 = true then (some (([2,1] : List Int))) else (some (([2,0] : List Int)))) else (if a0_0 = 2 then (verdererref04_Value.l0 k (IntKind.u64.wrap ((IntKind.u64.wrap (a0_2)) + 9223372036854775808)) (([3] : List Int)) 7) else (verdererref04_Value.l1 k (([4] : List Int)) 0 a0_0 a0_1 a0_2 a0_3)))) = some r := by rw [if_pos rfl] at H;exact H
    clear H
    have H := H1
    clear H1
    by_cases c4 : a0_0 = 0
    · rw [if_pos c4] at H
      have c4b0 : (a0_0 == 0) = true := beq_iff_eq.mpr c4
      have c4b1 : (a0_0 != 0) = false := bne_eq_false_iff_eq.mpr c4
      clear c4
      obtain ⟨y535,hy535⟩ : ∃ y_ : List Int,y_ = (([1] : List Int)) := ⟨_,rfl⟩
      replace H : (some y535) = some r := by first | (rw [hy535];with_reducible exact H) | (have H2_ := (Option.bind_some _ _).symm.trans H;rw [hy535];with_reducible exact H2_) | (have H2_ := (Option.bind_some _ _).symm.trans H;with_reducible exact H2_) | with_reducible exact H | (rw [hy535];exact H) | exact H
      have Ny535 := Aside0.mk hy535
      clear hy535
      obtain rfl := Option.some.inj H
      go_enter Try.func34,Try.ntmps34
      go_wp2_with (first | ((with_reducible refine gate_dst (N := 1) rfl ?_);refine box_event ?hg (N := 1) ?hd (cs := #[.int .i64 a0_0,.bool a0_1,.int .i64 a0_2,.string a0_3]) (t := 50) ?hr ?_;(case hd => rfl);(case hg => rfl);(case hr => first | (go_simp;done) | (go_simp;rfl));intro gb533 hg w5 hbox hb;have n0_ := Aside0.mk (below_step (by repeat (first | (with_reducible first | exact HB.out | apply below_alloc | apply pw_below_drewN | apply below_drew1) | exact HB.out)) hb);have n1_ := Aside0.mk (hbox);have n2_ := Aside0.mk ((by rw [hg];exact (below_size (by repeat (first | (with_reducible first | exact HB.out | apply below_alloc | apply pw_below_drewN | apply below_drew1) | exact HB.out))) : w.heap.size ≤ gb533));have n3_ := Aside0.mk ((by rw [hg];exact (below_size (by repeat (first | (with_reducible first | exact HB.out | apply below_alloc | apply pw_below_drewN | apply below_drew1) | exact HB.out))) : w.heap.size ≤ gb533));clear HB;have HB := n0_;have BK533 := n1_;have GW533 := n2_;have GE533 := n3_;clear n0_ n1_ n2_ n3_;clear hb hbox hg;have hcz6_0 : w5.cell? ⟨gb533,0,none⟩ = some (.int .i64 a0_0) := (blk_cell BK533.out 0).trans rfl;have hcz6_1 : w5.cell? ⟨gb533,1,none⟩ = some (.bool a0_1) := (blk_cell BK533.out 1).trans rfl;have hcz6_2 : w5.cell? ⟨gb533,2,none⟩ = some (.int .i64 a0_2) := (blk_cell BK533.out 2).trans rfl;have hcz6_3 : w5.cell? ⟨gb533,3,none⟩ = some (.string a0_3) := (blk_cell BK533.out 3).trans rfl;have hfz6_0 := blk_frozen BK533.out 0;have hfz6_1 := blk_frozen BK533.out 1;have hfz6_2 := blk_frozen BK533.out 2;have hfz6_3 := blk_frozen BK533.out 3) | ((with_reducible refine gate_callee (f := 53) rfl ?_);refine goesL_ (some 9) rfl rfl Try.func53 (by kernel_rfl) rfl #[.agg #[.int .i64 a0_0,.bool a0_1,.int .i64 a0_2,.string a0_3]] rfl (by (try simp only [List.map_toArray,List.map_cons,List.map_nil]);first | done | rfl | (simp only [List.length_drop,List.length_take];rfl)) ?_;(with_reducible refine (verdererref01_Right.calls a0_0 a0_1 a0_2 a0_3 true _ A2.out).mono ?_);rintro e w7 ⟨rfl,hb⟩;refine ⟨_,rfl,?_⟩;have n0_ := Aside0.mk (blk_below (g := gb533) (o := .cells #[.int .i64 a0_0,.bool a0_1,.int .i64 a0_2,.string a0_3] 50 (0,0)) (by (with_reducible repeat (first | refine blk_drewN ?_ _ | refine blk_drew ?_ | refine blk_alloc ?_ _));exact BK533.out) hb);have n1_ := Aside0.mk (below_step (by repeat (first | (with_reducible first | exact HB.out | apply below_alloc | apply pw_below_drewN | apply below_drew1 | refine below_set ?_ GE533.out) | exact HB.out)) hb);clear BK533;clear HB;have BK533 := n0_;have HB := n1_;clear n0_ n1_;(try clear hb);(try clear hb2);(try clear hk);(try clear hi);have hcz8_0 : w7.cell? ⟨gb533,0,none⟩ = some (.int .i64 a0_0) := (blk_cell BK533.out 0).trans rfl;have hcz8_1 : w7.cell? ⟨gb533,1,none⟩ = some (.bool a0_1) := (blk_cell BK533.out 1).trans rfl;have hcz8_2 : w7.cell? ⟨gb533,2,none⟩ = some (.int .i64 a0_2) := (blk_cell BK533.out 2).trans rfl;have hcz8_3 : w7.cell? ⟨gb533,3,none⟩ = some (.string a0_3) := (blk_cell BK533.out 3).trans rfl;have hfz8_0 := blk_frozen BK533.out 0;have hfz8_1 := blk_frozen BK533.out 1;have hfz8_2 := blk_frozen BK533.out 2;have hfz8_3 := blk_frozen BK533.out 3) | ((with_reducible refine gate_dst (N := 41) rfl ?_);refine Kd.R_lit (Kd.int .u8) _ 5 ?hg (N := 41) ?hd (xs := ([1] : List Int)) (inner := [.int .u8 1]) (ok := fun _ => True) (okp := fun _ => True) ?hr ?hp (fun _ hk => hk) trivial (Below.refl _ _) (Nat.le_refl _) (by simp) ?_;(case hd => rfl);(case hg => rfl);(case hr => first | (go_simp;done) | (go_simp;rfl));(case hp => exact (Reps.one (show Kd.M (Kd.int .u8) _ _ _ 1 [.int .u8 1] from rfl) (Reps.none _ _)));intro v536 w9 ho10 hb hg_ hnew_;clear hg_ hnew_;(first | rw [← Ny535.out] at ho10 | (simp only [Int.reduceToNat] at ho10;rw [← Ny535.out] at ho10));have n0_ := Aside0.mk (Kd.R_lower ho10 (below_size (by repeat (first | (with_reducible first | exact HB.out | apply below_alloc | apply pw_below_drewN | apply below_drew1 | refine below_set ?_ GE533.out) | exact HB.out))));have n1_ := Aside0.mk (blk_below (g := gb533) (o := .cells #[.int .i64 a0_0,.bool a0_1,.int .i64 a0_2,.string a0_3] 50 (0,0)) (by (with_reducible repeat (first | refine blk_drewN ?_ _ | refine blk_drew ?_ | refine blk_alloc ?_ _));exact BK533.out) hb);have n2_ := Aside0.mk (below_step (by repeat (first | (with_reducible first | exact HB.out | apply below_alloc | apply pw_below_drewN | apply below_drew1 | refine below_set ?_ GE533.out) | exact HB.out)) hb);clear BK533;clear HB;have HO537 := n0_;have BK533 := n1_;have HB := n2_;clear n0_ n1_ n2_;clear hb ho10))
      go_ret
      exact ⟨_,by first | rfl | (simp [errW_none,errW_some] <;> rfl) | (simp [*,errW_none,errW_some] <;> rfl),by (with_reducible repeat (first | apply Kd.R_alloc | apply Kd.R_drewN | apply Kd.R_drew));exact HO537.out,by repeat (first | (with_reducible first | exact HB.out | apply below_alloc | apply pw_below_drewN | apply below_drew1 | refine below_set ?_ GE533.out) | exact HB.out)⟩
    · rw [if_neg c4] at H
      have c4b0 : (a0_0 == 0) = false := beq_eq_false_iff_ne.mpr c4
      have c4b1 : (a0_0 != 0) = true := bne_iff_ne.mpr c4
      by_cases c11 : a0_0 = 1
      · rw [if_pos c11] at H
        have c11b0 : (a0_0 == 1) = true := beq_iff_eq.mpr c11
        have c11b1 : (a0_0 != 1) = false := bne_eq_false_iff_eq.mpr c11
        clear c11
        by_cases c12 : a0_1 = true
        · subst c12
          have H1 : (some (([2,1] : List Int))) = some r := by rw [if_pos rfl] at H;exact H
          clear H
          have H := H1
          clear H1
          obtain ⟨y538,hy538⟩ : ∃ y_ : List Int,y_ = (([2,1] : List Int)) := ⟨_,rfl⟩
          replace H : (some y538) = some r := by first | (rw [hy538];with_reducible exact H) | (have H2_ := (Option.bind_some _ _).symm.trans H;rw [hy538];with_reducible exact H2_) | (have H2_ := (Option.bind_some _ _).symm.trans H;with_reducible exact H2_) | with_reducible exact H | (rw [hy538];exact H) | exact H
          have Ny538 := Aside0.mk hy538
          clear hy538
          obtain rfl := Option.some.inj H
          go_enter Try.func34,Try.ntmps34
          go_wp2_with (first | ((with_reducible refine gate_dst (N := 1) rfl ?_);refine box_event ?hg (N := 1) ?hd (cs := #[.int .i64 a0_0,.bool true,.int .i64 a0_2,.string a0_3]) (t := 50) ?hr ?_;(case hd => rfl);(case hg => rfl);(case hr => first | (go_simp;done) | (go_simp;rfl));intro gb533 hg w13 hbox hb;have n0_ := Aside0.mk (below_step (by repeat (first | (with_reducible first | exact HB.out | apply below_alloc | apply pw_below_drewN | apply below_drew1) | exact HB.out)) hb);have n1_ := Aside0.mk (hbox);have n2_ := Aside0.mk ((by rw [hg];exact (below_size (by repeat (first | (with_reducible first | exact HB.out | apply below_alloc | apply pw_below_drewN | apply below_drew1) | exact HB.out))) : w.heap.size ≤ gb533));have n3_ := Aside0.mk ((by rw [hg];exact (below_size (by repeat (first | (with_reducible first | exact HB.out | apply below_alloc | apply pw_below_drewN | apply below_drew1) | exact HB.out))) : w.heap.size ≤ gb533));clear HB;have HB := n0_;have BK533 := n1_;have GW533 := n2_;have GE533 := n3_;clear n0_ n1_ n2_ n3_;clear hb hbox hg;have hcz14_0 : w13.cell? ⟨gb533,0,none⟩ = some (.int .i64 a0_0) := (blk_cell BK533.out 0).trans rfl;have hcz14_1 : w13.cell? ⟨gb533,1,none⟩ = some (.bool true) := (blk_cell BK533.out 1).trans rfl;have hcz14_2 : w13.cell? ⟨gb533,2,none⟩ = some (.int .i64 a0_2) := (blk_cell BK533.out 2).trans rfl;have hcz14_3 : w13.cell? ⟨gb533,3,none⟩ = some (.string a0_3) := (blk_cell BK533.out 3).trans rfl;have hfz14_0 := blk_frozen BK533.out 0;have hfz14_1 := blk_frozen BK533.out 1;have hfz14_2 := blk_frozen BK533.out 2;have hfz14_3 := blk_frozen BK533.out 3) | ((with_reducible refine gate_callee (f := 53) rfl ?_);refine goesL_ (some 9) rfl rfl Try.func53 (by kernel_rfl) rfl #[.agg #[.int .i64 a0_0,.bool true,.int .i64 a0_2,.string a0_3]] rfl (by (try simp only [List.map_toArray,List.map_cons,List.map_nil]);first | done | rfl | (simp only [List.length_drop,List.length_take];rfl)) ?_;(with_reducible refine (verdererref01_Right.calls a0_0 true a0_2 a0_3 true _ A2.out).mono ?_);rintro e w15 ⟨rfl,hb⟩;refine ⟨_,rfl,?_⟩;have n0_ := Aside0.mk (blk_below (g := gb533) (o := .cells #[.int .i64 a0_0,.bool true,.int .i64 a0_2,.string a0_3] 50 (0,0)) (by (with_reducible repeat (first | refine blk_drewN ?_ _ | refine blk_drew ?_ | refine blk_alloc ?_ _));exact BK533.out) hb);have n1_ := Aside0.mk (below_step (by repeat (first | (with_reducible first | exact HB.out | apply below_alloc | apply pw_below_drewN | apply below_drew1 | refine below_set ?_ GE533.out) | exact HB.out)) hb);clear BK533;clear HB;have BK533 := n0_;have HB := n1_;clear n0_ n1_;(try clear hb);(try clear hb2);(try clear hk);(try clear hi);have hcz16_0 : w15.cell? ⟨gb533,0,none⟩ = some (.int .i64 a0_0) := (blk_cell BK533.out 0).trans rfl;have hcz16_1 : w15.cell? ⟨gb533,1,none⟩ = some (.bool true) := (blk_cell BK533.out 1).trans rfl;have hcz16_2 : w15.cell? ⟨gb533,2,none⟩ = some (.int .i64 a0_2) := (blk_cell BK533.out 2).trans rfl;have hcz16_3 : w15.cell? ⟨gb533,3,none⟩ = some (.string a0_3) := (blk_cell BK533.out 3).trans rfl;have hfz16_0 := blk_frozen BK533.out 0;have hfz16_1 := blk_frozen BK533.out 1;have hfz16_2 := blk_frozen BK533.out 2;have hfz16_3 := blk_frozen BK533.out 3) | ((with_reducible refine gate_dst (N := 46) rfl ?_);refine Kd.R_lit (Kd.int .u8) _ 5 ?hg (N := 46) ?hd (xs := ([2,1] : List Int)) (inner := [.int .u8 2,.int .u8 1]) (ok := fun _ => True) (okp := fun _ => True) ?hr ?hp (fun _ hk => hk) trivial (Below.refl _ _) (Nat.le_refl _) (by simp) ?_;(case hd => rfl);(case hg => rfl);(case hr => first | (go_simp;done) | (go_simp;rfl));(case hp => exact (Reps.one (show Kd.M (Kd.int .u8) _ _ _ 2 [.int .u8 2] from rfl) (Reps.one (show Kd.M (Kd.int .u8) _ _ _ 1 [.int .u8 1] from rfl) (Reps.none _ _))));intro v539 w17 ho18 hb hg_ hnew_;clear hg_ hnew_;(first | rw [← Ny538.out] at ho18 | (simp only [Int.reduceToNat] at ho18;rw [← Ny538.out] at ho18));have n0_ := Aside0.mk (Kd.R_lower ho18 (below_size (by repeat (first | (with_reducible first | exact HB.out | apply below_alloc | apply pw_below_drewN | apply below_drew1 | refine below_set ?_ GE533.out) | exact HB.out))));have n1_ := Aside0.mk (blk_below (g := gb533) (o := .cells #[.int .i64 a0_0,.bool true,.int .i64 a0_2,.string a0_3] 50 (0,0)) (by (with_reducible repeat (first | refine blk_drewN ?_ _ | refine blk_drew ?_ | refine blk_alloc ?_ _));exact BK533.out) hb);have n2_ := Aside0.mk (below_step (by repeat (first | (with_reducible first | exact HB.out | apply below_alloc | apply pw_below_drewN | apply below_drew1 | refine below_set ?_ GE533.out) | exact HB.out)) hb);clear BK533;clear HB;have HO540 := n0_;have BK533 := n1_;have HB := n2_;clear n0_ n1_ n2_;clear hb ho18))
          go_ret
          exact ⟨_,by first | rfl | (simp [errW_none,errW_some] <;> rfl) | (simp [*,errW_none,errW_some] <;> rfl),by (with_reducible repeat (first | apply Kd.R_alloc | apply Kd.R_drewN | apply Kd.R_drew));exact HO540.out,by repeat (first | (with_reducible first | exact HB.out | apply below_alloc | apply pw_below_drewN | apply below_drew1 | refine below_set ?_ GE533.out) | exact HB.out)⟩
        · replace c12 := Bool.eq_false_iff.mpr c12
          subst c12
          have H1 : (some (([2,0] : List Int))) = some r := by rw [if_neg (show ¬ (false = true) by decide)] at H;exact H
          clear H
          have H := H1
          clear H1
          obtain ⟨y541,hy541⟩ : ∃ y_ : List Int,y_ = (([2,0] : List Int)) := ⟨_,rfl⟩
          replace H : (some y541) = some r := by first | (rw [hy541];with_reducible exact H) | (have H2_ := (Option.bind_some _ _).symm.trans H;rw [hy541];with_reducible exact H2_) | (have H2_ := (Option.bind_some _ _).symm.trans H;with_reducible exact H2_) | with_reducible exact H | (rw [hy541];exact H) | exact H
          have Ny541 := Aside0.mk hy541
          clear hy541
          obtain rfl := Option.some.inj H
          go_enter Try.func34,Try.ntmps34
          go_wp2_with (first | ((with_reducible refine gate_dst (N := 1) rfl ?_);refine box_event ?hg (N := 1) ?hd (cs := #[.int .i64 a0_0,.bool false,.int .i64 a0_2,.string a0_3]) (t := 50) ?hr ?_;(case hd => rfl);(case hg => rfl);(case hr => first | (go_simp;done) | (go_simp;rfl));intro gb533 hg w19 hbox hb;have n0_ := Aside0.mk (below_step (by repeat (first | (with_reducible first | exact HB.out | apply below_alloc | apply pw_below_drewN | apply below_drew1) | exact HB.out)) hb);have n1_ := Aside0.mk (hbox);have n2_ := Aside0.mk ((by rw [hg];exact (below_size (by repeat (first | (with_reducible first | exact HB.out | apply below_alloc | apply pw_below_drewN | apply below_drew1) | exact HB.out))) : w.heap.size ≤ gb533));have n3_ := Aside0.mk ((by rw [hg];exact (below_size (by repeat (first | (with_reducible first | exact HB.out | apply below_alloc | apply pw_below_drewN | apply below_drew1) | exact HB.out))) : w.heap.size ≤ gb533));clear HB;have HB := n0_;have BK533 := n1_;have GW533 := n2_;have GE533 := n3_;clear n0_ n1_ n2_ n3_;clear hb hbox hg;have hcz20_0 : w19.cell? ⟨gb533,0,none⟩ = some (.int .i64 a0_0) := (blk_cell BK533.out 0).trans rfl;have hcz20_1 : w19.cell? ⟨gb533,1,none⟩ = some (.bool false) := (blk_cell BK533.out 1).trans rfl;have hcz20_2 : w19.cell? ⟨gb533,2,none⟩ = some (.int .i64 a0_2) := (blk_cell BK533.out 2).trans rfl;have hcz20_3 : w19.cell? ⟨gb533,3,none⟩ = some (.string a0_3) := (blk_cell BK533.out 3).trans rfl;have hfz20_0 := blk_frozen BK533.out 0;have hfz20_1 := blk_frozen BK533.out 1;have hfz20_2 := blk_frozen BK533.out 2;have hfz20_3 := blk_frozen BK533.out 3) | ((with_reducible refine gate_callee (f := 53) rfl ?_);refine goesL_ (some 9) rfl rfl Try.func53 (by kernel_rfl) rfl #[.agg #[.int .i64 a0_0,.bool false,.int .i64 a0_2,.string a0_3]] rfl (by (try simp only [List.map_toArray,List.map_cons,List.map_nil]);first | done | rfl | (simp only [List.length_drop,List.length_take];rfl)) ?_;(with_reducible refine (verdererref01_Right.calls a0_0 false a0_2 a0_3 true _ A2.out).mono ?_);rintro e w21 ⟨rfl,hb⟩;refine ⟨_,rfl,?_⟩;have n0_ := Aside0.mk (blk_below (g := gb533) (o := .cells #[.int .i64 a0_0,.bool false,.int .i64 a0_2,.string a0_3] 50 (0,0)) (by (with_reducible repeat (first | refine blk_drewN ?_ _ | refine blk_drew ?_ | refine blk_alloc ?_ _));exact BK533.out) hb);have n1_ := Aside0.mk (below_step (by repeat (first | (with_reducible first | exact HB.out | apply below_alloc | apply pw_below_drewN | apply below_drew1 | refine below_set ?_ GE533.out) | exact HB.out)) hb);clear BK533;clear HB;have BK533 := n0_;have HB := n1_;clear n0_ n1_;(try clear hb);(try clear hb2);(try clear hk);(try clear hi);have hcz22_0 : w21.cell? ⟨gb533,0,none⟩ = some (.int .i64 a0_0) := (blk_cell BK533.out 0).trans rfl;have hcz22_1 : w21.cell? ⟨gb533,1,none⟩ = some (.bool false) := (blk_cell BK533.out 1).trans rfl;have hcz22_2 : w21.cell? ⟨gb533,2,none⟩ = some (.int .i64 a0_2) := (blk_cell BK533.out 2).trans rfl;have hcz22_3 : w21.cell? ⟨gb533,3,none⟩ = some (.string a0_3) := (blk_cell BK533.out 3).trans rfl;have hfz22_0 := blk_frozen BK533.out 0;have hfz22_1 := blk_frozen BK533.out 1;have hfz22_2 := blk_frozen BK533.out 2;have hfz22_3 := blk_frozen BK533.out 3) | ((with_reducible refine gate_dst (N := 47) rfl ?_);refine Kd.R_lit (Kd.int .u8) _ 5 ?hg (N := 47) ?hd (xs := ([2,0] : List Int)) (inner := [.int .u8 2,.int .u8 0]) (ok := fun _ => True) (okp := fun _ => True) ?hr ?hp (fun _ hk => hk) trivial (Below.refl _ _) (Nat.le_refl _) (by simp) ?_;(case hd => rfl);(case hg => rfl);(case hr => first | (go_simp;done) | (go_simp;rfl));(case hp => exact (Reps.one (show Kd.M (Kd.int .u8) _ _ _ 2 [.int .u8 2] from rfl) (Reps.one (show Kd.M (Kd.int .u8) _ _ _ 0 [.int .u8 0] from rfl) (Reps.none _ _))));intro v542 w23 ho24 hb hg_ hnew_;clear hg_ hnew_;(first | rw [← Ny541.out] at ho24 | (simp only [Int.reduceToNat] at ho24;rw [← Ny541.out] at ho24));have n0_ := Aside0.mk (Kd.R_lower ho24 (below_size (by repeat (first | (with_reducible first | exact HB.out | apply below_alloc | apply pw_below_drewN | apply below_drew1 | refine below_set ?_ GE533.out) | exact HB.out))));have n1_ := Aside0.mk (blk_below (g := gb533) (o := .cells #[.int .i64 a0_0,.bool false,.int .i64 a0_2,.string a0_3] 50 (0,0)) (by (with_reducible repeat (first | refine blk_drewN ?_ _ | refine blk_drew ?_ | refine blk_alloc ?_ _));exact BK533.out) hb);have n2_ := Aside0.mk (below_step (by repeat (first | (with_reducible first | exact HB.out | apply below_alloc | apply pw_below_drewN | apply below_drew1 | refine below_set ?_ GE533.out) | exact HB.out)) hb);clear BK533;clear HB;have HO543 := n0_;have BK533 := n1_;have HB := n2_;clear n0_ n1_ n2_;clear hb ho24))
          go_ret
          exact ⟨_,by first | rfl | (simp [errW_none,errW_some] <;> rfl) | (simp [*,errW_none,errW_some] <;> rfl),by (with_reducible repeat (first | apply Kd.R_alloc | apply Kd.R_drewN | apply Kd.R_drew));exact HO543.out,by repeat (first | (with_reducible first | exact HB.out | apply below_alloc | apply pw_below_drewN | apply below_drew1 | refine below_set ?_ GE533.out) | exact HB.out)⟩
      · rw [if_neg c11] at H
        have c11b0 : (a0_0 == 1) = false := beq_eq_false_iff_ne.mpr c11
        have c11b1 : (a0_0 != 1) = true := bne_iff_ne.mpr c11
        by_cases c25 : a0_0 = 2
        · rw [if_pos c25] at H
          have c25b0 : (a0_0 == 2) = true := beq_iff_eq.mpr c25
          have c25b1 : (a0_0 != 2) = false := bne_eq_false_iff_eq.mpr c25
          clear c25
          obtain ⟨y544,hy544⟩ : ∃ y_ : List Int,y_ = (([3] : List Int)) := ⟨_,rfl⟩
          replace H : (verdererref04_Value.l0 k (IntKind.u64.wrap ((IntKind.u64.wrap (a0_2)) + 9223372036854775808)) y544 7) = some r := by first | (rw [hy544];with_reducible exact H) | (have H2_ := (Option.bind_some _ _).symm.trans H;rw [hy544];with_reducible exact H2_) | (have H2_ := (Option.bind_some _ _).symm.trans H;with_reducible exact H2_) | with_reducible exact H | (rw [hy544];exact H) | exact H
          have Ny544 := Aside0.mk hy544
          clear hy544
          have H' := Aside0.mk H
          clear H
          go_enter Try.func34,Try.ntmps34
          go_wp2_with (first | ((with_reducible refine gate_dst (N := 1) rfl ?_);refine box_event ?hg (N := 1) ?hd (cs := #[.int .i64 a0_0,.bool a0_1,.int .i64 a0_2,.string a0_3]) (t := 50) ?hr ?_;(case hd => rfl);(case hg => rfl);(case hr => first | (go_simp;done) | (go_simp;rfl));intro gb533 hg w26 hbox hb;have n0_ := Aside0.mk (below_step (by repeat (first | (with_reducible first | exact HB.out | apply below_alloc | apply pw_below_drewN | apply below_drew1) | exact HB.out)) hb);have n1_ := Aside0.mk (hbox);have n2_ := Aside0.mk ((by rw [hg];exact (below_size (by repeat (first | (with_reducible first | exact HB.out | apply below_alloc | apply pw_below_drewN | apply below_drew1) | exact HB.out))) : w.heap.size ≤ gb533));have n3_ := Aside0.mk ((by rw [hg];exact (below_size (by repeat (first | (with_reducible first | exact HB.out | apply below_alloc | apply pw_below_drewN | apply below_drew1) | exact HB.out))) : w.heap.size ≤ gb533));clear HB;have HB := n0_;have BK533 := n1_;have GW533 := n2_;have GE533 := n3_;clear n0_ n1_ n2_ n3_;clear hb hbox hg;have hcz27_0 : w26.cell? ⟨gb533,0,none⟩ = some (.int .i64 a0_0) := (blk_cell BK533.out 0).trans rfl;have hcz27_1 : w26.cell? ⟨gb533,1,none⟩ = some (.bool a0_1) := (blk_cell BK533.out 1).trans rfl;have hcz27_2 : w26.cell? ⟨gb533,2,none⟩ = some (.int .i64 a0_2) := (blk_cell BK533.out 2).trans rfl;have hcz27_3 : w26.cell? ⟨gb533,3,none⟩ = some (.string a0_3) := (blk_cell BK533.out 3).trans rfl;have hfz27_0 := blk_frozen BK533.out 0;have hfz27_1 := blk_frozen BK533.out 1;have hfz27_2 := blk_frozen BK533.out 2;have hfz27_3 := blk_frozen BK533.out 3) | ((with_reducible refine gate_callee (f := 53) rfl ?_);refine goesL_ (some 9) rfl rfl Try.func53 (by kernel_rfl) rfl #[.agg #[.int .i64 a0_0,.bool a0_1,.int .i64 a0_2,.string a0_3]] rfl (by (try simp only [List.map_toArray,List.map_cons,List.map_nil]);first | done | rfl | (simp only [List.length_drop,List.length_take];rfl)) ?_;(with_reducible refine (verdererref01_Right.calls a0_0 a0_1 a0_2 a0_3 true _ A2.out).mono ?_);rintro e w28 ⟨rfl,hb⟩;refine ⟨_,rfl,?_⟩;have n0_ := Aside0.mk (blk_below (g := gb533) (o := .cells #[.int .i64 a0_0,.bool a0_1,.int .i64 a0_2,.string a0_3] 50 (0,0)) (by (with_reducible repeat (first | refine blk_drewN ?_ _ | refine blk_drew ?_ | refine blk_alloc ?_ _));exact BK533.out) hb);have n1_ := Aside0.mk (below_step (by repeat (first | (with_reducible first | exact HB.out | apply below_alloc | apply pw_below_drewN | apply below_drew1 | refine below_set ?_ GE533.out) | exact HB.out)) hb);clear BK533;clear HB;have BK533 := n0_;have HB := n1_;clear n0_ n1_;(try clear hb);(try clear hb2);(try clear hk);(try clear hi);have hcz29_0 : w28.cell? ⟨gb533,0,none⟩ = some (.int .i64 a0_0) := (blk_cell BK533.out 0).trans rfl;have hcz29_1 : w28.cell? ⟨gb533,1,none⟩ = some (.bool a0_1) := (blk_cell BK533.out 1).trans rfl;have hcz29_2 : w28.cell? ⟨gb533,2,none⟩ = some (.int .i64 a0_2) := (blk_cell BK533.out 2).trans rfl;have hcz29_3 : w28.cell? ⟨gb533,3,none⟩ = some (.string a0_3) := (blk_cell BK533.out 3).trans rfl;have hfz29_0 := blk_frozen BK533.out 0;have hfz29_1 := blk_frozen BK533.out 1;have hfz29_2 := blk_frozen BK533.out 2;have hfz29_3 := blk_frozen BK533.out 3) | ((with_reducible refine gate_dst (N := 54) rfl ?_);refine Kd.R_lit (Kd.int .u8) _ 5 ?hg (N := 54) ?hd (xs := ([3] : List Int)) (inner := [.int .u8 3]) (ok := fun _ => True) (okp := fun _ => True) ?hr ?hp (fun _ hk => hk) trivial (Below.refl _ _) (Nat.le_refl _) (by simp) ?_;(case hd => rfl);(case hg => rfl);(case hr => first | (go_simp;done) | (go_simp;rfl));(case hp => exact (Reps.one (show Kd.M (Kd.int .u8) _ _ _ 3 [.int .u8 3] from rfl) (Reps.none _ _)));intro v545 w30 ho31 hb hg_ hnew_;clear hg_ hnew_;(first | rw [← Ny544.out] at ho31 | (simp only [Int.reduceToNat] at ho31;rw [← Ny544.out] at ho31));have n0_ := Aside0.mk (Kd.R_lower ho31 (below_size (by repeat (first | (with_reducible first | exact HB.out | apply below_alloc | apply pw_below_drewN | apply below_drew1 | refine below_set ?_ GE533.out) | exact HB.out))));have n1_ := Aside0.mk (blk_below (g := gb533) (o := .cells #[.int .i64 a0_0,.bool a0_1,.int .i64 a0_2,.string a0_3] 50 (0,0)) (by (with_reducible repeat (first | refine blk_drewN ?_ _ | refine blk_drew ?_ | refine blk_alloc ?_ _));exact BK533.out) hb);have n2_ := Aside0.mk (below_step (by repeat (first | (with_reducible first | exact HB.out | apply below_alloc | apply pw_below_drewN | apply below_drew1 | refine below_set ?_ GE533.out) | exact HB.out)) hb);clear BK533;clear HB;have HO546 := n0_;have BK533 := n1_;have HB := n2_;clear n0_ n1_ n2_;clear hb ho31))
          go_loopg [4,5] k (fun kq v4 v5 w' => ∃ (x4_1 : List Int) (x5_1 : Int),v5 = .int .i64 x5_1 ∧ Aside0 (verdererref04_Value.l0 kq (IntKind.u64.wrap ((IntKind.u64.wrap (a0_2)) + 9223372036854775808)) x4_1 x5_1 = some r) ∧ Aside0 (kq ≤ k) ∧ Aside0 (Kd.R (Kd.int .u8) 5 w' w.heap.size (fun _ => True) v4 x4_1) ∧ Aside0 (w'.heap[gb533]? = some (.cells #[.int .i64 a0_0,.bool a0_1,.int .i64 a0_2,.string a0_3] 50 (0,0))) ∧ Aside0 (Below w.heap.size w w'))
          case atStart => exact ⟨(y544),(7),(by first | rfl | (simp;done) | (simp [*];done)),H',⟨Nat.le_refl _⟩,⟨by (with_reducible repeat (first | apply Kd.R_alloc | apply Kd.R_drewN | apply Kd.R_drew));exact HO546.out⟩,⟨by (with_reducible repeat (first | refine blk_drewN ?_ _ | refine blk_drew ?_ | refine blk_alloc ?_ _));exact BK533.out⟩,⟨by repeat (first | (with_reducible first | exact HB.out | apply below_alloc | apply pw_below_drewN | apply below_drew1 | refine below_set ?_ GE533.out) | exact HB.out)⟩⟩
          case round =>
            clear H'
            try clear c1
            try clear c2
            try clear p2
            try clear c3
            try clear c4
            try clear c4b0
            try clear c4b1
            try clear c5
            try clear c11
            try clear c11b0
            try clear c11b1
            try clear c12
            try clear c25
            try clear c25b0
            try clear c25b1
            try clear hcz14_0
            try clear hcz14_1
            try clear hcz14_2
            try clear hcz14_3
            try clear hcz16_0
            try clear hcz16_1
            try clear hcz16_2
            try clear hcz16_3
            try clear hcz20_0
            try clear hcz20_1
            try clear hcz20_2
            try clear hcz20_3
            try clear hcz22_0
            try clear hcz22_1
            try clear hcz22_2
            try clear hcz22_3
            try clear hcz27_0
            try clear hcz27_1
            try clear hcz27_2
            try clear hcz27_3
            try clear hcz29_0
            try clear hcz29_1
            try clear hcz29_2
            try clear hcz29_3
            try clear hcz6_0
            try clear hcz6_1
            try clear hcz6_2
            try clear hcz6_3
            try clear hcz8_0
            try clear hcz8_1
            try clear hcz8_2
            try clear hcz8_3
            try clear hfz14_0
            try clear hfz14_1
            try clear hfz14_2
            try clear hfz14_3
            try clear hfz16_0
            try clear hfz16_1
            try clear hfz16_2
            try clear hfz16_3
            try clear hfz20_0
            try clear hfz20_1
            try clear hfz20_2
            try clear hfz20_3
            try clear hfz22_0
            try clear hfz22_1
            try clear hfz22_2
            try clear hfz22_3
            try clear hfz27_0
            try clear hfz27_1
            try clear hfz27_2
            try clear hfz27_3
            try clear hfz29_0
            try clear hfz29_1
            try clear hfz29_2
            try clear hfz29_3
            try clear hfz6_0
            try clear hfz6_1
            try clear hfz6_2
            try clear hfz6_3
            try clear hfz8_0
            try clear hfz8_1
            try clear hfz8_2
            try clear hfz8_3
            obtain ⟨x4_1,x5_1,rfl,HA,HK1,HO_4,BK533,HB⟩ := hrel
            cases gk with
            | zero => exact absurd HA.out (by simp [verdererref04_Value.l0])
            | succ k1 =>
              have H := HA.out
              clear HA
              simp only [verdererref04_Value.l0] at H
              by_cases c32 : x5_1 ≥ 0
              · rw [if_pos c32] at H
                have c32b0 : decide (0 ≤ x5_1) = true := decide_eq_true c32
                clear c32
                obtain ⟨ji33,hji33⟩ : ∃ j_ : Int,(IntKind.u64.wrap (wrap64 (8 * x5_1))) = j_ := ⟨_,rfl⟩
                replace H : (if 0 ≤ (ji33) then (if x4_1.length < 140737488355328 then (verdererref04_Value.l0 k1 (IntKind.u64.wrap ((IntKind.u64.wrap (a0_2)) + 9223372036854775808)) (x4_1 ++ [(shr .u64 (IntKind.u64.wrap ((IntKind.u64.wrap (a0_2)) + 9223372036854775808)) (ji33)) % 256]) (wrap64 (x5_1 - 1))) else (none)) else (none)) = some r := by first | (rw [hji33] at H;exact H) | (simp only [hji33] at H ⊢;exact H)
                by_cases c34 : 0 ≤ (ji33)
                · rw [if_pos c34] at H
                  have c34b0 := eq_true c34
                  have c34b1 : decide (0 ≤ (ji33)) = true := decide_eq_true c34
                  clear c34
                  obtain ⟨ji35,hji35⟩ : ∃ j_ : Int,(shr .u64 (IntKind.u64.wrap ((IntKind.u64.wrap (a0_2)) + 9223372036854775808)) (ji33)) = j_ := ⟨_,rfl⟩
                  replace H : (if x4_1.length < 140737488355328 then (verdererref04_Value.l0 k1 (IntKind.u64.wrap ((IntKind.u64.wrap (a0_2)) + 9223372036854775808)) (x4_1 ++ [(ji35) % 256]) (wrap64 (x5_1 - 1))) else (none)) = some r := by first | (rw [hji35] at H;exact H) | (simp only [hji35] at H ⊢;exact H)
                  have hji35_ : ((IntKind.u64.wrap ((IntKind.u64.wrap (a0_2)) + 9223372036854775808)) / 2 ^ min (ji33).toNat 64) = ji35 := hji35
                  have hji35z : (ji33) ≤ 64 → ((IntKind.u64.wrap ((IntKind.u64.wrap (a0_2)) + 9223372036854775808)) / 2 ^ (ji33).toNat) = ji35 := shr_small hji35
                  by_cases c36 : x4_1.length < 140737488355328
                  · rw [if_pos c36] at H
                    have LMc36 := Aside0.mk c36
                    clear c36
                    obtain ⟨y547,hy547⟩ : ∃ y_ : List Int,y_ = (x4_1 ++ [(ji35) % 256]) := ⟨_,rfl⟩
                    replace H : (verdererref04_Value.l0 k1 (IntKind.u64.wrap ((IntKind.u64.wrap (a0_2)) + 9223372036854775808)) y547 (wrap64 (x5_1 - 1))) = some r := by first | (rw [hy547];with_reducible exact H) | (have H2_ := (Option.bind_some _ _).symm.trans H;rw [hy547];with_reducible exact H2_) | (have H2_ := (Option.bind_some _ _).symm.trans H;with_reducible exact H2_) | with_reducible exact H | (rw [hy547];exact H) | exact H
                    have Ny547 := Aside0.mk hy547
                    clear hy547
                    have H' := Aside0.mk H
                    clear H
                    go_wp2_with (first | ((with_reducible refine gate_builtin (b := .append) (xs := #[.tmp 59,.tmp 66]) rfl ?_);at_builtin;refine Kd.R_append (Kd.int .u8) (w0 := w) w.heap.size rfl (.tmp 59) (.tmp 66) 47 5 (.int .u8 0) 1 rfl Try.underlying47 info5 rfl (by decide) (by omega) u4 x4_1 ((ji35) % 256) [.int .u8 ((ji35) % 256)] (fun _ => True) (fun _ => False) rfl rfl ?aP (fun _ hk => hk.elim) ?aF ?aO ?aB ?aS ?aL ?_;(case aP => exact rfl);(case aB => exact (by repeat (first | (with_reducible first | exact HB.out | apply below_alloc | apply pw_below_drewN | apply below_drew1 | refine below_set ?_ GE533.out) | exact HB.out)));(case aF => exact (fun _ _ => trivial));(case aO => exact (by (with_reducible repeat (first | apply Kd.R_alloc | apply Kd.R_drewN | apply Kd.R_drew));exact HO_4.out));(case aS => exact (below_size (by repeat (first | (with_reducible first | exact HB.out | apply below_alloc | apply pw_below_drewN | apply below_drew1 | refine below_set ?_ GE533.out) | exact HB.out))));(case aL => have := LMc36.out;omega);intro v548 w37 ho hb hg hat;rw [← Ny547.out] at ho;have n0_ := Aside0.mk (blk_grown (g := gb533) (o := .cells #[.int .i64 a0_0,.bool a0_1,.int .i64 a0_2,.string a0_3] 50 (0,0)) (by (with_reducible repeat (first | refine blk_drewN ?_ _ | refine blk_drew ?_ | refine blk_alloc ?_ _));exact BK533.out) hg (Kd.R_ne HO_4.out BK533.out (by decide)));have n1_ := Aside0.mk (hb);have n2_ := Aside0.mk (ho);clear BK533;clear HB;clear HO_4;have BK533 := n0_;have HB := n1_;have HO549 := n2_;clear n0_ n1_ n2_;clear ho hb hg hat))
                    go_roundg k1
                    case measure => have := HK1.out;omega
                    case rel => exact ⟨(y547),(wrap64 (x5_1 - 1)),(by first | rfl | (simp;done) | (simp [*];done)),H',⟨by have := HK1.out;omega⟩,⟨by (with_reducible repeat (first | apply Kd.R_alloc | apply Kd.R_drewN | apply Kd.R_drew));exact HO549.out⟩,⟨by (with_reducible repeat (first | refine blk_drewN ?_ _ | refine blk_drew ?_ | refine blk_alloc ?_ _));exact BK533.out⟩,⟨by repeat (first | (with_reducible first | exact HB.out | apply below_alloc | apply pw_below_drewN | apply below_drew1 | refine below_set ?_ GE533.out) | exact HB.out)⟩⟩
                  · rw [if_neg c36] at H
                    exact absurd H (by simp)
                · rw [if_neg c34] at H
                  exact absurd H (by simp)
              · rw [if_neg c32] at H
                have c32b0 : decide (0 ≤ x5_1) = false := decide_eq_false c32
                clear c32
                obtain rfl := Option.some.inj H
                go_wp2
                go_ret
                exact ⟨_,by first | rfl | (simp [errW_none,errW_some] <;> rfl) | (simp [*,errW_none,errW_some] <;> rfl),by (with_reducible repeat (first | apply Kd.R_alloc | apply Kd.R_drewN | apply Kd.R_drew));exact HO_4.out,by repeat (first | (with_reducible first | exact HB.out | apply below_alloc | apply pw_below_drewN | apply below_drew1 | refine below_set ?_ GE533.out) | exact HB.out)⟩
        · rw [if_neg c25] at H
          have c25b0 : (a0_0 == 2) = false := beq_eq_false_iff_ne.mpr c25
          have c25b1 : (a0_0 != 2) = true := bne_iff_ne.mpr c25
          obtain ⟨y550,hy550⟩ : ∃ y_ : List Int,y_ = (([4] : List Int)) := ⟨_,rfl⟩
          replace H : (verdererref04_Value.l1 k y550 0 a0_0 a0_1 a0_2 a0_3) = some r := by first | (rw [hy550];with_reducible exact H) | (have H2_ := (Option.bind_some _ _).symm.trans H;rw [hy550];with_reducible exact H2_) | (have H2_ := (Option.bind_some _ _).symm.trans H;with_reducible exact H2_) | with_reducible exact H | (rw [hy550];exact H) | exact H
          have Ny550 := Aside0.mk hy550
          clear hy550
          have H' := Aside0.mk H
          clear H
          go_enter Try.func34,Try.ntmps34
          go_wp2_with (first | ((with_reducible refine gate_dst (N := 1) rfl ?_);refine box_event ?hg (N := 1) ?hd (cs := #[.int .i64 a0_0,.bool a0_1,.int .i64 a0_2,.string a0_3]) (t := 50) ?hr ?_;(case hd => rfl);(case hg => rfl);(case hr => first | (go_simp;done) | (go_simp;rfl));intro gb533 hg w38 hbox hb;have n0_ := Aside0.mk (below_step (by repeat (first | (with_reducible first | exact HB.out | apply below_alloc | apply pw_below_drewN | apply below_drew1) | exact HB.out)) hb);have n1_ := Aside0.mk (hbox);have n2_ := Aside0.mk ((by rw [hg];exact (below_size (by repeat (first | (with_reducible first | exact HB.out | apply below_alloc | apply pw_below_drewN | apply below_drew1) | exact HB.out))) : w.heap.size ≤ gb533));have n3_ := Aside0.mk ((by rw [hg];exact (below_size (by repeat (first | (with_reducible first | exact HB.out | apply below_alloc | apply pw_below_drewN | apply below_drew1) | exact HB.out))) : w.heap.size ≤ gb533));clear HB;have HB := n0_;have BK533 := n1_;have GW533 := n2_;have GE533 := n3_;clear n0_ n1_ n2_ n3_;clear hb hbox hg;have hcz39_0 : w38.cell? ⟨gb533,0,none⟩ = some (.int .i64 a0_0) := (blk_cell BK533.out 0).trans rfl;have hcz39_1 : w38.cell? ⟨gb533,1,none⟩ = some (.bool a0_1) := (blk_cell BK533.out 1).trans rfl;have hcz39_2 : w38.cell? ⟨gb533,2,none⟩ = some (.int .i64 a0_2) := (blk_cell BK533.out 2).trans rfl;have hcz39_3 : w38.cell? ⟨gb533,3,none⟩ = some (.string a0_3) := (blk_cell BK533.out 3).trans rfl;have hfz39_0 := blk_frozen BK533.out 0;have hfz39_1 := blk_frozen BK533.out 1;have hfz39_2 := blk_frozen BK533.out 2;have hfz39_3 := blk_frozen BK533.out 3) | ((with_reducible refine gate_callee (f := 53) rfl ?_);refine goesL_ (some 9) rfl rfl Try.func53 (by kernel_rfl) rfl #[.agg #[.int .i64 a0_0,.bool a0_1,.int .i64 a0_2,.string a0_3]] rfl (by (try simp only [List.map_toArray,List.map_cons,List.map_nil]);first | done | rfl | (simp only [List.length_drop,List.length_take];rfl)) ?_;(with_reducible refine (verdererref01_Right.calls a0_0 a0_1 a0_2 a0_3 true _ A2.out).mono ?_);rintro e w40 ⟨rfl,hb⟩;refine ⟨_,rfl,?_⟩;have n0_ := Aside0.mk (blk_below (g := gb533) (o := .cells #[.int .i64 a0_0,.bool a0_1,.int .i64 a0_2,.string a0_3] 50 (0,0)) (by (with_reducible repeat (first | refine blk_drewN ?_ _ | refine blk_drew ?_ | refine blk_alloc ?_ _));exact BK533.out) hb);have n1_ := Aside0.mk (below_step (by repeat (first | (with_reducible first | exact HB.out | apply below_alloc | apply pw_below_drewN | apply below_drew1 | refine below_set ?_ GE533.out) | exact HB.out)) hb);clear BK533;clear HB;have BK533 := n0_;have HB := n1_;clear n0_ n1_;(try clear hb);(try clear hb2);(try clear hk);(try clear hi);have hcz41_0 : w40.cell? ⟨gb533,0,none⟩ = some (.int .i64 a0_0) := (blk_cell BK533.out 0).trans rfl;have hcz41_1 : w40.cell? ⟨gb533,1,none⟩ = some (.bool a0_1) := (blk_cell BK533.out 1).trans rfl;have hcz41_2 : w40.cell? ⟨gb533,2,none⟩ = some (.int .i64 a0_2) := (blk_cell BK533.out 2).trans rfl;have hcz41_3 : w40.cell? ⟨gb533,3,none⟩ = some (.string a0_3) := (blk_cell BK533.out 3).trans rfl;have hfz41_0 := blk_frozen BK533.out 0;have hfz41_1 := blk_frozen BK533.out 1;have hfz41_2 := blk_frozen BK533.out 2;have hfz41_3 := blk_frozen BK533.out 3) | ((with_reducible refine gate_dst (N := 13) rfl ?_);refine Kd.R_lit (Kd.int .u8) _ 5 ?hg (N := 13) ?hd (xs := ([4] : List Int)) (inner := [.int .u8 4]) (ok := fun _ => True) (okp := fun _ => True) ?hr ?hp (fun _ hk => hk) trivial (Below.refl _ _) (Nat.le_refl _) (by simp) ?_;(case hd => rfl);(case hg => rfl);(case hr => first | (go_simp;done) | (go_simp;rfl));(case hp => exact (Reps.one (show Kd.M (Kd.int .u8) _ _ _ 4 [.int .u8 4] from rfl) (Reps.none _ _)));intro v551 w42 ho43 hb hg_ hnew_;clear hg_ hnew_;(first | rw [← Ny550.out] at ho43 | (simp only [Int.reduceToNat] at ho43;rw [← Ny550.out] at ho43));have n0_ := Aside0.mk (Kd.R_lower ho43 (below_size (by repeat (first | (with_reducible first | exact HB.out | apply below_alloc | apply pw_below_drewN | apply below_drew1 | refine below_set ?_ GE533.out) | exact HB.out))));have n1_ := Aside0.mk (blk_below (g := gb533) (o := .cells #[.int .i64 a0_0,.bool a0_1,.int .i64 a0_2,.string a0_3] 50 (0,0)) (by (with_reducible repeat (first | refine blk_drewN ?_ _ | refine blk_drew ?_ | refine blk_alloc ?_ _));exact BK533.out) hb);have n2_ := Aside0.mk (below_step (by repeat (first | (with_reducible first | exact HB.out | apply below_alloc | apply pw_below_drewN | apply below_drew1 | refine below_set ?_ GE533.out) | exact HB.out)) hb);clear BK533;clear HB;have HO552 := n0_;have BK533 := n1_;have HB := n2_;clear n0_ n1_ n2_;clear hb ho43))
          go_loopg [6,7] k (fun kq v6 v7 w' => ∃ (x6_1 : List Int) (x7_1 : Int),v7 = .int .i64 x7_1 ∧ Aside0 (verdererref04_Value.l1 kq x6_1 x7_1 a0_0 a0_1 a0_2 a0_3 = some r) ∧ Aside0 (kq ≤ k) ∧ Aside0 (Kd.R (Kd.int .u8) 5 w' w.heap.size (fun _ => True) v6 x6_1) ∧ Aside0 (w'.heap[gb533]? = some (.cells #[.int .i64 a0_0,.bool a0_1,.int .i64 a0_2,.string a0_3] 50 (0,0))) ∧ Aside0 (Below w.heap.size w w'))
          case atStart => exact ⟨(y550),(0),(by first | rfl | (simp;done) | (simp [*];done)),H',⟨Nat.le_refl _⟩,⟨by (with_reducible repeat (first | apply Kd.R_alloc | apply Kd.R_drewN | apply Kd.R_drew));exact HO552.out⟩,⟨by (with_reducible repeat (first | refine blk_drewN ?_ _ | refine blk_drew ?_ | refine blk_alloc ?_ _));exact BK533.out⟩,⟨by repeat (first | (with_reducible first | exact HB.out | apply below_alloc | apply pw_below_drewN | apply below_drew1 | refine below_set ?_ GE533.out) | exact HB.out)⟩⟩
          case round =>
            clear H'
            try clear c1
            try clear c2
            try clear p2
            try clear c3
            try clear c4
            try clear c4b0
            try clear c4b1
            try clear c5
            try clear p6
            try clear c11
            try clear c11b0
            try clear c11b1
            try clear c12
            try clear c25
            try clear c25b0
            try clear c25b1
            try clear c32
            try clear c32b0
            try clear c34
            try clear c34b0
            try clear c34b1
            try clear c36
            try clear hcz14_0
            try clear hcz14_1
            try clear hcz14_2
            try clear hcz14_3
            try clear hcz16_0
            try clear hcz16_1
            try clear hcz16_2
            try clear hcz16_3
            try clear hcz20_0
            try clear hcz20_1
            try clear hcz20_2
            try clear hcz20_3
            try clear hcz22_0
            try clear hcz22_1
            try clear hcz22_2
            try clear hcz22_3
            try clear hcz27_0
            try clear hcz27_1
            try clear hcz27_2
            try clear hcz27_3
            try clear hcz29_0
            try clear hcz29_1
            try clear hcz29_2
            try clear hcz29_3
            try clear hcz39_0
            try clear hcz39_1
            try clear hcz39_2
            try clear hcz39_3
            try clear hcz41_0
            try clear hcz41_1
            try clear hcz41_2
            try clear hcz41_3
            try clear hcz6_0
            try clear hcz6_1
            try clear hcz6_2
            try clear hcz6_3
            try clear hcz8_0
            try clear hcz8_1
            try clear hcz8_2
            try clear hcz8_3
            try clear hfz14_0
            try clear hfz14_1
            try clear hfz14_2
            try clear hfz14_3
            try clear hfz16_0
            try clear hfz16_1
            try clear hfz16_2
            try clear hfz16_3
            try clear hfz20_0
            try clear hfz20_1
            try clear hfz20_2
            try clear hfz20_3
            try clear hfz22_0
            try clear hfz22_1
            try clear hfz22_2
            try clear hfz22_3
            try clear hfz27_0
            try clear hfz27_1
            try clear hfz27_2
            try clear hfz27_3
            try clear hfz29_0
            try clear hfz29_1
            try clear hfz29_2
            try clear hfz29_3
            try clear hfz39_0
            try clear hfz39_1
            try clear hfz39_2
            try clear hfz39_3
            try clear hfz41_0
            try clear hfz41_1
            try clear hfz41_2
            try clear hfz41_3
            try clear hfz6_0
            try clear hfz6_1
            try clear hfz6_2
            try clear hfz6_3
            try clear hfz8_0
            try clear hfz8_1
            try clear hfz8_2
            try clear hfz8_3
            try clear p2
            obtain ⟨x6_1,x7_1,rfl,HA,HK1,HO_6,BK533,HB⟩ := hrel
            cases gk with
            | zero => exact absurd HA.out (by simp [verdererref04_Value.l1])
            | succ k1 =>
              have H := HA.out
              clear HA
              simp only [verdererref04_Value.l1] at H
              by_cases c44 : x7_1 < (a0_3.size : Int)
              · rw [if_pos c44] at H
                have c44b0 : decide (x7_1 < (a0_3.size : Int)) = true := decide_eq_true c44
                clear c44
                by_cases c45 : 0 ≤ x7_1
                · rw [if_pos c45] at H
                  have c45b0 : decide (0 ≤ x7_1) = true := decide_eq_true c45
                  clear c45
                  by_cases c47 : x6_1.length < 140737488355328
                  · rw [if_pos c47] at H
                    have LMc47 := Aside0.mk c47
                    clear c47
                    obtain ⟨y553,hy553⟩ : ∃ y_ : List Int,y_ = (x6_1 ++ [bt a0_3 x7_1]) := ⟨_,rfl⟩
                    replace H : (if (bt a0_3 x7_1) = 0 then (if y553.length < 140737488355328 then (verdererref04_Value.l1 k1 (y553 ++ [255]) (wrap64 (x7_1 + 1)) a0_0 a0_1 a0_2 a0_3) else (none)) else (verdererref04_Value.l1 k1 y553 (wrap64 (x7_1 + 1)) a0_0 a0_1 a0_2 a0_3)) = some r := by first | (rw [hy553];with_reducible exact H) | (have H2_ := (Option.bind_some _ _).symm.trans H;rw [hy553];with_reducible exact H2_) | (have H2_ := (Option.bind_some _ _).symm.trans H;with_reducible exact H2_) | with_reducible exact H | (rw [hy553];exact H) | exact H
                    have Ny553 := Aside0.mk hy553
                    clear hy553
                    by_cases c49 : (bt a0_3 x7_1) = 0
                    · rw [if_pos c49] at H
                      have c49b0 : ((bt a0_3 x7_1) == 0) = true := beq_iff_eq.mpr c49
                      have c49b1 : ((bt a0_3 x7_1) != 0) = false := bne_eq_false_iff_eq.mpr c49
                      clear c49
                      by_cases c50 : y553.length < 140737488355328
                      · rw [if_pos c50] at H
                        have LMc50 := Aside0.mk c50
                        clear c50
                        obtain ⟨y556,hy556⟩ : ∃ y_ : List Int,y_ = (y553 ++ [255]) := ⟨_,rfl⟩
                        replace H : (verdererref04_Value.l1 k1 y556 (wrap64 (x7_1 + 1)) a0_0 a0_1 a0_2 a0_3) = some r := by first | (rw [hy556];with_reducible exact H) | (have H2_ := (Option.bind_some _ _).symm.trans H;rw [hy556];with_reducible exact H2_) | (have H2_ := (Option.bind_some _ _).symm.trans H;with_reducible exact H2_) | with_reducible exact H | (rw [hy556];exact H) | exact H
                        have Ny556 := Aside0.mk hy556
                        clear hy556
                        have H' := Aside0.mk H
                        clear H
                        have hcz51_0 : wr.cell? ⟨gb533,0,none⟩ = some (.int .i64 a0_0) := (blk_cell BK533.out 0).trans rfl
                        have hcz51_1 : wr.cell? ⟨gb533,1,none⟩ = some (.bool a0_1) := (blk_cell BK533.out 1).trans rfl
                        have hcz51_2 : wr.cell? ⟨gb533,2,none⟩ = some (.int .i64 a0_2) := (blk_cell BK533.out 2).trans rfl
                        have hcz51_3 : wr.cell? ⟨gb533,3,none⟩ = some (.string a0_3) := (blk_cell BK533.out 3).trans rfl
                        have hfz51_0 := blk_frozen BK533.out 0
                        have hfz51_1 := blk_frozen BK533.out 1
                        have hfz51_2 := blk_frozen BK533.out 2
                        have hfz51_3 := blk_frozen BK533.out 3
                        have p46 : 0 ≤ (x7_1 : Int) := of_decide_eq_true (by first | (with_reducible assumption) | assumption)
                        have q46 : x7_1 < (a0_3.size : Int) := of_decide_eq_true (by first | (with_reducible assumption) | assumption)
                        have hx46 := bt_at a0_3 x7_1
                        replace p46 := eq_true p46
                        replace q46 := eq_true q46
                        go_wp2_with (first | ((with_reducible refine gate_builtin (b := .append) (xs := #[.tmp 21,.tmp 26]) rfl ?_);at_builtin;refine Kd.R_append (Kd.int .u8) (w0 := w) w.heap.size rfl (.tmp 21) (.tmp 26) 47 5 (.int .u8 0) 1 rfl Try.underlying47 info5 rfl (by decide) (by omega) u6 x6_1 (bt a0_3 x7_1) [.int .u8 (bt a0_3 x7_1)] (fun _ => True) (fun _ => False) rfl rfl ?aP (fun _ hk => hk.elim) ?aF ?aO ?aB ?aS ?aL ?_;(case aP => exact rfl);(case aB => exact (by repeat (first | (with_reducible first | exact HB.out | apply below_alloc | apply pw_below_drewN | apply below_drew1 | refine below_set ?_ GE533.out) | exact HB.out)));(case aF => exact (fun _ _ => trivial));(case aO => exact (by (with_reducible repeat (first | apply Kd.R_alloc | apply Kd.R_drewN | apply Kd.R_drew));exact HO_6.out));(case aS => exact (below_size (by repeat (first | (with_reducible first | exact HB.out | apply below_alloc | apply pw_below_drewN | apply below_drew1 | refine below_set ?_ GE533.out) | exact HB.out))));(case aL => have := LMc47.out;omega);intro v554 w52 ho hb hg hat;rw [← Ny553.out] at ho;have n0_ := Aside0.mk (blk_grown (g := gb533) (o := .cells #[.int .i64 a0_0,.bool a0_1,.int .i64 a0_2,.string a0_3] 50 (0,0)) (by (with_reducible repeat (first | refine blk_drewN ?_ _ | refine blk_drew ?_ | refine blk_alloc ?_ _));exact BK533.out) hg (Kd.R_ne HO_6.out BK533.out (by decide)));have n1_ := Aside0.mk (hb);have n2_ := Aside0.mk (ho);clear BK533;clear HB;clear HO_6;have BK533 := n0_;have HB := n1_;have HO555 := n2_;clear n0_ n1_ n2_;clear ho hb hg hat;have hcz53_0 : w52.cell? ⟨gb533,0,none⟩ = some (.int .i64 a0_0) := (blk_cell BK533.out 0).trans rfl;have hcz53_1 : w52.cell? ⟨gb533,1,none⟩ = some (.bool a0_1) := (blk_cell BK533.out 1).trans rfl;have hcz53_2 : w52.cell? ⟨gb533,2,none⟩ = some (.int .i64 a0_2) := (blk_cell BK533.out 2).trans rfl;have hcz53_3 : w52.cell? ⟨gb533,3,none⟩ = some (.string a0_3) := (blk_cell BK533.out 3).trans rfl;have hfz53_0 := blk_frozen BK533.out 0;have hfz53_1 := blk_frozen BK533.out 1;have hfz53_2 := blk_frozen BK533.out 2;have hfz53_3 := blk_frozen BK533.out 3;have p48 : 0 ≤ (x7_1 : Int) := of_decide_eq_true (by first | (with_reducible assumption) | assumption);have q48 : x7_1 < (a0_3.size : Int) := of_decide_eq_true (by first | (with_reducible assumption) | assumption);have hx48 := bt_at a0_3 x7_1;replace p48 := eq_true p48;replace q48 := eq_true q48) | ((with_reducible refine gate_builtin (b := .append) (xs := #[.tmp 33,.tmp 34]) rfl ?_);at_builtin;refine Kd.R_append (Kd.int .u8) (w0 := w) w.heap.size rfl (.tmp 33) (.tmp 34) 47 5 (.int .u8 0) 1 rfl Try.underlying47 info5 rfl (by decide) (by omega) v554 y553 255 [.int .u8 255] (fun _ => True) (fun _ => False) rfl rfl ?aP (fun _ hk => hk.elim) ?aF ?aO ?aB ?aS ?aL ?_;(case aP => exact rfl);(case aB => exact (by repeat (first | (with_reducible first | exact HB.out | apply below_alloc | apply pw_below_drewN | apply below_drew1 | refine below_set ?_ GE533.out) | exact HB.out)));(case aF => exact (fun _ _ => trivial));(case aO => exact (by (with_reducible repeat (first | apply Kd.R_alloc | apply Kd.R_drewN | apply Kd.R_drew));exact HO555.out));(case aS => exact (below_size (by repeat (first | (with_reducible first | exact HB.out | apply below_alloc | apply pw_below_drewN | apply below_drew1 | refine below_set ?_ GE533.out) | exact HB.out))));(case aL => have := LMc50.out;omega);intro v557 w54 ho hb hg hat;rw [← Ny556.out] at ho;have n0_ := Aside0.mk (blk_grown (g := gb533) (o := .cells #[.int .i64 a0_0,.bool a0_1,.int .i64 a0_2,.string a0_3] 50 (0,0)) (by (with_reducible repeat (first | refine blk_drewN ?_ _ | refine blk_drew ?_ | refine blk_alloc ?_ _));exact BK533.out) hg (Kd.R_ne HO555.out BK533.out (by decide)));have n1_ := Aside0.mk (hb);have n2_ := Aside0.mk (ho);clear BK533;clear HB;clear HO555;have BK533 := n0_;have HB := n1_;have HO558 := n2_;clear n0_ n1_ n2_;clear ho hb hg hat))
                        go_roundg k1
                        case measure => have := HK1.out;omega
                        case rel => exact ⟨(y556),(wrap64 (x7_1 + 1)),(by first | rfl | (simp;done) | (simp [*];done)),H',⟨by have := HK1.out;omega⟩,⟨by (with_reducible repeat (first | apply Kd.R_alloc | apply Kd.R_drewN | apply Kd.R_drew));exact HO558.out⟩,⟨by (with_reducible repeat (first | refine blk_drewN ?_ _ | refine blk_drew ?_ | refine blk_alloc ?_ _));exact BK533.out⟩,⟨by repeat (first | (with_reducible first | exact HB.out | apply below_alloc | apply pw_below_drewN | apply below_drew1 | refine below_set ?_ GE533.out) | exact HB.out)⟩⟩
                      · rw [if_neg c50] at H
                        exact absurd H (by simp)
                    · rw [if_neg c49] at H
                      have c49b0 : ((bt a0_3 x7_1) == 0) = false := beq_eq_false_iff_ne.mpr c49
                      have c49b1 : ((bt a0_3 x7_1) != 0) = true := bne_iff_ne.mpr c49
                      have H' := Aside0.mk H
                      clear H
                      have hcz55_0 : wr.cell? ⟨gb533,0,none⟩ = some (.int .i64 a0_0) := (blk_cell BK533.out 0).trans rfl
                      have hcz55_1 : wr.cell? ⟨gb533,1,none⟩ = some (.bool a0_1) := (blk_cell BK533.out 1).trans rfl
                      have hcz55_2 : wr.cell? ⟨gb533,2,none⟩ = some (.int .i64 a0_2) := (blk_cell BK533.out 2).trans rfl
                      have hcz55_3 : wr.cell? ⟨gb533,3,none⟩ = some (.string a0_3) := (blk_cell BK533.out 3).trans rfl
                      have hfz55_0 := blk_frozen BK533.out 0
                      have hfz55_1 := blk_frozen BK533.out 1
                      have hfz55_2 := blk_frozen BK533.out 2
                      have hfz55_3 := blk_frozen BK533.out 3
                      have p46 : 0 ≤ (x7_1 : Int) := of_decide_eq_true (by first | (with_reducible assumption) | assumption)
                      have q46 : x7_1 < (a0_3.size : Int) := of_decide_eq_true (by first | (with_reducible assumption) | assumption)
                      have hx46 := bt_at a0_3 x7_1
                      replace p46 := eq_true p46
                      replace q46 := eq_true q46
                      go_wp2_with (first | ((with_reducible refine gate_builtin (b := .append) (xs := #[.tmp 21,.tmp 26]) rfl ?_);at_builtin;refine Kd.R_append (Kd.int .u8) (w0 := w) w.heap.size rfl (.tmp 21) (.tmp 26) 47 5 (.int .u8 0) 1 rfl Try.underlying47 info5 rfl (by decide) (by omega) u6 x6_1 (bt a0_3 x7_1) [.int .u8 (bt a0_3 x7_1)] (fun _ => True) (fun _ => False) rfl rfl ?aP (fun _ hk => hk.elim) ?aF ?aO ?aB ?aS ?aL ?_;(case aP => exact rfl);(case aB => exact (by repeat (first | (with_reducible first | exact HB.out | apply below_alloc | apply pw_below_drewN | apply below_drew1 | refine below_set ?_ GE533.out) | exact HB.out)));(case aF => exact (fun _ _ => trivial));(case aO => exact (by (with_reducible repeat (first | apply Kd.R_alloc | apply Kd.R_drewN | apply Kd.R_drew));exact HO_6.out));(case aS => exact (below_size (by repeat (first | (with_reducible first | exact HB.out | apply below_alloc | apply pw_below_drewN | apply below_drew1 | refine below_set ?_ GE533.out) | exact HB.out))));(case aL => have := LMc47.out;omega);intro v554 w56 ho hb hg hat;rw [← Ny553.out] at ho;have n0_ := Aside0.mk (blk_grown (g := gb533) (o := .cells #[.int .i64 a0_0,.bool a0_1,.int .i64 a0_2,.string a0_3] 50 (0,0)) (by (with_reducible repeat (first | refine blk_drewN ?_ _ | refine blk_drew ?_ | refine blk_alloc ?_ _));exact BK533.out) hg (Kd.R_ne HO_6.out BK533.out (by decide)));have n1_ := Aside0.mk (hb);have n2_ := Aside0.mk (ho);clear BK533;clear HB;clear HO_6;have BK533 := n0_;have HB := n1_;have HO555 := n2_;clear n0_ n1_ n2_;clear ho hb hg hat;have hcz57_0 : w56.cell? ⟨gb533,0,none⟩ = some (.int .i64 a0_0) := (blk_cell BK533.out 0).trans rfl;have hcz57_1 : w56.cell? ⟨gb533,1,none⟩ = some (.bool a0_1) := (blk_cell BK533.out 1).trans rfl;have hcz57_2 : w56.cell? ⟨gb533,2,none⟩ = some (.int .i64 a0_2) := (blk_cell BK533.out 2).trans rfl;have hcz57_3 : w56.cell? ⟨gb533,3,none⟩ = some (.string a0_3) := (blk_cell BK533.out 3).trans rfl;have hfz57_0 := blk_frozen BK533.out 0;have hfz57_1 := blk_frozen BK533.out 1;have hfz57_2 := blk_frozen BK533.out 2;have hfz57_3 := blk_frozen BK533.out 3;have p48 : 0 ≤ (x7_1 : Int) := of_decide_eq_true (by first | (with_reducible assumption) | assumption);have q48 : x7_1 < (a0_3.size : Int) := of_decide_eq_true (by first | (with_reducible assumption) | assumption);have hx48 := bt_at a0_3 x7_1;replace p48 := eq_true p48;replace q48 := eq_true q48))
                      go_roundg k1
                      case measure => have := HK1.out;omega
                      case rel => exact ⟨(y553),(wrap64 (x7_1 + 1)),(by first | rfl | (simp;done) | (simp [*];done)),H',⟨by have := HK1.out;omega⟩,⟨by (with_reducible repeat (first | apply Kd.R_alloc | apply Kd.R_drewN | apply Kd.R_drew));exact HO555.out⟩,⟨by (with_reducible repeat (first | refine blk_drewN ?_ _ | refine blk_drew ?_ | refine blk_alloc ?_ _));exact BK533.out⟩,⟨by repeat (first | (with_reducible first | exact HB.out | apply below_alloc | apply pw_below_drewN | apply below_drew1 | refine below_set ?_ GE533.out) | exact HB.out)⟩⟩
                  · rw [if_neg c47] at H
                    exact absurd H (by simp)
                · rw [if_neg c45] at H
                  exact absurd H (by simp)
              · rw [if_neg c44] at H
                have c44b0 : decide (x7_1 < (a0_3.size : Int)) = false := decide_eq_false c44
                clear c44
                obtain ⟨y559,hy559⟩ : ∃ y_ : List Int,y_ = (([0,1] : List Int)) := ⟨_,rfl⟩
                replace H : (if x6_1.length + y559.length < 140737488355328 then (some (x6_1 ++ y559)) else (none)) = some r := by first | (rw [hy559];with_reducible exact H) | (have H2_ := (Option.bind_some _ _).symm.trans H;rw [hy559];with_reducible exact H2_) | (have H2_ := (Option.bind_some _ _).symm.trans H;with_reducible exact H2_) | with_reducible exact H | (rw [hy559];exact H) | exact H
                have Ny559 := Aside0.mk hy559
                clear hy559
                by_cases c58 : x6_1.length + y559.length < 140737488355328
                · rw [if_pos c58] at H
                  have LMc58 := Aside0.mk c58
                  clear c58
                  obtain ⟨y562,hy562⟩ : ∃ y_ : List Int,y_ = (x6_1 ++ y559) := ⟨_,rfl⟩
                  replace H : (some y562) = some r := by first | (rw [hy562];with_reducible exact H) | (have H2_ := (Option.bind_some _ _).symm.trans H;rw [hy562];with_reducible exact H2_) | (have H2_ := (Option.bind_some _ _).symm.trans H;with_reducible exact H2_) | with_reducible exact H | (rw [hy562];exact H) | exact H
                  have Ny562 := Aside0.mk hy562
                  clear hy562
                  obtain rfl := Option.some.inj H
                  have hcz59_0 : wr.cell? ⟨gb533,0,none⟩ = some (.int .i64 a0_0) := (blk_cell BK533.out 0).trans rfl
                  have hcz59_1 : wr.cell? ⟨gb533,1,none⟩ = some (.bool a0_1) := (blk_cell BK533.out 1).trans rfl
                  have hcz59_2 : wr.cell? ⟨gb533,2,none⟩ = some (.int .i64 a0_2) := (blk_cell BK533.out 2).trans rfl
                  have hcz59_3 : wr.cell? ⟨gb533,3,none⟩ = some (.string a0_3) := (blk_cell BK533.out 3).trans rfl
                  have hfz59_0 := blk_frozen BK533.out 0
                  have hfz59_1 := blk_frozen BK533.out 1
                  have hfz59_2 := blk_frozen BK533.out 2
                  have hfz59_3 := blk_frozen BK533.out 3
                  go_wp2_with (first | ((with_reducible refine gate_dst (N := 37) rfl ?_);refine Kd.R_lit (Kd.int .u8) _ 5 ?hg (N := 37) ?hd (xs := ([0,1] : List Int)) (inner := [.int .u8 0,.int .u8 1]) (ok := fun _ => True) (okp := fun _ => True) ?hr ?hp (fun _ hk => hk) trivial (Below.refl _ _) (Nat.le_refl _) (by simp) ?_;(case hd => rfl);(case hg => rfl);(case hr => first | (go_simp;done) | (go_simp;rfl));(case hp => exact (Reps.one (show Kd.M (Kd.int .u8) _ _ _ 0 [.int .u8 0] from rfl) (Reps.one (show Kd.M (Kd.int .u8) _ _ _ 1 [.int .u8 1] from rfl) (Reps.none _ _))));intro v560 w60 ho61 hb hg_ hnew_;clear hg_ hnew_;(first | rw [← Ny559.out] at ho61 | (simp only [Int.reduceToNat] at ho61;rw [← Ny559.out] at ho61));have n0_ := Aside0.mk (Kd.R_elder' (by (with_reducible repeat (first | apply Kd.R_alloc | apply Kd.R_drewN | apply Kd.R_drew));exact HO_6.out) (Kd.R_base ho61) hb);have n1_ := Aside0.mk (Kd.R_lower (Kd.R_new' ho61 (Kd.R_lt (by (with_reducible repeat (first | apply Kd.R_alloc | apply Kd.R_drewN | apply Kd.R_drew));exact HO_6.out))) (below_size (by repeat (first | (with_reducible first | exact HB.out | apply below_alloc | apply pw_below_drewN | apply below_drew1 | refine below_set ?_ GE533.out) | exact HB.out))));have n2_ := Aside0.mk (blk_below (g := gb533) (o := .cells #[.int .i64 a0_0,.bool a0_1,.int .i64 a0_2,.string a0_3] 50 (0,0)) (by (with_reducible repeat (first | refine blk_drewN ?_ _ | refine blk_drew ?_ | refine blk_alloc ?_ _));exact BK533.out) hb);have n3_ := Aside0.mk (below_step (by repeat (first | (with_reducible first | exact HB.out | apply below_alloc | apply pw_below_drewN | apply below_drew1 | refine below_set ?_ GE533.out) | exact HB.out)) hb);clear HO_6;clear BK533;clear HB;have HO_6 := n0_;have HO561 := n1_;have BK533 := n2_;have HB := n3_;clear n0_ n1_ n2_ n3_;clear hb ho61;obtain ⟨Ao63,co63,eo63⟩ := Kd.R_slice HO561.out;subst eo63) | ((with_reducible refine gate_builtin (b := .append) (xs := #[.tmp 36,.tmp 37]) rfl ?_);at_builtin;refine Kd.R_append_rows (Kd.int .u8) (w0 := w) w.heap.size rfl (.tmp 36) (.tmp 37) 47 5 (.int .u8 0) 1 rfl Try.underlying47 info5 rfl (by decide) (by omega) u6 x6_1 y559 _ _ _ (fun k_ => some k_ ≠ (.slice Ao63 y559.length co63 : Value).ownBlock) (fun _ => False) rfl rfl ?aO ?aR (fun _ _ h => h) (fun _ h => h.elim) ?aF ?aB ?aS ?aL ?_;(case aR => repeat (first | exact (Kd.R_reads' HO561.out).2.2 | (with_reducible refine Kd.C_alloc ?_ _) | (with_reducible refine Kd.C_drewN ?_ _) | (with_reducible refine Kd.C_drew ?_)));(case aB => exact (by repeat (first | (with_reducible first | exact HB.out | apply below_alloc | apply pw_below_drewN | apply below_drew1 | refine below_set ?_ GE533.out) | exact HB.out)));(case aF => exact (fun k_ hk => Kd.fresh' (Kd.R_lt (by (with_reducible repeat (first | apply Kd.R_alloc | apply Kd.R_drewN | apply Kd.R_drew));exact HO561.out)) k_ hk));(case aO => exact (by (with_reducible repeat (first | apply Kd.R_alloc | apply Kd.R_drewN | apply Kd.R_drew));exact Kd.R_mono HO_6.out (fun _ hk => hk.2)));(case aS => exact (below_size (by repeat (first | (with_reducible first | exact HB.out | apply below_alloc | apply pw_below_drewN | apply below_drew1 | refine below_set ?_ GE533.out) | exact HB.out))));(case aL => have := LMc58.out;omega);intro v563 w62 ho hb hg hat;rw [← Ny562.out] at ho;have n0_ := Aside0.mk (blk_grown (g := gb533) (o := .cells #[.int .i64 a0_0,.bool a0_1,.int .i64 a0_2,.string a0_3] 50 (0,0)) (by (with_reducible repeat (first | refine blk_drewN ?_ _ | refine blk_drew ?_ | refine blk_alloc ?_ _));exact BK533.out) hg (Kd.R_ne HO_6.out BK533.out (by decide)));have n1_ := Aside0.mk (Kd.R_after (ok := (fun _ => True)) (by (with_reducible repeat (first | apply Kd.R_alloc | apply Kd.R_drewN | apply Kd.R_drew));exact HO561.out) hg hat);have n2_ := Aside0.mk (hb);have n3_ := Aside0.mk (ho);clear BK533;clear HO561;clear HB;clear HO_6;have BK533 := n0_;have HO561 := n1_;have HB := n2_;have HO564 := n3_;clear n0_ n1_ n2_ n3_;clear ho hb hg hat))
                  go_ret
                  exact ⟨_,by first | rfl | (simp [errW_none,errW_some] <;> rfl) | (simp [*,errW_none,errW_some] <;> rfl),by (with_reducible repeat (first | apply Kd.R_alloc | apply Kd.R_drewN | apply Kd.R_drew));exact Kd.R_mono HO564.out (fun _ hk => trivial),by repeat (first | (with_reducible first | exact HB.out | apply below_alloc | apply pw_below_drewN | apply below_drew1 | refine below_set ?_ GE533.out) | exact HB.out)⟩
                · rw [if_neg c58] at H
                  exact absurd H (by simp)
  · replace c3 := Bool.eq_false_iff.mpr c3
    subst c3
    have H1 : (some ([] : List Int)) = some r := by rw [if_neg (show ¬ (false = true) by decide)] at H;exact H
    clear H
    have H := H1
    clear H1
    obtain rfl := Option.some.inj H
    go_enter Try.func34,Try.ntmps34
    go_wp2_with (first | ((with_reducible refine gate_dst (N := 1) rfl ?_);refine box_event ?hg (N := 1) ?hd (cs := #[.int .i64 a0_0,.bool a0_1,.int .i64 a0_2,.string a0_3]) (t := 50) ?hr ?_;(case hd => rfl);(case hg => rfl);(case hr => first | (go_simp;done) | (go_simp;rfl));intro gb533 hg w64 hbox hb;have n0_ := Aside0.mk (below_step (by repeat (first | (with_reducible first | exact HB.out | apply below_alloc | apply pw_below_drewN | apply below_drew1) | exact HB.out)) hb);have n1_ := Aside0.mk (hbox);have n2_ := Aside0.mk ((by rw [hg];exact (below_size (by repeat (first | (with_reducible first | exact HB.out | apply below_alloc | apply pw_below_drewN | apply below_drew1) | exact HB.out))) : w.heap.size ≤ gb533));have n3_ := Aside0.mk ((by rw [hg];exact (below_size (by repeat (first | (with_reducible first | exact HB.out | apply below_alloc | apply pw_below_drewN | apply below_drew1) | exact HB.out))) : w.heap.size ≤ gb533));clear HB;have HB := n0_;have BK533 := n1_;have GW533 := n2_;have GE533 := n3_;clear n0_ n1_ n2_ n3_;clear hb hbox hg;have hcz65_0 : w64.cell? ⟨gb533,0,none⟩ = some (.int .i64 a0_0) := (blk_cell BK533.out 0).trans rfl;have hcz65_1 : w64.cell? ⟨gb533,1,none⟩ = some (.bool a0_1) := (blk_cell BK533.out 1).trans rfl;have hcz65_2 : w64.cell? ⟨gb533,2,none⟩ = some (.int .i64 a0_2) := (blk_cell BK533.out 2).trans rfl;have hcz65_3 : w64.cell? ⟨gb533,3,none⟩ = some (.string a0_3) := (blk_cell BK533.out 3).trans rfl;have hfz65_0 := blk_frozen BK533.out 0;have hfz65_1 := blk_frozen BK533.out 1;have hfz65_2 := blk_frozen BK533.out 2;have hfz65_3 := blk_frozen BK533.out 3) | ((with_reducible refine gate_callee (f := 53) rfl ?_);refine goesL_ (some 9) rfl rfl Try.func53 (by kernel_rfl) rfl #[.agg #[.int .i64 a0_0,.bool a0_1,.int .i64 a0_2,.string a0_3]] rfl (by (try simp only [List.map_toArray,List.map_cons,List.map_nil]);first | done | rfl | (simp only [List.length_drop,List.length_take];rfl)) ?_;(with_reducible refine (verdererref01_Right.calls a0_0 a0_1 a0_2 a0_3 false _ A2.out).mono ?_);rintro e w66 ⟨rfl,hb⟩;refine ⟨_,rfl,?_⟩;have n0_ := Aside0.mk (blk_below (g := gb533) (o := .cells #[.int .i64 a0_0,.bool a0_1,.int .i64 a0_2,.string a0_3] 50 (0,0)) (by (with_reducible repeat (first | refine blk_drewN ?_ _ | refine blk_drew ?_ | refine blk_alloc ?_ _));exact BK533.out) hb);have n1_ := Aside0.mk (below_step (by repeat (first | (with_reducible first | exact HB.out | apply below_alloc | apply pw_below_drewN | apply below_drew1 | refine below_set ?_ GE533.out) | exact HB.out)) hb);clear BK533;clear HB;have BK533 := n0_;have HB := n1_;clear n0_ n1_;(try clear hb);(try clear hb2);(try clear hk);(try clear hi)))
    go_ret
    exact ⟨_,by first | rfl | (simp [errW_none,errW_some] <;> rfl) | (simp [*,errW_none,errW_some] <;> rfl),by first | exact Kd.R_nil _ _ _ _ _ | exact Kd.N_nil _ _ _ _ _ | exact Kd.V_nil _ _ _ _ _ | exact Kd.Q_nil _ _ _ _ _ | exact Kd.S_nil _ _ _ _ _,by repeat (first | (with_reducible first | exact HB.out | apply below_alloc | apply pw_below_drewN | apply below_drew1 | refine below_set ?_ GE533.out) | exact HB.out)⟩
end Go.Proofs.Ytfoaeigoajooeaa.Z
end
section
namespace Go.Proofs.Ytfoaeigoajooeaa.Z
open Go.RowKit Go.Proofs.YtfoaeigoajooeaaW.PrintWords Go.Proofs.YtfoaeigoajooeaaW.PrintLast Go.Proofs.YtfoaeigoajooeaaW.PrintMore
attribute [local go_sem] max2_int min2_int max_two min_two max_three min_three max_four min_four
set_option linter.unusedVariables false
set_option linter.unusedSimpArgs false
def verdererref04_Row.l0 : Nat → List (S50) → List Int → Int → Option (List Int)
  | 0,_,_,_ => none
  | k + 1,x0,x3,x4 => if x4 < (x0.length : Int) then (if 0 ≤ x4 then ((verdererref04_Value.f k ((rd_T50 x0 x4).f0) ((rd_T50 x0 x4).f1) ((rd_T50 x0 x4).f2) ((rd_T50 x0 x4).f3)).bind fun t566 => (if (t566.length : Int) = 0 then (some ([] : List Int)) else (if x3.length + t566.length < 140737488355328 then (verdererref04_Row.l0 k x0 (x3 ++ t566) (wrap64 (x4 + 1))) else (none)))) else (none)) else (if x3.length < 140737488355328 then (some (x3 ++ [0])) else (none))
def verdererref04_Row.f (k : Nat) (l0 : List (S50)) : Option (List Int) := verdererref04_Row.l0 k l0 ([] : List Int) 0
theorem verdererref04_Row.mono_l : ∀ k,(∀ y0 y1 y2,LeO (verdererref04_Row.l0 k y0 y1 y2) (verdererref04_Row.l0 (k + 1) y0 y1 y2))
  | 0 => fun _ _ _ r h => by simp [verdererref04_Row.l0] at h
  | k + 1 => by
    have ih0 := verdererref04_Row.mono_l k
    · intro y0 y1 y2
      unfold verdererref04_Row.l0
      repeat' first
      | (with_reducible exact ih0 _ _ _)
      | (with_reducible exact verdererref04_Value.mono _ _ _ _ _)
      | (with_reducible exact LeO.refl _)
      | (with_reducible exact LeO.none _)
      | (with_reducible refine LeO.ite ?_ ?_)
      | (with_reducible refine LeO.bind ?_ (fun _ => ?_))
      | exact ih0 _ _ _
      | exact verdererref04_Value.mono _ _ _ _ _
      | exact LeO.none _
      | refine LeO.ite ?_ ?_
      | refine LeO.bind ?_ (fun _ => ?_)
theorem verdererref04_Row.mono : ∀ a0 k,LeO (verdererref04_Row.f k a0) (verdererref04_Row.f (k + 1) a0) := by
  intro a0 k
  have ih0 := verdererref04_Row.mono_l k
  unfold verdererref04_Row.f
  repeat' first
      | (with_reducible exact ih0 _ _ _)
      | (with_reducible exact verdererref04_Value.mono _ _ _ _ _)
      | (with_reducible exact LeO.refl _)
      | (with_reducible exact LeO.none _)
      | (with_reducible refine LeO.ite ?_ ?_)
      | (with_reducible refine LeO.bind ?_ (fun _ => ?_))
      | exact ih0 _ _ _
      | exact verdererref04_Value.mono _ _ _ _ _
      | exact LeO.none _
      | refine LeO.ite ?_ ?_
      | refine LeO.bind ?_ (fun _ => ?_)
set_option maxHeartbeats 8000000 in
set_option maxRecDepth 100000 in
theorem verdererref04_Row.calls (k : Nat) (A0 : Option Addr) (c0 : Nat) (l0 : List (S50)) (r : List Int) (w : World) (hr0 : Kd.C k50 w A0 l0.length l0) (hc0 : l0.length ≤ c0) (h : verdererref04_Row.f k l0 = some r) :
    Calls Try.prog 36 #[.slice A0 l0.length c0] w fun e w' => ∃ v0_ : Value,e = .returned (v0_) ∧ Kd.R (Kd.int .u8) 5 w' w.heap.size (fun _ => True) v0_ r ∧ Below w.heap.size w w' := by
  have hu50 := Try.underlying50
  have HR0 := Aside0.mk hr0
  have HC0 := Aside0.mk hc0
  clear hr0 hc0
  have HB := Aside0.mk (Below.refl w.heap.size w)
  have H : (verdererref04_Row.l0 k l0 ([] : List Int) 0) = some r := h
  clear h
  have H' := Aside0.mk H
  clear H
  go_enter Try.func36,Try.ntmps36
  go_wp2
  go_loopg [3,4] k (fun kq v3 v4 w' => ∃ (x3_1 : List Int) (x4_1 : Int),v4 = .int .i64 x4_1 ∧ Aside0 (verdererref04_Row.l0 kq l0 x3_1 x4_1 = some r) ∧ Aside0 (kq ≤ k) ∧ Aside0 (Kd.R (Kd.int .u8) 5 w' w.heap.size (fun _ => True) v3 x3_1) ∧ Aside0 (Below w.heap.size w w'))
  case atStart => exact ⟨(([] : List Int)),(0),(by first | rfl | (simp;done) | (simp [*];done)),H',⟨Nat.le_refl _⟩,⟨by first | exact Kd.R_nil _ _ _ _ _ | exact Kd.N_nil _ _ _ _ _ | exact Kd.V_nil _ _ _ _ _ | exact Kd.Q_nil _ _ _ _ _ | exact Kd.S_nil _ _ _ _ _⟩,⟨by repeat (first | (with_reducible first | exact HB.out | apply below_alloc | apply pw_below_drewN | apply below_drew1) | exact HB.out)⟩⟩
  case round =>
    clear H'
    obtain ⟨x3_1,x4_1,rfl,HA,HK1,HO_3,HB⟩ := hrel
    cases gk with
    | zero => exact absurd HA.out (by simp [verdererref04_Row.l0])
    | succ k1 =>
      have H := HA.out
      clear HA
      simp only [verdererref04_Row.l0] at H
      by_cases c2 : x4_1 < (l0.length : Int)
      · rw [if_pos c2] at H
        have c2b0 : decide (x4_1 < (l0.length : Int)) = true := decide_eq_true c2
        clear c2
        by_cases c3 : 0 ≤ x4_1
        · rw [if_pos c3] at H
          have c3b0 : decide (0 ≤ x4_1) = true := decide_eq_true c3
          clear c3
          replace H := Option.bind_eq_some_iff.mp H
          obtain ⟨t566,A40,H⟩ := H
          replace H : (if (t566.length : Int) = 0 then (some ([] : List Int)) else (if x3_1.length + t566.length < 140737488355328 then (verdererref04_Row.l0 k1 l0 (x3_1 ++ t566) (wrap64 (x4_1 + 1))) else (none))) = some r := H
          have A4 := Aside0.mk A40
          clear A40
          by_cases c5 : (t566.length : Int) = 0
          · rw [if_pos c5] at H
            have c5b0 : ((t566.length : Int) == 0) = true := beq_iff_eq.mpr c5
            have c5b1 : ((t566.length : Int) != 0) = false := bne_eq_false_iff_eq.mpr c5
            clear c5
            obtain rfl := Option.some.inj H
            have p565 : 0 ≤ (x4_1 : Int) := of_decide_eq_true (by first | (with_reducible assumption) | assumption)
            have q565 : x4_1 < (l0.length : Int) := of_decide_eq_true (by first | (with_reducible assumption) | assumption)
            obtain ⟨ad565,e565,hx565_0,hx565_1,hx565_2,hx565_3⟩ := at_T50 HR0.out x4_1 p565 q565
            cases e565
            replace hx565_0 := (HB.out.cell (World.block_lt_of_cell? w _ hx565_0)).trans hx565_0
            replace hx565_1 := (HB.out.cell (World.block_lt_of_cell? w _ hx565_1)).trans hx565_1
            replace hx565_2 := (HB.out.cell (World.block_lt_of_cell? w _ hx565_2)).trans hx565_2
            replace hx565_3 := (HB.out.cell (World.block_lt_of_cell? w _ hx565_3)).trans hx565_3
            replace p565 := eq_true p565
            replace q565 := eq_true q565
            go_wp2_with (first | ((with_reducible refine gate_callee (f := 34) rfl ?_);refine goesL_ (some 16) rfl rfl Try.func34 (by kernel_rfl) rfl #[.agg #[.int .i64 ((rd_T50 l0 x4_1).f0),.bool ((rd_T50 l0 x4_1).f1),.int .i64 ((rd_T50 l0 x4_1).f2),.string ((rd_T50 l0 x4_1).f3)]] rfl (by (try simp only [List.map_toArray,List.map_cons,List.map_nil]);first | done | rfl | (simp only [List.length_drop,List.length_take];rfl)) ?_;(with_reducible refine (verdererref04_Value.calls k1 ((rd_T50 l0 x4_1).f0) ((rd_T50 l0 x4_1).f1) ((rd_T50 l0 x4_1).f2) ((rd_T50 l0 x4_1).f3) t566 _ A4.out).mono ?_);rintro e w6 ⟨v567,rfl,ho0,hb⟩;refine ⟨_,rfl,?_⟩;have n0_ := Aside0.mk (Kd.R_elder' (by (with_reducible repeat (first | apply Kd.R_alloc | apply Kd.R_drewN | apply Kd.R_drew));exact HO_3.out) (Kd.R_base ho0) hb);have n1_ := Aside0.mk (Kd.R_lower (Kd.R_new' ho0 (Kd.R_lt (by (with_reducible repeat (first | apply Kd.R_alloc | apply Kd.R_drewN | apply Kd.R_drew));exact HO_3.out))) (below_size (by repeat (first | (with_reducible first | exact HB.out | apply below_alloc | apply pw_below_drewN | apply below_drew1) | exact HB.out))));have n2_ := Aside0.mk (below_step (by repeat (first | (with_reducible first | exact HB.out | apply below_alloc | apply pw_below_drewN | apply below_drew1) | exact HB.out)) hb);clear HO_3;clear HB;have HO_3 := n0_;have HO568 := n1_;have HB := n2_;clear n0_ n1_ n2_;(try clear hb);(try clear hb2);(try clear hk);(try clear hi);(try clear ho0);obtain ⟨Ao7,co7,eo7⟩ := Kd.R_slice HO568.out;subst eo7))
            go_ret
            exact ⟨_,by first | rfl | (simp [errW_none,errW_some] <;> rfl) | (simp [*,errW_none,errW_some] <;> rfl),by first | exact Kd.R_nil _ _ _ _ _ | exact Kd.N_nil _ _ _ _ _ | exact Kd.V_nil _ _ _ _ _ | exact Kd.Q_nil _ _ _ _ _ | exact Kd.S_nil _ _ _ _ _,by repeat (first | (with_reducible first | exact HB.out | apply below_alloc | apply pw_below_drewN | apply below_drew1) | exact HB.out)⟩
          · rw [if_neg c5] at H
            have c5b0 : ((t566.length : Int) == 0) = false := beq_eq_false_iff_ne.mpr c5
            have c5b1 : ((t566.length : Int) != 0) = true := bne_iff_ne.mpr c5
            have c5b2 : ¬ (t566 = []) := fun h_ => c5 (by rw [h_];rfl)
            by_cases c8 : x3_1.length + t566.length < 140737488355328
            · rw [if_pos c8] at H
              have LMc8 := Aside0.mk c8
              clear c8
              obtain ⟨y569,hy569⟩ : ∃ y_ : List Int,y_ = (x3_1 ++ t566) := ⟨_,rfl⟩
              replace H : (verdererref04_Row.l0 k1 l0 y569 (wrap64 (x4_1 + 1))) = some r := by first | (rw [hy569];with_reducible exact H) | (have H2_ := (Option.bind_some _ _).symm.trans H;rw [hy569];with_reducible exact H2_) | (have H2_ := (Option.bind_some _ _).symm.trans H;with_reducible exact H2_) | with_reducible exact H | (rw [hy569];exact H) | exact H
              have Ny569 := Aside0.mk hy569
              clear hy569
              have H' := Aside0.mk H
              clear H
              have p565 : 0 ≤ (x4_1 : Int) := of_decide_eq_true (by first | (with_reducible assumption) | assumption)
              have q565 : x4_1 < (l0.length : Int) := of_decide_eq_true (by first | (with_reducible assumption) | assumption)
              obtain ⟨ad565,e565,hx565_0,hx565_1,hx565_2,hx565_3⟩ := at_T50 HR0.out x4_1 p565 q565
              cases e565
              replace hx565_0 := (HB.out.cell (World.block_lt_of_cell? w _ hx565_0)).trans hx565_0
              replace hx565_1 := (HB.out.cell (World.block_lt_of_cell? w _ hx565_1)).trans hx565_1
              replace hx565_2 := (HB.out.cell (World.block_lt_of_cell? w _ hx565_2)).trans hx565_2
              replace hx565_3 := (HB.out.cell (World.block_lt_of_cell? w _ hx565_3)).trans hx565_3
              replace p565 := eq_true p565
              replace q565 := eq_true q565
              go_wp2_with (first | ((with_reducible refine gate_callee (f := 34) rfl ?_);refine goesL_ (some 16) rfl rfl Try.func34 (by kernel_rfl) rfl #[.agg #[.int .i64 ((rd_T50 l0 x4_1).f0),.bool ((rd_T50 l0 x4_1).f1),.int .i64 ((rd_T50 l0 x4_1).f2),.string ((rd_T50 l0 x4_1).f3)]] rfl (by (try simp only [List.map_toArray,List.map_cons,List.map_nil]);first | done | rfl | (simp only [List.length_drop,List.length_take];rfl)) ?_;(with_reducible refine (verdererref04_Value.calls k1 ((rd_T50 l0 x4_1).f0) ((rd_T50 l0 x4_1).f1) ((rd_T50 l0 x4_1).f2) ((rd_T50 l0 x4_1).f3) t566 _ A4.out).mono ?_);rintro e w9 ⟨v567,rfl,ho0,hb⟩;refine ⟨_,rfl,?_⟩;have n0_ := Aside0.mk (Kd.R_elder' (by (with_reducible repeat (first | apply Kd.R_alloc | apply Kd.R_drewN | apply Kd.R_drew));exact HO_3.out) (Kd.R_base ho0) hb);have n1_ := Aside0.mk (Kd.R_lower (Kd.R_new' ho0 (Kd.R_lt (by (with_reducible repeat (first | apply Kd.R_alloc | apply Kd.R_drewN | apply Kd.R_drew));exact HO_3.out))) (below_size (by repeat (first | (with_reducible first | exact HB.out | apply below_alloc | apply pw_below_drewN | apply below_drew1) | exact HB.out))));have n2_ := Aside0.mk (below_step (by repeat (first | (with_reducible first | exact HB.out | apply below_alloc | apply pw_below_drewN | apply below_drew1) | exact HB.out)) hb);clear HO_3;clear HB;have HO_3 := n0_;have HO568 := n1_;have HB := n2_;clear n0_ n1_ n2_;(try clear hb);(try clear hb2);(try clear hk);(try clear hi);(try clear ho0);obtain ⟨Ao10,co10,eo10⟩ := Kd.R_slice HO568.out;subst eo10) | ((with_reducible refine gate_builtin (b := .append) (xs := #[.tmp 20,.tmp 21]) rfl ?_);at_builtin;refine Kd.R_append_rows (Kd.int .u8) (w0 := w) w.heap.size rfl (.tmp 20) (.tmp 21) 47 5 (.int .u8 0) 1 rfl Try.underlying47 info5 rfl (by decide) (by omega) u3 x3_1 t566 _ _ _ (fun k_ => some k_ ≠ (.slice Ao10 t566.length co10 : Value).ownBlock) (fun _ => False) rfl rfl ?aO ?aR (fun _ _ h => h) (fun _ h => h.elim) ?aF ?aB ?aS ?aL ?_;(case aR => repeat (first | exact (Kd.R_reads' HO568.out).2.2 | (with_reducible refine Kd.C_alloc ?_ _) | (with_reducible refine Kd.C_drewN ?_ _) | (with_reducible refine Kd.C_drew ?_)));(case aB => exact (by repeat (first | (with_reducible first | exact HB.out | apply below_alloc | apply pw_below_drewN | apply below_drew1) | exact HB.out)));(case aF => exact (fun k_ hk => Kd.fresh' (Kd.R_lt (by (with_reducible repeat (first | apply Kd.R_alloc | apply Kd.R_drewN | apply Kd.R_drew));exact HO568.out)) k_ hk));(case aO => exact (by (with_reducible repeat (first | apply Kd.R_alloc | apply Kd.R_drewN | apply Kd.R_drew));exact Kd.R_mono HO_3.out (fun _ hk => hk.2)));(case aS => exact (below_size (by repeat (first | (with_reducible first | exact HB.out | apply below_alloc | apply pw_below_drewN | apply below_drew1) | exact HB.out))));(case aL => have := LMc8.out;omega);intro v570 w11 ho hb hg hat;rw [← Ny569.out] at ho;have n0_ := Aside0.mk (Kd.R_after (ok := (fun _ => True)) (by (with_reducible repeat (first | apply Kd.R_alloc | apply Kd.R_drewN | apply Kd.R_drew));exact HO568.out) hg hat);have n1_ := Aside0.mk (hb);have n2_ := Aside0.mk (ho);clear HO568;clear HB;clear HO_3;have HO568 := n0_;have HB := n1_;have HO571 := n2_;clear n0_ n1_ n2_;clear ho hb hg hat))
              go_roundg k1
              case measure => have := HK1.out;omega
              case rel => exact ⟨(y569),(wrap64 (x4_1 + 1)),(by first | rfl | (simp;done) | (simp [*];done)),H',⟨by have := HK1.out;omega⟩,⟨by (with_reducible repeat (first | apply Kd.R_alloc | apply Kd.R_drewN | apply Kd.R_drew));exact Kd.R_mono HO571.out (fun _ hk => trivial)⟩,⟨by repeat (first | (with_reducible first | exact HB.out | apply below_alloc | apply pw_below_drewN | apply below_drew1) | exact HB.out)⟩⟩
            · rw [if_neg c8] at H
              exact absurd H (by simp)
        · rw [if_neg c3] at H
          exact absurd H (by simp)
      · rw [if_neg c2] at H
        have c2b0 : decide (x4_1 < (l0.length : Int)) = false := decide_eq_false c2
        clear c2
        by_cases c12 : x3_1.length < 140737488355328
        · rw [if_pos c12] at H
          have LMc12 := Aside0.mk c12
          clear c12
          obtain ⟨y572,hy572⟩ : ∃ y_ : List Int,y_ = (x3_1 ++ [0]) := ⟨_,rfl⟩
          replace H : (some y572) = some r := by first | (rw [hy572];with_reducible exact H) | (have H2_ := (Option.bind_some _ _).symm.trans H;rw [hy572];with_reducible exact H2_) | (have H2_ := (Option.bind_some _ _).symm.trans H;with_reducible exact H2_) | with_reducible exact H | (rw [hy572];exact H) | exact H
          have Ny572 := Aside0.mk hy572
          clear hy572
          obtain rfl := Option.some.inj H
          go_wp2_with (first | ((with_reducible refine gate_builtin (b := .append) (xs := #[.tmp 23,.tmp 24]) rfl ?_);at_builtin;refine Kd.R_append (Kd.int .u8) (w0 := w) w.heap.size rfl (.tmp 23) (.tmp 24) 47 5 (.int .u8 0) 1 rfl Try.underlying47 info5 rfl (by decide) (by omega) u3 x3_1 0 [.int .u8 0] (fun _ => True) (fun _ => False) rfl rfl ?aP (fun _ hk => hk.elim) ?aF ?aO ?aB ?aS ?aL ?_;(case aP => exact rfl);(case aB => exact (by repeat (first | (with_reducible first | exact HB.out | apply below_alloc | apply pw_below_drewN | apply below_drew1) | exact HB.out)));(case aF => exact (fun _ _ => trivial));(case aO => exact (by (with_reducible repeat (first | apply Kd.R_alloc | apply Kd.R_drewN | apply Kd.R_drew));exact HO_3.out));(case aS => exact (below_size (by repeat (first | (with_reducible first | exact HB.out | apply below_alloc | apply pw_below_drewN | apply below_drew1) | exact HB.out))));(case aL => have := LMc12.out;omega);intro v573 w13 ho hb hg hat;rw [← Ny572.out] at ho;have n0_ := Aside0.mk (hb);have n1_ := Aside0.mk (ho);clear HB;clear HO_3;have HB := n0_;have HO574 := n1_;clear n0_ n1_;clear ho hb hg hat))
          go_ret
          exact ⟨_,by first | rfl | (simp [errW_none,errW_some] <;> rfl) | (simp [*,errW_none,errW_some] <;> rfl),by (with_reducible repeat (first | apply Kd.R_alloc | apply Kd.R_drewN | apply Kd.R_drew));exact HO574.out,by repeat (first | (with_reducible first | exact HB.out | apply below_alloc | apply pw_below_drewN | apply below_drew1) | exact HB.out)⟩
        · rw [if_neg c12] at H
          exact absurd H (by simp)
end Go.Proofs.Ytfoaeigoajooeaa.Z
end
section
namespace Go.Proofs.Ytfoaeigoajooeaa.Z
open Go.RowKit Go.Proofs.YtfoaeigoajooeaaW.PrintWords Go.Proofs.YtfoaeigoajooeaaW.PrintLast Go.Proofs.YtfoaeigoajooeaaW.PrintMore
attribute [local go_sem] max2_int min2_int max_two min_two max_three min_three max_four min_four
set_option linter.unusedVariables false
set_option linter.unusedSimpArgs false
def row_Pick.l0 : Nat → List (S50) → List (S50) → List Int → Int → Int → Option ((List (S50)) × Int)
  | 0,_,_,_,_,_ => none
  | k + 1,x0,x6,x12,x13,x14 => if x14 < x13 then (if 0 ≤ x14 then (if x14 < (x12.length : Int) then (if (rd x12 x14) < 0 then (some (([] : List (S50)),2)) else (if (rd x12 x14) ≥ (x0.length : Int) then (some (([] : List (S50)),2)) else (if 0 ≤ (rd x12 x14) then (if (rd x12 x14) < (x0.length : Int) then (if x6.length < 3518437208883 then (row_Pick.l0 k x0 (x6 ++ [(⟨(rd_T50 x0 (rd x12 x14)).f0,(rd_T50 x0 (rd x12 x14)).f1,(rd_T50 x0 (rd x12 x14)).f2,(rd_T50 x0 (rd x12 x14)).f3⟩ : S50)]) x12 x13 (wrap64 (x14 + 1))) else (none)) else (none)) else (none)))) else (none)) else (none)) else (some (x6,0))
def row_Pick.f (k : Nat) (l0 : List (S50)) (l1 : List Int) : Option ((List (S50)) × Int) := if 0 ≤ (l1.length : Int) then (if ((l1.length : Int) : Int).toNat ≤ 7036874417766 then (row_Pick.l0 k l0 (([] : List (S50))) l1 (l1.length : Int) 0) else (none)) else (none)
theorem row_Pick.mono_l : ∀ k,(∀ y0 y1 y2 y3 y4,LeO (row_Pick.l0 k y0 y1 y2 y3 y4) (row_Pick.l0 (k + 1) y0 y1 y2 y3 y4))
  | 0 => fun _ _ _ _ _ r h => by simp [row_Pick.l0] at h
  | k + 1 => by
    have ih0 := row_Pick.mono_l k
    · intro y0 y1 y2 y3 y4
      unfold row_Pick.l0
      repeat' first
      | (with_reducible exact ih0 _ _ _ _ _)
      | (with_reducible exact LeO.refl _)
      | (with_reducible exact LeO.none _)
      | (with_reducible refine LeO.ite ?_ ?_)
      | (with_reducible refine LeO.bind ?_ (fun _ => ?_))
      | exact ih0 _ _ _ _ _
      | exact LeO.none _
      | refine LeO.ite ?_ ?_
      | refine LeO.bind ?_ (fun _ => ?_)
theorem row_Pick.mono : ∀ a0 a1 k,LeO (row_Pick.f k a0 a1) (row_Pick.f (k + 1) a0 a1) := by
  intro a0 a1 k
  have ih0 := row_Pick.mono_l k
  unfold row_Pick.f
  repeat' first
      | (with_reducible exact ih0 _ _ _ _ _)
      | (with_reducible exact LeO.refl _)
      | (with_reducible exact LeO.none _)
      | (with_reducible refine LeO.ite ?_ ?_)
      | (with_reducible refine LeO.bind ?_ (fun _ => ?_))
      | exact ih0 _ _ _ _ _
      | exact LeO.none _
      | refine LeO.ite ?_ ?_
      | refine LeO.bind ?_ (fun _ => ?_)
set_option maxHeartbeats 8000000 in
set_option maxRecDepth 100000 in
theorem row_Pick.calls (k : Nat) (A0 : Option Addr) (c0 : Nat) (l0 : List (S50)) (A1 : Option Addr) (c1 : Nat) (l1 : List Int) (r1 : List (S50)) (r2 : Int) (w : World) (hr0 : Kd.C k50 w A0 l0.length l0) (hc0 : l0.length ≤ c0) (hr1 : Kd.C (Kd.int .i64) w A1 l1.length l1) (hc1 : l1.length ≤ c1) (h : row_Pick.f k l0 l1 = some (r1,r2)) :
    Calls Try.prog 14 #[.slice A0 l0.length c0,.slice A1 l1.length c1] w fun e w' => ∃ v0_ : Value,e = .returned (.tuple #[v0_,.int .i64 r2]) ∧ Kd.R k50 50 w' w.heap.size (fun _ => True) v0_ r1 ∧ Below w.heap.size w w' := by
  have hu50 := Try.underlying50
  have HR0 := Aside0.mk hr0
  have HC0 := Aside0.mk hc0
  clear hr0 hc0
  have HR1 := Aside0.mk hr1
  have HC1 := Aside0.mk hc1
  clear hr1 hc1
  have HB := Aside0.mk (Below.refl w.heap.size w)
  have H : (if 0 ≤ (l1.length : Int) then (if ((l1.length : Int) : Int).toNat ≤ 7036874417766 then (row_Pick.l0 k l0 (([] : List (S50))) l1 (l1.length : Int) 0) else (none)) else (none)) = some (r1,r2) := h
  clear h
  by_cases c3 : 0 ≤ (l1.length : Int)
  · rw [if_pos c3] at H
    have c3b0 := eq_true c3
    have c3b1 : decide (0 ≤ (l1.length : Int)) = true := decide_eq_true c3
    clear c3
    by_cases c4 : ((l1.length : Int) : Int).toNat ≤ 7036874417766
    · rw [if_pos c4] at H
      have c4b0 := eq_true c4
      have c4b1 : decide (((l1.length : Int) : Int).toNat ≤ 7036874417766) = true := decide_eq_true c4
      clear c4
      obtain ⟨y101,hy101⟩ : ∃ y_ : List (S50),y_ = (([] : List (S50))) := ⟨_,rfl⟩
      replace H : (row_Pick.l0 k l0 y101 l1 (l1.length : Int) 0) = some (r1,r2) := by first | (rw [hy101];with_reducible exact H) | (have H2_ := (Option.bind_some _ _).symm.trans H;rw [hy101];with_reducible exact H2_) | (have H2_ := (Option.bind_some _ _).symm.trans H;with_reducible exact H2_) | with_reducible exact H | (rw [hy101];exact H) | exact H
      have Ny101 := Aside0.mk hy101
      clear hy101
      have H' := Aside0.mk H
      clear H
      go_enter Try.func14,Try.ntmps14
      go_wp2_with (first | ((with_reducible refine gate_dst (N := 11) rfl ?_);(try (refine gate_guard (by rfl) ?_;dsimp only));refine Kd.R_make0 k50 _ 50 rfl (N := 11) rfl 22 _ _ rfl (l1.length : Int) rfl rfl Try.underlying22 (.agg #[(.int .i64 0),(.bool false),(.int .i64 0),(.string ⟨#[]⟩)]) 40 info50 rfl (by decide) (by omega) z50 (ok := fun _ => True) (okp := fun _ => True) (k50_mkM _ _ _ z50 ) (fun _ hk => hk) trivial (of_decide_eq_true (by first | (with_reducible assumption) | assumption)) (Nat.le_trans (Nat.mul_le_mul_right _ (of_decide_eq_true (by first | (with_reducible assumption) | assumption) : (l1.length : Int).toNat ≤ 7036874417766)) (by omega)) (Below.refl _ _) (Nat.le_refl _) ?_;intro v102 w5 ho6 hb hg_ hnew_;clear hg_ hnew_;(first | rw [← Ny101.out] at ho6 | (simp only [Int.reduceToNat] at ho6;rw [← Ny101.out] at ho6));have n0_ := Aside0.mk (Kd.R_lower ho6 (below_size (by repeat (first | (with_reducible first | exact HB.out | apply below_alloc | apply pw_below_drewN | apply below_drew1) | exact HB.out))));have n1_ := Aside0.mk (below_step (by repeat (first | (with_reducible first | exact HB.out | apply below_alloc | apply pw_below_drewN | apply below_drew1) | exact HB.out)) hb);clear HB;have HO103 := n0_;have HB := n1_;clear n0_ n1_;clear hb ho6))
      go_loopg [6,14] k (fun kq v6 v14 w' => ∃ (x6_1 : List (S50)) (x14_1 : Int),v14 = .int .i64 x14_1 ∧ Aside0 (row_Pick.l0 kq l0 x6_1 l1 (l1.length : Int) x14_1 = some (r1,r2)) ∧ Aside0 (kq ≤ k) ∧ Aside0 (Kd.R k50 50 w' w.heap.size (fun _ => True) v6 x6_1) ∧ Aside0 (Below w.heap.size w w'))
      case atStart => exact ⟨(y101),(0),(by first | rfl | (simp;done) | (simp [*];done)),H',⟨Nat.le_refl _⟩,⟨by (with_reducible repeat (first | apply Kd.R_alloc | apply Kd.R_drewN | apply Kd.R_drew));exact HO103.out⟩,⟨by repeat (first | (with_reducible first | exact HB.out | apply below_alloc | apply pw_below_drewN | apply below_drew1) | exact HB.out)⟩⟩
      case round =>
        clear H'
        try clear c1
        try clear p2
        try clear c3
        try clear c3b0
        try clear c3b1
        try clear c4
        try clear c4b0
        try clear c4b1
        obtain ⟨x6_1,x14_1,rfl,HA,HK1,HO_6,HB⟩ := hrel
        cases gk with
        | zero => exact absurd HA.out (by simp [row_Pick.l0])
        | succ k1 =>
          have H := HA.out
          clear HA
          simp only [row_Pick.l0] at H
          by_cases c7 : x14_1 < (l1.length : Int)
          · rw [if_pos c7] at H
            have c7b0 : decide (x14_1 < (l1.length : Int)) = true := decide_eq_true c7
            clear c7
            by_cases c8 : 0 ≤ x14_1
            · rw [if_pos c8] at H
              have c8b0 : decide (0 ≤ x14_1) = true := decide_eq_true c8
              clear c8
              by_cases c9 : x14_1 < (l1.length : Int)
              · rw [if_pos c9] at H
                have c9b0 : decide (x14_1 < (l1.length : Int)) = true := decide_eq_true c9
                clear c9
                by_cases c10 : (rd l1 x14_1) < 0
                · rw [if_pos c10] at H
                  have c10b0 : decide ((rd l1 x14_1) < 0) = true := decide_eq_true c10
                  clear c10
                  simp only [Option.some.injEq,Prod.mk.injEq] at H
                  obtain ⟨rfl,rfl⟩ := H
                  have p104 : 0 ≤ (x14_1 : Int) := of_decide_eq_true (by first | (with_reducible assumption) | assumption)
                  have q104 : x14_1 < (l1.length : Int) := of_decide_eq_true (by first | (with_reducible assumption) | assumption)
                  obtain ⟨ad104,e104,hx104_0⟩ := Kd.at_int HR1.out x14_1 p104 q104
                  cases e104
                  replace hx104_0 := (HB.out.cell (World.block_lt_of_cell? w _ hx104_0)).trans hx104_0
                  replace p104 := eq_true p104
                  replace q104 := eq_true q104
                  go_wp2
                  go_ret2
                  exact ⟨_,by first | rfl | (simp [errW_none,errW_some] <;> rfl) | (simp [*,errW_none,errW_some] <;> rfl),by first | exact Kd.R_nil _ _ _ _ _ | exact Kd.N_nil _ _ _ _ _ | exact Kd.V_nil _ _ _ _ _ | exact Kd.Q_nil _ _ _ _ _ | exact Kd.S_nil _ _ _ _ _,by repeat (first | (with_reducible first | exact HB.out | apply below_alloc | apply pw_below_drewN | apply below_drew1) | exact HB.out)⟩
                · rw [if_neg c10] at H
                  have c10b0 : decide ((rd l1 x14_1) < 0) = false := decide_eq_false c10
                  clear c10
                  by_cases c11 : (rd l1 x14_1) ≥ (l0.length : Int)
                  · rw [if_pos c11] at H
                    have c11b0 : decide ((l0.length : Int) ≤ (rd l1 x14_1)) = true := decide_eq_true c11
                    clear c11
                    simp only [Option.some.injEq,Prod.mk.injEq] at H
                    obtain ⟨rfl,rfl⟩ := H
                    have p104 : 0 ≤ (x14_1 : Int) := of_decide_eq_true (by first | (with_reducible assumption) | assumption)
                    have q104 : x14_1 < (l1.length : Int) := of_decide_eq_true (by first | (with_reducible assumption) | assumption)
                    obtain ⟨ad104,e104,hx104_0⟩ := Kd.at_int HR1.out x14_1 p104 q104
                    cases e104
                    replace hx104_0 := (HB.out.cell (World.block_lt_of_cell? w _ hx104_0)).trans hx104_0
                    replace p104 := eq_true p104
                    replace q104 := eq_true q104
                    go_wp2
                    go_ret2
                    exact ⟨_,by first | rfl | (simp [errW_none,errW_some] <;> rfl) | (simp [*,errW_none,errW_some] <;> rfl),by first | exact Kd.R_nil _ _ _ _ _ | exact Kd.N_nil _ _ _ _ _ | exact Kd.V_nil _ _ _ _ _ | exact Kd.Q_nil _ _ _ _ _ | exact Kd.S_nil _ _ _ _ _,by repeat (first | (with_reducible first | exact HB.out | apply below_alloc | apply pw_below_drewN | apply below_drew1) | exact HB.out)⟩
                  · rw [if_neg c11] at H
                    have c11b0 : decide ((l0.length : Int) ≤ (rd l1 x14_1)) = false := decide_eq_false c11
                    clear c11
                    by_cases c12 : 0 ≤ (rd l1 x14_1)
                    · rw [if_pos c12] at H
                      have c12b0 : decide (0 ≤ (rd l1 x14_1)) = true := decide_eq_true c12
                      clear c12
                      by_cases c13 : (rd l1 x14_1) < (l0.length : Int)
                      · rw [if_pos c13] at H
                        have c13b0 : decide ((rd l1 x14_1) < (l0.length : Int)) = true := decide_eq_true c13
                        clear c13
                        by_cases c14 : x6_1.length < 3518437208883
                        · rw [if_pos c14] at H
                          have LMc14 := Aside0.mk c14
                          clear c14
                          obtain ⟨y106,hy106⟩ : ∃ y_ : List (S50),y_ = (x6_1 ++ [(⟨(rd_T50 l0 (rd l1 x14_1)).f0,(rd_T50 l0 (rd l1 x14_1)).f1,(rd_T50 l0 (rd l1 x14_1)).f2,(rd_T50 l0 (rd l1 x14_1)).f3⟩ : S50)]) := ⟨_,rfl⟩
                          replace H : (row_Pick.l0 k1 l0 y106 l1 (l1.length : Int) (wrap64 (x14_1 + 1))) = some (r1,r2) := by first | (rw [hy106];with_reducible exact H) | (have H2_ := (Option.bind_some _ _).symm.trans H;rw [hy106];with_reducible exact H2_) | (have H2_ := (Option.bind_some _ _).symm.trans H;with_reducible exact H2_) | with_reducible exact H | (rw [hy106];exact H) | exact H
                          have Ny106 := Aside0.mk hy106
                          clear hy106
                          have H' := Aside0.mk H
                          clear H
                          have p104 : 0 ≤ (x14_1 : Int) := of_decide_eq_true (by first | (with_reducible assumption) | assumption)
                          have q104 : x14_1 < (l1.length : Int) := of_decide_eq_true (by first | (with_reducible assumption) | assumption)
                          obtain ⟨ad104,e104,hx104_0⟩ := Kd.at_int HR1.out x14_1 p104 q104
                          cases e104
                          replace hx104_0 := (HB.out.cell (World.block_lt_of_cell? w _ hx104_0)).trans hx104_0
                          replace p104 := eq_true p104
                          replace q104 := eq_true q104
                          have p105 : 0 ≤ ((rd l1 x14_1) : Int) := of_decide_eq_true (by first | (with_reducible assumption) | assumption)
                          have q105 : (rd l1 x14_1) < (l0.length : Int) := of_decide_eq_true (by first | (with_reducible assumption) | assumption)
                          obtain ⟨ad105,e105,hx105_0,hx105_1,hx105_2,hx105_3⟩ := at_T50 HR0.out (rd l1 x14_1) p105 q105
                          cases e105
                          replace hx105_0 := (HB.out.cell (World.block_lt_of_cell? w _ hx105_0)).trans hx105_0
                          replace hx105_1 := (HB.out.cell (World.block_lt_of_cell? w _ hx105_1)).trans hx105_1
                          replace hx105_2 := (HB.out.cell (World.block_lt_of_cell? w _ hx105_2)).trans hx105_2
                          replace hx105_3 := (HB.out.cell (World.block_lt_of_cell? w _ hx105_3)).trans hx105_3
                          replace p105 := eq_true p105
                          replace q105 := eq_true q105
                          go_wp2_with (first | ((with_reducible refine gate_builtin (b := .append) (xs := #[.tmp 26,.tmp 31]) rfl ?_);(try (refine gate_guard (by rfl) ?_;dsimp only));at_builtin;refine Kd.R_append k50 (w0 := w) w.heap.size rfl (.tmp 26) (.tmp 31) 22 50 (.agg #[(.int .i64 0),(.bool false),(.int .i64 0),(.string ⟨#[]⟩)]) 40 rfl Try.underlying22 info50 rfl (by decide) (by omega) u6 x6_1 (⟨(rd_T50 l0 (rd l1 x14_1)).f0,(rd_T50 l0 (rd l1 x14_1)).f1,(rd_T50 l0 (rd l1 x14_1)).f2,(rd_T50 l0 (rd l1 x14_1)).f3⟩ : S50) [.int .i64 ((rd_T50 l0 (rd l1 x14_1)).f0),.bool ((rd_T50 l0 (rd l1 x14_1)).f1),.int .i64 ((rd_T50 l0 (rd l1 x14_1)).f2),.string ((rd_T50 l0 (rd l1 x14_1)).f3)] (fun _ => True) (fun _ => False) rfl rfl ?aP (fun _ hk => hk.elim) ?aF ?aO ?aB ?aS ?aL ?_;(case aP => exact k50_mkM _ _ _ (⟨(rd_T50 l0 (rd l1 x14_1)).f0,(rd_T50 l0 (rd l1 x14_1)).f1,(rd_T50 l0 (rd l1 x14_1)).f2,(rd_T50 l0 (rd l1 x14_1)).f3⟩ : S50));(case aB => exact (by repeat (first | (with_reducible first | exact HB.out | apply below_alloc | apply pw_below_drewN | apply below_drew1) | exact HB.out)));(case aF => exact (fun _ _ => trivial));(case aO => exact (by (with_reducible repeat (first | apply Kd.R_alloc | apply Kd.R_drewN | apply Kd.R_drew));exact HO_6.out));(case aS => exact (below_size (by repeat (first | (with_reducible first | exact HB.out | apply below_alloc | apply pw_below_drewN | apply below_drew1) | exact HB.out))));(case aL => have := LMc14.out;omega);intro v107 w15 ho hb hg hat;rw [← Ny106.out] at ho;have n0_ := Aside0.mk (hb);have n1_ := Aside0.mk (ho);clear HB;clear HO_6;have HB := n0_;have HO108 := n1_;clear n0_ n1_;clear ho hb hg hat))
                          go_roundg k1
                          case measure => have := HK1.out;omega
                          case rel => exact ⟨(y106),(wrap64 (x14_1 + 1)),(by first | rfl | (simp;done) | (simp [*];done)),H',⟨by have := HK1.out;omega⟩,⟨by (with_reducible repeat (first | apply Kd.R_alloc | apply Kd.R_drewN | apply Kd.R_drew));exact HO108.out⟩,⟨by repeat (first | (with_reducible first | exact HB.out | apply below_alloc | apply pw_below_drewN | apply below_drew1) | exact HB.out)⟩⟩
                        · rw [if_neg c14] at H
                          exact absurd H (by simp)
                      · rw [if_neg c13] at H
                        exact absurd H (by simp)
                    · rw [if_neg c12] at H
                      exact absurd H (by simp)
              · rw [if_neg c9] at H
                exact absurd H (by simp)
            · rw [if_neg c8] at H
              exact absurd H (by simp)
          · rw [if_neg c7] at H
            have c7b0 : decide (x14_1 < (l1.length : Int)) = false := decide_eq_false c7
            clear c7
            simp only [Option.some.injEq,Prod.mk.injEq] at H
            obtain ⟨rfl,rfl⟩ := H
            go_wp2
            go_ret2
            exact ⟨_,by first | rfl | (simp [errW_none,errW_some] <;> rfl) | (simp [*,errW_none,errW_some] <;> rfl),by (with_reducible repeat (first | apply Kd.R_alloc | apply Kd.R_drewN | apply Kd.R_drew));exact HO_6.out,by repeat (first | (with_reducible first | exact HB.out | apply below_alloc | apply pw_below_drewN | apply below_drew1) | exact HB.out)⟩
    · rw [if_neg c4] at H
      exact absurd H (by simp)
  · rw [if_neg c3] at H
    exact absurd H (by simp)
end Go.Proofs.Ytfoaeigoajooeaa.Z
end
section
namespace Go.Proofs.Ytfoaeigoajooeaa.Z
open Go.RowKit Go.Proofs.YtfoaeigoajooeaaW.PrintWords Go.Proofs.YtfoaeigoajooeaaW.PrintLast Go.Proofs.YtfoaeigoajooeaaW.PrintMore
attribute [local go_sem] max2_int min2_int max_two min_two max_three min_three max_four min_four
set_option linter.unusedVariables false
set_option linter.unusedSimpArgs false
def slices_Clone.f (l0 : List (S50)) : Option ((List (S50))) := (some (([] : List (S50)) : List (S50))).bind fun y141 => (if y141.length + l0.length < 3518437208883 then (some (y141 ++ l0)) else (none))
set_option maxHeartbeats 8000000 in
set_option maxRecDepth 100000 in
theorem slices_Clone.calls (A0 : Option Addr) (c0 : Nat) (l0 : List (S50)) (r : List (S50)) (w : World) (hr0 : Kd.C k50 w A0 l0.length l0) (hc0 : l0.length ≤ c0) (h : slices_Clone.f l0 = some r) :
    Calls Try.prog 54 #[.slice A0 l0.length c0] w fun e w' => ∃ v0_ : Value,e = .returned (v0_) ∧ Kd.R k50 50 w' w.heap.size (fun _ => True) v0_ r ∧ Below w.heap.size w w' := by
  have hq22 : ∀ (W : World) a n c,Sem.run Try.prog (binOp .eql 22 (.slice a n c) (.slice none 0 0)) W = .ok (.bool a.isNone) W := fun W a n c => Lib.run_eql_slice_nil W _ _ a n c 0 0 Try.underlying22
  cases A0 with
  | none =>
    obtain rfl : l0 = [] := C_none hr0
    obtain rfl : r = [] := by simpa [slices_Clone.f] using h.symm
    go_enter Try.func54,Try.ntmps54
    go_wp2
    go_ret
    exact ⟨_,rfl,Kd.R_nil _ _ _ _ _,Below.refl _ _⟩
  | some ad0 =>
  have HR0 := Aside0.mk hr0
  have HC0 := Aside0.mk hc0
  clear hr0 hc0
  have HB := Aside0.mk (Below.refl w.heap.size w)
  have H : ((some (([] : List (S50)) : List (S50))).bind fun y141 => (if y141.length + l0.length < 3518437208883 then (some (y141 ++ l0)) else (none))) = some r := h
  clear h
  obtain ⟨y141,hy141⟩ : ∃ y_ : List (S50),y_ = (([] : List (S50))) := ⟨_,rfl⟩
  replace H : (if y141.length + l0.length < 3518437208883 then (some (y141 ++ l0)) else (none)) = some r := by first | (rw [hy141];with_reducible exact H) | (have H2_ := (Option.bind_some _ _).symm.trans H;rw [hy141];with_reducible exact H2_) | (have H2_ := (Option.bind_some _ _).symm.trans H;with_reducible exact H2_) | with_reducible exact H | (rw [hy141];exact H) | exact H
  have Ny141 := Aside0.mk hy141
  clear hy141
  by_cases c2 : y141.length + l0.length < 3518437208883
  · rw [if_pos c2] at H
    have LMc2 := Aside0.mk c2
    clear c2
    obtain ⟨y144,hy144⟩ : ∃ y_ : List (S50),y_ = (y141 ++ l0) := ⟨_,rfl⟩
    replace H : (some y144) = some r := by first | (rw [hy144];with_reducible exact H) | (have H2_ := (Option.bind_some _ _).symm.trans H;rw [hy144];with_reducible exact H2_) | (have H2_ := (Option.bind_some _ _).symm.trans H;with_reducible exact H2_) | with_reducible exact H | (rw [hy144];exact H) | exact H
    have Ny144 := Aside0.mk hy144
    clear hy144
    obtain rfl := Option.some.inj H
    go_enter Try.func54,Try.ntmps54
    go_wp2_with (first | ((with_reducible refine gate_dst (N := 5) rfl ?_);refine Kd.R_lit k50 _ 50 ?hg (N := 5) ?hd (xs := ([] : List (S50))) (inner := []) (ok := fun _ => True) (okp := fun _ => True) ?hr ?hp (fun _ hk => hk) trivial (Below.refl _ _) (Nat.le_refl _) (by simp) ?_;(case hd => rfl);(case hg => rfl);(case hr => first | (go_simp;done) | (go_simp;rfl));(case hp => exact (Reps.none _ _));intro v142 w3 ho4 hb hg_ hnew_;clear hg_ hnew_;(first | rw [← Ny141.out] at ho4 | (simp only [Int.reduceToNat] at ho4;rw [← Ny141.out] at ho4));have n0_ := Aside0.mk (Kd.R_lower ho4 (below_size (by repeat (first | (with_reducible first | exact HB.out | apply below_alloc | apply pw_below_drewN | apply below_drew1) | exact HB.out))));have n1_ := Aside0.mk (below_step (by repeat (first | (with_reducible first | exact HB.out | apply below_alloc | apply pw_below_drewN | apply below_drew1) | exact HB.out)) hb);clear HB;have HO143 := n0_;have HB := n1_;clear n0_ n1_;clear hb ho4) | ((with_reducible refine gate_builtin (b := .append) (xs := #[.tmp 5,.tmp 6]) rfl ?_);at_builtin;refine Kd.R_append_rows k50 (w0 := w) w.heap.size rfl (.tmp 5) (.tmp 6) 22 50 (.agg #[(.int .i64 0),(.bool false),(.int .i64 0),(.string ⟨#[]⟩)]) 40 rfl Try.underlying22 info50 rfl (by decide) (by omega) v142 y141 l0 _ _ _ (fun _ => True) (fun _ => False) rfl rfl ?aO ?aR (fun _ _ h => h) (fun _ h => h.elim) ?aF ?aB ?aS ?aL ?_;(case aR => repeat (first | exact (Kd.C_below HR0.out HB.out) | (with_reducible refine Kd.C_alloc ?_ _) | (with_reducible refine Kd.C_drewN ?_ _) | (with_reducible refine Kd.C_drew ?_)));(case aB => exact (by repeat (first | (with_reducible first | exact HB.out | apply below_alloc | apply pw_below_drewN | apply below_drew1) | exact HB.out)));(case aF => exact (fun _ _ => trivial));(case aO => exact (by (with_reducible repeat (first | apply Kd.R_alloc | apply Kd.R_drewN | apply Kd.R_drew));exact HO143.out));(case aS => exact (below_size (by repeat (first | (with_reducible first | exact HB.out | apply below_alloc | apply pw_below_drewN | apply below_drew1) | exact HB.out))));(case aL => have := LMc2.out;omega);intro v145 w5 ho hb hg hat;rw [← Ny144.out] at ho;have n0_ := Aside0.mk (hb);have n1_ := Aside0.mk (ho);clear HB;clear HO143;have HB := n0_;have HO146 := n1_;clear n0_ n1_;clear ho hb hg hat))
    go_ret
    exact ⟨_,by first | rfl | (simp [errW_none,errW_some] <;> rfl) | (simp [*,errW_none,errW_some] <;> rfl),by (with_reducible repeat (first | apply Kd.R_alloc | apply Kd.R_drewN | apply Kd.R_drew));exact HO146.out,by repeat (first | (with_reducible first | exact HB.out | apply below_alloc | apply pw_below_drewN | apply below_drew1) | exact HB.out)⟩
  · rw [if_neg c2] at H
    exact absurd H (by simp)
end Go.Proofs.Ytfoaeigoajooeaa.Z
end
section
namespace Go.Proofs.Ytfoaeigoajooeaa.Z
open Go.RowKit Go.Proofs.YtfoaeigoajooeaaW.PrintWords Go.Proofs.YtfoaeigoajooeaaW.PrintLast Go.Proofs.YtfoaeigoajooeaaW.PrintMore
attribute [local go_sem] max2_int min2_int max_two min_two max_three min_three max_four min_four
set_option linter.unusedVariables false
set_option linter.unusedSimpArgs false
def row_Of.f (l0 : List (S50)) : Option ((List (S50))) := (slices_Clone.f l0).bind fun t147 => (some t147)
set_option maxHeartbeats 8000000 in
set_option maxRecDepth 100000 in
theorem row_Of.calls (A0 : Option Addr) (c0 : Nat) (l0 : List (S50)) (r : List (S50)) (w : World) (hr0 : Kd.C k50 w A0 l0.length l0) (hc0 : l0.length ≤ c0) (h : row_Of.f l0 = some r) :
    Calls Try.prog 26 #[.slice A0 l0.length c0] w fun e w' => ∃ v0_ : Value,e = .returned (v0_) ∧ Kd.R k50 50 w' w.heap.size (fun _ => True) v0_ r ∧ Below w.heap.size w w' := by
  have HR0 := Aside0.mk hr0
  have HC0 := Aside0.mk hc0
  clear hr0 hc0
  have HB := Aside0.mk (Below.refl w.heap.size w)
  have H : ((slices_Clone.f l0).bind fun t147 => (some t147)) = some r := h
  clear h
  replace H := Option.bind_eq_some_iff.mp H
  obtain ⟨t147,A20,H⟩ := H
  replace H : (some t147) = some r := H
  have A2 := Aside0.mk A20
  clear A20
  obtain rfl := Option.some.inj H
  go_enter Try.func26,Try.ntmps26
  go_wp2_with (first | ((with_reducible refine gate_callee (f := 54) rfl ?_);refine goesL_ (some 4) rfl rfl Try.func54 (by kernel_rfl) rfl #[.slice A0 l0.length c0] rfl (by (try simp only [List.map_toArray,List.map_cons,List.map_nil]);first | done | rfl | (simp only [List.length_drop,List.length_take];rfl)) ?_;(with_reducible refine (slices_Clone.calls _ _ l0 t147 _ ?side1 ?side2 A2.out).mono ?_);(case side1 => repeat (first | exact HR0.out | (with_reducible refine Kd.C_alloc ?_ _) | (with_reducible refine Kd.C_drewN ?_ _) | (with_reducible refine Kd.C_drew ?_)));(case side2 => exact HC0.out);rintro e w3 ⟨v148,rfl,ho0,hb⟩;refine ⟨_,rfl,?_⟩;have n0_ := Aside0.mk (Kd.R_lower ho0 (below_size (by repeat (first | (with_reducible first | exact HB.out | apply below_alloc | apply pw_below_drewN | apply below_drew1) | exact HB.out))));have n1_ := Aside0.mk (below_step (by repeat (first | (with_reducible first | exact HB.out | apply below_alloc | apply pw_below_drewN | apply below_drew1) | exact HB.out)) hb);clear HB;have HO149 := n0_;have HB := n1_;clear n0_ n1_;(try clear hb);(try clear hb2);(try clear hk);(try clear hi);(try clear ho0)))
  go_ret
  exact ⟨_,by first | rfl | (simp [errW_none,errW_some] <;> rfl) | (simp [*,errW_none,errW_some] <;> rfl),by (with_reducible repeat (first | apply Kd.R_alloc | apply Kd.R_drewN | apply Kd.R_drew));exact HO149.out,by repeat (first | (with_reducible first | exact HB.out | apply below_alloc | apply pw_below_drewN | apply below_drew1) | exact HB.out)⟩
end Go.Proofs.Ytfoaeigoajooeaa.Z
end
section
namespace Go.Proofs.Ytfoaeigoajooeaa.Z
open Go.RowKit Go.Proofs.YtfoaeigoajooeaaW.PrintWords Go.Proofs.YtfoaeigoajooeaaW.PrintLast Go.Proofs.YtfoaeigoajooeaaW.PrintMore
attribute [local go_sem] max2_int min2_int max_two min_two max_three min_three max_four min_four
set_option linter.unusedVariables false
set_option linter.unusedSimpArgs false
def row_Right_1.f (a0_0 : Int) (a0_1 : Bool) (a0_2 : Int) (a0_3 : ByteArray) : Option (Bool) := (value_Right.f a0_0 a0_1 a0_2 a0_3).bind fun t322 => (some (!t322))
set_option maxHeartbeats 8000000 in
set_option maxRecDepth 100000 in
theorem row_Right_1.calls (a0_0 : Int) (a0_1 : Bool) (a0_2 : Int) (a0_3 : ByteArray) (r : Bool) (w : World) (h : row_Right_1.f a0_0 a0_1 a0_2 a0_3 = some r) :
    Calls Try.prog 51 #[.agg #[.int .i64 a0_0,.bool a0_1,.int .i64 a0_2,.string a0_3]] w fun e w' => e = .returned (.bool r) ∧ Below w.heap.size w w' := by
  have hu50 := Try.underlying50
  have HB := Aside0.mk (Below.refl w.heap.size w)
  have H : ((value_Right.f a0_0 a0_1 a0_2 a0_3).bind fun t322 => (some (!t322))) = some r := h
  clear h
  replace H := Option.bind_eq_some_iff.mp H
  obtain ⟨t322,A20,H⟩ := H
  replace H : (some (!t322)) = some r := H
  have A2 := Aside0.mk A20
  clear A20
  obtain rfl := Option.some.inj H
  go_enter Try.func51,Try.ntmps51
  go_wp2_with (first | ((with_reducible refine gate_dst (N := 1) rfl ?_);refine box_event ?hg (N := 1) ?hd (cs := #[.int .i64 a0_0,.bool a0_1,.int .i64 a0_2,.string a0_3]) (t := 50) ?hr ?_;(case hd => rfl);(case hg => rfl);(case hr => first | (go_simp;done) | (go_simp;rfl));intro gb321 hg w3 hbox hb;have n0_ := Aside0.mk (below_step (by repeat (first | (with_reducible first | exact HB.out | apply below_alloc | apply pw_below_drewN | apply below_drew1) | exact HB.out)) hb);have n1_ := Aside0.mk (hbox);have n2_ := Aside0.mk ((by rw [hg];exact (below_size (by repeat (first | (with_reducible first | exact HB.out | apply below_alloc | apply pw_below_drewN | apply below_drew1) | exact HB.out))) : w.heap.size ≤ gb321));have n3_ := Aside0.mk ((by rw [hg];exact (below_size (by repeat (first | (with_reducible first | exact HB.out | apply below_alloc | apply pw_below_drewN | apply below_drew1) | exact HB.out))) : w.heap.size ≤ gb321));clear HB;have HB := n0_;have BK321 := n1_;have GW321 := n2_;have GE321 := n3_;clear n0_ n1_ n2_ n3_;clear hb hbox hg;have hcz4_0 : w3.cell? ⟨gb321,0,none⟩ = some (.int .i64 a0_0) := (blk_cell BK321.out 0).trans rfl;have hcz4_1 : w3.cell? ⟨gb321,1,none⟩ = some (.bool a0_1) := (blk_cell BK321.out 1).trans rfl;have hcz4_2 : w3.cell? ⟨gb321,2,none⟩ = some (.int .i64 a0_2) := (blk_cell BK321.out 2).trans rfl;have hcz4_3 : w3.cell? ⟨gb321,3,none⟩ = some (.string a0_3) := (blk_cell BK321.out 3).trans rfl;have hfz4_0 := blk_frozen BK321.out 0;have hfz4_1 := blk_frozen BK321.out 1;have hfz4_2 := blk_frozen BK321.out 2;have hfz4_3 := blk_frozen BK321.out 3) | ((with_reducible refine gate_callee (f := 52) rfl ?_);refine goesL_ (some 4) rfl rfl Try.func52 (by kernel_rfl) rfl #[.agg #[.int .i64 a0_0,.bool a0_1,.int .i64 a0_2,.string a0_3]] rfl (by (try simp only [List.map_toArray,List.map_cons,List.map_nil]);first | done | rfl | (simp only [List.length_drop,List.length_take];rfl)) ?_;(with_reducible refine (value_Right.calls a0_0 a0_1 a0_2 a0_3 t322 _ A2.out).mono ?_);rintro e w5 ⟨rfl,hb⟩;refine ⟨_,rfl,?_⟩;have n0_ := Aside0.mk (blk_below (g := gb321) (o := .cells #[.int .i64 a0_0,.bool a0_1,.int .i64 a0_2,.string a0_3] 50 (0,0)) (by (with_reducible repeat (first | refine blk_drewN ?_ _ | refine blk_drew ?_ | refine blk_alloc ?_ _));exact BK321.out) hb);have n1_ := Aside0.mk (below_step (by repeat (first | (with_reducible first | exact HB.out | apply below_alloc | apply pw_below_drewN | apply below_drew1 | refine below_set ?_ GE321.out) | exact HB.out)) hb);clear BK321;clear HB;have BK321 := n0_;have HB := n1_;clear n0_ n1_;(try clear hb);(try clear hb2);(try clear hk);(try clear hi)))
  go_ret
  exact ⟨by first | rfl | (simp [errW_none,errW_some] <;> rfl) | (simp [*,errW_none,errW_some] <;> rfl),by repeat (first | (with_reducible first | exact HB.out | apply below_alloc | apply pw_below_drewN | apply below_drew1 | refine below_set ?_ GE321.out) | exact HB.out)⟩
end Go.Proofs.Ytfoaeigoajooeaa.Z
end
section
namespace Go.Proofs.Ytfoaeigoajooeaa.Z
open Go.RowKit Go.Proofs.YtfoaeigoajooeaaW.PrintWords Go.Proofs.YtfoaeigoajooeaaW.PrintLast Go.Proofs.YtfoaeigoajooeaaW.PrintMore
attribute [local go_sem] max2_int min2_int max_two min_two max_three min_three max_four min_four
set_option linter.unusedVariables false
set_option linter.unusedSimpArgs false
def slices_IndexFunc.l0 : Nat → List (S50) → Int → Int → Option (Int)
  | 0,_,_,_ => none
  | k + 1,x0,x7,x8 => if x8 < x7 then (if 0 ≤ x8 then (if x8 < (x0.length : Int) then ((row_Right_1.f ((rd_T50 x0 x8).f0) ((rd_T50 x0 x8).f1) ((rd_T50 x0 x8).f2) ((rd_T50 x0 x8).f3)).bind fun t324 => (if t324 = true then (some x8) else (slices_IndexFunc.l0 k x0 x7 (wrap64 (x8 + 1))))) else (none)) else (none)) else (some (-1))
def slices_IndexFunc.f (k : Nat) (l0 : List (S50)) (a1 : Int) : Option (Int) := slices_IndexFunc.l0 k l0 (l0.length : Int) 0
theorem slices_IndexFunc.mono_l : ∀ k,(∀ y0 y1 y2,LeO (slices_IndexFunc.l0 k y0 y1 y2) (slices_IndexFunc.l0 (k + 1) y0 y1 y2))
  | 0 => fun _ _ _ r h => by simp [slices_IndexFunc.l0] at h
  | k + 1 => by
    have ih0 := slices_IndexFunc.mono_l k
    · intro y0 y1 y2
      unfold slices_IndexFunc.l0
      repeat' first
      | (with_reducible exact ih0 _ _ _)
      | (with_reducible exact LeO.refl _)
      | (with_reducible exact LeO.none _)
      | (with_reducible refine LeO.ite ?_ ?_)
      | (with_reducible refine LeO.bind ?_ (fun _ => ?_))
      | exact ih0 _ _ _
      | exact LeO.none _
      | refine LeO.ite ?_ ?_
      | refine LeO.bind ?_ (fun _ => ?_)
theorem slices_IndexFunc.mono : ∀ a0 a1 k,LeO (slices_IndexFunc.f k a0 a1) (slices_IndexFunc.f (k + 1) a0 a1) := by
  intro a0 a1 k
  have ih0 := slices_IndexFunc.mono_l k
  unfold slices_IndexFunc.f
  repeat' first
      | (with_reducible exact ih0 _ _ _)
      | (with_reducible exact LeO.refl _)
      | (with_reducible exact LeO.none _)
      | (with_reducible refine LeO.ite ?_ ?_)
      | (with_reducible refine LeO.bind ?_ (fun _ => ?_))
      | exact ih0 _ _ _
      | exact LeO.none _
      | refine LeO.ite ?_ ?_
      | refine LeO.bind ?_ (fun _ => ?_)
set_option maxHeartbeats 8000000 in
set_option maxRecDepth 100000 in
theorem slices_IndexFunc.calls (k : Nat) (A0 : Option Addr) (c0 : Nat) (l0 : List (S50)) (a1 : Int) (r : Int) (w : World) (hr0 : Kd.C k50 w A0 l0.length l0) (hc0 : l0.length ≤ c0) (h : slices_IndexFunc.f k l0 a1 = some r) :
    Calls Try.prog 68 #[.slice A0 l0.length c0,.func (.func 51) #[] #[]] w fun e w' => e = .returned (.int .i64 r) ∧ Below w.heap.size w w' := by
  have hu50 := Try.underlying50
  have HR0 := Aside0.mk hr0
  have HC0 := Aside0.mk hc0
  clear hr0 hc0
  have HB := Aside0.mk (Below.refl w.heap.size w)
  have H : (slices_IndexFunc.l0 k l0 (l0.length : Int) 0) = some r := h
  clear h
  have H' := Aside0.mk H
  clear H
  go_enter Try.func68,Try.ntmps68
  go_wp2
  go_loopg [8] k (fun kq v8 w' => ∃ (x8_1 : Int),v8 = .int .i64 x8_1 ∧ Aside0 (slices_IndexFunc.l0 kq l0 (l0.length : Int) x8_1 = some r) ∧ Aside0 (kq ≤ k) ∧ Aside0 (Below w.heap.size w w'))
  case atStart => exact ⟨(0),(by first | rfl | (simp;done) | (simp [*];done)),H',⟨Nat.le_refl _⟩,⟨by repeat (first | (with_reducible first | exact HB.out | apply below_alloc | apply pw_below_drewN | apply below_drew1) | exact HB.out)⟩⟩
  case round =>
    clear H'
    try clear p2
    obtain ⟨x8_1,rfl,HA,HK1,HB⟩ := hrel
    cases gk with
    | zero => exact absurd HA.out (by simp [slices_IndexFunc.l0])
    | succ k1 =>
      have H := HA.out
      clear HA
      simp only [slices_IndexFunc.l0] at H
      by_cases c3 : x8_1 < (l0.length : Int)
      · rw [if_pos c3] at H
        have c3b0 : decide (x8_1 < (l0.length : Int)) = true := decide_eq_true c3
        clear c3
        by_cases c4 : 0 ≤ x8_1
        · rw [if_pos c4] at H
          have c4b0 : decide (0 ≤ x8_1) = true := decide_eq_true c4
          clear c4
          by_cases c5 : x8_1 < (l0.length : Int)
          · rw [if_pos c5] at H
            have c5b0 : decide (x8_1 < (l0.length : Int)) = true := decide_eq_true c5
            clear c5
            replace H := Option.bind_eq_some_iff.mp H
            obtain ⟨t324,A60,H⟩ := H
            replace H : (if t324 = true then (some x8_1) else (slices_IndexFunc.l0 k1 l0 (l0.length : Int) (wrap64 (x8_1 + 1)))) = some r := H
            have A6 := Aside0.mk A60
            clear A60
            by_cases c7 : t324 = true
            · subst c7
              have H1 : (some x8_1) = some r := by rw [if_pos rfl] at H;exact H
              clear H
              have H := H1
              clear H1
              obtain rfl := Option.some.inj H
              have p323 : 0 ≤ (x8_1 : Int) := of_decide_eq_true (by first | (with_reducible assumption) | assumption)
              have q323 : x8_1 < (l0.length : Int) := of_decide_eq_true (by first | (with_reducible assumption) | assumption)
              obtain ⟨ad323,e323,hx323_0,hx323_1,hx323_2,hx323_3⟩ := at_T50 HR0.out x8_1 p323 q323
              cases e323
              replace hx323_0 := (HB.out.cell (World.block_lt_of_cell? w _ hx323_0)).trans hx323_0
              replace hx323_1 := (HB.out.cell (World.block_lt_of_cell? w _ hx323_1)).trans hx323_1
              replace hx323_2 := (HB.out.cell (World.block_lt_of_cell? w _ hx323_2)).trans hx323_2
              replace hx323_3 := (HB.out.cell (World.block_lt_of_cell? w _ hx323_3)).trans hx323_3
              replace p323 := eq_true p323
              replace q323 := eq_true q323
              go_wp2_with (first | ((with_reducible refine gate_tmp (n := 11) rfl ?_);refine goesT_ (some 16) rfl rfl Try.func51 (by kernel_rfl) rfl #[.agg #[.int .i64 ((rd_T50 l0 x8_1).f0),.bool ((rd_T50 l0 x8_1).f1),.int .i64 ((rd_T50 l0 x8_1).f2),.string ((rd_T50 l0 x8_1).f3)]] rfl rfl (by (try simp only [List.map_toArray,List.map_cons,List.map_nil]);first | done | rfl | (simp only [List.length_drop,List.length_take];rfl)) ?_;(with_reducible refine (row_Right_1.calls ((rd_T50 l0 x8_1).f0) ((rd_T50 l0 x8_1).f1) ((rd_T50 l0 x8_1).f2) ((rd_T50 l0 x8_1).f3) true _ A6.out).mono ?_);rintro e w8 ⟨rfl,hb⟩;refine ⟨_,rfl,?_⟩;have n0_ := Aside0.mk (below_step (by repeat (first | (with_reducible first | exact HB.out | apply below_alloc | apply pw_below_drewN | apply below_drew1) | exact HB.out)) hb);clear HB;have HB := n0_;clear n0_;(try clear hb);(try clear hb2);(try clear hk);(try clear hi)))
              go_ret
              exact ⟨by first | rfl | (simp [errW_none,errW_some] <;> rfl) | (simp [*,errW_none,errW_some] <;> rfl),by repeat (first | (with_reducible first | exact HB.out | apply below_alloc | apply pw_below_drewN | apply below_drew1) | exact HB.out)⟩
            · replace c7 := Bool.eq_false_iff.mpr c7
              subst c7
              have H1 : (slices_IndexFunc.l0 k1 l0 (l0.length : Int) (wrap64 (x8_1 + 1))) = some r := by rw [if_neg (show ¬ (false = true) by decide)] at H;exact H
              clear H
              have H := H1
              clear H1
              have H' := Aside0.mk H
              clear H
              have p323 : 0 ≤ (x8_1 : Int) := of_decide_eq_true (by first | (with_reducible assumption) | assumption)
              have q323 : x8_1 < (l0.length : Int) := of_decide_eq_true (by first | (with_reducible assumption) | assumption)
              obtain ⟨ad323,e323,hx323_0,hx323_1,hx323_2,hx323_3⟩ := at_T50 HR0.out x8_1 p323 q323
              cases e323
              replace hx323_0 := (HB.out.cell (World.block_lt_of_cell? w _ hx323_0)).trans hx323_0
              replace hx323_1 := (HB.out.cell (World.block_lt_of_cell? w _ hx323_1)).trans hx323_1
              replace hx323_2 := (HB.out.cell (World.block_lt_of_cell? w _ hx323_2)).trans hx323_2
              replace hx323_3 := (HB.out.cell (World.block_lt_of_cell? w _ hx323_3)).trans hx323_3
              replace p323 := eq_true p323
              replace q323 := eq_true q323
              go_wp2_with (first | ((with_reducible refine gate_tmp (n := 11) rfl ?_);refine goesT_ (some 16) rfl rfl Try.func51 (by kernel_rfl) rfl #[.agg #[.int .i64 ((rd_T50 l0 x8_1).f0),.bool ((rd_T50 l0 x8_1).f1),.int .i64 ((rd_T50 l0 x8_1).f2),.string ((rd_T50 l0 x8_1).f3)]] rfl rfl (by (try simp only [List.map_toArray,List.map_cons,List.map_nil]);first | done | rfl | (simp only [List.length_drop,List.length_take];rfl)) ?_;(with_reducible refine (row_Right_1.calls ((rd_T50 l0 x8_1).f0) ((rd_T50 l0 x8_1).f1) ((rd_T50 l0 x8_1).f2) ((rd_T50 l0 x8_1).f3) false _ A6.out).mono ?_);rintro e w9 ⟨rfl,hb⟩;refine ⟨_,rfl,?_⟩;have n0_ := Aside0.mk (below_step (by repeat (first | (with_reducible first | exact HB.out | apply below_alloc | apply pw_below_drewN | apply below_drew1) | exact HB.out)) hb);clear HB;have HB := n0_;clear n0_;(try clear hb);(try clear hb2);(try clear hk);(try clear hi)))
              go_roundg k1
              case measure => have := HK1.out;omega
              case rel => exact ⟨(wrap64 (x8_1 + 1)),(by first | rfl | (simp;done) | (simp [*];done)),H',⟨by have := HK1.out;omega⟩,⟨by repeat (first | (with_reducible first | exact HB.out | apply below_alloc | apply pw_below_drewN | apply below_drew1) | exact HB.out)⟩⟩
          · rw [if_neg c5] at H
            exact absurd H (by simp)
        · rw [if_neg c4] at H
          exact absurd H (by simp)
      · rw [if_neg c3] at H
        have c3b0 : decide (x8_1 < (l0.length : Int)) = false := decide_eq_false c3
        clear c3
        obtain rfl := Option.some.inj H
        go_wp2
        go_ret
        exact ⟨by first | rfl | (simp [errW_none,errW_some] <;> rfl) | (simp [*,errW_none,errW_some] <;> rfl),by repeat (first | (with_reducible first | exact HB.out | apply below_alloc | apply pw_below_drewN | apply below_drew1) | exact HB.out)⟩
end Go.Proofs.Ytfoaeigoajooeaa.Z
end
section
namespace Go.Proofs.Ytfoaeigoajooeaa.Z
open Go.RowKit Go.Proofs.YtfoaeigoajooeaaW.PrintWords Go.Proofs.YtfoaeigoajooeaaW.PrintLast Go.Proofs.YtfoaeigoajooeaaW.PrintMore
attribute [local go_sem] max2_int min2_int max_two min_two max_three min_three max_four min_four
set_option linter.unusedVariables false
set_option linter.unusedSimpArgs false
def slices_ContainsFunc.f (k : Nat) (l0 : List (S50)) (a1 : Int) : Option (Bool) := (slices_IndexFunc.f k l0 a1).bind fun t325 => (some (decide (t325 ≥ 0)))
theorem slices_ContainsFunc.mono : ∀ a0 a1 k,LeO (slices_ContainsFunc.f k a0 a1) (slices_ContainsFunc.f (k + 1) a0 a1) := by
  intro a0 a1 k
  unfold slices_ContainsFunc.f
  repeat' first
      | (with_reducible exact slices_IndexFunc.mono _ _ _)
      | (with_reducible exact LeO.refl _)
      | (with_reducible exact LeO.none _)
      | (with_reducible refine LeO.ite ?_ ?_)
      | (with_reducible refine LeO.bind ?_ (fun _ => ?_))
      | exact slices_IndexFunc.mono _ _ _
      | exact LeO.none _
      | refine LeO.ite ?_ ?_
      | refine LeO.bind ?_ (fun _ => ?_)
set_option maxHeartbeats 8000000 in
set_option maxRecDepth 100000 in
theorem slices_ContainsFunc.calls (k : Nat) (A0 : Option Addr) (c0 : Nat) (l0 : List (S50)) (a1 : Int) (r : Bool) (w : World) (hr0 : Kd.C k50 w A0 l0.length l0) (hc0 : l0.length ≤ c0) (h : slices_ContainsFunc.f k l0 a1 = some r) :
    Calls Try.prog 50 #[.slice A0 l0.length c0,.func (.func 51) #[] #[]] w fun e w' => e = .returned (.bool r) ∧ Below w.heap.size w w' := by
  have HR0 := Aside0.mk hr0
  have HC0 := Aside0.mk hc0
  clear hr0 hc0
  have HB := Aside0.mk (Below.refl w.heap.size w)
  have H : ((slices_IndexFunc.f k l0 a1).bind fun t325 => (some (decide (t325 ≥ 0)))) = some r := h
  clear h
  replace H := Option.bind_eq_some_iff.mp H
  obtain ⟨t325,A30,H⟩ := H
  replace H : (some (decide (t325 ≥ 0))) = some r := H
  have A3 := Aside0.mk A30
  clear A30
  obtain rfl := Option.some.inj H
  go_enter Try.func50,Try.ntmps50
  go_wp2_with (first | ((with_reducible refine gate_callee (f := 68) rfl ?_);refine goesL_ (some 7) rfl rfl Try.func68 (by kernel_rfl) rfl #[.slice A0 l0.length c0,.func (.func 51) #[] #[]] rfl (by (try simp only [List.map_toArray,List.map_cons,List.map_nil]);first | done | rfl | (simp only [List.length_drop,List.length_take];rfl)) ?_;(with_reducible refine (slices_IndexFunc.calls k _ _ l0 a1 t325 _ ?side1 ?side2 A3.out).mono ?_);(case side1 => repeat (first | exact HR0.out | (with_reducible refine Kd.C_alloc ?_ _) | (with_reducible refine Kd.C_drewN ?_ _) | (with_reducible refine Kd.C_drew ?_)));(case side2 => exact HC0.out);rintro e w4 ⟨rfl,hb⟩;refine ⟨_,rfl,?_⟩;have n0_ := Aside0.mk (below_step (by repeat (first | (with_reducible first | exact HB.out | apply below_alloc | apply pw_below_drewN | apply below_drew1) | exact HB.out)) hb);clear HB;have HB := n0_;clear n0_;(try clear hb);(try clear hb2);(try clear hk);(try clear hi)))
  go_ret
  exact ⟨by first | rfl | (simp [errW_none,errW_some] <;> rfl) | (simp [*,errW_none,errW_some] <;> rfl),by repeat (first | (with_reducible first | exact HB.out | apply below_alloc | apply pw_below_drewN | apply below_drew1) | exact HB.out)⟩
end Go.Proofs.Ytfoaeigoajooeaa.Z
end
section
namespace Go.Proofs.Ytfoaeigoajooeaa.Z
open Go.RowKit Go.Proofs.YtfoaeigoajooeaaW.PrintWords Go.Proofs.YtfoaeigoajooeaaW.PrintLast Go.Proofs.YtfoaeigoajooeaaW.PrintMore
attribute [local go_sem] max2_int min2_int max_two min_two max_three min_three max_four min_four
set_option linter.unusedVariables false
set_option linter.unusedSimpArgs false
def row_Right.f (k : Nat) (l0 : List (S50)) : Option (Bool) := if (l0.length : Int) ≤ 40 then ((slices_ContainsFunc.f k l0 424251).bind fun t326 => (some (!t326))) else (some false)
theorem row_Right.mono : ∀ a0 k,LeO (row_Right.f k a0) (row_Right.f (k + 1) a0) := by
  intro a0 k
  unfold row_Right.f
  repeat' first
      | (with_reducible exact slices_ContainsFunc.mono _ _ _)
      | (with_reducible exact LeO.refl _)
      | (with_reducible exact LeO.none _)
      | (with_reducible refine LeO.ite ?_ ?_)
      | (with_reducible refine LeO.bind ?_ (fun _ => ?_))
      | exact slices_ContainsFunc.mono _ _ _
      | exact LeO.none _
      | refine LeO.ite ?_ ?_
      | refine LeO.bind ?_ (fun _ => ?_)
set_option maxHeartbeats 8000000 in
set_option maxRecDepth 100000 in
theorem row_Right.calls (k : Nat) (A0 : Option Addr) (c0 : Nat) (l0 : List (S50)) (r : Bool) (w : World) (hr0 : Kd.C k50 w A0 l0.length l0) (hc0 : l0.length ≤ c0) (h : row_Right.f k l0 = some r) :
    Calls Try.prog 24 #[.slice A0 l0.length c0] w fun e w' => e = .returned (.bool r) ∧ Below w.heap.size w w' := by
  have HR0 := Aside0.mk hr0
  have HC0 := Aside0.mk hc0
  clear hr0 hc0
  have HB := Aside0.mk (Below.refl w.heap.size w)
  have H : (if (l0.length : Int) ≤ 40 then ((slices_ContainsFunc.f k l0 424251).bind fun t326 => (some (!t326))) else (some false)) = some r := h
  clear h
  by_cases c2 : (l0.length : Int) ≤ 40
  · rw [if_pos c2] at H
    have c2b0 : decide ((l0.length : Int) ≤ 40) = true := decide_eq_true c2
    have c2b1 : decide (l0.length ≤ 40) = true := decide_eq_true (by omega)
    clear c2
    replace H := Option.bind_eq_some_iff.mp H
    obtain ⟨t326,A30,H⟩ := H
    replace H : (some (!t326)) = some r := H
    have A3 := Aside0.mk A30
    clear A30
    obtain rfl := Option.some.inj H
    go_enter Try.func24,Try.ntmps24
    go_wp2_with (first | (go_at_call 50;(with_reducible refine (slices_ContainsFunc.calls k _ _ l0 424251 t326 _ ?side1 ?side2 A3.out).mono ?_);(case side1 => repeat (first | exact HR0.out | (with_reducible refine Kd.C_alloc ?_ _) | (with_reducible refine Kd.C_drewN ?_ _) | (with_reducible refine Kd.C_drew ?_)));(case side2 => exact HC0.out);rintro e w4 ⟨rfl,hb⟩;have n0_ := Aside0.mk (below_step (by repeat (first | (with_reducible first | exact HB.out | apply below_alloc | apply pw_below_drewN | apply below_drew1) | exact HB.out)) hb);clear HB;have HB := n0_;clear n0_;(try clear hb);(try clear hb2);(try clear hk);(try clear hi)))
    go_ret
    exact ⟨by first | rfl | (simp [errW_none,errW_some] <;> rfl) | (simp [*,errW_none,errW_some] <;> rfl),by repeat (first | (with_reducible first | exact HB.out | apply below_alloc | apply pw_below_drewN | apply below_drew1) | exact HB.out)⟩
  · rw [if_neg c2] at H
    have c2b0 : decide ((l0.length : Int) ≤ 40) = false := decide_eq_false c2
    have c2b1 : decide (l0.length ≤ 40) = false := decide_eq_false (by omega)
    clear c2
    obtain rfl := Option.some.inj H
    go_enter Try.func24,Try.ntmps24
    go_wp2
    go_ret
    exact ⟨by first | rfl | (simp [errW_none,errW_some] <;> rfl) | (simp [*,errW_none,errW_some] <;> rfl),by repeat (first | (with_reducible first | exact HB.out | apply below_alloc | apply pw_below_drewN | apply below_drew1) | exact HB.out)⟩
end Go.Proofs.Ytfoaeigoajooeaa.Z
end
section
namespace Go.Proofs.Ytfoaeigoajooeaa.Z
open Go.RowKit Go.Proofs.YtfoaeigoajooeaaW.PrintWords Go.Proofs.YtfoaeigoajooeaaW.PrintLast Go.Proofs.YtfoaeigoajooeaaW.PrintMore
attribute [local go_sem] max2_int min2_int max_two min_two max_three min_three max_four min_four
set_option linter.unusedVariables false
set_option linter.unusedSimpArgs false
def verdererref02_Right.l0 : Nat → List (S50) → Int → Option (Bool)
  | 0,_,_ => none
  | k + 1,x0,x3 => if x3 < (x0.length : Int) then (if 0 ≤ x3 then ((verdererref01_Right.f ((rd_T50 x0 x3).f0) ((rd_T50 x0 x3).f1) ((rd_T50 x0 x3).f2) ((rd_T50 x0 x3).f3)).bind fun t329 => (if t329 = true then (verdererref02_Right.l0 k x0 (wrap64 (x3 + 1))) else (some false))) else (none)) else (some true)
def verdererref02_Right.f (k : Nat) (l0 : List (S50)) : Option (Bool) := if (l0.length : Int) > 40 then (some false) else (verdererref02_Right.l0 k l0 0)
theorem verdererref02_Right.mono_l : ∀ k,(∀ y0 y1,LeO (verdererref02_Right.l0 k y0 y1) (verdererref02_Right.l0 (k + 1) y0 y1))
  | 0 => fun _ _ r h => by simp [verdererref02_Right.l0] at h
  | k + 1 => by
    have ih0 := verdererref02_Right.mono_l k
    · intro y0 y1
      unfold verdererref02_Right.l0
      repeat' first
      | (with_reducible exact ih0 _ _)
      | (with_reducible exact LeO.refl _)
      | (with_reducible exact LeO.none _)
      | (with_reducible refine LeO.ite ?_ ?_)
      | (with_reducible refine LeO.bind ?_ (fun _ => ?_))
      | exact ih0 _ _
      | exact LeO.none _
      | refine LeO.ite ?_ ?_
      | refine LeO.bind ?_ (fun _ => ?_)
theorem verdererref02_Right.mono : ∀ a0 k,LeO (verdererref02_Right.f k a0) (verdererref02_Right.f (k + 1) a0) := by
  intro a0 k
  have ih0 := verdererref02_Right.mono_l k
  unfold verdererref02_Right.f
  repeat' first
      | (with_reducible exact ih0 _ _)
      | (with_reducible exact LeO.refl _)
      | (with_reducible exact LeO.none _)
      | (with_reducible refine LeO.ite ?_ ?_)
      | (with_reducible refine LeO.bind ?_ (fun _ => ?_))
      | exact ih0 _ _
      | exact LeO.none _
      | refine LeO.ite ?_ ?_
      | refine LeO.bind ?_ (fun _ => ?_)
set_option maxHeartbeats 8000000 in
set_option maxRecDepth 100000 in
theorem verdererref02_Right.calls (k : Nat) (A0 : Option Addr) (c0 : Nat) (l0 : List (S50)) (r : Bool) (w : World) (hr0 : Kd.C k50 w A0 l0.length l0) (hc0 : l0.length ≤ c0) (h : verdererref02_Right.f k l0 = some r) :
    Calls Try.prog 25 #[.slice A0 l0.length c0] w fun e w' => e = .returned (.bool r) ∧ Below w.heap.size w w' := by
  have hu50 := Try.underlying50
  have HR0 := Aside0.mk hr0
  have HC0 := Aside0.mk hc0
  clear hr0 hc0
  have HB := Aside0.mk (Below.refl w.heap.size w)
  have H : (if (l0.length : Int) > 40 then (some false) else (verdererref02_Right.l0 k l0 0)) = some r := h
  clear h
  by_cases c2 : (l0.length : Int) > 40
  · rw [if_pos c2] at H
    have c2b0 : decide (40 < (l0.length : Int)) = true := decide_eq_true c2
    have c2b1 : decide (40 < l0.length) = true := decide_eq_true (by omega)
    clear c2
    obtain rfl := Option.some.inj H
    go_enter Try.func25,Try.ntmps25
    go_wp2
    go_ret
    exact ⟨by first | rfl | (simp [errW_none,errW_some] <;> rfl) | (simp [*,errW_none,errW_some] <;> rfl),by repeat (first | (with_reducible first | exact HB.out | apply below_alloc | apply pw_below_drewN | apply below_drew1) | exact HB.out)⟩
  · rw [if_neg c2] at H
    have c2b0 : decide (40 < (l0.length : Int)) = false := decide_eq_false c2
    have c2b1 : decide (40 < l0.length) = false := decide_eq_false (by omega)
    clear c2
    have H' := Aside0.mk H
    clear H
    go_enter Try.func25,Try.ntmps25
    go_wp2
    go_loopg [3] k (fun kq v3 w' => ∃ (x3_1 : Int),v3 = .int .i64 x3_1 ∧ Aside0 (verdererref02_Right.l0 kq l0 x3_1 = some r) ∧ Aside0 (kq ≤ k) ∧ Aside0 (Below w.heap.size w w'))
    case atStart => exact ⟨(0),(by first | rfl | (simp;done) | (simp [*];done)),H',⟨Nat.le_refl _⟩,⟨by repeat (first | (with_reducible first | exact HB.out | apply below_alloc | apply pw_below_drewN | apply below_drew1) | exact HB.out)⟩⟩
    case round =>
      clear H'
      try clear c2
      try clear c2b0
      try clear c2b1
      try clear p2
      obtain ⟨x3_1,rfl,HA,HK1,HB⟩ := hrel
      cases gk with
      | zero => exact absurd HA.out (by simp [verdererref02_Right.l0])
      | succ k1 =>
        have H := HA.out
        clear HA
        simp only [verdererref02_Right.l0] at H
        by_cases c3 : x3_1 < (l0.length : Int)
        · rw [if_pos c3] at H
          have c3b0 : decide (x3_1 < (l0.length : Int)) = true := decide_eq_true c3
          clear c3
          by_cases c4 : 0 ≤ x3_1
          · rw [if_pos c4] at H
            have c4b0 : decide (0 ≤ x3_1) = true := decide_eq_true c4
            clear c4
            replace H := Option.bind_eq_some_iff.mp H
            obtain ⟨t329,A50,H⟩ := H
            replace H : (if t329 = true then (verdererref02_Right.l0 k1 l0 (wrap64 (x3_1 + 1))) else (some false)) = some r := H
            have A5 := Aside0.mk A50
            clear A50
            by_cases c6 : t329 = true
            · subst c6
              have H1 : (verdererref02_Right.l0 k1 l0 (wrap64 (x3_1 + 1))) = some r := by rw [if_pos rfl] at H;exact H
              clear H
              have H := H1
              clear H1
              have H' := Aside0.mk H
              clear H
              have p328 : 0 ≤ (x3_1 : Int) := of_decide_eq_true (by first | (with_reducible assumption) | assumption)
              have q328 : x3_1 < (l0.length : Int) := of_decide_eq_true (by first | (with_reducible assumption) | assumption)
              obtain ⟨ad328,e328,hx328_0,hx328_1,hx328_2,hx328_3⟩ := at_T50 HR0.out x3_1 p328 q328
              cases e328
              replace hx328_0 := (HB.out.cell (World.block_lt_of_cell? w _ hx328_0)).trans hx328_0
              replace hx328_1 := (HB.out.cell (World.block_lt_of_cell? w _ hx328_1)).trans hx328_1
              replace hx328_2 := (HB.out.cell (World.block_lt_of_cell? w _ hx328_2)).trans hx328_2
              replace hx328_3 := (HB.out.cell (World.block_lt_of_cell? w _ hx328_3)).trans hx328_3
              replace p328 := eq_true p328
              replace q328 := eq_true q328
              go_wp2_with (first | ((with_reducible refine gate_callee (f := 53) rfl ?_);refine goesL_ (some 17) rfl rfl Try.func53 (by kernel_rfl) rfl #[.agg #[.int .i64 ((rd_T50 l0 x3_1).f0),.bool ((rd_T50 l0 x3_1).f1),.int .i64 ((rd_T50 l0 x3_1).f2),.string ((rd_T50 l0 x3_1).f3)]] rfl (by (try simp only [List.map_toArray,List.map_cons,List.map_nil]);first | done | rfl | (simp only [List.length_drop,List.length_take];rfl)) ?_;(with_reducible refine (verdererref01_Right.calls ((rd_T50 l0 x3_1).f0) ((rd_T50 l0 x3_1).f1) ((rd_T50 l0 x3_1).f2) ((rd_T50 l0 x3_1).f3) true _ A5.out).mono ?_);rintro e w7 ⟨rfl,hb⟩;refine ⟨_,rfl,?_⟩;have n0_ := Aside0.mk (below_step (by repeat (first | (with_reducible first | exact HB.out | apply below_alloc | apply pw_below_drewN | apply below_drew1) | exact HB.out)) hb);clear HB;have HB := n0_;clear n0_;(try clear hb);(try clear hb2);(try clear hk);(try clear hi)))
              go_roundg k1
              case measure => have := HK1.out;omega
              case rel => exact ⟨(wrap64 (x3_1 + 1)),(by first | rfl | (simp;done) | (simp [*];done)),H',⟨by have := HK1.out;omega⟩,⟨by repeat (first | (with_reducible first | exact HB.out | apply below_alloc | apply pw_below_drewN | apply below_drew1) | exact HB.out)⟩⟩
            · replace c6 := Bool.eq_false_iff.mpr c6
              subst c6
              have H1 : (some false) = some r := by rw [if_neg (show ¬ (false = true) by decide)] at H;exact H
              clear H
              have H := H1
              clear H1
              obtain rfl := Option.some.inj H
              have p328 : 0 ≤ (x3_1 : Int) := of_decide_eq_true (by first | (with_reducible assumption) | assumption)
              have q328 : x3_1 < (l0.length : Int) := of_decide_eq_true (by first | (with_reducible assumption) | assumption)
              obtain ⟨ad328,e328,hx328_0,hx328_1,hx328_2,hx328_3⟩ := at_T50 HR0.out x3_1 p328 q328
              cases e328
              replace hx328_0 := (HB.out.cell (World.block_lt_of_cell? w _ hx328_0)).trans hx328_0
              replace hx328_1 := (HB.out.cell (World.block_lt_of_cell? w _ hx328_1)).trans hx328_1
              replace hx328_2 := (HB.out.cell (World.block_lt_of_cell? w _ hx328_2)).trans hx328_2
              replace hx328_3 := (HB.out.cell (World.block_lt_of_cell? w _ hx328_3)).trans hx328_3
              replace p328 := eq_true p328
              replace q328 := eq_true q328
              go_wp2_with (first | ((with_reducible refine gate_callee (f := 53) rfl ?_);refine goesL_ (some 17) rfl rfl Try.func53 (by kernel_rfl) rfl #[.agg #[.int .i64 ((rd_T50 l0 x3_1).f0),.bool ((rd_T50 l0 x3_1).f1),.int .i64 ((rd_T50 l0 x3_1).f2),.string ((rd_T50 l0 x3_1).f3)]] rfl (by (try simp only [List.map_toArray,List.map_cons,List.map_nil]);first | done | rfl | (simp only [List.length_drop,List.length_take];rfl)) ?_;(with_reducible refine (verdererref01_Right.calls ((rd_T50 l0 x3_1).f0) ((rd_T50 l0 x3_1).f1) ((rd_T50 l0 x3_1).f2) ((rd_T50 l0 x3_1).f3) false _ A5.out).mono ?_);rintro e w8 ⟨rfl,hb⟩;refine ⟨_,rfl,?_⟩;have n0_ := Aside0.mk (below_step (by repeat (first | (with_reducible first | exact HB.out | apply below_alloc | apply pw_below_drewN | apply below_drew1) | exact HB.out)) hb);clear HB;have HB := n0_;clear n0_;(try clear hb);(try clear hb2);(try clear hk);(try clear hi)))
              go_ret
              exact ⟨by first | rfl | (simp [errW_none,errW_some] <;> rfl) | (simp [*,errW_none,errW_some] <;> rfl),by repeat (first | (with_reducible first | exact HB.out | apply below_alloc | apply pw_below_drewN | apply below_drew1) | exact HB.out)⟩
          · rw [if_neg c4] at H
            exact absurd H (by simp)
        · rw [if_neg c3] at H
          have c3b0 : decide (x3_1 < (l0.length : Int)) = false := decide_eq_false c3
          clear c3
          obtain rfl := Option.some.inj H
          go_wp2
          go_ret
          exact ⟨by first | rfl | (simp [errW_none,errW_some] <;> rfl) | (simp [*,errW_none,errW_some] <;> rfl),by repeat (first | (with_reducible first | exact HB.out | apply below_alloc | apply pw_below_drewN | apply below_drew1) | exact HB.out)⟩
end Go.Proofs.Ytfoaeigoajooeaa.Z
end
section
namespace Go.Proofs.Ytfoaeigoajooeaa.Z
open Go.RowKit Go.Proofs.YtfoaeigoajooeaaW.PrintWords Go.Proofs.YtfoaeigoajooeaaW.PrintLast Go.Proofs.YtfoaeigoajooeaaW.PrintMore
attribute [local go_sem] max2_int min2_int max_two min_two max_three min_three max_four min_four
set_option linter.unusedVariables false
set_option linter.unusedSimpArgs false
mutual
def verdererref01_Text.l0 : Nat → ByteArray → ByteArray → Int → Option (Int)
  | 0,_,_,_ => none
  | k + 1,x0,x1,x5 => if x5 < (x0.size : Int) then (verdererref01_Text.j1 k x0 x1 x5 (decide (x5 < (x1.size : Int)))) else (verdererref01_Text.j1 k x0 x1 x5 false)
def verdererref01_Text.j1 : Nat → ByteArray → ByteArray → Int → Bool → Option (Int)
  | 0,_,_,_,_ => none
  | k + 1,x0,x1,x5,x15 => if x15 = true then (if 0 ≤ x5 then (if x5 < (x0.size : Int) then (if x5 < (x1.size : Int) then (if (bt x0 x5) < (bt x1 x5) then (some (-1)) else (if (bt x0 x5) > (bt x1 x5) then (some 1) else (verdererref01_Text.l0 k x0 x1 (wrap64 (x5 + 1))))) else (none)) else (none)) else (none)) else (if (x0.size : Int) < (x1.size : Int) then (some (-1)) else (if (x0.size : Int) > (x1.size : Int) then (some 1) else (some 0)))
end
def verdererref01_Text.f (k : Nat) (a0 : ByteArray) (a1 : ByteArray) : Option (Int) := verdererref01_Text.l0 k a0 a1 0
theorem verdererref01_Text.mono_l : ∀ k,(∀ y0 y1 y2,LeO (verdererref01_Text.l0 k y0 y1 y2) (verdererref01_Text.l0 (k + 1) y0 y1 y2)) ∧ (∀ y0 y1 y2 y3,LeO (verdererref01_Text.j1 k y0 y1 y2 y3) (verdererref01_Text.j1 (k + 1) y0 y1 y2 y3))
  | 0 => ⟨fun _ _ _ r h => by simp [verdererref01_Text.l0] at h,fun _ _ _ _ r h => by simp [verdererref01_Text.j1] at h⟩
  | k + 1 => by
    obtain ⟨ih0,ih1⟩ := verdererref01_Text.mono_l k
    refine ⟨?_,?_⟩
    · intro y0 y1 y2
      unfold verdererref01_Text.l0
      repeat' first
      | (with_reducible exact ih0 _ _ _)
      | (with_reducible exact ih1 _ _ _ _)
      | (with_reducible exact LeO.refl _)
      | (with_reducible exact LeO.none _)
      | (with_reducible refine LeO.ite ?_ ?_)
      | (with_reducible refine LeO.bind ?_ (fun _ => ?_))
      | exact ih0 _ _ _
      | exact ih1 _ _ _ _
      | exact LeO.none _
      | refine LeO.ite ?_ ?_
      | refine LeO.bind ?_ (fun _ => ?_)
    · intro y0 y1 y2 y3
      unfold verdererref01_Text.j1
      repeat' first
      | (with_reducible exact ih0 _ _ _)
      | (with_reducible exact ih1 _ _ _ _)
      | (with_reducible exact LeO.refl _)
      | (with_reducible exact LeO.none _)
      | (with_reducible refine LeO.ite ?_ ?_)
      | (with_reducible refine LeO.bind ?_ (fun _ => ?_))
      | exact ih0 _ _ _
      | exact ih1 _ _ _ _
      | exact LeO.none _
      | refine LeO.ite ?_ ?_
      | refine LeO.bind ?_ (fun _ => ?_)
theorem verdererref01_Text.mono : ∀ a0 a1 k,LeO (verdererref01_Text.f k a0 a1) (verdererref01_Text.f (k + 1) a0 a1) := by
  intro a0 a1 k
  obtain ⟨ih0,ih1⟩ := verdererref01_Text.mono_l k
  unfold verdererref01_Text.f
  repeat' first
      | (with_reducible exact ih0 _ _ _)
      | (with_reducible exact ih1 _ _ _ _)
      | (with_reducible exact LeO.refl _)
      | (with_reducible exact LeO.none _)
      | (with_reducible refine LeO.ite ?_ ?_)
      | (with_reducible refine LeO.bind ?_ (fun _ => ?_))
      | exact ih0 _ _ _
      | exact ih1 _ _ _ _
      | exact LeO.none _
      | refine LeO.ite ?_ ?_
      | refine LeO.bind ?_ (fun _ => ?_)
set_option maxHeartbeats 8000000 in
set_option maxRecDepth 100000 in
theorem verdererref01_Text.calls (k : Nat) (a0 : ByteArray) (a1 : ByteArray) (r : Int) (w : World) (h : verdererref01_Text.f k a0 a1 = some r) :
    Calls Try.prog 41 #[.string a0,.string a1] w fun e w' => e = .returned (.int .i64 r) ∧ Drawn0 w w' := by
  have H : (verdererref01_Text.l0 k a0 a1 0) = some r := h
  clear h
  have H' := Aside0.mk H
  clear H
  go_enter Try.func41,Try.ntmps41
  go_wp2
  repeat (go_quiet (fail);try go_wp2)
  go_loopg [5] k (fun kq v5 w' => ∃ (x5_1 : Int),v5 = .int .i64 x5_1 ∧ Aside0 (verdererref01_Text.l0 kq a0 a1 x5_1 = some r) ∧ Aside0 (kq ≤ k) ∧ Drawn0 w w')
  case atStart => exact ⟨(0),(by first | rfl | (simp;done) | (simp [*];done)),H',⟨Nat.le_refl _⟩,by repeat (first | exact Drawn0.refl _ | apply Drawn0.step)⟩
  case round =>
    clear H'
    try clear p2
    obtain ⟨x5_1,rfl,HA,HK1,⟨m1,rfl⟩⟩ := hrel
    cases gk with
    | zero => exact absurd HA.out (by simp [verdererref01_Text.l0])
    | succ k1 =>
      have H := HA.out
      clear HA
      simp only [verdererref01_Text.l0] at H
      have HC3 := Aside0.mk H
      clear H
      go_upto_region 2 with (fail)
      repeat (go_quiet (fail);go_upto_region 2 with (fail))
      go_cut [15] (fun v15 wc => ∃ (kq : Nat) (x15_2 : Bool),v15 = .bool x15_2 ∧ Aside0 (verdererref01_Text.j1 kq a0 a1 x5_1 x15_2 = some r) ∧ Aside0 (kq ≤ k1) ∧ Drawn0 w wc)
      case first =>
        have H := HC3.out
        clear HC3
        by_cases c4 : x5_1 < (a0.size : Int)
        · rw [if_pos c4] at H
          have c4b0 : decide (x5_1 < (a0.size : Int)) = true := decide_eq_true c4
          clear c4
          (first | rw [c4b0] | (simp only [i64_w,i32_w];rw [c4b0]) | skip)
          have H' := Aside0.mk H
          clear H
          go_wp2
          repeat (go_quiet (fail);try go_wp2)
          go_meet
          case rel => exact ⟨_,(decide (x5_1 < (a1.size : Int))),(by first | rfl | (simp;done) | (simp [*];done)),H',⟨by have := HK1.out;first | omega | exact Nat.le_refl _⟩,by repeat (first | exact Drawn0.refl _ | apply Drawn0.step)⟩
        · rw [if_neg c4] at H
          have c4b0 : decide (x5_1 < (a0.size : Int)) = false := decide_eq_false c4
          clear c4
          (first | rw [c4b0] | (simp only [i64_w,i32_w];rw [c4b0]) | skip)
          have H' := Aside0.mk H
          clear H
          go_wp2
          repeat (go_quiet (fail);try go_wp2)
          go_meet
          case rel => exact ⟨_,(false),(by first | rfl | (simp;done) | (simp [*];done)),H',⟨by have := HK1.out;first | omega | exact Nat.le_refl _⟩,by repeat (first | exact Drawn0.refl _ | apply Drawn0.step)⟩
      case rest =>
        clear HC3
        try clear p2
        try clear c4
        try clear c4b0
        try clear p2
        obtain ⟨kq,x15_2,rfl,HA,HJ2,⟨mc2,rfl⟩⟩ := hcut
        cases kq with
        | zero => exact absurd HA.out (by simp [verdererref01_Text.j1])
        | succ kj2 =>
          have H := HA.out
          clear HA
          simp only [verdererref01_Text.j1] at H
          by_cases c5 : x15_2 = true
          · subst c5
            have H1 : (if 0 ≤ x5_1 then (if x5_1 < (a0.size : Int) then (if x5_1 < (a1.size : Int) then (if (bt a0 x5_1) < (bt a1 x5_1) then (some (-1)) else (if (bt a0 x5_1) > (bt a1 x5_1) then (some 1) else (verdererref01_Text.l0 kj2 a0 a1 (wrap64 (x5_1 + 1))))) else (none)) else (none)) else (none)) = some r := by rw [if_pos rfl] at H;exact H
            clear H
            have H := H1
            clear H1
            by_cases c6 : 0 ≤ x5_1
            · rw [if_pos c6] at H
              have c6b0 : decide (0 ≤ x5_1) = true := decide_eq_true c6
              clear c6
              by_cases c7 : x5_1 < (a0.size : Int)
              · rw [if_pos c7] at H
                have c7b0 : decide (x5_1 < (a0.size : Int)) = true := decide_eq_true c7
                clear c7
                by_cases c9 : x5_1 < (a1.size : Int)
                · rw [if_pos c9] at H
                  have c9b0 : decide (x5_1 < (a1.size : Int)) = true := decide_eq_true c9
                  clear c9
                  by_cases c11 : (bt a0 x5_1) < (bt a1 x5_1)
                  · rw [if_pos c11] at H
                    have c11b0 : decide ((bt a0 x5_1) < (bt a1 x5_1)) = true := decide_eq_true c11
                    clear c11
                    obtain rfl := Option.some.inj H
                    have p8 : 0 ≤ (x5_1 : Int) := of_decide_eq_true (by first | (with_reducible assumption) | assumption)
                    have q8 : x5_1 < (a0.size : Int) := of_decide_eq_true (by first | (with_reducible assumption) | assumption)
                    have hx8 := bt_at a0 x5_1
                    replace p8 := eq_true p8
                    replace q8 := eq_true q8
                    have p10 : 0 ≤ (x5_1 : Int) := of_decide_eq_true (by first | (with_reducible assumption) | assumption)
                    have q10 : x5_1 < (a1.size : Int) := of_decide_eq_true (by first | (with_reducible assumption) | assumption)
                    have hx10 := bt_at a1 x5_1
                    replace p10 := eq_true p10
                    replace q10 := eq_true q10
                    go_wp2
                    repeat (go_quiet (fail);try go_wp2)
                    go_ret
                    exact ⟨by first | rfl | (simp;done) | (simp [*];done),by repeat (first | exact Drawn0.refl _ | apply Drawn0.step)⟩
                  · rw [if_neg c11] at H
                    have c11b0 : decide ((bt a0 x5_1) < (bt a1 x5_1)) = false := decide_eq_false c11
                    clear c11
                    by_cases c14 : (bt a0 x5_1) > (bt a1 x5_1)
                    · rw [if_pos c14] at H
                      have c14b0 : decide ((bt a1 x5_1) < (bt a0 x5_1)) = true := decide_eq_true c14
                      clear c14
                      obtain rfl := Option.some.inj H
                      have p8 : 0 ≤ (x5_1 : Int) := of_decide_eq_true (by first | (with_reducible assumption) | assumption)
                      have q8 : x5_1 < (a0.size : Int) := of_decide_eq_true (by first | (with_reducible assumption) | assumption)
                      have hx8 := bt_at a0 x5_1
                      replace p8 := eq_true p8
                      replace q8 := eq_true q8
                      have p10 : 0 ≤ (x5_1 : Int) := of_decide_eq_true (by first | (with_reducible assumption) | assumption)
                      have q10 : x5_1 < (a1.size : Int) := of_decide_eq_true (by first | (with_reducible assumption) | assumption)
                      have hx10 := bt_at a1 x5_1
                      replace p10 := eq_true p10
                      replace q10 := eq_true q10
                      have p12 : 0 ≤ (x5_1 : Int) := of_decide_eq_true (by first | (with_reducible assumption) | assumption)
                      have q12 : x5_1 < (a0.size : Int) := of_decide_eq_true (by first | (with_reducible assumption) | assumption)
                      have hx12 := bt_at a0 x5_1
                      replace p12 := eq_true p12
                      replace q12 := eq_true q12
                      have p13 : 0 ≤ (x5_1 : Int) := of_decide_eq_true (by first | (with_reducible assumption) | assumption)
                      have q13 : x5_1 < (a1.size : Int) := of_decide_eq_true (by first | (with_reducible assumption) | assumption)
                      have hx13 := bt_at a1 x5_1
                      replace p13 := eq_true p13
                      replace q13 := eq_true q13
                      go_wp2
                      repeat (go_quiet (fail);try go_wp2)
                      go_ret
                      exact ⟨by first | rfl | (simp;done) | (simp [*];done),by repeat (first | exact Drawn0.refl _ | apply Drawn0.step)⟩
                    · rw [if_neg c14] at H
                      have c14b0 : decide ((bt a1 x5_1) < (bt a0 x5_1)) = false := decide_eq_false c14
                      clear c14
                      have H' := Aside0.mk H
                      clear H
                      have p8 : 0 ≤ (x5_1 : Int) := of_decide_eq_true (by first | (with_reducible assumption) | assumption)
                      have q8 : x5_1 < (a0.size : Int) := of_decide_eq_true (by first | (with_reducible assumption) | assumption)
                      have hx8 := bt_at a0 x5_1
                      replace p8 := eq_true p8
                      replace q8 := eq_true q8
                      have p10 : 0 ≤ (x5_1 : Int) := of_decide_eq_true (by first | (with_reducible assumption) | assumption)
                      have q10 : x5_1 < (a1.size : Int) := of_decide_eq_true (by first | (with_reducible assumption) | assumption)
                      have hx10 := bt_at a1 x5_1
                      replace p10 := eq_true p10
                      replace q10 := eq_true q10
                      have p12 : 0 ≤ (x5_1 : Int) := of_decide_eq_true (by first | (with_reducible assumption) | assumption)
                      have q12 : x5_1 < (a0.size : Int) := of_decide_eq_true (by first | (with_reducible assumption) | assumption)
                      have hx12 := bt_at a0 x5_1
                      replace p12 := eq_true p12
                      replace q12 := eq_true q12
                      have p13 : 0 ≤ (x5_1 : Int) := of_decide_eq_true (by first | (with_reducible assumption) | assumption)
                      have q13 : x5_1 < (a1.size : Int) := of_decide_eq_true (by first | (with_reducible assumption) | assumption)
                      have hx13 := bt_at a1 x5_1
                      replace p13 := eq_true p13
                      replace q13 := eq_true q13
                      go_wp2
                      repeat (go_quiet (fail);try go_wp2)
                      go_roundg kj2
                      case measure => have := HK1.out;have := HJ2.out;omega
                      case rel => exact ⟨(wrap64 (x5_1 + 1)),(by first | rfl | (simp;done) | (simp [*];done)),H',⟨by have := HK1.out;have := HJ2.out;omega⟩,by repeat (first | exact Drawn0.refl _ | apply Drawn0.step)⟩
                · rw [if_neg c9] at H
                  exact absurd H (by simp)
              · rw [if_neg c7] at H
                exact absurd H (by simp)
            · rw [if_neg c6] at H
              exact absurd H (by simp)
          · replace c5 := Bool.eq_false_iff.mpr c5
            subst c5
            have H1 : (if (a0.size : Int) < (a1.size : Int) then (some (-1)) else (if (a0.size : Int) > (a1.size : Int) then (some 1) else (some 0))) = some r := by rw [if_neg (show ¬ (false = true) by decide)] at H;exact H
            clear H
            have H := H1
            clear H1
            by_cases c15 : (a0.size : Int) < (a1.size : Int)
            · rw [if_pos c15] at H
              have c15b0 : decide ((a0.size : Int) < (a1.size : Int)) = true := decide_eq_true c15
              have c15b1 : decide (a0.size < a1.size) = true := decide_eq_true (Int.ofNat_lt.mp c15)
              clear c15
              obtain rfl := Option.some.inj H
              go_wp2
              repeat (go_quiet (fail);try go_wp2)
              go_ret
              exact ⟨by first | rfl | (simp;done) | (simp [*];done),by repeat (first | exact Drawn0.refl _ | apply Drawn0.step)⟩
            · rw [if_neg c15] at H
              have c15b0 : decide ((a0.size : Int) < (a1.size : Int)) = false := decide_eq_false c15
              have c15b1 : decide (a0.size < a1.size) = false := decide_eq_false (fun h => c15 (Int.ofNat_lt.mpr h))
              clear c15
              by_cases c16 : (a0.size : Int) > (a1.size : Int)
              · rw [if_pos c16] at H
                have c16b0 : decide ((a1.size : Int) < (a0.size : Int)) = true := decide_eq_true c16
                have c16b1 : decide (a1.size < a0.size) = true := decide_eq_true (Int.ofNat_lt.mp c16)
                clear c16
                obtain rfl := Option.some.inj H
                go_wp2
                repeat (go_quiet (fail);try go_wp2)
                go_ret
                exact ⟨by first | rfl | (simp;done) | (simp [*];done),by repeat (first | exact Drawn0.refl _ | apply Drawn0.step)⟩
              · rw [if_neg c16] at H
                have c16b0 : decide ((a1.size : Int) < (a0.size : Int)) = false := decide_eq_false c16
                have c16b1 : decide (a1.size < a0.size) = false := decide_eq_false (fun h => c16 (Int.ofNat_lt.mpr h))
                clear c16
                obtain rfl := Option.some.inj H
                go_wp2
                repeat (go_quiet (fail);try go_wp2)
                go_ret
                exact ⟨by first | rfl | (simp;done) | (simp [*];done),by repeat (first | exact Drawn0.refl _ | apply Drawn0.step)⟩
end Go.Proofs.Ytfoaeigoajooeaa.Z
end
section
namespace Go.Proofs.Ytfoaeigoajooeaa.Z
open Go.RowKit Go.Proofs.YtfoaeigoajooeaaW.PrintWords Go.Proofs.YtfoaeigoajooeaaW.PrintLast Go.Proofs.YtfoaeigoajooeaaW.PrintMore
attribute [local go_sem] max2_int min2_int max_two min_two max_three min_three max_four min_four
set_option linter.unusedVariables false
set_option linter.unusedSimpArgs false
def verdererref01_Compare.f (k : Nat) (a0_0 : Int) (a0_1 : Bool) (a0_2 : Int) (a0_3 : ByteArray) (a1_0 : Int) (a1_1 : Bool) (a1_2 : Int) (a1_3 : ByteArray) : Option (Int) := if a0_0 < a1_0 then (some (-1)) else (if a0_0 > a1_0 then (some 1) else (if a0_0 = 1 then (if (a0_1 == a1_1) = true then (some 0) else (if a1_1 = true then (some (-1)) else (some 1))) else (if a0_0 = 2 then (if a0_2 < a1_2 then (some (-1)) else (if a0_2 > a1_2 then (some 1) else (some 0))) else (if a0_0 = 3 then ((verdererref01_Text.f k a0_3 a1_3).bind fun t255 => (some t255)) else (some 0)))))
theorem verdererref01_Compare.mono : ∀ a0 a1 a2 a3 a4 a5 a6 a7 k,LeO (verdererref01_Compare.f k a0 a1 a2 a3 a4 a5 a6 a7) (verdererref01_Compare.f (k + 1) a0 a1 a2 a3 a4 a5 a6 a7) := by
  intro a0 a1 a2 a3 a4 a5 a6 a7 k
  unfold verdererref01_Compare.f
  repeat' first
      | (with_reducible exact verdererref01_Text.mono _ _ _)
      | (with_reducible exact LeO.refl _)
      | (with_reducible exact LeO.none _)
      | (with_reducible refine LeO.ite ?_ ?_)
      | (with_reducible refine LeO.bind ?_ (fun _ => ?_))
      | exact verdererref01_Text.mono _ _ _
      | exact LeO.none _
      | refine LeO.ite ?_ ?_
      | refine LeO.bind ?_ (fun _ => ?_)
set_option maxHeartbeats 8000000 in
set_option maxRecDepth 100000 in
theorem verdererref01_Compare.calls (k : Nat) (a0_0 : Int) (a0_1 : Bool) (a0_2 : Int) (a0_3 : ByteArray) (a1_0 : Int) (a1_1 : Bool) (a1_2 : Int) (a1_3 : ByteArray) (r : Int) (w : World) (h : verdererref01_Compare.f k a0_0 a0_1 a0_2 a0_3 a1_0 a1_1 a1_2 a1_3 = some r) :
    Calls Try.prog 49 #[.agg #[.int .i64 a0_0,.bool a0_1,.int .i64 a0_2,.string a0_3],.agg #[.int .i64 a1_0,.bool a1_1,.int .i64 a1_2,.string a1_3]] w fun e w' => e = .returned (.int .i64 r) ∧ Below w.heap.size w w' := by
  have hu50 := Try.underlying50
  have HB := Aside0.mk (Below.refl w.heap.size w)
  have H : (if a0_0 < a1_0 then (some (-1)) else (if a0_0 > a1_0 then (some 1) else (if a0_0 = 1 then (if (a0_1 == a1_1) = true then (some 0) else (if a1_1 = true then (some (-1)) else (some 1))) else (if a0_0 = 2 then (if a0_2 < a1_2 then (some (-1)) else (if a0_2 > a1_2 then (some 1) else (some 0))) else (if a0_0 = 3 then ((verdererref01_Text.f k a0_3 a1_3).bind fun t255 => (some t255)) else (some 0)))))) = some r := h
  clear h
  by_cases c3 : a0_0 < a1_0
  · rw [if_pos c3] at H
    have c3b0 : decide (a0_0 < a1_0) = true := decide_eq_true c3
    clear c3
    obtain rfl := Option.some.inj H
    go_enter Try.func49,Try.ntmps49
    go_wp2_with (first | ((with_reducible refine gate_dst (N := 2) rfl ?_);refine box_event ?hg (N := 2) ?hd (cs := #[.int .i64 a0_0,.bool a0_1,.int .i64 a0_2,.string a0_3]) (t := 50) ?hr ?_;(case hd => rfl);(case hg => rfl);(case hr => first | (go_simp;done) | (go_simp;rfl));intro gb253 hg w4 hbox hb;have n0_ := Aside0.mk (below_step (by repeat (first | (with_reducible first | exact HB.out | apply below_alloc | apply pw_below_drewN | apply below_drew1) | exact HB.out)) hb);have n1_ := Aside0.mk (hbox);have n2_ := Aside0.mk ((by rw [hg];exact (below_size (by repeat (first | (with_reducible first | exact HB.out | apply below_alloc | apply pw_below_drewN | apply below_drew1) | exact HB.out))) : w.heap.size ≤ gb253));have n3_ := Aside0.mk ((by rw [hg];exact (below_size (by repeat (first | (with_reducible first | exact HB.out | apply below_alloc | apply pw_below_drewN | apply below_drew1) | exact HB.out))) : w.heap.size ≤ gb253));clear HB;have HB := n0_;have BK253 := n1_;have GW253 := n2_;have GE253 := n3_;clear n0_ n1_ n2_ n3_;clear hb hbox hg) | ((with_reducible refine gate_dst (N := 3) rfl ?_);refine box_event ?hg (N := 3) ?hd (cs := #[.int .i64 a1_0,.bool a1_1,.int .i64 a1_2,.string a1_3]) (t := 50) ?hr ?_;(case hd => rfl);(case hg => rfl);(case hr => first | (go_simp;done) | (go_simp;rfl));intro gb254 hg w5 hbox hb;have n0_ := Aside0.mk (blk_below (g := gb253) (o := .cells #[.int .i64 a0_0,.bool a0_1,.int .i64 a0_2,.string a0_3] 50 (0,0)) (by (with_reducible repeat (first | refine blk_drewN ?_ _ | refine blk_drew ?_ | refine blk_alloc ?_ _));exact BK253.out) hb);have n1_ := Aside0.mk (below_step (by repeat (first | (with_reducible first | exact HB.out | apply below_alloc | apply pw_below_drewN | apply below_drew1 | refine below_set ?_ GE253.out) | exact HB.out)) hb);have n2_ := Aside0.mk (hbox);have n3_ := Aside0.mk ((by rw [hg];exact (below_size (by repeat (first | (with_reducible first | exact HB.out | apply below_alloc | apply pw_below_drewN | apply below_drew1 | refine below_set ?_ GE253.out) | exact HB.out))) : w.heap.size ≤ gb254));have n4_ := Aside0.mk ((by rw [hg];exact (below_size (by repeat (first | (with_reducible first | exact HB.out | apply below_alloc | apply pw_below_drewN | apply below_drew1 | refine below_set ?_ GE253.out) | exact HB.out))) : w.heap.size ≤ gb254));have n5_ := Aside0.mk ((by rw [hg];exact Nat.ne_of_lt (blk_lt (g := gb253) (o := .cells #[.int .i64 a0_0,.bool a0_1,.int .i64 a0_2,.string a0_3] 50 (0,0)) (by (with_reducible repeat (first | refine blk_drewN ?_ _ | refine blk_drew ?_ | refine blk_alloc ?_ _));exact BK253.out)) : gb253 ≠ gb254));have n6_ := Aside0.mk ((by rw [hg];exact Nat.ne_of_gt (blk_lt (g := gb253) (o := .cells #[.int .i64 a0_0,.bool a0_1,.int .i64 a0_2,.string a0_3] 50 (0,0)) (by (with_reducible repeat (first | refine blk_drewN ?_ _ | refine blk_drew ?_ | refine blk_alloc ?_ _));exact BK253.out)) : gb254 ≠ gb253));clear BK253;clear HB;have BK253 := n0_;have HB := n1_;have BK254 := n2_;have GW254 := n3_;have GE254 := n4_;have NB253_254 := n5_;have NB254_253 := n6_;clear n0_ n1_ n2_ n3_ n4_ n5_ n6_;clear hb hbox hg;have hnb6 := NB253_254.out;have hnc6 := NB254_253.out;have hcz7_0 : w5.cell? ⟨gb253,0,none⟩ = some (.int .i64 a0_0) := (blk_cell BK253.out 0).trans rfl;have hcz7_1 : w5.cell? ⟨gb253,1,none⟩ = some (.bool a0_1) := (blk_cell BK253.out 1).trans rfl;have hcz7_2 : w5.cell? ⟨gb253,2,none⟩ = some (.int .i64 a0_2) := (blk_cell BK253.out 2).trans rfl;have hcz7_3 : w5.cell? ⟨gb253,3,none⟩ = some (.string a0_3) := (blk_cell BK253.out 3).trans rfl;have hfz7_0 := blk_frozen BK253.out 0;have hfz7_1 := blk_frozen BK253.out 1;have hfz7_2 := blk_frozen BK253.out 2;have hfz7_3 := blk_frozen BK253.out 3;have hcz8_0 : w5.cell? ⟨gb254,0,none⟩ = some (.int .i64 a1_0) := (blk_cell BK254.out 0).trans rfl;have hcz8_1 : w5.cell? ⟨gb254,1,none⟩ = some (.bool a1_1) := (blk_cell BK254.out 1).trans rfl;have hcz8_2 : w5.cell? ⟨gb254,2,none⟩ = some (.int .i64 a1_2) := (blk_cell BK254.out 2).trans rfl;have hcz8_3 : w5.cell? ⟨gb254,3,none⟩ = some (.string a1_3) := (blk_cell BK254.out 3).trans rfl;have hfz8_0 := blk_frozen BK254.out 0;have hfz8_1 := blk_frozen BK254.out 1;have hfz8_2 := blk_frozen BK254.out 2;have hfz8_3 := blk_frozen BK254.out 3))
    go_ret
    exact ⟨by first | rfl | (simp [errW_none,errW_some] <;> rfl) | (simp [*,errW_none,errW_some] <;> rfl),by repeat (first | (with_reducible first | exact HB.out | apply below_alloc | apply pw_below_drewN | apply below_drew1 | refine below_set ?_ GE253.out | refine below_set ?_ GE254.out) | exact HB.out)⟩
  · rw [if_neg c3] at H
    have c3b0 : decide (a0_0 < a1_0) = false := decide_eq_false c3
    clear c3
    by_cases c9 : a0_0 > a1_0
    · rw [if_pos c9] at H
      have c9b0 : decide (a1_0 < a0_0) = true := decide_eq_true c9
      clear c9
      obtain rfl := Option.some.inj H
      go_enter Try.func49,Try.ntmps49
      go_wp2_with (first | ((with_reducible refine gate_dst (N := 2) rfl ?_);refine box_event ?hg (N := 2) ?hd (cs := #[.int .i64 a0_0,.bool a0_1,.int .i64 a0_2,.string a0_3]) (t := 50) ?hr ?_;(case hd => rfl);(case hg => rfl);(case hr => first | (go_simp;done) | (go_simp;rfl));intro gb253 hg w10 hbox hb;have n0_ := Aside0.mk (below_step (by repeat (first | (with_reducible first | exact HB.out | apply below_alloc | apply pw_below_drewN | apply below_drew1) | exact HB.out)) hb);have n1_ := Aside0.mk (hbox);have n2_ := Aside0.mk ((by rw [hg];exact (below_size (by repeat (first | (with_reducible first | exact HB.out | apply below_alloc | apply pw_below_drewN | apply below_drew1) | exact HB.out))) : w.heap.size ≤ gb253));have n3_ := Aside0.mk ((by rw [hg];exact (below_size (by repeat (first | (with_reducible first | exact HB.out | apply below_alloc | apply pw_below_drewN | apply below_drew1) | exact HB.out))) : w.heap.size ≤ gb253));clear HB;have HB := n0_;have BK253 := n1_;have GW253 := n2_;have GE253 := n3_;clear n0_ n1_ n2_ n3_;clear hb hbox hg) | ((with_reducible refine gate_dst (N := 3) rfl ?_);refine box_event ?hg (N := 3) ?hd (cs := #[.int .i64 a1_0,.bool a1_1,.int .i64 a1_2,.string a1_3]) (t := 50) ?hr ?_;(case hd => rfl);(case hg => rfl);(case hr => first | (go_simp;done) | (go_simp;rfl));intro gb254 hg w11 hbox hb;have n0_ := Aside0.mk (blk_below (g := gb253) (o := .cells #[.int .i64 a0_0,.bool a0_1,.int .i64 a0_2,.string a0_3] 50 (0,0)) (by (with_reducible repeat (first | refine blk_drewN ?_ _ | refine blk_drew ?_ | refine blk_alloc ?_ _));exact BK253.out) hb);have n1_ := Aside0.mk (below_step (by repeat (first | (with_reducible first | exact HB.out | apply below_alloc | apply pw_below_drewN | apply below_drew1 | refine below_set ?_ GE253.out) | exact HB.out)) hb);have n2_ := Aside0.mk (hbox);have n3_ := Aside0.mk ((by rw [hg];exact (below_size (by repeat (first | (with_reducible first | exact HB.out | apply below_alloc | apply pw_below_drewN | apply below_drew1 | refine below_set ?_ GE253.out) | exact HB.out))) : w.heap.size ≤ gb254));have n4_ := Aside0.mk ((by rw [hg];exact (below_size (by repeat (first | (with_reducible first | exact HB.out | apply below_alloc | apply pw_below_drewN | apply below_drew1 | refine below_set ?_ GE253.out) | exact HB.out))) : w.heap.size ≤ gb254));have n5_ := Aside0.mk ((by rw [hg];exact Nat.ne_of_lt (blk_lt (g := gb253) (o := .cells #[.int .i64 a0_0,.bool a0_1,.int .i64 a0_2,.string a0_3] 50 (0,0)) (by (with_reducible repeat (first | refine blk_drewN ?_ _ | refine blk_drew ?_ | refine blk_alloc ?_ _));exact BK253.out)) : gb253 ≠ gb254));have n6_ := Aside0.mk ((by rw [hg];exact Nat.ne_of_gt (blk_lt (g := gb253) (o := .cells #[.int .i64 a0_0,.bool a0_1,.int .i64 a0_2,.string a0_3] 50 (0,0)) (by (with_reducible repeat (first | refine blk_drewN ?_ _ | refine blk_drew ?_ | refine blk_alloc ?_ _));exact BK253.out)) : gb254 ≠ gb253));clear BK253;clear HB;have BK253 := n0_;have HB := n1_;have BK254 := n2_;have GW254 := n3_;have GE254 := n4_;have NB253_254 := n5_;have NB254_253 := n6_;clear n0_ n1_ n2_ n3_ n4_ n5_ n6_;clear hb hbox hg;have hnb12 := NB253_254.out;have hnc12 := NB254_253.out;have hcz13_0 : w11.cell? ⟨gb253,0,none⟩ = some (.int .i64 a0_0) := (blk_cell BK253.out 0).trans rfl;have hcz13_1 : w11.cell? ⟨gb253,1,none⟩ = some (.bool a0_1) := (blk_cell BK253.out 1).trans rfl;have hcz13_2 : w11.cell? ⟨gb253,2,none⟩ = some (.int .i64 a0_2) := (blk_cell BK253.out 2).trans rfl;have hcz13_3 : w11.cell? ⟨gb253,3,none⟩ = some (.string a0_3) := (blk_cell BK253.out 3).trans rfl;have hfz13_0 := blk_frozen BK253.out 0;have hfz13_1 := blk_frozen BK253.out 1;have hfz13_2 := blk_frozen BK253.out 2;have hfz13_3 := blk_frozen BK253.out 3;have hcz14_0 : w11.cell? ⟨gb254,0,none⟩ = some (.int .i64 a1_0) := (blk_cell BK254.out 0).trans rfl;have hcz14_1 : w11.cell? ⟨gb254,1,none⟩ = some (.bool a1_1) := (blk_cell BK254.out 1).trans rfl;have hcz14_2 : w11.cell? ⟨gb254,2,none⟩ = some (.int .i64 a1_2) := (blk_cell BK254.out 2).trans rfl;have hcz14_3 : w11.cell? ⟨gb254,3,none⟩ = some (.string a1_3) := (blk_cell BK254.out 3).trans rfl;have hfz14_0 := blk_frozen BK254.out 0;have hfz14_1 := blk_frozen BK254.out 1;have hfz14_2 := blk_frozen BK254.out 2;have hfz14_3 := blk_frozen BK254.out 3))
      go_ret
      exact ⟨by first | rfl | (simp [errW_none,errW_some] <;> rfl) | (simp [*,errW_none,errW_some] <;> rfl),by repeat (first | (with_reducible first | exact HB.out | apply below_alloc | apply pw_below_drewN | apply below_drew1 | refine below_set ?_ GE253.out | refine below_set ?_ GE254.out) | exact HB.out)⟩
    · rw [if_neg c9] at H
      have c9b0 : decide (a1_0 < a0_0) = false := decide_eq_false c9
      clear c9
      by_cases c15 : a0_0 = 1
      · rw [if_pos c15] at H
        have c15b0 : (a0_0 == 1) = true := beq_iff_eq.mpr c15
        have c15b1 : (a0_0 != 1) = false := bne_eq_false_iff_eq.mpr c15
        clear c15
        by_cases c16 : (a0_1 == a1_1) = true
        · rw [if_pos c16] at H
          have c16b0 : (a0_1 == a1_1) = true := c16
          (try (have c16b1 : decide (a0_1 = a1_1) = true := by simpa using c16))
          (try (have c16b2 : (a0_1 == a1_1) = true := by simpa using c16))
          clear c16
          obtain rfl := Option.some.inj H
          go_enter Try.func49,Try.ntmps49
          go_wp2_with (first | ((with_reducible refine gate_dst (N := 2) rfl ?_);refine box_event ?hg (N := 2) ?hd (cs := #[.int .i64 a0_0,.bool a0_1,.int .i64 a0_2,.string a0_3]) (t := 50) ?hr ?_;(case hd => rfl);(case hg => rfl);(case hr => first | (go_simp;done) | (go_simp;rfl));intro gb253 hg w17 hbox hb;have n0_ := Aside0.mk (below_step (by repeat (first | (with_reducible first | exact HB.out | apply below_alloc | apply pw_below_drewN | apply below_drew1) | exact HB.out)) hb);have n1_ := Aside0.mk (hbox);have n2_ := Aside0.mk ((by rw [hg];exact (below_size (by repeat (first | (with_reducible first | exact HB.out | apply below_alloc | apply pw_below_drewN | apply below_drew1) | exact HB.out))) : w.heap.size ≤ gb253));have n3_ := Aside0.mk ((by rw [hg];exact (below_size (by repeat (first | (with_reducible first | exact HB.out | apply below_alloc | apply pw_below_drewN | apply below_drew1) | exact HB.out))) : w.heap.size ≤ gb253));clear HB;have HB := n0_;have BK253 := n1_;have GW253 := n2_;have GE253 := n3_;clear n0_ n1_ n2_ n3_;clear hb hbox hg) | ((with_reducible refine gate_dst (N := 3) rfl ?_);refine box_event ?hg (N := 3) ?hd (cs := #[.int .i64 a1_0,.bool a1_1,.int .i64 a1_2,.string a1_3]) (t := 50) ?hr ?_;(case hd => rfl);(case hg => rfl);(case hr => first | (go_simp;done) | (go_simp;rfl));intro gb254 hg w18 hbox hb;have n0_ := Aside0.mk (blk_below (g := gb253) (o := .cells #[.int .i64 a0_0,.bool a0_1,.int .i64 a0_2,.string a0_3] 50 (0,0)) (by (with_reducible repeat (first | refine blk_drewN ?_ _ | refine blk_drew ?_ | refine blk_alloc ?_ _));exact BK253.out) hb);have n1_ := Aside0.mk (below_step (by repeat (first | (with_reducible first | exact HB.out | apply below_alloc | apply pw_below_drewN | apply below_drew1 | refine below_set ?_ GE253.out) | exact HB.out)) hb);have n2_ := Aside0.mk (hbox);have n3_ := Aside0.mk ((by rw [hg];exact (below_size (by repeat (first | (with_reducible first | exact HB.out | apply below_alloc | apply pw_below_drewN | apply below_drew1 | refine below_set ?_ GE253.out) | exact HB.out))) : w.heap.size ≤ gb254));have n4_ := Aside0.mk ((by rw [hg];exact (below_size (by repeat (first | (with_reducible first | exact HB.out | apply below_alloc | apply pw_below_drewN | apply below_drew1 | refine below_set ?_ GE253.out) | exact HB.out))) : w.heap.size ≤ gb254));have n5_ := Aside0.mk ((by rw [hg];exact Nat.ne_of_lt (blk_lt (g := gb253) (o := .cells #[.int .i64 a0_0,.bool a0_1,.int .i64 a0_2,.string a0_3] 50 (0,0)) (by (with_reducible repeat (first | refine blk_drewN ?_ _ | refine blk_drew ?_ | refine blk_alloc ?_ _));exact BK253.out)) : gb253 ≠ gb254));have n6_ := Aside0.mk ((by rw [hg];exact Nat.ne_of_gt (blk_lt (g := gb253) (o := .cells #[.int .i64 a0_0,.bool a0_1,.int .i64 a0_2,.string a0_3] 50 (0,0)) (by (with_reducible repeat (first | refine blk_drewN ?_ _ | refine blk_drew ?_ | refine blk_alloc ?_ _));exact BK253.out)) : gb254 ≠ gb253));clear BK253;clear HB;have BK253 := n0_;have HB := n1_;have BK254 := n2_;have GW254 := n3_;have GE254 := n4_;have NB253_254 := n5_;have NB254_253 := n6_;clear n0_ n1_ n2_ n3_ n4_ n5_ n6_;clear hb hbox hg;have hnb19 := NB253_254.out;have hnc19 := NB254_253.out;have hcz20_0 : w18.cell? ⟨gb253,0,none⟩ = some (.int .i64 a0_0) := (blk_cell BK253.out 0).trans rfl;have hcz20_1 : w18.cell? ⟨gb253,1,none⟩ = some (.bool a0_1) := (blk_cell BK253.out 1).trans rfl;have hcz20_2 : w18.cell? ⟨gb253,2,none⟩ = some (.int .i64 a0_2) := (blk_cell BK253.out 2).trans rfl;have hcz20_3 : w18.cell? ⟨gb253,3,none⟩ = some (.string a0_3) := (blk_cell BK253.out 3).trans rfl;have hfz20_0 := blk_frozen BK253.out 0;have hfz20_1 := blk_frozen BK253.out 1;have hfz20_2 := blk_frozen BK253.out 2;have hfz20_3 := blk_frozen BK253.out 3;have hcz21_0 : w18.cell? ⟨gb254,0,none⟩ = some (.int .i64 a1_0) := (blk_cell BK254.out 0).trans rfl;have hcz21_1 : w18.cell? ⟨gb254,1,none⟩ = some (.bool a1_1) := (blk_cell BK254.out 1).trans rfl;have hcz21_2 : w18.cell? ⟨gb254,2,none⟩ = some (.int .i64 a1_2) := (blk_cell BK254.out 2).trans rfl;have hcz21_3 : w18.cell? ⟨gb254,3,none⟩ = some (.string a1_3) := (blk_cell BK254.out 3).trans rfl;have hfz21_0 := blk_frozen BK254.out 0;have hfz21_1 := blk_frozen BK254.out 1;have hfz21_2 := blk_frozen BK254.out 2;have hfz21_3 := blk_frozen BK254.out 3))
          go_ret
          exact ⟨by first | rfl | (simp [errW_none,errW_some] <;> rfl) | (simp [*,errW_none,errW_some] <;> rfl),by repeat (first | (with_reducible first | exact HB.out | apply below_alloc | apply pw_below_drewN | apply below_drew1 | refine below_set ?_ GE253.out | refine below_set ?_ GE254.out) | exact HB.out)⟩
        · rw [if_neg c16] at H
          have c16b0 : (a0_1 == a1_1) = false := by simpa using c16
          (try (have c16b1 : decide (a0_1 = a1_1) = false := by simpa using c16))
          (try (have c16b2 : (a0_1 == a1_1) = false := by simpa using c16))
          (try (have c16b3 : ¬ (a0_1 = a1_1) := by simpa using c16))
          clear c16
          by_cases c22 : a1_1 = true
          · subst c22
            have H1 : (some (-1)) = some r := by rw [if_pos rfl] at H;exact H
            clear H
            have H := H1
            clear H1
            obtain rfl := Option.some.inj H
            go_enter Try.func49,Try.ntmps49
            go_wp2_with (first | ((with_reducible refine gate_dst (N := 2) rfl ?_);refine box_event ?hg (N := 2) ?hd (cs := #[.int .i64 a0_0,.bool a0_1,.int .i64 a0_2,.string a0_3]) (t := 50) ?hr ?_;(case hd => rfl);(case hg => rfl);(case hr => first | (go_simp;done) | (go_simp;rfl));intro gb253 hg w23 hbox hb;have n0_ := Aside0.mk (below_step (by repeat (first | (with_reducible first | exact HB.out | apply below_alloc | apply pw_below_drewN | apply below_drew1) | exact HB.out)) hb);have n1_ := Aside0.mk (hbox);have n2_ := Aside0.mk ((by rw [hg];exact (below_size (by repeat (first | (with_reducible first | exact HB.out | apply below_alloc | apply pw_below_drewN | apply below_drew1) | exact HB.out))) : w.heap.size ≤ gb253));have n3_ := Aside0.mk ((by rw [hg];exact (below_size (by repeat (first | (with_reducible first | exact HB.out | apply below_alloc | apply pw_below_drewN | apply below_drew1) | exact HB.out))) : w.heap.size ≤ gb253));clear HB;have HB := n0_;have BK253 := n1_;have GW253 := n2_;have GE253 := n3_;clear n0_ n1_ n2_ n3_;clear hb hbox hg) | ((with_reducible refine gate_dst (N := 3) rfl ?_);refine box_event ?hg (N := 3) ?hd (cs := #[.int .i64 a1_0,.bool true,.int .i64 a1_2,.string a1_3]) (t := 50) ?hr ?_;(case hd => rfl);(case hg => rfl);(case hr => first | (go_simp;done) | (go_simp;rfl));intro gb254 hg w24 hbox hb;have n0_ := Aside0.mk (blk_below (g := gb253) (o := .cells #[.int .i64 a0_0,.bool a0_1,.int .i64 a0_2,.string a0_3] 50 (0,0)) (by (with_reducible repeat (first | refine blk_drewN ?_ _ | refine blk_drew ?_ | refine blk_alloc ?_ _));exact BK253.out) hb);have n1_ := Aside0.mk (below_step (by repeat (first | (with_reducible first | exact HB.out | apply below_alloc | apply pw_below_drewN | apply below_drew1 | refine below_set ?_ GE253.out) | exact HB.out)) hb);have n2_ := Aside0.mk (hbox);have n3_ := Aside0.mk ((by rw [hg];exact (below_size (by repeat (first | (with_reducible first | exact HB.out | apply below_alloc | apply pw_below_drewN | apply below_drew1 | refine below_set ?_ GE253.out) | exact HB.out))) : w.heap.size ≤ gb254));have n4_ := Aside0.mk ((by rw [hg];exact (below_size (by repeat (first | (with_reducible first | exact HB.out | apply below_alloc | apply pw_below_drewN | apply below_drew1 | refine below_set ?_ GE253.out) | exact HB.out))) : w.heap.size ≤ gb254));have n5_ := Aside0.mk ((by rw [hg];exact Nat.ne_of_lt (blk_lt (g := gb253) (o := .cells #[.int .i64 a0_0,.bool a0_1,.int .i64 a0_2,.string a0_3] 50 (0,0)) (by (with_reducible repeat (first | refine blk_drewN ?_ _ | refine blk_drew ?_ | refine blk_alloc ?_ _));exact BK253.out)) : gb253 ≠ gb254));have n6_ := Aside0.mk ((by rw [hg];exact Nat.ne_of_gt (blk_lt (g := gb253) (o := .cells #[.int .i64 a0_0,.bool a0_1,.int .i64 a0_2,.string a0_3] 50 (0,0)) (by (with_reducible repeat (first | refine blk_drewN ?_ _ | refine blk_drew ?_ | refine blk_alloc ?_ _));exact BK253.out)) : gb254 ≠ gb253));clear BK253;clear HB;have BK253 := n0_;have HB := n1_;have BK254 := n2_;have GW254 := n3_;have GE254 := n4_;have NB253_254 := n5_;have NB254_253 := n6_;clear n0_ n1_ n2_ n3_ n4_ n5_ n6_;clear hb hbox hg;have hnb25 := NB253_254.out;have hnc25 := NB254_253.out;have hcz26_0 : w24.cell? ⟨gb253,0,none⟩ = some (.int .i64 a0_0) := (blk_cell BK253.out 0).trans rfl;have hcz26_1 : w24.cell? ⟨gb253,1,none⟩ = some (.bool a0_1) := (blk_cell BK253.out 1).trans rfl;have hcz26_2 : w24.cell? ⟨gb253,2,none⟩ = some (.int .i64 a0_2) := (blk_cell BK253.out 2).trans rfl;have hcz26_3 : w24.cell? ⟨gb253,3,none⟩ = some (.string a0_3) := (blk_cell BK253.out 3).trans rfl;have hfz26_0 := blk_frozen BK253.out 0;have hfz26_1 := blk_frozen BK253.out 1;have hfz26_2 := blk_frozen BK253.out 2;have hfz26_3 := blk_frozen BK253.out 3;have hcz27_0 : w24.cell? ⟨gb254,0,none⟩ = some (.int .i64 a1_0) := (blk_cell BK254.out 0).trans rfl;have hcz27_1 : w24.cell? ⟨gb254,1,none⟩ = some (.bool true) := (blk_cell BK254.out 1).trans rfl;have hcz27_2 : w24.cell? ⟨gb254,2,none⟩ = some (.int .i64 a1_2) := (blk_cell BK254.out 2).trans rfl;have hcz27_3 : w24.cell? ⟨gb254,3,none⟩ = some (.string a1_3) := (blk_cell BK254.out 3).trans rfl;have hfz27_0 := blk_frozen BK254.out 0;have hfz27_1 := blk_frozen BK254.out 1;have hfz27_2 := blk_frozen BK254.out 2;have hfz27_3 := blk_frozen BK254.out 3))
            go_ret
            exact ⟨by first | rfl | (simp [errW_none,errW_some] <;> rfl) | (simp [*,errW_none,errW_some] <;> rfl),by repeat (first | (with_reducible first | exact HB.out | apply below_alloc | apply pw_below_drewN | apply below_drew1 | refine below_set ?_ GE253.out | refine below_set ?_ GE254.out) | exact HB.out)⟩
          · replace c22 := Bool.eq_false_iff.mpr c22
            subst c22
            have H1 : (some 1) = some r := by rw [if_neg (show ¬ (false = true) by decide)] at H;exact H
            clear H
            have H := H1
            clear H1
            obtain rfl := Option.some.inj H
            go_enter Try.func49,Try.ntmps49
            go_wp2_with (first | ((with_reducible refine gate_dst (N := 2) rfl ?_);refine box_event ?hg (N := 2) ?hd (cs := #[.int .i64 a0_0,.bool a0_1,.int .i64 a0_2,.string a0_3]) (t := 50) ?hr ?_;(case hd => rfl);(case hg => rfl);(case hr => first | (go_simp;done) | (go_simp;rfl));intro gb253 hg w28 hbox hb;have n0_ := Aside0.mk (below_step (by repeat (first | (with_reducible first | exact HB.out | apply below_alloc | apply pw_below_drewN | apply below_drew1) | exact HB.out)) hb);have n1_ := Aside0.mk (hbox);have n2_ := Aside0.mk ((by rw [hg];exact (below_size (by repeat (first | (with_reducible first | exact HB.out | apply below_alloc | apply pw_below_drewN | apply below_drew1) | exact HB.out))) : w.heap.size ≤ gb253));have n3_ := Aside0.mk ((by rw [hg];exact (below_size (by repeat (first | (with_reducible first | exact HB.out | apply below_alloc | apply pw_below_drewN | apply below_drew1) | exact HB.out))) : w.heap.size ≤ gb253));clear HB;have HB := n0_;have BK253 := n1_;have GW253 := n2_;have GE253 := n3_;clear n0_ n1_ n2_ n3_;clear hb hbox hg) | ((with_reducible refine gate_dst (N := 3) rfl ?_);refine box_event ?hg (N := 3) ?hd (cs := #[.int .i64 a1_0,.bool false,.int .i64 a1_2,.string a1_3]) (t := 50) ?hr ?_;(case hd => rfl);(case hg => rfl);(case hr => first | (go_simp;done) | (go_simp;rfl));intro gb254 hg w29 hbox hb;have n0_ := Aside0.mk (blk_below (g := gb253) (o := .cells #[.int .i64 a0_0,.bool a0_1,.int .i64 a0_2,.string a0_3] 50 (0,0)) (by (with_reducible repeat (first | refine blk_drewN ?_ _ | refine blk_drew ?_ | refine blk_alloc ?_ _));exact BK253.out) hb);have n1_ := Aside0.mk (below_step (by repeat (first | (with_reducible first | exact HB.out | apply below_alloc | apply pw_below_drewN | apply below_drew1 | refine below_set ?_ GE253.out) | exact HB.out)) hb);have n2_ := Aside0.mk (hbox);have n3_ := Aside0.mk ((by rw [hg];exact (below_size (by repeat (first | (with_reducible first | exact HB.out | apply below_alloc | apply pw_below_drewN | apply below_drew1 | refine below_set ?_ GE253.out) | exact HB.out))) : w.heap.size ≤ gb254));have n4_ := Aside0.mk ((by rw [hg];exact (below_size (by repeat (first | (with_reducible first | exact HB.out | apply below_alloc | apply pw_below_drewN | apply below_drew1 | refine below_set ?_ GE253.out) | exact HB.out))) : w.heap.size ≤ gb254));have n5_ := Aside0.mk ((by rw [hg];exact Nat.ne_of_lt (blk_lt (g := gb253) (o := .cells #[.int .i64 a0_0,.bool a0_1,.int .i64 a0_2,.string a0_3] 50 (0,0)) (by (with_reducible repeat (first | refine blk_drewN ?_ _ | refine blk_drew ?_ | refine blk_alloc ?_ _));exact BK253.out)) : gb253 ≠ gb254));have n6_ := Aside0.mk ((by rw [hg];exact Nat.ne_of_gt (blk_lt (g := gb253) (o := .cells #[.int .i64 a0_0,.bool a0_1,.int .i64 a0_2,.string a0_3] 50 (0,0)) (by (with_reducible repeat (first | refine blk_drewN ?_ _ | refine blk_drew ?_ | refine blk_alloc ?_ _));exact BK253.out)) : gb254 ≠ gb253));clear BK253;clear HB;have BK253 := n0_;have HB := n1_;have BK254 := n2_;have GW254 := n3_;have GE254 := n4_;have NB253_254 := n5_;have NB254_253 := n6_;clear n0_ n1_ n2_ n3_ n4_ n5_ n6_;clear hb hbox hg;have hnb30 := NB253_254.out;have hnc30 := NB254_253.out;have hcz31_0 : w29.cell? ⟨gb253,0,none⟩ = some (.int .i64 a0_0) := (blk_cell BK253.out 0).trans rfl;have hcz31_1 : w29.cell? ⟨gb253,1,none⟩ = some (.bool a0_1) := (blk_cell BK253.out 1).trans rfl;have hcz31_2 : w29.cell? ⟨gb253,2,none⟩ = some (.int .i64 a0_2) := (blk_cell BK253.out 2).trans rfl;have hcz31_3 : w29.cell? ⟨gb253,3,none⟩ = some (.string a0_3) := (blk_cell BK253.out 3).trans rfl;have hfz31_0 := blk_frozen BK253.out 0;have hfz31_1 := blk_frozen BK253.out 1;have hfz31_2 := blk_frozen BK253.out 2;have hfz31_3 := blk_frozen BK253.out 3;have hcz32_0 : w29.cell? ⟨gb254,0,none⟩ = some (.int .i64 a1_0) := (blk_cell BK254.out 0).trans rfl;have hcz32_1 : w29.cell? ⟨gb254,1,none⟩ = some (.bool false) := (blk_cell BK254.out 1).trans rfl;have hcz32_2 : w29.cell? ⟨gb254,2,none⟩ = some (.int .i64 a1_2) := (blk_cell BK254.out 2).trans rfl;have hcz32_3 : w29.cell? ⟨gb254,3,none⟩ = some (.string a1_3) := (blk_cell BK254.out 3).trans rfl;have hfz32_0 := blk_frozen BK254.out 0;have hfz32_1 := blk_frozen BK254.out 1;have hfz32_2 := blk_frozen BK254.out 2;have hfz32_3 := blk_frozen BK254.out 3))
            go_ret
            exact ⟨by first | rfl | (simp [errW_none,errW_some] <;> rfl) | (simp [*,errW_none,errW_some] <;> rfl),by repeat (first | (with_reducible first | exact HB.out | apply below_alloc | apply pw_below_drewN | apply below_drew1 | refine below_set ?_ GE253.out | refine below_set ?_ GE254.out) | exact HB.out)⟩
      · rw [if_neg c15] at H
        have c15b0 : (a0_0 == 1) = false := beq_eq_false_iff_ne.mpr c15
        have c15b1 : (a0_0 != 1) = true := bne_iff_ne.mpr c15
        by_cases c33 : a0_0 = 2
        · rw [if_pos c33] at H
          have c33b0 : (a0_0 == 2) = true := beq_iff_eq.mpr c33
          have c33b1 : (a0_0 != 2) = false := bne_eq_false_iff_eq.mpr c33
          clear c33
          by_cases c34 : a0_2 < a1_2
          · rw [if_pos c34] at H
            have c34b0 : decide (a0_2 < a1_2) = true := decide_eq_true c34
            clear c34
            obtain rfl := Option.some.inj H
            go_enter Try.func49,Try.ntmps49
            go_wp2_with (first | ((with_reducible refine gate_dst (N := 2) rfl ?_);refine box_event ?hg (N := 2) ?hd (cs := #[.int .i64 a0_0,.bool a0_1,.int .i64 a0_2,.string a0_3]) (t := 50) ?hr ?_;(case hd => rfl);(case hg => rfl);(case hr => first | (go_simp;done) | (go_simp;rfl));intro gb253 hg w35 hbox hb;have n0_ := Aside0.mk (below_step (by repeat (first | (with_reducible first | exact HB.out | apply below_alloc | apply pw_below_drewN | apply below_drew1) | exact HB.out)) hb);have n1_ := Aside0.mk (hbox);have n2_ := Aside0.mk ((by rw [hg];exact (below_size (by repeat (first | (with_reducible first | exact HB.out | apply below_alloc | apply pw_below_drewN | apply below_drew1) | exact HB.out))) : w.heap.size ≤ gb253));have n3_ := Aside0.mk ((by rw [hg];exact (below_size (by repeat (first | (with_reducible first | exact HB.out | apply below_alloc | apply pw_below_drewN | apply below_drew1) | exact HB.out))) : w.heap.size ≤ gb253));clear HB;have HB := n0_;have BK253 := n1_;have GW253 := n2_;have GE253 := n3_;clear n0_ n1_ n2_ n3_;clear hb hbox hg) | ((with_reducible refine gate_dst (N := 3) rfl ?_);refine box_event ?hg (N := 3) ?hd (cs := #[.int .i64 a1_0,.bool a1_1,.int .i64 a1_2,.string a1_3]) (t := 50) ?hr ?_;(case hd => rfl);(case hg => rfl);(case hr => first | (go_simp;done) | (go_simp;rfl));intro gb254 hg w36 hbox hb;have n0_ := Aside0.mk (blk_below (g := gb253) (o := .cells #[.int .i64 a0_0,.bool a0_1,.int .i64 a0_2,.string a0_3] 50 (0,0)) (by (with_reducible repeat (first | refine blk_drewN ?_ _ | refine blk_drew ?_ | refine blk_alloc ?_ _));exact BK253.out) hb);have n1_ := Aside0.mk (below_step (by repeat (first | (with_reducible first | exact HB.out | apply below_alloc | apply pw_below_drewN | apply below_drew1 | refine below_set ?_ GE253.out) | exact HB.out)) hb);have n2_ := Aside0.mk (hbox);have n3_ := Aside0.mk ((by rw [hg];exact (below_size (by repeat (first | (with_reducible first | exact HB.out | apply below_alloc | apply pw_below_drewN | apply below_drew1 | refine below_set ?_ GE253.out) | exact HB.out))) : w.heap.size ≤ gb254));have n4_ := Aside0.mk ((by rw [hg];exact (below_size (by repeat (first | (with_reducible first | exact HB.out | apply below_alloc | apply pw_below_drewN | apply below_drew1 | refine below_set ?_ GE253.out) | exact HB.out))) : w.heap.size ≤ gb254));have n5_ := Aside0.mk ((by rw [hg];exact Nat.ne_of_lt (blk_lt (g := gb253) (o := .cells #[.int .i64 a0_0,.bool a0_1,.int .i64 a0_2,.string a0_3] 50 (0,0)) (by (with_reducible repeat (first | refine blk_drewN ?_ _ | refine blk_drew ?_ | refine blk_alloc ?_ _));exact BK253.out)) : gb253 ≠ gb254));have n6_ := Aside0.mk ((by rw [hg];exact Nat.ne_of_gt (blk_lt (g := gb253) (o := .cells #[.int .i64 a0_0,.bool a0_1,.int .i64 a0_2,.string a0_3] 50 (0,0)) (by (with_reducible repeat (first | refine blk_drewN ?_ _ | refine blk_drew ?_ | refine blk_alloc ?_ _));exact BK253.out)) : gb254 ≠ gb253));clear BK253;clear HB;have BK253 := n0_;have HB := n1_;have BK254 := n2_;have GW254 := n3_;have GE254 := n4_;have NB253_254 := n5_;have NB254_253 := n6_;clear n0_ n1_ n2_ n3_ n4_ n5_ n6_;clear hb hbox hg;have hnb37 := NB253_254.out;have hnc37 := NB254_253.out;have hcz38_0 : w36.cell? ⟨gb253,0,none⟩ = some (.int .i64 a0_0) := (blk_cell BK253.out 0).trans rfl;have hcz38_1 : w36.cell? ⟨gb253,1,none⟩ = some (.bool a0_1) := (blk_cell BK253.out 1).trans rfl;have hcz38_2 : w36.cell? ⟨gb253,2,none⟩ = some (.int .i64 a0_2) := (blk_cell BK253.out 2).trans rfl;have hcz38_3 : w36.cell? ⟨gb253,3,none⟩ = some (.string a0_3) := (blk_cell BK253.out 3).trans rfl;have hfz38_0 := blk_frozen BK253.out 0;have hfz38_1 := blk_frozen BK253.out 1;have hfz38_2 := blk_frozen BK253.out 2;have hfz38_3 := blk_frozen BK253.out 3;have hcz39_0 : w36.cell? ⟨gb254,0,none⟩ = some (.int .i64 a1_0) := (blk_cell BK254.out 0).trans rfl;have hcz39_1 : w36.cell? ⟨gb254,1,none⟩ = some (.bool a1_1) := (blk_cell BK254.out 1).trans rfl;have hcz39_2 : w36.cell? ⟨gb254,2,none⟩ = some (.int .i64 a1_2) := (blk_cell BK254.out 2).trans rfl;have hcz39_3 : w36.cell? ⟨gb254,3,none⟩ = some (.string a1_3) := (blk_cell BK254.out 3).trans rfl;have hfz39_0 := blk_frozen BK254.out 0;have hfz39_1 := blk_frozen BK254.out 1;have hfz39_2 := blk_frozen BK254.out 2;have hfz39_3 := blk_frozen BK254.out 3))
            go_ret
            exact ⟨by first | rfl | (simp [errW_none,errW_some] <;> rfl) | (simp [*,errW_none,errW_some] <;> rfl),by repeat (first | (with_reducible first | exact HB.out | apply below_alloc | apply pw_below_drewN | apply below_drew1 | refine below_set ?_ GE253.out | refine below_set ?_ GE254.out) | exact HB.out)⟩
          · rw [if_neg c34] at H
            have c34b0 : decide (a0_2 < a1_2) = false := decide_eq_false c34
            clear c34
            by_cases c40 : a0_2 > a1_2
            · rw [if_pos c40] at H
              have c40b0 : decide (a1_2 < a0_2) = true := decide_eq_true c40
              clear c40
              obtain rfl := Option.some.inj H
              go_enter Try.func49,Try.ntmps49
              go_wp2_with (first | ((with_reducible refine gate_dst (N := 2) rfl ?_);refine box_event ?hg (N := 2) ?hd (cs := #[.int .i64 a0_0,.bool a0_1,.int .i64 a0_2,.string a0_3]) (t := 50) ?hr ?_;(case hd => rfl);(case hg => rfl);(case hr => first | (go_simp;done) | (go_simp;rfl));intro gb253 hg w41 hbox hb;have n0_ := Aside0.mk (below_step (by repeat (first | (with_reducible first | exact HB.out | apply below_alloc | apply pw_below_drewN | apply below_drew1) | exact HB.out)) hb);have n1_ := Aside0.mk (hbox);have n2_ := Aside0.mk ((by rw [hg];exact (below_size (by repeat (first | (with_reducible first | exact HB.out | apply below_alloc | apply pw_below_drewN | apply below_drew1) | exact HB.out))) : w.heap.size ≤ gb253));have n3_ := Aside0.mk ((by rw [hg];exact (below_size (by repeat (first | (with_reducible first | exact HB.out | apply below_alloc | apply pw_below_drewN | apply below_drew1) | exact HB.out))) : w.heap.size ≤ gb253));clear HB;have HB := n0_;have BK253 := n1_;have GW253 := n2_;have GE253 := n3_;clear n0_ n1_ n2_ n3_;clear hb hbox hg) | ((with_reducible refine gate_dst (N := 3) rfl ?_);refine box_event ?hg (N := 3) ?hd (cs := #[.int .i64 a1_0,.bool a1_1,.int .i64 a1_2,.string a1_3]) (t := 50) ?hr ?_;(case hd => rfl);(case hg => rfl);(case hr => first | (go_simp;done) | (go_simp;rfl));intro gb254 hg w42 hbox hb;have n0_ := Aside0.mk (blk_below (g := gb253) (o := .cells #[.int .i64 a0_0,.bool a0_1,.int .i64 a0_2,.string a0_3] 50 (0,0)) (by (with_reducible repeat (first | refine blk_drewN ?_ _ | refine blk_drew ?_ | refine blk_alloc ?_ _));exact BK253.out) hb);have n1_ := Aside0.mk (below_step (by repeat (first | (with_reducible first | exact HB.out | apply below_alloc | apply pw_below_drewN | apply below_drew1 | refine below_set ?_ GE253.out) | exact HB.out)) hb);have n2_ := Aside0.mk (hbox);have n3_ := Aside0.mk ((by rw [hg];exact (below_size (by repeat (first | (with_reducible first | exact HB.out | apply below_alloc | apply pw_below_drewN | apply below_drew1 | refine below_set ?_ GE253.out) | exact HB.out))) : w.heap.size ≤ gb254));have n4_ := Aside0.mk ((by rw [hg];exact (below_size (by repeat (first | (with_reducible first | exact HB.out | apply below_alloc | apply pw_below_drewN | apply below_drew1 | refine below_set ?_ GE253.out) | exact HB.out))) : w.heap.size ≤ gb254));have n5_ := Aside0.mk ((by rw [hg];exact Nat.ne_of_lt (blk_lt (g := gb253) (o := .cells #[.int .i64 a0_0,.bool a0_1,.int .i64 a0_2,.string a0_3] 50 (0,0)) (by (with_reducible repeat (first | refine blk_drewN ?_ _ | refine blk_drew ?_ | refine blk_alloc ?_ _));exact BK253.out)) : gb253 ≠ gb254));have n6_ := Aside0.mk ((by rw [hg];exact Nat.ne_of_gt (blk_lt (g := gb253) (o := .cells #[.int .i64 a0_0,.bool a0_1,.int .i64 a0_2,.string a0_3] 50 (0,0)) (by (with_reducible repeat (first | refine blk_drewN ?_ _ | refine blk_drew ?_ | refine blk_alloc ?_ _));exact BK253.out)) : gb254 ≠ gb253));clear BK253;clear HB;have BK253 := n0_;have HB := n1_;have BK254 := n2_;have GW254 := n3_;have GE254 := n4_;have NB253_254 := n5_;have NB254_253 := n6_;clear n0_ n1_ n2_ n3_ n4_ n5_ n6_;clear hb hbox hg;have hnb43 := NB253_254.out;have hnc43 := NB254_253.out;have hcz44_0 : w42.cell? ⟨gb253,0,none⟩ = some (.int .i64 a0_0) := (blk_cell BK253.out 0).trans rfl;have hcz44_1 : w42.cell? ⟨gb253,1,none⟩ = some (.bool a0_1) := (blk_cell BK253.out 1).trans rfl;have hcz44_2 : w42.cell? ⟨gb253,2,none⟩ = some (.int .i64 a0_2) := (blk_cell BK253.out 2).trans rfl;have hcz44_3 : w42.cell? ⟨gb253,3,none⟩ = some (.string a0_3) := (blk_cell BK253.out 3).trans rfl;have hfz44_0 := blk_frozen BK253.out 0;have hfz44_1 := blk_frozen BK253.out 1;have hfz44_2 := blk_frozen BK253.out 2;have hfz44_3 := blk_frozen BK253.out 3;have hcz45_0 : w42.cell? ⟨gb254,0,none⟩ = some (.int .i64 a1_0) := (blk_cell BK254.out 0).trans rfl;have hcz45_1 : w42.cell? ⟨gb254,1,none⟩ = some (.bool a1_1) := (blk_cell BK254.out 1).trans rfl;have hcz45_2 : w42.cell? ⟨gb254,2,none⟩ = some (.int .i64 a1_2) := (blk_cell BK254.out 2).trans rfl;have hcz45_3 : w42.cell? ⟨gb254,3,none⟩ = some (.string a1_3) := (blk_cell BK254.out 3).trans rfl;have hfz45_0 := blk_frozen BK254.out 0;have hfz45_1 := blk_frozen BK254.out 1;have hfz45_2 := blk_frozen BK254.out 2;have hfz45_3 := blk_frozen BK254.out 3))
              go_ret
              exact ⟨by first | rfl | (simp [errW_none,errW_some] <;> rfl) | (simp [*,errW_none,errW_some] <;> rfl),by repeat (first | (with_reducible first | exact HB.out | apply below_alloc | apply pw_below_drewN | apply below_drew1 | refine below_set ?_ GE253.out | refine below_set ?_ GE254.out) | exact HB.out)⟩
            · rw [if_neg c40] at H
              have c40b0 : decide (a1_2 < a0_2) = false := decide_eq_false c40
              clear c40
              obtain rfl := Option.some.inj H
              go_enter Try.func49,Try.ntmps49
              go_wp2_with (first | ((with_reducible refine gate_dst (N := 2) rfl ?_);refine box_event ?hg (N := 2) ?hd (cs := #[.int .i64 a0_0,.bool a0_1,.int .i64 a0_2,.string a0_3]) (t := 50) ?hr ?_;(case hd => rfl);(case hg => rfl);(case hr => first | (go_simp;done) | (go_simp;rfl));intro gb253 hg w46 hbox hb;have n0_ := Aside0.mk (below_step (by repeat (first | (with_reducible first | exact HB.out | apply below_alloc | apply pw_below_drewN | apply below_drew1) | exact HB.out)) hb);have n1_ := Aside0.mk (hbox);have n2_ := Aside0.mk ((by rw [hg];exact (below_size (by repeat (first | (with_reducible first | exact HB.out | apply below_alloc | apply pw_below_drewN | apply below_drew1) | exact HB.out))) : w.heap.size ≤ gb253));have n3_ := Aside0.mk ((by rw [hg];exact (below_size (by repeat (first | (with_reducible first | exact HB.out | apply below_alloc | apply pw_below_drewN | apply below_drew1) | exact HB.out))) : w.heap.size ≤ gb253));clear HB;have HB := n0_;have BK253 := n1_;have GW253 := n2_;have GE253 := n3_;clear n0_ n1_ n2_ n3_;clear hb hbox hg) | ((with_reducible refine gate_dst (N := 3) rfl ?_);refine box_event ?hg (N := 3) ?hd (cs := #[.int .i64 a1_0,.bool a1_1,.int .i64 a1_2,.string a1_3]) (t := 50) ?hr ?_;(case hd => rfl);(case hg => rfl);(case hr => first | (go_simp;done) | (go_simp;rfl));intro gb254 hg w47 hbox hb;have n0_ := Aside0.mk (blk_below (g := gb253) (o := .cells #[.int .i64 a0_0,.bool a0_1,.int .i64 a0_2,.string a0_3] 50 (0,0)) (by (with_reducible repeat (first | refine blk_drewN ?_ _ | refine blk_drew ?_ | refine blk_alloc ?_ _));exact BK253.out) hb);have n1_ := Aside0.mk (below_step (by repeat (first | (with_reducible first | exact HB.out | apply below_alloc | apply pw_below_drewN | apply below_drew1 | refine below_set ?_ GE253.out) | exact HB.out)) hb);have n2_ := Aside0.mk (hbox);have n3_ := Aside0.mk ((by rw [hg];exact (below_size (by repeat (first | (with_reducible first | exact HB.out | apply below_alloc | apply pw_below_drewN | apply below_drew1 | refine below_set ?_ GE253.out) | exact HB.out))) : w.heap.size ≤ gb254));have n4_ := Aside0.mk ((by rw [hg];exact (below_size (by repeat (first | (with_reducible first | exact HB.out | apply below_alloc | apply pw_below_drewN | apply below_drew1 | refine below_set ?_ GE253.out) | exact HB.out))) : w.heap.size ≤ gb254));have n5_ := Aside0.mk ((by rw [hg];exact Nat.ne_of_lt (blk_lt (g := gb253) (o := .cells #[.int .i64 a0_0,.bool a0_1,.int .i64 a0_2,.string a0_3] 50 (0,0)) (by (with_reducible repeat (first | refine blk_drewN ?_ _ | refine blk_drew ?_ | refine blk_alloc ?_ _));exact BK253.out)) : gb253 ≠ gb254));have n6_ := Aside0.mk ((by rw [hg];exact Nat.ne_of_gt (blk_lt (g := gb253) (o := .cells #[.int .i64 a0_0,.bool a0_1,.int .i64 a0_2,.string a0_3] 50 (0,0)) (by (with_reducible repeat (first | refine blk_drewN ?_ _ | refine blk_drew ?_ | refine blk_alloc ?_ _));exact BK253.out)) : gb254 ≠ gb253));clear BK253;clear HB;have BK253 := n0_;have HB := n1_;have BK254 := n2_;have GW254 := n3_;have GE254 := n4_;have NB253_254 := n5_;have NB254_253 := n6_;clear n0_ n1_ n2_ n3_ n4_ n5_ n6_;clear hb hbox hg;have hnb48 := NB253_254.out;have hnc48 := NB254_253.out;have hcz49_0 : w47.cell? ⟨gb253,0,none⟩ = some (.int .i64 a0_0) := (blk_cell BK253.out 0).trans rfl;have hcz49_1 : w47.cell? ⟨gb253,1,none⟩ = some (.bool a0_1) := (blk_cell BK253.out 1).trans rfl;have hcz49_2 : w47.cell? ⟨gb253,2,none⟩ = some (.int .i64 a0_2) := (blk_cell BK253.out 2).trans rfl;have hcz49_3 : w47.cell? ⟨gb253,3,none⟩ = some (.string a0_3) := (blk_cell BK253.out 3).trans rfl;have hfz49_0 := blk_frozen BK253.out 0;have hfz49_1 := blk_frozen BK253.out 1;have hfz49_2 := blk_frozen BK253.out 2;have hfz49_3 := blk_frozen BK253.out 3;have hcz50_0 : w47.cell? ⟨gb254,0,none⟩ = some (.int .i64 a1_0) := (blk_cell BK254.out 0).trans rfl;have hcz50_1 : w47.cell? ⟨gb254,1,none⟩ = some (.bool a1_1) := (blk_cell BK254.out 1).trans rfl;have hcz50_2 : w47.cell? ⟨gb254,2,none⟩ = some (.int .i64 a1_2) := (blk_cell BK254.out 2).trans rfl;have hcz50_3 : w47.cell? ⟨gb254,3,none⟩ = some (.string a1_3) := (blk_cell BK254.out 3).trans rfl;have hfz50_0 := blk_frozen BK254.out 0;have hfz50_1 := blk_frozen BK254.out 1;have hfz50_2 := blk_frozen BK254.out 2;have hfz50_3 := blk_frozen BK254.out 3))
              go_ret
              exact ⟨by first | rfl | (simp [errW_none,errW_some] <;> rfl) | (simp [*,errW_none,errW_some] <;> rfl),by repeat (first | (with_reducible first | exact HB.out | apply below_alloc | apply pw_below_drewN | apply below_drew1 | refine below_set ?_ GE253.out | refine below_set ?_ GE254.out) | exact HB.out)⟩
        · rw [if_neg c33] at H
          have c33b0 : (a0_0 == 2) = false := beq_eq_false_iff_ne.mpr c33
          have c33b1 : (a0_0 != 2) = true := bne_iff_ne.mpr c33
          by_cases c51 : a0_0 = 3
          · rw [if_pos c51] at H
            have c51b0 : (a0_0 == 3) = true := beq_iff_eq.mpr c51
            have c51b1 : (a0_0 != 3) = false := bne_eq_false_iff_eq.mpr c51
            clear c51
            replace H := Option.bind_eq_some_iff.mp H
            obtain ⟨t255,A520,H⟩ := H
            replace H : (some t255) = some r := H
            have A52 := Aside0.mk A520
            clear A520
            obtain rfl := Option.some.inj H
            go_enter Try.func49,Try.ntmps49
            go_wp2_with (first | ((with_reducible refine gate_dst (N := 2) rfl ?_);refine box_event ?hg (N := 2) ?hd (cs := #[.int .i64 a0_0,.bool a0_1,.int .i64 a0_2,.string a0_3]) (t := 50) ?hr ?_;(case hd => rfl);(case hg => rfl);(case hr => first | (go_simp;done) | (go_simp;rfl));intro gb253 hg w53 hbox hb;have n0_ := Aside0.mk (below_step (by repeat (first | (with_reducible first | exact HB.out | apply below_alloc | apply pw_below_drewN | apply below_drew1) | exact HB.out)) hb);have n1_ := Aside0.mk (hbox);have n2_ := Aside0.mk ((by rw [hg];exact (below_size (by repeat (first | (with_reducible first | exact HB.out | apply below_alloc | apply pw_below_drewN | apply below_drew1) | exact HB.out))) : w.heap.size ≤ gb253));have n3_ := Aside0.mk ((by rw [hg];exact (below_size (by repeat (first | (with_reducible first | exact HB.out | apply below_alloc | apply pw_below_drewN | apply below_drew1) | exact HB.out))) : w.heap.size ≤ gb253));clear HB;have HB := n0_;have BK253 := n1_;have GW253 := n2_;have GE253 := n3_;clear n0_ n1_ n2_ n3_;clear hb hbox hg) | ((with_reducible refine gate_dst (N := 3) rfl ?_);refine box_event ?hg (N := 3) ?hd (cs := #[.int .i64 a1_0,.bool a1_1,.int .i64 a1_2,.string a1_3]) (t := 50) ?hr ?_;(case hd => rfl);(case hg => rfl);(case hr => first | (go_simp;done) | (go_simp;rfl));intro gb254 hg w54 hbox hb;have n0_ := Aside0.mk (blk_below (g := gb253) (o := .cells #[.int .i64 a0_0,.bool a0_1,.int .i64 a0_2,.string a0_3] 50 (0,0)) (by (with_reducible repeat (first | refine blk_drewN ?_ _ | refine blk_drew ?_ | refine blk_alloc ?_ _));exact BK253.out) hb);have n1_ := Aside0.mk (below_step (by repeat (first | (with_reducible first | exact HB.out | apply below_alloc | apply pw_below_drewN | apply below_drew1 | refine below_set ?_ GE253.out) | exact HB.out)) hb);have n2_ := Aside0.mk (hbox);have n3_ := Aside0.mk ((by rw [hg];exact (below_size (by repeat (first | (with_reducible first | exact HB.out | apply below_alloc | apply pw_below_drewN | apply below_drew1 | refine below_set ?_ GE253.out) | exact HB.out))) : w.heap.size ≤ gb254));have n4_ := Aside0.mk ((by rw [hg];exact (below_size (by repeat (first | (with_reducible first | exact HB.out | apply below_alloc | apply pw_below_drewN | apply below_drew1 | refine below_set ?_ GE253.out) | exact HB.out))) : w.heap.size ≤ gb254));have n5_ := Aside0.mk ((by rw [hg];exact Nat.ne_of_lt (blk_lt (g := gb253) (o := .cells #[.int .i64 a0_0,.bool a0_1,.int .i64 a0_2,.string a0_3] 50 (0,0)) (by (with_reducible repeat (first | refine blk_drewN ?_ _ | refine blk_drew ?_ | refine blk_alloc ?_ _));exact BK253.out)) : gb253 ≠ gb254));have n6_ := Aside0.mk ((by rw [hg];exact Nat.ne_of_gt (blk_lt (g := gb253) (o := .cells #[.int .i64 a0_0,.bool a0_1,.int .i64 a0_2,.string a0_3] 50 (0,0)) (by (with_reducible repeat (first | refine blk_drewN ?_ _ | refine blk_drew ?_ | refine blk_alloc ?_ _));exact BK253.out)) : gb254 ≠ gb253));clear BK253;clear HB;have BK253 := n0_;have HB := n1_;have BK254 := n2_;have GW254 := n3_;have GE254 := n4_;have NB253_254 := n5_;have NB254_253 := n6_;clear n0_ n1_ n2_ n3_ n4_ n5_ n6_;clear hb hbox hg;have hnb55 := NB253_254.out;have hnc55 := NB254_253.out;have hcz56_0 : w54.cell? ⟨gb253,0,none⟩ = some (.int .i64 a0_0) := (blk_cell BK253.out 0).trans rfl;have hcz56_1 : w54.cell? ⟨gb253,1,none⟩ = some (.bool a0_1) := (blk_cell BK253.out 1).trans rfl;have hcz56_2 : w54.cell? ⟨gb253,2,none⟩ = some (.int .i64 a0_2) := (blk_cell BK253.out 2).trans rfl;have hcz56_3 : w54.cell? ⟨gb253,3,none⟩ = some (.string a0_3) := (blk_cell BK253.out 3).trans rfl;have hfz56_0 := blk_frozen BK253.out 0;have hfz56_1 := blk_frozen BK253.out 1;have hfz56_2 := blk_frozen BK253.out 2;have hfz56_3 := blk_frozen BK253.out 3;have hcz57_0 : w54.cell? ⟨gb254,0,none⟩ = some (.int .i64 a1_0) := (blk_cell BK254.out 0).trans rfl;have hcz57_1 : w54.cell? ⟨gb254,1,none⟩ = some (.bool a1_1) := (blk_cell BK254.out 1).trans rfl;have hcz57_2 : w54.cell? ⟨gb254,2,none⟩ = some (.int .i64 a1_2) := (blk_cell BK254.out 2).trans rfl;have hcz57_3 : w54.cell? ⟨gb254,3,none⟩ = some (.string a1_3) := (blk_cell BK254.out 3).trans rfl;have hfz57_0 := blk_frozen BK254.out 0;have hfz57_1 := blk_frozen BK254.out 1;have hfz57_2 := blk_frozen BK254.out 2;have hfz57_3 := blk_frozen BK254.out 3) | ((with_reducible refine gate_callee (f := 41) rfl ?_);refine goesL_ (some 45) rfl rfl Try.func41 (by kernel_rfl) rfl #[.string a0_3,.string a1_3] rfl (by (try simp only [List.map_toArray,List.map_cons,List.map_nil]);first | done | rfl | (simp only [List.length_drop,List.length_take];rfl)) ?_;(with_reducible refine (verdererref01_Text.calls k a0_3 a1_3 t255 _ A52.out).mono ?_);rintro e w' ⟨rfl,⟨nd,rfl⟩⟩;refine ⟨_,rfl,?_⟩))
            go_ret
            exact ⟨by first | rfl | (simp [errW_none,errW_some] <;> rfl) | (simp [*,errW_none,errW_some] <;> rfl),by repeat (first | (with_reducible first | exact HB.out | apply below_alloc | apply pw_below_drewN | apply below_drew1 | refine below_set ?_ GE253.out | refine below_set ?_ GE254.out) | exact HB.out)⟩
          · rw [if_neg c51] at H
            have c51b0 : (a0_0 == 3) = false := beq_eq_false_iff_ne.mpr c51
            have c51b1 : (a0_0 != 3) = true := bne_iff_ne.mpr c51
            obtain rfl := Option.some.inj H
            go_enter Try.func49,Try.ntmps49
            go_wp2_with (first | ((with_reducible refine gate_dst (N := 2) rfl ?_);refine box_event ?hg (N := 2) ?hd (cs := #[.int .i64 a0_0,.bool a0_1,.int .i64 a0_2,.string a0_3]) (t := 50) ?hr ?_;(case hd => rfl);(case hg => rfl);(case hr => first | (go_simp;done) | (go_simp;rfl));intro gb253 hg w58 hbox hb;have n0_ := Aside0.mk (below_step (by repeat (first | (with_reducible first | exact HB.out | apply below_alloc | apply pw_below_drewN | apply below_drew1) | exact HB.out)) hb);have n1_ := Aside0.mk (hbox);have n2_ := Aside0.mk ((by rw [hg];exact (below_size (by repeat (first | (with_reducible first | exact HB.out | apply below_alloc | apply pw_below_drewN | apply below_drew1) | exact HB.out))) : w.heap.size ≤ gb253));have n3_ := Aside0.mk ((by rw [hg];exact (below_size (by repeat (first | (with_reducible first | exact HB.out | apply below_alloc | apply pw_below_drewN | apply below_drew1) | exact HB.out))) : w.heap.size ≤ gb253));clear HB;have HB := n0_;have BK253 := n1_;have GW253 := n2_;have GE253 := n3_;clear n0_ n1_ n2_ n3_;clear hb hbox hg) | ((with_reducible refine gate_dst (N := 3) rfl ?_);refine box_event ?hg (N := 3) ?hd (cs := #[.int .i64 a1_0,.bool a1_1,.int .i64 a1_2,.string a1_3]) (t := 50) ?hr ?_;(case hd => rfl);(case hg => rfl);(case hr => first | (go_simp;done) | (go_simp;rfl));intro gb254 hg w59 hbox hb;have n0_ := Aside0.mk (blk_below (g := gb253) (o := .cells #[.int .i64 a0_0,.bool a0_1,.int .i64 a0_2,.string a0_3] 50 (0,0)) (by (with_reducible repeat (first | refine blk_drewN ?_ _ | refine blk_drew ?_ | refine blk_alloc ?_ _));exact BK253.out) hb);have n1_ := Aside0.mk (below_step (by repeat (first | (with_reducible first | exact HB.out | apply below_alloc | apply pw_below_drewN | apply below_drew1 | refine below_set ?_ GE253.out) | exact HB.out)) hb);have n2_ := Aside0.mk (hbox);have n3_ := Aside0.mk ((by rw [hg];exact (below_size (by repeat (first | (with_reducible first | exact HB.out | apply below_alloc | apply pw_below_drewN | apply below_drew1 | refine below_set ?_ GE253.out) | exact HB.out))) : w.heap.size ≤ gb254));have n4_ := Aside0.mk ((by rw [hg];exact (below_size (by repeat (first | (with_reducible first | exact HB.out | apply below_alloc | apply pw_below_drewN | apply below_drew1 | refine below_set ?_ GE253.out) | exact HB.out))) : w.heap.size ≤ gb254));have n5_ := Aside0.mk ((by rw [hg];exact Nat.ne_of_lt (blk_lt (g := gb253) (o := .cells #[.int .i64 a0_0,.bool a0_1,.int .i64 a0_2,.string a0_3] 50 (0,0)) (by (with_reducible repeat (first | refine blk_drewN ?_ _ | refine blk_drew ?_ | refine blk_alloc ?_ _));exact BK253.out)) : gb253 ≠ gb254));have n6_ := Aside0.mk ((by rw [hg];exact Nat.ne_of_gt (blk_lt (g := gb253) (o := .cells #[.int .i64 a0_0,.bool a0_1,.int .i64 a0_2,.string a0_3] 50 (0,0)) (by (with_reducible repeat (first | refine blk_drewN ?_ _ | refine blk_drew ?_ | refine blk_alloc ?_ _));exact BK253.out)) : gb254 ≠ gb253));clear BK253;clear HB;have BK253 := n0_;have HB := n1_;have BK254 := n2_;have GW254 := n3_;have GE254 := n4_;have NB253_254 := n5_;have NB254_253 := n6_;clear n0_ n1_ n2_ n3_ n4_ n5_ n6_;clear hb hbox hg;have hnb60 := NB253_254.out;have hnc60 := NB254_253.out;have hcz61_0 : w59.cell? ⟨gb253,0,none⟩ = some (.int .i64 a0_0) := (blk_cell BK253.out 0).trans rfl;have hcz61_1 : w59.cell? ⟨gb253,1,none⟩ = some (.bool a0_1) := (blk_cell BK253.out 1).trans rfl;have hcz61_2 : w59.cell? ⟨gb253,2,none⟩ = some (.int .i64 a0_2) := (blk_cell BK253.out 2).trans rfl;have hcz61_3 : w59.cell? ⟨gb253,3,none⟩ = some (.string a0_3) := (blk_cell BK253.out 3).trans rfl;have hfz61_0 := blk_frozen BK253.out 0;have hfz61_1 := blk_frozen BK253.out 1;have hfz61_2 := blk_frozen BK253.out 2;have hfz61_3 := blk_frozen BK253.out 3;have hcz62_0 : w59.cell? ⟨gb254,0,none⟩ = some (.int .i64 a1_0) := (blk_cell BK254.out 0).trans rfl;have hcz62_1 : w59.cell? ⟨gb254,1,none⟩ = some (.bool a1_1) := (blk_cell BK254.out 1).trans rfl;have hcz62_2 : w59.cell? ⟨gb254,2,none⟩ = some (.int .i64 a1_2) := (blk_cell BK254.out 2).trans rfl;have hcz62_3 : w59.cell? ⟨gb254,3,none⟩ = some (.string a1_3) := (blk_cell BK254.out 3).trans rfl;have hfz62_0 := blk_frozen BK254.out 0;have hfz62_1 := blk_frozen BK254.out 1;have hfz62_2 := blk_frozen BK254.out 2;have hfz62_3 := blk_frozen BK254.out 3))
            go_ret
            exact ⟨by first | rfl | (simp [errW_none,errW_some] <;> rfl) | (simp [*,errW_none,errW_some] <;> rfl),by repeat (first | (with_reducible first | exact HB.out | apply below_alloc | apply pw_below_drewN | apply below_drew1 | refine below_set ?_ GE253.out | refine below_set ?_ GE254.out) | exact HB.out)⟩
end Go.Proofs.Ytfoaeigoajooeaa.Z
end
