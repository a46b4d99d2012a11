/- Parts of the proof of PackBack: what its functions answer. -/
import Derived.Test.YtfoaeigoajooeaaMPackBacka
import Derived.Laws.MakeOwn
import Derived.Lib.SliceRun
import Derived.Laws.Slices
section
namespace Go.Proofs.Ytfoaeigoajooeaa.Z
open Go.RowKit Go.Proofs.YtfoaeigoajooeaaW.PrintWords Go.Proofs.YtfoaeigoajooeaaW.PrintLast Go.Proofs.YtfoaeigoajooeaaW.PrintMore
attribute [local go_sem] max2_int min2_int max_two min_two max_three min_three max_four min_four
set_option linter.unusedVariables false
set_option linter.unusedSimpArgs false
mutual
def pack_Value.l0 : Nat → List Int → Int → Int → Bool → Int → ByteArray → Option (List Int)
  | 0,_,_,_,_,_,_ => none
  | k + 1,x3,x4,x404000,x404001,x404002,x404003 => if x4 ≥ 0 then (if 0 ≤ (wrap64 (8 * x4)) then (if x3.length < 140737488355328 then (pack_Value.l0 k (x3 ++ [(shr .u64 (Go.bits .xor .u64 (IntKind.u64.wrap (x404002)) 9223372036854775808) (wrap64 (8 * x4))) % 256]) (wrap64 (x4 - 1)) x404000 x404001 x404002 x404003) else (none)) else (none)) else (some x3)
def pack_Value.l1 : Nat → List Int → Int → Int → Int → Bool → Int → ByteArray → Option (List Int)
  | 0,_,_,_,_,_,_,_ => none
  | k + 1,x5,x42,x43,x404000,x404001,x404002,x404003 => if x43 < x42 then (if 0 ≤ x43 then (if x43 < (x404003.size : Int) then (if x5.length < 140737488355328 then ((some (x5 ++ [bt x404003 x43] : List Int)).bind fun y420 => (if (bt x404003 x43) = 0 then (if y420.length < 140737488355328 then (pack_Value.l1 k (y420 ++ [255]) x42 (wrap64 (x43 + 1)) x404000 x404001 x404002 x404003) else (none)) else (pack_Value.l1 k y420 x42 (wrap64 (x43 + 1)) x404000 x404001 x404002 x404003))) else (none)) else (none)) else (none)) else ((some (([0,1] : List Int) : List Int)).bind fun y426 => (if x5.length + y426.length < 140737488355328 then (some (x5 ++ y426)) else (none)))
end
def pack_Value.f (k : Nat) (a0_0 : Int) (a0_1 : Bool) (a0_2 : Int) (a0_3 : ByteArray) : Option (List Int) := (value_Right.f a0_0 a0_1 a0_2 a0_3).bind fun t404 => (if t404 = true then (if a0_0 = 1 then (if a0_1 = true then (some (([2,1] : List Int))) else (some (([2,0] : List Int)))) else (if a0_0 = 2 then (pack_Value.l0 k (([3] : List Int)) 7 a0_0 a0_1 a0_2 a0_3) else (if a0_0 = 3 then (pack_Value.l1 k (([4] : List Int)) (a0_3.size : Int) 0 a0_0 a0_1 a0_2 a0_3) else (some (([1] : List Int)))))) else (some ([] : List Int)))
theorem pack_Value.mono_l : ∀ k,(∀ y0 y1 y2 y3 y4 y5,LeO (pack_Value.l0 k y0 y1 y2 y3 y4 y5) (pack_Value.l0 (k + 1) y0 y1 y2 y3 y4 y5)) ∧ (∀ y0 y1 y2 y3 y4 y5 y6,LeO (pack_Value.l1 k y0 y1 y2 y3 y4 y5 y6) (pack_Value.l1 (k + 1) y0 y1 y2 y3 y4 y5 y6))
  | 0 => ⟨fun _ _ _ _ _ _ r h => by simp [pack_Value.l0] at h,fun _ _ _ _ _ _ _ r h => by simp [pack_Value.l1] at h⟩
  | k + 1 => by
    obtain ⟨ih0,ih1⟩ := pack_Value.mono_l k
    refine ⟨?_,?_⟩
    · intro y0 y1 y2 y3 y4 y5
      unfold pack_Value.l0
      repeat' first
      | (with_reducible exact ih0 _ _ _ _ _ _)
      | (with_reducible exact ih1 _ _ _ _ _ _ _)
      | (with_reducible exact LeO.refl _)
      | (with_reducible exact LeO.none _)
      | (with_reducible refine LeO.ite ?_ ?_)
      | (with_reducible refine LeO.bind ?_ (fun _ => ?_))
      | exact ih0 _ _ _ _ _ _
      | exact ih1 _ _ _ _ _ _ _
      | exact LeO.none _
      | refine LeO.ite ?_ ?_
      | refine LeO.bind ?_ (fun _ => ?_)
    · intro y0 y1 y2 y3 y4 y5 y6
      unfold pack_Value.l1
      repeat' first
      | (with_reducible exact ih0 _ _ _ _ _ _)
      | (with_reducible exact ih1 _ _ _ _ _ _ _)
      | (with_reducible exact LeO.refl _)
      | (with_reducible exact LeO.none _)
      | (with_reducible refine LeO.ite ?_ ?_)
      | (with_reducible refine LeO.bind ?_ (fun _ => ?_))
      | exact ih0 _ _ _ _ _ _
      | exact ih1 _ _ _ _ _ _ _
      | exact LeO.none _
      | refine LeO.ite ?_ ?_
      | refine LeO.bind ?_ (fun _ => ?_)
theorem pack_Value.mono : ∀ a0 a1 a2 a3 k,LeO (pack_Value.f k a0 a1 a2 a3) (pack_Value.f (k + 1) a0 a1 a2 a3) := by
  intro a0 a1 a2 a3 k
  obtain ⟨ih0,ih1⟩ := pack_Value.mono_l k
  unfold pack_Value.f
  repeat' first
      | (with_reducible exact ih0 _ _ _ _ _ _)
      | (with_reducible exact ih1 _ _ _ _ _ _ _)
      | (with_reducible exact LeO.refl _)
      | (with_reducible exact LeO.none _)
      | (with_reducible refine LeO.ite ?_ ?_)
      | (with_reducible refine LeO.bind ?_ (fun _ => ?_))
      | exact ih0 _ _ _ _ _ _
      | exact ih1 _ _ _ _ _ _ _
      | exact LeO.none _
      | refine LeO.ite ?_ ?_
      | refine LeO.bind ?_ (fun _ => ?_)
set_option maxHeartbeats 8000000 in
set_option maxRecDepth 100000 in
theorem pack_Value.calls (k : Nat) (a0_0 : Int) (a0_1 : Bool) (a0_2 : Int) (a0_3 : ByteArray) (r : List Int) (w : World) (h : pack_Value.f k a0_0 a0_1 a0_2 a0_3 = some r) :
    Calls Try.prog 33 #[.agg #[.int .i64 a0_0,.bool a0_1,.int .i64 a0_2,.string a0_3]] w fun e w' => ∃ v0_ : Value,e = .returned (v0_) ∧ Kd.R (Kd.int .u8) 5 w' w.heap.size (fun _ => True) v0_ r ∧ Below w.heap.size w w' := by
  have hu50 := Try.underlying50
  have HB := Aside0.mk (Below.refl w.heap.size w)
  have H : ((value_Right.f a0_0 a0_1 a0_2 a0_3).bind fun t404 => (if t404 = true then (if a0_0 = 1 then (if a0_1 = true then (some (([2,1] : List Int))) else (some (([2,0] : List Int)))) else (if a0_0 = 2 then (pack_Value.l0 k (([3] : List Int)) 7 a0_0 a0_1 a0_2 a0_3) else (if a0_0 = 3 then (pack_Value.l1 k (([4] : List Int)) (a0_3.size : Int) 0 a0_0 a0_1 a0_2 a0_3) else (some (([1] : List Int)))))) else (some ([] : List Int)))) = some r := h
  clear h
  replace H := Option.bind_eq_some_iff.mp H
  obtain ⟨t404,A20,H⟩ := H
  replace H : (if t404 = true then (if a0_0 = 1 then (if a0_1 = true then (some (([2,1] : List Int))) else (some (([2,0] : List Int)))) else (if a0_0 = 2 then (pack_Value.l0 k (([3] : List Int)) 7 a0_0 a0_1 a0_2 a0_3) else (if a0_0 = 3 then (pack_Value.l1 k (([4] : List Int)) (a0_3.size : Int) 0 a0_0 a0_1 a0_2 a0_3) else (some (([1] : List Int)))))) else (some ([] : List Int))) = some r := H
  have A2 := Aside0.mk A20
  clear A20
  by_cases c3 : t404 = true
  · subst c3
    have H1 : (if a0_0 = 1 then (if a0_1 = true then (some (([2,1] : List Int))) else (some (([2,0] : List Int)))) else (if a0_0 = 2 then (pack_Value.l0 k (([3] : List Int)) 7 a0_0 a0_1 a0_2 a0_3) else (if a0_0 = 3 then (pack_Value.l1 k (([4] : List Int)) (a0_3.size : Int) 0 a0_0 a0_1 a0_2 a0_3) else (some (([1] : List Int)))))) = some r := by rw [if_pos rfl] at H;exact H
    clear H
    have H := H1
    clear H1
    by_cases c4 : a0_0 = 1
    · rw [if_pos c4] at H
      have c4b0 : (a0_0 == 1) = true := beq_iff_eq.mpr c4
      have c4b1 : (a0_0 != 1) = false := bne_eq_false_iff_eq.mpr c4
      clear c4
      by_cases c5 : a0_1 = true
      · subst c5
        have H1 : (some (([2,1] : List Int))) = some r := by rw [if_pos rfl] at H;exact H
        clear H
        have H := H1
        clear H1
        obtain ⟨y405,hy405⟩ : ∃ y_ : List Int,y_ = (([2,1] : List Int)) := ⟨_,rfl⟩
        replace H : (some y405) = some r := by first | (rw [hy405];with_reducible exact H) | (have H2_ := (Option.bind_some _ _).symm.trans H;rw [hy405];with_reducible exact H2_) | (have H2_ := (Option.bind_some _ _).symm.trans H;with_reducible exact H2_) | with_reducible exact H | (rw [hy405];exact H) | exact H
        have Ny405 := Aside0.mk hy405
        clear hy405
        obtain rfl := Option.some.inj H
        go_enter Try.func33,Try.ntmps33
        go_wp2_with (first | ((with_reducible refine gate_dst (N := 1) rfl ?_);refine box_event ?hg (N := 1) ?hd (cs := #[.int .i64 a0_0,.bool true,.int .i64 a0_2,.string a0_3]) (t := 50) ?hr ?_;(case hd => rfl);(case hg => rfl);(case hr => first | (go_simp;done) | (go_simp;rfl));intro gb403 hg w6 hbox hb;have n0_ := Aside0.mk (below_step (by repeat (first | (with_reducible first | exact HB.out | apply below_alloc | apply pw_below_drewN | apply below_drew1) | exact HB.out)) hb);have n1_ := Aside0.mk (hbox);have n2_ := Aside0.mk ((by rw [hg];exact (below_size (by repeat (first | (with_reducible first | exact HB.out | apply below_alloc | apply pw_below_drewN | apply below_drew1) | exact HB.out))) : w.heap.size ≤ gb403));have n3_ := Aside0.mk ((by rw [hg];exact (below_size (by repeat (first | (with_reducible first | exact HB.out | apply below_alloc | apply pw_below_drewN | apply below_drew1) | exact HB.out))) : w.heap.size ≤ gb403));clear HB;have HB := n0_;have BK403 := n1_;have GW403 := n2_;have GE403 := n3_;clear n0_ n1_ n2_ n3_;clear hb hbox hg;have hcz7_0 : w6.cell? ⟨gb403,0,none⟩ = some (.int .i64 a0_0) := (blk_cell BK403.out 0).trans rfl;have hcz7_1 : w6.cell? ⟨gb403,1,none⟩ = some (.bool true) := (blk_cell BK403.out 1).trans rfl;have hcz7_2 : w6.cell? ⟨gb403,2,none⟩ = some (.int .i64 a0_2) := (blk_cell BK403.out 2).trans rfl;have hcz7_3 : w6.cell? ⟨gb403,3,none⟩ = some (.string a0_3) := (blk_cell BK403.out 3).trans rfl;have hfz7_0 := blk_frozen BK403.out 0;have hfz7_1 := blk_frozen BK403.out 1;have hfz7_2 := blk_frozen BK403.out 2;have hfz7_3 := blk_frozen BK403.out 3) | ((with_reducible refine gate_callee (f := 52) rfl ?_);refine goesL_ (some 8) rfl rfl Try.func52 (by kernel_rfl) rfl #[.agg #[.int .i64 a0_0,.bool true,.int .i64 a0_2,.string a0_3]] rfl (by (try simp only [List.map_toArray,List.map_cons,List.map_nil]);first | done | rfl | (simp only [List.length_drop,List.length_take];rfl)) ?_;(with_reducible refine (value_Right.calls a0_0 true a0_2 a0_3 true _ A2.out).mono ?_);rintro e w8 ⟨rfl,hb⟩;refine ⟨_,rfl,?_⟩;have n0_ := Aside0.mk (blk_below (g := gb403) (o := .cells #[.int .i64 a0_0,.bool true,.int .i64 a0_2,.string a0_3] 50 (0,0)) (by (with_reducible repeat (first | refine blk_drewN ?_ _ | refine blk_drew ?_ | refine blk_alloc ?_ _));exact BK403.out) hb);have n1_ := Aside0.mk (below_step (by repeat (first | (with_reducible first | exact HB.out | apply below_alloc | apply pw_below_drewN | apply below_drew1 | refine below_set ?_ GE403.out) | exact HB.out)) hb);clear BK403;clear HB;have BK403 := n0_;have HB := n1_;clear n0_ n1_;(try clear hb);(try clear hb2);(try clear hk);(try clear hi);have hcz9_0 : w8.cell? ⟨gb403,0,none⟩ = some (.int .i64 a0_0) := (blk_cell BK403.out 0).trans rfl;have hcz9_1 : w8.cell? ⟨gb403,1,none⟩ = some (.bool true) := (blk_cell BK403.out 1).trans rfl;have hcz9_2 : w8.cell? ⟨gb403,2,none⟩ = some (.int .i64 a0_2) := (blk_cell BK403.out 2).trans rfl;have hcz9_3 : w8.cell? ⟨gb403,3,none⟩ = some (.string a0_3) := (blk_cell BK403.out 3).trans rfl;have hfz9_0 := blk_frozen BK403.out 0;have hfz9_1 := blk_frozen BK403.out 1;have hfz9_2 := blk_frozen BK403.out 2;have hfz9_3 := blk_frozen BK403.out 3) | ((with_reducible refine gate_dst (N := 16) rfl ?_);refine Kd.R_lit (Kd.int .u8) _ 5 ?hg (N := 16) ?hd (xs := ([2,1] : List Int)) (inner := [.int .u8 2,.int .u8 1]) (ok := fun _ => True) (okp := fun _ => True) ?hr ?hp (fun _ hk => hk) trivial (Below.refl _ _) (Nat.le_refl _) (by simp) ?_;(case hd => rfl);(case hg => rfl);(case hr => first | (go_simp;done) | (go_simp;rfl));(case hp => exact (Reps.one (show Kd.M (Kd.int .u8) _ _ _ 2 [.int .u8 2] from rfl) (Reps.one (show Kd.M (Kd.int .u8) _ _ _ 1 [.int .u8 1] from rfl) (Reps.none _ _))));intro v406 w10 ho11 hb hg_ hnew_;clear hg_ hnew_;(first | rw [← Ny405.out] at ho11 | (simp only [Int.reduceToNat] at ho11;rw [← Ny405.out] at ho11));have n0_ := Aside0.mk (Kd.R_lower ho11 (below_size (by repeat (first | (with_reducible first | exact HB.out | apply below_alloc | apply pw_below_drewN | apply below_drew1 | refine below_set ?_ GE403.out) | exact HB.out))));have n1_ := Aside0.mk (blk_below (g := gb403) (o := .cells #[.int .i64 a0_0,.bool true,.int .i64 a0_2,.string a0_3] 50 (0,0)) (by (with_reducible repeat (first | refine blk_drewN ?_ _ | refine blk_drew ?_ | refine blk_alloc ?_ _));exact BK403.out) hb);have n2_ := Aside0.mk (below_step (by repeat (first | (with_reducible first | exact HB.out | apply below_alloc | apply pw_below_drewN | apply below_drew1 | refine below_set ?_ GE403.out) | exact HB.out)) hb);clear BK403;clear HB;have HO407 := n0_;have BK403 := n1_;have HB := n2_;clear n0_ n1_ n2_;clear hb ho11))
        go_ret
        exact ⟨_,by first | rfl | (simp [errW_none,errW_some] <;> rfl) | (simp [*,errW_none,errW_some] <;> rfl),by (with_reducible repeat (first | apply Kd.R_alloc | apply Kd.R_drewN | apply Kd.R_drew));exact HO407.out,by repeat (first | (with_reducible first | exact HB.out | apply below_alloc | apply pw_below_drewN | apply below_drew1 | refine below_set ?_ GE403.out) | exact HB.out)⟩
      · replace c5 := Bool.eq_false_iff.mpr c5
        subst c5
        have H1 : (some (([2,0] : List Int))) = some r := by rw [if_neg (show ¬ (false = true) by decide)] at H;exact H
        clear H
        have H := H1
        clear H1
        obtain ⟨y408,hy408⟩ : ∃ y_ : List Int,y_ = (([2,0] : List Int)) := ⟨_,rfl⟩
        replace H : (some y408) = some r := by first | (rw [hy408];with_reducible exact H) | (have H2_ := (Option.bind_some _ _).symm.trans H;rw [hy408];with_reducible exact H2_) | (have H2_ := (Option.bind_some _ _).symm.trans H;with_reducible exact H2_) | with_reducible exact H | (rw [hy408];exact H) | exact H
        have Ny408 := Aside0.mk hy408
        clear hy408
        obtain rfl := Option.some.inj H
        go_enter Try.func33,Try.ntmps33
        go_wp2_with (first | ((with_reducible refine gate_dst (N := 1) rfl ?_);refine box_event ?hg (N := 1) ?hd (cs := #[.int .i64 a0_0,.bool false,.int .i64 a0_2,.string a0_3]) (t := 50) ?hr ?_;(case hd => rfl);(case hg => rfl);(case hr => first | (go_simp;done) | (go_simp;rfl));intro gb403 hg w12 hbox hb;have n0_ := Aside0.mk (below_step (by repeat (first | (with_reducible first | exact HB.out | apply below_alloc | apply pw_below_drewN | apply below_drew1) | exact HB.out)) hb);have n1_ := Aside0.mk (hbox);have n2_ := Aside0.mk ((by rw [hg];exact (below_size (by repeat (first | (with_reducible first | exact HB.out | apply below_alloc | apply pw_below_drewN | apply below_drew1) | exact HB.out))) : w.heap.size ≤ gb403));have n3_ := Aside0.mk ((by rw [hg];exact (below_size (by repeat (first | (with_reducible first | exact HB.out | apply below_alloc | apply pw_below_drewN | apply below_drew1) | exact HB.out))) : w.heap.size ≤ gb403));clear HB;have HB := n0_;have BK403 := n1_;have GW403 := n2_;have GE403 := n3_;clear n0_ n1_ n2_ n3_;clear hb hbox hg;have hcz13_0 : w12.cell? ⟨gb403,0,none⟩ = some (.int .i64 a0_0) := (blk_cell BK403.out 0).trans rfl;have hcz13_1 : w12.cell? ⟨gb403,1,none⟩ = some (.bool false) := (blk_cell BK403.out 1).trans rfl;have hcz13_2 : w12.cell? ⟨gb403,2,none⟩ = some (.int .i64 a0_2) := (blk_cell BK403.out 2).trans rfl;have hcz13_3 : w12.cell? ⟨gb403,3,none⟩ = some (.string a0_3) := (blk_cell BK403.out 3).trans rfl;have hfz13_0 := blk_frozen BK403.out 0;have hfz13_1 := blk_frozen BK403.out 1;have hfz13_2 := blk_frozen BK403.out 2;have hfz13_3 := blk_frozen BK403.out 3) | ((with_reducible refine gate_callee (f := 52) rfl ?_);refine goesL_ (some 8) rfl rfl Try.func52 (by kernel_rfl) rfl #[.agg #[.int .i64 a0_0,.bool false,.int .i64 a0_2,.string a0_3]] rfl (by (try simp only [List.map_toArray,List.map_cons,List.map_nil]);first | done | rfl | (simp only [List.length_drop,List.length_take];rfl)) ?_;(with_reducible refine (value_Right.calls a0_0 false a0_2 a0_3 true _ A2.out).mono ?_);rintro e w14 ⟨rfl,hb⟩;refine ⟨_,rfl,?_⟩;have n0_ := Aside0.mk (blk_below (g := gb403) (o := .cells #[.int .i64 a0_0,.bool false,.int .i64 a0_2,.string a0_3] 50 (0,0)) (by (with_reducible repeat (first | refine blk_drewN ?_ _ | refine blk_drew ?_ | refine blk_alloc ?_ _));exact BK403.out) hb);have n1_ := Aside0.mk (below_step (by repeat (first | (with_reducible first | exact HB.out | apply below_alloc | apply pw_below_drewN | apply below_drew1 | refine below_set ?_ GE403.out) | exact HB.out)) hb);clear BK403;clear HB;have BK403 := n0_;have HB := n1_;clear n0_ n1_;(try clear hb);(try clear hb2);(try clear hk);(try clear hi);have hcz15_0 : w14.cell? ⟨gb403,0,none⟩ = some (.int .i64 a0_0) := (blk_cell BK403.out 0).trans rfl;have hcz15_1 : w14.cell? ⟨gb403,1,none⟩ = some (.bool false) := (blk_cell BK403.out 1).trans rfl;have hcz15_2 : w14.cell? ⟨gb403,2,none⟩ = some (.int .i64 a0_2) := (blk_cell BK403.out 2).trans rfl;have hcz15_3 : w14.cell? ⟨gb403,3,none⟩ = some (.string a0_3) := (blk_cell BK403.out 3).trans rfl;have hfz15_0 := blk_frozen BK403.out 0;have hfz15_1 := blk_frozen BK403.out 1;have hfz15_2 := blk_frozen BK403.out 2;have hfz15_3 := blk_frozen BK403.out 3) | ((with_reducible refine gate_dst (N := 17) rfl ?_);refine Kd.R_lit (Kd.int .u8) _ 5 ?hg (N := 17) ?hd (xs := ([2,0] : List Int)) (inner := [.int .u8 2,.int .u8 0]) (ok := fun _ => True) (okp := fun _ => True) ?hr ?hp (fun _ hk => hk) trivial (Below.refl _ _) (Nat.le_refl _) (by simp) ?_;(case hd => rfl);(case hg => rfl);(case hr => first | (go_simp;done) | (go_simp;rfl));(case hp => exact (Reps.one (show Kd.M (Kd.int .u8) _ _ _ 2 [.int .u8 2] from rfl) (Reps.one (show Kd.M (Kd.int .u8) _ _ _ 0 [.int .u8 0] from rfl) (Reps.none _ _))));intro v409 w16 ho17 hb hg_ hnew_;clear hg_ hnew_;(first | rw [← Ny408.out] at ho17 | (simp only [Int.reduceToNat] at ho17;rw [← Ny408.out] at ho17));have n0_ := Aside0.mk (Kd.R_lower ho17 (below_size (by repeat (first | (with_reducible first | exact HB.out | apply below_alloc | apply pw_below_drewN | apply below_drew1 | refine below_set ?_ GE403.out) | exact HB.out))));have n1_ := Aside0.mk (blk_below (g := gb403) (o := .cells #[.int .i64 a0_0,.bool false,.int .i64 a0_2,.string a0_3] 50 (0,0)) (by (with_reducible repeat (first | refine blk_drewN ?_ _ | refine blk_drew ?_ | refine blk_alloc ?_ _));exact BK403.out) hb);have n2_ := Aside0.mk (below_step (by repeat (first | (with_reducible first | exact HB.out | apply below_alloc | apply pw_below_drewN | apply below_drew1 | refine below_set ?_ GE403.out) | exact HB.out)) hb);clear BK403;clear HB;have HO410 := n0_;have BK403 := n1_;have HB := n2_;clear n0_ n1_ n2_;clear hb ho17))
        go_ret
        exact ⟨_,by first | rfl | (simp [errW_none,errW_some] <;> rfl) | (simp [*,errW_none,errW_some] <;> rfl),by (with_reducible repeat (first | apply Kd.R_alloc | apply Kd.R_drewN | apply Kd.R_drew));exact HO410.out,by repeat (first | (with_reducible first | exact HB.out | apply below_alloc | apply pw_below_drewN | apply below_drew1 | refine below_set ?_ GE403.out) | exact HB.out)⟩
    · rw [if_neg c4] at H
      have c4b0 : (a0_0 == 1) = false := beq_eq_false_iff_ne.mpr c4
      have c4b1 : (a0_0 != 1) = true := bne_iff_ne.mpr c4
      by_cases c18 : a0_0 = 2
      · rw [if_pos c18] at H
        have c18b0 : (a0_0 == 2) = true := beq_iff_eq.mpr c18
        have c18b1 : (a0_0 != 2) = false := bne_eq_false_iff_eq.mpr c18
        clear c18
        obtain ⟨y411,hy411⟩ : ∃ y_ : List Int,y_ = (([3] : List Int)) := ⟨_,rfl⟩
        replace H : (pack_Value.l0 k y411 7 a0_0 a0_1 a0_2 a0_3) = some r := by first | (rw [hy411];with_reducible exact H) | (have H2_ := (Option.bind_some _ _).symm.trans H;rw [hy411];with_reducible exact H2_) | (have H2_ := (Option.bind_some _ _).symm.trans H;with_reducible exact H2_) | with_reducible exact H | (rw [hy411];exact H) | exact H
        have Ny411 := Aside0.mk hy411
        clear hy411
        have H' := Aside0.mk H
        clear H
        go_enter Try.func33,Try.ntmps33
        go_wp2_with (first | ((with_reducible refine gate_dst (N := 1) rfl ?_);refine box_event ?hg (N := 1) ?hd (cs := #[.int .i64 a0_0,.bool a0_1,.int .i64 a0_2,.string a0_3]) (t := 50) ?hr ?_;(case hd => rfl);(case hg => rfl);(case hr => first | (go_simp;done) | (go_simp;rfl));intro gb403 hg w19 hbox hb;have n0_ := Aside0.mk (below_step (by repeat (first | (with_reducible first | exact HB.out | apply below_alloc | apply pw_below_drewN | apply below_drew1) | exact HB.out)) hb);have n1_ := Aside0.mk (hbox);have n2_ := Aside0.mk ((by rw [hg];exact (below_size (by repeat (first | (with_reducible first | exact HB.out | apply below_alloc | apply pw_below_drewN | apply below_drew1) | exact HB.out))) : w.heap.size ≤ gb403));have n3_ := Aside0.mk ((by rw [hg];exact (below_size (by repeat (first | (with_reducible first | exact HB.out | apply below_alloc | apply pw_below_drewN | apply below_drew1) | exact HB.out))) : w.heap.size ≤ gb403));clear HB;have HB := n0_;have BK403 := n1_;have GW403 := n2_;have GE403 := n3_;clear n0_ n1_ n2_ n3_;clear hb hbox hg;have hcz20_0 : w19.cell? ⟨gb403,0,none⟩ = some (.int .i64 a0_0) := (blk_cell BK403.out 0).trans rfl;have hcz20_1 : w19.cell? ⟨gb403,1,none⟩ = some (.bool a0_1) := (blk_cell BK403.out 1).trans rfl;have hcz20_2 : w19.cell? ⟨gb403,2,none⟩ = some (.int .i64 a0_2) := (blk_cell BK403.out 2).trans rfl;have hcz20_3 : w19.cell? ⟨gb403,3,none⟩ = some (.string a0_3) := (blk_cell BK403.out 3).trans rfl;have hfz20_0 := blk_frozen BK403.out 0;have hfz20_1 := blk_frozen BK403.out 1;have hfz20_2 := blk_frozen BK403.out 2;have hfz20_3 := blk_frozen BK403.out 3) | ((with_reducible refine gate_callee (f := 52) rfl ?_);refine goesL_ (some 8) rfl rfl Try.func52 (by kernel_rfl) rfl #[.agg #[.int .i64 a0_0,.bool a0_1,.int .i64 a0_2,.string a0_3]] rfl (by (try simp only [List.map_toArray,List.map_cons,List.map_nil]);first | done | rfl | (simp only [List.length_drop,List.length_take];rfl)) ?_;(with_reducible refine (value_Right.calls a0_0 a0_1 a0_2 a0_3 true _ A2.out).mono ?_);rintro e w21 ⟨rfl,hb⟩;refine ⟨_,rfl,?_⟩;have n0_ := Aside0.mk (blk_below (g := gb403) (o := .cells #[.int .i64 a0_0,.bool a0_1,.int .i64 a0_2,.string a0_3] 50 (0,0)) (by (with_reducible repeat (first | refine blk_drewN ?_ _ | refine blk_drew ?_ | refine blk_alloc ?_ _));exact BK403.out) hb);have n1_ := Aside0.mk (below_step (by repeat (first | (with_reducible first | exact HB.out | apply below_alloc | apply pw_below_drewN | apply below_drew1 | refine below_set ?_ GE403.out) | exact HB.out)) hb);clear BK403;clear HB;have BK403 := n0_;have HB := n1_;clear n0_ n1_;(try clear hb);(try clear hb2);(try clear hk);(try clear hi);have hcz22_0 : w21.cell? ⟨gb403,0,none⟩ = some (.int .i64 a0_0) := (blk_cell BK403.out 0).trans rfl;have hcz22_1 : w21.cell? ⟨gb403,1,none⟩ = some (.bool a0_1) := (blk_cell BK403.out 1).trans rfl;have hcz22_2 : w21.cell? ⟨gb403,2,none⟩ = some (.int .i64 a0_2) := (blk_cell BK403.out 2).trans rfl;have hcz22_3 : w21.cell? ⟨gb403,3,none⟩ = some (.string a0_3) := (blk_cell BK403.out 3).trans rfl;have hfz22_0 := blk_frozen BK403.out 0;have hfz22_1 := blk_frozen BK403.out 1;have hfz22_2 := blk_frozen BK403.out 2;have hfz22_3 := blk_frozen BK403.out 3) | ((with_reducible refine gate_dst (N := 20) rfl ?_);refine Kd.R_lit (Kd.int .u8) _ 5 ?hg (N := 20) ?hd (xs := ([3] : List Int)) (inner := [.int .u8 3]) (ok := fun _ => True) (okp := fun _ => True) ?hr ?hp (fun _ hk => hk) trivial (Below.refl _ _) (Nat.le_refl _) (by simp) ?_;(case hd => rfl);(case hg => rfl);(case hr => first | (go_simp;done) | (go_simp;rfl));(case hp => exact (Reps.one (show Kd.M (Kd.int .u8) _ _ _ 3 [.int .u8 3] from rfl) (Reps.none _ _)));intro v412 w23 ho24 hb hg_ hnew_;clear hg_ hnew_;(first | rw [← Ny411.out] at ho24 | (simp only [Int.reduceToNat] at ho24;rw [← Ny411.out] at ho24));have n0_ := Aside0.mk (Kd.R_lower ho24 (below_size (by repeat (first | (with_reducible first | exact HB.out | apply below_alloc | apply pw_below_drewN | apply below_drew1 | refine below_set ?_ GE403.out) | exact HB.out))));have n1_ := Aside0.mk (blk_below (g := gb403) (o := .cells #[.int .i64 a0_0,.bool a0_1,.int .i64 a0_2,.string a0_3] 50 (0,0)) (by (with_reducible repeat (first | refine blk_drewN ?_ _ | refine blk_drew ?_ | refine blk_alloc ?_ _));exact BK403.out) hb);have n2_ := Aside0.mk (below_step (by repeat (first | (with_reducible first | exact HB.out | apply below_alloc | apply pw_below_drewN | apply below_drew1 | refine below_set ?_ GE403.out) | exact HB.out)) hb);clear BK403;clear HB;have HO413 := n0_;have BK403 := n1_;have HB := n2_;clear n0_ n1_ n2_;clear hb ho24))
        go_loopg [3,4] k (fun kq v3 v4 w' => ∃ (x3_1 : List Int) (x4_1 : Int),v4 = .int .i64 x4_1 ∧ Aside0 (pack_Value.l0 kq x3_1 x4_1 a0_0 a0_1 a0_2 a0_3 = some r) ∧ Aside0 (kq ≤ k) ∧ Aside0 (Kd.R (Kd.int .u8) 5 w' w.heap.size (fun _ => True) v3 x3_1) ∧ Aside0 (w'.heap[gb403]? = some (.cells #[.int .i64 a0_0,.bool a0_1,.int .i64 a0_2,.string a0_3] 50 (0,0))) ∧ Aside0 (Below w.heap.size w w'))
        case atStart => exact ⟨(y411),(7),(by first | rfl | (simp;done) | (simp [*];done)),H',⟨Nat.le_refl _⟩,⟨by (with_reducible repeat (first | apply Kd.R_alloc | apply Kd.R_drewN | apply Kd.R_drew));exact HO413.out⟩,⟨by (with_reducible repeat (first | refine blk_drewN ?_ _ | refine blk_drew ?_ | refine blk_alloc ?_ _));exact BK403.out⟩,⟨by repeat (first | (with_reducible first | exact HB.out | apply below_alloc | apply pw_below_drewN | apply below_drew1 | refine below_set ?_ GE403.out) | exact HB.out)⟩⟩
        case round =>
          clear H'
          try clear c1
          try clear p2
          try clear c3
          try clear c4
          try clear c4b0
          try clear c4b1
          try clear c5
          try clear c18
          try clear c18b0
          try clear c18b1
          try clear hcz13_0
          try clear hcz13_1
          try clear hcz13_2
          try clear hcz13_3
          try clear hcz15_0
          try clear hcz15_1
          try clear hcz15_2
          try clear hcz15_3
          try clear hcz20_0
          try clear hcz20_1
          try clear hcz20_2
          try clear hcz20_3
          try clear hcz22_0
          try clear hcz22_1
          try clear hcz22_2
          try clear hcz22_3
          try clear hcz7_0
          try clear hcz7_1
          try clear hcz7_2
          try clear hcz7_3
          try clear hcz9_0
          try clear hcz9_1
          try clear hcz9_2
          try clear hcz9_3
          try clear hfz13_0
          try clear hfz13_1
          try clear hfz13_2
          try clear hfz13_3
          try clear hfz15_0
          try clear hfz15_1
          try clear hfz15_2
          try clear hfz15_3
          try clear hfz20_0
          try clear hfz20_1
          try clear hfz20_2
          try clear hfz20_3
          try clear hfz22_0
          try clear hfz22_1
          try clear hfz22_2
          try clear hfz22_3
          try clear hfz7_0
          try clear hfz7_1
          try clear hfz7_2
          try clear hfz7_3
          try clear hfz9_0
          try clear hfz9_1
          try clear hfz9_2
          try clear hfz9_3
          obtain ⟨x3_1,x4_1,rfl,HA,HK1,HO_3,BK403,HB⟩ := hrel
          cases gk with
          | zero => exact absurd HA.out (by simp [pack_Value.l0])
          | succ k1 =>
            have H := HA.out
            clear HA
            simp only [pack_Value.l0] at H
            by_cases c25 : x4_1 ≥ 0
            · rw [if_pos c25] at H
              have c25b0 : decide (0 ≤ x4_1) = true := decide_eq_true c25
              clear c25
              obtain ⟨ji26,hji26⟩ : ∃ j_ : Int,(wrap64 (8 * x4_1)) = j_ := ⟨_,rfl⟩
              replace H : (if 0 ≤ (ji26) then (if x3_1.length < 140737488355328 then (pack_Value.l0 k1 (x3_1 ++ [(shr .u64 (Go.bits .xor .u64 (IntKind.u64.wrap (a0_2)) 9223372036854775808) (ji26)) % 256]) (wrap64 (x4_1 - 1)) a0_0 a0_1 a0_2 a0_3) else (none)) else (none)) = some r := by first | (rw [hji26] at H;exact H) | (simp only [hji26] at H ⊢;exact H)
              have hji26w : (IntKind.i64.wrap (8 * x4_1)) = ji26 := (i64_w _).trans hji26
              by_cases c27 : 0 ≤ (ji26)
              · rw [if_pos c27] at H
                have c27b0 := eq_true c27
                have c27b1 : decide (0 ≤ (ji26)) = true := decide_eq_true c27
                clear c27
                obtain ⟨ji28,hji28⟩ : ∃ j_ : Int,(shr .u64 (Go.bits .xor .u64 (IntKind.u64.wrap (a0_2)) 9223372036854775808) (ji26)) = j_ := ⟨_,rfl⟩
                replace H : (if x3_1.length < 140737488355328 then (pack_Value.l0 k1 (x3_1 ++ [(ji28) % 256]) (wrap64 (x4_1 - 1)) a0_0 a0_1 a0_2 a0_3) else (none)) = some r := by first | (rw [hji28] at H;exact H) | (simp only [hji28] at H ⊢;exact H)
                have hji28_ : ((Go.bits .xor .u64 (IntKind.u64.wrap (a0_2)) 9223372036854775808) / 2 ^ min (ji26).toNat 64) = ji28 := hji28
                have hji28z : (ji26) ≤ 64 → ((Go.bits .xor .u64 (IntKind.u64.wrap (a0_2)) 9223372036854775808) / 2 ^ (ji26).toNat) = ji28 := shr_small hji28
                by_cases c29 : x3_1.length < 140737488355328
                · rw [if_pos c29] at H
                  have LMc29 := Aside0.mk c29
                  clear c29
                  obtain ⟨y414,hy414⟩ : ∃ y_ : List Int,y_ = (x3_1 ++ [(ji28) % 256]) := ⟨_,rfl⟩
                  replace H : (pack_Value.l0 k1 y414 (wrap64 (x4_1 - 1)) a0_0 a0_1 a0_2 a0_3) = some r := by first | (rw [hy414];with_reducible exact H) | (have H2_ := (Option.bind_some _ _).symm.trans H;rw [hy414];with_reducible exact H2_) | (have H2_ := (Option.bind_some _ _).symm.trans H;with_reducible exact H2_) | with_reducible exact H | (rw [hy414];exact H) | exact H
                  have Ny414 := Aside0.mk hy414
                  clear hy414
                  have H' := Aside0.mk H
                  clear H
                  have hcz30_0 : wr.cell? ⟨gb403,0,none⟩ = some (.int .i64 a0_0) := (blk_cell BK403.out 0).trans rfl
                  have hcz30_1 : wr.cell? ⟨gb403,1,none⟩ = some (.bool a0_1) := (blk_cell BK403.out 1).trans rfl
                  have hcz30_2 : wr.cell? ⟨gb403,2,none⟩ = some (.int .i64 a0_2) := (blk_cell BK403.out 2).trans rfl
                  have hcz30_3 : wr.cell? ⟨gb403,3,none⟩ = some (.string a0_3) := (blk_cell BK403.out 3).trans rfl
                  have hfz30_0 := blk_frozen BK403.out 0
                  have hfz30_1 := blk_frozen BK403.out 1
                  have hfz30_2 := blk_frozen BK403.out 2
                  have hfz30_3 := blk_frozen BK403.out 3
                  go_wp2_with (first | ((with_reducible refine gate_builtin (b := .append) (xs := #[.tmp 25,.tmp 34]) rfl ?_);at_builtin;refine Kd.R_append (Kd.int .u8) (w0 := w) w.heap.size rfl (.tmp 25) (.tmp 34) 47 5 (.int .u8 0) 1 rfl Try.underlying47 info5 rfl (by decide) (by omega) u3 x3_1 ((ji28) % 256) [.int .u8 ((ji28) % 256)] (fun _ => True) (fun _ => False) rfl rfl ?aP (fun _ hk => hk.elim) ?aF ?aO ?aB ?aS ?aL ?_;(case aP => exact rfl);(case aB => exact (by repeat (first | (with_reducible first | exact HB.out | apply below_alloc | apply pw_below_drewN | apply below_drew1 | refine below_set ?_ GE403.out) | exact HB.out)));(case aF => exact (fun _ _ => trivial));(case aO => exact (by (with_reducible repeat (first | apply Kd.R_alloc | apply Kd.R_drewN | apply Kd.R_drew));exact HO_3.out));(case aS => exact (below_size (by repeat (first | (with_reducible first | exact HB.out | apply below_alloc | apply pw_below_drewN | apply below_drew1 | refine below_set ?_ GE403.out) | exact HB.out))));(case aL => have := LMc29.out;omega);intro v415 w31 ho hb hg hat;rw [← Ny414.out] at ho;have n0_ := Aside0.mk (blk_grown (g := gb403) (o := .cells #[.int .i64 a0_0,.bool a0_1,.int .i64 a0_2,.string a0_3] 50 (0,0)) (by (with_reducible repeat (first | refine blk_drewN ?_ _ | refine blk_drew ?_ | refine blk_alloc ?_ _));exact BK403.out) hg (Kd.R_ne HO_3.out BK403.out (by decide)));have n1_ := Aside0.mk (hb);have n2_ := Aside0.mk (ho);clear BK403;clear HB;clear HO_3;have BK403 := n0_;have HB := n1_;have HO416 := n2_;clear n0_ n1_ n2_;clear ho hb hg hat))
                  go_roundg k1
                  case measure => have := HK1.out;omega
                  case rel => exact ⟨(y414),(wrap64 (x4_1 - 1)),(by first | rfl | (simp;done) | (simp [*];done)),H',⟨by have := HK1.out;omega⟩,⟨by (with_reducible repeat (first | apply Kd.R_alloc | apply Kd.R_drewN | apply Kd.R_drew));exact HO416.out⟩,⟨by (with_reducible repeat (first | refine blk_drewN ?_ _ | refine blk_drew ?_ | refine blk_alloc ?_ _));exact BK403.out⟩,⟨by repeat (first | (with_reducible first | exact HB.out | apply below_alloc | apply pw_below_drewN | apply below_drew1 | refine below_set ?_ GE403.out) | exact HB.out)⟩⟩
                · rw [if_neg c29] at H
                  exact absurd H (by simp)
              · rw [if_neg c27] at H
                exact absurd H (by simp)
            · rw [if_neg c25] at H
              have c25b0 : decide (0 ≤ x4_1) = false := decide_eq_false c25
              clear c25
              obtain rfl := Option.some.inj H
              go_wp2
              go_ret
              exact ⟨_,by first | rfl | (simp [errW_none,errW_some] <;> rfl) | (simp [*,errW_none,errW_some] <;> rfl),by (with_reducible repeat (first | apply Kd.R_alloc | apply Kd.R_drewN | apply Kd.R_drew));exact HO_3.out,by repeat (first | (with_reducible first | exact HB.out | apply below_alloc | apply pw_below_drewN | apply below_drew1 | refine below_set ?_ GE403.out) | exact HB.out)⟩
      · rw [if_neg c18] at H
        have c18b0 : (a0_0 == 2) = false := beq_eq_false_iff_ne.mpr c18
        have c18b1 : (a0_0 != 2) = true := bne_iff_ne.mpr c18
        by_cases c32 : a0_0 = 3
        · rw [if_pos c32] at H
          have c32b0 : (a0_0 == 3) = true := beq_iff_eq.mpr c32
          have c32b1 : (a0_0 != 3) = false := bne_eq_false_iff_eq.mpr c32
          clear c32
          obtain ⟨y417,hy417⟩ : ∃ y_ : List Int,y_ = (([4] : List Int)) := ⟨_,rfl⟩
          replace H : (pack_Value.l1 k y417 (a0_3.size : Int) 0 a0_0 a0_1 a0_2 a0_3) = some r := by first | (rw [hy417];with_reducible exact H) | (have H2_ := (Option.bind_some _ _).symm.trans H;rw [hy417];with_reducible exact H2_) | (have H2_ := (Option.bind_some _ _).symm.trans H;with_reducible exact H2_) | with_reducible exact H | (rw [hy417];exact H) | exact H
          have Ny417 := Aside0.mk hy417
          clear hy417
          have H' := Aside0.mk H
          clear H
          go_enter Try.func33,Try.ntmps33
          go_wp2_with (first | ((with_reducible refine gate_dst (N := 1) rfl ?_);refine box_event ?hg (N := 1) ?hd (cs := #[.int .i64 a0_0,.bool a0_1,.int .i64 a0_2,.string a0_3]) (t := 50) ?hr ?_;(case hd => rfl);(case hg => rfl);(case hr => first | (go_simp;done) | (go_simp;rfl));intro gb403 hg w33 hbox hb;have n0_ := Aside0.mk (below_step (by repeat (first | (with_reducible first | exact HB.out | apply below_alloc | apply pw_below_drewN | apply below_drew1) | exact HB.out)) hb);have n1_ := Aside0.mk (hbox);have n2_ := Aside0.mk ((by rw [hg];exact (below_size (by repeat (first | (with_reducible first | exact HB.out | apply below_alloc | apply pw_below_drewN | apply below_drew1) | exact HB.out))) : w.heap.size ≤ gb403));have n3_ := Aside0.mk ((by rw [hg];exact (below_size (by repeat (first | (with_reducible first | exact HB.out | apply below_alloc | apply pw_below_drewN | apply below_drew1) | exact HB.out))) : w.heap.size ≤ gb403));clear HB;have HB := n0_;have BK403 := n1_;have GW403 := n2_;have GE403 := n3_;clear n0_ n1_ n2_ n3_;clear hb hbox hg;have hcz34_0 : w33.cell? ⟨gb403,0,none⟩ = some (.int .i64 a0_0) := (blk_cell BK403.out 0).trans rfl;have hcz34_1 : w33.cell? ⟨gb403,1,none⟩ = some (.bool a0_1) := (blk_cell BK403.out 1).trans rfl;have hcz34_2 : w33.cell? ⟨gb403,2,none⟩ = some (.int .i64 a0_2) := (blk_cell BK403.out 2).trans rfl;have hcz34_3 : w33.cell? ⟨gb403,3,none⟩ = some (.string a0_3) := (blk_cell BK403.out 3).trans rfl;have hfz34_0 := blk_frozen BK403.out 0;have hfz34_1 := blk_frozen BK403.out 1;have hfz34_2 := blk_frozen BK403.out 2;have hfz34_3 := blk_frozen BK403.out 3) | ((with_reducible refine gate_callee (f := 52) rfl ?_);refine goesL_ (some 8) rfl rfl Try.func52 (by kernel_rfl) rfl #[.agg #[.int .i64 a0_0,.bool a0_1,.int .i64 a0_2,.string a0_3]] rfl (by (try simp only [List.map_toArray,List.map_cons,List.map_nil]);first | done | rfl | (simp only [List.length_drop,List.length_take];rfl)) ?_;(with_reducible refine (value_Right.calls a0_0 a0_1 a0_2 a0_3 true _ A2.out).mono ?_);rintro e w35 ⟨rfl,hb⟩;refine ⟨_,rfl,?_⟩;have n0_ := Aside0.mk (blk_below (g := gb403) (o := .cells #[.int .i64 a0_0,.bool a0_1,.int .i64 a0_2,.string a0_3] 50 (0,0)) (by (with_reducible repeat (first | refine blk_drewN ?_ _ | refine blk_drew ?_ | refine blk_alloc ?_ _));exact BK403.out) hb);have n1_ := Aside0.mk (below_step (by repeat (first | (with_reducible first | exact HB.out | apply below_alloc | apply pw_below_drewN | apply below_drew1 | refine below_set ?_ GE403.out) | exact HB.out)) hb);clear BK403;clear HB;have BK403 := n0_;have HB := n1_;clear n0_ n1_;(try clear hb);(try clear hb2);(try clear hk);(try clear hi);have hcz36_0 : w35.cell? ⟨gb403,0,none⟩ = some (.int .i64 a0_0) := (blk_cell BK403.out 0).trans rfl;have hcz36_1 : w35.cell? ⟨gb403,1,none⟩ = some (.bool a0_1) := (blk_cell BK403.out 1).trans rfl;have hcz36_2 : w35.cell? ⟨gb403,2,none⟩ = some (.int .i64 a0_2) := (blk_cell BK403.out 2).trans rfl;have hcz36_3 : w35.cell? ⟨gb403,3,none⟩ = some (.string a0_3) := (blk_cell BK403.out 3).trans rfl;have hfz36_0 := blk_frozen BK403.out 0;have hfz36_1 := blk_frozen BK403.out 1;have hfz36_2 := blk_frozen BK403.out 2;have hfz36_3 := blk_frozen BK403.out 3) | ((with_reducible refine gate_dst (N := 39) rfl ?_);refine Kd.R_lit (Kd.int .u8) _ 5 ?hg (N := 39) ?hd (xs := ([4] : List Int)) (inner := [.int .u8 4]) (ok := fun _ => True) (okp := fun _ => True) ?hr ?hp (fun _ hk => hk) trivial (Below.refl _ _) (Nat.le_refl _) (by simp) ?_;(case hd => rfl);(case hg => rfl);(case hr => first | (go_simp;done) | (go_simp;rfl));(case hp => exact (Reps.one (show Kd.M (Kd.int .u8) _ _ _ 4 [.int .u8 4] from rfl) (Reps.none _ _)));intro v418 w37 ho38 hb hg_ hnew_;clear hg_ hnew_;(first | rw [← Ny417.out] at ho38 | (simp only [Int.reduceToNat] at ho38;rw [← Ny417.out] at ho38));have n0_ := Aside0.mk (Kd.R_lower ho38 (below_size (by repeat (first | (with_reducible first | exact HB.out | apply below_alloc | apply pw_below_drewN | apply below_drew1 | refine below_set ?_ GE403.out) | exact HB.out))));have n1_ := Aside0.mk (blk_below (g := gb403) (o := .cells #[.int .i64 a0_0,.bool a0_1,.int .i64 a0_2,.string a0_3] 50 (0,0)) (by (with_reducible repeat (first | refine blk_drewN ?_ _ | refine blk_drew ?_ | refine blk_alloc ?_ _));exact BK403.out) hb);have n2_ := Aside0.mk (below_step (by repeat (first | (with_reducible first | exact HB.out | apply below_alloc | apply pw_below_drewN | apply below_drew1 | refine below_set ?_ GE403.out) | exact HB.out)) hb);clear BK403;clear HB;have HO419 := n0_;have BK403 := n1_;have HB := n2_;clear n0_ n1_ n2_;clear hb ho38;have hcz39_0 : w37.cell? ⟨gb403,0,none⟩ = some (.int .i64 a0_0) := (blk_cell BK403.out 0).trans rfl;have hcz39_1 : w37.cell? ⟨gb403,1,none⟩ = some (.bool a0_1) := (blk_cell BK403.out 1).trans rfl;have hcz39_2 : w37.cell? ⟨gb403,2,none⟩ = some (.int .i64 a0_2) := (blk_cell BK403.out 2).trans rfl;have hcz39_3 : w37.cell? ⟨gb403,3,none⟩ = some (.string a0_3) := (blk_cell BK403.out 3).trans rfl;have hfz39_0 := blk_frozen BK403.out 0;have hfz39_1 := blk_frozen BK403.out 1;have hfz39_2 := blk_frozen BK403.out 2;have hfz39_3 := blk_frozen BK403.out 3))
          go_loopg [5,43] k (fun kq v5 v43 w' => ∃ (x5_1 : List Int) (x43_1 : Int),v43 = .int .i64 x43_1 ∧ Aside0 (pack_Value.l1 kq x5_1 (a0_3.size : Int) x43_1 a0_0 a0_1 a0_2 a0_3 = some r) ∧ Aside0 (kq ≤ k) ∧ Aside0 (Kd.R (Kd.int .u8) 5 w' w.heap.size (fun _ => True) v5 x5_1) ∧ Aside0 (w'.heap[gb403]? = some (.cells #[.int .i64 a0_0,.bool a0_1,.int .i64 a0_2,.string a0_3] 50 (0,0))) ∧ Aside0 (Below w.heap.size w w'))
          case atStart => exact ⟨(y417),(0),(by first | rfl | (simp;done) | (simp [*];done)),H',⟨Nat.le_refl _⟩,⟨by (with_reducible repeat (first | apply Kd.R_alloc | apply Kd.R_drewN | apply Kd.R_drew));exact HO419.out⟩,⟨by (with_reducible repeat (first | refine blk_drewN ?_ _ | refine blk_drew ?_ | refine blk_alloc ?_ _));exact BK403.out⟩,⟨by repeat (first | (with_reducible first | exact HB.out | apply below_alloc | apply pw_below_drewN | apply below_drew1 | refine below_set ?_ GE403.out) | exact HB.out)⟩⟩
          case round =>
            clear H'
            try clear c1
            try clear c2
            try clear p2
            try clear c3
            try clear c4
            try clear c4b0
            try clear c4b1
            try clear c5
            try clear p6
            try clear c18
            try clear c18b0
            try clear c18b1
            try clear c25
            try clear c25b0
            try clear c27
            try clear c27b0
            try clear c27b1
            try clear c29
            try clear c32
            try clear c32b0
            try clear c32b1
            try clear c33
            try clear hcz13_0
            try clear hcz13_1
            try clear hcz13_2
            try clear hcz13_3
            try clear hcz15_0
            try clear hcz15_1
            try clear hcz15_2
            try clear hcz15_3
            try clear hcz20_0
            try clear hcz20_1
            try clear hcz20_2
            try clear hcz20_3
            try clear hcz22_0
            try clear hcz22_1
            try clear hcz22_2
            try clear hcz22_3
            try clear hcz30_0
            try clear hcz30_1
            try clear hcz30_2
            try clear hcz30_3
            try clear hcz34_0
            try clear hcz34_1
            try clear hcz34_2
            try clear hcz34_3
            try clear hcz36_0
            try clear hcz36_1
            try clear hcz36_2
            try clear hcz36_3
            try clear hcz39_0
            try clear hcz39_1
            try clear hcz39_2
            try clear hcz39_3
            try clear hcz7_0
            try clear hcz7_1
            try clear hcz7_2
            try clear hcz7_3
            try clear hcz9_0
            try clear hcz9_1
            try clear hcz9_2
            try clear hcz9_3
            try clear hfz13_0
            try clear hfz13_1
            try clear hfz13_2
            try clear hfz13_3
            try clear hfz15_0
            try clear hfz15_1
            try clear hfz15_2
            try clear hfz15_3
            try clear hfz20_0
            try clear hfz20_1
            try clear hfz20_2
            try clear hfz20_3
            try clear hfz22_0
            try clear hfz22_1
            try clear hfz22_2
            try clear hfz22_3
            try clear hfz30_0
            try clear hfz30_1
            try clear hfz30_2
            try clear hfz30_3
            try clear hfz34_0
            try clear hfz34_1
            try clear hfz34_2
            try clear hfz34_3
            try clear hfz36_0
            try clear hfz36_1
            try clear hfz36_2
            try clear hfz36_3
            try clear hfz39_0
            try clear hfz39_1
            try clear hfz39_2
            try clear hfz39_3
            try clear hfz7_0
            try clear hfz7_1
            try clear hfz7_2
            try clear hfz7_3
            try clear hfz9_0
            try clear hfz9_1
            try clear hfz9_2
            try clear hfz9_3
            try clear p2
            obtain ⟨x5_1,x43_1,rfl,HA,HK1,HO_5,BK403,HB⟩ := hrel
            cases gk with
            | zero => exact absurd HA.out (by simp [pack_Value.l1])
            | succ k1 =>
              have H := HA.out
              clear HA
              simp only [pack_Value.l1] at H
              by_cases c40 : x43_1 < (a0_3.size : Int)
              · rw [if_pos c40] at H
                have c40b0 : decide (x43_1 < (a0_3.size : Int)) = true := decide_eq_true c40
                clear c40
                by_cases c41 : 0 ≤ x43_1
                · rw [if_pos c41] at H
                  have c41b0 : decide (0 ≤ x43_1) = true := decide_eq_true c41
                  clear c41
                  by_cases c42 : x43_1 < (a0_3.size : Int)
                  · rw [if_pos c42] at H
                    have c42b0 : decide (x43_1 < (a0_3.size : Int)) = true := decide_eq_true c42
                    clear c42
                    by_cases c44 : x5_1.length < 140737488355328
                    · rw [if_pos c44] at H
                      have LMc44 := Aside0.mk c44
                      clear c44
                      obtain ⟨y420,hy420⟩ : ∃ y_ : List Int,y_ = (x5_1 ++ [bt a0_3 x43_1]) := ⟨_,rfl⟩
                      replace H : (if (bt a0_3 x43_1) = 0 then (if y420.length < 140737488355328 then (pack_Value.l1 k1 (y420 ++ [255]) (a0_3.size : Int) (wrap64 (x43_1 + 1)) a0_0 a0_1 a0_2 a0_3) else (none)) else (pack_Value.l1 k1 y420 (a0_3.size : Int) (wrap64 (x43_1 + 1)) a0_0 a0_1 a0_2 a0_3)) = some r := by first | (rw [hy420];with_reducible exact H) | (have H2_ := (Option.bind_some _ _).symm.trans H;rw [hy420];with_reducible exact H2_) | (have H2_ := (Option.bind_some _ _).symm.trans H;with_reducible exact H2_) | with_reducible exact H | (rw [hy420];exact H) | exact H
                      have Ny420 := Aside0.mk hy420
                      clear hy420
                      by_cases c46 : (bt a0_3 x43_1) = 0
                      · rw [if_pos c46] at H
                        have c46b0 : ((bt a0_3 x43_1) == 0) = true := beq_iff_eq.mpr c46
                        have c46b1 : ((bt a0_3 x43_1) != 0) = false := bne_eq_false_iff_eq.mpr c46
                        clear c46
                        by_cases c47 : y420.length < 140737488355328
                        · rw [if_pos c47] at H
                          have LMc47 := Aside0.mk c47
                          clear c47
                          obtain ⟨y423,hy423⟩ : ∃ y_ : List Int,y_ = (y420 ++ [255]) := ⟨_,rfl⟩
                          replace H : (pack_Value.l1 k1 y423 (a0_3.size : Int) (wrap64 (x43_1 + 1)) a0_0 a0_1 a0_2 a0_3) = some r := by first | (rw [hy423];with_reducible exact H) | (have H2_ := (Option.bind_some _ _).symm.trans H;rw [hy423];with_reducible exact H2_) | (have H2_ := (Option.bind_some _ _).symm.trans H;with_reducible exact H2_) | with_reducible exact H | (rw [hy423];exact H) | exact H
                          have Ny423 := Aside0.mk hy423
                          clear hy423
                          have H' := Aside0.mk H
                          clear H
                          have hcz48_0 : wr.cell? ⟨gb403,0,none⟩ = some (.int .i64 a0_0) := (blk_cell BK403.out 0).trans rfl
                          have hcz48_1 : wr.cell? ⟨gb403,1,none⟩ = some (.bool a0_1) := (blk_cell BK403.out 1).trans rfl
                          have hcz48_2 : wr.cell? ⟨gb403,2,none⟩ = some (.int .i64 a0_2) := (blk_cell BK403.out 2).trans rfl
                          have hcz48_3 : wr.cell? ⟨gb403,3,none⟩ = some (.string a0_3) := (blk_cell BK403.out 3).trans rfl
                          have hfz48_0 := blk_frozen BK403.out 0
                          have hfz48_1 := blk_frozen BK403.out 1
                          have hfz48_2 := blk_frozen BK403.out 2
                          have hfz48_3 := blk_frozen BK403.out 3
                          have p43 : 0 ≤ (x43_1 : Int) := of_decide_eq_true (by first | (with_reducible assumption) | assumption)
                          have q43 : x43_1 < (a0_3.size : Int) := of_decide_eq_true (by first | (with_reducible assumption) | assumption)
                          have hx43 := bt_at a0_3 x43_1
                          replace p43 := eq_true p43
                          replace q43 := eq_true q43
                          go_wp2_with (first | ((with_reducible refine gate_builtin (b := .append) (xs := #[.tmp 46,.tmp 51]) rfl ?_);at_builtin;refine Kd.R_append (Kd.int .u8) (w0 := w) w.heap.size rfl (.tmp 46) (.tmp 51) 47 5 (.int .u8 0) 1 rfl Try.underlying47 info5 rfl (by decide) (by omega) u5 x5_1 (bt a0_3 x43_1) [.int .u8 (bt a0_3 x43_1)] (fun _ => True) (fun _ => False) rfl rfl ?aP (fun _ hk => hk.elim) ?aF ?aO ?aB ?aS ?aL ?_;(case aP => exact rfl);(case aB => exact (by repeat (first | (with_reducible first | exact HB.out | apply below_alloc | apply pw_below_drewN | apply below_drew1 | refine below_set ?_ GE403.out) | exact HB.out)));(case aF => exact (fun _ _ => trivial));(case aO => exact (by (with_reducible repeat (first | apply Kd.R_alloc | apply Kd.R_drewN | apply Kd.R_drew));exact HO_5.out));(case aS => exact (below_size (by repeat (first | (with_reducible first | exact HB.out | apply below_alloc | apply pw_below_drewN | apply below_drew1 | refine below_set ?_ GE403.out) | exact HB.out))));(case aL => have := LMc44.out;omega);intro v421 w49 ho hb hg hat;rw [← Ny420.out] at ho;have n0_ := Aside0.mk (blk_grown (g := gb403) (o := .cells #[.int .i64 a0_0,.bool a0_1,.int .i64 a0_2,.string a0_3] 50 (0,0)) (by (with_reducible repeat (first | refine blk_drewN ?_ _ | refine blk_drew ?_ | refine blk_alloc ?_ _));exact BK403.out) hg (Kd.R_ne HO_5.out BK403.out (by decide)));have n1_ := Aside0.mk (hb);have n2_ := Aside0.mk (ho);clear BK403;clear HB;clear HO_5;have BK403 := n0_;have HB := n1_;have HO422 := n2_;clear n0_ n1_ n2_;clear ho hb hg hat;have hcz50_0 : w49.cell? ⟨gb403,0,none⟩ = some (.int .i64 a0_0) := (blk_cell BK403.out 0).trans rfl;have hcz50_1 : w49.cell? ⟨gb403,1,none⟩ = some (.bool a0_1) := (blk_cell BK403.out 1).trans rfl;have hcz50_2 : w49.cell? ⟨gb403,2,none⟩ = some (.int .i64 a0_2) := (blk_cell BK403.out 2).trans rfl;have hcz50_3 : w49.cell? ⟨gb403,3,none⟩ = some (.string a0_3) := (blk_cell BK403.out 3).trans rfl;have hfz50_0 := blk_frozen BK403.out 0;have hfz50_1 := blk_frozen BK403.out 1;have hfz50_2 := blk_frozen BK403.out 2;have hfz50_3 := blk_frozen BK403.out 3;have p45 : 0 ≤ (x43_1 : Int) := of_decide_eq_true (by first | (with_reducible assumption) | assumption);have q45 : x43_1 < (a0_3.size : Int) := of_decide_eq_true (by first | (with_reducible assumption) | assumption);have hx45 := bt_at a0_3 x43_1;replace p45 := eq_true p45;replace q45 := eq_true q45) | ((with_reducible refine gate_builtin (b := .append) (xs := #[.tmp 58,.tmp 59]) rfl ?_);at_builtin;refine Kd.R_append (Kd.int .u8) (w0 := w) w.heap.size rfl (.tmp 58) (.tmp 59) 47 5 (.int .u8 0) 1 rfl Try.underlying47 info5 rfl (by decide) (by omega) v421 y420 255 [.int .u8 255] (fun _ => True) (fun _ => False) rfl rfl ?aP (fun _ hk => hk.elim) ?aF ?aO ?aB ?aS ?aL ?_;(case aP => exact rfl);(case aB => exact (by repeat (first | (with_reducible first | exact HB.out | apply below_alloc | apply pw_below_drewN | apply below_drew1 | refine below_set ?_ GE403.out) | exact HB.out)));(case aF => exact (fun _ _ => trivial));(case aO => exact (by (with_reducible repeat (first | apply Kd.R_alloc | apply Kd.R_drewN | apply Kd.R_drew));exact HO422.out));(case aS => exact (below_size (by repeat (first | (with_reducible first | exact HB.out | apply below_alloc | apply pw_below_drewN | apply below_drew1 | refine below_set ?_ GE403.out) | exact HB.out))));(case aL => have := LMc47.out;omega);intro v424 w51 ho hb hg hat;rw [← Ny423.out] at ho;have n0_ := Aside0.mk (blk_grown (g := gb403) (o := .cells #[.int .i64 a0_0,.bool a0_1,.int .i64 a0_2,.string a0_3] 50 (0,0)) (by (with_reducible repeat (first | refine blk_drewN ?_ _ | refine blk_drew ?_ | refine blk_alloc ?_ _));exact BK403.out) hg (Kd.R_ne HO422.out BK403.out (by decide)));have n1_ := Aside0.mk (hb);have n2_ := Aside0.mk (ho);clear BK403;clear HB;clear HO422;have BK403 := n0_;have HB := n1_;have HO425 := n2_;clear n0_ n1_ n2_;clear ho hb hg hat))
                          go_roundg k1
                          case measure => have := HK1.out;omega
                          case rel => exact ⟨(y423),(wrap64 (x43_1 + 1)),(by first | rfl | (simp;done) | (simp [*];done)),H',⟨by have := HK1.out;omega⟩,⟨by (with_reducible repeat (first | apply Kd.R_alloc | apply Kd.R_drewN | apply Kd.R_drew));exact HO425.out⟩,⟨by (with_reducible repeat (first | refine blk_drewN ?_ _ | refine blk_drew ?_ | refine blk_alloc ?_ _));exact BK403.out⟩,⟨by repeat (first | (with_reducible first | exact HB.out | apply below_alloc | apply pw_below_drewN | apply below_drew1 | refine below_set ?_ GE403.out) | exact HB.out)⟩⟩
                        · rw [if_neg c47] at H
                          exact absurd H (by simp)
                      · rw [if_neg c46] at H
                        have c46b0 : ((bt a0_3 x43_1) == 0) = false := beq_eq_false_iff_ne.mpr c46
                        have c46b1 : ((bt a0_3 x43_1) != 0) = true := bne_iff_ne.mpr c46
                        have H' := Aside0.mk H
                        clear H
                        have hcz52_0 : wr.cell? ⟨gb403,0,none⟩ = some (.int .i64 a0_0) := (blk_cell BK403.out 0).trans rfl
                        have hcz52_1 : wr.cell? ⟨gb403,1,none⟩ = some (.bool a0_1) := (blk_cell BK403.out 1).trans rfl
                        have hcz52_2 : wr.cell? ⟨gb403,2,none⟩ = some (.int .i64 a0_2) := (blk_cell BK403.out 2).trans rfl
                        have hcz52_3 : wr.cell? ⟨gb403,3,none⟩ = some (.string a0_3) := (blk_cell BK403.out 3).trans rfl
                        have hfz52_0 := blk_frozen BK403.out 0
                        have hfz52_1 := blk_frozen BK403.out 1
                        have hfz52_2 := blk_frozen BK403.out 2
                        have hfz52_3 := blk_frozen BK403.out 3
                        have p43 : 0 ≤ (x43_1 : Int) := of_decide_eq_true (by first | (with_reducible assumption) | assumption)
                        have q43 : x43_1 < (a0_3.size : Int) := of_decide_eq_true (by first | (with_reducible assumption) | assumption)
                        have hx43 := bt_at a0_3 x43_1
                        replace p43 := eq_true p43
                        replace q43 := eq_true q43
                        go_wp2_with (first | ((with_reducible refine gate_builtin (b := .append) (xs := #[.tmp 46,.tmp 51]) rfl ?_);at_builtin;refine Kd.R_append (Kd.int .u8) (w0 := w) w.heap.size rfl (.tmp 46) (.tmp 51) 47 5 (.int .u8 0) 1 rfl Try.underlying47 info5 rfl (by decide) (by omega) u5 x5_1 (bt a0_3 x43_1) [.int .u8 (bt a0_3 x43_1)] (fun _ => True) (fun _ => False) rfl rfl ?aP (fun _ hk => hk.elim) ?aF ?aO ?aB ?aS ?aL ?_;(case aP => exact rfl);(case aB => exact (by repeat (first | (with_reducible first | exact HB.out | apply below_alloc | apply pw_below_drewN | apply below_drew1 | refine below_set ?_ GE403.out) | exact HB.out)));(case aF => exact (fun _ _ => trivial));(case aO => exact (by (with_reducible repeat (first | apply Kd.R_alloc | apply Kd.R_drewN | apply Kd.R_drew));exact HO_5.out));(case aS => exact (below_size (by repeat (first | (with_reducible first | exact HB.out | apply below_alloc | apply pw_below_drewN | apply below_drew1 | refine below_set ?_ GE403.out) | exact HB.out))));(case aL => have := LMc44.out;omega);intro v421 w53 ho hb hg hat;rw [← Ny420.out] at ho;have n0_ := Aside0.mk (blk_grown (g := gb403) (o := .cells #[.int .i64 a0_0,.bool a0_1,.int .i64 a0_2,.string a0_3] 50 (0,0)) (by (with_reducible repeat (first | refine blk_drewN ?_ _ | refine blk_drew ?_ | refine blk_alloc ?_ _));exact BK403.out) hg (Kd.R_ne HO_5.out BK403.out (by decide)));have n1_ := Aside0.mk (hb);have n2_ := Aside0.mk (ho);clear BK403;clear HB;clear HO_5;have BK403 := n0_;have HB := n1_;have HO422 := n2_;clear n0_ n1_ n2_;clear ho hb hg hat;have hcz54_0 : w53.cell? ⟨gb403,0,none⟩ = some (.int .i64 a0_0) := (blk_cell BK403.out 0).trans rfl;have hcz54_1 : w53.cell? ⟨gb403,1,none⟩ = some (.bool a0_1) := (blk_cell BK403.out 1).trans rfl;have hcz54_2 : w53.cell? ⟨gb403,2,none⟩ = some (.int .i64 a0_2) := (blk_cell BK403.out 2).trans rfl;have hcz54_3 : w53.cell? ⟨gb403,3,none⟩ = some (.string a0_3) := (blk_cell BK403.out 3).trans rfl;have hfz54_0 := blk_frozen BK403.out 0;have hfz54_1 := blk_frozen BK403.out 1;have hfz54_2 := blk_frozen BK403.out 2;have hfz54_3 := blk_frozen BK403.out 3;have p45 : 0 ≤ (x43_1 : Int) := of_decide_eq_true (by first | (with_reducible assumption) | assumption);have q45 : x43_1 < (a0_3.size : Int) := of_decide_eq_true (by first | (with_reducible assumption) | assumption);have hx45 := bt_at a0_3 x43_1;replace p45 := eq_true p45;replace q45 := eq_true q45))
                        go_roundg k1
                        case measure => have := HK1.out;omega
                        case rel => exact ⟨(y420),(wrap64 (x43_1 + 1)),(by first | rfl | (simp;done) | (simp [*];done)),H',⟨by have := HK1.out;omega⟩,⟨by (with_reducible repeat (first | apply Kd.R_alloc | apply Kd.R_drewN | apply Kd.R_drew));exact HO422.out⟩,⟨by (with_reducible repeat (first | refine blk_drewN ?_ _ | refine blk_drew ?_ | refine blk_alloc ?_ _));exact BK403.out⟩,⟨by repeat (first | (with_reducible first | exact HB.out | apply below_alloc | apply pw_below_drewN | apply below_drew1 | refine below_set ?_ GE403.out) | exact HB.out)⟩⟩
                    · rw [if_neg c44] at H
                      exact absurd H (by simp)
                  · rw [if_neg c42] at H
                    exact absurd H (by simp)
                · rw [if_neg c41] at H
                  exact absurd H (by simp)
              · rw [if_neg c40] at H
                have c40b0 : decide (x43_1 < (a0_3.size : Int)) = false := decide_eq_false c40
                clear c40
                obtain ⟨y426,hy426⟩ : ∃ y_ : List Int,y_ = (([0,1] : List Int)) := ⟨_,rfl⟩
                replace H : (if x5_1.length + y426.length < 140737488355328 then (some (x5_1 ++ y426)) else (none)) = some r := by first | (rw [hy426];with_reducible exact H) | (have H2_ := (Option.bind_some _ _).symm.trans H;rw [hy426];with_reducible exact H2_) | (have H2_ := (Option.bind_some _ _).symm.trans H;with_reducible exact H2_) | with_reducible exact H | (rw [hy426];exact H) | exact H
                have Ny426 := Aside0.mk hy426
                clear hy426
                by_cases c55 : x5_1.length + y426.length < 140737488355328
                · rw [if_pos c55] at H
                  have LMc55 := Aside0.mk c55
                  clear c55
                  obtain ⟨y429,hy429⟩ : ∃ y_ : List Int,y_ = (x5_1 ++ y426) := ⟨_,rfl⟩
                  replace H : (some y429) = some r := by first | (rw [hy429];with_reducible exact H) | (have H2_ := (Option.bind_some _ _).symm.trans H;rw [hy429];with_reducible exact H2_) | (have H2_ := (Option.bind_some _ _).symm.trans H;with_reducible exact H2_) | with_reducible exact H | (rw [hy429];exact H) | exact H
                  have Ny429 := Aside0.mk hy429
                  clear hy429
                  obtain rfl := Option.some.inj H
                  go_wp2_with (first | ((with_reducible refine gate_dst (N := 63) rfl ?_);refine Kd.R_lit (Kd.int .u8) _ 5 ?hg (N := 63) ?hd (xs := ([0,1] : List Int)) (inner := [.int .u8 0,.int .u8 1]) (ok := fun _ => True) (okp := fun _ => True) ?hr ?hp (fun _ hk => hk) trivial (Below.refl _ _) (Nat.le_refl _) (by simp) ?_;(case hd => rfl);(case hg => rfl);(case hr => first | (go_simp;done) | (go_simp;rfl));(case hp => exact (Reps.one (show Kd.M (Kd.int .u8) _ _ _ 0 [.int .u8 0] from rfl) (Reps.one (show Kd.M (Kd.int .u8) _ _ _ 1 [.int .u8 1] from rfl) (Reps.none _ _))));intro v427 w56 ho57 hb hg_ hnew_;clear hg_ hnew_;(first | rw [← Ny426.out] at ho57 | (simp only [Int.reduceToNat] at ho57;rw [← Ny426.out] at ho57));have n0_ := Aside0.mk (Kd.R_elder' (by (with_reducible repeat (first | apply Kd.R_alloc | apply Kd.R_drewN | apply Kd.R_drew));exact HO_5.out) (Kd.R_base ho57) hb);have n1_ := Aside0.mk (Kd.R_lower (Kd.R_new' ho57 (Kd.R_lt (by (with_reducible repeat (first | apply Kd.R_alloc | apply Kd.R_drewN | apply Kd.R_drew));exact HO_5.out))) (below_size (by repeat (first | (with_reducible first | exact HB.out | apply below_alloc | apply pw_below_drewN | apply below_drew1 | refine below_set ?_ GE403.out) | exact HB.out))));have n2_ := Aside0.mk (blk_below (g := gb403) (o := .cells #[.int .i64 a0_0,.bool a0_1,.int .i64 a0_2,.string a0_3] 50 (0,0)) (by (with_reducible repeat (first | refine blk_drewN ?_ _ | refine blk_drew ?_ | refine blk_alloc ?_ _));exact BK403.out) hb);have n3_ := Aside0.mk (below_step (by repeat (first | (with_reducible first | exact HB.out | apply below_alloc | apply pw_below_drewN | apply below_drew1 | refine below_set ?_ GE403.out) | exact HB.out)) hb);clear HO_5;clear BK403;clear HB;have HO_5 := n0_;have HO428 := n1_;have BK403 := n2_;have HB := n3_;clear n0_ n1_ n2_ n3_;clear hb ho57;obtain ⟨Ao59,co59,eo59⟩ := Kd.R_slice HO428.out;subst eo59) | ((with_reducible refine gate_builtin (b := .append) (xs := #[.tmp 62,.tmp 63]) rfl ?_);at_builtin;refine Kd.R_append_rows (Kd.int .u8) (w0 := w) w.heap.size rfl (.tmp 62) (.tmp 63) 47 5 (.int .u8 0) 1 rfl Try.underlying47 info5 rfl (by decide) (by omega) u5 x5_1 y426 _ _ _ (fun k_ => some k_ ≠ (.slice Ao59 y426.length co59 : Value).ownBlock) (fun _ => False) rfl rfl ?aO ?aR (fun _ _ h => h) (fun _ h => h.elim) ?aF ?aB ?aS ?aL ?_;(case aR => repeat (first | exact (Kd.R_reads' HO428.out).2.2 | (with_reducible refine Kd.C_alloc ?_ _) | (with_reducible refine Kd.C_drewN ?_ _) | (with_reducible refine Kd.C_drew ?_)));(case aB => exact (by repeat (first | (with_reducible first | exact HB.out | apply below_alloc | apply pw_below_drewN | apply below_drew1 | refine below_set ?_ GE403.out) | exact HB.out)));(case aF => exact (fun k_ hk => Kd.fresh' (Kd.R_lt (by (with_reducible repeat (first | apply Kd.R_alloc | apply Kd.R_drewN | apply Kd.R_drew));exact HO428.out)) k_ hk));(case aO => exact (by (with_reducible repeat (first | apply Kd.R_alloc | apply Kd.R_drewN | apply Kd.R_drew));exact Kd.R_mono HO_5.out (fun _ hk => hk.2)));(case aS => exact (below_size (by repeat (first | (with_reducible first | exact HB.out | apply below_alloc | apply pw_below_drewN | apply below_drew1 | refine below_set ?_ GE403.out) | exact HB.out))));(case aL => have := LMc55.out;omega);intro v430 w58 ho hb hg hat;rw [← Ny429.out] at ho;have n0_ := Aside0.mk (blk_grown (g := gb403) (o := .cells #[.int .i64 a0_0,.bool a0_1,.int .i64 a0_2,.string a0_3] 50 (0,0)) (by (with_reducible repeat (first | refine blk_drewN ?_ _ | refine blk_drew ?_ | refine blk_alloc ?_ _));exact BK403.out) hg (Kd.R_ne HO_5.out BK403.out (by decide)));have n1_ := Aside0.mk (Kd.R_after (ok := (fun _ => True)) (by (with_reducible repeat (first | apply Kd.R_alloc | apply Kd.R_drewN | apply Kd.R_drew));exact HO428.out) hg hat);have n2_ := Aside0.mk (hb);have n3_ := Aside0.mk (ho);clear BK403;clear HO428;clear HB;clear HO_5;have BK403 := n0_;have HO428 := n1_;have HB := n2_;have HO431 := n3_;clear n0_ n1_ n2_ n3_;clear ho hb hg hat))
                  go_ret
                  exact ⟨_,by first | rfl | (simp [errW_none,errW_some] <;> rfl) | (simp [*,errW_none,errW_some] <;> rfl),by (with_reducible repeat (first | apply Kd.R_alloc | apply Kd.R_drewN | apply Kd.R_drew));exact Kd.R_mono HO431.out (fun _ hk => trivial),by repeat (first | (with_reducible first | exact HB.out | apply below_alloc | apply pw_below_drewN | apply below_drew1 | refine below_set ?_ GE403.out) | exact HB.out)⟩
                · rw [if_neg c55] at H
                  exact absurd H (by simp)
        · rw [if_neg c32] at H
          have c32b0 : (a0_0 == 3) = false := beq_eq_false_iff_ne.mpr c32
          have c32b1 : (a0_0 != 3) = true := bne_iff_ne.mpr c32
          obtain ⟨y432,hy432⟩ : ∃ y_ : List Int,y_ = (([1] : List Int)) := ⟨_,rfl⟩
          replace H : (some y432) = some r := by first | (rw [hy432];with_reducible exact H) | (have H2_ := (Option.bind_some _ _).symm.trans H;rw [hy432];with_reducible exact H2_) | (have H2_ := (Option.bind_some _ _).symm.trans H;with_reducible exact H2_) | with_reducible exact H | (rw [hy432];exact H) | exact H
          have Ny432 := Aside0.mk hy432
          clear hy432
          obtain rfl := Option.some.inj H
          go_enter Try.func33,Try.ntmps33
          go_wp2_with (first | ((with_reducible refine gate_dst (N := 1) rfl ?_);refine box_event ?hg (N := 1) ?hd (cs := #[.int .i64 a0_0,.bool a0_1,.int .i64 a0_2,.string a0_3]) (t := 50) ?hr ?_;(case hd => rfl);(case hg => rfl);(case hr => first | (go_simp;done) | (go_simp;rfl));intro gb403 hg w60 hbox hb;have n0_ := Aside0.mk (below_step (by repeat (first | (with_reducible first | exact HB.out | apply below_alloc | apply pw_below_drewN | apply below_drew1) | exact HB.out)) hb);have n1_ := Aside0.mk (hbox);have n2_ := Aside0.mk ((by rw [hg];exact (below_size (by repeat (first | (with_reducible first | exact HB.out | apply below_alloc | apply pw_below_drewN | apply below_drew1) | exact HB.out))) : w.heap.size ≤ gb403));have n3_ := Aside0.mk ((by rw [hg];exact (below_size (by repeat (first | (with_reducible first | exact HB.out | apply below_alloc | apply pw_below_drewN | apply below_drew1) | exact HB.out))) : w.heap.size ≤ gb403));clear HB;have HB := n0_;have BK403 := n1_;have GW403 := n2_;have GE403 := n3_;clear n0_ n1_ n2_ n3_;clear hb hbox hg;have hcz61_0 : w60.cell? ⟨gb403,0,none⟩ = some (.int .i64 a0_0) := (blk_cell BK403.out 0).trans rfl;have hcz61_1 : w60.cell? ⟨gb403,1,none⟩ = some (.bool a0_1) := (blk_cell BK403.out 1).trans rfl;have hcz61_2 : w60.cell? ⟨gb403,2,none⟩ = some (.int .i64 a0_2) := (blk_cell BK403.out 2).trans rfl;have hcz61_3 : w60.cell? ⟨gb403,3,none⟩ = some (.string a0_3) := (blk_cell BK403.out 3).trans rfl;have hfz61_0 := blk_frozen BK403.out 0;have hfz61_1 := blk_frozen BK403.out 1;have hfz61_2 := blk_frozen BK403.out 2;have hfz61_3 := blk_frozen BK403.out 3) | ((with_reducible refine gate_callee (f := 52) rfl ?_);refine goesL_ (some 8) rfl rfl Try.func52 (by kernel_rfl) rfl #[.agg #[.int .i64 a0_0,.bool a0_1,.int .i64 a0_2,.string a0_3]] rfl (by (try simp only [List.map_toArray,List.map_cons,List.map_nil]);first | done | rfl | (simp only [List.length_drop,List.length_take];rfl)) ?_;(with_reducible refine (value_Right.calls a0_0 a0_1 a0_2 a0_3 true _ A2.out).mono ?_);rintro e w62 ⟨rfl,hb⟩;refine ⟨_,rfl,?_⟩;have n0_ := Aside0.mk (blk_below (g := gb403) (o := .cells #[.int .i64 a0_0,.bool a0_1,.int .i64 a0_2,.string a0_3] 50 (0,0)) (by (with_reducible repeat (first | refine blk_drewN ?_ _ | refine blk_drew ?_ | refine blk_alloc ?_ _));exact BK403.out) hb);have n1_ := Aside0.mk (below_step (by repeat (first | (with_reducible first | exact HB.out | apply below_alloc | apply pw_below_drewN | apply below_drew1 | refine below_set ?_ GE403.out) | exact HB.out)) hb);clear BK403;clear HB;have BK403 := n0_;have HB := n1_;clear n0_ n1_;(try clear hb);(try clear hb2);(try clear hk);(try clear hi);have hcz63_0 : w62.cell? ⟨gb403,0,none⟩ = some (.int .i64 a0_0) := (blk_cell BK403.out 0).trans rfl;have hcz63_1 : w62.cell? ⟨gb403,1,none⟩ = some (.bool a0_1) := (blk_cell BK403.out 1).trans rfl;have hcz63_2 : w62.cell? ⟨gb403,2,none⟩ = some (.int .i64 a0_2) := (blk_cell BK403.out 2).trans rfl;have hcz63_3 : w62.cell? ⟨gb403,3,none⟩ = some (.string a0_3) := (blk_cell BK403.out 3).trans rfl;have hfz63_0 := blk_frozen BK403.out 0;have hfz63_1 := blk_frozen BK403.out 1;have hfz63_2 := blk_frozen BK403.out 2;have hfz63_3 := blk_frozen BK403.out 3) | ((with_reducible refine gate_dst (N := 65) rfl ?_);refine Kd.R_lit (Kd.int .u8) _ 5 ?hg (N := 65) ?hd (xs := ([1] : List Int)) (inner := [.int .u8 1]) (ok := fun _ => True) (okp := fun _ => True) ?hr ?hp (fun _ hk => hk) trivial (Below.refl _ _) (Nat.le_refl _) (by simp) ?_;(case hd => rfl);(case hg => rfl);(case hr => first | (go_simp;done) | (go_simp;rfl));(case hp => exact (Reps.one (show Kd.M (Kd.int .u8) _ _ _ 1 [.int .u8 1] from rfl) (Reps.none _ _)));intro v433 w64 ho65 hb hg_ hnew_;clear hg_ hnew_;(first | rw [← Ny432.out] at ho65 | (simp only [Int.reduceToNat] at ho65;rw [← Ny432.out] at ho65));have n0_ := Aside0.mk (Kd.R_lower ho65 (below_size (by repeat (first | (with_reducible first | exact HB.out | apply below_alloc | apply pw_below_drewN | apply below_drew1 | refine below_set ?_ GE403.out) | exact HB.out))));have n1_ := Aside0.mk (blk_below (g := gb403) (o := .cells #[.int .i64 a0_0,.bool a0_1,.int .i64 a0_2,.string a0_3] 50 (0,0)) (by (with_reducible repeat (first | refine blk_drewN ?_ _ | refine blk_drew ?_ | refine blk_alloc ?_ _));exact BK403.out) hb);have n2_ := Aside0.mk (below_step (by repeat (first | (with_reducible first | exact HB.out | apply below_alloc | apply pw_below_drewN | apply below_drew1 | refine below_set ?_ GE403.out) | exact HB.out)) hb);clear BK403;clear HB;have HO434 := n0_;have BK403 := n1_;have HB := n2_;clear n0_ n1_ n2_;clear hb ho65))
          go_ret
          exact ⟨_,by first | rfl | (simp [errW_none,errW_some] <;> rfl) | (simp [*,errW_none,errW_some] <;> rfl),by (with_reducible repeat (first | apply Kd.R_alloc | apply Kd.R_drewN | apply Kd.R_drew));exact HO434.out,by repeat (first | (with_reducible first | exact HB.out | apply below_alloc | apply pw_below_drewN | apply below_drew1 | refine below_set ?_ GE403.out) | exact HB.out)⟩
  · replace c3 := Bool.eq_false_iff.mpr c3
    subst c3
    have H1 : (some ([] : List Int)) = some r := by rw [if_neg (show ¬ (false = true) by decide)] at H;exact H
    clear H
    have H := H1
    clear H1
    obtain rfl := Option.some.inj H
    go_enter Try.func33,Try.ntmps33
    go_wp2_with (first | ((with_reducible refine gate_dst (N := 1) rfl ?_);refine box_event ?hg (N := 1) ?hd (cs := #[.int .i64 a0_0,.bool a0_1,.int .i64 a0_2,.string a0_3]) (t := 50) ?hr ?_;(case hd => rfl);(case hg => rfl);(case hr => first | (go_simp;done) | (go_simp;rfl));intro gb403 hg w66 hbox hb;have n0_ := Aside0.mk (below_step (by repeat (first | (with_reducible first | exact HB.out | apply below_alloc | apply pw_below_drewN | apply below_drew1) | exact HB.out)) hb);have n1_ := Aside0.mk (hbox);have n2_ := Aside0.mk ((by rw [hg];exact (below_size (by repeat (first | (with_reducible first | exact HB.out | apply below_alloc | apply pw_below_drewN | apply below_drew1) | exact HB.out))) : w.heap.size ≤ gb403));have n3_ := Aside0.mk ((by rw [hg];exact (below_size (by repeat (first | (with_reducible first | exact HB.out | apply below_alloc | apply pw_below_drewN | apply below_drew1) | exact HB.out))) : w.heap.size ≤ gb403));clear HB;have HB := n0_;have BK403 := n1_;have GW403 := n2_;have GE403 := n3_;clear n0_ n1_ n2_ n3_;clear hb hbox hg;have hcz67_0 : w66.cell? ⟨gb403,0,none⟩ = some (.int .i64 a0_0) := (blk_cell BK403.out 0).trans rfl;have hcz67_1 : w66.cell? ⟨gb403,1,none⟩ = some (.bool a0_1) := (blk_cell BK403.out 1).trans rfl;have hcz67_2 : w66.cell? ⟨gb403,2,none⟩ = some (.int .i64 a0_2) := (blk_cell BK403.out 2).trans rfl;have hcz67_3 : w66.cell? ⟨gb403,3,none⟩ = some (.string a0_3) := (blk_cell BK403.out 3).trans rfl;have hfz67_0 := blk_frozen BK403.out 0;have hfz67_1 := blk_frozen BK403.out 1;have hfz67_2 := blk_frozen BK403.out 2;have hfz67_3 := blk_frozen BK403.out 3) | ((with_reducible refine gate_callee (f := 52) rfl ?_);refine goesL_ (some 8) rfl rfl Try.func52 (by kernel_rfl) rfl #[.agg #[.int .i64 a0_0,.bool a0_1,.int .i64 a0_2,.string a0_3]] rfl (by (try simp only [List.map_toArray,List.map_cons,List.map_nil]);first | done | rfl | (simp only [List.length_drop,List.length_take];rfl)) ?_;(with_reducible refine (value_Right.calls a0_0 a0_1 a0_2 a0_3 false _ A2.out).mono ?_);rintro e w68 ⟨rfl,hb⟩;refine ⟨_,rfl,?_⟩;have n0_ := Aside0.mk (blk_below (g := gb403) (o := .cells #[.int .i64 a0_0,.bool a0_1,.int .i64 a0_2,.string a0_3] 50 (0,0)) (by (with_reducible repeat (first | refine blk_drewN ?_ _ | refine blk_drew ?_ | refine blk_alloc ?_ _));exact BK403.out) hb);have n1_ := Aside0.mk (below_step (by repeat (first | (with_reducible first | exact HB.out | apply below_alloc | apply pw_below_drewN | apply below_drew1 | refine below_set ?_ GE403.out) | exact HB.out)) hb);clear BK403;clear HB;have BK403 := n0_;have HB := n1_;clear n0_ n1_;(try clear hb);(try clear hb2);(try clear hk);(try clear hi)))
    go_ret
    exact ⟨_,by first | rfl | (simp [errW_none,errW_some] <;> rfl) | (simp [*,errW_none,errW_some] <;> rfl),by first | exact Kd.R_nil _ _ _ _ _ | exact Kd.N_nil _ _ _ _ _ | exact Kd.V_nil _ _ _ _ _ | exact Kd.Q_nil _ _ _ _ _ | exact Kd.S_nil _ _ _ _ _,by repeat (first | (with_reducible first | exact HB.out | apply below_alloc | apply pw_below_drewN | apply below_drew1 | refine below_set ?_ GE403.out) | exact HB.out)⟩
end Go.Proofs.Ytfoaeigoajooeaa.Z
end
section
namespace Go.Proofs.YtfoaeigoajooeaaW.PrintMore
open Go.RowKit Go.Proofs.YtfoaeigoajooeaaW.PrintWords Go.Proofs.YtfoaeigoajooeaaW.PrintLast
section
variable {P : Program} {ops : Array Oper} {Q : Exit → Act → World → Prop}
theorem gate_tmp {rest : List Oper} {o : Oper} {a : Act} {W : World} {n : Nat} {as_ : Array Operand} {ts : Array TypeId} (_ho : o.op = .call { callee := .value (.tmp n),args := as_,argTypes := ts }) (h : wpList P ops Q (o :: rest) a W) : wpList P ops Q (o :: rest) a W := h
theorem goesT_ {rest : List Oper} {oi : Oper} {a : Act} {w : World} (N : Option Tmp) (hd : oi.dst = N) (hg : oi.guard = none) {x : Operand} {f : FuncId} {lb : Array Value} {fn : Func} {as_ : Array Operand} {ts : Array TypeId} (hf : P.funcs[f]? = some fn) (hname : (fn.name == "runtime.NumGoroutine") = false) (hb : fn.body.isSome = true) (args : Array Value)
    (hop : oi.op = .call { callee := .value x,args := as_,argTypes := ts }) (hx : a.eval x = .func (.func f) #[] lb) (hargs : as_.map a.eval ++ lb = args)
    (h : Calls P f args w fun e w' => ∃ v,e = .returned v ∧ wpList P ops Q rest (a.put N v) w') : wpList P ops Q (oi :: rest) a w := by
  refine wpList_plain hg fun K hK => ?_
  have he := enters_ hf hname hb args w
  have hrun : (execOp a.eval oi).run P w = .ok (.enter f args) w := by
    unfold execOp
    simp [hop,resolve,Deferred.ofValue,invoke,hx,hargs,he]
  unfold Oper.wp
  rw [hrun,Oper.upon_enter]
  refine h.mono fun e w'' hh => ?_
  obtain ⟨v,rfl,hk⟩ := hh
  subst hd
  exact hK _ _ hk
end
end Go.Proofs.YtfoaeigoajooeaaW.PrintMore
namespace Go.Proofs.YtfoaeigoajooeaaW.PrintWords
open Go.RowKit
section
variable {P : Program} {ops : Array Oper} {Q : Exit → Act → World → Prop} {o : Oper} {rest : List Oper} {a : Act}
theorem Kd.R_make0 {α : Type} (d : Kd α) {w0 W : World} (base e : Nat) (hgd : o.guard = none) {N : Tmp} (_hd : o.dst = some N) (t : TypeId) (x y : Operand) (ho : o.op = .makeSlice t x y) (n : Int) (hx : a.eval x = .int .i64 0) (hy : a.eval y = .int .i64 n)
    (ht : P.underlying t = some (.slice e)) (z : Value) (bytes : Nat) (hinfo : (P.info? e).map (fun i => (i.zero,i.size,i.bytes)) = some (some z,d.sz,bytes)) (_hz : z.cells.size = d.sz) (_hs0 : 0 < d.sz) (hb0 : 0 < bytes)
    (z0 : α) {ok okp : Nat → Prop} (_hzero : d.M W base okp z0 z.cells.toList) (_hok : ∀ k,okp k → ok k) (hfresh : ok W.heap.size) (h0 : 0 ≤ n) (hl : n.toNat * bytes ≤ 281474976710656) (HB : Below base w0 W) (hbase : base ≤ W.heap.size)
    (h : ∀ v1 w1,d.R e w1 base ok v1 [] → Below base w0 w1 → W.grownBy w1 none → (∃ b,v1.ownBlock = some b ∧ W.heap.size ≤ b) → wpList P ops Q rest (a.put o.dst v1) w1) : wpList P ops Q (o :: rest) a W := by
  obtain ⟨m,rfl⟩ := Int.eq_ofNat_of_zero_le h0
  simp only [Int.toNat_natCast] at hl
  obtain ⟨i0,hi,hzz⟩ := Option.map_eq_some_iff.1 hinfo
  simp only [Prod.mk.injEq] at hzz
  obtain ⟨hz0,hz1,hz2⟩ := hzz
  have hm : m ≤ 281474976710656 := Nat.le_trans (Nat.le_mul_of_pos_right _ hb0) hl
  obtain ⟨w',hr,hown,hg⟩ := run_make_own (P := P) (w := W) base t e i0 z d.sz ht hi hz0 hz1 .i64 .i64 m (by rw [hz2,Nat.mul_comm];exact hl) (by unfold maxLen;omega) hbase
  have hrun : (execOp a.eval o).run P W = .ok (.value (.slice (some ⟨W.heap.size,0,none⟩) 0 m)) w' := by
    simp [execOp,ho,hx,hy,hr]
  refine Kd.event_run hgd hrun (h _ _ ⟨fun k hk => ?_,[],hown,Reps.none _ _⟩ (HB.grown hg hbase (fun k hk => by simp at hk)) hg ⟨W.heap.size,by simp [Value.ownBlock],Nat.le_refl _⟩)
  have : W.heap.size = k := by simpa [Value.ownBlock] using hk
  subst this
  exact hfresh
end
end Go.Proofs.YtfoaeigoajooeaaW.PrintWords
namespace Go.Proofs.YtfoaeigoajooeaaW.PrintWords
open Go.RowKit
theorem nil_is {α : Type} {d : Kd α} {e base n : Nat} {ok : Nat → Prop} {w : World} {A : Option Addr} {c : Nat} {xs : List α} (h : d.R e w base ok (.slice A n c) xs) (hn : xs = [] → Value.slice A n c = .slice none 0 0) : A.isNone = ((xs.length : Int) == 0) := by
  cases xs with
  | nil =>
    have h1 := hn rfl
    injection h1 with h1
    subst h1
    rfl
  | cons x xs =>
    obtain ⟨A',c',he,_,hC⟩ := Kd.R_reads h
    injection he with h1 h2 h3
    subst h1 h2 h3
    obtain ⟨ad,_,rfl,_⟩ := Kd.C_get hC x 0 (by omega) (by simp)
    simp
    omega
theorem run_nil_is {α : Type} {P : Program} {t E : TypeId} (ht : P.underlying t = some (.slice E)) {d : Kd α} {e base : Nat} {ok : Nat → Prop} {w : World} {v : Value} {xs : List α} (h : d.R e w base ok v xs) (hn : xs = [] → v = .slice none 0 0) (W : World) :
    Sem.run P (binOp .eql t v (.slice none 0 0)) W = .ok (.bool ((xs.length : Int) == 0)) W := by
  obtain ⟨A,c,rfl⟩ := Kd.R_slice h
  rw [← nil_is h hn]
  exact Lib.run_eql_slice_nil W _ _ A _ _ 0 0 ht
theorem guard_nil_is {α : Type} {P : Program} (t : TypeId) {d : Kd α} {e base : Nat} {ok : Nat → Prop} {w : World} {v : Value} {xs : List α} (h : d.R e w base ok v xs) (x y : Operand) (W : World) :
    Sem.run P (eqGuard .eql t x y v (.slice none 0 0)) W = .ok () W := by
  obtain ⟨A,c,rfl⟩ := Kd.R_slice h
  rfl
theorem C_none {α : Type} {d : Kd α} {w : World} {xs : List α} (h : d.C w none xs.length xs) : xs = [] := by
  cases xs with
  | nil => rfl
  | cons x xs =>
    obtain ⟨ad,_,he,_⟩ := Kd.C_get h x 0 (by omega) (by simp)
    cases he
end Go.Proofs.YtfoaeigoajooeaaW.PrintWords
end
section
namespace Go.Proofs.Ytfoaeigoajooeaa.Z
open Go.RowKit Go.Proofs.YtfoaeigoajooeaaW.PrintWords Go.Proofs.YtfoaeigoajooeaaW.PrintLast Go.Proofs.YtfoaeigoajooeaaW.PrintMore
set_option linter.unusedVariables false
set_option linter.unusedSimpArgs false
set_option maxHeartbeats 8000000 in
set_option maxRecDepth 100000 in
theorem pack_Value_bad (a0_0 : Int) (a0_1 : Bool) (a0_2 : Int) (a0_3 : ByteArray) (w : World) (h : value_Right.f a0_0 a0_1 a0_2 a0_3 = some false) :
    Calls Try.prog 33 #[.agg #[.int .i64 a0_0,.bool a0_1,.int .i64 a0_2,.string a0_3]] w fun e w' => e = .returned (.slice none 0 0) ∧ Below w.heap.size w w' := by
  have hu50 := Try.underlying50
  have HB := Aside0.mk (Below.refl w.heap.size w)
  have A2 := Aside0.mk h
  clear h
  go_enter Try.func33,Try.ntmps33
  go_wp2_with (first | ((with_reducible refine gate_dst (N := 1) rfl ?_);refine box_event ?hg (N := 1) ?hd (cs := #[.int .i64 a0_0,.bool a0_1,.int .i64 a0_2,.string a0_3]) (t := 50) ?hr ?_;(case hd => rfl);(case hg => rfl);(case hr => first | (go_simp;done) | (go_simp;rfl));intro gb392 hg w66 hbox hb;have n0_ := Aside0.mk (below_step (by repeat (first | (with_reducible first | exact HB.out | apply below_alloc | apply pw_below_drewN | apply below_drew1) | exact HB.out)) hb);have n1_ := Aside0.mk (hbox);have n2_ := Aside0.mk ((by rw [hg];exact (below_size (by repeat (first | (with_reducible first | exact HB.out | apply below_alloc | apply pw_below_drewN | apply below_drew1) | exact HB.out))) : w.heap.size ≤ gb392));have n3_ := Aside0.mk ((by rw [hg];exact (below_size (by repeat (first | (with_reducible first | exact HB.out | apply below_alloc | apply pw_below_drewN | apply below_drew1) | exact HB.out))) : w.heap.size ≤ gb392));clear HB;have HB := n0_;have BK392 := n1_;have GW392 := n2_;have GE392 := n3_;clear n0_ n1_ n2_ n3_;clear hb hbox hg;have hcz67_0 : w66.cell? ⟨gb392,0,none⟩ = some (.int .i64 a0_0) := (blk_cell BK392.out 0).trans rfl;have hcz67_1 : w66.cell? ⟨gb392,1,none⟩ = some (.bool a0_1) := (blk_cell BK392.out 1).trans rfl;have hcz67_2 : w66.cell? ⟨gb392,2,none⟩ = some (.int .i64 a0_2) := (blk_cell BK392.out 2).trans rfl;have hcz67_3 : w66.cell? ⟨gb392,3,none⟩ = some (.string a0_3) := (blk_cell BK392.out 3).trans rfl;have hfz67_0 := blk_frozen BK392.out 0;have hfz67_1 := blk_frozen BK392.out 1;have hfz67_2 := blk_frozen BK392.out 2;have hfz67_3 := blk_frozen BK392.out 3) | ((with_reducible refine gate_callee (f := 52) rfl ?_);refine goesL_ (some 8) rfl rfl Try.func52 (by kernel_rfl) rfl #[.agg #[.int .i64 a0_0,.bool a0_1,.int .i64 a0_2,.string a0_3]] rfl (by (try simp only [List.map_toArray,List.map_cons,List.map_nil]);first | done | rfl | (simp only [List.length_drop,List.length_take];rfl)) ?_;(with_reducible refine (value_Right.calls a0_0 a0_1 a0_2 a0_3 false _ A2.out).mono ?_);rintro e w68 ⟨rfl,hb⟩;refine ⟨_,rfl,?_⟩;have n0_ := Aside0.mk (blk_below (g := gb392) (o := .cells #[.int .i64 a0_0,.bool a0_1,.int .i64 a0_2,.string a0_3] 50 (0,0)) (by (with_reducible repeat (first | refine blk_drewN ?_ _ | refine blk_drew ?_ | refine blk_alloc ?_ _));exact BK392.out) hb);have n1_ := Aside0.mk (below_step (by repeat (first | (with_reducible first | exact HB.out | apply below_alloc | apply pw_below_drewN | apply below_drew1 | refine below_set ?_ GE392.out) | exact HB.out)) hb);clear BK392;clear HB;have BK392 := n0_;have HB := n1_;clear n0_ n1_;(try clear hb);(try clear hb2);(try clear hk);(try clear hi)))
  go_ret
  exact ⟨by first | rfl | (simp [errW_none,errW_some] <;> rfl) | (simp [*,errW_none,errW_some] <;> rfl),by repeat (first | (with_reducible first | exact HB.out | apply below_alloc | apply pw_below_drewN | apply below_drew1 | refine below_set ?_ GE392.out) | exact HB.out)⟩
theorem pack_Value_l0_ne : ∀ k x3 x4 a b c d r,x3 ≠ [] → pack_Value.l0 k x3 x4 a b c d = some r → r ≠ [] := by
  intro k
  induction k with
  | zero => intro x3 x4 a b c d r _ h;simp [pack_Value.l0] at h
  | succ k ih =>
    intro x3 x4 a b c d r hx h
    simp only [pack_Value.l0] at h
    repeat' split at h
    all_goals first | (cases h;done) | exact ih _ _ _ _ _ _ _ (by simp) h | (cases h;exact hx)
theorem pack_Value_l1_ne : ∀ k x5 x x43 a b c d r,x5 ≠ [] → pack_Value.l1 k x5 x x43 a b c d = some r → r ≠ [] := by
  intro k
  induction k with
  | zero => intro x5 x x43 a b c d r _ h;simp [pack_Value.l1] at h
  | succ k ih =>
    intro x5 x x43 a b c d r hx h
    simp only [pack_Value.l1,Option.bind_some] at h
    repeat' split at h
    all_goals first | (cases h;done) | exact ih _ _ _ _ _ _ _ _ (by simp) h | (cases h;simp)
theorem pack_Value_ne (k : Nat) (a : Int) (b : Bool) (c : Int) (d : ByteArray) (h : pack_Value.f k a b c d = some []) : value_Right.f a b c d = some false := by
  unfold pack_Value.f at h
  obtain ⟨t,h1,h2⟩ := Option.bind_eq_some_iff.mp h
  cases t with
  | false => exact h1
  | true =>
    exfalso
    simp only [if_true] at h2
    repeat' split at h2
    all_goals first | (simp at h2;done) | exact pack_Value_l0_ne _ _ _ _ _ _ _ _ (by simp) h2 rfl | exact pack_Value_l1_ne _ _ _ _ _ _ _ _ _ (by simp) h2 rfl
theorem pack_Value_calls2 (k : Nat) (a0_0 : Int) (a0_1 : Bool) (a0_2 : Int) (a0_3 : ByteArray) (r : List Int) (w : World) (h : pack_Value.f k a0_0 a0_1 a0_2 a0_3 = some r) :
    Calls Try.prog 33 #[.agg #[.int .i64 a0_0,.bool a0_1,.int .i64 a0_2,.string a0_3]] w fun e w' => ∃ v0_ : Value,e = .returned (v0_) ∧ Kd.R (Kd.int .u8) 5 w' w.heap.size (fun _ => True) v0_ r ∧ Below w.heap.size w w' ∧ (r = [] → v0_ = .slice none 0 0) := by
  by_cases hr : r = []
  · subst hr
    refine (pack_Value_bad a0_0 a0_1 a0_2 a0_3 w (pack_Value_ne k _ _ _ _ h)).mono ?_
    rintro e w' ⟨rfl,hb⟩
    exact ⟨_,rfl,Kd.R_nil _ _ _ _ _,hb,fun _ => rfl⟩
  · refine (pack_Value.calls k a0_0 a0_1 a0_2 a0_3 r w h).mono ?_
    rintro e w' ⟨v,rfl,hv,hb⟩
    exact ⟨_,rfl,hv,hb,fun h => absurd h hr⟩
end Go.Proofs.Ytfoaeigoajooeaa.Z
end
section
namespace Go.Proofs.Ytfoaeigoajooeaa.Z
open Go.RowKit Go.Proofs.YtfoaeigoajooeaaW.PrintWords Go.Proofs.YtfoaeigoajooeaaW.PrintLast Go.Proofs.YtfoaeigoajooeaaW.PrintMore
attribute [local go_sem] max2_int min2_int max_two min_two max_three min_three max_four min_four
set_option linter.unusedVariables false
set_option linter.unusedSimpArgs false
def pack_Row.l0 : Nat → List Int → List (S50) → Int → Int → Option (List Int)
  | 0,_,_,_,_ => none
  | k + 1,x3,x7,x8,x9 => if x9 < x8 then (if 0 ≤ x9 then (if x9 < (x7.length : Int) then ((pack_Value.f k ((rd_T50 x7 x9).f0) ((rd_T50 x7 x9).f1) ((rd_T50 x7 x9).f2) ((rd_T50 x7 x9).f3)).bind fun t437 => (if (t437.length : Int) = 0 then (some ([] : List Int)) else (if x3.length + t437.length < 140737488355328 then (pack_Row.l0 k (x3 ++ t437) x7 x8 (wrap64 (x9 + 1))) else (none)))) else (none)) else (none)) else (if x3.length < 140737488355328 then (some (x3 ++ [0])) else (none))
def pack_Row.f (k : Nat) (l0 : List (S50)) : Option (List Int) := pack_Row.l0 k ([] : List Int) l0 (l0.length : Int) 0
theorem pack_Row.mono_l : ∀ k,(∀ y0 y1 y2 y3,LeO (pack_Row.l0 k y0 y1 y2 y3) (pack_Row.l0 (k + 1) y0 y1 y2 y3))
  | 0 => fun _ _ _ _ r h => by simp [pack_Row.l0] at h
  | k + 1 => by
    have ih0 := pack_Row.mono_l k
    · intro y0 y1 y2 y3
      unfold pack_Row.l0
      repeat' first
      | (with_reducible exact ih0 _ _ _ _)
      | (with_reducible exact pack_Value.mono _ _ _ _ _)
      | (with_reducible exact LeO.refl _)
      | (with_reducible exact LeO.none _)
      | (with_reducible refine LeO.ite ?_ ?_)
      | (with_reducible refine LeO.bind ?_ (fun _ => ?_))
      | exact ih0 _ _ _ _
      | exact pack_Value.mono _ _ _ _ _
      | exact LeO.none _
      | refine LeO.ite ?_ ?_
      | refine LeO.bind ?_ (fun _ => ?_)
theorem pack_Row.mono : ∀ a0 k,LeO (pack_Row.f k a0) (pack_Row.f (k + 1) a0) := by
  intro a0 k
  have ih0 := pack_Row.mono_l k
  unfold pack_Row.f
  repeat' first
      | (with_reducible exact ih0 _ _ _ _)
      | (with_reducible exact pack_Value.mono _ _ _ _ _)
      | (with_reducible exact LeO.refl _)
      | (with_reducible exact LeO.none _)
      | (with_reducible refine LeO.ite ?_ ?_)
      | (with_reducible refine LeO.bind ?_ (fun _ => ?_))
      | exact ih0 _ _ _ _
      | exact pack_Value.mono _ _ _ _ _
      | exact LeO.none _
      | refine LeO.ite ?_ ?_
      | refine LeO.bind ?_ (fun _ => ?_)
set_option maxHeartbeats 8000000 in
set_option maxRecDepth 100000 in
theorem pack_Row.calls (k : Nat) (A0 : Option Addr) (c0 : Nat) (l0 : List (S50)) (r : List Int) (w : World) (hr0 : Kd.C k50 w A0 l0.length l0) (hc0 : l0.length ≤ c0) (h : pack_Row.f k l0 = some r) :
    Calls Try.prog 35 #[.slice A0 l0.length c0] w fun e w' => ∃ v0_ : Value,e = .returned (v0_) ∧ Kd.R (Kd.int .u8) 5 w' w.heap.size (fun _ => True) v0_ r ∧ Below w.heap.size w w' := by
  have hu50 := Try.underlying50
  have HR0 := Aside0.mk hr0
  have HC0 := Aside0.mk hc0
  clear hr0 hc0
  have HB := Aside0.mk (Below.refl w.heap.size w)
  have H : (pack_Row.l0 k ([] : List Int) l0 (l0.length : Int) 0) = some r := h
  clear h
  have H' := Aside0.mk H
  clear H
  go_enter Try.func35,Try.ntmps35
  go_wp2
  go_loopg [3,9] k (fun kq v3 v9 w' => ∃ (x3_1 : List Int) (x9_1 : Int),v9 = .int .i64 x9_1 ∧ Aside0 (pack_Row.l0 kq x3_1 l0 (l0.length : Int) x9_1 = some r) ∧ Aside0 (kq ≤ k) ∧ Aside0 (Kd.R (Kd.int .u8) 5 w' w.heap.size (fun _ => True) v3 x3_1) ∧ Aside0 (Below w.heap.size w w'))
  case atStart => exact ⟨(([] : List Int)),(0),(by first | rfl | (simp;done) | (simp [*];done)),H',⟨Nat.le_refl _⟩,⟨by first | exact Kd.R_nil _ _ _ _ _ | exact Kd.N_nil _ _ _ _ _ | exact Kd.V_nil _ _ _ _ _ | exact Kd.Q_nil _ _ _ _ _ | exact Kd.S_nil _ _ _ _ _⟩,⟨by repeat (first | (with_reducible first | exact HB.out | apply below_alloc | apply pw_below_drewN | apply below_drew1) | exact HB.out)⟩⟩
  case round =>
    clear H'
    obtain ⟨x3_1,x9_1,rfl,HA,HK1,HO_3,HB⟩ := hrel
    cases gk with
    | zero => exact absurd HA.out (by simp [pack_Row.l0])
    | succ k1 =>
      have H := HA.out
      clear HA
      simp only [pack_Row.l0] at H
      by_cases c2 : x9_1 < (l0.length : Int)
      · rw [if_pos c2] at H
        have c2b0 : decide (x9_1 < (l0.length : Int)) = true := decide_eq_true c2
        clear c2
        by_cases c3 : 0 ≤ x9_1
        · rw [if_pos c3] at H
          have c3b0 : decide (0 ≤ x9_1) = true := decide_eq_true c3
          clear c3
          by_cases c4 : x9_1 < (l0.length : Int)
          · rw [if_pos c4] at H
            have c4b0 : decide (x9_1 < (l0.length : Int)) = true := decide_eq_true c4
            clear c4
            replace H := Option.bind_eq_some_iff.mp H
            obtain ⟨t437,A50,H⟩ := H
            replace H : (if (t437.length : Int) = 0 then (some ([] : List Int)) else (if x3_1.length + t437.length < 140737488355328 then (pack_Row.l0 k1 (x3_1 ++ t437) l0 (l0.length : Int) (wrap64 (x9_1 + 1))) else (none))) = some r := H
            have A5 := Aside0.mk A50
            clear A50
            by_cases c6 : (t437.length : Int) = 0
            · rw [if_pos c6] at H
              have c6b0 : ((t437.length : Int) == 0) = true := beq_iff_eq.mpr c6
              have c6b1 : ((t437.length : Int) != 0) = false := bne_eq_false_iff_eq.mpr c6
              clear c6
              obtain rfl := Option.some.inj H
              have p435 : 0 ≤ (x9_1 : Int) := of_decide_eq_true (by first | (with_reducible assumption) | assumption)
              have q435 : x9_1 < (l0.length : Int) := of_decide_eq_true (by first | (with_reducible assumption) | assumption)
              obtain ⟨ad435,e435,hx435_0,hx435_1,hx435_2,hx435_3⟩ := at_T50 HR0.out x9_1 p435 q435
              cases e435
              replace hx435_0 := (HB.out.cell (World.block_lt_of_cell? w _ hx435_0)).trans hx435_0
              replace hx435_1 := (HB.out.cell (World.block_lt_of_cell? w _ hx435_1)).trans hx435_1
              replace hx435_2 := (HB.out.cell (World.block_lt_of_cell? w _ hx435_2)).trans hx435_2
              replace hx435_3 := (HB.out.cell (World.block_lt_of_cell? w _ hx435_3)).trans hx435_3
              replace p435 := eq_true p435
              replace q435 := eq_true q435
              go_wp2_with (first | ((with_reducible refine gate_dst (N := 5) rfl ?_);refine box_event ?hg (N := 5) ?hd (cs := #[.int .i64 0,.bool false,.int .i64 0,.string (⟨#[]⟩ : ByteArray)]) (t := 50) ?hr ?_;(case hd => rfl);(case hg => rfl);(case hr => first | (go_simp;done) | (go_simp;rfl));intro gb436 hg w7 hbox hb;have n0_ := Aside0.mk (Kd.R_below (by (with_reducible repeat (first | apply Kd.R_alloc | apply Kd.R_drewN | apply Kd.R_drew));exact HO_3.out) hb);have n1_ := Aside0.mk (below_step (by repeat (first | (with_reducible first | exact HB.out | apply below_alloc | apply pw_below_drewN | apply below_drew1) | exact HB.out)) hb);have n2_ := Aside0.mk (hbox);have n3_ := Aside0.mk ((by rw [hg];exact (below_size (by repeat (first | (with_reducible first | exact HB.out | apply below_alloc | apply pw_below_drewN | apply below_drew1) | exact HB.out))) : w.heap.size ≤ gb436));have n4_ := Aside0.mk ((by rw [hg];exact (below_size (by repeat (first | (with_reducible first | exact HB.out | apply below_alloc | apply pw_below_drewN | apply below_drew1) | exact HB.out))) : w.heap.size ≤ gb436));clear HO_3;clear HB;have HO_3 := n0_;have HB := n1_;have BK436 := n2_;have GW436 := n3_;have GE436 := n4_;clear n0_ n1_ n2_ n3_ n4_;clear hb hbox hg;have hcz8_0 : w7.cell? ⟨gb436,0,none⟩ = some (.int .i64 0) := (blk_cell BK436.out 0).trans rfl;have hcz8_1 : w7.cell? ⟨gb436,1,none⟩ = some (.bool false) := (blk_cell BK436.out 1).trans rfl;have hcz8_2 : w7.cell? ⟨gb436,2,none⟩ = some (.int .i64 0) := (blk_cell BK436.out 2).trans rfl;have hcz8_3 : w7.cell? ⟨gb436,3,none⟩ = some (.string (⟨#[]⟩ : ByteArray)) := (blk_cell BK436.out 3).trans rfl;have hfz8_0 := blk_frozen BK436.out 0;have hfz8_1 := blk_frozen BK436.out 1;have hfz8_2 := blk_frozen BK436.out 2;have hfz8_3 := blk_frozen BK436.out 3) | ((with_reducible refine gate_callee (f := 33) rfl ?_);refine goesL_ (some 14) rfl rfl Try.func33 (by kernel_rfl) rfl #[.agg #[.int .i64 ((rd_T50 l0 x9_1).f0),.bool ((rd_T50 l0 x9_1).f1),.int .i64 ((rd_T50 l0 x9_1).f2),.string ((rd_T50 l0 x9_1).f3)]] rfl (by (try simp only [List.map_toArray,List.map_cons,List.map_nil]);first | done | rfl | (simp only [List.length_drop,List.length_take];rfl)) ?_;(with_reducible refine (pack_Value_calls2 k1 ((rd_T50 l0 x9_1).f0) ((rd_T50 l0 x9_1).f1) ((rd_T50 l0 x9_1).f2) ((rd_T50 l0 x9_1).f3) t437 _ A5.out).mono ?_);rintro e w9 ⟨v438,rfl,ho0,hb,hnl⟩;refine ⟨_,rfl,?_⟩;have hz_ := run_nil_is Try.underlying47 ho0 hnl;have hgq_ := guard_nil_is (P := Try.prog) 47 ho0;clear hnl;have n0_ := Aside0.mk (Kd.R_elder' (by (with_reducible repeat (first | apply Kd.R_alloc | apply Kd.R_drewN | apply Kd.R_drew));exact (Kd.R_mono (Kd.R_far (p := ⟨gb436,3,none⟩) (Kd.R_far (p := ⟨gb436,2,none⟩) (Kd.R_far (p := ⟨gb436,1,none⟩) (Kd.R_far (p := ⟨gb436,0,none⟩) (Kd.R_types HO_3.out BK436.out (by decide)) (fun _ hk => hk.2) (.int .i64 ((rd_T50 l0 x9_1).f0))) (fun _ hk => hk.2) (.bool ((rd_T50 l0 x9_1).f1))) (fun _ hk => hk.2) (.int .i64 ((rd_T50 l0 x9_1).f2))) (fun _ hk => hk.2) (.string ((rd_T50 l0 x9_1).f3))) (fun _ h_ => h_.1))) (Kd.R_base ho0) hb);have n1_ := Aside0.mk (Kd.R_lower (Kd.R_new' ho0 (Kd.R_lt (by (with_reducible repeat (first | apply Kd.R_alloc | apply Kd.R_drewN | apply Kd.R_drew));exact (Kd.R_mono (Kd.R_far (p := ⟨gb436,3,none⟩) (Kd.R_far (p := ⟨gb436,2,none⟩) (Kd.R_far (p := ⟨gb436,1,none⟩) (Kd.R_far (p := ⟨gb436,0,none⟩) (Kd.R_types HO_3.out BK436.out (by decide)) (fun _ hk => hk.2) (.int .i64 ((rd_T50 l0 x9_1).f0))) (fun _ hk => hk.2) (.bool ((rd_T50 l0 x9_1).f1))) (fun _ hk => hk.2) (.int .i64 ((rd_T50 l0 x9_1).f2))) (fun _ hk => hk.2) (.string ((rd_T50 l0 x9_1).f3))) (fun _ h_ => h_.1))))) (below_size (by repeat (first | (with_reducible first | exact HB.out | apply below_alloc | apply pw_below_drewN | apply below_drew1 | refine below_set ?_ GE436.out) | exact HB.out))));have n2_ := Aside0.mk (blk_below (g := gb436) (o := .cells #[.int .i64 ((rd_T50 l0 x9_1).f0),.bool ((rd_T50 l0 x9_1).f1),.int .i64 ((rd_T50 l0 x9_1).f2),.string ((rd_T50 l0 x9_1).f3)] 50 (0,0)) (by (with_reducible repeat (first | refine blk_drewN ?_ _ | refine blk_drew ?_ | refine blk_alloc ?_ _));refine blk_put (cs := #[.int .i64 ((rd_T50 l0 x9_1).f0),.bool ((rd_T50 l0 x9_1).f1),.int .i64 ((rd_T50 l0 x9_1).f2),.string (⟨#[]⟩ : ByteArray)]) ?_ 3 _ rfl;(with_reducible repeat (first | refine blk_drewN ?_ _ | refine blk_drew ?_ | refine blk_alloc ?_ _));refine blk_put (cs := #[.int .i64 ((rd_T50 l0 x9_1).f0),.bool ((rd_T50 l0 x9_1).f1),.int .i64 0,.string (⟨#[]⟩ : ByteArray)]) ?_ 2 _ rfl;(with_reducible repeat (first | refine blk_drewN ?_ _ | refine blk_drew ?_ | refine blk_alloc ?_ _));refine blk_put (cs := #[.int .i64 ((rd_T50 l0 x9_1).f0),.bool false,.int .i64 0,.string (⟨#[]⟩ : ByteArray)]) ?_ 1 _ rfl;(with_reducible repeat (first | refine blk_drewN ?_ _ | refine blk_drew ?_ | refine blk_alloc ?_ _));refine blk_put (cs := #[.int .i64 0,.bool false,.int .i64 0,.string (⟨#[]⟩ : ByteArray)]) ?_ 0 _ rfl;(with_reducible repeat (first | refine blk_drewN ?_ _ | refine blk_drew ?_ | refine blk_alloc ?_ _));exact BK436.out) hb);have n3_ := Aside0.mk (below_step (by repeat (first | (with_reducible first | exact HB.out | apply below_alloc | apply pw_below_drewN | apply below_drew1 | refine below_set ?_ GE436.out) | exact HB.out)) hb);clear HO_3;clear BK436;clear HB;have HO_3 := n0_;have HO439 := n1_;have BK436 := n2_;have HB := n3_;clear n0_ n1_ n2_ n3_;(try clear hb);(try clear hb2);(try clear hk);(try clear hi);(try clear ho0)))
              go_ret
              exact ⟨_,by first | rfl | (simp [errW_none,errW_some] <;> rfl) | (simp [*,errW_none,errW_some] <;> rfl),by first | exact Kd.R_nil _ _ _ _ _ | exact Kd.N_nil _ _ _ _ _ | exact Kd.V_nil _ _ _ _ _ | exact Kd.Q_nil _ _ _ _ _ | exact Kd.S_nil _ _ _ _ _,by repeat (first | (with_reducible first | exact HB.out | apply below_alloc | apply pw_below_drewN | apply below_drew1 | refine below_set ?_ GE436.out) | exact HB.out)⟩
            · rw [if_neg c6] at H
              have c6b0 : ((t437.length : Int) == 0) = false := beq_eq_false_iff_ne.mpr c6
              have c6b1 : ((t437.length : Int) != 0) = true := bne_iff_ne.mpr c6
              have c6b2 : ¬ (t437 = []) := fun h_ => c6 (by rw [h_];rfl)
              by_cases c10 : x3_1.length + t437.length < 140737488355328
              · rw [if_pos c10] at H
                have LMc10 := Aside0.mk c10
                clear c10
                obtain ⟨y440,hy440⟩ : ∃ y_ : List Int,y_ = (x3_1 ++ t437) := ⟨_,rfl⟩
                replace H : (pack_Row.l0 k1 y440 l0 (l0.length : Int) (wrap64 (x9_1 + 1))) = some r := by first | (rw [hy440];with_reducible exact H) | (have H2_ := (Option.bind_some _ _).symm.trans H;rw [hy440];with_reducible exact H2_) | (have H2_ := (Option.bind_some _ _).symm.trans H;with_reducible exact H2_) | with_reducible exact H | (rw [hy440];exact H) | exact H
                have Ny440 := Aside0.mk hy440
                clear hy440
                have H' := Aside0.mk H
                clear H
                have p435 : 0 ≤ (x9_1 : Int) := of_decide_eq_true (by first | (with_reducible assumption) | assumption)
                have q435 : x9_1 < (l0.length : Int) := of_decide_eq_true (by first | (with_reducible assumption) | assumption)
                obtain ⟨ad435,e435,hx435_0,hx435_1,hx435_2,hx435_3⟩ := at_T50 HR0.out x9_1 p435 q435
                cases e435
                replace hx435_0 := (HB.out.cell (World.block_lt_of_cell? w _ hx435_0)).trans hx435_0
                replace hx435_1 := (HB.out.cell (World.block_lt_of_cell? w _ hx435_1)).trans hx435_1
                replace hx435_2 := (HB.out.cell (World.block_lt_of_cell? w _ hx435_2)).trans hx435_2
                replace hx435_3 := (HB.out.cell (World.block_lt_of_cell? w _ hx435_3)).trans hx435_3
                replace p435 := eq_true p435
                replace q435 := eq_true q435
                go_wp2_with (first | ((with_reducible refine gate_dst (N := 5) rfl ?_);refine box_event ?hg (N := 5) ?hd (cs := #[.int .i64 0,.bool false,.int .i64 0,.string (⟨#[]⟩ : ByteArray)]) (t := 50) ?hr ?_;(case hd => rfl);(case hg => rfl);(case hr => first | (go_simp;done) | (go_simp;rfl));intro gb436 hg w11 hbox hb;have n0_ := Aside0.mk (Kd.R_below (by (with_reducible repeat (first | apply Kd.R_alloc | apply Kd.R_drewN | apply Kd.R_drew));exact HO_3.out) hb);have n1_ := Aside0.mk (below_step (by repeat (first | (with_reducible first | exact HB.out | apply below_alloc | apply pw_below_drewN | apply below_drew1) | exact HB.out)) hb);have n2_ := Aside0.mk (hbox);have n3_ := Aside0.mk ((by rw [hg];exact (below_size (by repeat (first | (with_reducible first | exact HB.out | apply below_alloc | apply pw_below_drewN | apply below_drew1) | exact HB.out))) : w.heap.size ≤ gb436));have n4_ := Aside0.mk ((by rw [hg];exact (below_size (by repeat (first | (with_reducible first | exact HB.out | apply below_alloc | apply pw_below_drewN | apply below_drew1) | exact HB.out))) : w.heap.size ≤ gb436));clear HO_3;clear HB;have HO_3 := n0_;have HB := n1_;have BK436 := n2_;have GW436 := n3_;have GE436 := n4_;clear n0_ n1_ n2_ n3_ n4_;clear hb hbox hg;have hcz12_0 : w11.cell? ⟨gb436,0,none⟩ = some (.int .i64 0) := (blk_cell BK436.out 0).trans rfl;have hcz12_1 : w11.cell? ⟨gb436,1,none⟩ = some (.bool false) := (blk_cell BK436.out 1).trans rfl;have hcz12_2 : w11.cell? ⟨gb436,2,none⟩ = some (.int .i64 0) := (blk_cell BK436.out 2).trans rfl;have hcz12_3 : w11.cell? ⟨gb436,3,none⟩ = some (.string (⟨#[]⟩ : ByteArray)) := (blk_cell BK436.out 3).trans rfl;have hfz12_0 := blk_frozen BK436.out 0;have hfz12_1 := blk_frozen BK436.out 1;have hfz12_2 := blk_frozen BK436.out 2;have hfz12_3 := blk_frozen BK436.out 3) | ((with_reducible refine gate_callee (f := 33) rfl ?_);refine goesL_ (some 14) rfl rfl Try.func33 (by kernel_rfl) rfl #[.agg #[.int .i64 ((rd_T50 l0 x9_1).f0),.bool ((rd_T50 l0 x9_1).f1),.int .i64 ((rd_T50 l0 x9_1).f2),.string ((rd_T50 l0 x9_1).f3)]] rfl (by (try simp only [List.map_toArray,List.map_cons,List.map_nil]);first | done | rfl | (simp only [List.length_drop,List.length_take];rfl)) ?_;(with_reducible refine (pack_Value_calls2 k1 ((rd_T50 l0 x9_1).f0) ((rd_T50 l0 x9_1).f1) ((rd_T50 l0 x9_1).f2) ((rd_T50 l0 x9_1).f3) t437 _ A5.out).mono ?_);rintro e w13 ⟨v438,rfl,ho0,hb,hnl⟩;refine ⟨_,rfl,?_⟩;have hz_ := run_nil_is Try.underlying47 ho0 hnl;have hgq_ := guard_nil_is (P := Try.prog) 47 ho0;clear hnl;have n0_ := Aside0.mk (Kd.R_elder' (by (with_reducible repeat (first | apply Kd.R_alloc | apply Kd.R_drewN | apply Kd.R_drew));exact (Kd.R_mono (Kd.R_far (p := ⟨gb436,3,none⟩) (Kd.R_far (p := ⟨gb436,2,none⟩) (Kd.R_far (p := ⟨gb436,1,none⟩) (Kd.R_far (p := ⟨gb436,0,none⟩) (Kd.R_types HO_3.out BK436.out (by decide)) (fun _ hk => hk.2) (.int .i64 ((rd_T50 l0 x9_1).f0))) (fun _ hk => hk.2) (.bool ((rd_T50 l0 x9_1).f1))) (fun _ hk => hk.2) (.int .i64 ((rd_T50 l0 x9_1).f2))) (fun _ hk => hk.2) (.string ((rd_T50 l0 x9_1).f3))) (fun _ h_ => h_.1))) (Kd.R_base ho0) hb);have n1_ := Aside0.mk (Kd.R_lower (Kd.R_new' ho0 (Kd.R_lt (by (with_reducible repeat (first | apply Kd.R_alloc | apply Kd.R_drewN | apply Kd.R_drew));exact (Kd.R_mono (Kd.R_far (p := ⟨gb436,3,none⟩) (Kd.R_far (p := ⟨gb436,2,none⟩) (Kd.R_far (p := ⟨gb436,1,none⟩) (Kd.R_far (p := ⟨gb436,0,none⟩) (Kd.R_types HO_3.out BK436.out (by decide)) (fun _ hk => hk.2) (.int .i64 ((rd_T50 l0 x9_1).f0))) (fun _ hk => hk.2) (.bool ((rd_T50 l0 x9_1).f1))) (fun _ hk => hk.2) (.int .i64 ((rd_T50 l0 x9_1).f2))) (fun _ hk => hk.2) (.string ((rd_T50 l0 x9_1).f3))) (fun _ h_ => h_.1))))) (below_size (by repeat (first | (with_reducible first | exact HB.out | apply below_alloc | apply pw_below_drewN | apply below_drew1 | refine below_set ?_ GE436.out) | exact HB.out))));have n2_ := Aside0.mk (blk_below (g := gb436) (o := .cells #[.int .i64 ((rd_T50 l0 x9_1).f0),.bool ((rd_T50 l0 x9_1).f1),.int .i64 ((rd_T50 l0 x9_1).f2),.string ((rd_T50 l0 x9_1).f3)] 50 (0,0)) (by (with_reducible repeat (first | refine blk_drewN ?_ _ | refine blk_drew ?_ | refine blk_alloc ?_ _));refine blk_put (cs := #[.int .i64 ((rd_T50 l0 x9_1).f0),.bool ((rd_T50 l0 x9_1).f1),.int .i64 ((rd_T50 l0 x9_1).f2),.string (⟨#[]⟩ : ByteArray)]) ?_ 3 _ rfl;(with_reducible repeat (first | refine blk_drewN ?_ _ | refine blk_drew ?_ | refine blk_alloc ?_ _));refine blk_put (cs := #[.int .i64 ((rd_T50 l0 x9_1).f0),.bool ((rd_T50 l0 x9_1).f1),.int .i64 0,.string (⟨#[]⟩ : ByteArray)]) ?_ 2 _ rfl;(with_reducible repeat (first | refine blk_drewN ?_ _ | refine blk_drew ?_ | refine blk_alloc ?_ _));refine blk_put (cs := #[.int .i64 ((rd_T50 l0 x9_1).f0),.bool false,.int .i64 0,.string (⟨#[]⟩ : ByteArray)]) ?_ 1 _ rfl;(with_reducible repeat (first | refine blk_drewN ?_ _ | refine blk_drew ?_ | refine blk_alloc ?_ _));refine blk_put (cs := #[.int .i64 0,.bool false,.int .i64 0,.string (⟨#[]⟩ : ByteArray)]) ?_ 0 _ rfl;(with_reducible repeat (first | refine blk_drewN ?_ _ | refine blk_drew ?_ | refine blk_alloc ?_ _));exact BK436.out) hb);have n3_ := Aside0.mk (below_step (by repeat (first | (with_reducible first | exact HB.out | apply below_alloc | apply pw_below_drewN | apply below_drew1 | refine below_set ?_ GE436.out) | exact HB.out)) hb);clear HO_3;clear BK436;clear HB;have HO_3 := n0_;have HO439 := n1_;have BK436 := n2_;have HB := n3_;clear n0_ n1_ n2_ n3_;(try clear hb);(try clear hb2);(try clear hk);(try clear hi);(try clear ho0);obtain ⟨Ao15,co15,eo15⟩ := Kd.R_slice HO439.out;subst eo15) | ((with_reducible refine gate_builtin (b := .append) (xs := #[.tmp 17,.tmp 18]) rfl ?_);at_builtin;refine Kd.R_append_rows (Kd.int .u8) (w0 := w) w.heap.size rfl (.tmp 17) (.tmp 18) 47 5 (.int .u8 0) 1 rfl Try.underlying47 info5 rfl (by decide) (by omega) u3 x3_1 t437 _ _ _ (fun k_ => some k_ ≠ (.slice Ao15 t437.length co15 : Value).ownBlock) (fun _ => False) rfl rfl ?aO ?aR (fun _ _ h => h) (fun _ h => h.elim) ?aF ?aB ?aS ?aL ?_;(case aR => repeat (first | exact (Kd.R_reads' HO439.out).2.2 | (with_reducible refine Kd.C_alloc ?_ _) | (with_reducible refine Kd.C_drewN ?_ _) | (with_reducible refine Kd.C_drew ?_)));(case aB => exact (by repeat (first | (with_reducible first | exact HB.out | apply below_alloc | apply pw_below_drewN | apply below_drew1 | refine below_set ?_ GE436.out) | exact HB.out)));(case aF => exact (fun k_ hk => Kd.fresh' (Kd.R_lt (by (with_reducible repeat (first | apply Kd.R_alloc | apply Kd.R_drewN | apply Kd.R_drew));exact HO439.out)) k_ hk));(case aO => exact (by (with_reducible repeat (first | apply Kd.R_alloc | apply Kd.R_drewN | apply Kd.R_drew));exact Kd.R_mono HO_3.out (fun _ hk => hk.2)));(case aS => exact (below_size (by repeat (first | (with_reducible first | exact HB.out | apply below_alloc | apply pw_below_drewN | apply below_drew1 | refine below_set ?_ GE436.out) | exact HB.out))));(case aL => have := LMc10.out;omega);intro v441 w14 ho hb hg hat;rw [← Ny440.out] at ho;have n0_ := Aside0.mk (blk_grown (g := gb436) (o := .cells #[.int .i64 ((rd_T50 l0 x9_1).f0),.bool ((rd_T50 l0 x9_1).f1),.int .i64 ((rd_T50 l0 x9_1).f2),.string ((rd_T50 l0 x9_1).f3)] 50 (0,0)) (by (with_reducible repeat (first | refine blk_drewN ?_ _ | refine blk_drew ?_ | refine blk_alloc ?_ _));exact BK436.out) hg (Kd.R_ne HO_3.out BK436.out (by decide)));have n1_ := Aside0.mk (Kd.R_after (ok := (fun _ => True)) (by (with_reducible repeat (first | apply Kd.R_alloc | apply Kd.R_drewN | apply Kd.R_drew));exact HO439.out) hg hat);have n2_ := Aside0.mk (hb);have n3_ := Aside0.mk (ho);clear BK436;clear HO439;clear HB;clear HO_3;have BK436 := n0_;have HO439 := n1_;have HB := n2_;have HO442 := n3_;clear n0_ n1_ n2_ n3_;clear ho hb hg hat))
                go_roundg k1
                case measure => have := HK1.out;omega
                case rel => exact ⟨(y440),(wrap64 (x9_1 + 1)),(by first | rfl | (simp;done) | (simp [*];done)),H',⟨by have := HK1.out;omega⟩,⟨by (with_reducible repeat (first | apply Kd.R_alloc | apply Kd.R_drewN | apply Kd.R_drew));exact Kd.R_mono HO442.out (fun _ hk => trivial)⟩,⟨by repeat (first | (with_reducible first | exact HB.out | apply below_alloc | apply pw_below_drewN | apply below_drew1 | refine below_set ?_ GE436.out) | exact HB.out)⟩⟩
              · rw [if_neg c10] at H
                exact absurd H (by simp)
          · rw [if_neg c4] at H
            exact absurd H (by simp)
        · rw [if_neg c3] at H
          exact absurd H (by simp)
      · rw [if_neg c2] at H
        have c2b0 : decide (x9_1 < (l0.length : Int)) = false := decide_eq_false c2
        clear c2
        by_cases c16 : x3_1.length < 140737488355328
        · rw [if_pos c16] at H
          have LMc16 := Aside0.mk c16
          clear c16
          obtain ⟨y443,hy443⟩ : ∃ y_ : List Int,y_ = (x3_1 ++ [0]) := ⟨_,rfl⟩
          replace H : (some y443) = some r := by first | (rw [hy443];with_reducible exact H) | (have H2_ := (Option.bind_some _ _).symm.trans H;rw [hy443];with_reducible exact H2_) | (have H2_ := (Option.bind_some _ _).symm.trans H;with_reducible exact H2_) | with_reducible exact H | (rw [hy443];exact H) | exact H
          have Ny443 := Aside0.mk hy443
          clear hy443
          obtain rfl := Option.some.inj H
          go_wp2_with (first | ((with_reducible refine gate_builtin (b := .append) (xs := #[.tmp 21,.tmp 22]) rfl ?_);at_builtin;refine Kd.R_append (Kd.int .u8) (w0 := w) w.heap.size rfl (.tmp 21) (.tmp 22) 47 5 (.int .u8 0) 1 rfl Try.underlying47 info5 rfl (by decide) (by omega) u3 x3_1 0 [.int .u8 0] (fun _ => True) (fun _ => False) rfl rfl ?aP (fun _ hk => hk.elim) ?aF ?aO ?aB ?aS ?aL ?_;(case aP => exact rfl);(case aB => exact (by repeat (first | (with_reducible first | exact HB.out | apply below_alloc | apply pw_below_drewN | apply below_drew1) | exact HB.out)));(case aF => exact (fun _ _ => trivial));(case aO => exact (by (with_reducible repeat (first | apply Kd.R_alloc | apply Kd.R_drewN | apply Kd.R_drew));exact HO_3.out));(case aS => exact (below_size (by repeat (first | (with_reducible first | exact HB.out | apply below_alloc | apply pw_below_drewN | apply below_drew1) | exact HB.out))));(case aL => have := LMc16.out;omega);intro v444 w17 ho hb hg hat;rw [← Ny443.out] at ho;have n0_ := Aside0.mk (hb);have n1_ := Aside0.mk (ho);clear HB;clear HO_3;have HB := n0_;have HO445 := n1_;clear n0_ n1_;clear ho hb hg hat))
          go_ret
          exact ⟨_,by first | rfl | (simp [errW_none,errW_some] <;> rfl) | (simp [*,errW_none,errW_some] <;> rfl),by (with_reducible repeat (first | apply Kd.R_alloc | apply Kd.R_drewN | apply Kd.R_drew));exact HO445.out,by repeat (first | (with_reducible first | exact HB.out | apply below_alloc | apply pw_below_drewN | apply below_drew1) | exact HB.out)⟩
        · rw [if_neg c16] at H
          exact absurd H (by simp)
end Go.Proofs.Ytfoaeigoajooeaa.Z
end
section
namespace Go.Proofs.Ytfoaeigoajooeaa.Z
open Go.RowKit Go.Proofs.YtfoaeigoajooeaaW.PrintWords Go.Proofs.YtfoaeigoajooeaaW.PrintLast Go.Proofs.YtfoaeigoajooeaaW.PrintMore
attribute [local go_sem] max2_int min2_int max_two min_two max_three min_three max_four min_four
set_option linter.unusedVariables false
set_option linter.unusedSimpArgs false
def pack_flag.f (l0 : List Int) : Option (Int × Bool × Int × ByteArray × Int × Int) := if (l0.length : Int) = 0 then (some (0,false,0,(⟨#[]⟩ : ByteArray),0,8)) else (if 0 < (l0.length : Int) then (if (rd l0 0) > 1 then (some (0,false,0,(⟨#[]⟩ : ByteArray),0,7)) else ((value_Bool.f ((rd l0 0) == 1)).bind fun bt449 => (some (bt449.1,bt449.2.1,bt449.2.2.1,bt449.2.2.2,2,0)))) else (none))
set_option maxHeartbeats 8000000 in
set_option maxRecDepth 100000 in
theorem pack_flag.calls (A0 : Option Addr) (c0 : Nat) (l0 : List Int) (r1 : Int) (r2 : Bool) (r3 : Int) (r4 : ByteArray) (r5 : Int) (r6 : Int) (w : World) (hr0 : Kd.C (Kd.int .u8) w A0 l0.length l0) (hc0 : l0.length ≤ c0) (h : pack_flag.f l0 = some (r1,r2,r3,r4,r5,r6)) :
    Calls Try.prog 58 #[.slice A0 l0.length c0] w fun e w' => e = .returned (.tuple #[.agg #[.int .i64 r1,.bool r2,.int .i64 r3,.string r4],.int .i64 r5,.int .i64 r6]) ∧ Below w.heap.size w w' := by
  have hu50 := Try.underlying50
  have HR0 := Aside0.mk hr0
  have HC0 := Aside0.mk hc0
  clear hr0 hc0
  have HB := Aside0.mk (Below.refl w.heap.size w)
  have H : (if (l0.length : Int) = 0 then (some (0,false,0,(⟨#[]⟩ : ByteArray),0,8)) else (if 0 < (l0.length : Int) then (if (rd l0 0) > 1 then (some (0,false,0,(⟨#[]⟩ : ByteArray),0,7)) else ((value_Bool.f ((rd l0 0) == 1)).bind fun bt449 => (some (bt449.1,bt449.2.1,bt449.2.2.1,bt449.2.2.2,2,0)))) else (none))) = some (r1,r2,r3,r4,r5,r6) := h
  clear h
  by_cases c2 : (l0.length : Int) = 0
  · rw [if_pos c2] at H
    have c2b0 : ((l0.length : Int) == 0) = true := beq_iff_eq.mpr c2
    have c2b1 : ((l0.length : Int) != 0) = false := bne_eq_false_iff_eq.mpr c2
    clear c2
    simp only [Option.some.injEq,Prod.mk.injEq] at H
    obtain ⟨rfl,rfl,rfl,rfl,rfl,rfl⟩ := H
    go_enter Try.func58,Try.ntmps58
    go_wp2_with (first | ((with_reducible refine gate_dst (N := 2) rfl ?_);refine box_event ?hg (N := 2) ?hd (cs := #[.int .i64 0,.bool false,.int .i64 0,.string (⟨#[]⟩ : ByteArray)]) (t := 50) ?hr ?_;(case hd => rfl);(case hg => rfl);(case hr => first | (go_simp;done) | (go_simp;rfl));intro gb446 hg w3 hbox hb;have n0_ := Aside0.mk (below_step (by repeat (first | (with_reducible first | exact HB.out | apply below_alloc | apply pw_below_drewN | apply below_drew1) | exact HB.out)) hb);have n1_ := Aside0.mk (hbox);have n2_ := Aside0.mk ((by rw [hg];exact (below_size (by repeat (first | (with_reducible first | exact HB.out | apply below_alloc | apply pw_below_drewN | apply below_drew1) | exact HB.out))) : w.heap.size ≤ gb446));have n3_ := Aside0.mk ((by rw [hg];exact (below_size (by repeat (first | (with_reducible first | exact HB.out | apply below_alloc | apply pw_below_drewN | apply below_drew1) | exact HB.out))) : w.heap.size ≤ gb446));clear HB;have HB := n0_;have BK446 := n1_;have GW446 := n2_;have GE446 := n3_;clear n0_ n1_ n2_ n3_;clear hb hbox hg;have hcz4_0 : w3.cell? ⟨gb446,0,none⟩ = some (.int .i64 0) := (blk_cell BK446.out 0).trans rfl;have hcz4_1 : w3.cell? ⟨gb446,1,none⟩ = some (.bool false) := (blk_cell BK446.out 1).trans rfl;have hcz4_2 : w3.cell? ⟨gb446,2,none⟩ = some (.int .i64 0) := (blk_cell BK446.out 2).trans rfl;have hcz4_3 : w3.cell? ⟨gb446,3,none⟩ = some (.string (⟨#[]⟩ : ByteArray)) := (blk_cell BK446.out 3).trans rfl;have hfz4_0 := blk_frozen BK446.out 0;have hfz4_1 := blk_frozen BK446.out 1;have hfz4_2 := blk_frozen BK446.out 2;have hfz4_3 := blk_frozen BK446.out 3))
    refine bodyPost_ret (results_ctt rfl _ _ gb446 50 #[.int .i64 0,.bool false,.int .i64 0,.string (⟨#[]⟩ : ByteArray)] (0,0) _ rfl (by (with_reducible repeat (first | refine blk_drewN ?_ _ | refine blk_drew ?_ | refine blk_alloc ?_ _));refine blk_put (cs := #[.int .i64 0,.bool false,.int .i64 0,.string (⟨#[]⟩ : ByteArray)]) ?_ 3 _ rfl;(with_reducible repeat (first | refine blk_drewN ?_ _ | refine blk_drew ?_ | refine blk_alloc ?_ _));refine blk_put (cs := #[.int .i64 0,.bool false,.int .i64 0,.string (⟨#[]⟩ : ByteArray)]) ?_ 2 _ rfl;(with_reducible repeat (first | refine blk_drewN ?_ _ | refine blk_drew ?_ | refine blk_alloc ?_ _));refine blk_put (cs := #[.int .i64 0,.bool false,.int .i64 0,.string (⟨#[]⟩ : ByteArray)]) ?_ 1 _ rfl;(with_reducible repeat (first | refine blk_drewN ?_ _ | refine blk_drew ?_ | refine blk_alloc ?_ _));refine blk_put (cs := #[.int .i64 0,.bool false,.int .i64 0,.string (⟨#[]⟩ : ByteArray)]) ?_ 0 _ rfl;(with_reducible repeat (first | refine blk_drewN ?_ _ | refine blk_drew ?_ | refine blk_alloc ?_ _));exact BK446.out) Try.underlying50 rfl (by kernel_rfl)) rfl ?_
    exact ⟨by first | rfl | (simp [errW_none,errW_some] <;> rfl) | (simp [*,errW_none,errW_some] <;> rfl),by repeat (first | (with_reducible first | exact HB.out | apply below_alloc | apply pw_below_drewN | apply below_drew1 | refine below_set ?_ GE446.out) | exact HB.out)⟩
  · rw [if_neg c2] at H
    have c2b0 : ((l0.length : Int) == 0) = false := beq_eq_false_iff_ne.mpr c2
    have c2b1 : ((l0.length : Int) != 0) = true := bne_iff_ne.mpr c2
    have c2b2 : ¬ (l0 = []) := fun h_ => c2 (by rw [h_];rfl)
    by_cases c5 : 0 < (l0.length : Int)
    · rw [if_pos c5] at H
      have c5b0 : decide (0 < (l0.length : Int)) = true := decide_eq_true c5
      have c5b1 : decide (0 < l0.length) = true := decide_eq_true (by omega)
      clear c5
      by_cases c6 : (rd l0 0) > 1
      · rw [if_pos c6] at H
        have c6b0 : decide (1 < (rd l0 0)) = true := decide_eq_true c6
        clear c6
        simp only [Option.some.injEq,Prod.mk.injEq] at H
        obtain ⟨rfl,rfl,rfl,rfl,rfl,rfl⟩ := H
        go_enter Try.func58,Try.ntmps58
        go_wp2_with (first | ((with_reducible refine gate_dst (N := 2) rfl ?_);refine box_event ?hg (N := 2) ?hd (cs := #[.int .i64 0,.bool false,.int .i64 0,.string (⟨#[]⟩ : ByteArray)]) (t := 50) ?hr ?_;(case hd => rfl);(case hg => rfl);(case hr => first | (go_simp;done) | (go_simp;rfl));intro gb446 hg w7 hbox hb;have n0_ := Aside0.mk (below_step (by repeat (first | (with_reducible first | exact HB.out | apply below_alloc | apply pw_below_drewN | apply below_drew1) | exact HB.out)) hb);have n1_ := Aside0.mk (hbox);have n2_ := Aside0.mk ((by rw [hg];exact (below_size (by repeat (first | (with_reducible first | exact HB.out | apply below_alloc | apply pw_below_drewN | apply below_drew1) | exact HB.out))) : w.heap.size ≤ gb446));have n3_ := Aside0.mk ((by rw [hg];exact (below_size (by repeat (first | (with_reducible first | exact HB.out | apply below_alloc | apply pw_below_drewN | apply below_drew1) | exact HB.out))) : w.heap.size ≤ gb446));clear HB;have HB := n0_;have BK446 := n1_;have GW446 := n2_;have GE446 := n3_;clear n0_ n1_ n2_ n3_;clear hb hbox hg;have p447 : 0 ≤ (0 : Int) := (by omega);have q447 : 0 < (l0.length : Int) := of_decide_eq_true (by first | (with_reducible assumption) | assumption);obtain ⟨ad447,e447,hx447_0⟩ := Kd.at_int HR0.out 0 p447 q447;cases e447;have qi447 : (0 < l0.length) = True := eq_true (by omega);(try rw [show ((0 : Int)).toNat = 0 from rfl] at hx447_0);(try rw [Addr.add_zero'] at hx447_0);replace hx447_0 := (HB.out.cell (World.block_lt_of_cell? w _ hx447_0)).trans hx447_0;replace p447 := eq_true p447;replace q447 := eq_true q447;have hcz8_0 : w7.cell? ⟨gb446,0,none⟩ = some (.int .i64 0) := (blk_cell BK446.out 0).trans rfl;have hcz8_1 : w7.cell? ⟨gb446,1,none⟩ = some (.bool false) := (blk_cell BK446.out 1).trans rfl;have hcz8_2 : w7.cell? ⟨gb446,2,none⟩ = some (.int .i64 0) := (blk_cell BK446.out 2).trans rfl;have hcz8_3 : w7.cell? ⟨gb446,3,none⟩ = some (.string (⟨#[]⟩ : ByteArray)) := (blk_cell BK446.out 3).trans rfl;have hfz8_0 := blk_frozen BK446.out 0;have hfz8_1 := blk_frozen BK446.out 1;have hfz8_2 := blk_frozen BK446.out 2;have hfz8_3 := blk_frozen BK446.out 3))
        refine bodyPost_ret (results_ctt rfl _ _ gb446 50 #[.int .i64 0,.bool false,.int .i64 0,.string (⟨#[]⟩ : ByteArray)] (0,0) _ rfl (by (with_reducible repeat (first | refine blk_drewN ?_ _ | refine blk_drew ?_ | refine blk_alloc ?_ _));refine blk_put (cs := #[.int .i64 0,.bool false,.int .i64 0,.string (⟨#[]⟩ : ByteArray)]) ?_ 3 _ rfl;(with_reducible repeat (first | refine blk_drewN ?_ _ | refine blk_drew ?_ | refine blk_alloc ?_ _));refine blk_put (cs := #[.int .i64 0,.bool false,.int .i64 0,.string (⟨#[]⟩ : ByteArray)]) ?_ 2 _ rfl;(with_reducible repeat (first | refine blk_drewN ?_ _ | refine blk_drew ?_ | refine blk_alloc ?_ _));refine blk_put (cs := #[.int .i64 0,.bool false,.int .i64 0,.string (⟨#[]⟩ : ByteArray)]) ?_ 1 _ rfl;(with_reducible repeat (first | refine blk_drewN ?_ _ | refine blk_drew ?_ | refine blk_alloc ?_ _));refine blk_put (cs := #[.int .i64 0,.bool false,.int .i64 0,.string (⟨#[]⟩ : ByteArray)]) ?_ 0 _ rfl;(with_reducible repeat (first | refine blk_drewN ?_ _ | refine blk_drew ?_ | refine blk_alloc ?_ _));exact BK446.out) Try.underlying50 rfl (by kernel_rfl)) rfl ?_
        exact ⟨by first | rfl | (simp [errW_none,errW_some] <;> rfl) | (simp [*,errW_none,errW_some] <;> rfl),by repeat (first | (with_reducible first | exact HB.out | apply below_alloc | apply pw_below_drewN | apply below_drew1 | refine below_set ?_ GE446.out) | exact HB.out)⟩
      · rw [if_neg c6] at H
        have c6b0 : decide (1 < (rd l0 0)) = false := decide_eq_false c6
        clear c6
        replace H := Option.bind_eq_some_iff.mp H
        obtain ⟨⟨t449,t450,t451,t452⟩,A90,H⟩ := H
        replace H : (some (t449,t450,t451,t452,2,0)) = some (r1,r2,r3,r4,r5,r6) := H
        have A9 := Aside0.mk A90
        clear A90
        simp only [Option.some.injEq,Prod.mk.injEq] at H
        obtain ⟨rfl,rfl,rfl,rfl,rfl,rfl⟩ := H
        go_enter Try.func58,Try.ntmps58
        go_wp2_with (first | ((with_reducible refine gate_dst (N := 2) rfl ?_);refine box_event ?hg (N := 2) ?hd (cs := #[.int .i64 0,.bool false,.int .i64 0,.string (⟨#[]⟩ : ByteArray)]) (t := 50) ?hr ?_;(case hd => rfl);(case hg => rfl);(case hr => first | (go_simp;done) | (go_simp;rfl));intro gb446 hg w10 hbox hb;have n0_ := Aside0.mk (below_step (by repeat (first | (with_reducible first | exact HB.out | apply below_alloc | apply pw_below_drewN | apply below_drew1) | exact HB.out)) hb);have n1_ := Aside0.mk (hbox);have n2_ := Aside0.mk ((by rw [hg];exact (below_size (by repeat (first | (with_reducible first | exact HB.out | apply below_alloc | apply pw_below_drewN | apply below_drew1) | exact HB.out))) : w.heap.size ≤ gb446));have n3_ := Aside0.mk ((by rw [hg];exact (below_size (by repeat (first | (with_reducible first | exact HB.out | apply below_alloc | apply pw_below_drewN | apply below_drew1) | exact HB.out))) : w.heap.size ≤ gb446));clear HB;have HB := n0_;have BK446 := n1_;have GW446 := n2_;have GE446 := n3_;clear n0_ n1_ n2_ n3_;clear hb hbox hg;have p447 : 0 ≤ (0 : Int) := (by omega);have q447 : 0 < (l0.length : Int) := of_decide_eq_true (by first | (with_reducible assumption) | assumption);obtain ⟨ad447,e447,hx447_0⟩ := Kd.at_int HR0.out 0 p447 q447;cases e447;have qi447 : (0 < l0.length) = True := eq_true (by omega);(try rw [show ((0 : Int)).toNat = 0 from rfl] at hx447_0);(try rw [Addr.add_zero'] at hx447_0);replace hx447_0 := (HB.out.cell (World.block_lt_of_cell? w _ hx447_0)).trans hx447_0;replace p447 := eq_true p447;replace q447 := eq_true q447;have p448 : 0 ≤ (0 : Int) := (by omega);have q448 : 0 < (l0.length : Int) := of_decide_eq_true (by first | (with_reducible assumption) | assumption);obtain ⟨ad448,e448,hx448_0⟩ := Kd.at_int HR0.out 0 p448 q448;obtain rfl : ad447 = ad448 := (by injection e448);have qi448 : (0 < l0.length) = True := eq_true (by omega);(try rw [show ((0 : Int)).toNat = 0 from rfl] at hx448_0);(try rw [Addr.add_zero'] at hx448_0);replace hx448_0 := (HB.out.cell (World.block_lt_of_cell? w _ hx448_0)).trans hx448_0;replace p448 := eq_true p448;replace q448 := eq_true q448) | ((with_reducible refine gate_callee (f := 43) rfl ?_);refine goesL_ (some 20) rfl rfl Try.func43 (by kernel_rfl) rfl #[.bool ((rd l0 0) == 1)] rfl (by (try simp only [List.map_toArray,List.map_cons,List.map_nil]);first | done | rfl | (simp only [List.length_drop,List.length_take];rfl)) ?_;(with_reducible refine (value_Bool.calls ((rd l0 0) == 1) t449 t450 t451 t452 _ A9.out).mono ?_);rintro e w11 ⟨rfl,hb⟩;refine ⟨_,rfl,?_⟩;have n0_ := Aside0.mk (blk_below (g := gb446) (o := .cells #[.int .i64 0,.bool false,.int .i64 0,.string (⟨#[]⟩ : ByteArray)] 50 (0,0)) (by (with_reducible repeat (first | refine blk_drewN ?_ _ | refine blk_drew ?_ | refine blk_alloc ?_ _));exact BK446.out) hb);have n1_ := Aside0.mk (below_step (by repeat (first | (with_reducible first | exact HB.out | apply below_alloc | apply pw_below_drewN | apply below_drew1 | refine below_set ?_ GE446.out) | exact HB.out)) hb);clear BK446;clear HB;have BK446 := n0_;have HB := n1_;clear n0_ n1_;(try clear hb);(try clear hb2);(try clear hk);(try clear hi);have hcz12_0 : w11.cell? ⟨gb446,0,none⟩ = some (.int .i64 0) := (blk_cell BK446.out 0).trans rfl;have hcz12_1 : w11.cell? ⟨gb446,1,none⟩ = some (.bool false) := (blk_cell BK446.out 1).trans rfl;have hcz12_2 : w11.cell? ⟨gb446,2,none⟩ = some (.int .i64 0) := (blk_cell BK446.out 2).trans rfl;have hcz12_3 : w11.cell? ⟨gb446,3,none⟩ = some (.string (⟨#[]⟩ : ByteArray)) := (blk_cell BK446.out 3).trans rfl;have hfz12_0 := blk_frozen BK446.out 0;have hfz12_1 := blk_frozen BK446.out 1;have hfz12_2 := blk_frozen BK446.out 2;have hfz12_3 := blk_frozen BK446.out 3))
        refine bodyPost_ret (results_ctt rfl _ _ gb446 50 #[.int .i64 t449,.bool t450,.int .i64 t451,.string t452] (0,0) _ rfl (by (with_reducible repeat (first | refine blk_drewN ?_ _ | refine blk_drew ?_ | refine blk_alloc ?_ _));refine blk_put (cs := #[.int .i64 t449,.bool t450,.int .i64 t451,.string (⟨#[]⟩ : ByteArray)]) ?_ 3 _ rfl;(with_reducible repeat (first | refine blk_drewN ?_ _ | refine blk_drew ?_ | refine blk_alloc ?_ _));refine blk_put (cs := #[.int .i64 t449,.bool t450,.int .i64 0,.string (⟨#[]⟩ : ByteArray)]) ?_ 2 _ rfl;(with_reducible repeat (first | refine blk_drewN ?_ _ | refine blk_drew ?_ | refine blk_alloc ?_ _));refine blk_put (cs := #[.int .i64 t449,.bool false,.int .i64 0,.string (⟨#[]⟩ : ByteArray)]) ?_ 1 _ rfl;(with_reducible repeat (first | refine blk_drewN ?_ _ | refine blk_drew ?_ | refine blk_alloc ?_ _));refine blk_put (cs := #[.int .i64 0,.bool false,.int .i64 0,.string (⟨#[]⟩ : ByteArray)]) ?_ 0 _ rfl;(with_reducible repeat (first | refine blk_drewN ?_ _ | refine blk_drew ?_ | refine blk_alloc ?_ _));exact BK446.out) Try.underlying50 rfl (by kernel_rfl)) rfl ?_
        exact ⟨by first | rfl | (simp [errW_none,errW_some] <;> rfl) | (simp [*,errW_none,errW_some] <;> rfl),by repeat (first | (with_reducible first | exact HB.out | apply below_alloc | apply pw_below_drewN | apply below_drew1 | refine below_set ?_ GE446.out) | exact HB.out)⟩
    · rw [if_neg c5] at H
      exact absurd H (by simp)
end Go.Proofs.Ytfoaeigoajooeaa.Z
end
section
namespace Go.Proofs.Ytfoaeigoajooeaa.Z
open Go.RowKit Go.Proofs.YtfoaeigoajooeaaW.PrintWords Go.Proofs.YtfoaeigoajooeaaW.PrintLast Go.Proofs.YtfoaeigoajooeaaW.PrintMore
attribute [local go_sem] max2_int min2_int max_two min_two max_three min_three max_four min_four
set_option linter.unusedVariables false
set_option linter.unusedSimpArgs false
def pack_count.l0 : Nat → Int → List Int → Int → Int → Option (Int × Bool × Int × ByteArray × Int × Int)
  | 0,_,_,_,_ => none
  | k + 1,x5,x13,x14,x15 => if x15 < x14 then (if 0 ≤ x15 then (if x15 < (x13.length : Int) then (pack_count.l0 k (Go.bits .or .u64 (IntKind.u64.wrap (x5 * 256)) (IntKind.u64.wrap (rd x13 x15))) x13 x14 (wrap64 (x15 + 1))) else (none)) else (none)) else ((value_Int.f (wrap64 (Go.bits .xor .u64 x5 9223372036854775808))).bind fun bt456 => (some (bt456.1,bt456.2.1,bt456.2.2.1,bt456.2.2.2,9,0)))
def pack_count.f (k : Nat) (l0 : List Int) : Option (Int × Bool × Int × ByteArray × Int × Int) := if (l0.length : Int) < 8 then (some (0,false,0,(⟨#[]⟩ : ByteArray),0,8)) else (if 8 ≤ (l0.length : Int) then (pack_count.l0 k 0 (l0.take 8) ((l0.take 8).length : Int) 0) else (none))
theorem pack_count.mono_l : ∀ k,(∀ y0 y1 y2 y3,LeO (pack_count.l0 k y0 y1 y2 y3) (pack_count.l0 (k + 1) y0 y1 y2 y3))
  | 0 => fun _ _ _ _ r h => by simp [pack_count.l0] at h
  | k + 1 => by
    have ih0 := pack_count.mono_l k
    · intro y0 y1 y2 y3
      unfold pack_count.l0
      repeat' first
      | (with_reducible exact ih0 _ _ _ _)
      | (with_reducible exact LeO.refl _)
      | (with_reducible exact LeO.none _)
      | (with_reducible refine LeO.ite ?_ ?_)
      | (with_reducible refine LeO.bind ?_ (fun _ => ?_))
      | exact ih0 _ _ _ _
      | exact LeO.none _
      | refine LeO.ite ?_ ?_
      | refine LeO.bind ?_ (fun _ => ?_)
theorem pack_count.mono : ∀ a0 k,LeO (pack_count.f k a0) (pack_count.f (k + 1) a0) := by
  intro a0 k
  have ih0 := pack_count.mono_l k
  unfold pack_count.f
  repeat' first
      | (with_reducible exact ih0 _ _ _ _)
      | (with_reducible exact LeO.refl _)
      | (with_reducible exact LeO.none _)
      | (with_reducible refine LeO.ite ?_ ?_)
      | (with_reducible refine LeO.bind ?_ (fun _ => ?_))
      | exact ih0 _ _ _ _
      | exact LeO.none _
      | refine LeO.ite ?_ ?_
      | refine LeO.bind ?_ (fun _ => ?_)
set_option maxHeartbeats 8000000 in
set_option maxRecDepth 100000 in
theorem pack_count.calls (k : Nat) (A0 : Option Addr) (c0 : Nat) (l0 : List Int) (r1 : Int) (r2 : Bool) (r3 : Int) (r4 : ByteArray) (r5 : Int) (r6 : Int) (w : World) (hr0 : Kd.C (Kd.int .u8) w A0 l0.length l0) (hc0 : l0.length ≤ c0) (h : pack_count.f k l0 = some (r1,r2,r3,r4,r5,r6)) :
    Calls Try.prog 59 #[.slice A0 l0.length c0] w fun e w' => e = .returned (.tuple #[.agg #[.int .i64 r1,.bool r2,.int .i64 r3,.string r4],.int .i64 r5,.int .i64 r6]) ∧ Below w.heap.size w w' := by
  have hu50 := Try.underlying50
  have HR0 := Aside0.mk hr0
  have HC0 := Aside0.mk hc0
  clear hr0 hc0
  have HB := Aside0.mk (Below.refl w.heap.size w)
  have H : (if (l0.length : Int) < 8 then (some (0,false,0,(⟨#[]⟩ : ByteArray),0,8)) else (if 8 ≤ (l0.length : Int) then (pack_count.l0 k 0 (l0.take 8) ((l0.take 8).length : Int) 0) else (none))) = some (r1,r2,r3,r4,r5,r6) := h
  clear h
  by_cases c2 : (l0.length : Int) < 8
  · rw [if_pos c2] at H
    have c2b0 : decide ((l0.length : Int) < 8) = true := decide_eq_true c2
    have c2b1 : decide (l0.length < 8) = true := decide_eq_true (by omega)
    clear c2
    simp only [Option.some.injEq,Prod.mk.injEq] at H
    obtain ⟨rfl,rfl,rfl,rfl,rfl,rfl⟩ := H
    go_enter Try.func59,Try.ntmps59
    go_wp2_with (first | ((with_reducible refine gate_dst (N := 2) rfl ?_);refine box_event ?hg (N := 2) ?hd (cs := #[.int .i64 0,.bool false,.int .i64 0,.string (⟨#[]⟩ : ByteArray)]) (t := 50) ?hr ?_;(case hd => rfl);(case hg => rfl);(case hr => first | (go_simp;done) | (go_simp;rfl));intro gb453 hg w3 hbox hb;have n0_ := Aside0.mk (below_step (by repeat (first | (with_reducible first | exact HB.out | apply below_alloc | apply pw_below_drewN | apply below_drew1) | exact HB.out)) hb);have n1_ := Aside0.mk (hbox);have n2_ := Aside0.mk ((by rw [hg];exact (below_size (by repeat (first | (with_reducible first | exact HB.out | apply below_alloc | apply pw_below_drewN | apply below_drew1) | exact HB.out))) : w.heap.size ≤ gb453));have n3_ := Aside0.mk ((by rw [hg];exact (below_size (by repeat (first | (with_reducible first | exact HB.out | apply below_alloc | apply pw_below_drewN | apply below_drew1) | exact HB.out))) : w.heap.size ≤ gb453));clear HB;have HB := n0_;have BK453 := n1_;have GW453 := n2_;have GE453 := n3_;clear n0_ n1_ n2_ n3_;clear hb hbox hg;have hcz4_0 : w3.cell? ⟨gb453,0,none⟩ = some (.int .i64 0) := (blk_cell BK453.out 0).trans rfl;have hcz4_1 : w3.cell? ⟨gb453,1,none⟩ = some (.bool false) := (blk_cell BK453.out 1).trans rfl;have hcz4_2 : w3.cell? ⟨gb453,2,none⟩ = some (.int .i64 0) := (blk_cell BK453.out 2).trans rfl;have hcz4_3 : w3.cell? ⟨gb453,3,none⟩ = some (.string (⟨#[]⟩ : ByteArray)) := (blk_cell BK453.out 3).trans rfl;have hfz4_0 := blk_frozen BK453.out 0;have hfz4_1 := blk_frozen BK453.out 1;have hfz4_2 := blk_frozen BK453.out 2;have hfz4_3 := blk_frozen BK453.out 3))
    refine bodyPost_ret (results_ctt rfl _ _ gb453 50 #[.int .i64 0,.bool false,.int .i64 0,.string (⟨#[]⟩ : ByteArray)] (0,0) _ rfl (by (with_reducible repeat (first | refine blk_drewN ?_ _ | refine blk_drew ?_ | refine blk_alloc ?_ _));refine blk_put (cs := #[.int .i64 0,.bool false,.int .i64 0,.string (⟨#[]⟩ : ByteArray)]) ?_ 3 _ rfl;(with_reducible repeat (first | refine blk_drewN ?_ _ | refine blk_drew ?_ | refine blk_alloc ?_ _));refine blk_put (cs := #[.int .i64 0,.bool false,.int .i64 0,.string (⟨#[]⟩ : ByteArray)]) ?_ 2 _ rfl;(with_reducible repeat (first | refine blk_drewN ?_ _ | refine blk_drew ?_ | refine blk_alloc ?_ _));refine blk_put (cs := #[.int .i64 0,.bool false,.int .i64 0,.string (⟨#[]⟩ : ByteArray)]) ?_ 1 _ rfl;(with_reducible repeat (first | refine blk_drewN ?_ _ | refine blk_drew ?_ | refine blk_alloc ?_ _));refine blk_put (cs := #[.int .i64 0,.bool false,.int .i64 0,.string (⟨#[]⟩ : ByteArray)]) ?_ 0 _ rfl;(with_reducible repeat (first | refine blk_drewN ?_ _ | refine blk_drew ?_ | refine blk_alloc ?_ _));exact BK453.out) Try.underlying50 rfl (by kernel_rfl)) rfl ?_
    exact ⟨by first | rfl | (simp [errW_none,errW_some] <;> rfl) | (simp [*,errW_none,errW_some] <;> rfl),by repeat (first | (with_reducible first | exact HB.out | apply below_alloc | apply pw_below_drewN | apply below_drew1 | refine below_set ?_ GE453.out) | exact HB.out)⟩
  · rw [if_neg c2] at H
    have c2b0 : decide ((l0.length : Int) < 8) = false := decide_eq_false c2
    have c2b1 : decide (l0.length < 8) = false := decide_eq_false (by omega)
    clear c2
    by_cases c5 : 8 ≤ (l0.length : Int)
    · rw [if_pos c5] at H
      have c5b0 := eq_true c5
      have c5b1 : decide (8 ≤ (l0.length : Int)) = true := decide_eq_true c5
      clear c5
      have H' := Aside0.mk H
      clear H
      go_enter Try.func59,Try.ntmps59
      go_wp2_with (first | ((with_reducible refine gate_dst (N := 2) rfl ?_);refine box_event ?hg (N := 2) ?hd (cs := #[.int .i64 0,.bool false,.int .i64 0,.string (⟨#[]⟩ : ByteArray)]) (t := 50) ?hr ?_;(case hd => rfl);(case hg => rfl);(case hr => first | (go_simp;done) | (go_simp;rfl));intro gb453 hg w6 hbox hb;have n0_ := Aside0.mk (below_step (by repeat (first | (with_reducible first | exact HB.out | apply below_alloc | apply pw_below_drewN | apply below_drew1) | exact HB.out)) hb);have n1_ := Aside0.mk (hbox);have n2_ := Aside0.mk ((by rw [hg];exact (below_size (by repeat (first | (with_reducible first | exact HB.out | apply below_alloc | apply pw_below_drewN | apply below_drew1) | exact HB.out))) : w.heap.size ≤ gb453));have n3_ := Aside0.mk ((by rw [hg];exact (below_size (by repeat (first | (with_reducible first | exact HB.out | apply below_alloc | apply pw_below_drewN | apply below_drew1) | exact HB.out))) : w.heap.size ≤ gb453));clear HB;have HB := n0_;have BK453 := n1_;have GW453 := n2_;have GE453 := n3_;clear n0_ n1_ n2_ n3_;clear hb hbox hg;obtain ⟨i07,hi07,_,hsz7,_⟩ := info_parts info5;obtain ⟨hcut7,hA7,hC7⟩ := print_take_of (P := Try.prog) (Value.int .u8) 0 47 5 .i64 Try.underlying47 hi07 hsz7 A0 c0 l0 8 (by omega) (of_decide_eq_true (by first | (with_reducible assumption) | assumption)) HC0.out;have HR454 := Aside0.mk (Kd.C_of_reads (h1 := fun _ => rfl) (hA7 _ (Kd.reads_of_C HR0.out)));have HC454 := Aside0.mk hC7;clear hA7 hC7 hi07 hsz7))
      go_loopg [5,15] k (fun kq v5 v15 w' => ∃ (x5_1 : Int) (x15_1 : Int),v5 = .int .u64 x5_1 ∧ v15 = .int .i64 x15_1 ∧ Aside0 (pack_count.l0 kq x5_1 (l0.take 8) ((l0.take 8).length : Int) x15_1 = some (r1,r2,r3,r4,r5,r6)) ∧ Aside0 (kq ≤ k) ∧ Aside0 (w'.heap[gb453]? = some (.cells #[.int .i64 0,.bool false,.int .i64 0,.string (⟨#[]⟩ : ByteArray)] 50 (0,0))) ∧ Aside0 (Below w.heap.size w w'))
      case atStart => exact ⟨(0),(0),(by first | rfl | (simp;done) | (simp [*];done)),(by first | rfl | (simp;done) | (simp [*];done)),H',⟨Nat.le_refl _⟩,⟨by (with_reducible repeat (first | refine blk_drewN ?_ _ | refine blk_drew ?_ | refine blk_alloc ?_ _));exact BK453.out⟩,⟨by repeat (first | (with_reducible first | exact HB.out | apply below_alloc | apply pw_below_drewN | apply below_drew1 | refine below_set ?_ GE453.out) | exact HB.out)⟩⟩
      case round =>
        clear H'
        try clear c2
        try clear c2b0
        try clear c2b1
        try clear p2
        try clear c5
        try clear c5b0
        try clear c5b1
        try clear hcz4_0
        try clear hcz4_1
        try clear hcz4_2
        try clear hcz4_3
        try clear hfz4_0
        try clear hfz4_1
        try clear hfz4_2
        try clear hfz4_3
        obtain ⟨x5_1,x15_1,rfl,rfl,HA,HK1,BK453,HB⟩ := hrel
        cases gk with
        | zero => exact absurd HA.out (by simp [pack_count.l0])
        | succ k1 =>
          have H := HA.out
          clear HA
          simp only [pack_count.l0] at H
          by_cases c8 : x15_1 < ((l0.take 8).length : Int)
          · rw [if_pos c8] at H
            have c8b0 : decide (x15_1 < ((l0.take 8).length : Int)) = true := decide_eq_true c8
            have c8m : decide (x15_1 < ((min 8 l0.length : Nat) : Int)) = true := by have hm_ := c8b0;rw [List.length_take] at hm_;exact hm_
            clear c8
            by_cases c9 : 0 ≤ x15_1
            · rw [if_pos c9] at H
              have c9b0 : decide (0 ≤ x15_1) = true := decide_eq_true c9
              clear c9
              by_cases c10 : x15_1 < ((l0.take 8).length : Int)
              · rw [if_pos c10] at H
                have c10b0 : decide (x15_1 < ((l0.take 8).length : Int)) = true := decide_eq_true c10
                have c10m : decide (x15_1 < ((min 8 l0.length : Nat) : Int)) = true := by have hm_ := c10b0;rw [List.length_take] at hm_;exact hm_
                clear c10
                have H' := Aside0.mk H
                clear H
                have p455 : 0 ≤ (x15_1 : Int) := of_decide_eq_true (by first | (with_reducible assumption) | assumption)
                have q455 : x15_1 < ((l0.take 8).length : Int) := of_decide_eq_true (by first | (with_reducible assumption) | assumption)
                obtain ⟨ad455,e455,hx455_0⟩ := Kd.at_int HR454.out x15_1 p455 q455
                cases e455
                replace hx455_0 := (HB.out.cell (World.block_lt_of_cell? w _ hx455_0)).trans hx455_0
                replace p455 := eq_true p455
                replace q455 := eq_true q455
                have q455m : (x15_1 < ((min 8 l0.length : Nat) : Int)) = True := by have hm_ := q455;rw [List.length_take] at hm_;exact hm_
                go_wp2
                go_roundg k1
                case measure => have := HK1.out;omega
                case rel => exact ⟨(Go.bits .or .u64 (IntKind.u64.wrap (x5_1 * 256)) (IntKind.u64.wrap (rd (l0.take 8) x15_1))),(wrap64 (x15_1 + 1)),(by first | rfl | (simp;done) | (simp [*];done)),(by first | rfl | (simp;done) | (simp [*];done)),H',⟨by have := HK1.out;omega⟩,⟨by (with_reducible repeat (first | refine blk_drewN ?_ _ | refine blk_drew ?_ | refine blk_alloc ?_ _));exact BK453.out⟩,⟨by repeat (first | (with_reducible first | exact HB.out | apply below_alloc | apply pw_below_drewN | apply below_drew1 | refine below_set ?_ GE453.out) | exact HB.out)⟩⟩
              · rw [if_neg c10] at H
                exact absurd H (by simp)
            · rw [if_neg c9] at H
              exact absurd H (by simp)
          · rw [if_neg c8] at H
            have c8b0 : decide (x15_1 < ((l0.take 8).length : Int)) = false := decide_eq_false c8
            have c8m : decide (x15_1 < ((min 8 l0.length : Nat) : Int)) = false := by have hm_ := c8b0;rw [List.length_take] at hm_;exact hm_
            clear c8
            replace H := Option.bind_eq_some_iff.mp H
            obtain ⟨⟨t456,t457,t458,t459⟩,A110,H⟩ := H
            replace H : (some (t456,t457,t458,t459,9,0)) = some (r1,r2,r3,r4,r5,r6) := H
            have A11 := Aside0.mk A110
            clear A110
            simp only [Option.some.injEq,Prod.mk.injEq] at H
            obtain ⟨rfl,rfl,rfl,rfl,rfl,rfl⟩ := H
            go_wp2_with (first | ((with_reducible refine gate_callee (f := 42) rfl ?_);refine goesL_ (some 28) rfl rfl Try.func42 (by kernel_rfl) rfl #[.int .i64 (wrap64 (Go.bits .xor .u64 x5_1 9223372036854775808))] rfl (by (try simp only [List.map_toArray,List.map_cons,List.map_nil]);first | done | rfl | (simp only [List.length_drop,List.length_take];rfl)) ?_;(with_reducible refine (value_Int.calls (wrap64 (Go.bits .xor .u64 x5_1 9223372036854775808)) t456 t457 t458 t459 _ A11.out).mono ?_);rintro e w12 ⟨rfl,hb⟩;refine ⟨_,rfl,?_⟩;have n0_ := Aside0.mk (blk_below (g := gb453) (o := .cells #[.int .i64 0,.bool false,.int .i64 0,.string (⟨#[]⟩ : ByteArray)] 50 (0,0)) (by (with_reducible repeat (first | refine blk_drewN ?_ _ | refine blk_drew ?_ | refine blk_alloc ?_ _));exact BK453.out) hb);have n1_ := Aside0.mk (below_step (by repeat (first | (with_reducible first | exact HB.out | apply below_alloc | apply pw_below_drewN | apply below_drew1 | refine below_set ?_ GE453.out) | exact HB.out)) hb);clear BK453;clear HB;have BK453 := n0_;have HB := n1_;clear n0_ n1_;(try clear hb);(try clear hb2);(try clear hk);(try clear hi);have hcz13_0 : w12.cell? ⟨gb453,0,none⟩ = some (.int .i64 0) := (blk_cell BK453.out 0).trans rfl;have hcz13_1 : w12.cell? ⟨gb453,1,none⟩ = some (.bool false) := (blk_cell BK453.out 1).trans rfl;have hcz13_2 : w12.cell? ⟨gb453,2,none⟩ = some (.int .i64 0) := (blk_cell BK453.out 2).trans rfl;have hcz13_3 : w12.cell? ⟨gb453,3,none⟩ = some (.string (⟨#[]⟩ : ByteArray)) := (blk_cell BK453.out 3).trans rfl;have hfz13_0 := blk_frozen BK453.out 0;have hfz13_1 := blk_frozen BK453.out 1;have hfz13_2 := blk_frozen BK453.out 2;have hfz13_3 := blk_frozen BK453.out 3))
            refine bodyPost_ret (results_ctt rfl _ _ gb453 50 #[.int .i64 t456,.bool t457,.int .i64 t458,.string t459] (0,0) _ rfl (by (with_reducible repeat (first | refine blk_drewN ?_ _ | refine blk_drew ?_ | refine blk_alloc ?_ _));refine blk_put (cs := #[.int .i64 t456,.bool t457,.int .i64 t458,.string (⟨#[]⟩ : ByteArray)]) ?_ 3 _ rfl;(with_reducible repeat (first | refine blk_drewN ?_ _ | refine blk_drew ?_ | refine blk_alloc ?_ _));refine blk_put (cs := #[.int .i64 t456,.bool t457,.int .i64 0,.string (⟨#[]⟩ : ByteArray)]) ?_ 2 _ rfl;(with_reducible repeat (first | refine blk_drewN ?_ _ | refine blk_drew ?_ | refine blk_alloc ?_ _));refine blk_put (cs := #[.int .i64 t456,.bool false,.int .i64 0,.string (⟨#[]⟩ : ByteArray)]) ?_ 1 _ rfl;(with_reducible repeat (first | refine blk_drewN ?_ _ | refine blk_drew ?_ | refine blk_alloc ?_ _));refine blk_put (cs := #[.int .i64 0,.bool false,.int .i64 0,.string (⟨#[]⟩ : ByteArray)]) ?_ 0 _ rfl;(with_reducible repeat (first | refine blk_drewN ?_ _ | refine blk_drew ?_ | refine blk_alloc ?_ _));exact BK453.out) Try.underlying50 rfl (by kernel_rfl)) rfl ?_
            exact ⟨by first | rfl | (simp [errW_none,errW_some] <;> rfl) | (simp [*,errW_none,errW_some] <;> rfl),by repeat (first | (with_reducible first | exact HB.out | apply below_alloc | apply pw_below_drewN | apply below_drew1 | refine below_set ?_ GE453.out) | exact HB.out)⟩
    · rw [if_neg c5] at H
      exact absurd H (by simp)
end Go.Proofs.Ytfoaeigoajooeaa.Z
end
section
namespace Go.Proofs.Ytfoaeigoajooeaa.Z
open Go.RowKit Go.Proofs.YtfoaeigoajooeaaW.PrintWords Go.Proofs.YtfoaeigoajooeaaW.PrintLast Go.Proofs.YtfoaeigoajooeaaW.PrintMore
attribute [local go_sem] max2_int min2_int max_two min_two max_three min_three max_four min_four
set_option linter.unusedVariables false
set_option linter.unusedSimpArgs false
def pack_cut.l0 : Nat → List Int → List Int → Int → Option (ByteArray × Int × Int)
  | 0,_,_,_ => none
  | k + 1,x0,x5,x6 => if x6 < (x0.length : Int) then (if 0 ≤ x6 then (if (rd x0 x6) = 0 then (if (wrap64 (x6 + 1)) = (x0.length : Int) then (some ((⟨#[]⟩ : ByteArray),0,8)) else (if 0 ≤ (wrap64 (x6 + 1)) then (if (wrap64 (x6 + 1)) < (x0.length : Int) then (if (rd x0 (wrap64 (x6 + 1))) = 1 then (some (strOfNums x5,wrap64 ((wrap64 (x6 + 1)) + 1),0)) else (if (rd x0 (wrap64 (x6 + 1))) = 255 then (if (x5.length : Int) = 60 then (some ((⟨#[]⟩ : ByteArray),0,9)) else (if x5.length < 140737488355328 then (pack_cut.l0 k x0 (x5 ++ [rd x0 x6]) (wrap64 ((wrap64 (x6 + 1)) + 1))) else (none))) else (some ((⟨#[]⟩ : ByteArray),0,7)))) else (none)) else (none))) else (if (x5.length : Int) = 60 then (some ((⟨#[]⟩ : ByteArray),0,9)) else (if x5.length < 140737488355328 then (pack_cut.l0 k x0 (x5 ++ [rd x0 x6]) (wrap64 (x6 + 1))) else (none)))) else (none)) else (some ((⟨#[]⟩ : ByteArray),0,8))
def pack_cut.f (k : Nat) (l0 : List Int) : Option (ByteArray × Int × Int) := pack_cut.l0 k l0 ([] : List Int) 0
theorem pack_cut.mono_l : ∀ k,(∀ y0 y1 y2,LeO (pack_cut.l0 k y0 y1 y2) (pack_cut.l0 (k + 1) y0 y1 y2))
  | 0 => fun _ _ _ r h => by simp [pack_cut.l0] at h
  | k + 1 => by
    have ih0 := pack_cut.mono_l k
    · intro y0 y1 y2
      unfold pack_cut.l0
      repeat' first
      | (with_reducible exact ih0 _ _ _)
      | (with_reducible exact LeO.refl _)
      | (with_reducible exact LeO.none _)
      | (with_reducible refine LeO.ite ?_ ?_)
      | (with_reducible refine LeO.bind ?_ (fun _ => ?_))
      | exact ih0 _ _ _
      | exact LeO.none _
      | refine LeO.ite ?_ ?_
      | refine LeO.bind ?_ (fun _ => ?_)
theorem pack_cut.mono : ∀ a0 k,LeO (pack_cut.f k a0) (pack_cut.f (k + 1) a0) := by
  intro a0 k
  have ih0 := pack_cut.mono_l k
  unfold pack_cut.f
  repeat' first
      | (with_reducible exact ih0 _ _ _)
      | (with_reducible exact LeO.refl _)
      | (with_reducible exact LeO.none _)
      | (with_reducible refine LeO.ite ?_ ?_)
      | (with_reducible refine LeO.bind ?_ (fun _ => ?_))
      | exact ih0 _ _ _
      | exact LeO.none _
      | refine LeO.ite ?_ ?_
      | refine LeO.bind ?_ (fun _ => ?_)
set_option maxHeartbeats 8000000 in
set_option maxRecDepth 100000 in
theorem pack_cut.calls (k : Nat) (A0 : Option Addr) (c0 : Nat) (l0 : List Int) (r1 : ByteArray) (r2 : Int) (r3 : Int) (w : World) (hr0 : Kd.C (Kd.int .u8) w A0 l0.length l0) (hc0 : l0.length ≤ c0) (h : pack_cut.f k l0 = some (r1,r2,r3)) :
    Calls Try.prog 60 #[.slice A0 l0.length c0] w fun e w' => e = .returned (.tuple #[.string r1,.int .i64 r2,.int .i64 r3]) ∧ Below w.heap.size w w' := by
  have HR0 := Aside0.mk hr0
  have HC0 := Aside0.mk hc0
  clear hr0 hc0
  have HB := Aside0.mk (Below.refl w.heap.size w)
  have H : (pack_cut.l0 k l0 ([] : List Int) 0) = some (r1,r2,r3) := h
  clear h
  have H' := Aside0.mk H
  clear H
  go_enter Try.func60,Try.ntmps60
  go_wp2
  go_step3
  go_wp2
  go_step3
  go_wp2
  go_loopg [5,6] k (fun kq v5 v6 w' => ∃ (x5_1 : List Int) (x6_1 : Int),v6 = .int .i64 x6_1 ∧ Aside0 (pack_cut.l0 kq l0 x5_1 x6_1 = some (r1,r2,r3)) ∧ Aside0 (kq ≤ k) ∧ Aside0 (Kd.R (Kd.int .u8) 5 w' w.heap.size (fun _ => True) v5 x5_1) ∧ Aside0 (Below w.heap.size w w'))
  case atStart => exact ⟨(([] : List Int)),(0),(by first | rfl | (simp;done) | (simp [*];done)),H',⟨Nat.le_refl _⟩,⟨by first | exact Kd.R_nil _ _ _ _ _ | exact Kd.N_nil _ _ _ _ _ | exact Kd.V_nil _ _ _ _ _ | exact Kd.Q_nil _ _ _ _ _ | exact Kd.S_nil _ _ _ _ _⟩,⟨by repeat (first | (with_reducible first | exact HB.out | apply below_alloc | apply pw_below_drewN | apply below_drew1) | exact HB.out)⟩⟩
  case round =>
    clear H'
    obtain ⟨x5_1,x6_1,rfl,HA,HK1,HO_5,HB⟩ := hrel
    cases gk with
    | zero => exact absurd HA.out (by simp [pack_cut.l0])
    | succ k1 =>
      have H := HA.out
      clear HA
      simp only [pack_cut.l0] at H
      by_cases c2 : x6_1 < (l0.length : Int)
      · rw [if_pos c2] at H
        have c2b0 : decide (x6_1 < (l0.length : Int)) = true := decide_eq_true c2
        clear c2
        by_cases c3 : 0 ≤ x6_1
        · rw [if_pos c3] at H
          have c3b0 : decide (0 ≤ x6_1) = true := decide_eq_true c3
          clear c3
          by_cases c4 : (rd l0 x6_1) = 0
          · rw [if_pos c4] at H
            have c4b0 : ((rd l0 x6_1) == 0) = true := beq_iff_eq.mpr c4
            have c4b1 : ((rd l0 x6_1) != 0) = false := bne_eq_false_iff_eq.mpr c4
            clear c4
            by_cases c5 : (wrap64 (x6_1 + 1)) = (l0.length : Int)
            · rw [if_pos c5] at H
              have c5b0 : ((wrap64 (x6_1 + 1)) == (l0.length : Int)) = true := beq_iff_eq.mpr c5
              have c5b1 : ((wrap64 (x6_1 + 1)) != (l0.length : Int)) = false := bne_eq_false_iff_eq.mpr c5
              clear c5
              simp only [Option.some.injEq,Prod.mk.injEq] at H
              obtain ⟨rfl,rfl,rfl⟩ := H
              have p460 : 0 ≤ (x6_1 : Int) := of_decide_eq_true (by first | (with_reducible assumption) | assumption)
              have q460 : x6_1 < (l0.length : Int) := of_decide_eq_true (by first | (with_reducible assumption) | assumption)
              obtain ⟨ad460,e460,hx460_0⟩ := Kd.at_int HR0.out x6_1 p460 q460
              cases e460
              replace hx460_0 := (HB.out.cell (World.block_lt_of_cell? w _ hx460_0)).trans hx460_0
              replace p460 := eq_true p460
              replace q460 := eq_true q460
              go_wp2
              (try rw [Exit.noGoto_ret])
              go_ret3
              exact ⟨by first | rfl | (simp [errW_none,errW_some] <;> rfl) | (simp [*,errW_none,errW_some] <;> rfl),by repeat (first | (with_reducible first | exact HB.out | apply below_alloc | apply pw_below_drewN | apply below_drew1) | exact HB.out)⟩
            · rw [if_neg c5] at H
              have c5b0 : ((wrap64 (x6_1 + 1)) == (l0.length : Int)) = false := beq_eq_false_iff_ne.mpr c5
              have c5b1 : ((wrap64 (x6_1 + 1)) != (l0.length : Int)) = true := bne_iff_ne.mpr c5
              obtain ⟨ji6,hji6⟩ : ∃ j_ : Int,(wrap64 (x6_1 + 1)) = j_ := ⟨_,rfl⟩
              replace H : (if 0 ≤ (ji6) then (if (ji6) < (l0.length : Int) then (if (rd l0 (ji6)) = 1 then (some (strOfNums x5_1,wrap64 ((ji6) + 1),0)) else (if (rd l0 (ji6)) = 255 then (if (x5_1.length : Int) = 60 then (some ((⟨#[]⟩ : ByteArray),0,9)) else (if x5_1.length < 140737488355328 then (pack_cut.l0 k1 l0 (x5_1 ++ [rd l0 x6_1]) (wrap64 ((ji6) + 1))) else (none))) else (some ((⟨#[]⟩ : ByteArray),0,7)))) else (none)) else (none)) = some (r1,r2,r3) := by first | (rw [hji6] at H;exact H) | (simp only [hji6] at H ⊢;exact H)
              (try rw [hji6] at c5b0)
              (try rw [hji6] at c5b1)
              have hji6w : (IntKind.i64.wrap (x6_1 + 1)) = ji6 := (i64_w _).trans hji6
              by_cases c7 : 0 ≤ (ji6)
              · rw [if_pos c7] at H
                have c7b0 : decide (0 ≤ (ji6)) = true := decide_eq_true c7
                clear c7
                by_cases c8 : (ji6) < (l0.length : Int)
                · rw [if_pos c8] at H
                  have c8b0 : decide ((ji6) < (l0.length : Int)) = true := decide_eq_true c8
                  clear c8
                  by_cases c9 : (rd l0 (ji6)) = 1
                  · rw [if_pos c9] at H
                    have c9b0 : ((rd l0 (ji6)) == 1) = true := beq_iff_eq.mpr c9
                    have c9b1 : ((rd l0 (ji6)) != 1) = false := bne_eq_false_iff_eq.mpr c9
                    clear c9
                    simp only [Option.some.injEq,Prod.mk.injEq] at H
                    obtain ⟨rfl,rfl,rfl⟩ := H
                    have p460 : 0 ≤ (x6_1 : Int) := of_decide_eq_true (by first | (with_reducible assumption) | assumption)
                    have q460 : x6_1 < (l0.length : Int) := of_decide_eq_true (by first | (with_reducible assumption) | assumption)
                    obtain ⟨ad460,e460,hx460_0⟩ := Kd.at_int HR0.out x6_1 p460 q460
                    cases e460
                    replace hx460_0 := (HB.out.cell (World.block_lt_of_cell? w _ hx460_0)).trans hx460_0
                    replace p460 := eq_true p460
                    replace q460 := eq_true q460
                    have p461 : 0 ≤ ((ji6) : Int) := of_decide_eq_true (by first | (with_reducible assumption) | assumption)
                    have q461 : (ji6) < (l0.length : Int) := of_decide_eq_true (by first | (with_reducible assumption) | assumption)
                    obtain ⟨ad461,e461,hx461_0⟩ := Kd.at_int HR0.out (ji6) p461 q461
                    obtain rfl : ad460 = ad461 := (by injection e461)
                    replace hx461_0 := (HB.out.cell (World.block_lt_of_cell? w _ hx461_0)).trans hx461_0
                    replace p461 := eq_true p461
                    replace q461 := eq_true q461
                    have hcv10 := own_string (P := Try.prog) Try.underlying47 Try.underlying5 Try.underlying9 (Kd.own_of_R HO_5.out)
                    go_wp2
                    (try rw [Exit.noGoto_ret])
                    go_ret3
                    exact ⟨by first | rfl | (simp [errW_none,errW_some] <;> rfl) | (simp only [← hji6];first | rfl | (simp [errW_none,errW_some] <;> rfl)) | (simp [*,errW_none,errW_some] <;> rfl),by repeat (first | (with_reducible first | exact HB.out | apply below_alloc | apply pw_below_drewN | apply below_drew1) | exact HB.out)⟩
                  · rw [if_neg c9] at H
                    have c9b0 : ((rd l0 (ji6)) == 1) = false := beq_eq_false_iff_ne.mpr c9
                    have c9b1 : ((rd l0 (ji6)) != 1) = true := bne_iff_ne.mpr c9
                    by_cases c11 : (rd l0 (ji6)) = 255
                    · rw [if_pos c11] at H
                      have c11b0 : ((rd l0 (ji6)) == 255) = true := beq_iff_eq.mpr c11
                      have c11b1 : ((rd l0 (ji6)) != 255) = false := bne_eq_false_iff_eq.mpr c11
                      clear c11
                      by_cases c12 : (x5_1.length : Int) = 60
                      · rw [if_pos c12] at H
                        have c12b0 : ((x5_1.length : Int) == 60) = true := beq_iff_eq.mpr c12
                        have c12b1 : ((x5_1.length : Int) != 60) = false := bne_eq_false_iff_eq.mpr c12
                        clear c12
                        simp only [Option.some.injEq,Prod.mk.injEq] at H
                        obtain ⟨rfl,rfl,rfl⟩ := H
                        have p460 : 0 ≤ (x6_1 : Int) := of_decide_eq_true (by first | (with_reducible assumption) | assumption)
                        have q460 : x6_1 < (l0.length : Int) := of_decide_eq_true (by first | (with_reducible assumption) | assumption)
                        obtain ⟨ad460,e460,hx460_0⟩ := Kd.at_int HR0.out x6_1 p460 q460
                        cases e460
                        replace hx460_0 := (HB.out.cell (World.block_lt_of_cell? w _ hx460_0)).trans hx460_0
                        replace p460 := eq_true p460
                        replace q460 := eq_true q460
                        have p461 : 0 ≤ ((ji6) : Int) := of_decide_eq_true (by first | (with_reducible assumption) | assumption)
                        have q461 : (ji6) < (l0.length : Int) := of_decide_eq_true (by first | (with_reducible assumption) | assumption)
                        obtain ⟨ad461,e461,hx461_0⟩ := Kd.at_int HR0.out (ji6) p461 q461
                        obtain rfl : ad460 = ad461 := (by injection e461)
                        replace hx461_0 := (HB.out.cell (World.block_lt_of_cell? w _ hx461_0)).trans hx461_0
                        replace p461 := eq_true p461
                        replace q461 := eq_true q461
                        have p462 : 0 ≤ ((ji6) : Int) := of_decide_eq_true (by first | (with_reducible assumption) | assumption)
                        have q462 : (ji6) < (l0.length : Int) := of_decide_eq_true (by first | (with_reducible assumption) | assumption)
                        obtain ⟨ad462,e462,hx462_0⟩ := Kd.at_int HR0.out (ji6) p462 q462
                        obtain rfl : ad460 = ad462 := (by injection e462)
                        replace hx462_0 := (HB.out.cell (World.block_lt_of_cell? w _ hx462_0)).trans hx462_0
                        replace p462 := eq_true p462
                        replace q462 := eq_true q462
                        obtain ⟨Ao13,co13,eo13⟩ := Kd.R_slice HO_5.out
                        subst eo13
                        go_wp2
                        (try rw [Exit.noGoto_ret])
                        go_ret3
                        exact ⟨by first | rfl | (simp [errW_none,errW_some] <;> rfl) | (simp only [← hji6];first | rfl | (simp [errW_none,errW_some] <;> rfl)) | (simp [*,errW_none,errW_some] <;> rfl),by repeat (first | (with_reducible first | exact HB.out | apply below_alloc | apply pw_below_drewN | apply below_drew1) | exact HB.out)⟩
                      · rw [if_neg c12] at H
                        have c12b0 : ((x5_1.length : Int) == 60) = false := beq_eq_false_iff_ne.mpr c12
                        have c12b1 : ((x5_1.length : Int) != 60) = true := bne_iff_ne.mpr c12
                        by_cases c14 : x5_1.length < 140737488355328
                        · rw [if_pos c14] at H
                          have LMc14 := Aside0.mk c14
                          clear c14
                          obtain ⟨y463,hy463⟩ : ∃ y_ : List Int,y_ = (x5_1 ++ [rd l0 x6_1]) := ⟨_,rfl⟩
                          replace H : (pack_cut.l0 k1 l0 y463 (wrap64 ((ji6) + 1))) = some (r1,r2,r3) := by first | (rw [hy463];with_reducible exact H) | (have H2_ := (Option.bind_some _ _).symm.trans H;rw [hy463];with_reducible exact H2_) | (have H2_ := (Option.bind_some _ _).symm.trans H;with_reducible exact H2_) | with_reducible exact H | (rw [hy463];exact H) | exact H
                          have Ny463 := Aside0.mk hy463
                          clear hy463
                          have H' := Aside0.mk H
                          clear H
                          have p460 : 0 ≤ (x6_1 : Int) := of_decide_eq_true (by first | (with_reducible assumption) | assumption)
                          have q460 : x6_1 < (l0.length : Int) := of_decide_eq_true (by first | (with_reducible assumption) | assumption)
                          obtain ⟨ad460,e460,hx460_0⟩ := Kd.at_int HR0.out x6_1 p460 q460
                          cases e460
                          replace hx460_0 := (HB.out.cell (World.block_lt_of_cell? w _ hx460_0)).trans hx460_0
                          replace p460 := eq_true p460
                          replace q460 := eq_true q460
                          have p461 : 0 ≤ ((ji6) : Int) := of_decide_eq_true (by first | (with_reducible assumption) | assumption)
                          have q461 : (ji6) < (l0.length : Int) := of_decide_eq_true (by first | (with_reducible assumption) | assumption)
                          obtain ⟨ad461,e461,hx461_0⟩ := Kd.at_int HR0.out (ji6) p461 q461
                          obtain rfl : ad460 = ad461 := (by injection e461)
                          replace hx461_0 := (HB.out.cell (World.block_lt_of_cell? w _ hx461_0)).trans hx461_0
                          replace p461 := eq_true p461
                          replace q461 := eq_true q461
                          have p462 : 0 ≤ ((ji6) : Int) := of_decide_eq_true (by first | (with_reducible assumption) | assumption)
                          have q462 : (ji6) < (l0.length : Int) := of_decide_eq_true (by first | (with_reducible assumption) | assumption)
                          obtain ⟨ad462,e462,hx462_0⟩ := Kd.at_int HR0.out (ji6) p462 q462
                          obtain rfl : ad460 = ad462 := (by injection e462)
                          replace hx462_0 := (HB.out.cell (World.block_lt_of_cell? w _ hx462_0)).trans hx462_0
                          replace p462 := eq_true p462
                          replace q462 := eq_true q462
                          obtain ⟨Ao15,co15,eo15⟩ := Kd.R_slice HO_5.out
                          subst eo15
                          go_wp2_with (first | ((with_reducible refine gate_builtin (b := .append) (xs := #[.tmp 46,.tmp 48]) rfl ?_);at_builtin;refine Kd.R_append (Kd.int .u8) (w0 := w) w.heap.size rfl (.tmp 46) (.tmp 48) 47 5 (.int .u8 0) 1 rfl Try.underlying47 info5 rfl (by decide) (by omega) (.slice Ao15 x5_1.length co15) x5_1 (rd l0 x6_1) [.int .u8 (rd l0 x6_1)] (fun _ => True) (fun _ => False) rfl rfl ?aP (fun _ hk => hk.elim) ?aF ?aO ?aB ?aS ?aL ?_;(case aP => exact rfl);(case aB => exact (by repeat (first | (with_reducible first | exact HB.out | apply below_alloc | apply pw_below_drewN | apply below_drew1) | exact HB.out)));(case aF => exact (fun _ _ => trivial));(case aO => exact (by (with_reducible repeat (first | apply Kd.R_alloc | apply Kd.R_drewN | apply Kd.R_drew));exact HO_5.out));(case aS => exact (below_size (by repeat (first | (with_reducible first | exact HB.out | apply below_alloc | apply pw_below_drewN | apply below_drew1) | exact HB.out))));(case aL => have := LMc14.out;omega);intro v464 w16 ho hb hg hat;rw [← Ny463.out] at ho;have n0_ := Aside0.mk (hb);have n1_ := Aside0.mk (ho);clear HB;clear HO_5;have HB := n0_;have HO465 := n1_;clear n0_ n1_;clear ho hb hg hat))
                          go_roundg k1
                          case measure => have := HK1.out;omega
                          case rel => exact ⟨(y463),(wrap64 ((ji6) + 1)),(by first | rfl | (simp;done) | (simp only [← hji6] <;> (first | rfl | simp)) | (simp [*];done)),H',⟨by have := HK1.out;omega⟩,⟨by (with_reducible repeat (first | apply Kd.R_alloc | apply Kd.R_drewN | apply Kd.R_drew));exact HO465.out⟩,⟨by repeat (first | (with_reducible first | exact HB.out | apply below_alloc | apply pw_below_drewN | apply below_drew1) | exact HB.out)⟩⟩
                        · rw [if_neg c14] at H
                          exact absurd H (by simp)
                    · rw [if_neg c11] at H
                      have c11b0 : ((rd l0 (ji6)) == 255) = false := beq_eq_false_iff_ne.mpr c11
                      have c11b1 : ((rd l0 (ji6)) != 255) = true := bne_iff_ne.mpr c11
                      simp only [Option.some.injEq,Prod.mk.injEq] at H
                      obtain ⟨rfl,rfl,rfl⟩ := H
                      have p460 : 0 ≤ (x6_1 : Int) := of_decide_eq_true (by first | (with_reducible assumption) | assumption)
                      have q460 : x6_1 < (l0.length : Int) := of_decide_eq_true (by first | (with_reducible assumption) | assumption)
                      obtain ⟨ad460,e460,hx460_0⟩ := Kd.at_int HR0.out x6_1 p460 q460
                      cases e460
                      replace hx460_0 := (HB.out.cell (World.block_lt_of_cell? w _ hx460_0)).trans hx460_0
                      replace p460 := eq_true p460
                      replace q460 := eq_true q460
                      have p461 : 0 ≤ ((ji6) : Int) := of_decide_eq_true (by first | (with_reducible assumption) | assumption)
                      have q461 : (ji6) < (l0.length : Int) := of_decide_eq_true (by first | (with_reducible assumption) | assumption)
                      obtain ⟨ad461,e461,hx461_0⟩ := Kd.at_int HR0.out (ji6) p461 q461
                      obtain rfl : ad460 = ad461 := (by injection e461)
                      replace hx461_0 := (HB.out.cell (World.block_lt_of_cell? w _ hx461_0)).trans hx461_0
                      replace p461 := eq_true p461
                      replace q461 := eq_true q461
                      have p462 : 0 ≤ ((ji6) : Int) := of_decide_eq_true (by first | (with_reducible assumption) | assumption)
                      have q462 : (ji6) < (l0.length : Int) := of_decide_eq_true (by first | (with_reducible assumption) | assumption)
                      obtain ⟨ad462,e462,hx462_0⟩ := Kd.at_int HR0.out (ji6) p462 q462
                      obtain rfl : ad460 = ad462 := (by injection e462)
                      replace hx462_0 := (HB.out.cell (World.block_lt_of_cell? w _ hx462_0)).trans hx462_0
                      replace p462 := eq_true p462
                      replace q462 := eq_true q462
                      go_wp2
                      (try rw [Exit.noGoto_ret])
                      go_ret3
                      exact ⟨by first | rfl | (simp [errW_none,errW_some] <;> rfl) | (simp only [← hji6];first | rfl | (simp [errW_none,errW_some] <;> rfl)) | (simp [*,errW_none,errW_some] <;> rfl),by repeat (first | (with_reducible first | exact HB.out | apply below_alloc | apply pw_below_drewN | apply below_drew1) | exact HB.out)⟩
                · rw [if_neg c8] at H
                  exact absurd H (by simp)
              · rw [if_neg c7] at H
                exact absurd H (by simp)
          · rw [if_neg c4] at H
            have c4b0 : ((rd l0 x6_1) == 0) = false := beq_eq_false_iff_ne.mpr c4
            have c4b1 : ((rd l0 x6_1) != 0) = true := bne_iff_ne.mpr c4
            by_cases c17 : (x5_1.length : Int) = 60
            · rw [if_pos c17] at H
              have c17b0 : ((x5_1.length : Int) == 60) = true := beq_iff_eq.mpr c17
              have c17b1 : ((x5_1.length : Int) != 60) = false := bne_eq_false_iff_eq.mpr c17
              clear c17
              simp only [Option.some.injEq,Prod.mk.injEq] at H
              obtain ⟨rfl,rfl,rfl⟩ := H
              have p460 : 0 ≤ (x6_1 : Int) := of_decide_eq_true (by first | (with_reducible assumption) | assumption)
              have q460 : x6_1 < (l0.length : Int) := of_decide_eq_true (by first | (with_reducible assumption) | assumption)
              obtain ⟨ad460,e460,hx460_0⟩ := Kd.at_int HR0.out x6_1 p460 q460
              cases e460
              replace hx460_0 := (HB.out.cell (World.block_lt_of_cell? w _ hx460_0)).trans hx460_0
              replace p460 := eq_true p460
              replace q460 := eq_true q460
              obtain ⟨Ao18,co18,eo18⟩ := Kd.R_slice HO_5.out
              subst eo18
              go_wp2
              (try rw [Exit.noGoto_ret])
              go_ret3
              exact ⟨by first | rfl | (simp [errW_none,errW_some] <;> rfl) | (simp [*,errW_none,errW_some] <;> rfl),by repeat (first | (with_reducible first | exact HB.out | apply below_alloc | apply pw_below_drewN | apply below_drew1) | exact HB.out)⟩
            · rw [if_neg c17] at H
              have c17b0 : ((x5_1.length : Int) == 60) = false := beq_eq_false_iff_ne.mpr c17
              have c17b1 : ((x5_1.length : Int) != 60) = true := bne_iff_ne.mpr c17
              by_cases c19 : x5_1.length < 140737488355328
              · rw [if_pos c19] at H
                have LMc19 := Aside0.mk c19
                clear c19
                obtain ⟨y466,hy466⟩ : ∃ y_ : List Int,y_ = (x5_1 ++ [rd l0 x6_1]) := ⟨_,rfl⟩
                replace H : (pack_cut.l0 k1 l0 y466 (wrap64 (x6_1 + 1))) = some (r1,r2,r3) := by first | (rw [hy466];with_reducible exact H) | (have H2_ := (Option.bind_some _ _).symm.trans H;rw [hy466];with_reducible exact H2_) | (have H2_ := (Option.bind_some _ _).symm.trans H;with_reducible exact H2_) | with_reducible exact H | (rw [hy466];exact H) | exact H
                have Ny466 := Aside0.mk hy466
                clear hy466
                have H' := Aside0.mk H
                clear H
                have p460 : 0 ≤ (x6_1 : Int) := of_decide_eq_true (by first | (with_reducible assumption) | assumption)
                have q460 : x6_1 < (l0.length : Int) := of_decide_eq_true (by first | (with_reducible assumption) | assumption)
                obtain ⟨ad460,e460,hx460_0⟩ := Kd.at_int HR0.out x6_1 p460 q460
                cases e460
                replace hx460_0 := (HB.out.cell (World.block_lt_of_cell? w _ hx460_0)).trans hx460_0
                replace p460 := eq_true p460
                replace q460 := eq_true q460
                obtain ⟨Ao20,co20,eo20⟩ := Kd.R_slice HO_5.out
                subst eo20
                go_wp2_with (first | ((with_reducible refine gate_builtin (b := .append) (xs := #[.tmp 46,.tmp 48]) rfl ?_);at_builtin;refine Kd.R_append (Kd.int .u8) (w0 := w) w.heap.size rfl (.tmp 46) (.tmp 48) 47 5 (.int .u8 0) 1 rfl Try.underlying47 info5 rfl (by decide) (by omega) (.slice Ao20 x5_1.length co20) x5_1 (rd l0 x6_1) [.int .u8 (rd l0 x6_1)] (fun _ => True) (fun _ => False) rfl rfl ?aP (fun _ hk => hk.elim) ?aF ?aO ?aB ?aS ?aL ?_;(case aP => exact rfl);(case aB => exact (by repeat (first | (with_reducible first | exact HB.out | apply below_alloc | apply pw_below_drewN | apply below_drew1) | exact HB.out)));(case aF => exact (fun _ _ => trivial));(case aO => exact (by (with_reducible repeat (first | apply Kd.R_alloc | apply Kd.R_drewN | apply Kd.R_drew));exact HO_5.out));(case aS => exact (below_size (by repeat (first | (with_reducible first | exact HB.out | apply below_alloc | apply pw_below_drewN | apply below_drew1) | exact HB.out))));(case aL => have := LMc19.out;omega);intro v467 w21 ho hb hg hat;rw [← Ny466.out] at ho;have n0_ := Aside0.mk (hb);have n1_ := Aside0.mk (ho);clear HB;clear HO_5;have HB := n0_;have HO468 := n1_;clear n0_ n1_;clear ho hb hg hat))
                go_roundg k1
                case measure => have := HK1.out;omega
                case rel => exact ⟨(y466),(wrap64 (x6_1 + 1)),(by first | rfl | (simp;done) | (simp [*];done)),H',⟨by have := HK1.out;omega⟩,⟨by (with_reducible repeat (first | apply Kd.R_alloc | apply Kd.R_drewN | apply Kd.R_drew));exact HO468.out⟩,⟨by repeat (first | (with_reducible first | exact HB.out | apply below_alloc | apply pw_below_drewN | apply below_drew1) | exact HB.out)⟩⟩
              · rw [if_neg c19] at H
                exact absurd H (by simp)
        · rw [if_neg c3] at H
          exact absurd H (by simp)
      · rw [if_neg c2] at H
        have c2b0 : decide (x6_1 < (l0.length : Int)) = false := decide_eq_false c2
        clear c2
        simp only [Option.some.injEq,Prod.mk.injEq] at H
        obtain ⟨rfl,rfl,rfl⟩ := H
        go_wp2
        (try rw [Exit.noGoto_ret])
        go_ret3
        exact ⟨by first | rfl | (simp [errW_none,errW_some] <;> rfl) | (simp [*,errW_none,errW_some] <;> rfl),by repeat (first | (with_reducible first | exact HB.out | apply below_alloc | apply pw_below_drewN | apply below_drew1) | exact HB.out)⟩
end Go.Proofs.Ytfoaeigoajooeaa.Z
end
section
namespace Go.Proofs.Ytfoaeigoajooeaa.Z
open Go.RowKit Go.Proofs.YtfoaeigoajooeaaW.PrintWords Go.Proofs.YtfoaeigoajooeaaW.PrintLast Go.Proofs.YtfoaeigoajooeaaW.PrintMore
attribute [local go_sem] max2_int min2_int max_two min_two max_three min_three max_four min_four
set_option linter.unusedVariables false
set_option linter.unusedSimpArgs false
def pack_First.f (k : Nat) (l0 : List Int) : Option (Int × Bool × Int × ByteArray × Int × Int) := if (l0.length : Int) = 0 then (some (0,false,0,(⟨#[]⟩ : ByteArray),0,8)) else (if 0 < (l0.length : Int) then (if (rd l0 0) = 1 then ((value_Null.f).bind fun bt471 => (some (bt471.1,bt471.2.1,bt471.2.2.1,bt471.2.2.2,1,0))) else (if (rd l0 0) = 2 then (if 1 ≤ (l0.length : Int) then ((pack_flag.f (l0.drop 1)).bind fun bt476 => (some (bt476.1,bt476.2.1,bt476.2.2.1,bt476.2.2.2.1,bt476.2.2.2.2.1,bt476.2.2.2.2.2))) else (none)) else (if (rd l0 0) = 3 then (if 1 ≤ (l0.length : Int) then ((pack_count.f k (l0.drop 1)).bind fun bt483 => (some (bt483.1,bt483.2.1,bt483.2.2.1,bt483.2.2.2.1,bt483.2.2.2.2.1,bt483.2.2.2.2.2))) else (none)) else (if (rd l0 0) = 4 then (if 1 ≤ (l0.length : Int) then ((pack_cut.f k (l0.drop 1)).bind fun bt490 => (if bt490.2.2 = 0 then ((value_Text.f bt490.1).bind fun bt493 => (some (bt493.1,bt493.2.1,bt493.2.2.1,bt493.2.2.2,wrap64 (1 + bt490.2.1),0))) else (some (0,false,0,(⟨#[]⟩ : ByteArray),0,bt490.2.2)))) else (none)) else (some (0,false,0,(⟨#[]⟩ : ByteArray),0,7)))))) else (none))
theorem pack_First.mono : ∀ a0 k,LeO (pack_First.f k a0) (pack_First.f (k + 1) a0) := by
  intro a0 k
  unfold pack_First.f
  repeat' first
      | (with_reducible exact pack_count.mono _ _)
      | (with_reducible exact pack_cut.mono _ _)
      | (with_reducible exact LeO.refl _)
      | (with_reducible exact LeO.none _)
      | (with_reducible refine LeO.ite ?_ ?_)
      | (with_reducible refine LeO.bind ?_ (fun _ => ?_))
      | exact pack_count.mono _ _
      | exact pack_cut.mono _ _
      | exact LeO.none _
      | refine LeO.ite ?_ ?_
      | refine LeO.bind ?_ (fun _ => ?_)
set_option maxHeartbeats 8000000 in
set_option maxRecDepth 100000 in
theorem pack_First.calls (k : Nat) (A0 : Option Addr) (c0 : Nat) (l0 : List Int) (r1 : Int) (r2 : Bool) (r3 : Int) (r4 : ByteArray) (r5 : Int) (r6 : Int) (w : World) (hr0 : Kd.C (Kd.int .u8) w A0 l0.length l0) (hc0 : l0.length ≤ c0) (h : pack_First.f k l0 = some (r1,r2,r3,r4,r5,r6)) :
    Calls Try.prog 37 #[.slice A0 l0.length c0] w fun e w' => e = .returned (.tuple #[.agg #[.int .i64 r1,.bool r2,.int .i64 r3,.string r4],.int .i64 r5,.int .i64 r6]) ∧ Below w.heap.size w w' := by
  have hu50 := Try.underlying50
  have HR0 := Aside0.mk hr0
  have HC0 := Aside0.mk hc0
  clear hr0 hc0
  have HB := Aside0.mk (Below.refl w.heap.size w)
  have H : (if (l0.length : Int) = 0 then (some (0,false,0,(⟨#[]⟩ : ByteArray),0,8)) else (if 0 < (l0.length : Int) then (if (rd l0 0) = 1 then ((value_Null.f).bind fun bt471 => (some (bt471.1,bt471.2.1,bt471.2.2.1,bt471.2.2.2,1,0))) else (if (rd l0 0) = 2 then (if 1 ≤ (l0.length : Int) then ((pack_flag.f (l0.drop 1)).bind fun bt476 => (some (bt476.1,bt476.2.1,bt476.2.2.1,bt476.2.2.2.1,bt476.2.2.2.2.1,bt476.2.2.2.2.2))) else (none)) else (if (rd l0 0) = 3 then (if 1 ≤ (l0.length : Int) then ((pack_count.f k (l0.drop 1)).bind fun bt483 => (some (bt483.1,bt483.2.1,bt483.2.2.1,bt483.2.2.2.1,bt483.2.2.2.2.1,bt483.2.2.2.2.2))) else (none)) else (if (rd l0 0) = 4 then (if 1 ≤ (l0.length : Int) then ((pack_cut.f k (l0.drop 1)).bind fun bt490 => (if bt490.2.2 = 0 then ((value_Text.f bt490.1).bind fun bt493 => (some (bt493.1,bt493.2.1,bt493.2.2.1,bt493.2.2.2,wrap64 (1 + bt490.2.1),0))) else (some (0,false,0,(⟨#[]⟩ : ByteArray),0,bt490.2.2)))) else (none)) else (some (0,false,0,(⟨#[]⟩ : ByteArray),0,7)))))) else (none))) = some (r1,r2,r3,r4,r5,r6) := h
  clear h
  by_cases c2 : (l0.length : Int) = 0
  · rw [if_pos c2] at H
    have c2b0 : ((l0.length : Int) == 0) = true := beq_iff_eq.mpr c2
    have c2b1 : ((l0.length : Int) != 0) = false := bne_eq_false_iff_eq.mpr c2
    clear c2
    simp only [Option.some.injEq,Prod.mk.injEq] at H
    obtain ⟨rfl,rfl,rfl,rfl,rfl,rfl⟩ := H
    go_enter Try.func37,Try.ntmps37
    go_wp2_with (first | ((with_reducible refine gate_dst (N := 2) rfl ?_);refine box_event ?hg (N := 2) ?hd (cs := #[.int .i64 0,.bool false,.int .i64 0,.string (⟨#[]⟩ : ByteArray)]) (t := 50) ?hr ?_;(case hd => rfl);(case hg => rfl);(case hr => first | (go_simp;done) | (go_simp;rfl));intro gb469 hg w3 hbox hb;have n0_ := Aside0.mk (below_step (by repeat (first | (with_reducible first | exact HB.out | apply below_alloc | apply pw_below_drewN | apply below_drew1) | exact HB.out)) hb);have n1_ := Aside0.mk (hbox);have n2_ := Aside0.mk ((by rw [hg];exact (below_size (by repeat (first | (with_reducible first | exact HB.out | apply below_alloc | apply pw_below_drewN | apply below_drew1) | exact HB.out))) : w.heap.size ≤ gb469));have n3_ := Aside0.mk ((by rw [hg];exact (below_size (by repeat (first | (with_reducible first | exact HB.out | apply below_alloc | apply pw_below_drewN | apply below_drew1) | exact HB.out))) : w.heap.size ≤ gb469));clear HB;have HB := n0_;have BK469 := n1_;have GW469 := n2_;have GE469 := n3_;clear n0_ n1_ n2_ n3_;clear hb hbox hg;have hcz4_0 : w3.cell? ⟨gb469,0,none⟩ = some (.int .i64 0) := (blk_cell BK469.out 0).trans rfl;have hcz4_1 : w3.cell? ⟨gb469,1,none⟩ = some (.bool false) := (blk_cell BK469.out 1).trans rfl;have hcz4_2 : w3.cell? ⟨gb469,2,none⟩ = some (.int .i64 0) := (blk_cell BK469.out 2).trans rfl;have hcz4_3 : w3.cell? ⟨gb469,3,none⟩ = some (.string (⟨#[]⟩ : ByteArray)) := (blk_cell BK469.out 3).trans rfl;have hfz4_0 := blk_frozen BK469.out 0;have hfz4_1 := blk_frozen BK469.out 1;have hfz4_2 := blk_frozen BK469.out 2;have hfz4_3 := blk_frozen BK469.out 3))
    refine bodyPost_ret (results_ctt rfl _ _ gb469 50 #[.int .i64 0,.bool false,.int .i64 0,.string (⟨#[]⟩ : ByteArray)] (0,0) _ rfl (by (with_reducible repeat (first | refine blk_drewN ?_ _ | refine blk_drew ?_ | refine blk_alloc ?_ _));refine blk_put (cs := #[.int .i64 0,.bool false,.int .i64 0,.string (⟨#[]⟩ : ByteArray)]) ?_ 3 _ rfl;(with_reducible repeat (first | refine blk_drewN ?_ _ | refine blk_drew ?_ | refine blk_alloc ?_ _));refine blk_put (cs := #[.int .i64 0,.bool false,.int .i64 0,.string (⟨#[]⟩ : ByteArray)]) ?_ 2 _ rfl;(with_reducible repeat (first | refine blk_drewN ?_ _ | refine blk_drew ?_ | refine blk_alloc ?_ _));refine blk_put (cs := #[.int .i64 0,.bool false,.int .i64 0,.string (⟨#[]⟩ : ByteArray)]) ?_ 1 _ rfl;(with_reducible repeat (first | refine blk_drewN ?_ _ | refine blk_drew ?_ | refine blk_alloc ?_ _));refine blk_put (cs := #[.int .i64 0,.bool false,.int .i64 0,.string (⟨#[]⟩ : ByteArray)]) ?_ 0 _ rfl;(with_reducible repeat (first | refine blk_drewN ?_ _ | refine blk_drew ?_ | refine blk_alloc ?_ _));exact BK469.out) Try.underlying50 rfl (by kernel_rfl)) rfl ?_
    exact ⟨by first | rfl | (simp [errW_none,errW_some] <;> rfl) | (simp [*,errW_none,errW_some] <;> rfl),by repeat (first | (with_reducible first | exact HB.out | apply below_alloc | apply pw_below_drewN | apply below_drew1 | refine below_set ?_ GE469.out) | exact HB.out)⟩
  · rw [if_neg c2] at H
    have c2b0 : ((l0.length : Int) == 0) = false := beq_eq_false_iff_ne.mpr c2
    have c2b1 : ((l0.length : Int) != 0) = true := bne_iff_ne.mpr c2
    have c2b2 : ¬ (l0 = []) := fun h_ => c2 (by rw [h_];rfl)
    by_cases c5 : 0 < (l0.length : Int)
    · rw [if_pos c5] at H
      have c5b0 : decide (0 < (l0.length : Int)) = true := decide_eq_true c5
      have c5b1 : decide (0 < l0.length) = true := decide_eq_true (by omega)
      clear c5
      by_cases c6 : (rd l0 0) = 1
      · rw [if_pos c6] at H
        have c6b0 : ((rd l0 0) == 1) = true := beq_iff_eq.mpr c6
        have c6b1 : ((rd l0 0) != 1) = false := bne_eq_false_iff_eq.mpr c6
        clear c6
        replace H := Option.bind_eq_some_iff.mp H
        obtain ⟨⟨t471,t472,t473,t474⟩,A70,H⟩ := H
        replace H : (some (t471,t472,t473,t474,1,0)) = some (r1,r2,r3,r4,r5,r6) := H
        have A7 := Aside0.mk A70
        clear A70
        simp only [Option.some.injEq,Prod.mk.injEq] at H
        obtain ⟨rfl,rfl,rfl,rfl,rfl,rfl⟩ := H
        go_enter Try.func37,Try.ntmps37
        go_wp2_with (first | ((with_reducible refine gate_dst (N := 2) rfl ?_);refine box_event ?hg (N := 2) ?hd (cs := #[.int .i64 0,.bool false,.int .i64 0,.string (⟨#[]⟩ : ByteArray)]) (t := 50) ?hr ?_;(case hd => rfl);(case hg => rfl);(case hr => first | (go_simp;done) | (go_simp;rfl));intro gb469 hg w8 hbox hb;have n0_ := Aside0.mk (below_step (by repeat (first | (with_reducible first | exact HB.out | apply below_alloc | apply pw_below_drewN | apply below_drew1) | exact HB.out)) hb);have n1_ := Aside0.mk (hbox);have n2_ := Aside0.mk ((by rw [hg];exact (below_size (by repeat (first | (with_reducible first | exact HB.out | apply below_alloc | apply pw_below_drewN | apply below_drew1) | exact HB.out))) : w.heap.size ≤ gb469));have n3_ := Aside0.mk ((by rw [hg];exact (below_size (by repeat (first | (with_reducible first | exact HB.out | apply below_alloc | apply pw_below_drewN | apply below_drew1) | exact HB.out))) : w.heap.size ≤ gb469));clear HB;have HB := n0_;have BK469 := n1_;have GW469 := n2_;have GE469 := n3_;clear n0_ n1_ n2_ n3_;clear hb hbox hg;have p470 : 0 ≤ (0 : Int) := (by omega);have q470 : 0 < (l0.length : Int) := of_decide_eq_true (by first | (with_reducible assumption) | assumption);obtain ⟨ad470,e470,hx470_0⟩ := Kd.at_int HR0.out 0 p470 q470;cases e470;have qi470 : (0 < l0.length) = True := eq_true (by omega);(try rw [show ((0 : Int)).toNat = 0 from rfl] at hx470_0);(try rw [Addr.add_zero'] at hx470_0);replace hx470_0 := (HB.out.cell (World.block_lt_of_cell? w _ hx470_0)).trans hx470_0;replace p470 := eq_true p470;replace q470 := eq_true q470) | ((with_reducible refine gate_callee (f := 44) rfl ?_);refine goesL_ (some 17) rfl rfl Try.func44 (by kernel_rfl) rfl #[] rfl (by (try simp only [List.map_toArray,List.map_cons,List.map_nil]);first | done | rfl | (simp only [List.length_drop,List.length_take];rfl)) ?_;(with_reducible refine (value_Null.calls  t471 t472 t473 t474 _ A7.out).mono ?_);rintro e w9 ⟨rfl,hb⟩;refine ⟨_,rfl,?_⟩;have n0_ := Aside0.mk (blk_below (g := gb469) (o := .cells #[.int .i64 0,.bool false,.int .i64 0,.string (⟨#[]⟩ : ByteArray)] 50 (0,0)) (by (with_reducible repeat (first | refine blk_drewN ?_ _ | refine blk_drew ?_ | refine blk_alloc ?_ _));exact BK469.out) hb);have n1_ := Aside0.mk (below_step (by repeat (first | (with_reducible first | exact HB.out | apply below_alloc | apply pw_below_drewN | apply below_drew1 | refine below_set ?_ GE469.out) | exact HB.out)) hb);clear BK469;clear HB;have BK469 := n0_;have HB := n1_;clear n0_ n1_;(try clear hb);(try clear hb2);(try clear hk);(try clear hi);have hcz10_0 : w9.cell? ⟨gb469,0,none⟩ = some (.int .i64 0) := (blk_cell BK469.out 0).trans rfl;have hcz10_1 : w9.cell? ⟨gb469,1,none⟩ = some (.bool false) := (blk_cell BK469.out 1).trans rfl;have hcz10_2 : w9.cell? ⟨gb469,2,none⟩ = some (.int .i64 0) := (blk_cell BK469.out 2).trans rfl;have hcz10_3 : w9.cell? ⟨gb469,3,none⟩ = some (.string (⟨#[]⟩ : ByteArray)) := (blk_cell BK469.out 3).trans rfl;have hfz10_0 := blk_frozen BK469.out 0;have hfz10_1 := blk_frozen BK469.out 1;have hfz10_2 := blk_frozen BK469.out 2;have hfz10_3 := blk_frozen BK469.out 3))
        refine bodyPost_ret (results_ctt rfl _ _ gb469 50 #[.int .i64 t471,.bool t472,.int .i64 t473,.string t474] (0,0) _ rfl (by (with_reducible repeat (first | refine blk_drewN ?_ _ | refine blk_drew ?_ | refine blk_alloc ?_ _));refine blk_put (cs := #[.int .i64 t471,.bool t472,.int .i64 t473,.string (⟨#[]⟩ : ByteArray)]) ?_ 3 _ rfl;(with_reducible repeat (first | refine blk_drewN ?_ _ | refine blk_drew ?_ | refine blk_alloc ?_ _));refine blk_put (cs := #[.int .i64 t471,.bool t472,.int .i64 0,.string (⟨#[]⟩ : ByteArray)]) ?_ 2 _ rfl;(with_reducible repeat (first | refine blk_drewN ?_ _ | refine blk_drew ?_ | refine blk_alloc ?_ _));refine blk_put (cs := #[.int .i64 t471,.bool false,.int .i64 0,.string (⟨#[]⟩ : ByteArray)]) ?_ 1 _ rfl;(with_reducible repeat (first | refine blk_drewN ?_ _ | refine blk_drew ?_ | refine blk_alloc ?_ _));refine blk_put (cs := #[.int .i64 0,.bool false,.int .i64 0,.string (⟨#[]⟩ : ByteArray)]) ?_ 0 _ rfl;(with_reducible repeat (first | refine blk_drewN ?_ _ | refine blk_drew ?_ | refine blk_alloc ?_ _));exact BK469.out) Try.underlying50 rfl (by kernel_rfl)) rfl ?_
        exact ⟨by first | rfl | (simp [errW_none,errW_some] <;> rfl) | (simp [*,errW_none,errW_some] <;> rfl),by repeat (first | (with_reducible first | exact HB.out | apply below_alloc | apply pw_below_drewN | apply below_drew1 | refine below_set ?_ GE469.out) | exact HB.out)⟩
      · rw [if_neg c6] at H
        have c6b0 : ((rd l0 0) == 1) = false := beq_eq_false_iff_ne.mpr c6
        have c6b1 : ((rd l0 0) != 1) = true := bne_iff_ne.mpr c6
        by_cases c11 : (rd l0 0) = 2
        · rw [if_pos c11] at H
          have c11b0 : ((rd l0 0) == 2) = true := beq_iff_eq.mpr c11
          have c11b1 : ((rd l0 0) != 2) = false := bne_eq_false_iff_eq.mpr c11
          clear c11
          by_cases c12 : 1 ≤ (l0.length : Int)
          · rw [if_pos c12] at H
            have c12b0 := eq_true c12
            have c12b1 : decide (1 ≤ (l0.length : Int)) = true := decide_eq_true c12
            clear c12
            replace H := Option.bind_eq_some_iff.mp H
            obtain ⟨⟨t476,t477,t478,t479,t480,t481⟩,A130,H⟩ := H
            replace H : (some (t476,t477,t478,t479,t480,t481)) = some (r1,r2,r3,r4,r5,r6) := H
            have A13 := Aside0.mk A130
            clear A130
            simp only [Option.some.injEq,Prod.mk.injEq] at H
            obtain ⟨rfl,rfl,rfl,rfl,rfl,rfl⟩ := H
            go_enter Try.func37,Try.ntmps37
            go_wp2_with (first | ((with_reducible refine gate_dst (N := 2) rfl ?_);refine box_event ?hg (N := 2) ?hd (cs := #[.int .i64 0,.bool false,.int .i64 0,.string (⟨#[]⟩ : ByteArray)]) (t := 50) ?hr ?_;(case hd => rfl);(case hg => rfl);(case hr => first | (go_simp;done) | (go_simp;rfl));intro gb469 hg w14 hbox hb;have n0_ := Aside0.mk (below_step (by repeat (first | (with_reducible first | exact HB.out | apply below_alloc | apply pw_below_drewN | apply below_drew1) | exact HB.out)) hb);have n1_ := Aside0.mk (hbox);have n2_ := Aside0.mk ((by rw [hg];exact (below_size (by repeat (first | (with_reducible first | exact HB.out | apply below_alloc | apply pw_below_drewN | apply below_drew1) | exact HB.out))) : w.heap.size ≤ gb469));have n3_ := Aside0.mk ((by rw [hg];exact (below_size (by repeat (first | (with_reducible first | exact HB.out | apply below_alloc | apply pw_below_drewN | apply below_drew1) | exact HB.out))) : w.heap.size ≤ gb469));clear HB;have HB := n0_;have BK469 := n1_;have GW469 := n2_;have GE469 := n3_;clear n0_ n1_ n2_ n3_;clear hb hbox hg;have p470 : 0 ≤ (0 : Int) := (by omega);have q470 : 0 < (l0.length : Int) := of_decide_eq_true (by first | (with_reducible assumption) | assumption);obtain ⟨ad470,e470,hx470_0⟩ := Kd.at_int HR0.out 0 p470 q470;cases e470;have qi470 : (0 < l0.length) = True := eq_true (by omega);(try rw [show ((0 : Int)).toNat = 0 from rfl] at hx470_0);(try rw [Addr.add_zero'] at hx470_0);replace hx470_0 := (HB.out.cell (World.block_lt_of_cell? w _ hx470_0)).trans hx470_0;replace p470 := eq_true p470;replace q470 := eq_true q470;obtain ⟨i015,hi015,_,hsz15,_⟩ := info_parts info5;obtain ⟨A15,hcut15,hA15,hC15⟩ := print_drop_of (P := Try.prog) (Value.int .u8) 0 47 5 .i64 Try.underlying47 hi015 hsz15 (some ad470) c0 l0 1 (by omega) (of_decide_eq_true (by first | (with_reducible assumption) | assumption)) HC0.out;have HR475 := Aside0.mk (Kd.C_of_reads (h1 := fun _ => rfl) (hA15 _ (Kd.reads_of_C HR0.out)));have HC475 := Aside0.mk hC15;clear hA15 hC15 hi015 hsz15) | ((with_reducible refine gate_callee (f := 58) rfl ?_);refine goesL_ (some 22) rfl rfl Try.func58 (by kernel_rfl) rfl #[.slice A15 (l0.drop 1).length (c0 - 1)] rfl (by (try simp only [List.map_toArray,List.map_cons,List.map_nil]);first | done | (rw [show (l0.drop 1).length = (l0.length - 1) from List.length_drop] <;> rfl) | rfl | (simp only [List.length_drop,List.length_take];rfl)) ?_;(with_reducible refine (pack_flag.calls _ _ (l0.drop 1) t476 t477 t478 t479 t480 t481 _ ?side1 ?side2 A13.out).mono ?_);(case side1 => repeat (first | exact (Kd.C_below HR475.out HB.out) | (with_reducible refine Kd.C_alloc ?_ _) | (with_reducible refine Kd.C_drewN ?_ _) | (with_reducible refine Kd.C_drew ?_)));(case side2 => exact HC475.out);rintro e w16 ⟨rfl,hb⟩;refine ⟨_,rfl,?_⟩;have n0_ := Aside0.mk (blk_below (g := gb469) (o := .cells #[.int .i64 0,.bool false,.int .i64 0,.string (⟨#[]⟩ : ByteArray)] 50 (0,0)) (by (with_reducible repeat (first | refine blk_drewN ?_ _ | refine blk_drew ?_ | refine blk_alloc ?_ _));exact BK469.out) hb);have n1_ := Aside0.mk (below_step (by repeat (first | (with_reducible first | exact HB.out | apply below_alloc | apply pw_below_drewN | apply below_drew1 | refine below_set ?_ GE469.out) | exact HB.out)) hb);clear BK469;clear HB;have BK469 := n0_;have HB := n1_;clear n0_ n1_;(try clear hb);(try clear hb2);(try clear hk);(try clear hi);have hcz17_0 : w16.cell? ⟨gb469,0,none⟩ = some (.int .i64 0) := (blk_cell BK469.out 0).trans rfl;have hcz17_1 : w16.cell? ⟨gb469,1,none⟩ = some (.bool false) := (blk_cell BK469.out 1).trans rfl;have hcz17_2 : w16.cell? ⟨gb469,2,none⟩ = some (.int .i64 0) := (blk_cell BK469.out 2).trans rfl;have hcz17_3 : w16.cell? ⟨gb469,3,none⟩ = some (.string (⟨#[]⟩ : ByteArray)) := (blk_cell BK469.out 3).trans rfl;have hfz17_0 := blk_frozen BK469.out 0;have hfz17_1 := blk_frozen BK469.out 1;have hfz17_2 := blk_frozen BK469.out 2;have hfz17_3 := blk_frozen BK469.out 3))
            refine bodyPost_ret (results_ctt rfl _ _ gb469 50 #[.int .i64 t476,.bool t477,.int .i64 t478,.string t479] (0,0) _ rfl (by (with_reducible repeat (first | refine blk_drewN ?_ _ | refine blk_drew ?_ | refine blk_alloc ?_ _));refine blk_put (cs := #[.int .i64 t476,.bool t477,.int .i64 t478,.string (⟨#[]⟩ : ByteArray)]) ?_ 3 _ rfl;(with_reducible repeat (first | refine blk_drewN ?_ _ | refine blk_drew ?_ | refine blk_alloc ?_ _));refine blk_put (cs := #[.int .i64 t476,.bool t477,.int .i64 0,.string (⟨#[]⟩ : ByteArray)]) ?_ 2 _ rfl;(with_reducible repeat (first | refine blk_drewN ?_ _ | refine blk_drew ?_ | refine blk_alloc ?_ _));refine blk_put (cs := #[.int .i64 t476,.bool false,.int .i64 0,.string (⟨#[]⟩ : ByteArray)]) ?_ 1 _ rfl;(with_reducible repeat (first | refine blk_drewN ?_ _ | refine blk_drew ?_ | refine blk_alloc ?_ _));refine blk_put (cs := #[.int .i64 0,.bool false,.int .i64 0,.string (⟨#[]⟩ : ByteArray)]) ?_ 0 _ rfl;(with_reducible repeat (first | refine blk_drewN ?_ _ | refine blk_drew ?_ | refine blk_alloc ?_ _));exact BK469.out) Try.underlying50 rfl (by kernel_rfl)) rfl ?_
            exact ⟨by first | rfl | (simp [errW_none,errW_some] <;> rfl) | (simp [*,errW_none,errW_some] <;> rfl),by repeat (first | (with_reducible first | exact HB.out | apply below_alloc | apply pw_below_drewN | apply below_drew1 | refine below_set ?_ GE469.out) | exact HB.out)⟩
          · rw [if_neg c12] at H
            exact absurd H (by simp)
        · rw [if_neg c11] at H
          have c11b0 : ((rd l0 0) == 2) = false := beq_eq_false_iff_ne.mpr c11
          have c11b1 : ((rd l0 0) != 2) = true := bne_iff_ne.mpr c11
          by_cases c18 : (rd l0 0) = 3
          · rw [if_pos c18] at H
            have c18b0 : ((rd l0 0) == 3) = true := beq_iff_eq.mpr c18
            have c18b1 : ((rd l0 0) != 3) = false := bne_eq_false_iff_eq.mpr c18
            clear c18
            by_cases c19 : 1 ≤ (l0.length : Int)
            · rw [if_pos c19] at H
              have c19b0 := eq_true c19
              have c19b1 : decide (1 ≤ (l0.length : Int)) = true := decide_eq_true c19
              clear c19
              replace H := Option.bind_eq_some_iff.mp H
              obtain ⟨⟨t483,t484,t485,t486,t487,t488⟩,A200,H⟩ := H
              replace H : (some (t483,t484,t485,t486,t487,t488)) = some (r1,r2,r3,r4,r5,r6) := H
              have A20 := Aside0.mk A200
              clear A200
              simp only [Option.some.injEq,Prod.mk.injEq] at H
              obtain ⟨rfl,rfl,rfl,rfl,rfl,rfl⟩ := H
              go_enter Try.func37,Try.ntmps37
              go_wp2_with (first | ((with_reducible refine gate_dst (N := 2) rfl ?_);refine box_event ?hg (N := 2) ?hd (cs := #[.int .i64 0,.bool false,.int .i64 0,.string (⟨#[]⟩ : ByteArray)]) (t := 50) ?hr ?_;(case hd => rfl);(case hg => rfl);(case hr => first | (go_simp;done) | (go_simp;rfl));intro gb469 hg w21 hbox hb;have n0_ := Aside0.mk (below_step (by repeat (first | (with_reducible first | exact HB.out | apply below_alloc | apply pw_below_drewN | apply below_drew1) | exact HB.out)) hb);have n1_ := Aside0.mk (hbox);have n2_ := Aside0.mk ((by rw [hg];exact (below_size (by repeat (first | (with_reducible first | exact HB.out | apply below_alloc | apply pw_below_drewN | apply below_drew1) | exact HB.out))) : w.heap.size ≤ gb469));have n3_ := Aside0.mk ((by rw [hg];exact (below_size (by repeat (first | (with_reducible first | exact HB.out | apply below_alloc | apply pw_below_drewN | apply below_drew1) | exact HB.out))) : w.heap.size ≤ gb469));clear HB;have HB := n0_;have BK469 := n1_;have GW469 := n2_;have GE469 := n3_;clear n0_ n1_ n2_ n3_;clear hb hbox hg;have p470 : 0 ≤ (0 : Int) := (by omega);have q470 : 0 < (l0.length : Int) := of_decide_eq_true (by first | (with_reducible assumption) | assumption);obtain ⟨ad470,e470,hx470_0⟩ := Kd.at_int HR0.out 0 p470 q470;cases e470;have qi470 : (0 < l0.length) = True := eq_true (by omega);(try rw [show ((0 : Int)).toNat = 0 from rfl] at hx470_0);(try rw [Addr.add_zero'] at hx470_0);replace hx470_0 := (HB.out.cell (World.block_lt_of_cell? w _ hx470_0)).trans hx470_0;replace p470 := eq_true p470;replace q470 := eq_true q470;obtain ⟨i022,hi022,_,hsz22,_⟩ := info_parts info5;obtain ⟨A22,hcut22,hA22,hC22⟩ := print_drop_of (P := Try.prog) (Value.int .u8) 0 47 5 .i64 Try.underlying47 hi022 hsz22 (some ad470) c0 l0 1 (by omega) (of_decide_eq_true (by first | (with_reducible assumption) | assumption)) HC0.out;have HR482 := Aside0.mk (Kd.C_of_reads (h1 := fun _ => rfl) (hA22 _ (Kd.reads_of_C HR0.out)));have HC482 := Aside0.mk hC22;clear hA22 hC22 hi022 hsz22) | ((with_reducible refine gate_callee (f := 59) rfl ?_);refine goesL_ (some 30) rfl rfl Try.func59 (by kernel_rfl) rfl #[.slice A22 (l0.drop 1).length (c0 - 1)] rfl (by (try simp only [List.map_toArray,List.map_cons,List.map_nil]);first | done | (rw [show (l0.drop 1).length = (l0.length - 1) from List.length_drop] <;> rfl) | rfl | (simp only [List.length_drop,List.length_take];rfl)) ?_;(with_reducible refine (pack_count.calls k _ _ (l0.drop 1) t483 t484 t485 t486 t487 t488 _ ?side1 ?side2 A20.out).mono ?_);(case side1 => repeat (first | exact (Kd.C_below HR482.out HB.out) | (with_reducible refine Kd.C_alloc ?_ _) | (with_reducible refine Kd.C_drewN ?_ _) | (with_reducible refine Kd.C_drew ?_)));(case side2 => exact HC482.out);rintro e w23 ⟨rfl,hb⟩;refine ⟨_,rfl,?_⟩;have n0_ := Aside0.mk (blk_below (g := gb469) (o := .cells #[.int .i64 0,.bool false,.int .i64 0,.string (⟨#[]⟩ : ByteArray)] 50 (0,0)) (by (with_reducible repeat (first | refine blk_drewN ?_ _ | refine blk_drew ?_ | refine blk_alloc ?_ _));exact BK469.out) hb);have n1_ := Aside0.mk (below_step (by repeat (first | (with_reducible first | exact HB.out | apply below_alloc | apply pw_below_drewN | apply below_drew1 | refine below_set ?_ GE469.out) | exact HB.out)) hb);clear BK469;clear HB;have BK469 := n0_;have HB := n1_;clear n0_ n1_;(try clear hb);(try clear hb2);(try clear hk);(try clear hi);have hcz24_0 : w23.cell? ⟨gb469,0,none⟩ = some (.int .i64 0) := (blk_cell BK469.out 0).trans rfl;have hcz24_1 : w23.cell? ⟨gb469,1,none⟩ = some (.bool false) := (blk_cell BK469.out 1).trans rfl;have hcz24_2 : w23.cell? ⟨gb469,2,none⟩ = some (.int .i64 0) := (blk_cell BK469.out 2).trans rfl;have hcz24_3 : w23.cell? ⟨gb469,3,none⟩ = some (.string (⟨#[]⟩ : ByteArray)) := (blk_cell BK469.out 3).trans rfl;have hfz24_0 := blk_frozen BK469.out 0;have hfz24_1 := blk_frozen BK469.out 1;have hfz24_2 := blk_frozen BK469.out 2;have hfz24_3 := blk_frozen BK469.out 3))
              refine bodyPost_ret (results_ctt rfl _ _ gb469 50 #[.int .i64 t483,.bool t484,.int .i64 t485,.string t486] (0,0) _ rfl (by (with_reducible repeat (first | refine blk_drewN ?_ _ | refine blk_drew ?_ | refine blk_alloc ?_ _));refine blk_put (cs := #[.int .i64 t483,.bool t484,.int .i64 t485,.string (⟨#[]⟩ : ByteArray)]) ?_ 3 _ rfl;(with_reducible repeat (first | refine blk_drewN ?_ _ | refine blk_drew ?_ | refine blk_alloc ?_ _));refine blk_put (cs := #[.int .i64 t483,.bool t484,.int .i64 0,.string (⟨#[]⟩ : ByteArray)]) ?_ 2 _ rfl;(with_reducible repeat (first | refine blk_drewN ?_ _ | refine blk_drew ?_ | refine blk_alloc ?_ _));refine blk_put (cs := #[.int .i64 t483,.bool false,.int .i64 0,.string (⟨#[]⟩ : ByteArray)]) ?_ 1 _ rfl;(with_reducible repeat (first | refine blk_drewN ?_ _ | refine blk_drew ?_ | refine blk_alloc ?_ _));refine blk_put (cs := #[.int .i64 0,.bool false,.int .i64 0,.string (⟨#[]⟩ : ByteArray)]) ?_ 0 _ rfl;(with_reducible repeat (first | refine blk_drewN ?_ _ | refine blk_drew ?_ | refine blk_alloc ?_ _));exact BK469.out) Try.underlying50 rfl (by kernel_rfl)) rfl ?_
              exact ⟨by first | rfl | (simp [errW_none,errW_some] <;> rfl) | (simp [*,errW_none,errW_some] <;> rfl),by repeat (first | (with_reducible first | exact HB.out | apply below_alloc | apply pw_below_drewN | apply below_drew1 | refine below_set ?_ GE469.out) | exact HB.out)⟩
            · rw [if_neg c19] at H
              exact absurd H (by simp)
          · rw [if_neg c18] at H
            have c18b0 : ((rd l0 0) == 3) = false := beq_eq_false_iff_ne.mpr c18
            have c18b1 : ((rd l0 0) != 3) = true := bne_iff_ne.mpr c18
            by_cases c25 : (rd l0 0) = 4
            · rw [if_pos c25] at H
              have c25b0 : ((rd l0 0) == 4) = true := beq_iff_eq.mpr c25
              have c25b1 : ((rd l0 0) != 4) = false := bne_eq_false_iff_eq.mpr c25
              clear c25
              by_cases c26 : 1 ≤ (l0.length : Int)
              · rw [if_pos c26] at H
                have c26b0 := eq_true c26
                have c26b1 : decide (1 ≤ (l0.length : Int)) = true := decide_eq_true c26
                clear c26
                replace H := Option.bind_eq_some_iff.mp H
                obtain ⟨⟨t490,t491,t492⟩,A270,H⟩ := H
                replace H : (if t492 = 0 then ((value_Text.f t490).bind fun bt493 => (some (bt493.1,bt493.2.1,bt493.2.2.1,bt493.2.2.2,wrap64 (1 + t491),0))) else (some (0,false,0,(⟨#[]⟩ : ByteArray),0,t492))) = some (r1,r2,r3,r4,r5,r6) := H
                have A27 := Aside0.mk A270
                clear A270
                by_cases c28 : t492 = 0
                · rw [if_pos c28] at H
                  have c28b0 : (t492 == 0) = true := beq_iff_eq.mpr c28
                  have c28b1 : (t492 != 0) = false := bne_eq_false_iff_eq.mpr c28
                  clear c28
                  replace H := Option.bind_eq_some_iff.mp H
                  obtain ⟨⟨t493,t494,t495,t496⟩,A290,H⟩ := H
                  replace H : (some (t493,t494,t495,t496,wrap64 (1 + t491),0)) = some (r1,r2,r3,r4,r5,r6) := H
                  have A29 := Aside0.mk A290
                  clear A290
                  simp only [Option.some.injEq,Prod.mk.injEq] at H
                  obtain ⟨rfl,rfl,rfl,rfl,rfl,rfl⟩ := H
                  go_enter Try.func37,Try.ntmps37
                  go_wp2_with (first | ((with_reducible refine gate_dst (N := 2) rfl ?_);refine box_event ?hg (N := 2) ?hd (cs := #[.int .i64 0,.bool false,.int .i64 0,.string (⟨#[]⟩ : ByteArray)]) (t := 50) ?hr ?_;(case hd => rfl);(case hg => rfl);(case hr => first | (go_simp;done) | (go_simp;rfl));intro gb469 hg w30 hbox hb;have n0_ := Aside0.mk (below_step (by repeat (first | (with_reducible first | exact HB.out | apply below_alloc | apply pw_below_drewN | apply below_drew1) | exact HB.out)) hb);have n1_ := Aside0.mk (hbox);have n2_ := Aside0.mk ((by rw [hg];exact (below_size (by repeat (first | (with_reducible first | exact HB.out | apply below_alloc | apply pw_below_drewN | apply below_drew1) | exact HB.out))) : w.heap.size ≤ gb469));have n3_ := Aside0.mk ((by rw [hg];exact (below_size (by repeat (first | (with_reducible first | exact HB.out | apply below_alloc | apply pw_below_drewN | apply below_drew1) | exact HB.out))) : w.heap.size ≤ gb469));clear HB;have HB := n0_;have BK469 := n1_;have GW469 := n2_;have GE469 := n3_;clear n0_ n1_ n2_ n3_;clear hb hbox hg;have p470 : 0 ≤ (0 : Int) := (by omega);have q470 : 0 < (l0.length : Int) := of_decide_eq_true (by first | (with_reducible assumption) | assumption);obtain ⟨ad470,e470,hx470_0⟩ := Kd.at_int HR0.out 0 p470 q470;cases e470;have qi470 : (0 < l0.length) = True := eq_true (by omega);(try rw [show ((0 : Int)).toNat = 0 from rfl] at hx470_0);(try rw [Addr.add_zero'] at hx470_0);replace hx470_0 := (HB.out.cell (World.block_lt_of_cell? w _ hx470_0)).trans hx470_0;replace p470 := eq_true p470;replace q470 := eq_true q470;obtain ⟨i031,hi031,_,hsz31,_⟩ := info_parts info5;obtain ⟨A31,hcut31,hA31,hC31⟩ := print_drop_of (P := Try.prog) (Value.int .u8) 0 47 5 .i64 Try.underlying47 hi031 hsz31 (some ad470) c0 l0 1 (by omega) (of_decide_eq_true (by first | (with_reducible assumption) | assumption)) HC0.out;have HR489 := Aside0.mk (Kd.C_of_reads (h1 := fun _ => rfl) (hA31 _ (Kd.reads_of_C HR0.out)));have HC489 := Aside0.mk hC31;clear hA31 hC31 hi031 hsz31) | ((with_reducible refine gate_callee (f := 60) rfl ?_);refine goesL_ (some 39) rfl rfl Try.func60 (by kernel_rfl) rfl #[.slice A31 (l0.drop 1).length (c0 - 1)] rfl (by (try simp only [List.map_toArray,List.map_cons,List.map_nil]);first | done | (rw [show (l0.drop 1).length = (l0.length - 1) from List.length_drop] <;> rfl) | rfl | (simp only [List.length_drop,List.length_take];rfl)) ?_;(with_reducible refine (pack_cut.calls k _ _ (l0.drop 1) t490 t491 t492 _ ?side1 ?side2 A27.out).mono ?_);(case side1 => repeat (first | exact (Kd.C_below HR489.out HB.out) | (with_reducible refine Kd.C_alloc ?_ _) | (with_reducible refine Kd.C_drewN ?_ _) | (with_reducible refine Kd.C_drew ?_)));(case side2 => exact HC489.out);rintro e w32 ⟨rfl,hb⟩;refine ⟨_,rfl,?_⟩;have n0_ := Aside0.mk (blk_below (g := gb469) (o := .cells #[.int .i64 0,.bool false,.int .i64 0,.string (⟨#[]⟩ : ByteArray)] 50 (0,0)) (by (with_reducible repeat (first | refine blk_drewN ?_ _ | refine blk_drew ?_ | refine blk_alloc ?_ _));exact BK469.out) hb);have n1_ := Aside0.mk (below_step (by repeat (first | (with_reducible first | exact HB.out | apply below_alloc | apply pw_below_drewN | apply below_drew1 | refine below_set ?_ GE469.out) | exact HB.out)) hb);clear BK469;clear HB;have BK469 := n0_;have HB := n1_;clear n0_ n1_;(try clear hb);(try clear hb2);(try clear hk);(try clear hi)) | ((with_reducible refine gate_callee (f := 61) rfl ?_);refine goesL_ (some 48) rfl rfl Try.func61 (by kernel_rfl) rfl #[.string t490] rfl (by (try simp only [List.map_toArray,List.map_cons,List.map_nil]);first | done | rfl | (simp only [List.length_drop,List.length_take];rfl)) ?_;(with_reducible refine (value_Text.calls t490 t493 t494 t495 t496 _ A29.out).mono ?_);rintro e w33 ⟨rfl,hb⟩;refine ⟨_,rfl,?_⟩;have n0_ := Aside0.mk (blk_below (g := gb469) (o := .cells #[.int .i64 0,.bool false,.int .i64 0,.string (⟨#[]⟩ : ByteArray)] 50 (0,0)) (by (with_reducible repeat (first | refine blk_drewN ?_ _ | refine blk_drew ?_ | refine blk_alloc ?_ _));exact BK469.out) hb);have n1_ := Aside0.mk (below_step (by repeat (first | (with_reducible first | exact HB.out | apply below_alloc | apply pw_below_drewN | apply below_drew1 | refine below_set ?_ GE469.out) | exact HB.out)) hb);clear BK469;clear HB;have BK469 := n0_;have HB := n1_;clear n0_ n1_;(try clear hb);(try clear hb2);(try clear hk);(try clear hi);have hcz34_0 : w33.cell? ⟨gb469,0,none⟩ = some (.int .i64 0) := (blk_cell BK469.out 0).trans rfl;have hcz34_1 : w33.cell? ⟨gb469,1,none⟩ = some (.bool false) := (blk_cell BK469.out 1).trans rfl;have hcz34_2 : w33.cell? ⟨gb469,2,none⟩ = some (.int .i64 0) := (blk_cell BK469.out 2).trans rfl;have hcz34_3 : w33.cell? ⟨gb469,3,none⟩ = some (.string (⟨#[]⟩ : ByteArray)) := (blk_cell BK469.out 3).trans rfl;have hfz34_0 := blk_frozen BK469.out 0;have hfz34_1 := blk_frozen BK469.out 1;have hfz34_2 := blk_frozen BK469.out 2;have hfz34_3 := blk_frozen BK469.out 3))
                  refine bodyPost_ret (results_ctt rfl _ _ gb469 50 #[.int .i64 t493,.bool t494,.int .i64 t495,.string t496] (0,0) _ rfl (by (with_reducible repeat (first | refine blk_drewN ?_ _ | refine blk_drew ?_ | refine blk_alloc ?_ _));refine blk_put (cs := #[.int .i64 t493,.bool t494,.int .i64 t495,.string (⟨#[]⟩ : ByteArray)]) ?_ 3 _ rfl;(with_reducible repeat (first | refine blk_drewN ?_ _ | refine blk_drew ?_ | refine blk_alloc ?_ _));refine blk_put (cs := #[.int .i64 t493,.bool t494,.int .i64 0,.string (⟨#[]⟩ : ByteArray)]) ?_ 2 _ rfl;(with_reducible repeat (first | refine blk_drewN ?_ _ | refine blk_drew ?_ | refine blk_alloc ?_ _));refine blk_put (cs := #[.int .i64 t493,.bool false,.int .i64 0,.string (⟨#[]⟩ : ByteArray)]) ?_ 1 _ rfl;(with_reducible repeat (first | refine blk_drewN ?_ _ | refine blk_drew ?_ | refine blk_alloc ?_ _));refine blk_put (cs := #[.int .i64 0,.bool false,.int .i64 0,.string (⟨#[]⟩ : ByteArray)]) ?_ 0 _ rfl;(with_reducible repeat (first | refine blk_drewN ?_ _ | refine blk_drew ?_ | refine blk_alloc ?_ _));exact BK469.out) Try.underlying50 rfl (by kernel_rfl)) rfl ?_
                  exact ⟨by first | rfl | (simp [errW_none,errW_some] <;> rfl) | (simp [*,errW_none,errW_some] <;> rfl),by repeat (first | (with_reducible first | exact HB.out | apply below_alloc | apply pw_below_drewN | apply below_drew1 | refine below_set ?_ GE469.out) | exact HB.out)⟩
                · rw [if_neg c28] at H
                  have c28b0 : (t492 == 0) = false := beq_eq_false_iff_ne.mpr c28
                  have c28b1 : (t492 != 0) = true := bne_iff_ne.mpr c28
                  simp only [Option.some.injEq,Prod.mk.injEq] at H
                  obtain ⟨rfl,rfl,rfl,rfl,rfl,rfl⟩ := H
                  go_enter Try.func37,Try.ntmps37
                  go_wp2_with (first | ((with_reducible refine gate_dst (N := 2) rfl ?_);refine box_event ?hg (N := 2) ?hd (cs := #[.int .i64 0,.bool false,.int .i64 0,.string (⟨#[]⟩ : ByteArray)]) (t := 50) ?hr ?_;(case hd => rfl);(case hg => rfl);(case hr => first | (go_simp;done) | (go_simp;rfl));intro gb469 hg w35 hbox hb;have n0_ := Aside0.mk (below_step (by repeat (first | (with_reducible first | exact HB.out | apply below_alloc | apply pw_below_drewN | apply below_drew1) | exact HB.out)) hb);have n1_ := Aside0.mk (hbox);have n2_ := Aside0.mk ((by rw [hg];exact (below_size (by repeat (first | (with_reducible first | exact HB.out | apply below_alloc | apply pw_below_drewN | apply below_drew1) | exact HB.out))) : w.heap.size ≤ gb469));have n3_ := Aside0.mk ((by rw [hg];exact (below_size (by repeat (first | (with_reducible first | exact HB.out | apply below_alloc | apply pw_below_drewN | apply below_drew1) | exact HB.out))) : w.heap.size ≤ gb469));clear HB;have HB := n0_;have BK469 := n1_;have GW469 := n2_;have GE469 := n3_;clear n0_ n1_ n2_ n3_;clear hb hbox hg;have p470 : 0 ≤ (0 : Int) := (by omega);have q470 : 0 < (l0.length : Int) := of_decide_eq_true (by first | (with_reducible assumption) | assumption);obtain ⟨ad470,e470,hx470_0⟩ := Kd.at_int HR0.out 0 p470 q470;cases e470;have qi470 : (0 < l0.length) = True := eq_true (by omega);(try rw [show ((0 : Int)).toNat = 0 from rfl] at hx470_0);(try rw [Addr.add_zero'] at hx470_0);replace hx470_0 := (HB.out.cell (World.block_lt_of_cell? w _ hx470_0)).trans hx470_0;replace p470 := eq_true p470;replace q470 := eq_true q470;obtain ⟨i036,hi036,_,hsz36,_⟩ := info_parts info5;obtain ⟨A36,hcut36,hA36,hC36⟩ := print_drop_of (P := Try.prog) (Value.int .u8) 0 47 5 .i64 Try.underlying47 hi036 hsz36 (some ad470) c0 l0 1 (by omega) (of_decide_eq_true (by first | (with_reducible assumption) | assumption)) HC0.out;have HR489 := Aside0.mk (Kd.C_of_reads (h1 := fun _ => rfl) (hA36 _ (Kd.reads_of_C HR0.out)));have HC489 := Aside0.mk hC36;clear hA36 hC36 hi036 hsz36) | ((with_reducible refine gate_callee (f := 60) rfl ?_);refine goesL_ (some 39) rfl rfl Try.func60 (by kernel_rfl) rfl #[.slice A36 (l0.drop 1).length (c0 - 1)] rfl (by (try simp only [List.map_toArray,List.map_cons,List.map_nil]);first | done | (rw [show (l0.drop 1).length = (l0.length - 1) from List.length_drop] <;> rfl) | rfl | (simp only [List.length_drop,List.length_take];rfl)) ?_;(with_reducible refine (pack_cut.calls k _ _ (l0.drop 1) t490 t491 t492 _ ?side1 ?side2 A27.out).mono ?_);(case side1 => repeat (first | exact (Kd.C_below HR489.out HB.out) | (with_reducible refine Kd.C_alloc ?_ _) | (with_reducible refine Kd.C_drewN ?_ _) | (with_reducible refine Kd.C_drew ?_)));(case side2 => exact HC489.out);rintro e w37 ⟨rfl,hb⟩;refine ⟨_,rfl,?_⟩;have n0_ := Aside0.mk (blk_below (g := gb469) (o := .cells #[.int .i64 0,.bool false,.int .i64 0,.string (⟨#[]⟩ : ByteArray)] 50 (0,0)) (by (with_reducible repeat (first | refine blk_drewN ?_ _ | refine blk_drew ?_ | refine blk_alloc ?_ _));exact BK469.out) hb);have n1_ := Aside0.mk (below_step (by repeat (first | (with_reducible first | exact HB.out | apply below_alloc | apply pw_below_drewN | apply below_drew1 | refine below_set ?_ GE469.out) | exact HB.out)) hb);clear BK469;clear HB;have BK469 := n0_;have HB := n1_;clear n0_ n1_;(try clear hb);(try clear hb2);(try clear hk);(try clear hi);have hcz38_0 : w37.cell? ⟨gb469,0,none⟩ = some (.int .i64 0) := (blk_cell BK469.out 0).trans rfl;have hcz38_1 : w37.cell? ⟨gb469,1,none⟩ = some (.bool false) := (blk_cell BK469.out 1).trans rfl;have hcz38_2 : w37.cell? ⟨gb469,2,none⟩ = some (.int .i64 0) := (blk_cell BK469.out 2).trans rfl;have hcz38_3 : w37.cell? ⟨gb469,3,none⟩ = some (.string (⟨#[]⟩ : ByteArray)) := (blk_cell BK469.out 3).trans rfl;have hfz38_0 := blk_frozen BK469.out 0;have hfz38_1 := blk_frozen BK469.out 1;have hfz38_2 := blk_frozen BK469.out 2;have hfz38_3 := blk_frozen BK469.out 3))
                  refine bodyPost_ret (results_ctt rfl _ _ gb469 50 #[.int .i64 0,.bool false,.int .i64 0,.string (⟨#[]⟩ : ByteArray)] (0,0) _ rfl (by (with_reducible repeat (first | refine blk_drewN ?_ _ | refine blk_drew ?_ | refine blk_alloc ?_ _));refine blk_put (cs := #[.int .i64 0,.bool false,.int .i64 0,.string (⟨#[]⟩ : ByteArray)]) ?_ 3 _ rfl;(with_reducible repeat (first | refine blk_drewN ?_ _ | refine blk_drew ?_ | refine blk_alloc ?_ _));refine blk_put (cs := #[.int .i64 0,.bool false,.int .i64 0,.string (⟨#[]⟩ : ByteArray)]) ?_ 2 _ rfl;(with_reducible repeat (first | refine blk_drewN ?_ _ | refine blk_drew ?_ | refine blk_alloc ?_ _));refine blk_put (cs := #[.int .i64 0,.bool false,.int .i64 0,.string (⟨#[]⟩ : ByteArray)]) ?_ 1 _ rfl;(with_reducible repeat (first | refine blk_drewN ?_ _ | refine blk_drew ?_ | refine blk_alloc ?_ _));refine blk_put (cs := #[.int .i64 0,.bool false,.int .i64 0,.string (⟨#[]⟩ : ByteArray)]) ?_ 0 _ rfl;(with_reducible repeat (first | refine blk_drewN ?_ _ | refine blk_drew ?_ | refine blk_alloc ?_ _));exact BK469.out) Try.underlying50 rfl (by kernel_rfl)) rfl ?_
                  exact ⟨by first | rfl | (simp [errW_none,errW_some] <;> rfl) | (simp [*,errW_none,errW_some] <;> rfl),by repeat (first | (with_reducible first | exact HB.out | apply below_alloc | apply pw_below_drewN | apply below_drew1 | refine below_set ?_ GE469.out) | exact HB.out)⟩
              · rw [if_neg c26] at H
                exact absurd H (by simp)
            · rw [if_neg c25] at H
              have c25b0 : ((rd l0 0) == 4) = false := beq_eq_false_iff_ne.mpr c25
              have c25b1 : ((rd l0 0) != 4) = true := bne_iff_ne.mpr c25
              simp only [Option.some.injEq,Prod.mk.injEq] at H
              obtain ⟨rfl,rfl,rfl,rfl,rfl,rfl⟩ := H
              go_enter Try.func37,Try.ntmps37
              go_wp2_with (first | ((with_reducible refine gate_dst (N := 2) rfl ?_);refine box_event ?hg (N := 2) ?hd (cs := #[.int .i64 0,.bool false,.int .i64 0,.string (⟨#[]⟩ : ByteArray)]) (t := 50) ?hr ?_;(case hd => rfl);(case hg => rfl);(case hr => first | (go_simp;done) | (go_simp;rfl));intro gb469 hg w39 hbox hb;have n0_ := Aside0.mk (below_step (by repeat (first | (with_reducible first | exact HB.out | apply below_alloc | apply pw_below_drewN | apply below_drew1) | exact HB.out)) hb);have n1_ := Aside0.mk (hbox);have n2_ := Aside0.mk ((by rw [hg];exact (below_size (by repeat (first | (with_reducible first | exact HB.out | apply below_alloc | apply pw_below_drewN | apply below_drew1) | exact HB.out))) : w.heap.size ≤ gb469));have n3_ := Aside0.mk ((by rw [hg];exact (below_size (by repeat (first | (with_reducible first | exact HB.out | apply below_alloc | apply pw_below_drewN | apply below_drew1) | exact HB.out))) : w.heap.size ≤ gb469));clear HB;have HB := n0_;have BK469 := n1_;have GW469 := n2_;have GE469 := n3_;clear n0_ n1_ n2_ n3_;clear hb hbox hg;have p470 : 0 ≤ (0 : Int) := (by omega);have q470 : 0 < (l0.length : Int) := of_decide_eq_true (by first | (with_reducible assumption) | assumption);obtain ⟨ad470,e470,hx470_0⟩ := Kd.at_int HR0.out 0 p470 q470;cases e470;have qi470 : (0 < l0.length) = True := eq_true (by omega);(try rw [show ((0 : Int)).toNat = 0 from rfl] at hx470_0);(try rw [Addr.add_zero'] at hx470_0);replace hx470_0 := (HB.out.cell (World.block_lt_of_cell? w _ hx470_0)).trans hx470_0;replace p470 := eq_true p470;replace q470 := eq_true q470;have hcz40_0 : w39.cell? ⟨gb469,0,none⟩ = some (.int .i64 0) := (blk_cell BK469.out 0).trans rfl;have hcz40_1 : w39.cell? ⟨gb469,1,none⟩ = some (.bool false) := (blk_cell BK469.out 1).trans rfl;have hcz40_2 : w39.cell? ⟨gb469,2,none⟩ = some (.int .i64 0) := (blk_cell BK469.out 2).trans rfl;have hcz40_3 : w39.cell? ⟨gb469,3,none⟩ = some (.string (⟨#[]⟩ : ByteArray)) := (blk_cell BK469.out 3).trans rfl;have hfz40_0 := blk_frozen BK469.out 0;have hfz40_1 := blk_frozen BK469.out 1;have hfz40_2 := blk_frozen BK469.out 2;have hfz40_3 := blk_frozen BK469.out 3))
              refine bodyPost_ret (results_ctt rfl _ _ gb469 50 #[.int .i64 0,.bool false,.int .i64 0,.string (⟨#[]⟩ : ByteArray)] (0,0) _ rfl (by (with_reducible repeat (first | refine blk_drewN ?_ _ | refine blk_drew ?_ | refine blk_alloc ?_ _));refine blk_put (cs := #[.int .i64 0,.bool false,.int .i64 0,.string (⟨#[]⟩ : ByteArray)]) ?_ 3 _ rfl;(with_reducible repeat (first | refine blk_drewN ?_ _ | refine blk_drew ?_ | refine blk_alloc ?_ _));refine blk_put (cs := #[.int .i64 0,.bool false,.int .i64 0,.string (⟨#[]⟩ : ByteArray)]) ?_ 2 _ rfl;(with_reducible repeat (first | refine blk_drewN ?_ _ | refine blk_drew ?_ | refine blk_alloc ?_ _));refine blk_put (cs := #[.int .i64 0,.bool false,.int .i64 0,.string (⟨#[]⟩ : ByteArray)]) ?_ 1 _ rfl;(with_reducible repeat (first | refine blk_drewN ?_ _ | refine blk_drew ?_ | refine blk_alloc ?_ _));refine blk_put (cs := #[.int .i64 0,.bool false,.int .i64 0,.string (⟨#[]⟩ : ByteArray)]) ?_ 0 _ rfl;(with_reducible repeat (first | refine blk_drewN ?_ _ | refine blk_drew ?_ | refine blk_alloc ?_ _));exact BK469.out) Try.underlying50 rfl (by kernel_rfl)) rfl ?_
              exact ⟨by first | rfl | (simp [errW_none,errW_some] <;> rfl) | (simp [*,errW_none,errW_some] <;> rfl),by repeat (first | (with_reducible first | exact HB.out | apply below_alloc | apply pw_below_drewN | apply below_drew1 | refine below_set ?_ GE469.out) | exact HB.out)⟩
    · rw [if_neg c5] at H
      exact absurd H (by simp)
end Go.Proofs.Ytfoaeigoajooeaa.Z
end
