/- Parts of the proof of FeedNil: what its functions answer. -/
import Derived.Test.YthfaimomcbmniaaMFeedNila
import Derived.Test.YthfaimomcbmniaaMFeedNilb
section
namespace Go.Proofs.Ythfaimomcbmniaa.Z
open Go.RowKit Go.Proofs.YthfaimomcbmniaaW.PrintWords Go.Proofs.YthfaimomcbmniaaW.PrintLast Go.Proofs.YthfaimomcbmniaaW.PrintMore
attribute [local go_sem] max2_int min2_int max_two min_two max_three min_three max_four min_four
set_option linter.unusedVariables false
set_option linter.unusedSimpArgs false
def verdererref01_Compare.f (k : Nat) (a0_0 : Int) (a0_1 : Bool) (a0_2 : Int) (a0_3 : ByteArray) (a1_0 : Int) (a1_1 : Bool) (a1_2 : Int) (a1_3 : ByteArray) : Option (Int) := if a0_0 < a1_0 then (some (-1)) else (if a0_0 > a1_0 then (some 1) else (if a0_0 = 1 then (if (a0_1 == a1_1) = true then (some 0) else (if a1_1 = true then (some (-1)) else (some 1))) else (if a0_0 = 2 then (if a0_2 < a1_2 then (some (-1)) else (if a0_2 > a1_2 then (some 1) else (some 0))) else (if a0_0 = 3 then ((verdererref01_Text.f k a0_3 a1_3).bind fun t130 => (some t130)) else (some 0)))))
theorem verdererref01_Compare.mono : ∀ a0 a1 a2 a3 a4 a5 a6 a7 k,LeO (verdererref01_Compare.f k a0 a1 a2 a3 a4 a5 a6 a7) (verdererref01_Compare.f (k + 1) a0 a1 a2 a3 a4 a5 a6 a7) := by
  intro a0 a1 a2 a3 a4 a5 a6 a7 k
  unfold verdererref01_Compare.f
  repeat' first
      | (with_reducible exact verdererref01_Text.mono _ _ _)
      | (with_reducible exact LeO.refl _)
      | (with_reducible exact LeO.none _)
      | (with_reducible refine LeO.ite ?_ ?_)
      | (with_reducible refine LeO.bind ?_ (fun _ => ?_))
      | exact verdererref01_Text.mono _ _ _
      | exact LeO.none _
      | refine LeO.ite ?_ ?_
      | refine LeO.bind ?_ (fun _ => ?_)
set_option maxHeartbeats 8000000 in
set_option maxRecDepth 100000 in
theorem verdererref01_Compare.calls (k : Nat) (a0_0 : Int) (a0_1 : Bool) (a0_2 : Int) (a0_3 : ByteArray) (a1_0 : Int) (a1_1 : Bool) (a1_2 : Int) (a1_3 : ByteArray) (r : Int) (w : World) (h : verdererref01_Compare.f k a0_0 a0_1 a0_2 a0_3 a1_0 a1_1 a1_2 a1_3 = some r) :
    Calls Try.prog 120 #[.agg #[.int .i64 a0_0,.bool a0_1,.int .i64 a0_2,.string a0_3],.agg #[.int .i64 a1_0,.bool a1_1,.int .i64 a1_2,.string a1_3]] w fun e w' => e = .returned (.int .i64 r) ∧ Below w.heap.size w w' := by
  have hu149 := Try.underlying149
  have HB := Aside0.mk (Below.refl w.heap.size w)
  have H : (if a0_0 < a1_0 then (some (-1)) else (if a0_0 > a1_0 then (some 1) else (if a0_0 = 1 then (if (a0_1 == a1_1) = true then (some 0) else (if a1_1 = true then (some (-1)) else (some 1))) else (if a0_0 = 2 then (if a0_2 < a1_2 then (some (-1)) else (if a0_2 > a1_2 then (some 1) else (some 0))) else (if a0_0 = 3 then ((verdererref01_Text.f k a0_3 a1_3).bind fun t130 => (some t130)) else (some 0)))))) = some r := h
  clear h
  by_cases c3 : a0_0 < a1_0
  · rw [if_pos c3] at H
    have c3b0 : decide (a0_0 < a1_0) = true := decide_eq_true c3
    clear c3
    obtain rfl := Option.some.inj H
    go_enter Try.func120,Try.ntmps120
    go_wp2_with (first | ((with_reducible refine gate_dst (N := 2) rfl ?_);refine box_event ?hg (N := 2) ?hd (cs := #[.int .i64 a0_0,.bool a0_1,.int .i64 a0_2,.string a0_3]) (t := 149) ?hr ?_;(case hd => rfl);(case hg => rfl);(case hr => first | (go_simp;done) | (go_simp;rfl));intro gb128 hg w4 hbox hb;have n0_ := Aside0.mk (below_step (by repeat (first | (with_reducible first | exact HB.out | apply below_alloc | apply pw_below_drewN | apply below_drew1) | exact HB.out)) hb);have n1_ := Aside0.mk (hbox);have n2_ := Aside0.mk ((by rw [hg];exact (below_size (by repeat (first | (with_reducible first | exact HB.out | apply below_alloc | apply pw_below_drewN | apply below_drew1) | exact HB.out))) : w.heap.size ≤ gb128));have n3_ := Aside0.mk ((by rw [hg];exact (below_size (by repeat (first | (with_reducible first | exact HB.out | apply below_alloc | apply pw_below_drewN | apply below_drew1) | exact HB.out))) : w.heap.size ≤ gb128));clear HB;have HB := n0_;have BK128 := n1_;have GW128 := n2_;have GE128 := n3_;clear n0_ n1_ n2_ n3_;clear hb hbox hg) | ((with_reducible refine gate_dst (N := 3) rfl ?_);refine box_event ?hg (N := 3) ?hd (cs := #[.int .i64 a1_0,.bool a1_1,.int .i64 a1_2,.string a1_3]) (t := 149) ?hr ?_;(case hd => rfl);(case hg => rfl);(case hr => first | (go_simp;done) | (go_simp;rfl));intro gb129 hg w5 hbox hb;have n0_ := Aside0.mk (blk_below (g := gb128) (o := .cells #[.int .i64 a0_0,.bool a0_1,.int .i64 a0_2,.string a0_3] 149 (0,0)) (by (with_reducible repeat (first | refine blk_drewN ?_ _ | refine blk_drew ?_ | refine blk_alloc ?_ _));exact BK128.out) hb);have n1_ := Aside0.mk (below_step (by repeat (first | (with_reducible first | exact HB.out | apply below_alloc | apply pw_below_drewN | apply below_drew1 | refine below_set ?_ GE128.out) | exact HB.out)) hb);have n2_ := Aside0.mk (hbox);have n3_ := Aside0.mk ((by rw [hg];exact (below_size (by repeat (first | (with_reducible first | exact HB.out | apply below_alloc | apply pw_below_drewN | apply below_drew1 | refine below_set ?_ GE128.out) | exact HB.out))) : w.heap.size ≤ gb129));have n4_ := Aside0.mk ((by rw [hg];exact (below_size (by repeat (first | (with_reducible first | exact HB.out | apply below_alloc | apply pw_below_drewN | apply below_drew1 | refine below_set ?_ GE128.out) | exact HB.out))) : w.heap.size ≤ gb129));have n5_ := Aside0.mk ((by rw [hg];exact Nat.ne_of_lt (blk_lt (g := gb128) (o := .cells #[.int .i64 a0_0,.bool a0_1,.int .i64 a0_2,.string a0_3] 149 (0,0)) (by (with_reducible repeat (first | refine blk_drewN ?_ _ | refine blk_drew ?_ | refine blk_alloc ?_ _));exact BK128.out)) : gb128 ≠ gb129));have n6_ := Aside0.mk ((by rw [hg];exact Nat.ne_of_gt (blk_lt (g := gb128) (o := .cells #[.int .i64 a0_0,.bool a0_1,.int .i64 a0_2,.string a0_3] 149 (0,0)) (by (with_reducible repeat (first | refine blk_drewN ?_ _ | refine blk_drew ?_ | refine blk_alloc ?_ _));exact BK128.out)) : gb129 ≠ gb128));clear BK128;clear HB;have BK128 := n0_;have HB := n1_;have BK129 := n2_;have GW129 := n3_;have GE129 := n4_;have NB128_129 := n5_;have NB129_128 := n6_;clear n0_ n1_ n2_ n3_ n4_ n5_ n6_;clear hb hbox hg;have hnb6 := NB128_129.out;have hnc6 := NB129_128.out;have hcz7_0 : w5.cell? ⟨gb128,0,none⟩ = some (.int .i64 a0_0) := (blk_cell BK128.out 0).trans rfl;have hcz7_1 : w5.cell? ⟨gb128,1,none⟩ = some (.bool a0_1) := (blk_cell BK128.out 1).trans rfl;have hcz7_2 : w5.cell? ⟨gb128,2,none⟩ = some (.int .i64 a0_2) := (blk_cell BK128.out 2).trans rfl;have hcz7_3 : w5.cell? ⟨gb128,3,none⟩ = some (.string a0_3) := (blk_cell BK128.out 3).trans rfl;have hfz7_0 := blk_frozen BK128.out 0;have hfz7_1 := blk_frozen BK128.out 1;have hfz7_2 := blk_frozen BK128.out 2;have hfz7_3 := blk_frozen BK128.out 3;have hcz8_0 : w5.cell? ⟨gb129,0,none⟩ = some (.int .i64 a1_0) := (blk_cell BK129.out 0).trans rfl;have hcz8_1 : w5.cell? ⟨gb129,1,none⟩ = some (.bool a1_1) := (blk_cell BK129.out 1).trans rfl;have hcz8_2 : w5.cell? ⟨gb129,2,none⟩ = some (.int .i64 a1_2) := (blk_cell BK129.out 2).trans rfl;have hcz8_3 : w5.cell? ⟨gb129,3,none⟩ = some (.string a1_3) := (blk_cell BK129.out 3).trans rfl;have hfz8_0 := blk_frozen BK129.out 0;have hfz8_1 := blk_frozen BK129.out 1;have hfz8_2 := blk_frozen BK129.out 2;have hfz8_3 := blk_frozen BK129.out 3))
    go_ret
    exact ⟨by first | rfl | (simp [errW_none,errW_some] <;> rfl) | (simp [*,errW_none,errW_some] <;> rfl),by repeat (first | (with_reducible first | exact HB.out | apply below_alloc | apply pw_below_drewN | apply below_drew1 | refine below_set ?_ GE128.out | refine below_set ?_ GE129.out) | exact HB.out)⟩
  · rw [if_neg c3] at H
    have c3b0 : decide (a0_0 < a1_0) = false := decide_eq_false c3
    clear c3
    by_cases c9 : a0_0 > a1_0
    · rw [if_pos c9] at H
      have c9b0 : decide (a1_0 < a0_0) = true := decide_eq_true c9
      clear c9
      obtain rfl := Option.some.inj H
      go_enter Try.func120,Try.ntmps120
      go_wp2_with (first | ((with_reducible refine gate_dst (N := 2) rfl ?_);refine box_event ?hg (N := 2) ?hd (cs := #[.int .i64 a0_0,.bool a0_1,.int .i64 a0_2,.string a0_3]) (t := 149) ?hr ?_;(case hd => rfl);(case hg => rfl);(case hr => first | (go_simp;done) | (go_simp;rfl));intro gb128 hg w10 hbox hb;have n0_ := Aside0.mk (below_step (by repeat (first | (with_reducible first | exact HB.out | apply below_alloc | apply pw_below_drewN | apply below_drew1) | exact HB.out)) hb);have n1_ := Aside0.mk (hbox);have n2_ := Aside0.mk ((by rw [hg];exact (below_size (by repeat (first | (with_reducible first | exact HB.out | apply below_alloc | apply pw_below_drewN | apply below_drew1) | exact HB.out))) : w.heap.size ≤ gb128));have n3_ := Aside0.mk ((by rw [hg];exact (below_size (by repeat (first | (with_reducible first | exact HB.out | apply below_alloc | apply pw_below_drewN | apply below_drew1) | exact HB.out))) : w.heap.size ≤ gb128));clear HB;have HB := n0_;have BK128 := n1_;have GW128 := n2_;have GE128 := n3_;clear n0_ n1_ n2_ n3_;clear hb hbox hg) | ((with_reducible refine gate_dst (N := 3) rfl ?_);refine box_event ?hg (N := 3) ?hd (cs := #[.int .i64 a1_0,.bool a1_1,.int .i64 a1_2,.string a1_3]) (t := 149) ?hr ?_;(case hd => rfl);(case hg => rfl);(case hr => first | (go_simp;done) | (go_simp;rfl));intro gb129 hg w11 hbox hb;have n0_ := Aside0.mk (blk_below (g := gb128) (o := .cells #[.int .i64 a0_0,.bool a0_1,.int .i64 a0_2,.string a0_3] 149 (0,0)) (by (with_reducible repeat (first | refine blk_drewN ?_ _ | refine blk_drew ?_ | refine blk_alloc ?_ _));exact BK128.out) hb);have n1_ := Aside0.mk (below_step (by repeat (first | (with_reducible first | exact HB.out | apply below_alloc | apply pw_below_drewN | apply below_drew1 | refine below_set ?_ GE128.out) | exact HB.out)) hb);have n2_ := Aside0.mk (hbox);have n3_ := Aside0.mk ((by rw [hg];exact (below_size (by repeat (first | (with_reducible first | exact HB.out | apply below_alloc | apply pw_below_drewN | apply below_drew1 | refine below_set ?_ GE128.out) | exact HB.out))) : w.heap.size ≤ gb129));have n4_ := Aside0.mk ((by rw [hg];exact (below_size (by repeat (first | (with_reducible first | exact HB.out | apply below_alloc | apply pw_below_drewN | apply below_drew1 | refine below_set ?_ GE128.out) | exact HB.out))) : w.heap.size ≤ gb129));have n5_ := Aside0.mk ((by rw [hg];exact Nat.ne_of_lt (blk_lt (g := gb128) (o := .cells #[.int .i64 a0_0,.bool a0_1,.int .i64 a0_2,.string a0_3] 149 (0,0)) (by (with_reducible repeat (first | refine blk_drewN ?_ _ | refine blk_drew ?_ | refine blk_alloc ?_ _));exact BK128.out)) : gb128 ≠ gb129));have n6_ := Aside0.mk ((by rw [hg];exact Nat.ne_of_gt (blk_lt (g := gb128) (o := .cells #[.int .i64 a0_0,.bool a0_1,.int .i64 a0_2,.string a0_3] 149 (0,0)) (by (with_reducible repeat (first | refine blk_drewN ?_ _ | refine blk_drew ?_ | refine blk_alloc ?_ _));exact BK128.out)) : gb129 ≠ gb128));clear BK128;clear HB;have BK128 := n0_;have HB := n1_;have BK129 := n2_;have GW129 := n3_;have GE129 := n4_;have NB128_129 := n5_;have NB129_128 := n6_;clear n0_ n1_ n2_ n3_ n4_ n5_ n6_;clear hb hbox hg;have hnb12 := NB128_129.out;have hnc12 := NB129_128.out;have hcz13_0 : w11.cell? ⟨gb128,0,none⟩ = some (.int .i64 a0_0) := (blk_cell BK128.out 0).trans rfl;have hcz13_1 : w11.cell? ⟨gb128,1,none⟩ = some (.bool a0_1) := (blk_cell BK128.out 1).trans rfl;have hcz13_2 : w11.cell? ⟨gb128,2,none⟩ = some (.int .i64 a0_2) := (blk_cell BK128.out 2).trans rfl;have hcz13_3 : w11.cell? ⟨gb128,3,none⟩ = some (.string a0_3) := (blk_cell BK128.out 3).trans rfl;have hfz13_0 := blk_frozen BK128.out 0;have hfz13_1 := blk_frozen BK128.out 1;have hfz13_2 := blk_frozen BK128.out 2;have hfz13_3 := blk_frozen BK128.out 3;have hcz14_0 : w11.cell? ⟨gb129,0,none⟩ = some (.int .i64 a1_0) := (blk_cell BK129.out 0).trans rfl;have hcz14_1 : w11.cell? ⟨gb129,1,none⟩ = some (.bool a1_1) := (blk_cell BK129.out 1).trans rfl;have hcz14_2 : w11.cell? ⟨gb129,2,none⟩ = some (.int .i64 a1_2) := (blk_cell BK129.out 2).trans rfl;have hcz14_3 : w11.cell? ⟨gb129,3,none⟩ = some (.string a1_3) := (blk_cell BK129.out 3).trans rfl;have hfz14_0 := blk_frozen BK129.out 0;have hfz14_1 := blk_frozen BK129.out 1;have hfz14_2 := blk_frozen BK129.out 2;have hfz14_3 := blk_frozen BK129.out 3))
      go_ret
      exact ⟨by first | rfl | (simp [errW_none,errW_some] <;> rfl) | (simp [*,errW_none,errW_some] <;> rfl),by repeat (first | (with_reducible first | exact HB.out | apply below_alloc | apply pw_below_drewN | apply below_drew1 | refine below_set ?_ GE128.out | refine below_set ?_ GE129.out) | exact HB.out)⟩
    · rw [if_neg c9] at H
      have c9b0 : decide (a1_0 < a0_0) = false := decide_eq_false c9
      clear c9
      by_cases c15 : a0_0 = 1
      · rw [if_pos c15] at H
        have c15b0 : (a0_0 == 1) = true := beq_iff_eq.mpr c15
        have c15b1 : (a0_0 != 1) = false := bne_eq_false_iff_eq.mpr c15
        clear c15
        by_cases c16 : (a0_1 == a1_1) = true
        · rw [if_pos c16] at H
          have c16b0 : (a0_1 == a1_1) = true := c16
          (try (have c16b1 : decide (a0_1 = a1_1) = true := by simpa using c16))
          (try (have c16b2 : (a0_1 == a1_1) = true := by simpa using c16))
          clear c16
          obtain rfl := Option.some.inj H
          go_enter Try.func120,Try.ntmps120
          go_wp2_with (first | ((with_reducible refine gate_dst (N := 2) rfl ?_);refine box_event ?hg (N := 2) ?hd (cs := #[.int .i64 a0_0,.bool a0_1,.int .i64 a0_2,.string a0_3]) (t := 149) ?hr ?_;(case hd => rfl);(case hg => rfl);(case hr => first | (go_simp;done) | (go_simp;rfl));intro gb128 hg w17 hbox hb;have n0_ := Aside0.mk (below_step (by repeat (first | (with_reducible first | exact HB.out | apply below_alloc | apply pw_below_drewN | apply below_drew1) | exact HB.out)) hb);have n1_ := Aside0.mk (hbox);have n2_ := Aside0.mk ((by rw [hg];exact (below_size (by repeat (first | (with_reducible first | exact HB.out | apply below_alloc | apply pw_below_drewN | apply below_drew1) | exact HB.out))) : w.heap.size ≤ gb128));have n3_ := Aside0.mk ((by rw [hg];exact (below_size (by repeat (first | (with_reducible first | exact HB.out | apply below_alloc | apply pw_below_drewN | apply below_drew1) | exact HB.out))) : w.heap.size ≤ gb128));clear HB;have HB := n0_;have BK128 := n1_;have GW128 := n2_;have GE128 := n3_;clear n0_ n1_ n2_ n3_;clear hb hbox hg) | ((with_reducible refine gate_dst (N := 3) rfl ?_);refine box_event ?hg (N := 3) ?hd (cs := #[.int .i64 a1_0,.bool a1_1,.int .i64 a1_2,.string a1_3]) (t := 149) ?hr ?_;(case hd => rfl);(case hg => rfl);(case hr => first | (go_simp;done) | (go_simp;rfl));intro gb129 hg w18 hbox hb;have n0_ := Aside0.mk (blk_below (g := gb128) (o := .cells #[.int .i64 a0_0,.bool a0_1,.int .i64 a0_2,.string a0_3] 149 (0,0)) (by (with_reducible repeat (first | refine blk_drewN ?_ _ | refine blk_drew ?_ | refine blk_alloc ?_ _));exact BK128.out) hb);have n1_ := Aside0.mk (below_step (by repeat (first | (with_reducible first | exact HB.out | apply below_alloc | apply pw_below_drewN | apply below_drew1 | refine below_set ?_ GE128.out) | exact HB.out)) hb);have n2_ := Aside0.mk (hbox);have n3_ := Aside0.mk ((by rw [hg];exact (below_size (by repeat (first | (with_reducible first | exact HB.out | apply below_alloc | apply pw_below_drewN | apply below_drew1 | refine below_set ?_ GE128.out) | exact HB.out))) : w.heap.size ≤ gb129));have n4_ := Aside0.mk ((by rw [hg];exact (below_size (by repeat (first | (with_reducible first | exact HB.out | apply below_alloc | apply pw_below_drewN | apply below_drew1 | refine below_set ?_ GE128.out) | exact HB.out))) : w.heap.size ≤ gb129));have n5_ := Aside0.mk ((by rw [hg];exact Nat.ne_of_lt (blk_lt (g := gb128) (o := .cells #[.int .i64 a0_0,.bool a0_1,.int .i64 a0_2,.string a0_3] 149 (0,0)) (by (with_reducible repeat (first | refine blk_drewN ?_ _ | refine blk_drew ?_ | refine blk_alloc ?_ _));exact BK128.out)) : gb128 ≠ gb129));have n6_ := Aside0.mk ((by rw [hg];exact Nat.ne_of_gt (blk_lt (g := gb128) (o := .cells #[.int .i64 a0_0,.bool a0_1,.int .i64 a0_2,.string a0_3] 149 (0,0)) (by (with_reducible repeat (first | refine blk_drewN ?_ _ | refine blk_drew ?_ | refine blk_alloc ?_ _));exact BK128.out)) : gb129 ≠ gb128));clear BK128;clear HB;have BK128 := n0_;have HB := n1_;have BK129 := n2_;have GW129 := n3_;have GE129 := n4_;have NB128_129 := n5_;have NB129_128 := n6_;clear n0_ n1_ n2_ n3_ n4_ n5_ n6_;clear hb hbox hg;have hnb19 := NB128_129.out;have hnc19 := NB129_128.out;have hcz20_0 : w18.cell? ⟨gb128,0,none⟩ = some (.int .i64 a0_0) := (blk_cell BK128.out 0).trans rfl;have hcz20_1 : w18.cell? ⟨gb128,1,none⟩ = some (.bool a0_1) := (blk_cell BK128.out 1).trans rfl;have hcz20_2 : w18.cell? ⟨gb128,2,none⟩ = some (.int .i64 a0_2) := (blk_cell BK128.out 2).trans rfl;have hcz20_3 : w18.cell? ⟨gb128,3,none⟩ = some (.string a0_3) := (blk_cell BK128.out 3).trans rfl;have hfz20_0 := blk_frozen BK128.out 0;have hfz20_1 := blk_frozen BK128.out 1;have hfz20_2 := blk_frozen BK128.out 2;have hfz20_3 := blk_frozen BK128.out 3;have hcz21_0 : w18.cell? ⟨gb129,0,none⟩ = some (.int .i64 a1_0) := (blk_cell BK129.out 0).trans rfl;have hcz21_1 : w18.cell? ⟨gb129,1,none⟩ = some (.bool a1_1) := (blk_cell BK129.out 1).trans rfl;have hcz21_2 : w18.cell? ⟨gb129,2,none⟩ = some (.int .i64 a1_2) := (blk_cell BK129.out 2).trans rfl;have hcz21_3 : w18.cell? ⟨gb129,3,none⟩ = some (.string a1_3) := (blk_cell BK129.out 3).trans rfl;have hfz21_0 := blk_frozen BK129.out 0;have hfz21_1 := blk_frozen BK129.out 1;have hfz21_2 := blk_frozen BK129.out 2;have hfz21_3 := blk_frozen BK129.out 3))
          go_ret
          exact ⟨by first | rfl | (simp [errW_none,errW_some] <;> rfl) | (simp [*,errW_none,errW_some] <;> rfl),by repeat (first | (with_reducible first | exact HB.out | apply below_alloc | apply pw_below_drewN | apply below_drew1 | refine below_set ?_ GE128.out | refine below_set ?_ GE129.out) | exact HB.out)⟩
        · rw [if_neg c16] at H
          have c16b0 : (a0_1 == a1_1) = false := by simpa using c16
          (try (have c16b1 : decide (a0_1 = a1_1) = false := by simpa using c16))
          (try (have c16b2 : (a0_1 == a1_1) = false := by simpa using c16))
          (try (have c16b3 : ¬ (a0_1 = a1_1) := by simpa using c16))
          clear c16
          by_cases c22 : a1_1 = true
          · subst c22
            have H1 : (some (-1)) = some r := by rw [if_pos rfl] at H;exact H
            clear H
            have H := H1
            clear H1
            obtain rfl := Option.some.inj H
            go_enter Try.func120,Try.ntmps120
            go_wp2_with (first | ((with_reducible refine gate_dst (N := 2) rfl ?_);refine box_event ?hg (N := 2) ?hd (cs := #[.int .i64 a0_0,.bool a0_1,.int .i64 a0_2,.string a0_3]) (t := 149) ?hr ?_;(case hd => rfl);(case hg => rfl);(case hr => first | (go_simp;done) | (go_simp;rfl));intro gb128 hg w23 hbox hb;have n0_ := Aside0.mk (below_step (by repeat (first | (with_reducible first | exact HB.out | apply below_alloc | apply pw_below_drewN | apply below_drew1) | exact HB.out)) hb);have n1_ := Aside0.mk (hbox);have n2_ := Aside0.mk ((by rw [hg];exact (below_size (by repeat (first | (with_reducible first | exact HB.out | apply below_alloc | apply pw_below_drewN | apply below_drew1) | exact HB.out))) : w.heap.size ≤ gb128));have n3_ := Aside0.mk ((by rw [hg];exact (below_size (by repeat (first | (with_reducible first | exact HB.out | apply below_alloc | apply pw_below_drewN | apply below_drew1) | exact HB.out))) : w.heap.size ≤ gb128));clear HB;have HB := n0_;have BK128 := n1_;have GW128 := n2_;have GE128 := n3_;clear n0_ n1_ n2_ n3_;clear hb hbox hg) | ((with_reducible refine gate_dst (N := 3) rfl ?_);refine box_event ?hg (N := 3) ?hd (cs := #[.int .i64 a1_0,.bool true,.int .i64 a1_2,.string a1_3]) (t := 149) ?hr ?_;(case hd => rfl);(case hg => rfl);(case hr => first | (go_simp;done) | (go_simp;rfl));intro gb129 hg w24 hbox hb;have n0_ := Aside0.mk (blk_below (g := gb128) (o := .cells #[.int .i64 a0_0,.bool a0_1,.int .i64 a0_2,.string a0_3] 149 (0,0)) (by (with_reducible repeat (first | refine blk_drewN ?_ _ | refine blk_drew ?_ | refine blk_alloc ?_ _));exact BK128.out) hb);have n1_ := Aside0.mk (below_step (by repeat (first | (with_reducible first | exact HB.out | apply below_alloc | apply pw_below_drewN | apply below_drew1 | refine below_set ?_ GE128.out) | exact HB.out)) hb);have n2_ := Aside0.mk (hbox);have n3_ := Aside0.mk ((by rw [hg];exact (below_size (by repeat (first | (with_reducible first | exact HB.out | apply below_alloc | apply pw_below_drewN | apply below_drew1 | refine below_set ?_ GE128.out) | exact HB.out))) : w.heap.size ≤ gb129));have n4_ := Aside0.mk ((by rw [hg];exact (below_size (by repeat (first | (with_reducible first | exact HB.out | apply below_alloc | apply pw_below_drewN | apply below_drew1 | refine below_set ?_ GE128.out) | exact HB.out))) : w.heap.size ≤ gb129));have n5_ := Aside0.mk ((by rw [hg];exact Nat.ne_of_lt (blk_lt (g := gb128) (o := .cells #[.int .i64 a0_0,.bool a0_1,.int .i64 a0_2,.string a0_3] 149 (0,0)) (by (with_reducible repeat (first | refine blk_drewN ?_ _ | refine blk_drew ?_ | refine blk_alloc ?_ _));exact BK128.out)) : gb128 ≠ gb129));have n6_ := Aside0.mk ((by rw [hg];exact Nat.ne_of_gt (blk_lt (g := gb128) (o := .cells #[.int .i64 a0_0,.bool a0_1,.int .i64 a0_2,.string a0_3] 149 (0,0)) (by (with_reducible repeat (first | refine blk_drewN ?_ _ | refine blk_drew ?_ | refine blk_alloc ?_ _));exact BK128.out)) : gb129 ≠ gb128));clear BK128;clear HB;have BK128 := n0_;have HB := n1_;have BK129 := n2_;have GW129 := n3_;have GE129 := n4_;have NB128_129 := n5_;have NB129_128 := n6_;clear n0_ n1_ n2_ n3_ n4_ n5_ n6_;clear hb hbox hg;have hnb25 := NB128_129.out;have hnc25 := NB129_128.out;have hcz26_0 : w24.cell? ⟨gb128,0,none⟩ = some (.int .i64 a0_0) := (blk_cell BK128.out 0).trans rfl;have hcz26_1 : w24.cell? ⟨gb128,1,none⟩ = some (.bool a0_1) := (blk_cell BK128.out 1).trans rfl;have hcz26_2 : w24.cell? ⟨gb128,2,none⟩ = some (.int .i64 a0_2) := (blk_cell BK128.out 2).trans rfl;have hcz26_3 : w24.cell? ⟨gb128,3,none⟩ = some (.string a0_3) := (blk_cell BK128.out 3).trans rfl;have hfz26_0 := blk_frozen BK128.out 0;have hfz26_1 := blk_frozen BK128.out 1;have hfz26_2 := blk_frozen BK128.out 2;have hfz26_3 := blk_frozen BK128.out 3;have hcz27_0 : w24.cell? ⟨gb129,0,none⟩ = some (.int .i64 a1_0) := (blk_cell BK129.out 0).trans rfl;have hcz27_1 : w24.cell? ⟨gb129,1,none⟩ = some (.bool true) := (blk_cell BK129.out 1).trans rfl;have hcz27_2 : w24.cell? ⟨gb129,2,none⟩ = some (.int .i64 a1_2) := (blk_cell BK129.out 2).trans rfl;have hcz27_3 : w24.cell? ⟨gb129,3,none⟩ = some (.string a1_3) := (blk_cell BK129.out 3).trans rfl;have hfz27_0 := blk_frozen BK129.out 0;have hfz27_1 := blk_frozen BK129.out 1;have hfz27_2 := blk_frozen BK129.out 2;have hfz27_3 := blk_frozen BK129.out 3))
            go_ret
            exact ⟨by first | rfl | (simp [errW_none,errW_some] <;> rfl) | (simp [*,errW_none,errW_some] <;> rfl),by repeat (first | (with_reducible first | exact HB.out | apply below_alloc | apply pw_below_drewN | apply below_drew1 | refine below_set ?_ GE128.out | refine below_set ?_ GE129.out) | exact HB.out)⟩
          · replace c22 := Bool.eq_false_iff.mpr c22
            subst c22
            have H1 : (some 1) = some r := by rw [if_neg (show ¬ (false = true) by decide)] at H;exact H
            clear H
            have H := H1
            clear H1
            obtain rfl := Option.some.inj H
            go_enter Try.func120,Try.ntmps120
            go_wp2_with (first | ((with_reducible refine gate_dst (N := 2) rfl ?_);refine box_event ?hg (N := 2) ?hd (cs := #[.int .i64 a0_0,.bool a0_1,.int .i64 a0_2,.string a0_3]) (t := 149) ?hr ?_;(case hd => rfl);(case hg => rfl);(case hr => first | (go_simp;done) | (go_simp;rfl));intro gb128 hg w28 hbox hb;have n0_ := Aside0.mk (below_step (by repeat (first | (with_reducible first | exact HB.out | apply below_alloc | apply pw_below_drewN | apply below_drew1) | exact HB.out)) hb);have n1_ := Aside0.mk (hbox);have n2_ := Aside0.mk ((by rw [hg];exact (below_size (by repeat (first | (with_reducible first | exact HB.out | apply below_alloc | apply pw_below_drewN | apply below_drew1) | exact HB.out))) : w.heap.size ≤ gb128));have n3_ := Aside0.mk ((by rw [hg];exact (below_size (by repeat (first | (with_reducible first | exact HB.out | apply below_alloc | apply pw_below_drewN | apply below_drew1) | exact HB.out))) : w.heap.size ≤ gb128));clear HB;have HB := n0_;have BK128 := n1_;have GW128 := n2_;have GE128 := n3_;clear n0_ n1_ n2_ n3_;clear hb hbox hg) | ((with_reducible refine gate_dst (N := 3) rfl ?_);refine box_event ?hg (N := 3) ?hd (cs := #[.int .i64 a1_0,.bool false,.int .i64 a1_2,.string a1_3]) (t := 149) ?hr ?_;(case hd => rfl);(case hg => rfl);(case hr => first | (go_simp;done) | (go_simp;rfl));intro gb129 hg w29 hbox hb;have n0_ := Aside0.mk (blk_below (g := gb128) (o := .cells #[.int .i64 a0_0,.bool a0_1,.int .i64 a0_2,.string a0_3] 149 (0,0)) (by (with_reducible repeat (first | refine blk_drewN ?_ _ | refine blk_drew ?_ | refine blk_alloc ?_ _));exact BK128.out) hb);have n1_ := Aside0.mk (below_step (by repeat (first | (with_reducible first | exact HB.out | apply below_alloc | apply pw_below_drewN | apply below_drew1 | refine below_set ?_ GE128.out) | exact HB.out)) hb);have n2_ := Aside0.mk (hbox);have n3_ := Aside0.mk ((by rw [hg];exact (below_size (by repeat (first | (with_reducible first | exact HB.out | apply below_alloc | apply pw_below_drewN | apply below_drew1 | refine below_set ?_ GE128.out) | exact HB.out))) : w.heap.size ≤ gb129));have n4_ := Aside0.mk ((by rw [hg];exact (below_size (by repeat (first | (with_reducible first | exact HB.out | apply below_alloc | apply pw_below_drewN | apply below_drew1 | refine below_set ?_ GE128.out) | exact HB.out))) : w.heap.size ≤ gb129));have n5_ := Aside0.mk ((by rw [hg];exact Nat.ne_of_lt (blk_lt (g := gb128) (o := .cells #[.int .i64 a0_0,.bool a0_1,.int .i64 a0_2,.string a0_3] 149 (0,0)) (by (with_reducible repeat (first | refine blk_drewN ?_ _ | refine blk_drew ?_ | refine blk_alloc ?_ _));exact BK128.out)) : gb128 ≠ gb129));have n6_ := Aside0.mk ((by rw [hg];exact Nat.ne_of_gt (blk_lt (g := gb128) (o := .cells #[.int .i64 a0_0,.bool a0_1,.int .i64 a0_2,.string a0_3] 149 (0,0)) (by (with_reducible repeat (first | refine blk_drewN ?_ _ | refine blk_drew ?_ | refine blk_alloc ?_ _));exact BK128.out)) : gb129 ≠ gb128));clear BK128;clear HB;have BK128 := n0_;have HB := n1_;have BK129 := n2_;have GW129 := n3_;have GE129 := n4_;have NB128_129 := n5_;have NB129_128 := n6_;clear n0_ n1_ n2_ n3_ n4_ n5_ n6_;clear hb hbox hg;have hnb30 := NB128_129.out;have hnc30 := NB129_128.out;have hcz31_0 : w29.cell? ⟨gb128,0,none⟩ = some (.int .i64 a0_0) := (blk_cell BK128.out 0).trans rfl;have hcz31_1 : w29.cell? ⟨gb128,1,none⟩ = some (.bool a0_1) := (blk_cell BK128.out 1).trans rfl;have hcz31_2 : w29.cell? ⟨gb128,2,none⟩ = some (.int .i64 a0_2) := (blk_cell BK128.out 2).trans rfl;have hcz31_3 : w29.cell? ⟨gb128,3,none⟩ = some (.string a0_3) := (blk_cell BK128.out 3).trans rfl;have hfz31_0 := blk_frozen BK128.out 0;have hfz31_1 := blk_frozen BK128.out 1;have hfz31_2 := blk_frozen BK128.out 2;have hfz31_3 := blk_frozen BK128.out 3;have hcz32_0 : w29.cell? ⟨gb129,0,none⟩ = some (.int .i64 a1_0) := (blk_cell BK129.out 0).trans rfl;have hcz32_1 : w29.cell? ⟨gb129,1,none⟩ = some (.bool false) := (blk_cell BK129.out 1).trans rfl;have hcz32_2 : w29.cell? ⟨gb129,2,none⟩ = some (.int .i64 a1_2) := (blk_cell BK129.out 2).trans rfl;have hcz32_3 : w29.cell? ⟨gb129,3,none⟩ = some (.string a1_3) := (blk_cell BK129.out 3).trans rfl;have hfz32_0 := blk_frozen BK129.out 0;have hfz32_1 := blk_frozen BK129.out 1;have hfz32_2 := blk_frozen BK129.out 2;have hfz32_3 := blk_frozen BK129.out 3))
            go_ret
            exact ⟨by first | rfl | (simp [errW_none,errW_some] <;> rfl) | (simp [*,errW_none,errW_some] <;> rfl),by repeat (first | (with_reducible first | exact HB.out | apply below_alloc | apply pw_below_drewN | apply below_drew1 | refine below_set ?_ GE128.out | refine below_set ?_ GE129.out) | exact HB.out)⟩
      · rw [if_neg c15] at H
        have c15b0 : (a0_0 == 1) = false := beq_eq_false_iff_ne.mpr c15
        have c15b1 : (a0_0 != 1) = true := bne_iff_ne.mpr c15
        by_cases c33 : a0_0 = 2
        · rw [if_pos c33] at H
          have c33b0 : (a0_0 == 2) = true := beq_iff_eq.mpr c33
          have c33b1 : (a0_0 != 2) = false := bne_eq_false_iff_eq.mpr c33
          clear c33
          by_cases c34 : a0_2 < a1_2
          · rw [if_pos c34] at H
            have c34b0 : decide (a0_2 < a1_2) = true := decide_eq_true c34
            clear c34
            obtain rfl := Option.some.inj H
            go_enter Try.func120,Try.ntmps120
            go_wp2_with (first | ((with_reducible refine gate_dst (N := 2) rfl ?_);refine box_event ?hg (N := 2) ?hd (cs := #[.int .i64 a0_0,.bool a0_1,.int .i64 a0_2,.string a0_3]) (t := 149) ?hr ?_;(case hd => rfl);(case hg => rfl);(case hr => first | (go_simp;done) | (go_simp;rfl));intro gb128 hg w35 hbox hb;have n0_ := Aside0.mk (below_step (by repeat (first | (with_reducible first | exact HB.out | apply below_alloc | apply pw_below_drewN | apply below_drew1) | exact HB.out)) hb);have n1_ := Aside0.mk (hbox);have n2_ := Aside0.mk ((by rw [hg];exact (below_size (by repeat (first | (with_reducible first | exact HB.out | apply below_alloc | apply pw_below_drewN | apply below_drew1) | exact HB.out))) : w.heap.size ≤ gb128));have n3_ := Aside0.mk ((by rw [hg];exact (below_size (by repeat (first | (with_reducible first | exact HB.out | apply below_alloc | apply pw_below_drewN | apply below_drew1) | exact HB.out))) : w.heap.size ≤ gb128));clear HB;have HB := n0_;have BK128 := n1_;have GW128 := n2_;have GE128 := n3_;clear n0_ n1_ n2_ n3_;clear hb hbox hg) | ((with_reducible refine gate_dst (N := 3) rfl ?_);refine box_event ?hg (N := 3) ?hd (cs := #[.int .i64 a1_0,.bool a1_1,.int .i64 a1_2,.string a1_3]) (t := 149) ?hr ?_;(case hd => rfl);(case hg => rfl);(case hr => first | (go_simp;done) | (go_simp;rfl));intro gb129 hg w36 hbox hb;have n0_ := Aside0.mk (blk_below (g := gb128) (o := .cells #[.int .i64 a0_0,.bool a0_1,.int .i64 a0_2,.string a0_3] 149 (0,0)) (by (with_reducible repeat (first | refine blk_drewN ?_ _ | refine blk_drew ?_ | refine blk_alloc ?_ _));exact BK128.out) hb);have n1_ := Aside0.mk (below_step (by repeat (first | (with_reducible first | exact HB.out | apply below_alloc | apply pw_below_drewN | apply below_drew1 | refine below_set ?_ GE128.out) | exact HB.out)) hb);have n2_ := Aside0.mk (hbox);have n3_ := Aside0.mk ((by rw [hg];exact (below_size (by repeat (first | (with_reducible first | exact HB.out | apply below_alloc | apply pw_below_drewN | apply below_drew1 | refine below_set ?_ GE128.out) | exact HB.out))) : w.heap.size ≤ gb129));have n4_ := Aside0.mk ((by rw [hg];exact (below_size (by repeat (first | (with_reducible first | exact HB.out | apply below_alloc | apply pw_below_drewN | apply below_drew1 | refine below_set ?_ GE128.out) | exact HB.out))) : w.heap.size ≤ gb129));have n5_ := Aside0.mk ((by rw [hg];exact Nat.ne_of_lt (blk_lt (g := gb128) (o := .cells #[.int .i64 a0_0,.bool a0_1,.int .i64 a0_2,.string a0_3] 149 (0,0)) (by (with_reducible repeat (first | refine blk_drewN ?_ _ | refine blk_drew ?_ | refine blk_alloc ?_ _));exact BK128.out)) : gb128 ≠ gb129));have n6_ := Aside0.mk ((by rw [hg];exact Nat.ne_of_gt (blk_lt (g := gb128) (o := .cells #[.int .i64 a0_0,.bool a0_1,.int .i64 a0_2,.string a0_3] 149 (0,0)) (by (with_reducible repeat (first | refine blk_drewN ?_ _ | refine blk_drew ?_ | refine blk_alloc ?_ _));exact BK128.out)) : gb129 ≠ gb128));clear BK128;clear HB;have BK128 := n0_;have HB := n1_;have BK129 := n2_;have GW129 := n3_;have GE129 := n4_;have NB128_129 := n5_;have NB129_128 := n6_;clear n0_ n1_ n2_ n3_ n4_ n5_ n6_;clear hb hbox hg;have hnb37 := NB128_129.out;have hnc37 := NB129_128.out;have hcz38_0 : w36.cell? ⟨gb128,0,none⟩ = some (.int .i64 a0_0) := (blk_cell BK128.out 0).trans rfl;have hcz38_1 : w36.cell? ⟨gb128,1,none⟩ = some (.bool a0_1) := (blk_cell BK128.out 1).trans rfl;have hcz38_2 : w36.cell? ⟨gb128,2,none⟩ = some (.int .i64 a0_2) := (blk_cell BK128.out 2).trans rfl;have hcz38_3 : w36.cell? ⟨gb128,3,none⟩ = some (.string a0_3) := (blk_cell BK128.out 3).trans rfl;have hfz38_0 := blk_frozen BK128.out 0;have hfz38_1 := blk_frozen BK128.out 1;have hfz38_2 := blk_frozen BK128.out 2;have hfz38_3 := blk_frozen BK128.out 3;have hcz39_0 : w36.cell? ⟨gb129,0,none⟩ = some (.int .i64 a1_0) := (blk_cell BK129.out 0).trans rfl;have hcz39_1 : w36.cell? ⟨gb129,1,none⟩ = some (.bool a1_1) := (blk_cell BK129.out 1).trans rfl;have hcz39_2 : w36.cell? ⟨gb129,2,none⟩ = some (.int .i64 a1_2) := (blk_cell BK129.out 2).trans rfl;have hcz39_3 : w36.cell? ⟨gb129,3,none⟩ = some (.string a1_3) := (blk_cell BK129.out 3).trans rfl;have hfz39_0 := blk_frozen BK129.out 0;have hfz39_1 := blk_frozen BK129.out 1;have hfz39_2 := blk_frozen BK129.out 2;have hfz39_3 := blk_frozen BK129.out 3))
            go_ret
            exact ⟨by first | rfl | (simp [errW_none,errW_some] <;> rfl) | (simp [*,errW_none,errW_some] <;> rfl),by repeat (first | (with_reducible first | exact HB.out | apply below_alloc | apply pw_below_drewN | apply below_drew1 | refine below_set ?_ GE128.out | refine below_set ?_ GE129.out) | exact HB.out)⟩
          · rw [if_neg c34] at H
            have c34b0 : decide (a0_2 < a1_2) = false := decide_eq_false c34
            clear c34
            by_cases c40 : a0_2 > a1_2
            · rw [if_pos c40] at H
              have c40b0 : decide (a1_2 < a0_2) = true := decide_eq_true c40
              clear c40
              obtain rfl := Option.some.inj H
              go_enter Try.func120,Try.ntmps120
              go_wp2_with (first | ((with_reducible refine gate_dst (N := 2) rfl ?_);refine box_event ?hg (N := 2) ?hd (cs := #[.int .i64 a0_0,.bool a0_1,.int .i64 a0_2,.string a0_3]) (t := 149) ?hr ?_;(case hd => rfl);(case hg => rfl);(case hr => first | (go_simp;done) | (go_simp;rfl));intro gb128 hg w41 hbox hb;have n0_ := Aside0.mk (below_step (by repeat (first | (with_reducible first | exact HB.out | apply below_alloc | apply pw_below_drewN | apply below_drew1) | exact HB.out)) hb);have n1_ := Aside0.mk (hbox);have n2_ := Aside0.mk ((by rw [hg];exact (below_size (by repeat (first | (with_reducible first | exact HB.out | apply below_alloc | apply pw_below_drewN | apply below_drew1) | exact HB.out))) : w.heap.size ≤ gb128));have n3_ := Aside0.mk ((by rw [hg];exact (below_size (by repeat (first | (with_reducible first | exact HB.out | apply below_alloc | apply pw_below_drewN | apply below_drew1) | exact HB.out))) : w.heap.size ≤ gb128));clear HB;have HB := n0_;have BK128 := n1_;have GW128 := n2_;have GE128 := n3_;clear n0_ n1_ n2_ n3_;clear hb hbox hg) | ((with_reducible refine gate_dst (N := 3) rfl ?_);refine box_event ?hg (N := 3) ?hd (cs := #[.int .i64 a1_0,.bool a1_1,.int .i64 a1_2,.string a1_3]) (t := 149) ?hr ?_;(case hd => rfl);(case hg => rfl);(case hr => first | (go_simp;done) | (go_simp;rfl));intro gb129 hg w42 hbox hb;have n0_ := Aside0.mk (blk_below (g := gb128) (o := .cells #[.int .i64 a0_0,.bool a0_1,.int .i64 a0_2,.string a0_3] 149 (0,0)) (by (with_reducible repeat (first | refine blk_drewN ?_ _ | refine blk_drew ?_ | refine blk_alloc ?_ _));exact BK128.out) hb);have n1_ := Aside0.mk (below_step (by repeat (first | (with_reducible first | exact HB.out | apply below_alloc | apply pw_below_drewN | apply below_drew1 | refine below_set ?_ GE128.out) | exact HB.out)) hb);have n2_ := Aside0.mk (hbox);have n3_ := Aside0.mk ((by rw [hg];exact (below_size (by repeat (first | (with_reducible first | exact HB.out | apply below_alloc | apply pw_below_drewN | apply below_drew1 | refine below_set ?_ GE128.out) | exact HB.out))) : w.heap.size ≤ gb129));have n4_ := Aside0.mk ((by rw [hg];exact (below_size (by repeat (first | (with_reducible first | exact HB.out | apply below_alloc | apply pw_below_drewN | apply below_drew1 | refine below_set ?_ GE128.out) | exact HB.out))) : w.heap.size ≤ gb129));have n5_ := Aside0.mk ((by rw [hg];exact Nat.ne_of_lt (blk_lt (g := gb128) (o := .cells #[.int .i64 a0_0,.bool a0_1,.int .i64 a0_2,.string a0_3] 149 (0,0)) (by (with_reducible repeat (first | refine blk_drewN ?_ _ | refine blk_drew ?_ | refine blk_alloc ?_ _));exact BK128.out)) : gb128 ≠ gb129));have n6_ := Aside0.mk ((by rw [hg];exact Nat.ne_of_gt (blk_lt (g := gb128) (o := .cells #[.int .i64 a0_0,.bool a0_1,.int .i64 a0_2,.string a0_3] 149 (0,0)) (by (with_reducible repeat (first | refine blk_drewN ?_ _ | refine blk_drew ?_ | refine blk_alloc ?_ _));exact BK128.out)) : gb129 ≠ gb128));clear BK128;clear HB;have BK128 := n0_;have HB := n1_;have BK129 := n2_;have GW129 := n3_;have GE129 := n4_;have NB128_129 := n5_;have NB129_128 := n6_;clear n0_ n1_ n2_ n3_ n4_ n5_ n6_;clear hb hbox hg;have hnb43 := NB128_129.out;have hnc43 := NB129_128.out;have hcz44_0 : w42.cell? ⟨gb128,0,none⟩ = some (.int .i64 a0_0) := (blk_cell BK128.out 0).trans rfl;have hcz44_1 : w42.cell? ⟨gb128,1,none⟩ = some (.bool a0_1) := (blk_cell BK128.out 1).trans rfl;have hcz44_2 : w42.cell? ⟨gb128,2,none⟩ = some (.int .i64 a0_2) := (blk_cell BK128.out 2).trans rfl;have hcz44_3 : w42.cell? ⟨gb128,3,none⟩ = some (.string a0_3) := (blk_cell BK128.out 3).trans rfl;have hfz44_0 := blk_frozen BK128.out 0;have hfz44_1 := blk_frozen BK128.out 1;have hfz44_2 := blk_frozen BK128.out 2;have hfz44_3 := blk_frozen BK128.out 3;have hcz45_0 : w42.cell? ⟨gb129,0,none⟩ = some (.int .i64 a1_0) := (blk_cell BK129.out 0).trans rfl;have hcz45_1 : w42.cell? ⟨gb129,1,none⟩ = some (.bool a1_1) := (blk_cell BK129.out 1).trans rfl;have hcz45_2 : w42.cell? ⟨gb129,2,none⟩ = some (.int .i64 a1_2) := (blk_cell BK129.out 2).trans rfl;have hcz45_3 : w42.cell? ⟨gb129,3,none⟩ = some (.string a1_3) := (blk_cell BK129.out 3).trans rfl;have hfz45_0 := blk_frozen BK129.out 0;have hfz45_1 := blk_frozen BK129.out 1;have hfz45_2 := blk_frozen BK129.out 2;have hfz45_3 := blk_frozen BK129.out 3))
              go_ret
              exact ⟨by first | rfl | (simp [errW_none,errW_some] <;> rfl) | (simp [*,errW_none,errW_some] <;> rfl),by repeat (first | (with_reducible first | exact HB.out | apply below_alloc | apply pw_below_drewN | apply below_drew1 | refine below_set ?_ GE128.out | refine below_set ?_ GE129.out) | exact HB.out)⟩
            · rw [if_neg c40] at H
              have c40b0 : decide (a1_2 < a0_2) = false := decide_eq_false c40
              clear c40
              obtain rfl := Option.some.inj H
              go_enter Try.func120,Try.ntmps120
              go_wp2_with (first | ((with_reducible refine gate_dst (N := 2) rfl ?_);refine box_event ?hg (N := 2) ?hd (cs := #[.int .i64 a0_0,.bool a0_1,.int .i64 a0_2,.string a0_3]) (t := 149) ?hr ?_;(case hd => rfl);(case hg => rfl);(case hr => first | (go_simp;done) | (go_simp;rfl));intro gb128 hg w46 hbox hb;have n0_ := Aside0.mk (below_step (by repeat (first | (with_reducible first | exact HB.out | apply below_alloc | apply pw_below_drewN | apply below_drew1) | exact HB.out)) hb);have n1_ := Aside0.mk (hbox);have n2_ := Aside0.mk ((by rw [hg];exact (below_size (by repeat (first | (with_reducible first | exact HB.out | apply below_alloc | apply pw_below_drewN | apply below_drew1) | exact HB.out))) : w.heap.size ≤ gb128));have n3_ := Aside0.mk ((by rw [hg];exact (below_size (by repeat (first | (with_reducible first | exact HB.out | apply below_alloc | apply pw_below_drewN | apply below_drew1) | exact HB.out))) : w.heap.size ≤ gb128));clear HB;have HB := n0_;have BK128 := n1_;have GW128 := n2_;have GE128 := n3_;clear n0_ n1_ n2_ n3_;clear hb hbox hg) | ((with_reducible refine gate_dst (N := 3) rfl ?_);refine box_event ?hg (N := 3) ?hd (cs := #[.int .i64 a1_0,.bool a1_1,.int .i64 a1_2,.string a1_3]) (t := 149) ?hr ?_;(case hd => rfl);(case hg => rfl);(case hr => first | (go_simp;done) | (go_simp;rfl));intro gb129 hg w47 hbox hb;have n0_ := Aside0.mk (blk_below (g := gb128) (o := .cells #[.int .i64 a0_0,.bool a0_1,.int .i64 a0_2,.string a0_3] 149 (0,0)) (by (with_reducible repeat (first | refine blk_drewN ?_ _ | refine blk_drew ?_ | refine blk_alloc ?_ _));exact BK128.out) hb);have n1_ := Aside0.mk (below_step (by repeat (first | (with_reducible first | exact HB.out | apply below_alloc | apply pw_below_drewN | apply below_drew1 | refine below_set ?_ GE128.out) | exact HB.out)) hb);have n2_ := Aside0.mk (hbox);have n3_ := Aside0.mk ((by rw [hg];exact (below_size (by repeat (first | (with_reducible first | exact HB.out | apply below_alloc | apply pw_below_drewN | apply below_drew1 | refine below_set ?_ GE128.out) | exact HB.out))) : w.heap.size ≤ gb129));have n4_ := Aside0.mk ((by rw [hg];exact (below_size (by repeat (first | (with_reducible first | exact HB.out | apply below_alloc | apply pw_below_drewN | apply below_drew1 | refine below_set ?_ GE128.out) | exact HB.out))) : w.heap.size ≤ gb129));have n5_ := Aside0.mk ((by rw [hg];exact Nat.ne_of_lt (blk_lt (g := gb128) (o := .cells #[.int .i64 a0_0,.bool a0_1,.int .i64 a0_2,.string a0_3] 149 (0,0)) (by (with_reducible repeat (first | refine blk_drewN ?_ _ | refine blk_drew ?_ | refine blk_alloc ?_ _));exact BK128.out)) : gb128 ≠ gb129));have n6_ := Aside0.mk ((by rw [hg];exact Nat.ne_of_gt (blk_lt (g := gb128) (o := .cells #[.int .i64 a0_0,.bool a0_1,.int .i64 a0_2,.string a0_3] 149 (0,0)) (by (with_reducible repeat (first | refine blk_drewN ?_ _ | refine blk_drew ?_ | refine blk_alloc ?_ _));exact BK128.out)) : gb129 ≠ gb128));clear BK128;clear HB;have BK128 := n0_;have HB := n1_;have BK129 := n2_;have GW129 := n3_;have GE129 := n4_;have NB128_129 := n5_;have NB129_128 := n6_;clear n0_ n1_ n2_ n3_ n4_ n5_ n6_;clear hb hbox hg;have hnb48 := NB128_129.out;have hnc48 := NB129_128.out;have hcz49_0 : w47.cell? ⟨gb128,0,none⟩ = some (.int .i64 a0_0) := (blk_cell BK128.out 0).trans rfl;have hcz49_1 : w47.cell? ⟨gb128,1,none⟩ = some (.bool a0_1) := (blk_cell BK128.out 1).trans rfl;have hcz49_2 : w47.cell? ⟨gb128,2,none⟩ = some (.int .i64 a0_2) := (blk_cell BK128.out 2).trans rfl;have hcz49_3 : w47.cell? ⟨gb128,3,none⟩ = some (.string a0_3) := (blk_cell BK128.out 3).trans rfl;have hfz49_0 := blk_frozen BK128.out 0;have hfz49_1 := blk_frozen BK128.out 1;have hfz49_2 := blk_frozen BK128.out 2;have hfz49_3 := blk_frozen BK128.out 3;have hcz50_0 : w47.cell? ⟨gb129,0,none⟩ = some (.int .i64 a1_0) := (blk_cell BK129.out 0).trans rfl;have hcz50_1 : w47.cell? ⟨gb129,1,none⟩ = some (.bool a1_1) := (blk_cell BK129.out 1).trans rfl;have hcz50_2 : w47.cell? ⟨gb129,2,none⟩ = some (.int .i64 a1_2) := (blk_cell BK129.out 2).trans rfl;have hcz50_3 : w47.cell? ⟨gb129,3,none⟩ = some (.string a1_3) := (blk_cell BK129.out 3).trans rfl;have hfz50_0 := blk_frozen BK129.out 0;have hfz50_1 := blk_frozen BK129.out 1;have hfz50_2 := blk_frozen BK129.out 2;have hfz50_3 := blk_frozen BK129.out 3))
              go_ret
              exact ⟨by first | rfl | (simp [errW_none,errW_some] <;> rfl) | (simp [*,errW_none,errW_some] <;> rfl),by repeat (first | (with_reducible first | exact HB.out | apply below_alloc | apply pw_below_drewN | apply below_drew1 | refine below_set ?_ GE128.out | refine below_set ?_ GE129.out) | exact HB.out)⟩
        · rw [if_neg c33] at H
          have c33b0 : (a0_0 == 2) = false := beq_eq_false_iff_ne.mpr c33
          have c33b1 : (a0_0 != 2) = true := bne_iff_ne.mpr c33
          by_cases c51 : a0_0 = 3
          · rw [if_pos c51] at H
            have c51b0 : (a0_0 == 3) = true := beq_iff_eq.mpr c51
            have c51b1 : (a0_0 != 3) = false := bne_eq_false_iff_eq.mpr c51
            clear c51
            replace H := Option.bind_eq_some_iff.mp H
            obtain ⟨t130,A520,H⟩ := H
            replace H : (some t130) = some r := H
            have A52 := Aside0.mk A520
            clear A520
            obtain rfl := Option.some.inj H
            go_enter Try.func120,Try.ntmps120
            go_wp2_with (first | ((with_reducible refine gate_dst (N := 2) rfl ?_);refine box_event ?hg (N := 2) ?hd (cs := #[.int .i64 a0_0,.bool a0_1,.int .i64 a0_2,.string a0_3]) (t := 149) ?hr ?_;(case hd => rfl);(case hg => rfl);(case hr => first | (go_simp;done) | (go_simp;rfl));intro gb128 hg w53 hbox hb;have n0_ := Aside0.mk (below_step (by repeat (first | (with_reducible first | exact HB.out | apply below_alloc | apply pw_below_drewN | apply below_drew1) | exact HB.out)) hb);have n1_ := Aside0.mk (hbox);have n2_ := Aside0.mk ((by rw [hg];exact (below_size (by repeat (first | (with_reducible first | exact HB.out | apply below_alloc | apply pw_below_drewN | apply below_drew1) | exact HB.out))) : w.heap.size ≤ gb128));have n3_ := Aside0.mk ((by rw [hg];exact (below_size (by repeat (first | (with_reducible first | exact HB.out | apply below_alloc | apply pw_below_drewN | apply below_drew1) | exact HB.out))) : w.heap.size ≤ gb128));clear HB;have HB := n0_;have BK128 := n1_;have GW128 := n2_;have GE128 := n3_;clear n0_ n1_ n2_ n3_;clear hb hbox hg) | ((with_reducible refine gate_dst (N := 3) rfl ?_);refine box_event ?hg (N := 3) ?hd (cs := #[.int .i64 a1_0,.bool a1_1,.int .i64 a1_2,.string a1_3]) (t := 149) ?hr ?_;(case hd => rfl);(case hg => rfl);(case hr => first | (go_simp;done) | (go_simp;rfl));intro gb129 hg w54 hbox hb;have n0_ := Aside0.mk (blk_below (g := gb128) (o := .cells #[.int .i64 a0_0,.bool a0_1,.int .i64 a0_2,.string a0_3] 149 (0,0)) (by (with_reducible repeat (first | refine blk_drewN ?_ _ | refine blk_drew ?_ | refine blk_alloc ?_ _));exact BK128.out) hb);have n1_ := Aside0.mk (below_step (by repeat (first | (with_reducible first | exact HB.out | apply below_alloc | apply pw_below_drewN | apply below_drew1 | refine below_set ?_ GE128.out) | exact HB.out)) hb);have n2_ := Aside0.mk (hbox);have n3_ := Aside0.mk ((by rw [hg];exact (below_size (by repeat (first | (with_reducible first | exact HB.out | apply below_alloc | apply pw_below_drewN | apply below_drew1 | refine below_set ?_ GE128.out) | exact HB.out))) : w.heap.size ≤ gb129));have n4_ := Aside0.mk ((by rw [hg];exact (below_size (by repeat (first | (with_reducible first | exact HB.out | apply below_alloc | apply pw_below_drewN | apply below_drew1 | refine below_set ?_ GE128.out) | exact HB.out))) : w.heap.size ≤ gb129));have n5_ := Aside0.mk ((by rw [hg];exact Nat.ne_of_lt (blk_lt (g := gb128) (o := .cells #[.int .i64 a0_0,.bool a0_1,.int .i64 a0_2,.string a0_3] 149 (0,0)) (by (with_reducible repeat (first | refine blk_drewN ?_ _ | refine blk_drew ?_ | refine blk_alloc ?_ _));exact BK128.out)) : gb128 ≠ gb129));have n6_ := Aside0.mk ((by rw [hg];exact Nat.ne_of_gt (blk_lt (g := gb128) (o := .cells #[.int .i64 a0_0,.bool a0_1,.int .i64 a0_2,.string a0_3] 149 (0,0)) (by (with_reducible repeat (first | refine blk_drewN ?_ _ | refine blk_drew ?_ | refine blk_alloc ?_ _));exact BK128.out)) : gb129 ≠ gb128));clear BK128;clear HB;have BK128 := n0_;have HB := n1_;have BK129 := n2_;have GW129 := n3_;have GE129 := n4_;have NB128_129 := n5_;have NB129_128 := n6_;clear n0_ n1_ n2_ n3_ n4_ n5_ n6_;clear hb hbox hg;have hnb55 := NB128_129.out;have hnc55 := NB129_128.out;have hcz56_0 : w54.cell? ⟨gb128,0,none⟩ = some (.int .i64 a0_0) := (blk_cell BK128.out 0).trans rfl;have hcz56_1 : w54.cell? ⟨gb128,1,none⟩ = some (.bool a0_1) := (blk_cell BK128.out 1).trans rfl;have hcz56_2 : w54.cell? ⟨gb128,2,none⟩ = some (.int .i64 a0_2) := (blk_cell BK128.out 2).trans rfl;have hcz56_3 : w54.cell? ⟨gb128,3,none⟩ = some (.string a0_3) := (blk_cell BK128.out 3).trans rfl;have hfz56_0 := blk_frozen BK128.out 0;have hfz56_1 := blk_frozen BK128.out 1;have hfz56_2 := blk_frozen BK128.out 2;have hfz56_3 := blk_frozen BK128.out 3;have hcz57_0 : w54.cell? ⟨gb129,0,none⟩ = some (.int .i64 a1_0) := (blk_cell BK129.out 0).trans rfl;have hcz57_1 : w54.cell? ⟨gb129,1,none⟩ = some (.bool a1_1) := (blk_cell BK129.out 1).trans rfl;have hcz57_2 : w54.cell? ⟨gb129,2,none⟩ = some (.int .i64 a1_2) := (blk_cell BK129.out 2).trans rfl;have hcz57_3 : w54.cell? ⟨gb129,3,none⟩ = some (.string a1_3) := (blk_cell BK129.out 3).trans rfl;have hfz57_0 := blk_frozen BK129.out 0;have hfz57_1 := blk_frozen BK129.out 1;have hfz57_2 := blk_frozen BK129.out 2;have hfz57_3 := blk_frozen BK129.out 3) | ((with_reducible refine gate_callee (f := 81) rfl ?_);refine goesL_ (some 45) rfl rfl Try.func81 (by kernel_rfl) rfl #[.string a0_3,.string a1_3] rfl (by (try simp only [List.map_toArray,List.map_cons,List.map_nil]);first | done | rfl | (simp only [List.length_drop,List.length_take];rfl)) ?_;(with_reducible refine (verdererref01_Text.calls k a0_3 a1_3 t130 _ A52.out).mono ?_);rintro e w' ⟨rfl,⟨nd,rfl⟩⟩;refine ⟨_,rfl,?_⟩))
            go_ret
            exact ⟨by first | rfl | (simp [errW_none,errW_some] <;> rfl) | (simp [*,errW_none,errW_some] <;> rfl),by repeat (first | (with_reducible first | exact HB.out | apply below_alloc | apply pw_below_drewN | apply below_drew1 | refine below_set ?_ GE128.out | refine below_set ?_ GE129.out) | exact HB.out)⟩
          · rw [if_neg c51] at H
            have c51b0 : (a0_0 == 3) = false := beq_eq_false_iff_ne.mpr c51
            have c51b1 : (a0_0 != 3) = true := bne_iff_ne.mpr c51
            obtain rfl := Option.some.inj H
            go_enter Try.func120,Try.ntmps120
            go_wp2_with (first | ((with_reducible refine gate_dst (N := 2) rfl ?_);refine box_event ?hg (N := 2) ?hd (cs := #[.int .i64 a0_0,.bool a0_1,.int .i64 a0_2,.string a0_3]) (t := 149) ?hr ?_;(case hd => rfl);(case hg => rfl);(case hr => first | (go_simp;done) | (go_simp;rfl));intro gb128 hg w58 hbox hb;have n0_ := Aside0.mk (below_step (by repeat (first | (with_reducible first | exact HB.out | apply below_alloc | apply pw_below_drewN | apply below_drew1) | exact HB.out)) hb);have n1_ := Aside0.mk (hbox);have n2_ := Aside0.mk ((by rw [hg];exact (below_size (by repeat (first | (with_reducible first | exact HB.out | apply below_alloc | apply pw_below_drewN | apply below_drew1) | exact HB.out))) : w.heap.size ≤ gb128));have n3_ := Aside0.mk ((by rw [hg];exact (below_size (by repeat (first | (with_reducible first | exact HB.out | apply below_alloc | apply pw_below_drewN | apply below_drew1) | exact HB.out))) : w.heap.size ≤ gb128));clear HB;have HB := n0_;have BK128 := n1_;have GW128 := n2_;have GE128 := n3_;clear n0_ n1_ n2_ n3_;clear hb hbox hg) | ((with_reducible refine gate_dst (N := 3) rfl ?_);refine box_event ?hg (N := 3) ?hd (cs := #[.int .i64 a1_0,.bool a1_1,.int .i64 a1_2,.string a1_3]) (t := 149) ?hr ?_;(case hd => rfl);(case hg => rfl);(case hr => first | (go_simp;done) | (go_simp;rfl));intro gb129 hg w59 hbox hb;have n0_ := Aside0.mk (blk_below (g := gb128) (o := .cells #[.int .i64 a0_0,.bool a0_1,.int .i64 a0_2,.string a0_3] 149 (0,0)) (by (with_reducible repeat (first | refine blk_drewN ?_ _ | refine blk_drew ?_ | refine blk_alloc ?_ _));exact BK128.out) hb);have n1_ := Aside0.mk (below_step (by repeat (first | (with_reducible first | exact HB.out | apply below_alloc | apply pw_below_drewN | apply below_drew1 | refine below_set ?_ GE128.out) | exact HB.out)) hb);have n2_ := Aside0.mk (hbox);have n3_ := Aside0.mk ((by rw [hg];exact (below_size (by repeat (first | (with_reducible first | exact HB.out | apply below_alloc | apply pw_below_drewN | apply below_drew1 | refine below_set ?_ GE128.out) | exact HB.out))) : w.heap.size ≤ gb129));have n4_ := Aside0.mk ((by rw [hg];exact (below_size (by repeat (first | (with_reducible first | exact HB.out | apply below_alloc | apply pw_below_drewN | apply below_drew1 | refine below_set ?_ GE128.out) | exact HB.out))) : w.heap.size ≤ gb129));have n5_ := Aside0.mk ((by rw [hg];exact Nat.ne_of_lt (blk_lt (g := gb128) (o := .cells #[.int .i64 a0_0,.bool a0_1,.int .i64 a0_2,.string a0_3] 149 (0,0)) (by (with_reducible repeat (first | refine blk_drewN ?_ _ | refine blk_drew ?_ | refine blk_alloc ?_ _));exact BK128.out)) : gb128 ≠ gb129));have n6_ := Aside0.mk ((by rw [hg];exact Nat.ne_of_gt (blk_lt (g := gb128) (o := .cells #[.int .i64 a0_0,.bool a0_1,.int .i64 a0_2,.string a0_3] 149 (0,0)) (by (with_reducible repeat (first | refine blk_drewN ?_ _ | refine blk_drew ?_ | refine blk_alloc ?_ _));exact BK128.out)) : gb129 ≠ gb128));clear BK128;clear HB;have BK128 := n0_;have HB := n1_;have BK129 := n2_;have GW129 := n3_;have GE129 := n4_;have NB128_129 := n5_;have NB129_128 := n6_;clear n0_ n1_ n2_ n3_ n4_ n5_ n6_;clear hb hbox hg;have hnb60 := NB128_129.out;have hnc60 := NB129_128.out;have hcz61_0 : w59.cell? ⟨gb128,0,none⟩ = some (.int .i64 a0_0) := (blk_cell BK128.out 0).trans rfl;have hcz61_1 : w59.cell? ⟨gb128,1,none⟩ = some (.bool a0_1) := (blk_cell BK128.out 1).trans rfl;have hcz61_2 : w59.cell? ⟨gb128,2,none⟩ = some (.int .i64 a0_2) := (blk_cell BK128.out 2).trans rfl;have hcz61_3 : w59.cell? ⟨gb128,3,none⟩ = some (.string a0_3) := (blk_cell BK128.out 3).trans rfl;have hfz61_0 := blk_frozen BK128.out 0;have hfz61_1 := blk_frozen BK128.out 1;have hfz61_2 := blk_frozen BK128.out 2;have hfz61_3 := blk_frozen BK128.out 3;have hcz62_0 : w59.cell? ⟨gb129,0,none⟩ = some (.int .i64 a1_0) := (blk_cell BK129.out 0).trans rfl;have hcz62_1 : w59.cell? ⟨gb129,1,none⟩ = some (.bool a1_1) := (blk_cell BK129.out 1).trans rfl;have hcz62_2 : w59.cell? ⟨gb129,2,none⟩ = some (.int .i64 a1_2) := (blk_cell BK129.out 2).trans rfl;have hcz62_3 : w59.cell? ⟨gb129,3,none⟩ = some (.string a1_3) := (blk_cell BK129.out 3).trans rfl;have hfz62_0 := blk_frozen BK129.out 0;have hfz62_1 := blk_frozen BK129.out 1;have hfz62_2 := blk_frozen BK129.out 2;have hfz62_3 := blk_frozen BK129.out 3))
            go_ret
            exact ⟨by first | rfl | (simp [errW_none,errW_some] <;> rfl) | (simp [*,errW_none,errW_some] <;> rfl),by repeat (first | (with_reducible first | exact HB.out | apply below_alloc | apply pw_below_drewN | apply below_drew1 | refine below_set ?_ GE128.out | refine below_set ?_ GE129.out) | exact HB.out)⟩
end Go.Proofs.Ythfaimomcbmniaa.Z
end
section
namespace Go.Proofs.Ythfaimomcbmniaa.Z
open Go.RowKit Go.Proofs.YthfaimomcbmniaaW.PrintWords Go.Proofs.YthfaimomcbmniaaW.PrintLast Go.Proofs.YthfaimomcbmniaaW.PrintMore
attribute [local go_sem] max2_int min2_int max_two min_two max_three min_three max_four min_four
set_option linter.unusedVariables false
set_option linter.unusedSimpArgs false
mutual
def verdererref02_Compare.l0 : Nat → List (S149) → List (S149) → Int → Option (Int)
  | 0,_,_,_ => none
  | k + 1,x0,x1,x5 => if x5 < (x0.length : Int) then (verdererref02_Compare.j1 k x0 x1 x5 (decide (x5 < (x1.length : Int)))) else (verdererref02_Compare.j1 k x0 x1 x5 false)
def verdererref02_Compare.j1 : Nat → List (S149) → List (S149) → Int → Bool → Option (Int)
  | 0,_,_,_,_ => none
  | k + 1,x0,x1,x5,x16 => if x16 = true then (if 0 ≤ x5 then (if x5 < (x0.length : Int) then (if x5 < (x1.length : Int) then ((verdererref01_Compare.f k ((rd_T149 x0 x5).f0) ((rd_T149 x0 x5).f1) ((rd_T149 x0 x5).f2) ((rd_T149 x0 x5).f3) ((rd_T149 x1 x5).f0) ((rd_T149 x1 x5).f1) ((rd_T149 x1 x5).f2) ((rd_T149 x1 x5).f3)).bind fun t133 => (if t133 = 0 then (verdererref02_Compare.l0 k x0 x1 (wrap64 (x5 + 1))) else (some t133))) else (none)) else (none)) else (none)) else (if (x0.length : Int) < (x1.length : Int) then (some (-1)) else (if (x0.length : Int) > (x1.length : Int) then (some 1) else (some 0)))
end
def verdererref02_Compare.f (k : Nat) (l0 : List (S149)) (l1 : List (S149)) : Option (Int) := verdererref02_Compare.l0 k l0 l1 0
theorem verdererref02_Compare.mono_l : ∀ k,(∀ y0 y1 y2,LeO (verdererref02_Compare.l0 k y0 y1 y2) (verdererref02_Compare.l0 (k + 1) y0 y1 y2)) ∧ (∀ y0 y1 y2 y3,LeO (verdererref02_Compare.j1 k y0 y1 y2 y3) (verdererref02_Compare.j1 (k + 1) y0 y1 y2 y3))
  | 0 => ⟨fun _ _ _ r h => by simp [verdererref02_Compare.l0] at h,fun _ _ _ _ r h => by simp [verdererref02_Compare.j1] at h⟩
  | k + 1 => by
    obtain ⟨ih0,ih1⟩ := verdererref02_Compare.mono_l k
    refine ⟨?_,?_⟩
    · intro y0 y1 y2
      unfold verdererref02_Compare.l0
      repeat' first
      | (with_reducible exact ih0 _ _ _)
      | (with_reducible exact ih1 _ _ _ _)
      | (with_reducible exact verdererref01_Compare.mono _ _ _ _ _ _ _ _ _)
      | (with_reducible exact LeO.refl _)
      | (with_reducible exact LeO.none _)
      | (with_reducible refine LeO.ite ?_ ?_)
      | (with_reducible refine LeO.bind ?_ (fun _ => ?_))
      | exact ih0 _ _ _
      | exact ih1 _ _ _ _
      | exact verdererref01_Compare.mono _ _ _ _ _ _ _ _ _
      | exact LeO.none _
      | refine LeO.ite ?_ ?_
      | refine LeO.bind ?_ (fun _ => ?_)
    · intro y0 y1 y2 y3
      unfold verdererref02_Compare.j1
      repeat' first
      | (with_reducible exact ih0 _ _ _)
      | (with_reducible exact ih1 _ _ _ _)
      | (with_reducible exact verdererref01_Compare.mono _ _ _ _ _ _ _ _ _)
      | (with_reducible exact LeO.refl _)
      | (with_reducible exact LeO.none _)
      | (with_reducible refine LeO.ite ?_ ?_)
      | (with_reducible refine LeO.bind ?_ (fun _ => ?_))
      | exact ih0 _ _ _
      | exact ih1 _ _ _ _
      | exact verdererref01_Compare.mono _ _ _ _ _ _ _ _ _
      | exact LeO.none _
      | refine LeO.ite ?_ ?_
      | refine LeO.bind ?_ (fun _ => ?_)
theorem verdererref02_Compare.mono : ∀ a0 a1 k,LeO (verdererref02_Compare.f k a0 a1) (verdererref02_Compare.f (k + 1) a0 a1) := by
  intro a0 a1 k
  obtain ⟨ih0,ih1⟩ := verdererref02_Compare.mono_l k
  unfold verdererref02_Compare.f
  repeat' first
      | (with_reducible exact ih0 _ _ _)
      | (with_reducible exact ih1 _ _ _ _)
      | (with_reducible exact verdererref01_Compare.mono _ _ _ _ _ _ _ _ _)
      | (with_reducible exact LeO.refl _)
      | (with_reducible exact LeO.none _)
      | (with_reducible refine LeO.ite ?_ ?_)
      | (with_reducible refine LeO.bind ?_ (fun _ => ?_))
      | exact ih0 _ _ _
      | exact ih1 _ _ _ _
      | exact verdererref01_Compare.mono _ _ _ _ _ _ _ _ _
      | exact LeO.none _
      | refine LeO.ite ?_ ?_
      | refine LeO.bind ?_ (fun _ => ?_)
def verdererref02_Compare.T4 : Bool × List (List Nat × List Nat) := (true,[([],[]),([],[]),([0,1],[0,1]),([2],[2]),([],[]),([],[]),([4,5],[4,5]),([6],[6]),([3,7],[3,7]),([8,8,0,1,2,3,4,5,6,7,8],[8])])
def verdererref02_Compare.B4 : List Nat := [0,0,3,7,0,0,48,112,255,511]
theorem verdererref02_Compare.tab4 : rtab .any (opsOf Try.f82 4) = verdererref02_Compare.T4 := by kernel_rfl
theorem verdererref02_Compare.bits4 : waitsOk verdererref02_Compare.T4.2 verdererref02_Compare.B4 = true := by kernel_rfl
set_option maxHeartbeats 8000000 in
set_option maxRecDepth 100000 in
theorem verdererref02_Compare.calls (k : Nat) (A0 : Option Addr) (c0 : Nat) (l0 : List (S149)) (A1 : Option Addr) (c1 : Nat) (l1 : List (S149)) (r : Int) (w : World) (hr0 : Kd.C k149 w A0 l0.length l0) (hc0 : l0.length ≤ c0) (hr1 : Kd.C k149 w A1 l1.length l1) (hc1 : l1.length ≤ c1) (h : verdererref02_Compare.f k l0 l1 = some r) :
    Calls Try.prog 82 #[.slice A0 l0.length c0,.slice A1 l1.length c1] w fun e w' => e = .returned (.int .i64 r) ∧ Below w.heap.size w w' := by
  have hu149 := Try.underlying149
  have HR0 := Aside0.mk hr0
  have HC0 := Aside0.mk hc0
  clear hr0 hc0
  have HR1 := Aside0.mk hr1
  have HC1 := Aside0.mk hc1
  clear hr1 hc1
  have HB := Aside0.mk (Below.refl w.heap.size w)
  have H : (verdererref02_Compare.l0 k l0 l1 0) = some r := h
  clear h
  have H' := Aside0.mk H
  clear H
  go_enter Try.func82,Try.ntmps82
  go_wp2
  go_loopg [5] k (fun kq v5 w' => ∃ (x5_1 : Int),v5 = .int .i64 x5_1 ∧ Aside0 (verdererref02_Compare.l0 kq l0 l1 x5_1 = some r) ∧ Aside0 (kq ≤ k) ∧ Aside0 (Below w.heap.size w w'))
  case atStart => exact ⟨(0),(by first | rfl | (simp;done) | (simp [*];done)),H',⟨Nat.le_refl _⟩,⟨by repeat (first | (with_reducible first | exact HB.out | apply below_alloc | apply pw_below_drewN | apply below_drew1) | exact HB.out)⟩⟩
  case round =>
    clear H'
    try clear c1
    try clear p2
    obtain ⟨x5_1,rfl,HA,HK1,HB⟩ := hrel
    cases gk with
    | zero => exact absurd HA.out (by simp [verdererref02_Compare.l0])
    | succ k1 =>
      have H := HA.out
      clear HA
      simp only [verdererref02_Compare.l0] at H
      have HC3 := Aside0.mk H
      clear H
      go_upto_region 2 with (fail)
      go_cut [16] (fun v16 wc => ∃ (kq : Nat) (x16_2 : Bool),v16 = .bool x16_2 ∧ Aside0 (verdererref02_Compare.j1 kq l0 l1 x5_1 x16_2 = some r) ∧ Aside0 (kq ≤ k1) ∧ Aside0 (Below w.heap.size w wc))
      case first =>
        have H := HC3.out
        clear HC3
        by_cases c4 : x5_1 < (l0.length : Int)
        · rw [if_pos c4] at H
          have c4b0 : decide (x5_1 < (l0.length : Int)) = true := decide_eq_true c4
          clear c4
          (first | rw [c4b0] | (simp only [i64_w,i32_w];rw [c4b0]) | skip)
          have H' := Aside0.mk H
          clear H
          go_wp2
          go_meet
          case rel => exact ⟨_,(decide (x5_1 < (l1.length : Int))),(by first | rfl | (simp;done) | (simp [*];done)),H',⟨by have := HK1.out;first | omega | exact Nat.le_refl _⟩,⟨by repeat (first | (with_reducible first | exact HB.out | apply below_alloc | apply pw_below_drewN | apply below_drew1) | exact HB.out)⟩⟩
        · rw [if_neg c4] at H
          have c4b0 : decide (x5_1 < (l0.length : Int)) = false := decide_eq_false c4
          clear c4
          (first | rw [c4b0] | (simp only [i64_w,i32_w];rw [c4b0]) | skip)
          have H' := Aside0.mk H
          clear H
          go_wp2
          go_meet
          case rel => exact ⟨_,(false),(by first | rfl | (simp;done) | (simp [*];done)),H',⟨by have := HK1.out;first | omega | exact Nat.le_refl _⟩,⟨by repeat (first | (with_reducible first | exact HB.out | apply below_alloc | apply pw_below_drewN | apply below_drew1) | exact HB.out)⟩⟩
      case rest =>
        clear HC3
        try clear c1
        try clear p2
        try clear c4
        try clear c4b0
        try clear p2
        obtain ⟨kq,x16_2,rfl,HA,HJ2,HB⟩ := hcut
        cases kq with
        | zero => exact absurd HA.out (by simp [verdererref02_Compare.j1])
        | succ kj2 =>
          have H := HA.out
          clear HA
          simp only [verdererref02_Compare.j1] at H
          by_cases c5 : x16_2 = true
          · subst c5
            have H1 : (if 0 ≤ x5_1 then (if x5_1 < (l0.length : Int) then (if x5_1 < (l1.length : Int) then ((verdererref01_Compare.f kj2 ((rd_T149 l0 x5_1).f0) ((rd_T149 l0 x5_1).f1) ((rd_T149 l0 x5_1).f2) ((rd_T149 l0 x5_1).f3) ((rd_T149 l1 x5_1).f0) ((rd_T149 l1 x5_1).f1) ((rd_T149 l1 x5_1).f2) ((rd_T149 l1 x5_1).f3)).bind fun t133 => (if t133 = 0 then (verdererref02_Compare.l0 kj2 l0 l1 (wrap64 (x5_1 + 1))) else (some t133))) else (none)) else (none)) else (none)) = some r := by rw [if_pos rfl] at H;exact H
            clear H
            have H := H1
            clear H1
            by_cases c6 : 0 ≤ x5_1
            · rw [if_pos c6] at H
              have c6b0 : decide (0 ≤ x5_1) = true := decide_eq_true c6
              clear c6
              by_cases c7 : x5_1 < (l0.length : Int)
              · rw [if_pos c7] at H
                have c7b0 : decide (x5_1 < (l0.length : Int)) = true := decide_eq_true c7
                clear c7
                by_cases c8 : x5_1 < (l1.length : Int)
                · rw [if_pos c8] at H
                  have c8b0 : decide (x5_1 < (l1.length : Int)) = true := decide_eq_true c8
                  clear c8
                  replace H := Option.bind_eq_some_iff.mp H
                  obtain ⟨t133,A90,H⟩ := H
                  replace H : (if t133 = 0 then (verdererref02_Compare.l0 kj2 l0 l1 (wrap64 (x5_1 + 1))) else (some t133)) = some r := H
                  have A9 := Aside0.mk A90
                  clear A90
                  by_cases c10 : t133 = 0
                  · rw [if_pos c10] at H
                    have c10b0 : (t133 == 0) = true := beq_iff_eq.mpr c10
                    have c10b1 : (t133 != 0) = false := bne_eq_false_iff_eq.mpr c10
                    clear c10
                    have H' := Aside0.mk H
                    clear H
                    try go_wp2
                    have n0_ := Aside0.mk (below_drew1 HB.out)
                    clear HB
                    have HB := n0_
                    clear n0_
                    have p131 : 0 ≤ (x5_1 : Int) := of_decide_eq_true (by first | (with_reducible assumption) | assumption)
                    have q131 : x5_1 < (l0.length : Int) := of_decide_eq_true (by first | (with_reducible assumption) | assumption)
                    obtain ⟨ad131,e131,hx131_0,hx131_1,hx131_2,hx131_3⟩ := at_T149 HR0.out x5_1 p131 q131
                    have hw131_3 := hx131_3
                    have hw131_2 := hx131_2
                    have hw131_1 := hx131_1
                    have hw131_0 := hx131_0
                    cases e131
                    replace hx131_0 := (HB.out.cell (World.block_lt_of_cell? w _ hx131_0)).trans hx131_0
                    replace hx131_1 := (HB.out.cell (World.block_lt_of_cell? w _ hx131_1)).trans hx131_1
                    replace hx131_2 := (HB.out.cell (World.block_lt_of_cell? w _ hx131_2)).trans hx131_2
                    replace hx131_3 := (HB.out.cell (World.block_lt_of_cell? w _ hx131_3)).trans hx131_3
                    replace p131 := eq_true p131
                    replace q131 := eq_true q131
                    have p132 : 0 ≤ (x5_1 : Int) := of_decide_eq_true (by first | (with_reducible assumption) | assumption)
                    have q132 : x5_1 < (l1.length : Int) := of_decide_eq_true (by first | (with_reducible assumption) | assumption)
                    obtain ⟨ad132,e132,hx132_0,hx132_1,hx132_2,hx132_3⟩ := at_T149 HR1.out x5_1 p132 q132
                    have hw132_3 := hx132_3
                    have hw132_2 := hx132_2
                    have hw132_1 := hx132_1
                    have hw132_0 := hx132_0
                    cases e132
                    replace hx132_0 := (HB.out.cell (World.block_lt_of_cell? w _ hx132_0)).trans hx132_0
                    replace hx132_1 := (HB.out.cell (World.block_lt_of_cell? w _ hx132_1)).trans hx132_1
                    replace hx132_2 := (HB.out.cell (World.block_lt_of_cell? w _ hx132_2)).trans hx132_2
                    replace hx132_3 := (HB.out.cell (World.block_lt_of_cell? w _ hx132_3)).trans hx132_3
                    replace p132 := eq_true p132
                    replace q132 := eq_true q132
                    refine start_ (n := 10) (S := fun w' => w'.cell? (ad131.add ((x5_1).toNat * 4)) = some (.int .i64 ((rd_T149 l0 x5_1).f0)) ∧ w'.cell? ⟨(ad131.add ((x5_1).toNat * 4)).block,(ad131.add ((x5_1).toNat * 4)).off + 1,none⟩ = some (.bool ((rd_T149 l0 x5_1).f1)) ∧ w'.cell? ⟨(ad131.add ((x5_1).toNat * 4)).block,(ad131.add ((x5_1).toNat * 4)).off + 2,none⟩ = some (.int .i64 ((rd_T149 l0 x5_1).f2)) ∧ w'.cell? ⟨(ad131.add ((x5_1).toNat * 4)).block,(ad131.add ((x5_1).toNat * 4)).off + 3,none⟩ = some (.string ((rd_T149 l0 x5_1).f3)) ∧ w'.cell? (ad132.add ((x5_1).toNat * 4)) = some (.int .i64 ((rd_T149 l1 x5_1).f0)) ∧ w'.cell? ⟨(ad132.add ((x5_1).toNat * 4)).block,(ad132.add ((x5_1).toNat * 4)).off + 1,none⟩ = some (.bool ((rd_T149 l1 x5_1).f1)) ∧ w'.cell? ⟨(ad132.add ((x5_1).toNat * 4)).block,(ad132.add ((x5_1).toNat * 4)).off + 2,none⟩ = some (.int .i64 ((rd_T149 l1 x5_1).f2)) ∧ w'.cell? ⟨(ad132.add ((x5_1).toNat * 4)).block,(ad132.add ((x5_1).toNat * 4)).off + 3,none⟩ = some (.string ((rd_T149 l1 x5_1).f3))) (ds := []) #[false,false,false,false,false,false,false,false,false,false] (by kernel_rfl) rfl rfl ⟨((HB.out.cell (World.block_lt_of_cell? w _ hw131_0)).trans hw131_0),((HB.out.cell (World.block_lt_of_cell? w _ hw131_1)).trans hw131_1),((HB.out.cell (World.block_lt_of_cell? w _ hw131_2)).trans hw131_2),((HB.out.cell (World.block_lt_of_cell? w _ hw131_3)).trans hw131_3),((HB.out.cell (World.block_lt_of_cell? w _ hw132_0)).trans hw132_0),((HB.out.cell (World.block_lt_of_cell? w _ hw132_1)).trans hw132_1),((HB.out.cell (World.block_lt_of_cell? w _ hw132_2)).trans hw132_2),((HB.out.cell (World.block_lt_of_cell? w _ hw132_3)).trans hw132_3)⟩ (fun hHeld => ?_);refine with_tabW verdererref02_Compare.tab4 verdererref02_Compare.bits4 (fun HT_ HW_ => ?_)
                    generalize wc.drew = w11 at HB hx131_0 hx131_1 hx131_2 hx131_3 hx132_0 hx132_1 hx132_2 hx132_3 hHeld ⊢
                    refine pure_ (i := 0) (N := some 19) (v := ?_) (a' := ?_) #[true,false,false,false,false,false,false,false,false,false] rfl rfl (any_of HT_.out (by kernel_rfl)) (fun _ _ _ h => h) (Or.inl ⟨by rfl,?_⟩) ?_ ?_
                    rotate_left
                    · intro w'
                      go_simp
                      with_reducible rfl
                    rotate_left
                    · simp only [Act.put,zA,zB,zC,i64_w,i32_w]
                      rfl
                    refine pure_ (i := 1) (N := some 20) (v := ?_) (a' := ?_) #[true,true,false,false,false,false,false,false,false,false] rfl rfl (any_of HT_.out (by kernel_rfl)) (fun _ _ _ h => h) (Or.inl ⟨by rfl,?_⟩) ?_ ?_
                    rotate_left
                    · intro w'
                      go_simp
                      with_reducible rfl
                    rotate_left
                    · simp only [Act.put,zA,zB,zC,i64_w,i32_w]
                      rfl
                    refine pure_ (i := 2) (N := some 21) (v := ?_) (a' := ?_) #[true,true,true,false,false,false,false,false,false,false] rfl rfl (any_of HT_.out (by kernel_rfl)) (fun _ _ _ h => h) (Or.inl ⟨by rfl,?_⟩) ?_ ?_
                    rotate_left
                    · intro w'
                      go_simp
                      with_reducible rfl
                    rotate_left
                    · simp only [Act.put,zA,zB,zC,i64_w,i32_w]
                      rfl
                    refine pure_ (i := 4) (N := some 23) (v := ?_) (a' := ?_) #[true,true,true,false,true,false,false,false,false,false] rfl rfl (any_of HT_.out (by kernel_rfl)) (fun _ _ _ h => h) (Or.inl ⟨by rfl,?_⟩) ?_ ?_
                    rotate_left
                    · intro w'
                      go_simp
                      with_reducible rfl
                    rotate_left
                    · simp only [Act.put,zA,zB,zC,i64_w,i32_w]
                      rfl
                    refine pure_ (i := 5) (N := some 24) (v := ?_) (a' := ?_) #[true,true,true,false,true,true,false,false,false,false] rfl rfl (any_of HT_.out (by kernel_rfl)) (fun _ _ _ h => h) (Or.inl ⟨by rfl,?_⟩) ?_ ?_
                    rotate_left
                    · intro w'
                      go_simp
                      with_reducible rfl
                    rotate_left
                    · simp only [Act.put,zA,zB,zC,i64_w,i32_w]
                      rfl
                    refine pure_ (i := 6) (N := some 25) (v := ?_) (a' := ?_) #[true,true,true,false,true,true,true,false,false,false] rfl rfl (any_of HT_.out (by kernel_rfl)) (fun _ _ _ h => h) (Or.inl ⟨by rfl,?_⟩) ?_ ?_
                    rotate_left
                    · intro w'
                      go_simp
                      with_reducible rfl
                    rotate_left
                    · simp only [Act.put,zA,zB,zC,i64_w,i32_w]
                      rfl
                    refine take_ (i := 3) (N := some 22) (v := ?_) (a' := ?_) #[true,true,true,true,true,true,true,false,false,false] rfl rfl (take_ofW HT_.out HW_.out (by kernel_rfl)) (fun _ _ _ h => h) (Or.inl ⟨by rfl,?_⟩) hHeld ?_ ?_
                    rotate_left
                    · rintro w' ⟨s0,s1,s2,s3,s4,s5,s6,s7⟩
                      go_simp
                      with_reducible rfl
                    rotate_left
                    · simp only [Act.put,zA,zB,zC,i64_w,i32_w]
                      rfl
                    refine take_ (i := 7) (N := some 26) (v := ?_) (a' := ?_) #[true,true,true,true,true,true,true,true,false,false] rfl rfl (take_ofW HT_.out HW_.out (by kernel_rfl)) (fun _ _ _ h => h) (Or.inl ⟨by rfl,?_⟩) hHeld ?_ ?_
                    rotate_left
                    · rintro w' ⟨s0,s1,s2,s3,s4,s5,s6,s7⟩
                      go_simp
                      with_reducible rfl
                    rotate_left
                    · simp only [Act.put,zA,zB,zC,i64_w,i32_w]
                      rfl
                    refine one_ (i := 8) (N := some 27) #[true,true,true,true,true,true,true,true,true,false] rfl rfl (one_of HT_.out (by kernel_rfl)) (by decide) (fun K hK => ?_)
                    refine goes_ Try.func120 (by kernel_rfl) rfl #[.agg #[.int .i64 ((rd_T149 l0 x5_1).f0),.bool ((rd_T149 l0 x5_1).f1),.int .i64 ((rd_T149 l0 x5_1).f2),.string ((rd_T149 l0 x5_1).f3)],.agg #[.int .i64 ((rd_T149 l1 x5_1).f0),.bool ((rd_T149 l1 x5_1).f1),.int .i64 ((rd_T149 l1 x5_1).f2),.string ((rd_T149 l1 x5_1).f3)]] (by rfl) rfl rfl (by (try simp only [List.map_toArray,List.map_cons,List.map_nil]);first | done | rfl | (simp only [List.length_drop,List.length_take];rfl)) ?_
                    with_reducible refine (verdererref01_Compare.calls kj2 ((rd_T149 l0 x5_1).f0) ((rd_T149 l0 x5_1).f1) ((rd_T149 l0 x5_1).f2) ((rd_T149 l0 x5_1).f3) ((rd_T149 l1 x5_1).f0) ((rd_T149 l1 x5_1).f1) ((rd_T149 l1 x5_1).f2) ((rd_T149 l1 x5_1).f3) t133 _ A9.out).mono ?_
                    rintro e w12 ⟨rfl,hb⟩
                    refine ⟨_,rfl,?_⟩
                    have n0_ := Aside0.mk (below_step (by repeat (first | (with_reducible first | exact HB.out | apply below_alloc | apply pw_below_drewN | apply below_drew1) | exact HB.out)) hb)
                    clear HB
                    have HB := n0_
                    clear n0_
                    (try clear hb)
                    (try clear hb2)
                    (try clear hk)
                    (try clear hi)
                    refine hK.out _ _ ⟨((HB.out.cell (World.block_lt_of_cell? w _ hw131_0)).trans hw131_0),((HB.out.cell (World.block_lt_of_cell? w _ hw131_1)).trans hw131_1),((HB.out.cell (World.block_lt_of_cell? w _ hw131_2)).trans hw131_2),((HB.out.cell (World.block_lt_of_cell? w _ hw131_3)).trans hw131_3),((HB.out.cell (World.block_lt_of_cell? w _ hw132_0)).trans hw132_0),((HB.out.cell (World.block_lt_of_cell? w _ hw132_1)).trans hw132_1),((HB.out.cell (World.block_lt_of_cell? w _ hw132_2)).trans hw132_2),((HB.out.cell (World.block_lt_of_cell? w _ hw132_3)).trans hw132_3)⟩ (fun hHeld => ?_)
                    clear hK K
                    refine norm_ (a' := ?_) ?_ ?_
                    rotate_left
                    · show Act.put _ (some 27) _ = _
                      simp only [Act.put,zA,zB,zC,i64_w,i32_w]
                      rfl
                    refine pure_ (i := 9) (N := some 6) (v := ?_) (a' := ?_) #[true,true,true,true,true,true,true,true,true,true] rfl rfl (any_of HT_.out (by kernel_rfl)) (fun _ _ _ h => h) (Or.inl ⟨by rfl,?_⟩) ?_ ?_
                    rotate_left
                    · intro w'
                      go_simp
                      with_reducible rfl
                    rotate_left
                    · simp only [Act.put,zA,zB,zC,i64_w,i32_w]
                      rfl
                    refine done_ (done_of HT_.out (by kernel_rfl)) ?_
                    try go_wp2
                    go_roundg kj2
                    case measure => have := HK1.out;have := HJ2.out;omega
                    case rel => exact ⟨(wrap64 (x5_1 + 1)),(by first | rfl | (simp;done) | (simp [*];done)),H',⟨by have := HK1.out;have := HJ2.out;omega⟩,⟨by repeat (first | (with_reducible first | exact HB.out | apply below_alloc | apply pw_below_drewN | apply below_drew1) | exact HB.out)⟩⟩
                  · rw [if_neg c10] at H
                    have c10b0 : (t133 == 0) = false := beq_eq_false_iff_ne.mpr c10
                    have c10b1 : (t133 != 0) = true := bne_iff_ne.mpr c10
                    obtain rfl := Option.some.inj H
                    try go_wp2
                    have n0_ := Aside0.mk (below_drew1 HB.out)
                    clear HB
                    have HB := n0_
                    clear n0_
                    have p131 : 0 ≤ (x5_1 : Int) := of_decide_eq_true (by first | (with_reducible assumption) | assumption)
                    have q131 : x5_1 < (l0.length : Int) := of_decide_eq_true (by first | (with_reducible assumption) | assumption)
                    obtain ⟨ad131,e131,hx131_0,hx131_1,hx131_2,hx131_3⟩ := at_T149 HR0.out x5_1 p131 q131
                    have hw131_3 := hx131_3
                    have hw131_2 := hx131_2
                    have hw131_1 := hx131_1
                    have hw131_0 := hx131_0
                    cases e131
                    replace hx131_0 := (HB.out.cell (World.block_lt_of_cell? w _ hx131_0)).trans hx131_0
                    replace hx131_1 := (HB.out.cell (World.block_lt_of_cell? w _ hx131_1)).trans hx131_1
                    replace hx131_2 := (HB.out.cell (World.block_lt_of_cell? w _ hx131_2)).trans hx131_2
                    replace hx131_3 := (HB.out.cell (World.block_lt_of_cell? w _ hx131_3)).trans hx131_3
                    replace p131 := eq_true p131
                    replace q131 := eq_true q131
                    have p132 : 0 ≤ (x5_1 : Int) := of_decide_eq_true (by first | (with_reducible assumption) | assumption)
                    have q132 : x5_1 < (l1.length : Int) := of_decide_eq_true (by first | (with_reducible assumption) | assumption)
                    obtain ⟨ad132,e132,hx132_0,hx132_1,hx132_2,hx132_3⟩ := at_T149 HR1.out x5_1 p132 q132
                    have hw132_3 := hx132_3
                    have hw132_2 := hx132_2
                    have hw132_1 := hx132_1
                    have hw132_0 := hx132_0
                    cases e132
                    replace hx132_0 := (HB.out.cell (World.block_lt_of_cell? w _ hx132_0)).trans hx132_0
                    replace hx132_1 := (HB.out.cell (World.block_lt_of_cell? w _ hx132_1)).trans hx132_1
                    replace hx132_2 := (HB.out.cell (World.block_lt_of_cell? w _ hx132_2)).trans hx132_2
                    replace hx132_3 := (HB.out.cell (World.block_lt_of_cell? w _ hx132_3)).trans hx132_3
                    replace p132 := eq_true p132
                    replace q132 := eq_true q132
                    refine start_ (n := 10) (S := fun w' => w'.cell? (ad131.add ((x5_1).toNat * 4)) = some (.int .i64 ((rd_T149 l0 x5_1).f0)) ∧ w'.cell? ⟨(ad131.add ((x5_1).toNat * 4)).block,(ad131.add ((x5_1).toNat * 4)).off + 1,none⟩ = some (.bool ((rd_T149 l0 x5_1).f1)) ∧ w'.cell? ⟨(ad131.add ((x5_1).toNat * 4)).block,(ad131.add ((x5_1).toNat * 4)).off + 2,none⟩ = some (.int .i64 ((rd_T149 l0 x5_1).f2)) ∧ w'.cell? ⟨(ad131.add ((x5_1).toNat * 4)).block,(ad131.add ((x5_1).toNat * 4)).off + 3,none⟩ = some (.string ((rd_T149 l0 x5_1).f3)) ∧ w'.cell? (ad132.add ((x5_1).toNat * 4)) = some (.int .i64 ((rd_T149 l1 x5_1).f0)) ∧ w'.cell? ⟨(ad132.add ((x5_1).toNat * 4)).block,(ad132.add ((x5_1).toNat * 4)).off + 1,none⟩ = some (.bool ((rd_T149 l1 x5_1).f1)) ∧ w'.cell? ⟨(ad132.add ((x5_1).toNat * 4)).block,(ad132.add ((x5_1).toNat * 4)).off + 2,none⟩ = some (.int .i64 ((rd_T149 l1 x5_1).f2)) ∧ w'.cell? ⟨(ad132.add ((x5_1).toNat * 4)).block,(ad132.add ((x5_1).toNat * 4)).off + 3,none⟩ = some (.string ((rd_T149 l1 x5_1).f3))) (ds := []) #[false,false,false,false,false,false,false,false,false,false] (by kernel_rfl) rfl rfl ⟨((HB.out.cell (World.block_lt_of_cell? w _ hw131_0)).trans hw131_0),((HB.out.cell (World.block_lt_of_cell? w _ hw131_1)).trans hw131_1),((HB.out.cell (World.block_lt_of_cell? w _ hw131_2)).trans hw131_2),((HB.out.cell (World.block_lt_of_cell? w _ hw131_3)).trans hw131_3),((HB.out.cell (World.block_lt_of_cell? w _ hw132_0)).trans hw132_0),((HB.out.cell (World.block_lt_of_cell? w _ hw132_1)).trans hw132_1),((HB.out.cell (World.block_lt_of_cell? w _ hw132_2)).trans hw132_2),((HB.out.cell (World.block_lt_of_cell? w _ hw132_3)).trans hw132_3)⟩ (fun hHeld => ?_);refine with_tabW verdererref02_Compare.tab4 verdererref02_Compare.bits4 (fun HT_ HW_ => ?_)
                    generalize wc.drew = w13 at HB hx131_0 hx131_1 hx131_2 hx131_3 hx132_0 hx132_1 hx132_2 hx132_3 hHeld ⊢
                    refine pure_ (i := 0) (N := some 19) (v := ?_) (a' := ?_) #[true,false,false,false,false,false,false,false,false,false] rfl rfl (any_of HT_.out (by kernel_rfl)) (fun _ _ _ h => h) (Or.inl ⟨by rfl,?_⟩) ?_ ?_
                    rotate_left
                    · intro w'
                      go_simp
                      with_reducible rfl
                    rotate_left
                    · simp only [Act.put,zA,zB,zC,i64_w,i32_w]
                      rfl
                    refine pure_ (i := 1) (N := some 20) (v := ?_) (a' := ?_) #[true,true,false,false,false,false,false,false,false,false] rfl rfl (any_of HT_.out (by kernel_rfl)) (fun _ _ _ h => h) (Or.inl ⟨by rfl,?_⟩) ?_ ?_
                    rotate_left
                    · intro w'
                      go_simp
                      with_reducible rfl
                    rotate_left
                    · simp only [Act.put,zA,zB,zC,i64_w,i32_w]
                      rfl
                    refine pure_ (i := 2) (N := some 21) (v := ?_) (a' := ?_) #[true,true,true,false,false,false,false,false,false,false] rfl rfl (any_of HT_.out (by kernel_rfl)) (fun _ _ _ h => h) (Or.inl ⟨by rfl,?_⟩) ?_ ?_
                    rotate_left
                    · intro w'
                      go_simp
                      with_reducible rfl
                    rotate_left
                    · simp only [Act.put,zA,zB,zC,i64_w,i32_w]
                      rfl
                    refine pure_ (i := 4) (N := some 23) (v := ?_) (a' := ?_) #[true,true,true,false,true,false,false,false,false,false] rfl rfl (any_of HT_.out (by kernel_rfl)) (fun _ _ _ h => h) (Or.inl ⟨by rfl,?_⟩) ?_ ?_
                    rotate_left
                    · intro w'
                      go_simp
                      with_reducible rfl
                    rotate_left
                    · simp only [Act.put,zA,zB,zC,i64_w,i32_w]
                      rfl
                    refine pure_ (i := 5) (N := some 24) (v := ?_) (a' := ?_) #[true,true,true,false,true,true,false,false,false,false] rfl rfl (any_of HT_.out (by kernel_rfl)) (fun _ _ _ h => h) (Or.inl ⟨by rfl,?_⟩) ?_ ?_
                    rotate_left
                    · intro w'
                      go_simp
                      with_reducible rfl
                    rotate_left
                    · simp only [Act.put,zA,zB,zC,i64_w,i32_w]
                      rfl
                    refine pure_ (i := 6) (N := some 25) (v := ?_) (a' := ?_) #[true,true,true,false,true,true,true,false,false,false] rfl rfl (any_of HT_.out (by kernel_rfl)) (fun _ _ _ h => h) (Or.inl ⟨by rfl,?_⟩) ?_ ?_
                    rotate_left
                    · intro w'
                      go_simp
                      with_reducible rfl
                    rotate_left
                    · simp only [Act.put,zA,zB,zC,i64_w,i32_w]
                      rfl
                    refine take_ (i := 3) (N := some 22) (v := ?_) (a' := ?_) #[true,true,true,true,true,true,true,false,false,false] rfl rfl (take_ofW HT_.out HW_.out (by kernel_rfl)) (fun _ _ _ h => h) (Or.inl ⟨by rfl,?_⟩) hHeld ?_ ?_
                    rotate_left
                    · rintro w' ⟨s0,s1,s2,s3,s4,s5,s6,s7⟩
                      go_simp
                      with_reducible rfl
                    rotate_left
                    · simp only [Act.put,zA,zB,zC,i64_w,i32_w]
                      rfl
                    refine take_ (i := 7) (N := some 26) (v := ?_) (a' := ?_) #[true,true,true,true,true,true,true,true,false,false] rfl rfl (take_ofW HT_.out HW_.out (by kernel_rfl)) (fun _ _ _ h => h) (Or.inl ⟨by rfl,?_⟩) hHeld ?_ ?_
                    rotate_left
                    · rintro w' ⟨s0,s1,s2,s3,s4,s5,s6,s7⟩
                      go_simp
                      with_reducible rfl
                    rotate_left
                    · simp only [Act.put,zA,zB,zC,i64_w,i32_w]
                      rfl
                    refine one_ (i := 8) (N := some 27) #[true,true,true,true,true,true,true,true,true,false] rfl rfl (one_of HT_.out (by kernel_rfl)) (by decide) (fun K hK => ?_)
                    refine goes_ Try.func120 (by kernel_rfl) rfl #[.agg #[.int .i64 ((rd_T149 l0 x5_1).f0),.bool ((rd_T149 l0 x5_1).f1),.int .i64 ((rd_T149 l0 x5_1).f2),.string ((rd_T149 l0 x5_1).f3)],.agg #[.int .i64 ((rd_T149 l1 x5_1).f0),.bool ((rd_T149 l1 x5_1).f1),.int .i64 ((rd_T149 l1 x5_1).f2),.string ((rd_T149 l1 x5_1).f3)]] (by rfl) rfl rfl (by (try simp only [List.map_toArray,List.map_cons,List.map_nil]);first | done | rfl | (simp only [List.length_drop,List.length_take];rfl)) ?_
                    with_reducible refine (verdererref01_Compare.calls kj2 ((rd_T149 l0 x5_1).f0) ((rd_T149 l0 x5_1).f1) ((rd_T149 l0 x5_1).f2) ((rd_T149 l0 x5_1).f3) ((rd_T149 l1 x5_1).f0) ((rd_T149 l1 x5_1).f1) ((rd_T149 l1 x5_1).f2) ((rd_T149 l1 x5_1).f3) t133 _ A9.out).mono ?_
                    rintro e w14 ⟨rfl,hb⟩
                    refine ⟨_,rfl,?_⟩
                    have n0_ := Aside0.mk (below_step (by repeat (first | (with_reducible first | exact HB.out | apply below_alloc | apply pw_below_drewN | apply below_drew1) | exact HB.out)) hb)
                    clear HB
                    have HB := n0_
                    clear n0_
                    (try clear hb)
                    (try clear hb2)
                    (try clear hk)
                    (try clear hi)
                    refine hK.out _ _ ⟨((HB.out.cell (World.block_lt_of_cell? w _ hw131_0)).trans hw131_0),((HB.out.cell (World.block_lt_of_cell? w _ hw131_1)).trans hw131_1),((HB.out.cell (World.block_lt_of_cell? w _ hw131_2)).trans hw131_2),((HB.out.cell (World.block_lt_of_cell? w _ hw131_3)).trans hw131_3),((HB.out.cell (World.block_lt_of_cell? w _ hw132_0)).trans hw132_0),((HB.out.cell (World.block_lt_of_cell? w _ hw132_1)).trans hw132_1),((HB.out.cell (World.block_lt_of_cell? w _ hw132_2)).trans hw132_2),((HB.out.cell (World.block_lt_of_cell? w _ hw132_3)).trans hw132_3)⟩ (fun hHeld => ?_)
                    clear hK K
                    refine norm_ (a' := ?_) ?_ ?_
                    rotate_left
                    · show Act.put _ (some 27) _ = _
                      simp only [Act.put,zA,zB,zC,i64_w,i32_w]
                      rfl
                    refine pure_ (i := 9) (N := some 6) (v := ?_) (a' := ?_) #[true,true,true,true,true,true,true,true,true,true] rfl rfl (any_of HT_.out (by kernel_rfl)) (fun _ _ _ h => h) (Or.inl ⟨by rfl,?_⟩) ?_ ?_
                    rotate_left
                    · intro w'
                      go_simp
                      with_reducible rfl
                    rotate_left
                    · simp only [Act.put,zA,zB,zC,i64_w,i32_w]
                      rfl
                    refine done_ (done_of HT_.out (by kernel_rfl)) ?_
                    try go_wp2
                    go_ret
                    exact ⟨by first | rfl | (simp [errW_none,errW_some] <;> rfl) | (simp [*,errW_none,errW_some] <;> rfl),by repeat (first | (with_reducible first | exact HB.out | apply below_alloc | apply pw_below_drewN | apply below_drew1) | exact HB.out)⟩
                · rw [if_neg c8] at H
                  exact absurd H (by simp)
              · rw [if_neg c7] at H
                exact absurd H (by simp)
            · rw [if_neg c6] at H
              exact absurd H (by simp)
          · replace c5 := Bool.eq_false_iff.mpr c5
            subst c5
            have H1 : (if (l0.length : Int) < (l1.length : Int) then (some (-1)) else (if (l0.length : Int) > (l1.length : Int) then (some 1) else (some 0))) = some r := by rw [if_neg (show ¬ (false = true) by decide)] at H;exact H
            clear H
            have H := H1
            clear H1
            by_cases c15 : (l0.length : Int) < (l1.length : Int)
            · rw [if_pos c15] at H
              have c15b0 : decide ((l0.length : Int) < (l1.length : Int)) = true := decide_eq_true c15
              have c15b1 : decide (l0.length < l1.length) = true := decide_eq_true (Int.ofNat_lt.mp c15)
              clear c15
              obtain rfl := Option.some.inj H
              go_wp2
              go_ret
              exact ⟨by first | rfl | (simp [errW_none,errW_some] <;> rfl) | (simp [*,errW_none,errW_some] <;> rfl),by repeat (first | (with_reducible first | exact HB.out | apply below_alloc | apply pw_below_drewN | apply below_drew1) | exact HB.out)⟩
            · rw [if_neg c15] at H
              have c15b0 : decide ((l0.length : Int) < (l1.length : Int)) = false := decide_eq_false c15
              have c15b1 : decide (l0.length < l1.length) = false := decide_eq_false (fun h => c15 (Int.ofNat_lt.mpr h))
              clear c15
              by_cases c16 : (l0.length : Int) > (l1.length : Int)
              · rw [if_pos c16] at H
                have c16b0 : decide ((l1.length : Int) < (l0.length : Int)) = true := decide_eq_true c16
                have c16b1 : decide (l1.length < l0.length) = true := decide_eq_true (Int.ofNat_lt.mp c16)
                clear c16
                obtain rfl := Option.some.inj H
                go_wp2
                go_ret
                exact ⟨by first | rfl | (simp [errW_none,errW_some] <;> rfl) | (simp [*,errW_none,errW_some] <;> rfl),by repeat (first | (with_reducible first | exact HB.out | apply below_alloc | apply pw_below_drewN | apply below_drew1) | exact HB.out)⟩
              · rw [if_neg c16] at H
                have c16b0 : decide ((l1.length : Int) < (l0.length : Int)) = false := decide_eq_false c16
                have c16b1 : decide (l1.length < l0.length) = false := decide_eq_false (fun h => c16 (Int.ofNat_lt.mpr h))
                clear c16
                obtain rfl := Option.some.inj H
                go_wp2
                go_ret
                exact ⟨by first | rfl | (simp [errW_none,errW_some] <;> rfl) | (simp [*,errW_none,errW_some] <;> rfl),by repeat (first | (with_reducible first | exact HB.out | apply below_alloc | apply pw_below_drewN | apply below_drew1) | exact HB.out)⟩
end Go.Proofs.Ythfaimomcbmniaa.Z
end
section
namespace Go.Proofs.Ythfaimomcbmniaa.Z
open Go.RowKit Go.Proofs.YthfaimomcbmniaaW.PrintWords Go.Proofs.YthfaimomcbmniaaW.PrintLast Go.Proofs.YthfaimomcbmniaaW.PrintMore
attribute [local go_sem] max2_int min2_int max_two min_two max_three min_three max_four min_four
set_option linter.unusedVariables false
set_option linter.unusedSimpArgs false
theorem eqA149 (d : Nat) (w : World) (x0 y0 : Int) (x1 y1 : Bool) (x2 y2 : Int) (x3 y3 : ByteArray) :
    (Op.equalIn (d + 2) 149 (.agg #[.int .i64 x0,.bool x1,.int .i64 x2,.string x3]) (.agg #[.int .i64 y0,.bool y1,.int .i64 y2,.string y3])).run Try.prog w = .ok (x0 == y0 && (x1 == y1 && (x2 == y2 && (x3.toList == y3.toList)))) w := by
  refine eqA_of Try.underlying149 (by kernel_rfl) ?_
  refine eqf_cons (by rfl) (by go_simp;rfl) (by go_simp;rfl) (by go_simp) ?_
  refine eqf_cons (by rfl) (by go_simp;rfl) (by go_simp;rfl) (by go_simp) ?_
  refine eqf_cons (by rfl) (by go_simp;rfl) (by go_simp;rfl) (by go_simp) ?_
  exact eqf_last (by rfl) (by go_simp;rfl) (by go_simp;rfl) (by go_simp)
end Go.Proofs.Ythfaimomcbmniaa.Z
end
section
namespace Go.Proofs.Ythfaimomcbmniaa.Z
open Go.RowKit Go.Proofs.YthfaimomcbmniaaW.PrintWords Go.Proofs.YthfaimomcbmniaaW.PrintLast Go.Proofs.YthfaimomcbmniaaW.PrintMore
attribute [local go_sem] max2_int min2_int max_two min_two max_three min_three max_four min_four
set_option linter.unusedVariables false
set_option linter.unusedSimpArgs false
attribute [local go_sem high] eqA149
def verdererref02_Equal.l0 : Nat → List (S149) → List (S149) → Int → Option (Bool)
  | 0,_,_,_ => none
  | k + 1,x0,x1,x5 => if x5 < (x0.length : Int) then (if 0 ≤ x5 then (if x5 < (x1.length : Int) then (if (!(((rd_T149 x0 x5).f0) == ((rd_T149 x1 x5).f0)) || (!(((rd_T149 x0 x5).f1) == ((rd_T149 x1 x5).f1)) || (!(((rd_T149 x0 x5).f2) == ((rd_T149 x1 x5).f2)) || (!((((rd_T149 x0 x5).f3).toList) == (((rd_T149 x1 x5).f3).toList)))))) = true then (some false) else (verdererref02_Equal.l0 k x0 x1 (wrap64 (x5 + 1)))) else (none)) else (none)) else (some true)
def verdererref02_Equal.f (k : Nat) (l0 : List (S149)) (l1 : List (S149)) : Option (Bool) := if (l0.length : Int) = (l1.length : Int) then (verdererref02_Equal.l0 k l0 l1 0) else (some false)
theorem verdererref02_Equal.mono_l : ∀ k,(∀ y0 y1 y2,LeO (verdererref02_Equal.l0 k y0 y1 y2) (verdererref02_Equal.l0 (k + 1) y0 y1 y2))
  | 0 => fun _ _ _ r h => by simp [verdererref02_Equal.l0] at h
  | k + 1 => by
    have ih0 := verdererref02_Equal.mono_l k
    · intro y0 y1 y2
      unfold verdererref02_Equal.l0
      repeat' first
      | (with_reducible exact ih0 _ _ _)
      | (with_reducible exact LeO.refl _)
      | (with_reducible exact LeO.none _)
      | (with_reducible refine LeO.ite ?_ ?_)
      | (with_reducible refine LeO.bind ?_ (fun _ => ?_))
      | exact ih0 _ _ _
      | exact LeO.none _
      | refine LeO.ite ?_ ?_
      | refine LeO.bind ?_ (fun _ => ?_)
theorem verdererref02_Equal.mono : ∀ a0 a1 k,LeO (verdererref02_Equal.f k a0 a1) (verdererref02_Equal.f (k + 1) a0 a1) := by
  intro a0 a1 k
  have ih0 := verdererref02_Equal.mono_l k
  unfold verdererref02_Equal.f
  repeat' first
      | (with_reducible exact ih0 _ _ _)
      | (with_reducible exact LeO.refl _)
      | (with_reducible exact LeO.none _)
      | (with_reducible refine LeO.ite ?_ ?_)
      | (with_reducible refine LeO.bind ?_ (fun _ => ?_))
      | exact ih0 _ _ _
      | exact LeO.none _
      | refine LeO.ite ?_ ?_
      | refine LeO.bind ?_ (fun _ => ?_)
set_option maxHeartbeats 8000000 in
set_option maxRecDepth 100000 in
theorem verdererref02_Equal.calls (k : Nat) (A0 : Option Addr) (c0 : Nat) (l0 : List (S149)) (A1 : Option Addr) (c1 : Nat) (l1 : List (S149)) (r : Bool) (w : World) (hr0 : Kd.C k149 w A0 l0.length l0) (hc0 : l0.length ≤ c0) (hr1 : Kd.C k149 w A1 l1.length l1) (hc1 : l1.length ≤ c1) (h : verdererref02_Equal.f k l0 l1 = some r) :
    Calls Try.prog 74 #[.slice A0 l0.length c0,.slice A1 l1.length c1] w fun e w' => e = .returned (.bool r) ∧ Drawn0 w w' := by
  have hu149 := Try.underlying149
  have HR0 := Aside0.mk hr0
  have HC0 := Aside0.mk hc0
  clear hr0 hc0
  have HR1 := Aside0.mk hr1
  have HC1 := Aside0.mk hc1
  clear hr1 hc1
  have H : (if (l0.length : Int) = (l1.length : Int) then (verdererref02_Equal.l0 k l0 l1 0) else (some false)) = some r := h
  clear h
  by_cases c3 : (l0.length : Int) = (l1.length : Int)
  · rw [if_pos c3] at H
    have c3b0 : ((l0.length : Int) == (l1.length : Int)) = true := beq_iff_eq.mpr c3
    have c3b1 : ((l0.length : Int) != (l1.length : Int)) = false := bne_eq_false_iff_eq.mpr c3
    have c3b2 : (l0.length == l1.length) = true := by first | simpa using c3 | (simp at c3 ⊢;omega)
    clear c3
    have H' := Aside0.mk H
    clear H
    go_enter Try.func74,Try.ntmps74
    go_wp2
    repeat (go_quiet (fail);try go_wp2)
    go_loopg [5] k (fun kq v5 w' => ∃ (x5_1 : Int),v5 = .int .i64 x5_1 ∧ Aside0 (verdererref02_Equal.l0 kq l0 l1 x5_1 = some r) ∧ Aside0 (kq ≤ k) ∧ Drawn0 w w')
    case atStart => exact ⟨(0),(by first | rfl | (simp;done) | (simp [*];done)),H',⟨Nat.le_refl _⟩,by repeat (first | exact Drawn0.refl _ | apply Drawn0.step)⟩
    case round =>
      clear H'
      try clear c1
      try clear p2
      try clear c3
      try clear c3b0
      try clear c3b1
      try clear c3b2
      obtain ⟨x5_1,rfl,HA,HK1,⟨m1,rfl⟩⟩ := hrel
      cases gk with
      | zero => exact absurd HA.out (by simp [verdererref02_Equal.l0])
      | succ k1 =>
        have H := HA.out
        clear HA
        simp only [verdererref02_Equal.l0] at H
        by_cases c4 : x5_1 < (l0.length : Int)
        · rw [if_pos c4] at H
          have c4b0 : decide (x5_1 < (l0.length : Int)) = true := decide_eq_true c4
          clear c4
          by_cases c5 : 0 ≤ x5_1
          · rw [if_pos c5] at H
            have c5b0 : decide (0 ≤ x5_1) = true := decide_eq_true c5
            clear c5
            by_cases c6 : x5_1 < (l1.length : Int)
            · rw [if_pos c6] at H
              have c6b0 : decide (x5_1 < (l1.length : Int)) = true := decide_eq_true c6
              clear c6
              by_cases c7 : (!(((rd_T149 l0 x5_1).f0) == ((rd_T149 l1 x5_1).f0)) || (!(((rd_T149 l0 x5_1).f1) == ((rd_T149 l1 x5_1).f1)) || (!(((rd_T149 l0 x5_1).f2) == ((rd_T149 l1 x5_1).f2)) || (!((((rd_T149 l0 x5_1).f3).toList) == (((rd_T149 l1 x5_1).f3).toList)))))) = true
              · rw [if_pos c7] at H
                have c7b0 : (!(((rd_T149 l0 x5_1).f0) == ((rd_T149 l1 x5_1).f0)) || (!(((rd_T149 l0 x5_1).f1) == ((rd_T149 l1 x5_1).f1)) || (!(((rd_T149 l0 x5_1).f2) == ((rd_T149 l1 x5_1).f2)) || (!((((rd_T149 l0 x5_1).f3).toList) == (((rd_T149 l1 x5_1).f3).toList)))))) = true := c7
                clear c7
                obtain rfl := Option.some.inj H
                have p134 : 0 ≤ (x5_1 : Int) := of_decide_eq_true (by first | (with_reducible assumption) | assumption)
                have q134 : x5_1 < (l0.length : Int) := of_decide_eq_true (by first | (with_reducible assumption) | assumption)
                obtain ⟨ad134,e134,hx134_0,hx134_1,hx134_2,hx134_3⟩ := at_T149 HR0.out x5_1 p134 q134
                cases e134
                replace p134 := eq_true p134
                replace q134 := eq_true q134
                have p135 : 0 ≤ (x5_1 : Int) := of_decide_eq_true (by first | (with_reducible assumption) | assumption)
                have q135 : x5_1 < (l1.length : Int) := of_decide_eq_true (by first | (with_reducible assumption) | assumption)
                obtain ⟨ad135,e135,hx135_0,hx135_1,hx135_2,hx135_3⟩ := at_T149 HR1.out x5_1 p135 q135
                cases e135
                replace p135 := eq_true p135
                replace q135 := eq_true q135
                go_wp2
                repeat (go_quiet (fail);try go_wp2)
                go_ret
                exact ⟨by first | rfl | (simp;done) | (simp [*];done),by repeat (first | exact Drawn0.refl _ | apply Drawn0.step)⟩
              · rw [if_neg c7] at H
                have c7b0 : (!(((rd_T149 l0 x5_1).f0) == ((rd_T149 l1 x5_1).f0)) || (!(((rd_T149 l0 x5_1).f1) == ((rd_T149 l1 x5_1).f1)) || (!(((rd_T149 l0 x5_1).f2) == ((rd_T149 l1 x5_1).f2)) || (!((((rd_T149 l0 x5_1).f3).toList) == (((rd_T149 l1 x5_1).f3).toList)))))) = false := by simpa using c7
                clear c7
                have H' := Aside0.mk H
                clear H
                have p134 : 0 ≤ (x5_1 : Int) := of_decide_eq_true (by first | (with_reducible assumption) | assumption)
                have q134 : x5_1 < (l0.length : Int) := of_decide_eq_true (by first | (with_reducible assumption) | assumption)
                obtain ⟨ad134,e134,hx134_0,hx134_1,hx134_2,hx134_3⟩ := at_T149 HR0.out x5_1 p134 q134
                cases e134
                replace p134 := eq_true p134
                replace q134 := eq_true q134
                have p135 : 0 ≤ (x5_1 : Int) := of_decide_eq_true (by first | (with_reducible assumption) | assumption)
                have q135 : x5_1 < (l1.length : Int) := of_decide_eq_true (by first | (with_reducible assumption) | assumption)
                obtain ⟨ad135,e135,hx135_0,hx135_1,hx135_2,hx135_3⟩ := at_T149 HR1.out x5_1 p135 q135
                cases e135
                replace p135 := eq_true p135
                replace q135 := eq_true q135
                go_wp2
                repeat (go_quiet (fail);try go_wp2)
                go_roundg k1
                case measure => have := HK1.out;omega
                case rel => exact ⟨(wrap64 (x5_1 + 1)),(by first | rfl | (simp;done) | (simp [*];done)),H',⟨by have := HK1.out;omega⟩,by repeat (first | exact Drawn0.refl _ | apply Drawn0.step)⟩
            · rw [if_neg c6] at H
              exact absurd H (by simp)
          · rw [if_neg c5] at H
            exact absurd H (by simp)
        · rw [if_neg c4] at H
          have c4b0 : decide (x5_1 < (l0.length : Int)) = false := decide_eq_false c4
          clear c4
          obtain rfl := Option.some.inj H
          go_wp2
          repeat (go_quiet (fail);try go_wp2)
          go_ret
          exact ⟨by first | rfl | (simp;done) | (simp [*];done),by repeat (first | exact Drawn0.refl _ | apply Drawn0.step)⟩
  · rw [if_neg c3] at H
    have c3b0 : ((l0.length : Int) == (l1.length : Int)) = false := beq_eq_false_iff_ne.mpr c3
    have c3b1 : ((l0.length : Int) != (l1.length : Int)) = true := bne_iff_ne.mpr c3
    have c3b2 : (l0.length == l1.length) = false := by first | simpa using c3 | (simp at c3 ⊢;omega)
    obtain rfl := Option.some.inj H
    go_enter Try.func74,Try.ntmps74
    go_wp2
    repeat (go_quiet (fail);try go_wp2)
    go_ret
    exact ⟨by first | rfl | (simp;done) | (simp [*];done),by repeat (first | exact Drawn0.refl _ | apply Drawn0.step)⟩
end Go.Proofs.Ythfaimomcbmniaa.Z
end
section
namespace Go.Proofs.Ythfaimomcbmniaa.Z
open Go.RowKit Go.Proofs.YthfaimomcbmniaaW.PrintWords Go.Proofs.YthfaimomcbmniaaW.PrintLast Go.Proofs.YthfaimomcbmniaaW.PrintMore Go.Proofs.Ythfaimomcbmniaa.Cmp
end Go.Proofs.Ythfaimomcbmniaa.Z
end
