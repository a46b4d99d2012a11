/- Parts of the proof of IndexNil: what its functions answer. -/
import Derived.Test.YthmbfcfomcaaaaaMIndexNila
import Derived.Test.YthmbfcfomcaaaaaMIndexNilb
import Derived.Deep.Slices
import Derived.ProofKit
import Derived.Deep.RegionWith
section
namespace Go.Proofs.Ythmbfcfomcaaaaa.Z
open Go.RowKit Go.Proofs.YthmbfcfomcaaaaaW.PrintWords Go.Proofs.YthmbfcfomcaaaaaW.PrintLast Go.Proofs.YthmbfcfomcaaaaaW.PrintMore
attribute [local go_sem] max2_int min2_int max_two min_two max_three min_three max_four min_four
set_option linter.unusedVariables false
set_option linter.unusedSimpArgs false
def verdererref01_Right.f (a0_0 : Int) (a0_1 : Bool) (a0_2 : Int) (a0_3 : ByteArray) : Option (Bool) := if a0_0 < 0 then (some false) else (if a0_0 > 3 then (some false) else (if a0_0 = 1 then (if a0_0 = 2 then (if a0_0 = 3 then (some (decide ((a0_3.size : Int) ≤ 60))) else (if a0_3.toList = ([] : List UInt8) then (some (decide ((a0_3.size : Int) ≤ 60))) else (some false))) else (if a0_2 = 0 then (if a0_0 = 3 then (some (decide ((a0_3.size : Int) ≤ 60))) else (if a0_3.toList = ([] : List UInt8) then (some (decide ((a0_3.size : Int) ≤ 60))) else (some false))) else (some false))) else (if a0_1 = true then (some false) else (if a0_0 = 2 then (if a0_0 = 3 then (some (decide ((a0_3.size : Int) ≤ 60))) else (if a0_3.toList = ([] : List UInt8) then (some (decide ((a0_3.size : Int) ≤ 60))) else (some false))) else (if a0_2 = 0 then (if a0_0 = 3 then (some (decide ((a0_3.size : Int) ≤ 60))) else (if a0_3.toList = ([] : List UInt8) then (some (decide ((a0_3.size : Int) ≤ 60))) else (some false))) else (some false))))))
set_option maxHeartbeats 8000000 in
set_option maxRecDepth 100000 in
theorem verdererref01_Right.calls (a0_0 : Int) (a0_1 : Bool) (a0_2 : Int) (a0_3 : ByteArray) (r : Bool) (w : World) (h : verdererref01_Right.f a0_0 a0_1 a0_2 a0_3 = some r) :
    Calls Try.prog 95 #[.agg #[.int .i64 a0_0,.bool a0_1,.int .i64 a0_2,.string a0_3]] w fun e w' => e = .returned (.bool r) ∧ Below w.heap.size w w' := by
  have hu66 := Try.underlying66
  have HB := Aside0.mk (Below.refl w.heap.size w)
  have H : (if a0_0 < 0 then (some false) else (if a0_0 > 3 then (some false) else (if a0_0 = 1 then (if a0_0 = 2 then (if a0_0 = 3 then (some (decide ((a0_3.size : Int) ≤ 60))) else (if a0_3.toList = ([] : List UInt8) then (some (decide ((a0_3.size : Int) ≤ 60))) else (some false))) else (if a0_2 = 0 then (if a0_0 = 3 then (some (decide ((a0_3.size : Int) ≤ 60))) else (if a0_3.toList = ([] : List UInt8) then (some (decide ((a0_3.size : Int) ≤ 60))) else (some false))) else (some false))) else (if a0_1 = true then (some false) else (if a0_0 = 2 then (if a0_0 = 3 then (some (decide ((a0_3.size : Int) ≤ 60))) else (if a0_3.toList = ([] : List UInt8) then (some (decide ((a0_3.size : Int) ≤ 60))) else (some false))) else (if a0_2 = 0 then (if a0_0 = 3 then (some (decide ((a0_3.size : Int) ≤ 60))) else (if a0_3.toList = ([] : List UInt8) then (some (decide ((a0_3.size : Int) ≤ 60))) else (some false))) else (some false))))))) = some r := h
  clear h
  by_cases c2 : a0_0 < 0
  · rw [if_pos c2] at H
    have c2b0 : decide (a0_0 < 0) = true := decide_eq_true c2
    clear c2
    obtain rfl := Option.some.inj H
    go_enter Try.func95,Try.ntmps95
    go_wp2_with (first | ((with_reducible refine gate_dst (N := 1) rfl ?_);refine box_event ?hg (N := 1) ?hd (cs := #[.int .i64 a0_0,.bool a0_1,.int .i64 a0_2,.string a0_3]) (t := 66) ?hr ?_;(case hd => rfl);(case hg => rfl);(case hr => first | (go_simp;done) | (go_simp;rfl));intro gb163 hg w3 hbox hb;have n0_ := Aside0.mk (below_step (by repeat (first | (with_reducible first | exact HB.out | apply below_alloc | apply pw_below_drewN | apply below_drew1) | exact HB.out)) hb);have n1_ := Aside0.mk (hbox);have n2_ := Aside0.mk ((by rw [hg];exact (below_size (by repeat (first | (with_reducible first | exact HB.out | apply below_alloc | apply pw_below_drewN | apply below_drew1) | exact HB.out))) : w.heap.size ≤ gb163));have n3_ := Aside0.mk ((by rw [hg];exact (below_size (by repeat (first | (with_reducible first | exact HB.out | apply below_alloc | apply pw_below_drewN | apply below_drew1) | exact HB.out))) : w.heap.size ≤ gb163));clear HB;have HB := n0_;have BK163 := n1_;have GW163 := n2_;have GE163 := n3_;clear n0_ n1_ n2_ n3_;clear hb hbox hg;have hcz4_0 : w3.cell? ⟨gb163,0,none⟩ = some (.int .i64 a0_0) := (blk_cell BK163.out 0).trans rfl;have hcz4_1 : w3.cell? ⟨gb163,1,none⟩ = some (.bool a0_1) := (blk_cell BK163.out 1).trans rfl;have hcz4_2 : w3.cell? ⟨gb163,2,none⟩ = some (.int .i64 a0_2) := (blk_cell BK163.out 2).trans rfl;have hcz4_3 : w3.cell? ⟨gb163,3,none⟩ = some (.string a0_3) := (blk_cell BK163.out 3).trans rfl;have hfz4_0 := blk_frozen BK163.out 0;have hfz4_1 := blk_frozen BK163.out 1;have hfz4_2 := blk_frozen BK163.out 2;have hfz4_3 := blk_frozen BK163.out 3))
    go_ret
    exact ⟨by first | rfl | (simp [errW_none,errW_some] <;> rfl) | (simp [*,errW_none,errW_some] <;> rfl),by repeat (first | (with_reducible first | exact HB.out | apply below_alloc | apply pw_below_drewN | apply below_drew1 | refine below_set ?_ GE163.out) | exact HB.out)⟩
  · rw [if_neg c2] at H
    have c2b0 : decide (a0_0 < 0) = false := decide_eq_false c2
    clear c2
    by_cases c5 : a0_0 > 3
    · rw [if_pos c5] at H
      have c5b0 : decide (3 < a0_0) = true := decide_eq_true c5
      clear c5
      obtain rfl := Option.some.inj H
      go_enter Try.func95,Try.ntmps95
      go_wp2_with (first | ((with_reducible refine gate_dst (N := 1) rfl ?_);refine box_event ?hg (N := 1) ?hd (cs := #[.int .i64 a0_0,.bool a0_1,.int .i64 a0_2,.string a0_3]) (t := 66) ?hr ?_;(case hd => rfl);(case hg => rfl);(case hr => first | (go_simp;done) | (go_simp;rfl));intro gb163 hg w6 hbox hb;have n0_ := Aside0.mk (below_step (by repeat (first | (with_reducible first | exact HB.out | apply below_alloc | apply pw_below_drewN | apply below_drew1) | exact HB.out)) hb);have n1_ := Aside0.mk (hbox);have n2_ := Aside0.mk ((by rw [hg];exact (below_size (by repeat (first | (with_reducible first | exact HB.out | apply below_alloc | apply pw_below_drewN | apply below_drew1) | exact HB.out))) : w.heap.size ≤ gb163));have n3_ := Aside0.mk ((by rw [hg];exact (below_size (by repeat (first | (with_reducible first | exact HB.out | apply below_alloc | apply pw_below_drewN | apply below_drew1) | exact HB.out))) : w.heap.size ≤ gb163));clear HB;have HB := n0_;have BK163 := n1_;have GW163 := n2_;have GE163 := n3_;clear n0_ n1_ n2_ n3_;clear hb hbox hg;have hcz7_0 : w6.cell? ⟨gb163,0,none⟩ = some (.int .i64 a0_0) := (blk_cell BK163.out 0).trans rfl;have hcz7_1 : w6.cell? ⟨gb163,1,none⟩ = some (.bool a0_1) := (blk_cell BK163.out 1).trans rfl;have hcz7_2 : w6.cell? ⟨gb163,2,none⟩ = some (.int .i64 a0_2) := (blk_cell BK163.out 2).trans rfl;have hcz7_3 : w6.cell? ⟨gb163,3,none⟩ = some (.string a0_3) := (blk_cell BK163.out 3).trans rfl;have hfz7_0 := blk_frozen BK163.out 0;have hfz7_1 := blk_frozen BK163.out 1;have hfz7_2 := blk_frozen BK163.out 2;have hfz7_3 := blk_frozen BK163.out 3))
      go_ret
      exact ⟨by first | rfl | (simp [errW_none,errW_some] <;> rfl) | (simp [*,errW_none,errW_some] <;> rfl),by repeat (first | (with_reducible first | exact HB.out | apply below_alloc | apply pw_below_drewN | apply below_drew1 | refine below_set ?_ GE163.out) | exact HB.out)⟩
    · rw [if_neg c5] at H
      have c5b0 : decide (3 < a0_0) = false := decide_eq_false c5
      clear c5
      by_cases c8 : a0_0 = 1
      · rw [if_pos c8] at H
        have c8b0 : (a0_0 == 1) = true := beq_iff_eq.mpr c8
        have c8b1 : (a0_0 != 1) = false := bne_eq_false_iff_eq.mpr c8
        clear c8
        by_cases c9 : a0_0 = 2
        · rw [if_pos c9] at H
          have c9b0 : (a0_0 == 2) = true := beq_iff_eq.mpr c9
          have c9b1 : (a0_0 != 2) = false := bne_eq_false_iff_eq.mpr c9
          clear c9
          by_cases c10 : a0_0 = 3
          · rw [if_pos c10] at H
            have c10b0 : (a0_0 == 3) = true := beq_iff_eq.mpr c10
            have c10b1 : (a0_0 != 3) = false := bne_eq_false_iff_eq.mpr c10
            clear c10
            obtain rfl := Option.some.inj H
            go_enter Try.func95,Try.ntmps95
            go_wp2_with (first | ((with_reducible refine gate_dst (N := 1) rfl ?_);refine box_event ?hg (N := 1) ?hd (cs := #[.int .i64 a0_0,.bool a0_1,.int .i64 a0_2,.string a0_3]) (t := 66) ?hr ?_;(case hd => rfl);(case hg => rfl);(case hr => first | (go_simp;done) | (go_simp;rfl));intro gb163 hg w11 hbox hb;have n0_ := Aside0.mk (below_step (by repeat (first | (with_reducible first | exact HB.out | apply below_alloc | apply pw_below_drewN | apply below_drew1) | exact HB.out)) hb);have n1_ := Aside0.mk (hbox);have n2_ := Aside0.mk ((by rw [hg];exact (below_size (by repeat (first | (with_reducible first | exact HB.out | apply below_alloc | apply pw_below_drewN | apply below_drew1) | exact HB.out))) : w.heap.size ≤ gb163));have n3_ := Aside0.mk ((by rw [hg];exact (below_size (by repeat (first | (with_reducible first | exact HB.out | apply below_alloc | apply pw_below_drewN | apply below_drew1) | exact HB.out))) : w.heap.size ≤ gb163));clear HB;have HB := n0_;have BK163 := n1_;have GW163 := n2_;have GE163 := n3_;clear n0_ n1_ n2_ n3_;clear hb hbox hg;have hcz12_0 : w11.cell? ⟨gb163,0,none⟩ = some (.int .i64 a0_0) := (blk_cell BK163.out 0).trans rfl;have hcz12_1 : w11.cell? ⟨gb163,1,none⟩ = some (.bool a0_1) := (blk_cell BK163.out 1).trans rfl;have hcz12_2 : w11.cell? ⟨gb163,2,none⟩ = some (.int .i64 a0_2) := (blk_cell BK163.out 2).trans rfl;have hcz12_3 : w11.cell? ⟨gb163,3,none⟩ = some (.string a0_3) := (blk_cell BK163.out 3).trans rfl;have hfz12_0 := blk_frozen BK163.out 0;have hfz12_1 := blk_frozen BK163.out 1;have hfz12_2 := blk_frozen BK163.out 2;have hfz12_3 := blk_frozen BK163.out 3))
            go_ret
            exact ⟨by first | rfl | (simp [errW_none,errW_some] <;> rfl) | (simp [*,errW_none,errW_some] <;> rfl),by repeat (first | (with_reducible first | exact HB.out | apply below_alloc | apply pw_below_drewN | apply below_drew1 | refine below_set ?_ GE163.out) | exact HB.out)⟩
          · rw [if_neg c10] at H
            have c10b0 : (a0_0 == 3) = false := beq_eq_false_iff_ne.mpr c10
            have c10b1 : (a0_0 != 3) = true := bne_iff_ne.mpr c10
            by_cases c13 : a0_3.toList = ([] : List UInt8)
            · rw [if_pos c13] at H
              have c13b0 : (a0_3.toList == ([] : List UInt8)) = true := beq_iff_eq.mpr c13
              have c13b1 : (a0_3.toList != ([] : List UInt8)) = false := bne_eq_false_iff_eq.mpr c13
              clear c13
              obtain rfl := Option.some.inj H
              go_enter Try.func95,Try.ntmps95
              go_wp2_with (first | ((with_reducible refine gate_dst (N := 1) rfl ?_);refine box_event ?hg (N := 1) ?hd (cs := #[.int .i64 a0_0,.bool a0_1,.int .i64 a0_2,.string a0_3]) (t := 66) ?hr ?_;(case hd => rfl);(case hg => rfl);(case hr => first | (go_simp;done) | (go_simp;rfl));intro gb163 hg w14 hbox hb;have n0_ := Aside0.mk (below_step (by repeat (first | (with_reducible first | exact HB.out | apply below_alloc | apply pw_below_drewN | apply below_drew1) | exact HB.out)) hb);have n1_ := Aside0.mk (hbox);have n2_ := Aside0.mk ((by rw [hg];exact (below_size (by repeat (first | (with_reducible first | exact HB.out | apply below_alloc | apply pw_below_drewN | apply below_drew1) | exact HB.out))) : w.heap.size ≤ gb163));have n3_ := Aside0.mk ((by rw [hg];exact (below_size (by repeat (first | (with_reducible first | exact HB.out | apply below_alloc | apply pw_below_drewN | apply below_drew1) | exact HB.out))) : w.heap.size ≤ gb163));clear HB;have HB := n0_;have BK163 := n1_;have GW163 := n2_;have GE163 := n3_;clear n0_ n1_ n2_ n3_;clear hb hbox hg;have hcz15_0 : w14.cell? ⟨gb163,0,none⟩ = some (.int .i64 a0_0) := (blk_cell BK163.out 0).trans rfl;have hcz15_1 : w14.cell? ⟨gb163,1,none⟩ = some (.bool a0_1) := (blk_cell BK163.out 1).trans rfl;have hcz15_2 : w14.cell? ⟨gb163,2,none⟩ = some (.int .i64 a0_2) := (blk_cell BK163.out 2).trans rfl;have hcz15_3 : w14.cell? ⟨gb163,3,none⟩ = some (.string a0_3) := (blk_cell BK163.out 3).trans rfl;have hfz15_0 := blk_frozen BK163.out 0;have hfz15_1 := blk_frozen BK163.out 1;have hfz15_2 := blk_frozen BK163.out 2;have hfz15_3 := blk_frozen BK163.out 3))
              go_ret
              exact ⟨by first | rfl | (simp [errW_none,errW_some] <;> rfl) | (simp [*,errW_none,errW_some] <;> rfl),by repeat (first | (with_reducible first | exact HB.out | apply below_alloc | apply pw_below_drewN | apply below_drew1 | refine below_set ?_ GE163.out) | exact HB.out)⟩
            · rw [if_neg c13] at H
              have c13b0 : (a0_3.toList == ([] : List UInt8)) = false := beq_eq_false_iff_ne.mpr c13
              have c13b1 : (a0_3.toList != ([] : List UInt8)) = true := bne_iff_ne.mpr c13
              obtain rfl := Option.some.inj H
              go_enter Try.func95,Try.ntmps95
              go_wp2_with (first | ((with_reducible refine gate_dst (N := 1) rfl ?_);refine box_event ?hg (N := 1) ?hd (cs := #[.int .i64 a0_0,.bool a0_1,.int .i64 a0_2,.string a0_3]) (t := 66) ?hr ?_;(case hd => rfl);(case hg => rfl);(case hr => first | (go_simp;done) | (go_simp;rfl));intro gb163 hg w16 hbox hb;have n0_ := Aside0.mk (below_step (by repeat (first | (with_reducible first | exact HB.out | apply below_alloc | apply pw_below_drewN | apply below_drew1) | exact HB.out)) hb);have n1_ := Aside0.mk (hbox);have n2_ := Aside0.mk ((by rw [hg];exact (below_size (by repeat (first | (with_reducible first | exact HB.out | apply below_alloc | apply pw_below_drewN | apply below_drew1) | exact HB.out))) : w.heap.size ≤ gb163));have n3_ := Aside0.mk ((by rw [hg];exact (below_size (by repeat (first | (with_reducible first | exact HB.out | apply below_alloc | apply pw_below_drewN | apply below_drew1) | exact HB.out))) : w.heap.size ≤ gb163));clear HB;have HB := n0_;have BK163 := n1_;have GW163 := n2_;have GE163 := n3_;clear n0_ n1_ n2_ n3_;clear hb hbox hg;have hcz17_0 : w16.cell? ⟨gb163,0,none⟩ = some (.int .i64 a0_0) := (blk_cell BK163.out 0).trans rfl;have hcz17_1 : w16.cell? ⟨gb163,1,none⟩ = some (.bool a0_1) := (blk_cell BK163.out 1).trans rfl;have hcz17_2 : w16.cell? ⟨gb163,2,none⟩ = some (.int .i64 a0_2) := (blk_cell BK163.out 2).trans rfl;have hcz17_3 : w16.cell? ⟨gb163,3,none⟩ = some (.string a0_3) := (blk_cell BK163.out 3).trans rfl;have hfz17_0 := blk_frozen BK163.out 0;have hfz17_1 := blk_frozen BK163.out 1;have hfz17_2 := blk_frozen BK163.out 2;have hfz17_3 := blk_frozen BK163.out 3))
              go_ret
              exact ⟨by first | rfl | (simp [errW_none,errW_some] <;> rfl) | (simp [*,errW_none,errW_some] <;> rfl),by repeat (first | (with_reducible first | exact HB.out | apply below_alloc | apply pw_below_drewN | apply below_drew1 | refine below_set ?_ GE163.out) | exact HB.out)⟩
        · rw [if_neg c9] at H
          have c9b0 : (a0_0 == 2) = false := beq_eq_false_iff_ne.mpr c9
          have c9b1 : (a0_0 != 2) = true := bne_iff_ne.mpr c9
          by_cases c18 : a0_2 = 0
          · rw [if_pos c18] at H
            have c18b0 : (a0_2 == 0) = true := beq_iff_eq.mpr c18
            have c18b1 : (a0_2 != 0) = false := bne_eq_false_iff_eq.mpr c18
            clear c18
            by_cases c19 : a0_0 = 3
            · rw [if_pos c19] at H
              have c19b0 : (a0_0 == 3) = true := beq_iff_eq.mpr c19
              have c19b1 : (a0_0 != 3) = false := bne_eq_false_iff_eq.mpr c19
              clear c19
              obtain rfl := Option.some.inj H
              go_enter Try.func95,Try.ntmps95
              go_wp2_with (first | ((with_reducible refine gate_dst (N := 1) rfl ?_);refine box_event ?hg (N := 1) ?hd (cs := #[.int .i64 a0_0,.bool a0_1,.int .i64 a0_2,.string a0_3]) (t := 66) ?hr ?_;(case hd => rfl);(case hg => rfl);(case hr => first | (go_simp;done) | (go_simp;rfl));intro gb163 hg w20 hbox hb;have n0_ := Aside0.mk (below_step (by repeat (first | (with_reducible first | exact HB.out | apply below_alloc | apply pw_below_drewN | apply below_drew1) | exact HB.out)) hb);have n1_ := Aside0.mk (hbox);have n2_ := Aside0.mk ((by rw [hg];exact (below_size (by repeat (first | (with_reducible first | exact HB.out | apply below_alloc | apply pw_below_drewN | apply below_drew1) | exact HB.out))) : w.heap.size ≤ gb163));have n3_ := Aside0.mk ((by rw [hg];exact (below_size (by repeat (first | (with_reducible first | exact HB.out | apply below_alloc | apply pw_below_drewN | apply below_drew1) | exact HB.out))) : w.heap.size ≤ gb163));clear HB;have HB := n0_;have BK163 := n1_;have GW163 := n2_;have GE163 := n3_;clear n0_ n1_ n2_ n3_;clear hb hbox hg;have hcz21_0 : w20.cell? ⟨gb163,0,none⟩ = some (.int .i64 a0_0) := (blk_cell BK163.out 0).trans rfl;have hcz21_1 : w20.cell? ⟨gb163,1,none⟩ = some (.bool a0_1) := (blk_cell BK163.out 1).trans rfl;have hcz21_2 : w20.cell? ⟨gb163,2,none⟩ = some (.int .i64 a0_2) := (blk_cell BK163.out 2).trans rfl;have hcz21_3 : w20.cell? ⟨gb163,3,none⟩ = some (.string a0_3) := (blk_cell BK163.out 3).trans rfl;have hfz21_0 := blk_frozen BK163.out 0;have hfz21_1 := blk_frozen BK163.out 1;have hfz21_2 := blk_frozen BK163.out 2;have hfz21_3 := blk_frozen BK163.out 3))
              go_ret
              exact ⟨by first | rfl | (simp [errW_none,errW_some] <;> rfl) | (simp [*,errW_none,errW_some] <;> rfl),by repeat (first | (with_reducible first | exact HB.out | apply below_alloc | apply pw_below_drewN | apply below_drew1 | refine below_set ?_ GE163.out) | exact HB.out)⟩
            · rw [if_neg c19] at H
              have c19b0 : (a0_0 == 3) = false := beq_eq_false_iff_ne.mpr c19
              have c19b1 : (a0_0 != 3) = true := bne_iff_ne.mpr c19
              by_cases c22 : a0_3.toList = ([] : List UInt8)
              · rw [if_pos c22] at H
                have c22b0 : (a0_3.toList == ([] : List UInt8)) = true := beq_iff_eq.mpr c22
                have c22b1 : (a0_3.toList != ([] : List UInt8)) = false := bne_eq_false_iff_eq.mpr c22
                clear c22
                obtain rfl := Option.some.inj H
                go_enter Try.func95,Try.ntmps95
                go_wp2_with (first | ((with_reducible refine gate_dst (N := 1) rfl ?_);refine box_event ?hg (N := 1) ?hd (cs := #[.int .i64 a0_0,.bool a0_1,.int .i64 a0_2,.string a0_3]) (t := 66) ?hr ?_;(case hd => rfl);(case hg => rfl);(case hr => first | (go_simp;done) | (go_simp;rfl));intro gb163 hg w23 hbox hb;have n0_ := Aside0.mk (below_step (by repeat (first | (with_reducible first | exact HB.out | apply below_alloc | apply pw_below_drewN | apply below_drew1) | exact HB.out)) hb);have n1_ := Aside0.mk (hbox);have n2_ := Aside0.mk ((by rw [hg];exact (below_size (by repeat (first | (with_reducible first | exact HB.out | apply below_alloc | apply pw_below_drewN | apply below_drew1) | exact HB.out))) : w.heap.size ≤ gb163));have n3_ := Aside0.mk ((by rw [hg];exact (below_size (by repeat (first | (with_reducible first | exact HB.out | apply below_alloc | apply pw_below_drewN | apply below_drew1) | exact HB.out))) : w.heap.size ≤ gb163));clear HB;have HB := n0_;have BK163 := n1_;have GW163 := n2_;have GE163 := n3_;clear n0_ n1_ n2_ n3_;clear hb hbox hg;have hcz24_0 : w23.cell? ⟨gb163,0,none⟩ = some (.int .i64 a0_0) := (blk_cell BK163.out 0).trans rfl;have hcz24_1 : w23.cell? ⟨gb163,1,none⟩ = some (.bool a0_1) := (blk_cell BK163.out 1).trans rfl;have hcz24_2 : w23.cell? ⟨gb163,2,none⟩ = some (.int .i64 a0_2) := (blk_cell BK163.out 2).trans rfl;have hcz24_3 : w23.cell? ⟨gb163,3,none⟩ = some (.string a0_3) := (blk_cell BK163.out 3).trans rfl;have hfz24_0 := blk_frozen BK163.out 0;have hfz24_1 := blk_frozen BK163.out 1;have hfz24_2 := blk_frozen BK163.out 2;have hfz24_3 := blk_frozen BK163.out 3))
                go_ret
                exact ⟨by first | rfl | (simp [errW_none,errW_some] <;> rfl) | (simp [*,errW_none,errW_some] <;> rfl),by repeat (first | (with_reducible first | exact HB.out | apply below_alloc | apply pw_below_drewN | apply below_drew1 | refine below_set ?_ GE163.out) | exact HB.out)⟩
              · rw [if_neg c22] at H
                have c22b0 : (a0_3.toList == ([] : List UInt8)) = false := beq_eq_false_iff_ne.mpr c22
                have c22b1 : (a0_3.toList != ([] : List UInt8)) = true := bne_iff_ne.mpr c22
                obtain rfl := Option.some.inj H
                go_enter Try.func95,Try.ntmps95
                go_wp2_with (first | ((with_reducible refine gate_dst (N := 1) rfl ?_);refine box_event ?hg (N := 1) ?hd (cs := #[.int .i64 a0_0,.bool a0_1,.int .i64 a0_2,.string a0_3]) (t := 66) ?hr ?_;(case hd => rfl);(case hg => rfl);(case hr => first | (go_simp;done) | (go_simp;rfl));intro gb163 hg w25 hbox hb;have n0_ := Aside0.mk (below_step (by repeat (first | (with_reducible first | exact HB.out | apply below_alloc | apply pw_below_drewN | apply below_drew1) | exact HB.out)) hb);have n1_ := Aside0.mk (hbox);have n2_ := Aside0.mk ((by rw [hg];exact (below_size (by repeat (first | (with_reducible first | exact HB.out | apply below_alloc | apply pw_below_drewN | apply below_drew1) | exact HB.out))) : w.heap.size ≤ gb163));have n3_ := Aside0.mk ((by rw [hg];exact (below_size (by repeat (first | (with_reducible first | exact HB.out | apply below_alloc | apply pw_below_drewN | apply below_drew1) | exact HB.out))) : w.heap.size ≤ gb163));clear HB;have HB := n0_;have BK163 := n1_;have GW163 := n2_;have GE163 := n3_;clear n0_ n1_ n2_ n3_;clear hb hbox hg;have hcz26_0 : w25.cell? ⟨gb163,0,none⟩ = some (.int .i64 a0_0) := (blk_cell BK163.out 0).trans rfl;have hcz26_1 : w25.cell? ⟨gb163,1,none⟩ = some (.bool a0_1) := (blk_cell BK163.out 1).trans rfl;have hcz26_2 : w25.cell? ⟨gb163,2,none⟩ = some (.int .i64 a0_2) := (blk_cell BK163.out 2).trans rfl;have hcz26_3 : w25.cell? ⟨gb163,3,none⟩ = some (.string a0_3) := (blk_cell BK163.out 3).trans rfl;have hfz26_0 := blk_frozen BK163.out 0;have hfz26_1 := blk_frozen BK163.out 1;have hfz26_2 := blk_frozen BK163.out 2;have hfz26_3 := blk_frozen BK163.out 3))
                go_ret
                exact ⟨by first | rfl | (simp [errW_none,errW_some] <;> rfl) | (simp [*,errW_none,errW_some] <;> rfl),by repeat (first | (with_reducible first | exact HB.out | apply below_alloc | apply pw_below_drewN | apply below_drew1 | refine below_set ?_ GE163.out) | exact HB.out)⟩
          · rw [if_neg c18] at H
            have c18b0 : (a0_2 == 0) = false := beq_eq_false_iff_ne.mpr c18
            have c18b1 : (a0_2 != 0) = true := bne_iff_ne.mpr c18
            obtain rfl := Option.some.inj H
            go_enter Try.func95,Try.ntmps95
            go_wp2_with (first | ((with_reducible refine gate_dst (N := 1) rfl ?_);refine box_event ?hg (N := 1) ?hd (cs := #[.int .i64 a0_0,.bool a0_1,.int .i64 a0_2,.string a0_3]) (t := 66) ?hr ?_;(case hd => rfl);(case hg => rfl);(case hr => first | (go_simp;done) | (go_simp;rfl));intro gb163 hg w27 hbox hb;have n0_ := Aside0.mk (below_step (by repeat (first | (with_reducible first | exact HB.out | apply below_alloc | apply pw_below_drewN | apply below_drew1) | exact HB.out)) hb);have n1_ := Aside0.mk (hbox);have n2_ := Aside0.mk ((by rw [hg];exact (below_size (by repeat (first | (with_reducible first | exact HB.out | apply below_alloc | apply pw_below_drewN | apply below_drew1) | exact HB.out))) : w.heap.size ≤ gb163));have n3_ := Aside0.mk ((by rw [hg];exact (below_size (by repeat (first | (with_reducible first | exact HB.out | apply below_alloc | apply pw_below_drewN | apply below_drew1) | exact HB.out))) : w.heap.size ≤ gb163));clear HB;have HB := n0_;have BK163 := n1_;have GW163 := n2_;have GE163 := n3_;clear n0_ n1_ n2_ n3_;clear hb hbox hg;have hcz28_0 : w27.cell? ⟨gb163,0,none⟩ = some (.int .i64 a0_0) := (blk_cell BK163.out 0).trans rfl;have hcz28_1 : w27.cell? ⟨gb163,1,none⟩ = some (.bool a0_1) := (blk_cell BK163.out 1).trans rfl;have hcz28_2 : w27.cell? ⟨gb163,2,none⟩ = some (.int .i64 a0_2) := (blk_cell BK163.out 2).trans rfl;have hcz28_3 : w27.cell? ⟨gb163,3,none⟩ = some (.string a0_3) := (blk_cell BK163.out 3).trans rfl;have hfz28_0 := blk_frozen BK163.out 0;have hfz28_1 := blk_frozen BK163.out 1;have hfz28_2 := blk_frozen BK163.out 2;have hfz28_3 := blk_frozen BK163.out 3))
            go_ret
            exact ⟨by first | rfl | (simp [errW_none,errW_some] <;> rfl) | (simp [*,errW_none,errW_some] <;> rfl),by repeat (first | (with_reducible first | exact HB.out | apply below_alloc | apply pw_below_drewN | apply below_drew1 | refine below_set ?_ GE163.out) | exact HB.out)⟩
      · rw [if_neg c8] at H
        have c8b0 : (a0_0 == 1) = false := beq_eq_false_iff_ne.mpr c8
        have c8b1 : (a0_0 != 1) = true := bne_iff_ne.mpr c8
        by_cases c29 : a0_1 = true
        · subst c29
          have H1 : (some false) = some r := by rw [if_pos rfl] at H;exact H
          clear H
          have H := H1
          clear H1
          obtain rfl := Option.some.inj H
          go_enter Try.func95,Try.ntmps95
          go_wp2_with (first | ((with_reducible refine gate_dst (N := 1) rfl ?_);refine box_event ?hg (N := 1) ?hd (cs := #[.int .i64 a0_0,.bool true,.int .i64 a0_2,.string a0_3]) (t := 66) ?hr ?_;(case hd => rfl);(case hg => rfl);(case hr => first | (go_simp;done) | (go_simp;rfl));intro gb163 hg w30 hbox hb;have n0_ := Aside0.mk (below_step (by repeat (first | (with_reducible first | exact HB.out | apply below_alloc | apply pw_below_drewN | apply below_drew1) | exact HB.out)) hb);have n1_ := Aside0.mk (hbox);have n2_ := Aside0.mk ((by rw [hg];exact (below_size (by repeat (first | (with_reducible first | exact HB.out | apply below_alloc | apply pw_below_drewN | apply below_drew1) | exact HB.out))) : w.heap.size ≤ gb163));have n3_ := Aside0.mk ((by rw [hg];exact (below_size (by repeat (first | (with_reducible first | exact HB.out | apply below_alloc | apply pw_below_drewN | apply below_drew1) | exact HB.out))) : w.heap.size ≤ gb163));clear HB;have HB := n0_;have BK163 := n1_;have GW163 := n2_;have GE163 := n3_;clear n0_ n1_ n2_ n3_;clear hb hbox hg;have hcz31_0 : w30.cell? ⟨gb163,0,none⟩ = some (.int .i64 a0_0) := (blk_cell BK163.out 0).trans rfl;have hcz31_1 : w30.cell? ⟨gb163,1,none⟩ = some (.bool true) := (blk_cell BK163.out 1).trans rfl;have hcz31_2 : w30.cell? ⟨gb163,2,none⟩ = some (.int .i64 a0_2) := (blk_cell BK163.out 2).trans rfl;have hcz31_3 : w30.cell? ⟨gb163,3,none⟩ = some (.string a0_3) := (blk_cell BK163.out 3).trans rfl;have hfz31_0 := blk_frozen BK163.out 0;have hfz31_1 := blk_frozen BK163.out 1;have hfz31_2 := blk_frozen BK163.out 2;have hfz31_3 := blk_frozen BK163.out 3))
          go_ret
          exact ⟨by first | rfl | (simp [errW_none,errW_some] <;> rfl) | (simp [*,errW_none,errW_some] <;> rfl),by repeat (first | (with_reducible first | exact HB.out | apply below_alloc | apply pw_below_drewN | apply below_drew1 | refine below_set ?_ GE163.out) | exact HB.out)⟩
        · replace c29 := Bool.eq_false_iff.mpr c29
          subst c29
          have H1 : (if a0_0 = 2 then (if a0_0 = 3 then (some (decide ((a0_3.size : Int) ≤ 60))) else (if a0_3.toList = ([] : List UInt8) then (some (decide ((a0_3.size : Int) ≤ 60))) else (some false))) else (if a0_2 = 0 then (if a0_0 = 3 then (some (decide ((a0_3.size : Int) ≤ 60))) else (if a0_3.toList = ([] : List UInt8) then (some (decide ((a0_3.size : Int) ≤ 60))) else (some false))) else (some false))) = some r := by rw [if_neg (show ¬ (false = true) by decide)] at H;exact H
          clear H
          have H := H1
          clear H1
          by_cases c32 : a0_0 = 2
          · rw [if_pos c32] at H
            have c32b0 : (a0_0 == 2) = true := beq_iff_eq.mpr c32
            have c32b1 : (a0_0 != 2) = false := bne_eq_false_iff_eq.mpr c32
            clear c32
            by_cases c33 : a0_0 = 3
            · rw [if_pos c33] at H
              have c33b0 : (a0_0 == 3) = true := beq_iff_eq.mpr c33
              have c33b1 : (a0_0 != 3) = false := bne_eq_false_iff_eq.mpr c33
              clear c33
              obtain rfl := Option.some.inj H
              go_enter Try.func95,Try.ntmps95
              go_wp2_with (first | ((with_reducible refine gate_dst (N := 1) rfl ?_);refine box_event ?hg (N := 1) ?hd (cs := #[.int .i64 a0_0,.bool false,.int .i64 a0_2,.string a0_3]) (t := 66) ?hr ?_;(case hd => rfl);(case hg => rfl);(case hr => first | (go_simp;done) | (go_simp;rfl));intro gb163 hg w34 hbox hb;have n0_ := Aside0.mk (below_step (by repeat (first | (with_reducible first | exact HB.out | apply below_alloc | apply pw_below_drewN | apply below_drew1) | exact HB.out)) hb);have n1_ := Aside0.mk (hbox);have n2_ := Aside0.mk ((by rw [hg];exact (below_size (by repeat (first | (with_reducible first | exact HB.out | apply below_alloc | apply pw_below_drewN | apply below_drew1) | exact HB.out))) : w.heap.size ≤ gb163));have n3_ := Aside0.mk ((by rw [hg];exact (below_size (by repeat (first | (with_reducible first | exact HB.out | apply below_alloc | apply pw_below_drewN | apply below_drew1) | exact HB.out))) : w.heap.size ≤ gb163));clear HB;have HB := n0_;have BK163 := n1_;have GW163 := n2_;have GE163 := n3_;clear n0_ n1_ n2_ n3_;clear hb hbox hg;have hcz35_0 : w34.cell? ⟨gb163,0,none⟩ = some (.int .i64 a0_0) := (blk_cell BK163.out 0).trans rfl;have hcz35_1 : w34.cell? ⟨gb163,1,none⟩ = some (.bool false) := (blk_cell BK163.out 1).trans rfl;have hcz35_2 : w34.cell? ⟨gb163,2,none⟩ = some (.int .i64 a0_2) := (blk_cell BK163.out 2).trans rfl;have hcz35_3 : w34.cell? ⟨gb163,3,none⟩ = some (.string a0_3) := (blk_cell BK163.out 3).trans rfl;have hfz35_0 := blk_frozen BK163.out 0;have hfz35_1 := blk_frozen BK163.out 1;have hfz35_2 := blk_frozen BK163.out 2;have hfz35_3 := blk_frozen BK163.out 3))
              go_ret
              exact ⟨by first | rfl | (simp [errW_none,errW_some] <;> rfl) | (simp [*,errW_none,errW_some] <;> rfl),by repeat (first | (with_reducible first | exact HB.out | apply below_alloc | apply pw_below_drewN | apply below_drew1 | refine below_set ?_ GE163.out) | exact HB.out)⟩
            · rw [if_neg c33] at H
              have c33b0 : (a0_0 == 3) = false := beq_eq_false_iff_ne.mpr c33
              have c33b1 : (a0_0 != 3) = true := bne_iff_ne.mpr c33
              by_cases c36 : a0_3.toList = ([] : List UInt8)
              · rw [if_pos c36] at H
                have c36b0 : (a0_3.toList == ([] : List UInt8)) = true := beq_iff_eq.mpr c36
                have c36b1 : (a0_3.toList != ([] : List UInt8)) = false := bne_eq_false_iff_eq.mpr c36
                clear c36
                obtain rfl := Option.some.inj H
                go_enter Try.func95,Try.ntmps95
                go_wp2_with (first | ((with_reducible refine gate_dst (N := 1) rfl ?_);refine box_event ?hg (N := 1) ?hd (cs := #[.int .i64 a0_0,.bool false,.int .i64 a0_2,.string a0_3]) (t := 66) ?hr ?_;(case hd => rfl);(case hg => rfl);(case hr => first | (go_simp;done) | (go_simp;rfl));intro gb163 hg w37 hbox hb;have n0_ := Aside0.mk (below_step (by repeat (first | (with_reducible first | exact HB.out | apply below_alloc | apply pw_below_drewN | apply below_drew1) | exact HB.out)) hb);have n1_ := Aside0.mk (hbox);have n2_ := Aside0.mk ((by rw [hg];exact (below_size (by repeat (first | (with_reducible first | exact HB.out | apply below_alloc | apply pw_below_drewN | apply below_drew1) | exact HB.out))) : w.heap.size ≤ gb163));have n3_ := Aside0.mk ((by rw [hg];exact (below_size (by repeat (first | (with_reducible first | exact HB.out | apply below_alloc | apply pw_below_drewN | apply below_drew1) | exact HB.out))) : w.heap.size ≤ gb163));clear HB;have HB := n0_;have BK163 := n1_;have GW163 := n2_;have GE163 := n3_;clear n0_ n1_ n2_ n3_;clear hb hbox hg;have hcz38_0 : w37.cell? ⟨gb163,0,none⟩ = some (.int .i64 a0_0) := (blk_cell BK163.out 0).trans rfl;have hcz38_1 : w37.cell? ⟨gb163,1,none⟩ = some (.bool false) := (blk_cell BK163.out 1).trans rfl;have hcz38_2 : w37.cell? ⟨gb163,2,none⟩ = some (.int .i64 a0_2) := (blk_cell BK163.out 2).trans rfl;have hcz38_3 : w37.cell? ⟨gb163,3,none⟩ = some (.string a0_3) := (blk_cell BK163.out 3).trans rfl;have hfz38_0 := blk_frozen BK163.out 0;have hfz38_1 := blk_frozen BK163.out 1;have hfz38_2 := blk_frozen BK163.out 2;have hfz38_3 := blk_frozen BK163.out 3))
                go_ret
                exact ⟨by first | rfl | (simp [errW_none,errW_some] <;> rfl) | (simp [*,errW_none,errW_some] <;> rfl),by repeat (first | (with_reducible first | exact HB.out | apply below_alloc | apply pw_below_drewN | apply below_drew1 | refine below_set ?_ GE163.out) | exact HB.out)⟩
              · rw [if_neg c36] at H
                have c36b0 : (a0_3.toList == ([] : List UInt8)) = false := beq_eq_false_iff_ne.mpr c36
                have c36b1 : (a0_3.toList != ([] : List UInt8)) = true := bne_iff_ne.mpr c36
                obtain rfl := Option.some.inj H
                go_enter Try.func95,Try.ntmps95
                go_wp2_with (first | ((with_reducible refine gate_dst (N := 1) rfl ?_);refine box_event ?hg (N := 1) ?hd (cs := #[.int .i64 a0_0,.bool false,.int .i64 a0_2,.string a0_3]) (t := 66) ?hr ?_;(case hd => rfl);(case hg => rfl);(case hr => first | (go_simp;done) | (go_simp;rfl));intro gb163 hg w39 hbox hb;have n0_ := Aside0.mk (below_step (by repeat (first | (with_reducible first | exact HB.out | apply below_alloc | apply pw_below_drewN | apply below_drew1) | exact HB.out)) hb);have n1_ := Aside0.mk (hbox);have n2_ := Aside0.mk ((by rw [hg];exact (below_size (by repeat (first | (with_reducible first | exact HB.out | apply below_alloc | apply pw_below_drewN | apply below_drew1) | exact HB.out))) : w.heap.size ≤ gb163));have n3_ := Aside0.mk ((by rw [hg];exact (below_size (by repeat (first | (with_reducible first | exact HB.out | apply below_alloc | apply pw_below_drewN | apply below_drew1) | exact HB.out))) : w.heap.size ≤ gb163));clear HB;have HB := n0_;have BK163 := n1_;have GW163 := n2_;have GE163 := n3_;clear n0_ n1_ n2_ n3_;clear hb hbox hg;have hcz40_0 : w39.cell? ⟨gb163,0,none⟩ = some (.int .i64 a0_0) := (blk_cell BK163.out 0).trans rfl;have hcz40_1 : w39.cell? ⟨gb163,1,none⟩ = some (.bool false) := (blk_cell BK163.out 1).trans rfl;have hcz40_2 : w39.cell? ⟨gb163,2,none⟩ = some (.int .i64 a0_2) := (blk_cell BK163.out 2).trans rfl;have hcz40_3 : w39.cell? ⟨gb163,3,none⟩ = some (.string a0_3) := (blk_cell BK163.out 3).trans rfl;have hfz40_0 := blk_frozen BK163.out 0;have hfz40_1 := blk_frozen BK163.out 1;have hfz40_2 := blk_frozen BK163.out 2;have hfz40_3 := blk_frozen BK163.out 3))
                go_ret
                exact ⟨by first | rfl | (simp [errW_none,errW_some] <;> rfl) | (simp [*,errW_none,errW_some] <;> rfl),by repeat (first | (with_reducible first | exact HB.out | apply below_alloc | apply pw_below_drewN | apply below_drew1 | refine below_set ?_ GE163.out) | exact HB.out)⟩
          · rw [if_neg c32] at H
            have c32b0 : (a0_0 == 2) = false := beq_eq_false_iff_ne.mpr c32
            have c32b1 : (a0_0 != 2) = true := bne_iff_ne.mpr c32
            by_cases c41 : a0_2 = 0
            · rw [if_pos c41] at H
              have c41b0 : (a0_2 == 0) = true := beq_iff_eq.mpr c41
              have c41b1 : (a0_2 != 0) = false := bne_eq_false_iff_eq.mpr c41
              clear c41
              by_cases c42 : a0_0 = 3
              · rw [if_pos c42] at H
                have c42b0 : (a0_0 == 3) = true := beq_iff_eq.mpr c42
                have c42b1 : (a0_0 != 3) = false := bne_eq_false_iff_eq.mpr c42
                clear c42
                obtain rfl := Option.some.inj H
                go_enter Try.func95,Try.ntmps95
                go_wp2_with (first | ((with_reducible refine gate_dst (N := 1) rfl ?_);refine box_event ?hg (N := 1) ?hd (cs := #[.int .i64 a0_0,.bool false,.int .i64 a0_2,.string a0_3]) (t := 66) ?hr ?_;(case hd => rfl);(case hg => rfl);(case hr => first | (go_simp;done) | (go_simp;rfl));intro gb163 hg w43 hbox hb;have n0_ := Aside0.mk (below_step (by repeat (first | (with_reducible first | exact HB.out | apply below_alloc | apply pw_below_drewN | apply below_drew1) | exact HB.out)) hb);have n1_ := Aside0.mk (hbox);have n2_ := Aside0.mk ((by rw [hg];exact (below_size (by repeat (first | (with_reducible first | exact HB.out | apply below_alloc | apply pw_below_drewN | apply below_drew1) | exact HB.out))) : w.heap.size ≤ gb163));have n3_ := Aside0.mk ((by rw [hg];exact (below_size (by repeat (first | (with_reducible first | exact HB.out | apply below_alloc | apply pw_below_drewN | apply below_drew1) | exact HB.out))) : w.heap.size ≤ gb163));clear HB;have HB := n0_;have BK163 := n1_;have GW163 := n2_;have GE163 := n3_;clear n0_ n1_ n2_ n3_;clear hb hbox hg;have hcz44_0 : w43.cell? ⟨gb163,0,none⟩ = some (.int .i64 a0_0) := (blk_cell BK163.out 0).trans rfl;have hcz44_1 : w43.cell? ⟨gb163,1,none⟩ = some (.bool false) := (blk_cell BK163.out 1).trans rfl;have hcz44_2 : w43.cell? ⟨gb163,2,none⟩ = some (.int .i64 a0_2) := (blk_cell BK163.out 2).trans rfl;have hcz44_3 : w43.cell? ⟨gb163,3,none⟩ = some (.string a0_3) := (blk_cell BK163.out 3).trans rfl;have hfz44_0 := blk_frozen BK163.out 0;have hfz44_1 := blk_frozen BK163.out 1;have hfz44_2 := blk_frozen BK163.out 2;have hfz44_3 := blk_frozen BK163.out 3))
                go_ret
                exact ⟨by first | rfl | (simp [errW_none,errW_some] <;> rfl) | (simp [*,errW_none,errW_some] <;> rfl),by repeat (first | (with_reducible first | exact HB.out | apply below_alloc | apply pw_below_drewN | apply below_drew1 | refine below_set ?_ GE163.out) | exact HB.out)⟩
              · rw [if_neg c42] at H
                have c42b0 : (a0_0 == 3) = false := beq_eq_false_iff_ne.mpr c42
                have c42b1 : (a0_0 != 3) = true := bne_iff_ne.mpr c42
                by_cases c45 : a0_3.toList = ([] : List UInt8)
                · rw [if_pos c45] at H
                  have c45b0 : (a0_3.toList == ([] : List UInt8)) = true := beq_iff_eq.mpr c45
                  have c45b1 : (a0_3.toList != ([] : List UInt8)) = false := bne_eq_false_iff_eq.mpr c45
                  clear c45
                  obtain rfl := Option.some.inj H
                  go_enter Try.func95,Try.ntmps95
                  go_wp2_with (first | ((with_reducible refine gate_dst (N := 1) rfl ?_);refine box_event ?hg (N := 1) ?hd (cs := #[.int .i64 a0_0,.bool false,.int .i64 a0_2,.string a0_3]) (t := 66) ?hr ?_;(case hd => rfl);(case hg => rfl);(case hr => first | (go_simp;done) | (go_simp;rfl));intro gb163 hg w46 hbox hb;have n0_ := Aside0.mk (below_step (by repeat (first | (with_reducible first | exact HB.out | apply below_alloc | apply pw_below_drewN | apply below_drew1) | exact HB.out)) hb);have n1_ := Aside0.mk (hbox);have n2_ := Aside0.mk ((by rw [hg];exact (below_size (by repeat (first | (with_reducible first | exact HB.out | apply below_alloc | apply pw_below_drewN | apply below_drew1) | exact HB.out))) : w.heap.size ≤ gb163));have n3_ := Aside0.mk ((by rw [hg];exact (below_size (by repeat (first | (with_reducible first | exact HB.out | apply below_alloc | apply pw_below_drewN | apply below_drew1) | exact HB.out))) : w.heap.size ≤ gb163));clear HB;have HB := n0_;have BK163 := n1_;have GW163 := n2_;have GE163 := n3_;clear n0_ n1_ n2_ n3_;clear hb hbox hg;have hcz47_0 : w46.cell? ⟨gb163,0,none⟩ = some (.int .i64 a0_0) := (blk_cell BK163.out 0).trans rfl;have hcz47_1 : w46.cell? ⟨gb163,1,none⟩ = some (.bool false) := (blk_cell BK163.out 1).trans rfl;have hcz47_2 : w46.cell? ⟨gb163,2,none⟩ = some (.int .i64 a0_2) := (blk_cell BK163.out 2).trans rfl;have hcz47_3 : w46.cell? ⟨gb163,3,none⟩ = some (.string a0_3) := (blk_cell BK163.out 3).trans rfl;have hfz47_0 := blk_frozen BK163.out 0;have hfz47_1 := blk_frozen BK163.out 1;have hfz47_2 := blk_frozen BK163.out 2;have hfz47_3 := blk_frozen BK163.out 3))
                  go_ret
                  exact ⟨by first | rfl | (simp [errW_none,errW_some] <;> rfl) | (simp [*,errW_none,errW_some] <;> rfl),by repeat (first | (with_reducible first | exact HB.out | apply below_alloc | apply pw_below_drewN | apply below_drew1 | refine below_set ?_ GE163.out) | exact HB.out)⟩
                · rw [if_neg c45] at H
                  have c45b0 : (a0_3.toList == ([] : List UInt8)) = false := beq_eq_false_iff_ne.mpr c45
                  have c45b1 : (a0_3.toList != ([] : List UInt8)) = true := bne_iff_ne.mpr c45
                  obtain rfl := Option.some.inj H
                  go_enter Try.func95,Try.ntmps95
                  go_wp2_with (first | ((with_reducible refine gate_dst (N := 1) rfl ?_);refine box_event ?hg (N := 1) ?hd (cs := #[.int .i64 a0_0,.bool false,.int .i64 a0_2,.string a0_3]) (t := 66) ?hr ?_;(case hd => rfl);(case hg => rfl);(case hr => first | (go_simp;done) | (go_simp;rfl));intro gb163 hg w48 hbox hb;have n0_ := Aside0.mk (below_step (by repeat (first | (with_reducible first | exact HB.out | apply below_alloc | apply pw_below_drewN | apply below_drew1) | exact HB.out)) hb);have n1_ := Aside0.mk (hbox);have n2_ := Aside0.mk ((by rw [hg];exact (below_size (by repeat (first | (with_reducible first | exact HB.out | apply below_alloc | apply pw_below_drewN | apply below_drew1) | exact HB.out))) : w.heap.size ≤ gb163));have n3_ := Aside0.mk ((by rw [hg];exact (below_size (by repeat (first | (with_reducible first | exact HB.out | apply below_alloc | apply pw_below_drewN | apply below_drew1) | exact HB.out))) : w.heap.size ≤ gb163));clear HB;have HB := n0_;have BK163 := n1_;have GW163 := n2_;have GE163 := n3_;clear n0_ n1_ n2_ n3_;clear hb hbox hg;have hcz49_0 : w48.cell? ⟨gb163,0,none⟩ = some (.int .i64 a0_0) := (blk_cell BK163.out 0).trans rfl;have hcz49_1 : w48.cell? ⟨gb163,1,none⟩ = some (.bool false) := (blk_cell BK163.out 1).trans rfl;have hcz49_2 : w48.cell? ⟨gb163,2,none⟩ = some (.int .i64 a0_2) := (blk_cell BK163.out 2).trans rfl;have hcz49_3 : w48.cell? ⟨gb163,3,none⟩ = some (.string a0_3) := (blk_cell BK163.out 3).trans rfl;have hfz49_0 := blk_frozen BK163.out 0;have hfz49_1 := blk_frozen BK163.out 1;have hfz49_2 := blk_frozen BK163.out 2;have hfz49_3 := blk_frozen BK163.out 3))
                  go_ret
                  exact ⟨by first | rfl | (simp [errW_none,errW_some] <;> rfl) | (simp [*,errW_none,errW_some] <;> rfl),by repeat (first | (with_reducible first | exact HB.out | apply below_alloc | apply pw_below_drewN | apply below_drew1 | refine below_set ?_ GE163.out) | exact HB.out)⟩
            · rw [if_neg c41] at H
              have c41b0 : (a0_2 == 0) = false := beq_eq_false_iff_ne.mpr c41
              have c41b1 : (a0_2 != 0) = true := bne_iff_ne.mpr c41
              obtain rfl := Option.some.inj H
              go_enter Try.func95,Try.ntmps95
              go_wp2_with (first | ((with_reducible refine gate_dst (N := 1) rfl ?_);refine box_event ?hg (N := 1) ?hd (cs := #[.int .i64 a0_0,.bool false,.int .i64 a0_2,.string a0_3]) (t := 66) ?hr ?_;(case hd => rfl);(case hg => rfl);(case hr => first | (go_simp;done) | (go_simp;rfl));intro gb163 hg w50 hbox hb;have n0_ := Aside0.mk (below_step (by repeat (first | (with_reducible first | exact HB.out | apply below_alloc | apply pw_below_drewN | apply below_drew1) | exact HB.out)) hb);have n1_ := Aside0.mk (hbox);have n2_ := Aside0.mk ((by rw [hg];exact (below_size (by repeat (first | (with_reducible first | exact HB.out | apply below_alloc | apply pw_below_drewN | apply below_drew1) | exact HB.out))) : w.heap.size ≤ gb163));have n3_ := Aside0.mk ((by rw [hg];exact (below_size (by repeat (first | (with_reducible first | exact HB.out | apply below_alloc | apply pw_below_drewN | apply below_drew1) | exact HB.out))) : w.heap.size ≤ gb163));clear HB;have HB := n0_;have BK163 := n1_;have GW163 := n2_;have GE163 := n3_;clear n0_ n1_ n2_ n3_;clear hb hbox hg;have hcz51_0 : w50.cell? ⟨gb163,0,none⟩ = some (.int .i64 a0_0) := (blk_cell BK163.out 0).trans rfl;have hcz51_1 : w50.cell? ⟨gb163,1,none⟩ = some (.bool false) := (blk_cell BK163.out 1).trans rfl;have hcz51_2 : w50.cell? ⟨gb163,2,none⟩ = some (.int .i64 a0_2) := (blk_cell BK163.out 2).trans rfl;have hcz51_3 : w50.cell? ⟨gb163,3,none⟩ = some (.string a0_3) := (blk_cell BK163.out 3).trans rfl;have hfz51_0 := blk_frozen BK163.out 0;have hfz51_1 := blk_frozen BK163.out 1;have hfz51_2 := blk_frozen BK163.out 2;have hfz51_3 := blk_frozen BK163.out 3))
              go_ret
              exact ⟨by first | rfl | (simp [errW_none,errW_some] <;> rfl) | (simp [*,errW_none,errW_some] <;> rfl),by repeat (first | (with_reducible first | exact HB.out | apply below_alloc | apply pw_below_drewN | apply below_drew1 | refine below_set ?_ GE163.out) | exact HB.out)⟩
end Go.Proofs.Ythmbfcfomcaaaaa.Z
end
section
namespace Go.Proofs.Ythmbfcfomcaaaaa.Z
open Go.RowKit Go.Proofs.YthmbfcfomcaaaaaW.PrintWords Go.Proofs.YthmbfcfomcaaaaaW.PrintLast Go.Proofs.YthmbfcfomcaaaaaW.PrintMore
attribute [local go_sem] max2_int min2_int max_two min_two max_three min_three max_four min_four
set_option linter.unusedVariables false
set_option linter.unusedSimpArgs false
def verdererref02_Right.l0 : Nat → List (S66) → Int → Option (Bool)
  | 0,_,_ => none
  | k + 1,x0,x3 => if x3 < (x0.length : Int) then (if 0 ≤ x3 then ((verdererref01_Right.f ((rd_T66 x0 x3).f0) ((rd_T66 x0 x3).f1) ((rd_T66 x0 x3).f2) ((rd_T66 x0 x3).f3)).bind fun t165 => (if t165 = true then (verdererref02_Right.l0 k x0 (wrap64 (x3 + 1))) else (some false))) else (none)) else (some true)
def verdererref02_Right.f (k : Nat) (l0 : List (S66)) : Option (Bool) := if (l0.length : Int) > 40 then (some false) else (verdererref02_Right.l0 k l0 0)
theorem verdererref02_Right.mono_l : ∀ k,(∀ y0 y1,LeO (verdererref02_Right.l0 k y0 y1) (verdererref02_Right.l0 (k + 1) y0 y1))
  | 0 => fun _ _ r h => by simp [verdererref02_Right.l0] at h
  | k + 1 => by
    have ih0 := verdererref02_Right.mono_l k
    · intro y0 y1
      unfold verdererref02_Right.l0
      repeat' first
      | (with_reducible exact ih0 _ _)
      | (with_reducible exact LeO.refl _)
      | (with_reducible exact LeO.none _)
      | (with_reducible refine LeO.ite ?_ ?_)
      | (with_reducible refine LeO.bind ?_ (fun _ => ?_))
      | exact ih0 _ _
      | exact LeO.none _
      | refine LeO.ite ?_ ?_
      | refine LeO.bind ?_ (fun _ => ?_)
theorem verdererref02_Right.mono : ∀ a0 k,LeO (verdererref02_Right.f k a0) (verdererref02_Right.f (k + 1) a0) := by
  intro a0 k
  have ih0 := verdererref02_Right.mono_l k
  unfold verdererref02_Right.f
  repeat' first
      | (with_reducible exact ih0 _ _)
      | (with_reducible exact LeO.refl _)
      | (with_reducible exact LeO.none _)
      | (with_reducible refine LeO.ite ?_ ?_)
      | (with_reducible refine LeO.bind ?_ (fun _ => ?_))
      | exact ih0 _ _
      | exact LeO.none _
      | refine LeO.ite ?_ ?_
      | refine LeO.bind ?_ (fun _ => ?_)
set_option maxHeartbeats 8000000 in
set_option maxRecDepth 100000 in
theorem verdererref02_Right.calls (k : Nat) (A0 : Option Addr) (c0 : Nat) (l0 : List (S66)) (r : Bool) (w : World) (hr0 : Kd.C k66 w A0 l0.length l0) (hc0 : l0.length ≤ c0) (h : verdererref02_Right.f k l0 = some r) :
    Calls Try.prog 65 #[.slice A0 l0.length c0] w fun e w' => e = .returned (.bool r) ∧ Below w.heap.size w w' := by
  have hu66 := Try.underlying66
  have HR0 := Aside0.mk hr0
  have HC0 := Aside0.mk hc0
  clear hr0 hc0
  have HB := Aside0.mk (Below.refl w.heap.size w)
  have H : (if (l0.length : Int) > 40 then (some false) else (verdererref02_Right.l0 k l0 0)) = some r := h
  clear h
  by_cases c2 : (l0.length : Int) > 40
  · rw [if_pos c2] at H
    have c2b0 : decide (40 < (l0.length : Int)) = true := decide_eq_true c2
    have c2b1 : decide (40 < l0.length) = true := decide_eq_true (by omega)
    clear c2
    obtain rfl := Option.some.inj H
    go_enter Try.func65,Try.ntmps65
    go_wp2
    go_ret
    exact ⟨by first | rfl | (simp [errW_none,errW_some] <;> rfl) | (simp [*,errW_none,errW_some] <;> rfl),by repeat (first | (with_reducible first | exact HB.out | apply below_alloc | apply pw_below_drewN | apply below_drew1) | exact HB.out)⟩
  · rw [if_neg c2] at H
    have c2b0 : decide (40 < (l0.length : Int)) = false := decide_eq_false c2
    have c2b1 : decide (40 < l0.length) = false := decide_eq_false (by omega)
    clear c2
    have H' := Aside0.mk H
    clear H
    go_enter Try.func65,Try.ntmps65
    go_wp2
    go_loopg [3] k (fun kq v3 w' => ∃ (x3_1 : Int),v3 = .int .i64 x3_1 ∧ Aside0 (verdererref02_Right.l0 kq l0 x3_1 = some r) ∧ Aside0 (kq ≤ k) ∧ Aside0 (Below w.heap.size w w'))
    case atStart => exact ⟨(0),(by first | rfl | (simp;done) | (simp [*];done)),H',⟨Nat.le_refl _⟩,⟨by repeat (first | (with_reducible first | exact HB.out | apply below_alloc | apply pw_below_drewN | apply below_drew1) | exact HB.out)⟩⟩
    case round =>
      clear H'
      try clear c2
      try clear c2b0
      try clear c2b1
      try clear p2
      obtain ⟨x3_1,rfl,HA,HK1,HB⟩ := hrel
      cases gk with
      | zero => exact absurd HA.out (by simp [verdererref02_Right.l0])
      | succ k1 =>
        have H := HA.out
        clear HA
        simp only [verdererref02_Right.l0] at H
        by_cases c3 : x3_1 < (l0.length : Int)
        · rw [if_pos c3] at H
          have c3b0 : decide (x3_1 < (l0.length : Int)) = true := decide_eq_true c3
          clear c3
          by_cases c4 : 0 ≤ x3_1
          · rw [if_pos c4] at H
            have c4b0 : decide (0 ≤ x3_1) = true := decide_eq_true c4
            clear c4
            replace H := Option.bind_eq_some_iff.mp H
            obtain ⟨t165,A50,H⟩ := H
            replace H : (if t165 = true then (verdererref02_Right.l0 k1 l0 (wrap64 (x3_1 + 1))) else (some false)) = some r := H
            have A5 := Aside0.mk A50
            clear A50
            by_cases c6 : t165 = true
            · subst c6
              have H1 : (verdererref02_Right.l0 k1 l0 (wrap64 (x3_1 + 1))) = some r := by rw [if_pos rfl] at H;exact H
              clear H
              have H := H1
              clear H1
              have H' := Aside0.mk H
              clear H
              have p164 : 0 ≤ (x3_1 : Int) := of_decide_eq_true (by first | (with_reducible assumption) | assumption)
              have q164 : x3_1 < (l0.length : Int) := of_decide_eq_true (by first | (with_reducible assumption) | assumption)
              obtain ⟨ad164,e164,hx164_0,hx164_1,hx164_2,hx164_3⟩ := at_T66 HR0.out x3_1 p164 q164
              cases e164
              replace hx164_0 := (HB.out.cell (World.block_lt_of_cell? w _ hx164_0)).trans hx164_0
              replace hx164_1 := (HB.out.cell (World.block_lt_of_cell? w _ hx164_1)).trans hx164_1
              replace hx164_2 := (HB.out.cell (World.block_lt_of_cell? w _ hx164_2)).trans hx164_2
              replace hx164_3 := (HB.out.cell (World.block_lt_of_cell? w _ hx164_3)).trans hx164_3
              replace p164 := eq_true p164
              replace q164 := eq_true q164
              go_wp2_with (first | ((with_reducible refine gate_callee (f := 95) rfl ?_);refine goesL_ (some 17) rfl rfl Try.func95 (by kernel_rfl) rfl #[.agg #[.int .i64 ((rd_T66 l0 x3_1).f0),.bool ((rd_T66 l0 x3_1).f1),.int .i64 ((rd_T66 l0 x3_1).f2),.string ((rd_T66 l0 x3_1).f3)]] rfl (by (try simp only [List.map_toArray,List.map_cons,List.map_nil]);first | done | rfl | (simp only [List.length_drop,List.length_take];rfl)) ?_;(with_reducible refine (verdererref01_Right.calls ((rd_T66 l0 x3_1).f0) ((rd_T66 l0 x3_1).f1) ((rd_T66 l0 x3_1).f2) ((rd_T66 l0 x3_1).f3) true _ A5.out).mono ?_);rintro e w7 ⟨rfl,hb⟩;refine ⟨_,rfl,?_⟩;have n0_ := Aside0.mk (below_step (by repeat (first | (with_reducible first | exact HB.out | apply below_alloc | apply pw_below_drewN | apply below_drew1) | exact HB.out)) hb);clear HB;have HB := n0_;clear n0_;(try clear hb);(try clear hb2);(try clear hk);(try clear hi)))
              go_roundg k1
              case measure => have := HK1.out;omega
              case rel => exact ⟨(wrap64 (x3_1 + 1)),(by first | rfl | (simp;done) | (simp [*];done)),H',⟨by have := HK1.out;omega⟩,⟨by repeat (first | (with_reducible first | exact HB.out | apply below_alloc | apply pw_below_drewN | apply below_drew1) | exact HB.out)⟩⟩
            · replace c6 := Bool.eq_false_iff.mpr c6
              subst c6
              have H1 : (some false) = some r := by rw [if_neg (show ¬ (false = true) by decide)] at H;exact H
              clear H
              have H := H1
              clear H1
              obtain rfl := Option.some.inj H
              have p164 : 0 ≤ (x3_1 : Int) := of_decide_eq_true (by first | (with_reducible assumption) | assumption)
              have q164 : x3_1 < (l0.length : Int) := of_decide_eq_true (by first | (with_reducible assumption) | assumption)
              obtain ⟨ad164,e164,hx164_0,hx164_1,hx164_2,hx164_3⟩ := at_T66 HR0.out x3_1 p164 q164
              cases e164
              replace hx164_0 := (HB.out.cell (World.block_lt_of_cell? w _ hx164_0)).trans hx164_0
              replace hx164_1 := (HB.out.cell (World.block_lt_of_cell? w _ hx164_1)).trans hx164_1
              replace hx164_2 := (HB.out.cell (World.block_lt_of_cell? w _ hx164_2)).trans hx164_2
              replace hx164_3 := (HB.out.cell (World.block_lt_of_cell? w _ hx164_3)).trans hx164_3
              replace p164 := eq_true p164
              replace q164 := eq_true q164
              go_wp2_with (first | ((with_reducible refine gate_callee (f := 95) rfl ?_);refine goesL_ (some 17) rfl rfl Try.func95 (by kernel_rfl) rfl #[.agg #[.int .i64 ((rd_T66 l0 x3_1).f0),.bool ((rd_T66 l0 x3_1).f1),.int .i64 ((rd_T66 l0 x3_1).f2),.string ((rd_T66 l0 x3_1).f3)]] rfl (by (try simp only [List.map_toArray,List.map_cons,List.map_nil]);first | done | rfl | (simp only [List.length_drop,List.length_take];rfl)) ?_;(with_reducible refine (verdererref01_Right.calls ((rd_T66 l0 x3_1).f0) ((rd_T66 l0 x3_1).f1) ((rd_T66 l0 x3_1).f2) ((rd_T66 l0 x3_1).f3) false _ A5.out).mono ?_);rintro e w8 ⟨rfl,hb⟩;refine ⟨_,rfl,?_⟩;have n0_ := Aside0.mk (below_step (by repeat (first | (with_reducible first | exact HB.out | apply below_alloc | apply pw_below_drewN | apply below_drew1) | exact HB.out)) hb);clear HB;have HB := n0_;clear n0_;(try clear hb);(try clear hb2);(try clear hk);(try clear hi)))
              go_ret
              exact ⟨by first | rfl | (simp [errW_none,errW_some] <;> rfl) | (simp [*,errW_none,errW_some] <;> rfl),by repeat (first | (with_reducible first | exact HB.out | apply below_alloc | apply pw_below_drewN | apply below_drew1) | exact HB.out)⟩
          · rw [if_neg c4] at H
            exact absurd H (by simp)
        · rw [if_neg c3] at H
          have c3b0 : decide (x3_1 < (l0.length : Int)) = false := decide_eq_false c3
          clear c3
          obtain rfl := Option.some.inj H
          go_wp2
          go_ret
          exact ⟨by first | rfl | (simp [errW_none,errW_some] <;> rfl) | (simp [*,errW_none,errW_some] <;> rfl),by repeat (first | (with_reducible first | exact HB.out | apply below_alloc | apply pw_below_drewN | apply below_drew1) | exact HB.out)⟩
end Go.Proofs.Ythmbfcfomcaaaaa.Z
end
section
namespace Go.Proofs.YthmbfcfomcaaaaaW.PrintWords
open Go.RowKit Go.ChangeShapes Go.WideShapes
section
variable {P : Program} {α β : Type}
def OfTrod (P : Program) (t : TypeId) (d : Kd α) (G : α → Prop) : Prop :=
  ∀ (H : Type) (enc : TypeId × Value → H) (w : World) (base : Nat) (spare : Nat → Bool) (held : Bool) (fuel : Nat) (cs : List Value) (x : DataW H × List MemPlace),DataW.trod enc P w base spare held fuel t cs = some x → ∃ s,d.K w s cs ∧ G s
theorem ofTrod_int {t : TypeId} {k : IntKind} (ht : P.underlying t = some (.int k)) : OfTrod P t (Kd.int k) (fun n => (Lit.int k n).wf = true) := by
  intro H enc w base spare held fuel cs x h
  obtain ⟨n,rfl,_,hw⟩ := DataW.trod_int ht h
  exact ⟨n,rfl,hw⟩
theorem ofTrod_bool {t : TypeId} (ht : P.underlying t = some .bool) : OfTrod P t Kd.bool (fun _ => True) := by
  intro H enc w base spare held fuel cs x h
  obtain ⟨b,rfl,_⟩ := DataW.trod_bool ht h
  exact ⟨b,rfl,trivial⟩
theorem ofTrod_string {t : TypeId} (ht : P.underlying t = some .string) : OfTrod P t Kd.string (fun s => s.size ≤ maxLen) := by
  intro H enc w base spare held fuel cs x h
  obtain ⟨s,rfl,_,hs⟩ := DataW.trod_string ht h
  exact ⟨s,rfl,hs⟩
theorem list_of_all {n : Nat} {Q : Nat → α → Prop} (h : ∀ i,i < n → ∃ x,Q i x) : ∃ xs : List α,xs.length = n ∧ ∀ i x,xs[i]? = some x → Q i x := by
  induction n with
  | zero => exact ⟨[],rfl,fun i x hx => by simp at hx⟩
  | succ n ih =>
    obtain ⟨xs,hl,hx⟩ := ih (fun i hi => h i (by omega))
    obtain ⟨y,hy⟩ := h n (by omega)
    refine ⟨xs ++ [y],by simp [hl],fun i x hi => ?_⟩
    rcases Nat.lt_trichotomy i xs.length with hlt | rfl | hgt
    · rw [List.getElem?_append_left hlt] at hi
      exact hx i x hi
    · rw [List.getElem?_append_right (Nat.le_refl _)] at hi
      simp at hi
      subst hi
      rw [hl]
      exact hy
    · rw [List.getElem?_append_right (by omega),List.getElem?_eq_none (by simp;omega)] at hi
      cases hi
theorem ofTrod_slice {t e : TypeId} {d : Kd α} {G : α → Prop} (ht : P.underlying t = some (.slice e)) (hc : P.cellsOf e = d.sz) (h : OfTrod P e d G) :
    OfTrod P t (Kd.slice e d) (fun l => l.length ≤ maxLen ∧ ∀ x ∈ l,G x) := by
  intro H enc w base spare held fuel cs x hx
  rcases Go.Deep.open_slice ht hx with ⟨rfl,_⟩ | ⟨a,len,cap,m,n,D,Pl,rfl,_,hl,hm,hmm,_,hel⟩
  · exact ⟨[],⟨none,0,rfl,Nat.le_refl _,Kd.C_nil d w⟩,by simp,fun x hx => by simp at hx⟩
  · have hlm : len ≤ m := by rw [hmm];split <;> omega
    obtain ⟨xs,hxl,hxs⟩ := list_of_all (n := len) (Q := fun i s => ∃ cs',w.cells? base (a.add (i * P.cellsOf e)) (P.cellsOf e) = some cs' ∧ d.K w s cs' ∧ G s) (fun i hi => by
      obtain ⟨cs',h1,h2⟩ := hel i (by omega)
      obtain ⟨s,h3,h4⟩ := h _ _ _ _ _ _ _ _ _ h2
      exact ⟨s,cs',h1,h3,h4⟩)
    refine ⟨xs,⟨some a,cap,by rw [hxl],by omega,rfl,by rw [hxl];unfold maxLen at hm;omega,fun _ => ⟨a,rfl,fun j p hp => ?_⟩⟩,by omega,fun x hx => ?_⟩
    · obtain ⟨cs',h1,h2,_⟩ := hxs j p hp
      obtain ⟨_,hcl,hcell⟩ := World.cells?_some h1
      refine ⟨cs',by rw [hcl,hc],h2,fun i u hu => ?_⟩
      have hi : i < P.cellsOf e := by
        rw [← hcl]
        exact (List.getElem?_eq_some_iff.1 hu).1
      have := hcell i hi
      rw [Go.Deep.add_add,hc] at this
      rw [this]
      exact hu
    · obtain ⟨i,hi,rfl⟩ := List.getElem_of_mem hx
      obtain ⟨_,_,_,h4⟩ := hxs i xs[i] (List.getElem?_eq_getElem hi)
      exact h4
def segOff (segs : List (TypeId × Nat)) (i : Nat) : Nat := ((segs.take i).map (·.2)).sum
def OfSegs (P : Program) (segs : List (TypeId × Nat)) (d : Kd α) (G : α → Prop) : Prop :=
  ∀ (H : Type) (enc : TypeId × Value → H) (w : World) (base : Nat) (spare : Nat → Bool) (held : Bool) (fuel : Nat) (cs : List Value),cs.length = segOff segs segs.length →
    (∀ i t c,segs[i]? = some (t,c) → ∃ x,DataW.trod enc P w base spare held fuel t ((cs.drop (segOff segs i)).take c) = some x) → ∃ s,d.K w s cs ∧ G s
theorem ofSegs_one {t : TypeId} {c : Nat} {d : Kd α} {G : α → Prop} (h : OfTrod P t d G) : OfSegs P [(t,c)] d G := by
  intro H enc w base spare held fuel cs hl hx
  obtain ⟨x,h1⟩ := hx 0 t c rfl
  have hl2 : cs.length = c := by simpa [segOff] using hl
  have e : ((cs.drop (segOff [(t,c)] 0)).take c) = cs := by simp [segOff,← hl2]
  rw [e] at h1
  exact h _ _ _ _ _ _ _ _ _ h1
theorem ofSegs_cons {t : TypeId} {c : Nat} {ts : List (TypeId × Nat)} {d : Kd α} {d' : Kd β} {G : α → Prop} {G' : β → Prop} (h : OfTrod P t d G) (h' : OfSegs P ts d' G') : OfSegs P ((t,c) :: ts) (Kd.pair d d') (fun x => G x.1 ∧ G' x.2) := by
  intro H enc w base spare held fuel cs hl hx
  obtain ⟨x,h1⟩ := hx 0 t c rfl
  have e : ((cs.drop (segOff ((t,c) :: ts) 0)).take c) = cs.take c := by simp [segOff]
  rw [e] at h1
  obtain ⟨s,h2,h3⟩ := h _ _ _ _ _ _ _ _ _ h1
  have hl' : (cs.drop c).length = segOff ts ts.length := by
    simp [segOff] at hl ⊢
    omega
  obtain ⟨s',h4,h5⟩ := h' H enc w base spare held fuel (cs.drop c) hl' (fun i t' c' hi => by
    obtain ⟨y,hy⟩ := hx (i + 1) t' c' (by simpa using hi)
    refine ⟨y,?_⟩
    have e2 : segOff ((t,c) :: ts) (i + 1) = c + segOff ts i := by simp [segOff]
    rw [e2] at hy
    rw [List.drop_drop]
    exact hy)
  exact ⟨(s,s'),⟨cs.take c,cs.drop c,(List.take_append_drop c cs).symm,h2,h4⟩,h3,h5⟩
theorem ofTrod_struct {t : TypeId} {fs : Array Field} {segs : List (TypeId × Nat)} {d : Kd α} {G : α → Prop} (ht : P.underlying t = some (.struct fs)) (hc : P.cellsOf t = segOff segs segs.length) (hn : fs.size = segs.length)
    (hfs : ∀ i (f : Field),fs[i]? = some f → segs[i]? = some (f.type,P.cellsOf f.type) ∧ f.offset = segOff segs i) (h : OfSegs P segs d G) : OfTrod P t d G := by
  intro H enc w base spare held fuel cs x hx
  obtain ⟨xs,n,_,_,hl,hxl,hf⟩ := DataW.trod_struct ht hx
  refine h H enc w base spare held n cs (by rw [hl,hc]) (fun i t' c' hi => ?_)
  have hlt : i < fs.size := by rw [hn];exact (List.getElem?_eq_some_iff.1 hi).1
  obtain ⟨h1,h2⟩ := hfs i fs[i] (Array.getElem?_eq_getElem hlt)
  rw [hi] at h1
  injection h1 with h1
  injection h1 with h1 h3
  have h4 := hf i fs[i] (Array.getElem?_eq_getElem hlt)
  rw [h2,← h3,← h1] at h4
  have hlt2 : i < xs.length := by omega
  rw [List.getElem?_eq_getElem hlt2] at h4
  exact ⟨_,h4⟩
theorem ofTrod_iso {t : TypeId} {d : Kd α} {G : α → Prop} (f : β → α) (g : α → β) (hg : ∀ a,f (g a) = a) (h : OfTrod P t d G) : OfTrod P t (Kd.iso d f) (fun x => G (f x)) := by
  intro H enc w base spare held fuel cs x hx
  obtain ⟨s,h1,h2⟩ := h _ _ _ _ _ _ _ _ _ hx
  exact ⟨g s,by show d.K w (f (g s)) cs;rw [hg];exact h1,by show G (f (g s));rw [hg];exact h2⟩
theorem cell_heap {w w' : World} (h : w.heap = w'.heap) (a : Addr) : w'.cell? a = w.cell? a := by unfold World.cell?;rw [h]
end
end Go.Proofs.YthmbfcfomcaaaaaW.PrintWords
end
section
namespace Go.Proofs.Ythmbfcfomcaaaaa.Z
open Go.RowKit Go.Proofs.YthmbfcfomcaaaaaW.PrintWords Go.Proofs.YthmbfcfomcaaaaaW.PrintLast Go.Proofs.YthmbfcfomcaaaaaW.PrintMore
set_option maxRecDepth 100000
def G66 (x : S66) : Prop := ((Lit.int .i64 x.f0).wf = true) ∧ (True) ∧ ((Lit.int .i64 x.f2).wf = true) ∧ (x.f3.size ≤ maxLen)
theorem of66 : OfTrod Try.prog 66 k66 G66 :=
  ofTrod_iso _ (fun a => (⟨a.1,a.2.1,a.2.2.1,a.2.2.2⟩ : S66)) (fun _ => rfl) (ofTrod_struct (segs := [(3,1),(4,1),(2,1),(9,1)]) Try.underlying66 (by kernel_rfl) rfl
    (by
      intro i f hf
      rcases i with _ | _ | _ | _ | i <;> simp at hf <;> subst hf <;> exact ⟨congrArg some (Prod.ext rfl (by kernel_rfl)),rfl⟩) (ofSegs_cons (ofTrod_int Try.underlying3) (ofSegs_cons (ofTrod_bool Try.underlying4) (ofSegs_cons (ofTrod_int Try.underlying2) (ofSegs_one (ofTrod_string Try.underlying9))))))
end Go.Proofs.Ythmbfcfomcaaaaa.Z
end
section
namespace Go.Proofs.Ythmbfcfomcaaaaa.Z
open Go.RowKit Go.Proofs.YthmbfcfomcaaaaaW.PrintWords Go.Proofs.YthmbfcfomcaaaaaW.PrintLast Go.Proofs.YthmbfcfomcaaaaaW.PrintMore
attribute [local go_sem] max2_int min2_int max_two min_two max_three min_three max_four min_four
set_option linter.unusedVariables false
set_option linter.unusedSimpArgs false
mutual
def verdererref01_Text.l0 : Nat → ByteArray → ByteArray → Int → Option (Int)
  | 0,_,_,_ => none
  | k + 1,x0,x1,x5 => if x5 < (x0.size : Int) then (verdererref01_Text.j1 k x0 x1 x5 (decide (x5 < (x1.size : Int)))) else (verdererref01_Text.j1 k x0 x1 x5 false)
def verdererref01_Text.j1 : Nat → ByteArray → ByteArray → Int → Bool → Option (Int)
  | 0,_,_,_,_ => none
  | k + 1,x0,x1,x5,x15 => if x15 = true then (if 0 ≤ x5 then (if x5 < (x0.size : Int) then (if x5 < (x1.size : Int) then (if (bt x0 x5) < (bt x1 x5) then (some (-1)) else (if (bt x0 x5) > (bt x1 x5) then (some 1) else (verdererref01_Text.l0 k x0 x1 (wrap64 (x5 + 1))))) else (none)) else (none)) else (none)) else (if (x0.size : Int) < (x1.size : Int) then (some (-1)) else (if (x0.size : Int) > (x1.size : Int) then (some 1) else (some 0)))
end
def verdererref01_Text.f (k : Nat) (a0 : ByteArray) (a1 : ByteArray) : Option (Int) := verdererref01_Text.l0 k a0 a1 0
theorem verdererref01_Text.mono_l : ∀ k,(∀ y0 y1 y2,LeO (verdererref01_Text.l0 k y0 y1 y2) (verdererref01_Text.l0 (k + 1) y0 y1 y2)) ∧ (∀ y0 y1 y2 y3,LeO (verdererref01_Text.j1 k y0 y1 y2 y3) (verdererref01_Text.j1 (k + 1) y0 y1 y2 y3))
  | 0 => ⟨fun _ _ _ r h => by simp [verdererref01_Text.l0] at h,fun _ _ _ _ r h => by simp [verdererref01_Text.j1] at h⟩
  | k + 1 => by
    obtain ⟨ih0,ih1⟩ := verdererref01_Text.mono_l k
    refine ⟨?_,?_⟩
    · intro y0 y1 y2
      unfold verdererref01_Text.l0
      repeat' first
      | (with_reducible exact ih0 _ _ _)
      | (with_reducible exact ih1 _ _ _ _)
      | (with_reducible exact LeO.refl _)
      | (with_reducible exact LeO.none _)
      | (with_reducible refine LeO.ite ?_ ?_)
      | (with_reducible refine LeO.bind ?_ (fun _ => ?_))
      | exact ih0 _ _ _
      | exact ih1 _ _ _ _
      | exact LeO.none _
      | refine LeO.ite ?_ ?_
      | refine LeO.bind ?_ (fun _ => ?_)
    · intro y0 y1 y2 y3
      unfold verdererref01_Text.j1
      repeat' first
      | (with_reducible exact ih0 _ _ _)
      | (with_reducible exact ih1 _ _ _ _)
      | (with_reducible exact LeO.refl _)
      | (with_reducible exact LeO.none _)
      | (with_reducible refine LeO.ite ?_ ?_)
      | (with_reducible refine LeO.bind ?_ (fun _ => ?_))
      | exact ih0 _ _ _
      | exact ih1 _ _ _ _
      | exact LeO.none _
      | refine LeO.ite ?_ ?_
      | refine LeO.bind ?_ (fun _ => ?_)
theorem verdererref01_Text.mono : ∀ a0 a1 k,LeO (verdererref01_Text.f k a0 a1) (verdererref01_Text.f (k + 1) a0 a1) := by
  intro a0 a1 k
  obtain ⟨ih0,ih1⟩ := verdererref01_Text.mono_l k
  unfold verdererref01_Text.f
  repeat' first
      | (with_reducible exact ih0 _ _ _)
      | (with_reducible exact ih1 _ _ _ _)
      | (with_reducible exact LeO.refl _)
      | (with_reducible exact LeO.none _)
      | (with_reducible refine LeO.ite ?_ ?_)
      | (with_reducible refine LeO.bind ?_ (fun _ => ?_))
      | exact ih0 _ _ _
      | exact ih1 _ _ _ _
      | exact LeO.none _
      | refine LeO.ite ?_ ?_
      | refine LeO.bind ?_ (fun _ => ?_)
set_option maxHeartbeats 8000000 in
set_option maxRecDepth 100000 in
theorem verdererref01_Text.calls (k : Nat) (a0 : ByteArray) (a1 : ByteArray) (r : Int) (w : World) (h : verdererref01_Text.f k a0 a1 = some r) :
    Calls Try.prog 124 #[.string a0,.string a1] w fun e w' => e = .returned (.int .i64 r) ∧ Drawn0 w w' := by
  have H : (verdererref01_Text.l0 k a0 a1 0) = some r := h
  clear h
  have H' := Aside0.mk H
  clear H
  go_enter Try.func124,Try.ntmps124
  go_wp2
  repeat (go_quiet (fail);try go_wp2)
  go_loopg [5] k (fun kq v5 w' => ∃ (x5_1 : Int),v5 = .int .i64 x5_1 ∧ Aside0 (verdererref01_Text.l0 kq a0 a1 x5_1 = some r) ∧ Aside0 (kq ≤ k) ∧ Drawn0 w w')
  case atStart => exact ⟨(0),(by first | rfl | (simp;done) | (simp [*];done)),H',⟨Nat.le_refl _⟩,by repeat (first | exact Drawn0.refl _ | apply Drawn0.step)⟩
  case round =>
    clear H'
    try clear c1
    try clear p2
    obtain ⟨x5_1,rfl,HA,HK1,⟨m1,rfl⟩⟩ := hrel
    cases gk with
    | zero => exact absurd HA.out (by simp [verdererref01_Text.l0])
    | succ k1 =>
      have H := HA.out
      clear HA
      simp only [verdererref01_Text.l0] at H
      have HC3 := Aside0.mk H
      clear H
      go_upto_region 2 with (fail)
      repeat (go_quiet (fail);go_upto_region 2 with (fail))
      go_cut [15] (fun v15 wc => ∃ (kq : Nat) (x15_2 : Bool),v15 = .bool x15_2 ∧ Aside0 (verdererref01_Text.j1 kq a0 a1 x5_1 x15_2 = some r) ∧ Aside0 (kq ≤ k1) ∧ Drawn0 w wc)
      case first =>
        have H := HC3.out
        clear HC3
        by_cases c4 : x5_1 < (a0.size : Int)
        · rw [if_pos c4] at H
          have c4b0 : decide (x5_1 < (a0.size : Int)) = true := decide_eq_true c4
          clear c4
          (first | rw [c4b0] | (simp only [i64_w,i32_w];rw [c4b0]) | skip)
          have H' := Aside0.mk H
          clear H
          go_wp2
          repeat (go_quiet (fail);try go_wp2)
          go_meet
          case rel => exact ⟨_,(decide (x5_1 < (a1.size : Int))),(by first | rfl | (simp;done) | (simp [*];done)),H',⟨by have := HK1.out;first | omega | exact Nat.le_refl _⟩,by repeat (first | exact Drawn0.refl _ | apply Drawn0.step)⟩
        · rw [if_neg c4] at H
          have c4b0 : decide (x5_1 < (a0.size : Int)) = false := decide_eq_false c4
          clear c4
          (first | rw [c4b0] | (simp only [i64_w,i32_w];rw [c4b0]) | skip)
          have H' := Aside0.mk H
          clear H
          go_wp2
          repeat (go_quiet (fail);try go_wp2)
          go_meet
          case rel => exact ⟨_,(false),(by first | rfl | (simp;done) | (simp [*];done)),H',⟨by have := HK1.out;first | omega | exact Nat.le_refl _⟩,by repeat (first | exact Drawn0.refl _ | apply Drawn0.step)⟩
      case rest =>
        clear HC3
        try clear c1
        try clear p2
        try clear c4
        try clear c4b0
        try clear p2
        obtain ⟨kq,x15_2,rfl,HA,HJ2,⟨mc2,rfl⟩⟩ := hcut
        cases kq with
        | zero => exact absurd HA.out (by simp [verdererref01_Text.j1])
        | succ kj2 =>
          have H := HA.out
          clear HA
          simp only [verdererref01_Text.j1] at H
          by_cases c5 : x15_2 = true
          · subst c5
            have H1 : (if 0 ≤ x5_1 then (if x5_1 < (a0.size : Int) then (if x5_1 < (a1.size : Int) then (if (bt a0 x5_1) < (bt a1 x5_1) then (some (-1)) else (if (bt a0 x5_1) > (bt a1 x5_1) then (some 1) else (verdererref01_Text.l0 kj2 a0 a1 (wrap64 (x5_1 + 1))))) else (none)) else (none)) else (none)) = some r := by rw [if_pos rfl] at H;exact H
            clear H
            have H := H1
            clear H1
            by_cases c6 : 0 ≤ x5_1
            · rw [if_pos c6] at H
              have c6b0 : decide (0 ≤ x5_1) = true := decide_eq_true c6
              clear c6
              by_cases c7 : x5_1 < (a0.size : Int)
              · rw [if_pos c7] at H
                have c7b0 : decide (x5_1 < (a0.size : Int)) = true := decide_eq_true c7
                clear c7
                by_cases c9 : x5_1 < (a1.size : Int)
                · rw [if_pos c9] at H
                  have c9b0 : decide (x5_1 < (a1.size : Int)) = true := decide_eq_true c9
                  clear c9
                  by_cases c11 : (bt a0 x5_1) < (bt a1 x5_1)
                  · rw [if_pos c11] at H
                    have c11b0 : decide ((bt a0 x5_1) < (bt a1 x5_1)) = true := decide_eq_true c11
                    clear c11
                    obtain rfl := Option.some.inj H
                    have p8 : 0 ≤ (x5_1 : Int) := of_decide_eq_true (by first | (with_reducible assumption) | assumption)
                    have q8 : x5_1 < (a0.size : Int) := of_decide_eq_true (by first | (with_reducible assumption) | assumption)
                    have hx8 := bt_at a0 x5_1
                    replace p8 := eq_true p8
                    replace q8 := eq_true q8
                    have p10 : 0 ≤ (x5_1 : Int) := of_decide_eq_true (by first | (with_reducible assumption) | assumption)
                    have q10 : x5_1 < (a1.size : Int) := of_decide_eq_true (by first | (with_reducible assumption) | assumption)
                    have hx10 := bt_at a1 x5_1
                    replace p10 := eq_true p10
                    replace q10 := eq_true q10
                    go_wp2
                    repeat (go_quiet (fail);try go_wp2)
                    go_ret
                    exact ⟨by first | rfl | (simp;done) | (simp [*];done),by repeat (first | exact Drawn0.refl _ | apply Drawn0.step)⟩
                  · rw [if_neg c11] at H
                    have c11b0 : decide ((bt a0 x5_1) < (bt a1 x5_1)) = false := decide_eq_false c11
                    clear c11
                    by_cases c14 : (bt a0 x5_1) > (bt a1 x5_1)
                    · rw [if_pos c14] at H
                      have c14b0 : decide ((bt a1 x5_1) < (bt a0 x5_1)) = true := decide_eq_true c14
                      clear c14
                      obtain rfl := Option.some.inj H
                      have p8 : 0 ≤ (x5_1 : Int) := of_decide_eq_true (by first | (with_reducible assumption) | assumption)
                      have q8 : x5_1 < (a0.size : Int) := of_decide_eq_true (by first | (with_reducible assumption) | assumption)
                      have hx8 := bt_at a0 x5_1
                      replace p8 := eq_true p8
                      replace q8 := eq_true q8
                      have p10 : 0 ≤ (x5_1 : Int) := of_decide_eq_true (by first | (with_reducible assumption) | assumption)
                      have q10 : x5_1 < (a1.size : Int) := of_decide_eq_true (by first | (with_reducible assumption) | assumption)
                      have hx10 := bt_at a1 x5_1
                      replace p10 := eq_true p10
                      replace q10 := eq_true q10
                      have p12 : 0 ≤ (x5_1 : Int) := of_decide_eq_true (by first | (with_reducible assumption) | assumption)
                      have q12 : x5_1 < (a0.size : Int) := of_decide_eq_true (by first | (with_reducible assumption) | assumption)
                      have hx12 := bt_at a0 x5_1
                      replace p12 := eq_true p12
                      replace q12 := eq_true q12
                      have p13 : 0 ≤ (x5_1 : Int) := of_decide_eq_true (by first | (with_reducible assumption) | assumption)
                      have q13 : x5_1 < (a1.size : Int) := of_decide_eq_true (by first | (with_reducible assumption) | assumption)
                      have hx13 := bt_at a1 x5_1
                      replace p13 := eq_true p13
                      replace q13 := eq_true q13
                      go_wp2
                      repeat (go_quiet (fail);try go_wp2)
                      go_ret
                      exact ⟨by first | rfl | (simp;done) | (simp [*];done),by repeat (first | exact Drawn0.refl _ | apply Drawn0.step)⟩
                    · rw [if_neg c14] at H
                      have c14b0 : decide ((bt a1 x5_1) < (bt a0 x5_1)) = false := decide_eq_false c14
                      clear c14
                      have H' := Aside0.mk H
                      clear H
                      have p8 : 0 ≤ (x5_1 : Int) := of_decide_eq_true (by first | (with_reducible assumption) | assumption)
                      have q8 : x5_1 < (a0.size : Int) := of_decide_eq_true (by first | (with_reducible assumption) | assumption)
                      have hx8 := bt_at a0 x5_1
                      replace p8 := eq_true p8
                      replace q8 := eq_true q8
                      have p10 : 0 ≤ (x5_1 : Int) := of_decide_eq_true (by first | (with_reducible assumption) | assumption)
                      have q10 : x5_1 < (a1.size : Int) := of_decide_eq_true (by first | (with_reducible assumption) | assumption)
                      have hx10 := bt_at a1 x5_1
                      replace p10 := eq_true p10
                      replace q10 := eq_true q10
                      have p12 : 0 ≤ (x5_1 : Int) := of_decide_eq_true (by first | (with_reducible assumption) | assumption)
                      have q12 : x5_1 < (a0.size : Int) := of_decide_eq_true (by first | (with_reducible assumption) | assumption)
                      have hx12 := bt_at a0 x5_1
                      replace p12 := eq_true p12
                      replace q12 := eq_true q12
                      have p13 : 0 ≤ (x5_1 : Int) := of_decide_eq_true (by first | (with_reducible assumption) | assumption)
                      have q13 : x5_1 < (a1.size : Int) := of_decide_eq_true (by first | (with_reducible assumption) | assumption)
                      have hx13 := bt_at a1 x5_1
                      replace p13 := eq_true p13
                      replace q13 := eq_true q13
                      go_wp2
                      repeat (go_quiet (fail);try go_wp2)
                      go_roundg kj2
                      case measure => have := HK1.out;have := HJ2.out;omega
                      case rel => exact ⟨(wrap64 (x5_1 + 1)),(by first | rfl | (simp;done) | (simp [*];done)),H',⟨by have := HK1.out;have := HJ2.out;omega⟩,by repeat (first | exact Drawn0.refl _ | apply Drawn0.step)⟩
                · rw [if_neg c9] at H
                  exact absurd H (by simp)
              · rw [if_neg c7] at H
                exact absurd H (by simp)
            · rw [if_neg c6] at H
              exact absurd H (by simp)
          · replace c5 := Bool.eq_false_iff.mpr c5
            subst c5
            have H1 : (if (a0.size : Int) < (a1.size : Int) then (some (-1)) else (if (a0.size : Int) > (a1.size : Int) then (some 1) else (some 0))) = some r := by rw [if_neg (show ¬ (false = true) by decide)] at H;exact H
            clear H
            have H := H1
            clear H1
            by_cases c15 : (a0.size : Int) < (a1.size : Int)
            · rw [if_pos c15] at H
              have c15b0 : decide ((a0.size : Int) < (a1.size : Int)) = true := decide_eq_true c15
              have c15b1 : decide (a0.size < a1.size) = true := decide_eq_true (Int.ofNat_lt.mp c15)
              clear c15
              obtain rfl := Option.some.inj H
              go_wp2
              repeat (go_quiet (fail);try go_wp2)
              go_ret
              exact ⟨by first | rfl | (simp;done) | (simp [*];done),by repeat (first | exact Drawn0.refl _ | apply Drawn0.step)⟩
            · rw [if_neg c15] at H
              have c15b0 : decide ((a0.size : Int) < (a1.size : Int)) = false := decide_eq_false c15
              have c15b1 : decide (a0.size < a1.size) = false := decide_eq_false (fun h => c15 (Int.ofNat_lt.mpr h))
              clear c15
              by_cases c16 : (a0.size : Int) > (a1.size : Int)
              · rw [if_pos c16] at H
                have c16b0 : decide ((a1.size : Int) < (a0.size : Int)) = true := decide_eq_true c16
                have c16b1 : decide (a1.size < a0.size) = true := decide_eq_true (Int.ofNat_lt.mp c16)
                clear c16
                obtain rfl := Option.some.inj H
                go_wp2
                repeat (go_quiet (fail);try go_wp2)
                go_ret
                exact ⟨by first | rfl | (simp;done) | (simp [*];done),by repeat (first | exact Drawn0.refl _ | apply Drawn0.step)⟩
              · rw [if_neg c16] at H
                have c16b0 : decide ((a1.size : Int) < (a0.size : Int)) = false := decide_eq_false c16
                have c16b1 : decide (a1.size < a0.size) = false := decide_eq_false (fun h => c16 (Int.ofNat_lt.mpr h))
                clear c16
                obtain rfl := Option.some.inj H
                go_wp2
                repeat (go_quiet (fail);try go_wp2)
                go_ret
                exact ⟨by first | rfl | (simp;done) | (simp [*];done),by repeat (first | exact Drawn0.refl _ | apply Drawn0.step)⟩
end Go.Proofs.Ythmbfcfomcaaaaa.Z
end
section
namespace Go.Proofs.Ythmbfcfomcaaaaa.Z
open Go.RowKit Go.Proofs.YthmbfcfomcaaaaaW.PrintWords Go.Proofs.YthmbfcfomcaaaaaW.PrintLast Go.Proofs.YthmbfcfomcaaaaaW.PrintMore
attribute [local go_sem] max2_int min2_int max_two min_two max_three min_three max_four min_four
set_option linter.unusedVariables false
set_option linter.unusedSimpArgs false
def verdererref01_Compare.f (k : Nat) (a0_0 : Int) (a0_1 : Bool) (a0_2 : Int) (a0_3 : ByteArray) (a1_0 : Int) (a1_1 : Bool) (a1_2 : Int) (a1_3 : ByteArray) : Option (Int) := if a0_0 < a1_0 then (some (-1)) else (if a0_0 > a1_0 then (some 1) else (if a0_0 = 1 then (if (a0_1 == a1_1) = true then (some 0) else (if a1_1 = true then (some (-1)) else (some 1))) else (if a0_0 = 2 then (if a0_2 < a1_2 then (some (-1)) else (if a0_2 > a1_2 then (some 1) else (some 0))) else (if a0_0 = 3 then ((verdererref01_Text.f k a0_3 a1_3).bind fun t158 => (some t158)) else (some 0)))))
theorem verdererref01_Compare.mono : ∀ a0 a1 a2 a3 a4 a5 a6 a7 k,LeO (verdererref01_Compare.f k a0 a1 a2 a3 a4 a5 a6 a7) (verdererref01_Compare.f (k + 1) a0 a1 a2 a3 a4 a5 a6 a7) := by
  intro a0 a1 a2 a3 a4 a5 a6 a7 k
  unfold verdererref01_Compare.f
  repeat' first
      | (with_reducible exact verdererref01_Text.mono _ _ _)
      | (with_reducible exact LeO.refl _)
      | (with_reducible exact LeO.none _)
      | (with_reducible refine LeO.ite ?_ ?_)
      | (with_reducible refine LeO.bind ?_ (fun _ => ?_))
      | exact verdererref01_Text.mono _ _ _
      | exact LeO.none _
      | refine LeO.ite ?_ ?_
      | refine LeO.bind ?_ (fun _ => ?_)
set_option maxHeartbeats 8000000 in
set_option maxRecDepth 100000 in
theorem verdererref01_Compare.calls (k : Nat) (a0_0 : Int) (a0_1 : Bool) (a0_2 : Int) (a0_3 : ByteArray) (a1_0 : Int) (a1_1 : Bool) (a1_2 : Int) (a1_3 : ByteArray) (r : Int) (w : World) (h : verdererref01_Compare.f k a0_0 a0_1 a0_2 a0_3 a1_0 a1_1 a1_2 a1_3 = some r) :
    Calls Try.prog 116 #[.agg #[.int .i64 a0_0,.bool a0_1,.int .i64 a0_2,.string a0_3],.agg #[.int .i64 a1_0,.bool a1_1,.int .i64 a1_2,.string a1_3]] w fun e w' => e = .returned (.int .i64 r) ∧ Below w.heap.size w w' := by
  have hu66 := Try.underlying66
  have HB := Aside0.mk (Below.refl w.heap.size w)
  have H : (if a0_0 < a1_0 then (some (-1)) else (if a0_0 > a1_0 then (some 1) else (if a0_0 = 1 then (if (a0_1 == a1_1) = true then (some 0) else (if a1_1 = true then (some (-1)) else (some 1))) else (if a0_0 = 2 then (if a0_2 < a1_2 then (some (-1)) else (if a0_2 > a1_2 then (some 1) else (some 0))) else (if a0_0 = 3 then ((verdererref01_Text.f k a0_3 a1_3).bind fun t158 => (some t158)) else (some 0)))))) = some r := h
  clear h
  by_cases c3 : a0_0 < a1_0
  · rw [if_pos c3] at H
    have c3b0 : decide (a0_0 < a1_0) = true := decide_eq_true c3
    clear c3
    obtain rfl := Option.some.inj H
    go_enter Try.func116,Try.ntmps116
    go_wp2_with (first | ((with_reducible refine gate_dst (N := 2) rfl ?_);refine box_event ?hg (N := 2) ?hd (cs := #[.int .i64 a0_0,.bool a0_1,.int .i64 a0_2,.string a0_3]) (t := 66) ?hr ?_;(case hd => rfl);(case hg => rfl);(case hr => first | (go_simp;done) | (go_simp;rfl));intro gb156 hg w4 hbox hb;have n0_ := Aside0.mk (below_step (by repeat (first | (with_reducible first | exact HB.out | apply below_alloc | apply pw_below_drewN | apply below_drew1) | exact HB.out)) hb);have n1_ := Aside0.mk (hbox);have n2_ := Aside0.mk ((by rw [hg];exact (below_size (by repeat (first | (with_reducible first | exact HB.out | apply below_alloc | apply pw_below_drewN | apply below_drew1) | exact HB.out))) : w.heap.size ≤ gb156));have n3_ := Aside0.mk ((by rw [hg];exact (below_size (by repeat (first | (with_reducible first | exact HB.out | apply below_alloc | apply pw_below_drewN | apply below_drew1) | exact HB.out))) : w.heap.size ≤ gb156));clear HB;have HB := n0_;have BK156 := n1_;have GW156 := n2_;have GE156 := n3_;clear n0_ n1_ n2_ n3_;clear hb hbox hg) | ((with_reducible refine gate_dst (N := 3) rfl ?_);refine box_event ?hg (N := 3) ?hd (cs := #[.int .i64 a1_0,.bool a1_1,.int .i64 a1_2,.string a1_3]) (t := 66) ?hr ?_;(case hd => rfl);(case hg => rfl);(case hr => first | (go_simp;done) | (go_simp;rfl));intro gb157 hg w5 hbox hb;have n0_ := Aside0.mk (blk_below (g := gb156) (o := .cells #[.int .i64 a0_0,.bool a0_1,.int .i64 a0_2,.string a0_3] 66 (0,0)) (by (with_reducible repeat (first | refine blk_drewN ?_ _ | refine blk_drew ?_ | refine blk_alloc ?_ _));exact BK156.out) hb);have n1_ := Aside0.mk (below_step (by repeat (first | (with_reducible first | exact HB.out | apply below_alloc | apply pw_below_drewN | apply below_drew1 | refine below_set ?_ GE156.out) | exact HB.out)) hb);have n2_ := Aside0.mk (hbox);have n3_ := Aside0.mk ((by rw [hg];exact (below_size (by repeat (first | (with_reducible first | exact HB.out | apply below_alloc | apply pw_below_drewN | apply below_drew1 | refine below_set ?_ GE156.out) | exact HB.out))) : w.heap.size ≤ gb157));have n4_ := Aside0.mk ((by rw [hg];exact (below_size (by repeat (first | (with_reducible first | exact HB.out | apply below_alloc | apply pw_below_drewN | apply below_drew1 | refine below_set ?_ GE156.out) | exact HB.out))) : w.heap.size ≤ gb157));have n5_ := Aside0.mk ((by rw [hg];exact Nat.ne_of_lt (blk_lt (g := gb156) (o := .cells #[.int .i64 a0_0,.bool a0_1,.int .i64 a0_2,.string a0_3] 66 (0,0)) (by (with_reducible repeat (first | refine blk_drewN ?_ _ | refine blk_drew ?_ | refine blk_alloc ?_ _));exact BK156.out)) : gb156 ≠ gb157));have n6_ := Aside0.mk ((by rw [hg];exact Nat.ne_of_gt (blk_lt (g := gb156) (o := .cells #[.int .i64 a0_0,.bool a0_1,.int .i64 a0_2,.string a0_3] 66 (0,0)) (by (with_reducible repeat (first | refine blk_drewN ?_ _ | refine blk_drew ?_ | refine blk_alloc ?_ _));exact BK156.out)) : gb157 ≠ gb156));clear BK156;clear HB;have BK156 := n0_;have HB := n1_;have BK157 := n2_;have GW157 := n3_;have GE157 := n4_;have NB156_157 := n5_;have NB157_156 := n6_;clear n0_ n1_ n2_ n3_ n4_ n5_ n6_;clear hb hbox hg;have hnb6 := NB156_157.out;have hnc6 := NB157_156.out;have hcz7_0 : w5.cell? ⟨gb156,0,none⟩ = some (.int .i64 a0_0) := (blk_cell BK156.out 0).trans rfl;have hcz7_1 : w5.cell? ⟨gb156,1,none⟩ = some (.bool a0_1) := (blk_cell BK156.out 1).trans rfl;have hcz7_2 : w5.cell? ⟨gb156,2,none⟩ = some (.int .i64 a0_2) := (blk_cell BK156.out 2).trans rfl;have hcz7_3 : w5.cell? ⟨gb156,3,none⟩ = some (.string a0_3) := (blk_cell BK156.out 3).trans rfl;have hfz7_0 := blk_frozen BK156.out 0;have hfz7_1 := blk_frozen BK156.out 1;have hfz7_2 := blk_frozen BK156.out 2;have hfz7_3 := blk_frozen BK156.out 3;have hcz8_0 : w5.cell? ⟨gb157,0,none⟩ = some (.int .i64 a1_0) := (blk_cell BK157.out 0).trans rfl;have hcz8_1 : w5.cell? ⟨gb157,1,none⟩ = some (.bool a1_1) := (blk_cell BK157.out 1).trans rfl;have hcz8_2 : w5.cell? ⟨gb157,2,none⟩ = some (.int .i64 a1_2) := (blk_cell BK157.out 2).trans rfl;have hcz8_3 : w5.cell? ⟨gb157,3,none⟩ = some (.string a1_3) := (blk_cell BK157.out 3).trans rfl;have hfz8_0 := blk_frozen BK157.out 0;have hfz8_1 := blk_frozen BK157.out 1;have hfz8_2 := blk_frozen BK157.out 2;have hfz8_3 := blk_frozen BK157.out 3))
    go_ret
    exact ⟨by first | rfl | (simp [errW_none,errW_some] <;> rfl) | (simp [*,errW_none,errW_some] <;> rfl),by repeat (first | (with_reducible first | exact HB.out | apply below_alloc | apply pw_below_drewN | apply below_drew1 | refine below_set ?_ GE156.out | refine below_set ?_ GE157.out) | exact HB.out)⟩
  · rw [if_neg c3] at H
    have c3b0 : decide (a0_0 < a1_0) = false := decide_eq_false c3
    clear c3
    by_cases c9 : a0_0 > a1_0
    · rw [if_pos c9] at H
      have c9b0 : decide (a1_0 < a0_0) = true := decide_eq_true c9
      clear c9
      obtain rfl := Option.some.inj H
      go_enter Try.func116,Try.ntmps116
      go_wp2_with (first | ((with_reducible refine gate_dst (N := 2) rfl ?_);refine box_event ?hg (N := 2) ?hd (cs := #[.int .i64 a0_0,.bool a0_1,.int .i64 a0_2,.string a0_3]) (t := 66) ?hr ?_;(case hd => rfl);(case hg => rfl);(case hr => first | (go_simp;done) | (go_simp;rfl));intro gb156 hg w10 hbox hb;have n0_ := Aside0.mk (below_step (by repeat (first | (with_reducible first | exact HB.out | apply below_alloc | apply pw_below_drewN | apply below_drew1) | exact HB.out)) hb);have n1_ := Aside0.mk (hbox);have n2_ := Aside0.mk ((by rw [hg];exact (below_size (by repeat (first | (with_reducible first | exact HB.out | apply below_alloc | apply pw_below_drewN | apply below_drew1) | exact HB.out))) : w.heap.size ≤ gb156));have n3_ := Aside0.mk ((by rw [hg];exact (below_size (by repeat (first | (with_reducible first | exact HB.out | apply below_alloc | apply pw_below_drewN | apply below_drew1) | exact HB.out))) : w.heap.size ≤ gb156));clear HB;have HB := n0_;have BK156 := n1_;have GW156 := n2_;have GE156 := n3_;clear n0_ n1_ n2_ n3_;clear hb hbox hg) | ((with_reducible refine gate_dst (N := 3) rfl ?_);refine box_event ?hg (N := 3) ?hd (cs := #[.int .i64 a1_0,.bool a1_1,.int .i64 a1_2,.string a1_3]) (t := 66) ?hr ?_;(case hd => rfl);(case hg => rfl);(case hr => first | (go_simp;done) | (go_simp;rfl));intro gb157 hg w11 hbox hb;have n0_ := Aside0.mk (blk_below (g := gb156) (o := .cells #[.int .i64 a0_0,.bool a0_1,.int .i64 a0_2,.string a0_3] 66 (0,0)) (by (with_reducible repeat (first | refine blk_drewN ?_ _ | refine blk_drew ?_ | refine blk_alloc ?_ _));exact BK156.out) hb);have n1_ := Aside0.mk (below_step (by repeat (first | (with_reducible first | exact HB.out | apply below_alloc | apply pw_below_drewN | apply below_drew1 | refine below_set ?_ GE156.out) | exact HB.out)) hb);have n2_ := Aside0.mk (hbox);have n3_ := Aside0.mk ((by rw [hg];exact (below_size (by repeat (first | (with_reducible first | exact HB.out | apply below_alloc | apply pw_below_drewN | apply below_drew1 | refine below_set ?_ GE156.out) | exact HB.out))) : w.heap.size ≤ gb157));have n4_ := Aside0.mk ((by rw [hg];exact (below_size (by repeat (first | (with_reducible first | exact HB.out | apply below_alloc | apply pw_below_drewN | apply below_drew1 | refine below_set ?_ GE156.out) | exact HB.out))) : w.heap.size ≤ gb157));have n5_ := Aside0.mk ((by rw [hg];exact Nat.ne_of_lt (blk_lt (g := gb156) (o := .cells #[.int .i64 a0_0,.bool a0_1,.int .i64 a0_2,.string a0_3] 66 (0,0)) (by (with_reducible repeat (first | refine blk_drewN ?_ _ | refine blk_drew ?_ | refine blk_alloc ?_ _));exact BK156.out)) : gb156 ≠ gb157));have n6_ := Aside0.mk ((by rw [hg];exact Nat.ne_of_gt (blk_lt (g := gb156) (o := .cells #[.int .i64 a0_0,.bool a0_1,.int .i64 a0_2,.string a0_3] 66 (0,0)) (by (with_reducible repeat (first | refine blk_drewN ?_ _ | refine blk_drew ?_ | refine blk_alloc ?_ _));exact BK156.out)) : gb157 ≠ gb156));clear BK156;clear HB;have BK156 := n0_;have HB := n1_;have BK157 := n2_;have GW157 := n3_;have GE157 := n4_;have NB156_157 := n5_;have NB157_156 := n6_;clear n0_ n1_ n2_ n3_ n4_ n5_ n6_;clear hb hbox hg;have hnb12 := NB156_157.out;have hnc12 := NB157_156.out;have hcz13_0 : w11.cell? ⟨gb156,0,none⟩ = some (.int .i64 a0_0) := (blk_cell BK156.out 0).trans rfl;have hcz13_1 : w11.cell? ⟨gb156,1,none⟩ = some (.bool a0_1) := (blk_cell BK156.out 1).trans rfl;have hcz13_2 : w11.cell? ⟨gb156,2,none⟩ = some (.int .i64 a0_2) := (blk_cell BK156.out 2).trans rfl;have hcz13_3 : w11.cell? ⟨gb156,3,none⟩ = some (.string a0_3) := (blk_cell BK156.out 3).trans rfl;have hfz13_0 := blk_frozen BK156.out 0;have hfz13_1 := blk_frozen BK156.out 1;have hfz13_2 := blk_frozen BK156.out 2;have hfz13_3 := blk_frozen BK156.out 3;have hcz14_0 : w11.cell? ⟨gb157,0,none⟩ = some (.int .i64 a1_0) := (blk_cell BK157.out 0).trans rfl;have hcz14_1 : w11.cell? ⟨gb157,1,none⟩ = some (.bool a1_1) := (blk_cell BK157.out 1).trans rfl;have hcz14_2 : w11.cell? ⟨gb157,2,none⟩ = some (.int .i64 a1_2) := (blk_cell BK157.out 2).trans rfl;have hcz14_3 : w11.cell? ⟨gb157,3,none⟩ = some (.string a1_3) := (blk_cell BK157.out 3).trans rfl;have hfz14_0 := blk_frozen BK157.out 0;have hfz14_1 := blk_frozen BK157.out 1;have hfz14_2 := blk_frozen BK157.out 2;have hfz14_3 := blk_frozen BK157.out 3))
      go_ret
      exact ⟨by first | rfl | (simp [errW_none,errW_some] <;> rfl) | (simp [*,errW_none,errW_some] <;> rfl),by repeat (first | (with_reducible first | exact HB.out | apply below_alloc | apply pw_below_drewN | apply below_drew1 | refine below_set ?_ GE156.out | refine below_set ?_ GE157.out) | exact HB.out)⟩
    · rw [if_neg c9] at H
      have c9b0 : decide (a1_0 < a0_0) = false := decide_eq_false c9
      clear c9
      by_cases c15 : a0_0 = 1
      · rw [if_pos c15] at H
        have c15b0 : (a0_0 == 1) = true := beq_iff_eq.mpr c15
        have c15b1 : (a0_0 != 1) = false := bne_eq_false_iff_eq.mpr c15
        clear c15
        by_cases c16 : (a0_1 == a1_1) = true
        · rw [if_pos c16] at H
          have c16b0 : (a0_1 == a1_1) = true := c16
          (try (have c16b1 : decide (a0_1 = a1_1) = true := by simpa using c16))
          (try (have c16b2 : (a0_1 == a1_1) = true := by simpa using c16))
          clear c16
          obtain rfl := Option.some.inj H
          go_enter Try.func116,Try.ntmps116
          go_wp2_with (first | ((with_reducible refine gate_dst (N := 2) rfl ?_);refine box_event ?hg (N := 2) ?hd (cs := #[.int .i64 a0_0,.bool a0_1,.int .i64 a0_2,.string a0_3]) (t := 66) ?hr ?_;(case hd => rfl);(case hg => rfl);(case hr => first | (go_simp;done) | (go_simp;rfl));intro gb156 hg w17 hbox hb;have n0_ := Aside0.mk (below_step (by repeat (first | (with_reducible first | exact HB.out | apply below_alloc | apply pw_below_drewN | apply below_drew1) | exact HB.out)) hb);have n1_ := Aside0.mk (hbox);have n2_ := Aside0.mk ((by rw [hg];exact (below_size (by repeat (first | (with_reducible first | exact HB.out | apply below_alloc | apply pw_below_drewN | apply below_drew1) | exact HB.out))) : w.heap.size ≤ gb156));have n3_ := Aside0.mk ((by rw [hg];exact (below_size (by repeat (first | (with_reducible first | exact HB.out | apply below_alloc | apply pw_below_drewN | apply below_drew1) | exact HB.out))) : w.heap.size ≤ gb156));clear HB;have HB := n0_;have BK156 := n1_;have GW156 := n2_;have GE156 := n3_;clear n0_ n1_ n2_ n3_;clear hb hbox hg) | ((with_reducible refine gate_dst (N := 3) rfl ?_);refine box_event ?hg (N := 3) ?hd (cs := #[.int .i64 a1_0,.bool a1_1,.int .i64 a1_2,.string a1_3]) (t := 66) ?hr ?_;(case hd => rfl);(case hg => rfl);(case hr => first | (go_simp;done) | (go_simp;rfl));intro gb157 hg w18 hbox hb;have n0_ := Aside0.mk (blk_below (g := gb156) (o := .cells #[.int .i64 a0_0,.bool a0_1,.int .i64 a0_2,.string a0_3] 66 (0,0)) (by (with_reducible repeat (first | refine blk_drewN ?_ _ | refine blk_drew ?_ | refine blk_alloc ?_ _));exact BK156.out) hb);have n1_ := Aside0.mk (below_step (by repeat (first | (with_reducible first | exact HB.out | apply below_alloc | apply pw_below_drewN | apply below_drew1 | refine below_set ?_ GE156.out) | exact HB.out)) hb);have n2_ := Aside0.mk (hbox);have n3_ := Aside0.mk ((by rw [hg];exact (below_size (by repeat (first | (with_reducible first | exact HB.out | apply below_alloc | apply pw_below_drewN | apply below_drew1 | refine below_set ?_ GE156.out) | exact HB.out))) : w.heap.size ≤ gb157));have n4_ := Aside0.mk ((by rw [hg];exact (below_size (by repeat (first | (with_reducible first | exact HB.out | apply below_alloc | apply pw_below_drewN | apply below_drew1 | refine below_set ?_ GE156.out) | exact HB.out))) : w.heap.size ≤ gb157));have n5_ := Aside0.mk ((by rw [hg];exact Nat.ne_of_lt (blk_lt (g := gb156) (o := .cells #[.int .i64 a0_0,.bool a0_1,.int .i64 a0_2,.string a0_3] 66 (0,0)) (by (with_reducible repeat (first | refine blk_drewN ?_ _ | refine blk_drew ?_ | refine blk_alloc ?_ _));exact BK156.out)) : gb156 ≠ gb157));have n6_ := Aside0.mk ((by rw [hg];exact Nat.ne_of_gt (blk_lt (g := gb156) (o := .cells #[.int .i64 a0_0,.bool a0_1,.int .i64 a0_2,.string a0_3] 66 (0,0)) (by (with_reducible repeat (first | refine blk_drewN ?_ _ | refine blk_drew ?_ | refine blk_alloc ?_ _));exact BK156.out)) : gb157 ≠ gb156));clear BK156;clear HB;have BK156 := n0_;have HB := n1_;have BK157 := n2_;have GW157 := n3_;have GE157 := n4_;have NB156_157 := n5_;have NB157_156 := n6_;clear n0_ n1_ n2_ n3_ n4_ n5_ n6_;clear hb hbox hg;have hnb19 := NB156_157.out;have hnc19 := NB157_156.out;have hcz20_0 : w18.cell? ⟨gb156,0,none⟩ = some (.int .i64 a0_0) := (blk_cell BK156.out 0).trans rfl;have hcz20_1 : w18.cell? ⟨gb156,1,none⟩ = some (.bool a0_1) := (blk_cell BK156.out 1).trans rfl;have hcz20_2 : w18.cell? ⟨gb156,2,none⟩ = some (.int .i64 a0_2) := (blk_cell BK156.out 2).trans rfl;have hcz20_3 : w18.cell? ⟨gb156,3,none⟩ = some (.string a0_3) := (blk_cell BK156.out 3).trans rfl;have hfz20_0 := blk_frozen BK156.out 0;have hfz20_1 := blk_frozen BK156.out 1;have hfz20_2 := blk_frozen BK156.out 2;have hfz20_3 := blk_frozen BK156.out 3;have hcz21_0 : w18.cell? ⟨gb157,0,none⟩ = some (.int .i64 a1_0) := (blk_cell BK157.out 0).trans rfl;have hcz21_1 : w18.cell? ⟨gb157,1,none⟩ = some (.bool a1_1) := (blk_cell BK157.out 1).trans rfl;have hcz21_2 : w18.cell? ⟨gb157,2,none⟩ = some (.int .i64 a1_2) := (blk_cell BK157.out 2).trans rfl;have hcz21_3 : w18.cell? ⟨gb157,3,none⟩ = some (.string a1_3) := (blk_cell BK157.out 3).trans rfl;have hfz21_0 := blk_frozen BK157.out 0;have hfz21_1 := blk_frozen BK157.out 1;have hfz21_2 := blk_frozen BK157.out 2;have hfz21_3 := blk_frozen BK157.out 3))
          go_ret
          exact ⟨by first | rfl | (simp [errW_none,errW_some] <;> rfl) | (simp [*,errW_none,errW_some] <;> rfl),by repeat (first | (with_reducible first | exact HB.out | apply below_alloc | apply pw_below_drewN | apply below_drew1 | refine below_set ?_ GE156.out | refine below_set ?_ GE157.out) | exact HB.out)⟩
        · rw [if_neg c16] at H
          have c16b0 : (a0_1 == a1_1) = false := by simpa using c16
          (try (have c16b1 : decide (a0_1 = a1_1) = false := by simpa using c16))
          (try (have c16b2 : (a0_1 == a1_1) = false := by simpa using c16))
          (try (have c16b3 : ¬ (a0_1 = a1_1) := by simpa using c16))
          clear c16
          by_cases c22 : a1_1 = true
          · subst c22
            have H1 : (some (-1)) = some r := by rw [if_pos rfl] at H;exact H
            clear H
            have H := H1
            clear H1
            obtain rfl := Option.some.inj H
            go_enter Try.func116,Try.ntmps116
            go_wp2_with (first | ((with_reducible refine gate_dst (N := 2) rfl ?_);refine box_event ?hg (N := 2) ?hd (cs := #[.int .i64 a0_0,.bool a0_1,.int .i64 a0_2,.string a0_3]) (t := 66) ?hr ?_;(case hd => rfl);(case hg => rfl);(case hr => first | (go_simp;done) | (go_simp;rfl));intro gb156 hg w23 hbox hb;have n0_ := Aside0.mk (below_step (by repeat (first | (with_reducible first | exact HB.out | apply below_alloc | apply pw_below_drewN | apply below_drew1) | exact HB.out)) hb);have n1_ := Aside0.mk (hbox);have n2_ := Aside0.mk ((by rw [hg];exact (below_size (by repeat (first | (with_reducible first | exact HB.out | apply below_alloc | apply pw_below_drewN | apply below_drew1) | exact HB.out))) : w.heap.size ≤ gb156));have n3_ := Aside0.mk ((by rw [hg];exact (below_size (by repeat (first | (with_reducible first | exact HB.out | apply below_alloc | apply pw_below_drewN | apply below_drew1) | exact HB.out))) : w.heap.size ≤ gb156));clear HB;have HB := n0_;have BK156 := n1_;have GW156 := n2_;have GE156 := n3_;clear n0_ n1_ n2_ n3_;clear hb hbox hg) | ((with_reducible refine gate_dst (N := 3) rfl ?_);refine box_event ?hg (N := 3) ?hd (cs := #[.int .i64 a1_0,.bool true,.int .i64 a1_2,.string a1_3]) (t := 66) ?hr ?_;(case hd => rfl);(case hg => rfl);(case hr => first | (go_simp;done) | (go_simp;rfl));intro gb157 hg w24 hbox hb;have n0_ := Aside0.mk (blk_below (g := gb156) (o := .cells #[.int .i64 a0_0,.bool a0_1,.int .i64 a0_2,.string a0_3] 66 (0,0)) (by (with_reducible repeat (first | refine blk_drewN ?_ _ | refine blk_drew ?_ | refine blk_alloc ?_ _));exact BK156.out) hb);have n1_ := Aside0.mk (below_step (by repeat (first | (with_reducible first | exact HB.out | apply below_alloc | apply pw_below_drewN | apply below_drew1 | refine below_set ?_ GE156.out) | exact HB.out)) hb);have n2_ := Aside0.mk (hbox);have n3_ := Aside0.mk ((by rw [hg];exact (below_size (by repeat (first | (with_reducible first | exact HB.out | apply below_alloc | apply pw_below_drewN | apply below_drew1 | refine below_set ?_ GE156.out) | exact HB.out))) : w.heap.size ≤ gb157));have n4_ := Aside0.mk ((by rw [hg];exact (below_size (by repeat (first | (with_reducible first | exact HB.out | apply below_alloc | apply pw_below_drewN | apply below_drew1 | refine below_set ?_ GE156.out) | exact HB.out))) : w.heap.size ≤ gb157));have n5_ := Aside0.mk ((by rw [hg];exact Nat.ne_of_lt (blk_lt (g := gb156) (o := .cells #[.int .i64 a0_0,.bool a0_1,.int .i64 a0_2,.string a0_3] 66 (0,0)) (by (with_reducible repeat (first | refine blk_drewN ?_ _ | refine blk_drew ?_ | refine blk_alloc ?_ _));exact BK156.out)) : gb156 ≠ gb157));have n6_ := Aside0.mk ((by rw [hg];exact Nat.ne_of_gt (blk_lt (g := gb156) (o := .cells #[.int .i64 a0_0,.bool a0_1,.int .i64 a0_2,.string a0_3] 66 (0,0)) (by (with_reducible repeat (first | refine blk_drewN ?_ _ | refine blk_drew ?_ | refine blk_alloc ?_ _));exact BK156.out)) : gb157 ≠ gb156));clear BK156;clear HB;have BK156 := n0_;have HB := n1_;have BK157 := n2_;have GW157 := n3_;have GE157 := n4_;have NB156_157 := n5_;have NB157_156 := n6_;clear n0_ n1_ n2_ n3_ n4_ n5_ n6_;clear hb hbox hg;have hnb25 := NB156_157.out;have hnc25 := NB157_156.out;have hcz26_0 : w24.cell? ⟨gb156,0,none⟩ = some (.int .i64 a0_0) := (blk_cell BK156.out 0).trans rfl;have hcz26_1 : w24.cell? ⟨gb156,1,none⟩ = some (.bool a0_1) := (blk_cell BK156.out 1).trans rfl;have hcz26_2 : w24.cell? ⟨gb156,2,none⟩ = some (.int .i64 a0_2) := (blk_cell BK156.out 2).trans rfl;have hcz26_3 : w24.cell? ⟨gb156,3,none⟩ = some (.string a0_3) := (blk_cell BK156.out 3).trans rfl;have hfz26_0 := blk_frozen BK156.out 0;have hfz26_1 := blk_frozen BK156.out 1;have hfz26_2 := blk_frozen BK156.out 2;have hfz26_3 := blk_frozen BK156.out 3;have hcz27_0 : w24.cell? ⟨gb157,0,none⟩ = some (.int .i64 a1_0) := (blk_cell BK157.out 0).trans rfl;have hcz27_1 : w24.cell? ⟨gb157,1,none⟩ = some (.bool true) := (blk_cell BK157.out 1).trans rfl;have hcz27_2 : w24.cell? ⟨gb157,2,none⟩ = some (.int .i64 a1_2) := (blk_cell BK157.out 2).trans rfl;have hcz27_3 : w24.cell? ⟨gb157,3,none⟩ = some (.string a1_3) := (blk_cell BK157.out 3).trans rfl;have hfz27_0 := blk_frozen BK157.out 0;have hfz27_1 := blk_frozen BK157.out 1;have hfz27_2 := blk_frozen BK157.out 2;have hfz27_3 := blk_frozen BK157.out 3))
            go_ret
            exact ⟨by first | rfl | (simp [errW_none,errW_some] <;> rfl) | (simp [*,errW_none,errW_some] <;> rfl),by repeat (first | (with_reducible first | exact HB.out | apply below_alloc | apply pw_below_drewN | apply below_drew1 | refine below_set ?_ GE156.out | refine below_set ?_ GE157.out) | exact HB.out)⟩
          · replace c22 := Bool.eq_false_iff.mpr c22
            subst c22
            have H1 : (some 1) = some r := by rw [if_neg (show ¬ (false = true) by decide)] at H;exact H
            clear H
            have H := H1
            clear H1
            obtain rfl := Option.some.inj H
            go_enter Try.func116,Try.ntmps116
            go_wp2_with (first | ((with_reducible refine gate_dst (N := 2) rfl ?_);refine box_event ?hg (N := 2) ?hd (cs := #[.int .i64 a0_0,.bool a0_1,.int .i64 a0_2,.string a0_3]) (t := 66) ?hr ?_;(case hd => rfl);(case hg => rfl);(case hr => first | (go_simp;done) | (go_simp;rfl));intro gb156 hg w28 hbox hb;have n0_ := Aside0.mk (below_step (by repeat (first | (with_reducible first | exact HB.out | apply below_alloc | apply pw_below_drewN | apply below_drew1) | exact HB.out)) hb);have n1_ := Aside0.mk (hbox);have n2_ := Aside0.mk ((by rw [hg];exact (below_size (by repeat (first | (with_reducible first | exact HB.out | apply below_alloc | apply pw_below_drewN | apply below_drew1) | exact HB.out))) : w.heap.size ≤ gb156));have n3_ := Aside0.mk ((by rw [hg];exact (below_size (by repeat (first | (with_reducible first | exact HB.out | apply below_alloc | apply pw_below_drewN | apply below_drew1) | exact HB.out))) : w.heap.size ≤ gb156));clear HB;have HB := n0_;have BK156 := n1_;have GW156 := n2_;have GE156 := n3_;clear n0_ n1_ n2_ n3_;clear hb hbox hg) | ((with_reducible refine gate_dst (N := 3) rfl ?_);refine box_event ?hg (N := 3) ?hd (cs := #[.int .i64 a1_0,.bool false,.int .i64 a1_2,.string a1_3]) (t := 66) ?hr ?_;(case hd => rfl);(case hg => rfl);(case hr => first | (go_simp;done) | (go_simp;rfl));intro gb157 hg w29 hbox hb;have n0_ := Aside0.mk (blk_below (g := gb156) (o := .cells #[.int .i64 a0_0,.bool a0_1,.int .i64 a0_2,.string a0_3] 66 (0,0)) (by (with_reducible repeat (first | refine blk_drewN ?_ _ | refine blk_drew ?_ | refine blk_alloc ?_ _));exact BK156.out) hb);have n1_ := Aside0.mk (below_step (by repeat (first | (with_reducible first | exact HB.out | apply below_alloc | apply pw_below_drewN | apply below_drew1 | refine below_set ?_ GE156.out) | exact HB.out)) hb);have n2_ := Aside0.mk (hbox);have n3_ := Aside0.mk ((by rw [hg];exact (below_size (by repeat (first | (with_reducible first | exact HB.out | apply below_alloc | apply pw_below_drewN | apply below_drew1 | refine below_set ?_ GE156.out) | exact HB.out))) : w.heap.size ≤ gb157));have n4_ := Aside0.mk ((by rw [hg];exact (below_size (by repeat (first | (with_reducible first | exact HB.out | apply below_alloc | apply pw_below_drewN | apply below_drew1 | refine below_set ?_ GE156.out) | exact HB.out))) : w.heap.size ≤ gb157));have n5_ := Aside0.mk ((by rw [hg];exact Nat.ne_of_lt (blk_lt (g := gb156) (o := .cells #[.int .i64 a0_0,.bool a0_1,.int .i64 a0_2,.string a0_3] 66 (0,0)) (by (with_reducible repeat (first | refine blk_drewN ?_ _ | refine blk_drew ?_ | refine blk_alloc ?_ _));exact BK156.out)) : gb156 ≠ gb157));have n6_ := Aside0.mk ((by rw [hg];exact Nat.ne_of_gt (blk_lt (g := gb156) (o := .cells #[.int .i64 a0_0,.bool a0_1,.int .i64 a0_2,.string a0_3] 66 (0,0)) (by (with_reducible repeat (first | refine blk_drewN ?_ _ | refine blk_drew ?_ | refine blk_alloc ?_ _));exact BK156.out)) : gb157 ≠ gb156));clear BK156;clear HB;have BK156 := n0_;have HB := n1_;have BK157 := n2_;have GW157 := n3_;have GE157 := n4_;have NB156_157 := n5_;have NB157_156 := n6_;clear n0_ n1_ n2_ n3_ n4_ n5_ n6_;clear hb hbox hg;have hnb30 := NB156_157.out;have hnc30 := NB157_156.out;have hcz31_0 : w29.cell? ⟨gb156,0,none⟩ = some (.int .i64 a0_0) := (blk_cell BK156.out 0).trans rfl;have hcz31_1 : w29.cell? ⟨gb156,1,none⟩ = some (.bool a0_1) := (blk_cell BK156.out 1).trans rfl;have hcz31_2 : w29.cell? ⟨gb156,2,none⟩ = some (.int .i64 a0_2) := (blk_cell BK156.out 2).trans rfl;have hcz31_3 : w29.cell? ⟨gb156,3,none⟩ = some (.string a0_3) := (blk_cell BK156.out 3).trans rfl;have hfz31_0 := blk_frozen BK156.out 0;have hfz31_1 := blk_frozen BK156.out 1;have hfz31_2 := blk_frozen BK156.out 2;have hfz31_3 := blk_frozen BK156.out 3;have hcz32_0 : w29.cell? ⟨gb157,0,none⟩ = some (.int .i64 a1_0) := (blk_cell BK157.out 0).trans rfl;have hcz32_1 : w29.cell? ⟨gb157,1,none⟩ = some (.bool false) := (blk_cell BK157.out 1).trans rfl;have hcz32_2 : w29.cell? ⟨gb157,2,none⟩ = some (.int .i64 a1_2) := (blk_cell BK157.out 2).trans rfl;have hcz32_3 : w29.cell? ⟨gb157,3,none⟩ = some (.string a1_3) := (blk_cell BK157.out 3).trans rfl;have hfz32_0 := blk_frozen BK157.out 0;have hfz32_1 := blk_frozen BK157.out 1;have hfz32_2 := blk_frozen BK157.out 2;have hfz32_3 := blk_frozen BK157.out 3))
            go_ret
            exact ⟨by first | rfl | (simp [errW_none,errW_some] <;> rfl) | (simp [*,errW_none,errW_some] <;> rfl),by repeat (first | (with_reducible first | exact HB.out | apply below_alloc | apply pw_below_drewN | apply below_drew1 | refine below_set ?_ GE156.out | refine below_set ?_ GE157.out) | exact HB.out)⟩
      · rw [if_neg c15] at H
        have c15b0 : (a0_0 == 1) = false := beq_eq_false_iff_ne.mpr c15
        have c15b1 : (a0_0 != 1) = true := bne_iff_ne.mpr c15
        by_cases c33 : a0_0 = 2
        · rw [if_pos c33] at H
          have c33b0 : (a0_0 == 2) = true := beq_iff_eq.mpr c33
          have c33b1 : (a0_0 != 2) = false := bne_eq_false_iff_eq.mpr c33
          clear c33
          by_cases c34 : a0_2 < a1_2
          · rw [if_pos c34] at H
            have c34b0 : decide (a0_2 < a1_2) = true := decide_eq_true c34
            clear c34
            obtain rfl := Option.some.inj H
            go_enter Try.func116,Try.ntmps116
            go_wp2_with (first | ((with_reducible refine gate_dst (N := 2) rfl ?_);refine box_event ?hg (N := 2) ?hd (cs := #[.int .i64 a0_0,.bool a0_1,.int .i64 a0_2,.string a0_3]) (t := 66) ?hr ?_;(case hd => rfl);(case hg => rfl);(case hr => first | (go_simp;done) | (go_simp;rfl));intro gb156 hg w35 hbox hb;have n0_ := Aside0.mk (below_step (by repeat (first | (with_reducible first | exact HB.out | apply below_alloc | apply pw_below_drewN | apply below_drew1) | exact HB.out)) hb);have n1_ := Aside0.mk (hbox);have n2_ := Aside0.mk ((by rw [hg];exact (below_size (by repeat (first | (with_reducible first | exact HB.out | apply below_alloc | apply pw_below_drewN | apply below_drew1) | exact HB.out))) : w.heap.size ≤ gb156));have n3_ := Aside0.mk ((by rw [hg];exact (below_size (by repeat (first | (with_reducible first | exact HB.out | apply below_alloc | apply pw_below_drewN | apply below_drew1) | exact HB.out))) : w.heap.size ≤ gb156));clear HB;have HB := n0_;have BK156 := n1_;have GW156 := n2_;have GE156 := n3_;clear n0_ n1_ n2_ n3_;clear hb hbox hg) | ((with_reducible refine gate_dst (N := 3) rfl ?_);refine box_event ?hg (N := 3) ?hd (cs := #[.int .i64 a1_0,.bool a1_1,.int .i64 a1_2,.string a1_3]) (t := 66) ?hr ?_;(case hd => rfl);(case hg => rfl);(case hr => first | (go_simp;done) | (go_simp;rfl));intro gb157 hg w36 hbox hb;have n0_ := Aside0.mk (blk_below (g := gb156) (o := .cells #[.int .i64 a0_0,.bool a0_1,.int .i64 a0_2,.string a0_3] 66 (0,0)) (by (with_reducible repeat (first | refine blk_drewN ?_ _ | refine blk_drew ?_ | refine blk_alloc ?_ _));exact BK156.out) hb);have n1_ := Aside0.mk (below_step (by repeat (first | (with_reducible first | exact HB.out | apply below_alloc | apply pw_below_drewN | apply below_drew1 | refine below_set ?_ GE156.out) | exact HB.out)) hb);have n2_ := Aside0.mk (hbox);have n3_ := Aside0.mk ((by rw [hg];exact (below_size (by repeat (first | (with_reducible first | exact HB.out | apply below_alloc | apply pw_below_drewN | apply below_drew1 | refine below_set ?_ GE156.out) | exact HB.out))) : w.heap.size ≤ gb157));have n4_ := Aside0.mk ((by rw [hg];exact (below_size (by repeat (first | (with_reducible first | exact HB.out | apply below_alloc | apply pw_below_drewN | apply below_drew1 | refine below_set ?_ GE156.out) | exact HB.out))) : w.heap.size ≤ gb157));have n5_ := Aside0.mk ((by rw [hg];exact Nat.ne_of_lt (blk_lt (g := gb156) (o := .cells #[.int .i64 a0_0,.bool a0_1,.int .i64 a0_2,.string a0_3] 66 (0,0)) (by (with_reducible repeat (first | refine blk_drewN ?_ _ | refine blk_drew ?_ | refine blk_alloc ?_ _));exact BK156.out)) : gb156 ≠ gb157));have n6_ := Aside0.mk ((by rw [hg];exact Nat.ne_of_gt (blk_lt (g := gb156) (o := .cells #[.int .i64 a0_0,.bool a0_1,.int .i64 a0_2,.string a0_3] 66 (0,0)) (by (with_reducible repeat (first | refine blk_drewN ?_ _ | refine blk_drew ?_ | refine blk_alloc ?_ _));exact BK156.out)) : gb157 ≠ gb156));clear BK156;clear HB;have BK156 := n0_;have HB := n1_;have BK157 := n2_;have GW157 := n3_;have GE157 := n4_;have NB156_157 := n5_;have NB157_156 := n6_;clear n0_ n1_ n2_ n3_ n4_ n5_ n6_;clear hb hbox hg;have hnb37 := NB156_157.out;have hnc37 := NB157_156.out;have hcz38_0 : w36.cell? ⟨gb156,0,none⟩ = some (.int .i64 a0_0) := (blk_cell BK156.out 0).trans rfl;have hcz38_1 : w36.cell? ⟨gb156,1,none⟩ = some (.bool a0_1) := (blk_cell BK156.out 1).trans rfl;have hcz38_2 : w36.cell? ⟨gb156,2,none⟩ = some (.int .i64 a0_2) := (blk_cell BK156.out 2).trans rfl;have hcz38_3 : w36.cell? ⟨gb156,3,none⟩ = some (.string a0_3) := (blk_cell BK156.out 3).trans rfl;have hfz38_0 := blk_frozen BK156.out 0;have hfz38_1 := blk_frozen BK156.out 1;have hfz38_2 := blk_frozen BK156.out 2;have hfz38_3 := blk_frozen BK156.out 3;have hcz39_0 : w36.cell? ⟨gb157,0,none⟩ = some (.int .i64 a1_0) := (blk_cell BK157.out 0).trans rfl;have hcz39_1 : w36.cell? ⟨gb157,1,none⟩ = some (.bool a1_1) := (blk_cell BK157.out 1).trans rfl;have hcz39_2 : w36.cell? ⟨gb157,2,none⟩ = some (.int .i64 a1_2) := (blk_cell BK157.out 2).trans rfl;have hcz39_3 : w36.cell? ⟨gb157,3,none⟩ = some (.string a1_3) := (blk_cell BK157.out 3).trans rfl;have hfz39_0 := blk_frozen BK157.out 0;have hfz39_1 := blk_frozen BK157.out 1;have hfz39_2 := blk_frozen BK157.out 2;have hfz39_3 := blk_frozen BK157.out 3))
            go_ret
            exact ⟨by first | rfl | (simp [errW_none,errW_some] <;> rfl) | (simp [*,errW_none,errW_some] <;> rfl),by repeat (first | (with_reducible first | exact HB.out | apply below_alloc | apply pw_below_drewN | apply below_drew1 | refine below_set ?_ GE156.out | refine below_set ?_ GE157.out) | exact HB.out)⟩
          · rw [if_neg c34] at H
            have c34b0 : decide (a0_2 < a1_2) = false := decide_eq_false c34
            clear c34
            by_cases c40 : a0_2 > a1_2
            · rw [if_pos c40] at H
              have c40b0 : decide (a1_2 < a0_2) = true := decide_eq_true c40
              clear c40
              obtain rfl := Option.some.inj H
              go_enter Try.func116,Try.ntmps116
              go_wp2_with (first | ((with_reducible refine gate_dst (N := 2) rfl ?_);refine box_event ?hg (N := 2) ?hd (cs := #[.int .i64 a0_0,.bool a0_1,.int .i64 a0_2,.string a0_3]) (t := 66) ?hr ?_;(case hd => rfl);(case hg => rfl);(case hr => first | (go_simp;done) | (go_simp;rfl));intro gb156 hg w41 hbox hb;have n0_ := Aside0.mk (below_step (by repeat (first | (with_reducible first | exact HB.out | apply below_alloc | apply pw_below_drewN | apply below_drew1) | exact HB.out)) hb);have n1_ := Aside0.mk (hbox);have n2_ := Aside0.mk ((by rw [hg];exact (below_size (by repeat (first | (with_reducible first | exact HB.out | apply below_alloc | apply pw_below_drewN | apply below_drew1) | exact HB.out))) : w.heap.size ≤ gb156));have n3_ := Aside0.mk ((by rw [hg];exact (below_size (by repeat (first | (with_reducible first | exact HB.out | apply below_alloc | apply pw_below_drewN | apply below_drew1) | exact HB.out))) : w.heap.size ≤ gb156));clear HB;have HB := n0_;have BK156 := n1_;have GW156 := n2_;have GE156 := n3_;clear n0_ n1_ n2_ n3_;clear hb hbox hg) | ((with_reducible refine gate_dst (N := 3) rfl ?_);refine box_event ?hg (N := 3) ?hd (cs := #[.int .i64 a1_0,.bool a1_1,.int .i64 a1_2,.string a1_3]) (t := 66) ?hr ?_;(case hd => rfl);(case hg => rfl);(case hr => first | (go_simp;done) | (go_simp;rfl));intro gb157 hg w42 hbox hb;have n0_ := Aside0.mk (blk_below (g := gb156) (o := .cells #[.int .i64 a0_0,.bool a0_1,.int .i64 a0_2,.string a0_3] 66 (0,0)) (by (with_reducible repeat (first | refine blk_drewN ?_ _ | refine blk_drew ?_ | refine blk_alloc ?_ _));exact BK156.out) hb);have n1_ := Aside0.mk (below_step (by repeat (first | (with_reducible first | exact HB.out | apply below_alloc | apply pw_below_drewN | apply below_drew1 | refine below_set ?_ GE156.out) | exact HB.out)) hb);have n2_ := Aside0.mk (hbox);have n3_ := Aside0.mk ((by rw [hg];exact (below_size (by repeat (first | (with_reducible first | exact HB.out | apply below_alloc | apply pw_below_drewN | apply below_drew1 | refine below_set ?_ GE156.out) | exact HB.out))) : w.heap.size ≤ gb157));have n4_ := Aside0.mk ((by rw [hg];exact (below_size (by repeat (first | (with_reducible first | exact HB.out | apply below_alloc | apply pw_below_drewN | apply below_drew1 | refine below_set ?_ GE156.out) | exact HB.out))) : w.heap.size ≤ gb157));have n5_ := Aside0.mk ((by rw [hg];exact Nat.ne_of_lt (blk_lt (g := gb156) (o := .cells #[.int .i64 a0_0,.bool a0_1,.int .i64 a0_2,.string a0_3] 66 (0,0)) (by (with_reducible repeat (first | refine blk_drewN ?_ _ | refine blk_drew ?_ | refine blk_alloc ?_ _));exact BK156.out)) : gb156 ≠ gb157));have n6_ := Aside0.mk ((by rw [hg];exact Nat.ne_of_gt (blk_lt (g := gb156) (o := .cells #[.int .i64 a0_0,.bool a0_1,.int .i64 a0_2,.string a0_3] 66 (0,0)) (by (with_reducible repeat (first | refine blk_drewN ?_ _ | refine blk_drew ?_ | refine blk_alloc ?_ _));exact BK156.out)) : gb157 ≠ gb156));clear BK156;clear HB;have BK156 := n0_;have HB := n1_;have BK157 := n2_;have GW157 := n3_;have GE157 := n4_;have NB156_157 := n5_;have NB157_156 := n6_;clear n0_ n1_ n2_ n3_ n4_ n5_ n6_;clear hb hbox hg;have hnb43 := NB156_157.out;have hnc43 := NB157_156.out;have hcz44_0 : w42.cell? ⟨gb156,0,none⟩ = some (.int .i64 a0_0) := (blk_cell BK156.out 0).trans rfl;have hcz44_1 : w42.cell? ⟨gb156,1,none⟩ = some (.bool a0_1) := (blk_cell BK156.out 1).trans rfl;have hcz44_2 : w42.cell? ⟨gb156,2,none⟩ = some (.int .i64 a0_2) := (blk_cell BK156.out 2).trans rfl;have hcz44_3 : w42.cell? ⟨gb156,3,none⟩ = some (.string a0_3) := (blk_cell BK156.out 3).trans rfl;have hfz44_0 := blk_frozen BK156.out 0;have hfz44_1 := blk_frozen BK156.out 1;have hfz44_2 := blk_frozen BK156.out 2;have hfz44_3 := blk_frozen BK156.out 3;have hcz45_0 : w42.cell? ⟨gb157,0,none⟩ = some (.int .i64 a1_0) := (blk_cell BK157.out 0).trans rfl;have hcz45_1 : w42.cell? ⟨gb157,1,none⟩ = some (.bool a1_1) := (blk_cell BK157.out 1).trans rfl;have hcz45_2 : w42.cell? ⟨gb157,2,none⟩ = some (.int .i64 a1_2) := (blk_cell BK157.out 2).trans rfl;have hcz45_3 : w42.cell? ⟨gb157,3,none⟩ = some (.string a1_3) := (blk_cell BK157.out 3).trans rfl;have hfz45_0 := blk_frozen BK157.out 0;have hfz45_1 := blk_frozen BK157.out 1;have hfz45_2 := blk_frozen BK157.out 2;have hfz45_3 := blk_frozen BK157.out 3))
              go_ret
              exact ⟨by first | rfl | (simp [errW_none,errW_some] <;> rfl) | (simp [*,errW_none,errW_some] <;> rfl),by repeat (first | (with_reducible first | exact HB.out | apply below_alloc | apply pw_below_drewN | apply below_drew1 | refine below_set ?_ GE156.out | refine below_set ?_ GE157.out) | exact HB.out)⟩
            · rw [if_neg c40] at H
              have c40b0 : decide (a1_2 < a0_2) = false := decide_eq_false c40
              clear c40
              obtain rfl := Option.some.inj H
              go_enter Try.func116,Try.ntmps116
              go_wp2_with (first | ((with_reducible refine gate_dst (N := 2) rfl ?_);refine box_event ?hg (N := 2) ?hd (cs := #[.int .i64 a0_0,.bool a0_1,.int .i64 a0_2,.string a0_3]) (t := 66) ?hr ?_;(case hd => rfl);(case hg => rfl);(case hr => first | (go_simp;done) | (go_simp;rfl));intro gb156 hg w46 hbox hb;have n0_ := Aside0.mk (below_step (by repeat (first | (with_reducible first | exact HB.out | apply below_alloc | apply pw_below_drewN | apply below_drew1) | exact HB.out)) hb);have n1_ := Aside0.mk (hbox);have n2_ := Aside0.mk ((by rw [hg];exact (below_size (by repeat (first | (with_reducible first | exact HB.out | apply below_alloc | apply pw_below_drewN | apply below_drew1) | exact HB.out))) : w.heap.size ≤ gb156));have n3_ := Aside0.mk ((by rw [hg];exact (below_size (by repeat (first | (with_reducible first | exact HB.out | apply below_alloc | apply pw_below_drewN | apply below_drew1) | exact HB.out))) : w.heap.size ≤ gb156));clear HB;have HB := n0_;have BK156 := n1_;have GW156 := n2_;have GE156 := n3_;clear n0_ n1_ n2_ n3_;clear hb hbox hg) | ((with_reducible refine gate_dst (N := 3) rfl ?_);refine box_event ?hg (N := 3) ?hd (cs := #[.int .i64 a1_0,.bool a1_1,.int .i64 a1_2,.string a1_3]) (t := 66) ?hr ?_;(case hd => rfl);(case hg => rfl);(case hr => first | (go_simp;done) | (go_simp;rfl));intro gb157 hg w47 hbox hb;have n0_ := Aside0.mk (blk_below (g := gb156) (o := .cells #[.int .i64 a0_0,.bool a0_1,.int .i64 a0_2,.string a0_3] 66 (0,0)) (by (with_reducible repeat (first | refine blk_drewN ?_ _ | refine blk_drew ?_ | refine blk_alloc ?_ _));exact BK156.out) hb);have n1_ := Aside0.mk (below_step (by repeat (first | (with_reducible first | exact HB.out | apply below_alloc | apply pw_below_drewN | apply below_drew1 | refine below_set ?_ GE156.out) | exact HB.out)) hb);have n2_ := Aside0.mk (hbox);have n3_ := Aside0.mk ((by rw [hg];exact (below_size (by repeat (first | (with_reducible first | exact HB.out | apply below_alloc | apply pw_below_drewN | apply below_drew1 | refine below_set ?_ GE156.out) | exact HB.out))) : w.heap.size ≤ gb157));have n4_ := Aside0.mk ((by rw [hg];exact (below_size (by repeat (first | (with_reducible first | exact HB.out | apply below_alloc | apply pw_below_drewN | apply below_drew1 | refine below_set ?_ GE156.out) | exact HB.out))) : w.heap.size ≤ gb157));have n5_ := Aside0.mk ((by rw [hg];exact Nat.ne_of_lt (blk_lt (g := gb156) (o := .cells #[.int .i64 a0_0,.bool a0_1,.int .i64 a0_2,.string a0_3] 66 (0,0)) (by (with_reducible repeat (first | refine blk_drewN ?_ _ | refine blk_drew ?_ | refine blk_alloc ?_ _));exact BK156.out)) : gb156 ≠ gb157));have n6_ := Aside0.mk ((by rw [hg];exact Nat.ne_of_gt (blk_lt (g := gb156) (o := .cells #[.int .i64 a0_0,.bool a0_1,.int .i64 a0_2,.string a0_3] 66 (0,0)) (by (with_reducible repeat (first | refine blk_drewN ?_ _ | refine blk_drew ?_ | refine blk_alloc ?_ _));exact BK156.out)) : gb157 ≠ gb156));clear BK156;clear HB;have BK156 := n0_;have HB := n1_;have BK157 := n2_;have GW157 := n3_;have GE157 := n4_;have NB156_157 := n5_;have NB157_156 := n6_;clear n0_ n1_ n2_ n3_ n4_ n5_ n6_;clear hb hbox hg;have hnb48 := NB156_157.out;have hnc48 := NB157_156.out;have hcz49_0 : w47.cell? ⟨gb156,0,none⟩ = some (.int .i64 a0_0) := (blk_cell BK156.out 0).trans rfl;have hcz49_1 : w47.cell? ⟨gb156,1,none⟩ = some (.bool a0_1) := (blk_cell BK156.out 1).trans rfl;have hcz49_2 : w47.cell? ⟨gb156,2,none⟩ = some (.int .i64 a0_2) := (blk_cell BK156.out 2).trans rfl;have hcz49_3 : w47.cell? ⟨gb156,3,none⟩ = some (.string a0_3) := (blk_cell BK156.out 3).trans rfl;have hfz49_0 := blk_frozen BK156.out 0;have hfz49_1 := blk_frozen BK156.out 1;have hfz49_2 := blk_frozen BK156.out 2;have hfz49_3 := blk_frozen BK156.out 3;have hcz50_0 : w47.cell? ⟨gb157,0,none⟩ = some (.int .i64 a1_0) := (blk_cell BK157.out 0).trans rfl;have hcz50_1 : w47.cell? ⟨gb157,1,none⟩ = some (.bool a1_1) := (blk_cell BK157.out 1).trans rfl;have hcz50_2 : w47.cell? ⟨gb157,2,none⟩ = some (.int .i64 a1_2) := (blk_cell BK157.out 2).trans rfl;have hcz50_3 : w47.cell? ⟨gb157,3,none⟩ = some (.string a1_3) := (blk_cell BK157.out 3).trans rfl;have hfz50_0 := blk_frozen BK157.out 0;have hfz50_1 := blk_frozen BK157.out 1;have hfz50_2 := blk_frozen BK157.out 2;have hfz50_3 := blk_frozen BK157.out 3))
              go_ret
              exact ⟨by first | rfl | (simp [errW_none,errW_some] <;> rfl) | (simp [*,errW_none,errW_some] <;> rfl),by repeat (first | (with_reducible first | exact HB.out | apply below_alloc | apply pw_below_drewN | apply below_drew1 | refine below_set ?_ GE156.out | refine below_set ?_ GE157.out) | exact HB.out)⟩
        · rw [if_neg c33] at H
          have c33b0 : (a0_0 == 2) = false := beq_eq_false_iff_ne.mpr c33
          have c33b1 : (a0_0 != 2) = true := bne_iff_ne.mpr c33
          by_cases c51 : a0_0 = 3
          · rw [if_pos c51] at H
            have c51b0 : (a0_0 == 3) = true := beq_iff_eq.mpr c51
            have c51b1 : (a0_0 != 3) = false := bne_eq_false_iff_eq.mpr c51
            clear c51
            replace H := Option.bind_eq_some_iff.mp H
            obtain ⟨t158,A520,H⟩ := H
            replace H : (some t158) = some r := H
            have A52 := Aside0.mk A520
            clear A520
            obtain rfl := Option.some.inj H
            go_enter Try.func116,Try.ntmps116
            go_wp2_with (first | ((with_reducible refine gate_dst (N := 2) rfl ?_);refine box_event ?hg (N := 2) ?hd (cs := #[.int .i64 a0_0,.bool a0_1,.int .i64 a0_2,.string a0_3]) (t := 66) ?hr ?_;(case hd => rfl);(case hg => rfl);(case hr => first | (go_simp;done) | (go_simp;rfl));intro gb156 hg w53 hbox hb;have n0_ := Aside0.mk (below_step (by repeat (first | (with_reducible first | exact HB.out | apply below_alloc | apply pw_below_drewN | apply below_drew1) | exact HB.out)) hb);have n1_ := Aside0.mk (hbox);have n2_ := Aside0.mk ((by rw [hg];exact (below_size (by repeat (first | (with_reducible first | exact HB.out | apply below_alloc | apply pw_below_drewN | apply below_drew1) | exact HB.out))) : w.heap.size ≤ gb156));have n3_ := Aside0.mk ((by rw [hg];exact (below_size (by repeat (first | (with_reducible first | exact HB.out | apply below_alloc | apply pw_below_drewN | apply below_drew1) | exact HB.out))) : w.heap.size ≤ gb156));clear HB;have HB := n0_;have BK156 := n1_;have GW156 := n2_;have GE156 := n3_;clear n0_ n1_ n2_ n3_;clear hb hbox hg) | ((with_reducible refine gate_dst (N := 3) rfl ?_);refine box_event ?hg (N := 3) ?hd (cs := #[.int .i64 a1_0,.bool a1_1,.int .i64 a1_2,.string a1_3]) (t := 66) ?hr ?_;(case hd => rfl);(case hg => rfl);(case hr => first | (go_simp;done) | (go_simp;rfl));intro gb157 hg w54 hbox hb;have n0_ := Aside0.mk (blk_below (g := gb156) (o := .cells #[.int .i64 a0_0,.bool a0_1,.int .i64 a0_2,.string a0_3] 66 (0,0)) (by (with_reducible repeat (first | refine blk_drewN ?_ _ | refine blk_drew ?_ | refine blk_alloc ?_ _));exact BK156.out) hb);have n1_ := Aside0.mk (below_step (by repeat (first | (with_reducible first | exact HB.out | apply below_alloc | apply pw_below_drewN | apply below_drew1 | refine below_set ?_ GE156.out) | exact HB.out)) hb);have n2_ := Aside0.mk (hbox);have n3_ := Aside0.mk ((by rw [hg];exact (below_size (by repeat (first | (with_reducible first | exact HB.out | apply below_alloc | apply pw_below_drewN | apply below_drew1 | refine below_set ?_ GE156.out) | exact HB.out))) : w.heap.size ≤ gb157));have n4_ := Aside0.mk ((by rw [hg];exact (below_size (by repeat (first | (with_reducible first | exact HB.out | apply below_alloc | apply pw_below_drewN | apply below_drew1 | refine below_set ?_ GE156.out) | exact HB.out))) : w.heap.size ≤ gb157));have n5_ := Aside0.mk ((by rw [hg];exact Nat.ne_of_lt (blk_lt (g := gb156) (o := .cells #[.int .i64 a0_0,.bool a0_1,.int .i64 a0_2,.string a0_3] 66 (0,0)) (by (with_reducible repeat (first | refine blk_drewN ?_ _ | refine blk_drew ?_ | refine blk_alloc ?_ _));exact BK156.out)) : gb156 ≠ gb157));have n6_ := Aside0.mk ((by rw [hg];exact Nat.ne_of_gt (blk_lt (g := gb156) (o := .cells #[.int .i64 a0_0,.bool a0_1,.int .i64 a0_2,.string a0_3] 66 (0,0)) (by (with_reducible repeat (first | refine blk_drewN ?_ _ | refine blk_drew ?_ | refine blk_alloc ?_ _));exact BK156.out)) : gb157 ≠ gb156));clear BK156;clear HB;have BK156 := n0_;have HB := n1_;have BK157 := n2_;have GW157 := n3_;have GE157 := n4_;have NB156_157 := n5_;have NB157_156 := n6_;clear n0_ n1_ n2_ n3_ n4_ n5_ n6_;clear hb hbox hg;have hnb55 := NB156_157.out;have hnc55 := NB157_156.out;have hcz56_0 : w54.cell? ⟨gb156,0,none⟩ = some (.int .i64 a0_0) := (blk_cell BK156.out 0).trans rfl;have hcz56_1 : w54.cell? ⟨gb156,1,none⟩ = some (.bool a0_1) := (blk_cell BK156.out 1).trans rfl;have hcz56_2 : w54.cell? ⟨gb156,2,none⟩ = some (.int .i64 a0_2) := (blk_cell BK156.out 2).trans rfl;have hcz56_3 : w54.cell? ⟨gb156,3,none⟩ = some (.string a0_3) := (blk_cell BK156.out 3).trans rfl;have hfz56_0 := blk_frozen BK156.out 0;have hfz56_1 := blk_frozen BK156.out 1;have hfz56_2 := blk_frozen BK156.out 2;have hfz56_3 := blk_frozen BK156.out 3;have hcz57_0 : w54.cell? ⟨gb157,0,none⟩ = some (.int .i64 a1_0) := (blk_cell BK157.out 0).trans rfl;have hcz57_1 : w54.cell? ⟨gb157,1,none⟩ = some (.bool a1_1) := (blk_cell BK157.out 1).trans rfl;have hcz57_2 : w54.cell? ⟨gb157,2,none⟩ = some (.int .i64 a1_2) := (blk_cell BK157.out 2).trans rfl;have hcz57_3 : w54.cell? ⟨gb157,3,none⟩ = some (.string a1_3) := (blk_cell BK157.out 3).trans rfl;have hfz57_0 := blk_frozen BK157.out 0;have hfz57_1 := blk_frozen BK157.out 1;have hfz57_2 := blk_frozen BK157.out 2;have hfz57_3 := blk_frozen BK157.out 3) | ((with_reducible refine gate_callee (f := 124) rfl ?_);refine goesL_ (some 45) rfl rfl Try.func124 (by kernel_rfl) rfl #[.string a0_3,.string a1_3] rfl (by (try simp only [List.map_toArray,List.map_cons,List.map_nil]);first | done | rfl | (simp only [List.length_drop,List.length_take];rfl)) ?_;(with_reducible refine (verdererref01_Text.calls k a0_3 a1_3 t158 _ A52.out).mono ?_);rintro e w' ⟨rfl,⟨nd,rfl⟩⟩;refine ⟨_,rfl,?_⟩))
            go_ret
            exact ⟨by first | rfl | (simp [errW_none,errW_some] <;> rfl) | (simp [*,errW_none,errW_some] <;> rfl),by repeat (first | (with_reducible first | exact HB.out | apply below_alloc | apply pw_below_drewN | apply below_drew1 | refine below_set ?_ GE156.out | refine below_set ?_ GE157.out) | exact HB.out)⟩
          · rw [if_neg c51] at H
            have c51b0 : (a0_0 == 3) = false := beq_eq_false_iff_ne.mpr c51
            have c51b1 : (a0_0 != 3) = true := bne_iff_ne.mpr c51
            obtain rfl := Option.some.inj H
            go_enter Try.func116,Try.ntmps116
            go_wp2_with (first | ((with_reducible refine gate_dst (N := 2) rfl ?_);refine box_event ?hg (N := 2) ?hd (cs := #[.int .i64 a0_0,.bool a0_1,.int .i64 a0_2,.string a0_3]) (t := 66) ?hr ?_;(case hd => rfl);(case hg => rfl);(case hr => first | (go_simp;done) | (go_simp;rfl));intro gb156 hg w58 hbox hb;have n0_ := Aside0.mk (below_step (by repeat (first | (with_reducible first | exact HB.out | apply below_alloc | apply pw_below_drewN | apply below_drew1) | exact HB.out)) hb);have n1_ := Aside0.mk (hbox);have n2_ := Aside0.mk ((by rw [hg];exact (below_size (by repeat (first | (with_reducible first | exact HB.out | apply below_alloc | apply pw_below_drewN | apply below_drew1) | exact HB.out))) : w.heap.size ≤ gb156));have n3_ := Aside0.mk ((by rw [hg];exact (below_size (by repeat (first | (with_reducible first | exact HB.out | apply below_alloc | apply pw_below_drewN | apply below_drew1) | exact HB.out))) : w.heap.size ≤ gb156));clear HB;have HB := n0_;have BK156 := n1_;have GW156 := n2_;have GE156 := n3_;clear n0_ n1_ n2_ n3_;clear hb hbox hg) | ((with_reducible refine gate_dst (N := 3) rfl ?_);refine box_event ?hg (N := 3) ?hd (cs := #[.int .i64 a1_0,.bool a1_1,.int .i64 a1_2,.string a1_3]) (t := 66) ?hr ?_;(case hd => rfl);(case hg => rfl);(case hr => first | (go_simp;done) | (go_simp;rfl));intro gb157 hg w59 hbox hb;have n0_ := Aside0.mk (blk_below (g := gb156) (o := .cells #[.int .i64 a0_0,.bool a0_1,.int .i64 a0_2,.string a0_3] 66 (0,0)) (by (with_reducible repeat (first | refine blk_drewN ?_ _ | refine blk_drew ?_ | refine blk_alloc ?_ _));exact BK156.out) hb);have n1_ := Aside0.mk (below_step (by repeat (first | (with_reducible first | exact HB.out | apply below_alloc | apply pw_below_drewN | apply below_drew1 | refine below_set ?_ GE156.out) | exact HB.out)) hb);have n2_ := Aside0.mk (hbox);have n3_ := Aside0.mk ((by rw [hg];exact (below_size (by repeat (first | (with_reducible first | exact HB.out | apply below_alloc | apply pw_below_drewN | apply below_drew1 | refine below_set ?_ GE156.out) | exact HB.out))) : w.heap.size ≤ gb157));have n4_ := Aside0.mk ((by rw [hg];exact (below_size (by repeat (first | (with_reducible first | exact HB.out | apply below_alloc | apply pw_below_drewN | apply below_drew1 | refine below_set ?_ GE156.out) | exact HB.out))) : w.heap.size ≤ gb157));have n5_ := Aside0.mk ((by rw [hg];exact Nat.ne_of_lt (blk_lt (g := gb156) (o := .cells #[.int .i64 a0_0,.bool a0_1,.int .i64 a0_2,.string a0_3] 66 (0,0)) (by (with_reducible repeat (first | refine blk_drewN ?_ _ | refine blk_drew ?_ | refine blk_alloc ?_ _));exact BK156.out)) : gb156 ≠ gb157));have n6_ := Aside0.mk ((by rw [hg];exact Nat.ne_of_gt (blk_lt (g := gb156) (o := .cells #[.int .i64 a0_0,.bool a0_1,.int .i64 a0_2,.string a0_3] 66 (0,0)) (by (with_reducible repeat (first | refine blk_drewN ?_ _ | refine blk_drew ?_ | refine blk_alloc ?_ _));exact BK156.out)) : gb157 ≠ gb156));clear BK156;clear HB;have BK156 := n0_;have HB := n1_;have BK157 := n2_;have GW157 := n3_;have GE157 := n4_;have NB156_157 := n5_;have NB157_156 := n6_;clear n0_ n1_ n2_ n3_ n4_ n5_ n6_;clear hb hbox hg;have hnb60 := NB156_157.out;have hnc60 := NB157_156.out;have hcz61_0 : w59.cell? ⟨gb156,0,none⟩ = some (.int .i64 a0_0) := (blk_cell BK156.out 0).trans rfl;have hcz61_1 : w59.cell? ⟨gb156,1,none⟩ = some (.bool a0_1) := (blk_cell BK156.out 1).trans rfl;have hcz61_2 : w59.cell? ⟨gb156,2,none⟩ = some (.int .i64 a0_2) := (blk_cell BK156.out 2).trans rfl;have hcz61_3 : w59.cell? ⟨gb156,3,none⟩ = some (.string a0_3) := (blk_cell BK156.out 3).trans rfl;have hfz61_0 := blk_frozen BK156.out 0;have hfz61_1 := blk_frozen BK156.out 1;have hfz61_2 := blk_frozen BK156.out 2;have hfz61_3 := blk_frozen BK156.out 3;have hcz62_0 : w59.cell? ⟨gb157,0,none⟩ = some (.int .i64 a1_0) := (blk_cell BK157.out 0).trans rfl;have hcz62_1 : w59.cell? ⟨gb157,1,none⟩ = some (.bool a1_1) := (blk_cell BK157.out 1).trans rfl;have hcz62_2 : w59.cell? ⟨gb157,2,none⟩ = some (.int .i64 a1_2) := (blk_cell BK157.out 2).trans rfl;have hcz62_3 : w59.cell? ⟨gb157,3,none⟩ = some (.string a1_3) := (blk_cell BK157.out 3).trans rfl;have hfz62_0 := blk_frozen BK157.out 0;have hfz62_1 := blk_frozen BK157.out 1;have hfz62_2 := blk_frozen BK157.out 2;have hfz62_3 := blk_frozen BK157.out 3))
            go_ret
            exact ⟨by first | rfl | (simp [errW_none,errW_some] <;> rfl) | (simp [*,errW_none,errW_some] <;> rfl),by repeat (first | (with_reducible first | exact HB.out | apply below_alloc | apply pw_below_drewN | apply below_drew1 | refine below_set ?_ GE156.out | refine below_set ?_ GE157.out) | exact HB.out)⟩
end Go.Proofs.Ythmbfcfomcaaaaa.Z
end
section
namespace Go.Proofs.Ythmbfcfomcaaaaa.Z
open Go.RowKit Go.Proofs.YthmbfcfomcaaaaaW.PrintWords Go.Proofs.YthmbfcfomcaaaaaW.PrintLast Go.Proofs.YthmbfcfomcaaaaaW.PrintMore
attribute [local go_sem] max2_int min2_int max_two min_two max_three min_three max_four min_four
set_option linter.unusedVariables false
set_option linter.unusedSimpArgs false
mutual
def verdererref02_Compare.l0 : Nat → List (S66) → List (S66) → Int → Option (Int)
  | 0,_,_,_ => none
  | k + 1,x0,x1,x5 => if x5 < (x0.length : Int) then (verdererref02_Compare.j1 k x0 x1 x5 (decide (x5 < (x1.length : Int)))) else (verdererref02_Compare.j1 k x0 x1 x5 false)
def verdererref02_Compare.j1 : Nat → List (S66) → List (S66) → Int → Bool → Option (Int)
  | 0,_,_,_,_ => none
  | k + 1,x0,x1,x5,x16 => if x16 = true then (if 0 ≤ x5 then (if x5 < (x0.length : Int) then (if x5 < (x1.length : Int) then ((verdererref01_Compare.f k ((rd_T66 x0 x5).f0) ((rd_T66 x0 x5).f1) ((rd_T66 x0 x5).f2) ((rd_T66 x0 x5).f3) ((rd_T66 x1 x5).f0) ((rd_T66 x1 x5).f1) ((rd_T66 x1 x5).f2) ((rd_T66 x1 x5).f3)).bind fun t161 => (if t161 = 0 then (verdererref02_Compare.l0 k x0 x1 (wrap64 (x5 + 1))) else (some t161))) else (none)) else (none)) else (none)) else (if (x0.length : Int) < (x1.length : Int) then (some (-1)) else (if (x0.length : Int) > (x1.length : Int) then (some 1) else (some 0)))
end
def verdererref02_Compare.f (k : Nat) (l0 : List (S66)) (l1 : List (S66)) : Option (Int) := verdererref02_Compare.l0 k l0 l1 0
theorem verdererref02_Compare.mono_l : ∀ k,(∀ y0 y1 y2,LeO (verdererref02_Compare.l0 k y0 y1 y2) (verdererref02_Compare.l0 (k + 1) y0 y1 y2)) ∧ (∀ y0 y1 y2 y3,LeO (verdererref02_Compare.j1 k y0 y1 y2 y3) (verdererref02_Compare.j1 (k + 1) y0 y1 y2 y3))
  | 0 => ⟨fun _ _ _ r h => by simp [verdererref02_Compare.l0] at h,fun _ _ _ _ r h => by simp [verdererref02_Compare.j1] at h⟩
  | k + 1 => by
    obtain ⟨ih0,ih1⟩ := verdererref02_Compare.mono_l k
    refine ⟨?_,?_⟩
    · intro y0 y1 y2
      unfold verdererref02_Compare.l0
      repeat' first
      | (with_reducible exact ih0 _ _ _)
      | (with_reducible exact ih1 _ _ _ _)
      | (with_reducible exact verdererref01_Compare.mono _ _ _ _ _ _ _ _ _)
      | (with_reducible exact LeO.refl _)
      | (with_reducible exact LeO.none _)
      | (with_reducible refine LeO.ite ?_ ?_)
      | (with_reducible refine LeO.bind ?_ (fun _ => ?_))
      | exact ih0 _ _ _
      | exact ih1 _ _ _ _
      | exact verdererref01_Compare.mono _ _ _ _ _ _ _ _ _
      | exact LeO.none _
      | refine LeO.ite ?_ ?_
      | refine LeO.bind ?_ (fun _ => ?_)
    · intro y0 y1 y2 y3
      unfold verdererref02_Compare.j1
      repeat' first
      | (with_reducible exact ih0 _ _ _)
      | (with_reducible exact ih1 _ _ _ _)
      | (with_reducible exact verdererref01_Compare.mono _ _ _ _ _ _ _ _ _)
      | (with_reducible exact LeO.refl _)
      | (with_reducible exact LeO.none _)
      | (with_reducible refine LeO.ite ?_ ?_)
      | (with_reducible refine LeO.bind ?_ (fun _ => ?_))
      | exact ih0 _ _ _
      | exact ih1 _ _ _ _
      | exact verdererref01_Compare.mono _ _ _ _ _ _ _ _ _
      | exact LeO.none _
      | refine LeO.ite ?_ ?_
      | refine LeO.bind ?_ (fun _ => ?_)
theorem verdererref02_Compare.mono : ∀ a0 a1 k,LeO (verdererref02_Compare.f k a0 a1) (verdererref02_Compare.f (k + 1) a0 a1) := by
  intro a0 a1 k
  obtain ⟨ih0,ih1⟩ := verdererref02_Compare.mono_l k
  unfold verdererref02_Compare.f
  repeat' first
      | (with_reducible exact ih0 _ _ _)
      | (with_reducible exact ih1 _ _ _ _)
      | (with_reducible exact verdererref01_Compare.mono _ _ _ _ _ _ _ _ _)
      | (with_reducible exact LeO.refl _)
      | (with_reducible exact LeO.none _)
      | (with_reducible refine LeO.ite ?_ ?_)
      | (with_reducible refine LeO.bind ?_ (fun _ => ?_))
      | exact ih0 _ _ _
      | exact ih1 _ _ _ _
      | exact verdererref01_Compare.mono _ _ _ _ _ _ _ _ _
      | exact LeO.none _
      | refine LeO.ite ?_ ?_
      | refine LeO.bind ?_ (fun _ => ?_)
def verdererref02_Compare.T4 : Bool × List (List Nat × List Nat) := (true,[([],[]),([],[]),([0,1],[0,1]),([2],[2]),([],[]),([],[]),([4,5],[4,5]),([6],[6]),([3,7],[3,7]),([8,8,0,1,2,3,4,5,6,7,8],[8])])
def verdererref02_Compare.B4 : List Nat := [0,0,3,7,0,0,48,112,255,511]
theorem verdererref02_Compare.tab4 : rtab .any (opsOf Try.f96 4) = verdererref02_Compare.T4 := by kernel_rfl
theorem verdererref02_Compare.bits4 : waitsOk verdererref02_Compare.T4.2 verdererref02_Compare.B4 = true := by kernel_rfl
set_option maxHeartbeats 8000000 in
set_option maxRecDepth 100000 in
theorem verdererref02_Compare.calls (k : Nat) (A0 : Option Addr) (c0 : Nat) (l0 : List (S66)) (A1 : Option Addr) (c1 : Nat) (l1 : List (S66)) (r : Int) (w : World) (hr0 : Kd.C k66 w A0 l0.length l0) (hc0 : l0.length ≤ c0) (hr1 : Kd.C k66 w A1 l1.length l1) (hc1 : l1.length ≤ c1) (h : verdererref02_Compare.f k l0 l1 = some r) :
    Calls Try.prog 96 #[.slice A0 l0.length c0,.slice A1 l1.length c1] w fun e w' => e = .returned (.int .i64 r) ∧ Below w.heap.size w w' := by
  have hu66 := Try.underlying66
  have HR0 := Aside0.mk hr0
  have HC0 := Aside0.mk hc0
  clear hr0 hc0
  have HR1 := Aside0.mk hr1
  have HC1 := Aside0.mk hc1
  clear hr1 hc1
  have HB := Aside0.mk (Below.refl w.heap.size w)
  have H : (verdererref02_Compare.l0 k l0 l1 0) = some r := h
  clear h
  have H' := Aside0.mk H
  clear H
  go_enter Try.func96,Try.ntmps96
  go_wp2
  go_loopg [5] k (fun kq v5 w' => ∃ (x5_1 : Int),v5 = .int .i64 x5_1 ∧ Aside0 (verdererref02_Compare.l0 kq l0 l1 x5_1 = some r) ∧ Aside0 (kq ≤ k) ∧ Aside0 (Below w.heap.size w w'))
  case atStart => exact ⟨(0),(by first | rfl | (simp;done) | (simp [*];done)),H',⟨Nat.le_refl _⟩,⟨by repeat (first | (with_reducible first | exact HB.out | apply below_alloc | apply pw_below_drewN | apply below_drew1) | exact HB.out)⟩⟩
  case round =>
    clear H'
    try clear c1
    try clear p2
    obtain ⟨x5_1,rfl,HA,HK1,HB⟩ := hrel
    cases gk with
    | zero => exact absurd HA.out (by simp [verdererref02_Compare.l0])
    | succ k1 =>
      have H := HA.out
      clear HA
      simp only [verdererref02_Compare.l0] at H
      have HC3 := Aside0.mk H
      clear H
      go_upto_region 2 with (fail)
      go_cut [16] (fun v16 wc => ∃ (kq : Nat) (x16_2 : Bool),v16 = .bool x16_2 ∧ Aside0 (verdererref02_Compare.j1 kq l0 l1 x5_1 x16_2 = some r) ∧ Aside0 (kq ≤ k1) ∧ Aside0 (Below w.heap.size w wc))
      case first =>
        have H := HC3.out
        clear HC3
        by_cases c4 : x5_1 < (l0.length : Int)
        · rw [if_pos c4] at H
          have c4b0 : decide (x5_1 < (l0.length : Int)) = true := decide_eq_true c4
          clear c4
          (first | rw [c4b0] | (simp only [i64_w,i32_w];rw [c4b0]) | skip)
          have H' := Aside0.mk H
          clear H
          go_wp2
          go_meet
          case rel => exact ⟨_,(decide (x5_1 < (l1.length : Int))),(by first | rfl | (simp;done) | (simp [*];done)),H',⟨by have := HK1.out;first | omega | exact Nat.le_refl _⟩,⟨by repeat (first | (with_reducible first | exact HB.out | apply below_alloc | apply pw_below_drewN | apply below_drew1) | exact HB.out)⟩⟩
        · rw [if_neg c4] at H
          have c4b0 : decide (x5_1 < (l0.length : Int)) = false := decide_eq_false c4
          clear c4
          (first | rw [c4b0] | (simp only [i64_w,i32_w];rw [c4b0]) | skip)
          have H' := Aside0.mk H
          clear H
          go_wp2
          go_meet
          case rel => exact ⟨_,(false),(by first | rfl | (simp;done) | (simp [*];done)),H',⟨by have := HK1.out;first | omega | exact Nat.le_refl _⟩,⟨by repeat (first | (with_reducible first | exact HB.out | apply below_alloc | apply pw_below_drewN | apply below_drew1) | exact HB.out)⟩⟩
      case rest =>
        clear HC3
        try clear c1
        try clear p2
        try clear c4
        try clear c4b0
        try clear p2
        obtain ⟨kq,x16_2,rfl,HA,HJ2,HB⟩ := hcut
        cases kq with
        | zero => exact absurd HA.out (by simp [verdererref02_Compare.j1])
        | succ kj2 =>
          have H := HA.out
          clear HA
          simp only [verdererref02_Compare.j1] at H
          by_cases c5 : x16_2 = true
          · subst c5
            have H1 : (if 0 ≤ x5_1 then (if x5_1 < (l0.length : Int) then (if x5_1 < (l1.length : Int) then ((verdererref01_Compare.f kj2 ((rd_T66 l0 x5_1).f0) ((rd_T66 l0 x5_1).f1) ((rd_T66 l0 x5_1).f2) ((rd_T66 l0 x5_1).f3) ((rd_T66 l1 x5_1).f0) ((rd_T66 l1 x5_1).f1) ((rd_T66 l1 x5_1).f2) ((rd_T66 l1 x5_1).f3)).bind fun t161 => (if t161 = 0 then (verdererref02_Compare.l0 kj2 l0 l1 (wrap64 (x5_1 + 1))) else (some t161))) else (none)) else (none)) else (none)) = some r := by rw [if_pos rfl] at H;exact H
            clear H
            have H := H1
            clear H1
            by_cases c6 : 0 ≤ x5_1
            · rw [if_pos c6] at H
              have c6b0 : decide (0 ≤ x5_1) = true := decide_eq_true c6
              clear c6
              by_cases c7 : x5_1 < (l0.length : Int)
              · rw [if_pos c7] at H
                have c7b0 : decide (x5_1 < (l0.length : Int)) = true := decide_eq_true c7
                clear c7
                by_cases c8 : x5_1 < (l1.length : Int)
                · rw [if_pos c8] at H
                  have c8b0 : decide (x5_1 < (l1.length : Int)) = true := decide_eq_true c8
                  clear c8
                  replace H := Option.bind_eq_some_iff.mp H
                  obtain ⟨t161,A90,H⟩ := H
                  replace H : (if t161 = 0 then (verdererref02_Compare.l0 kj2 l0 l1 (wrap64 (x5_1 + 1))) else (some t161)) = some r := H
                  have A9 := Aside0.mk A90
                  clear A90
                  by_cases c10 : t161 = 0
                  · rw [if_pos c10] at H
                    have c10b0 : (t161 == 0) = true := beq_iff_eq.mpr c10
                    have c10b1 : (t161 != 0) = false := bne_eq_false_iff_eq.mpr c10
                    clear c10
                    have H' := Aside0.mk H
                    clear H
                    try go_wp2
                    have n0_ := Aside0.mk (below_drew1 HB.out)
                    clear HB
                    have HB := n0_
                    clear n0_
                    have p159 : 0 ≤ (x5_1 : Int) := of_decide_eq_true (by first | (with_reducible assumption) | assumption)
                    have q159 : x5_1 < (l0.length : Int) := of_decide_eq_true (by first | (with_reducible assumption) | assumption)
                    obtain ⟨ad159,e159,hx159_0,hx159_1,hx159_2,hx159_3⟩ := at_T66 HR0.out x5_1 p159 q159
                    have hw159_3 := hx159_3
                    have hw159_2 := hx159_2
                    have hw159_1 := hx159_1
                    have hw159_0 := hx159_0
                    cases e159
                    replace hx159_0 := (HB.out.cell (World.block_lt_of_cell? w _ hx159_0)).trans hx159_0
                    replace hx159_1 := (HB.out.cell (World.block_lt_of_cell? w _ hx159_1)).trans hx159_1
                    replace hx159_2 := (HB.out.cell (World.block_lt_of_cell? w _ hx159_2)).trans hx159_2
                    replace hx159_3 := (HB.out.cell (World.block_lt_of_cell? w _ hx159_3)).trans hx159_3
                    replace p159 := eq_true p159
                    replace q159 := eq_true q159
                    have p160 : 0 ≤ (x5_1 : Int) := of_decide_eq_true (by first | (with_reducible assumption) | assumption)
                    have q160 : x5_1 < (l1.length : Int) := of_decide_eq_true (by first | (with_reducible assumption) | assumption)
                    obtain ⟨ad160,e160,hx160_0,hx160_1,hx160_2,hx160_3⟩ := at_T66 HR1.out x5_1 p160 q160
                    have hw160_3 := hx160_3
                    have hw160_2 := hx160_2
                    have hw160_1 := hx160_1
                    have hw160_0 := hx160_0
                    cases e160
                    replace hx160_0 := (HB.out.cell (World.block_lt_of_cell? w _ hx160_0)).trans hx160_0
                    replace hx160_1 := (HB.out.cell (World.block_lt_of_cell? w _ hx160_1)).trans hx160_1
                    replace hx160_2 := (HB.out.cell (World.block_lt_of_cell? w _ hx160_2)).trans hx160_2
                    replace hx160_3 := (HB.out.cell (World.block_lt_of_cell? w _ hx160_3)).trans hx160_3
                    replace p160 := eq_true p160
                    replace q160 := eq_true q160
                    refine start_ (n := 10) (S := fun w' => w'.cell? (ad159.add ((x5_1).toNat * 4)) = some (.int .i64 ((rd_T66 l0 x5_1).f0)) ∧ w'.cell? ⟨(ad159.add ((x5_1).toNat * 4)).block,(ad159.add ((x5_1).toNat * 4)).off + 1,none⟩ = some (.bool ((rd_T66 l0 x5_1).f1)) ∧ w'.cell? ⟨(ad159.add ((x5_1).toNat * 4)).block,(ad159.add ((x5_1).toNat * 4)).off + 2,none⟩ = some (.int .i64 ((rd_T66 l0 x5_1).f2)) ∧ w'.cell? ⟨(ad159.add ((x5_1).toNat * 4)).block,(ad159.add ((x5_1).toNat * 4)).off + 3,none⟩ = some (.string ((rd_T66 l0 x5_1).f3)) ∧ w'.cell? (ad160.add ((x5_1).toNat * 4)) = some (.int .i64 ((rd_T66 l1 x5_1).f0)) ∧ w'.cell? ⟨(ad160.add ((x5_1).toNat * 4)).block,(ad160.add ((x5_1).toNat * 4)).off + 1,none⟩ = some (.bool ((rd_T66 l1 x5_1).f1)) ∧ w'.cell? ⟨(ad160.add ((x5_1).toNat * 4)).block,(ad160.add ((x5_1).toNat * 4)).off + 2,none⟩ = some (.int .i64 ((rd_T66 l1 x5_1).f2)) ∧ w'.cell? ⟨(ad160.add ((x5_1).toNat * 4)).block,(ad160.add ((x5_1).toNat * 4)).off + 3,none⟩ = some (.string ((rd_T66 l1 x5_1).f3))) (ds := []) #[false,false,false,false,false,false,false,false,false,false] (by kernel_rfl) rfl rfl ⟨((HB.out.cell (World.block_lt_of_cell? w _ hw159_0)).trans hw159_0),((HB.out.cell (World.block_lt_of_cell? w _ hw159_1)).trans hw159_1),((HB.out.cell (World.block_lt_of_cell? w _ hw159_2)).trans hw159_2),((HB.out.cell (World.block_lt_of_cell? w _ hw159_3)).trans hw159_3),((HB.out.cell (World.block_lt_of_cell? w _ hw160_0)).trans hw160_0),((HB.out.cell (World.block_lt_of_cell? w _ hw160_1)).trans hw160_1),((HB.out.cell (World.block_lt_of_cell? w _ hw160_2)).trans hw160_2),((HB.out.cell (World.block_lt_of_cell? w _ hw160_3)).trans hw160_3)⟩ (fun hHeld => ?_);refine with_tabW verdererref02_Compare.tab4 verdererref02_Compare.bits4 (fun HT_ HW_ => ?_)
                    generalize wc.drew = w11 at HB hx159_0 hx159_1 hx159_2 hx159_3 hx160_0 hx160_1 hx160_2 hx160_3 hHeld ⊢
                    refine pure_ (i := 0) (N := some 19) (v := ?_) (a' := ?_) #[true,false,false,false,false,false,false,false,false,false] rfl rfl (any_of HT_.out (by kernel_rfl)) (fun _ _ _ h => h) (Or.inl ⟨by rfl,?_⟩) ?_ ?_
                    rotate_left
                    · intro w'
                      go_simp
                      with_reducible rfl
                    rotate_left
                    · simp only [Act.put,zA,zB,zC,i64_w,i32_w]
                      rfl
                    refine pure_ (i := 1) (N := some 20) (v := ?_) (a' := ?_) #[true,true,false,false,false,false,false,false,false,false] rfl rfl (any_of HT_.out (by kernel_rfl)) (fun _ _ _ h => h) (Or.inl ⟨by rfl,?_⟩) ?_ ?_
                    rotate_left
                    · intro w'
                      go_simp
                      with_reducible rfl
                    rotate_left
                    · simp only [Act.put,zA,zB,zC,i64_w,i32_w]
                      rfl
                    refine pure_ (i := 2) (N := some 21) (v := ?_) (a' := ?_) #[true,true,true,false,false,false,false,false,false,false] rfl rfl (any_of HT_.out (by kernel_rfl)) (fun _ _ _ h => h) (Or.inl ⟨by rfl,?_⟩) ?_ ?_
                    rotate_left
                    · intro w'
                      go_simp
                      with_reducible rfl
                    rotate_left
                    · simp only [Act.put,zA,zB,zC,i64_w,i32_w]
                      rfl
                    refine pure_ (i := 4) (N := some 23) (v := ?_) (a' := ?_) #[true,true,true,false,true,false,false,false,false,false] rfl rfl (any_of HT_.out (by kernel_rfl)) (fun _ _ _ h => h) (Or.inl ⟨by rfl,?_⟩) ?_ ?_
                    rotate_left
                    · intro w'
                      go_simp
                      with_reducible rfl
                    rotate_left
                    · simp only [Act.put,zA,zB,zC,i64_w,i32_w]
                      rfl
                    refine pure_ (i := 5) (N := some 24) (v := ?_) (a' := ?_) #[true,true,true,false,true,true,false,false,false,false] rfl rfl (any_of HT_.out (by kernel_rfl)) (fun _ _ _ h => h) (Or.inl ⟨by rfl,?_⟩) ?_ ?_
                    rotate_left
                    · intro w'
                      go_simp
                      with_reducible rfl
                    rotate_left
                    · simp only [Act.put,zA,zB,zC,i64_w,i32_w]
                      rfl
                    refine pure_ (i := 6) (N := some 25) (v := ?_) (a' := ?_) #[true,true,true,false,true,true,true,false,false,false] rfl rfl (any_of HT_.out (by kernel_rfl)) (fun _ _ _ h => h) (Or.inl ⟨by rfl,?_⟩) ?_ ?_
                    rotate_left
                    · intro w'
                      go_simp
                      with_reducible rfl
                    rotate_left
                    · simp only [Act.put,zA,zB,zC,i64_w,i32_w]
                      rfl
                    refine take_ (i := 3) (N := some 22) (v := ?_) (a' := ?_) #[true,true,true,true,true,true,true,false,false,false] rfl rfl (take_ofW HT_.out HW_.out (by kernel_rfl)) (fun _ _ _ h => h) (Or.inl ⟨by rfl,?_⟩) hHeld ?_ ?_
                    rotate_left
                    · rintro w' ⟨s0,s1,s2,s3,s4,s5,s6,s7⟩
                      go_simp
                      with_reducible rfl
                    rotate_left
                    · simp only [Act.put,zA,zB,zC,i64_w,i32_w]
                      rfl
                    refine take_ (i := 7) (N := some 26) (v := ?_) (a' := ?_) #[true,true,true,true,true,true,true,true,false,false] rfl rfl (take_ofW HT_.out HW_.out (by kernel_rfl)) (fun _ _ _ h => h) (Or.inl ⟨by rfl,?_⟩) hHeld ?_ ?_
                    rotate_left
                    · rintro w' ⟨s0,s1,s2,s3,s4,s5,s6,s7⟩
                      go_simp
                      with_reducible rfl
                    rotate_left
                    · simp only [Act.put,zA,zB,zC,i64_w,i32_w]
                      rfl
                    refine one_ (i := 8) (N := some 27) #[true,true,true,true,true,true,true,true,true,false] rfl rfl (one_of HT_.out (by kernel_rfl)) (by decide) (fun K hK => ?_)
                    refine goes_ Try.func116 (by kernel_rfl) rfl #[.agg #[.int .i64 ((rd_T66 l0 x5_1).f0),.bool ((rd_T66 l0 x5_1).f1),.int .i64 ((rd_T66 l0 x5_1).f2),.string ((rd_T66 l0 x5_1).f3)],.agg #[.int .i64 ((rd_T66 l1 x5_1).f0),.bool ((rd_T66 l1 x5_1).f1),.int .i64 ((rd_T66 l1 x5_1).f2),.string ((rd_T66 l1 x5_1).f3)]] (by rfl) rfl rfl (by (try simp only [List.map_toArray,List.map_cons,List.map_nil]);first | done | rfl | (simp only [List.length_drop,List.length_take];rfl)) ?_
                    with_reducible refine (verdererref01_Compare.calls kj2 ((rd_T66 l0 x5_1).f0) ((rd_T66 l0 x5_1).f1) ((rd_T66 l0 x5_1).f2) ((rd_T66 l0 x5_1).f3) ((rd_T66 l1 x5_1).f0) ((rd_T66 l1 x5_1).f1) ((rd_T66 l1 x5_1).f2) ((rd_T66 l1 x5_1).f3) t161 _ A9.out).mono ?_
                    rintro e w12 ⟨rfl,hb⟩
                    refine ⟨_,rfl,?_⟩
                    have n0_ := Aside0.mk (below_step (by repeat (first | (with_reducible first | exact HB.out | apply below_alloc | apply pw_below_drewN | apply below_drew1) | exact HB.out)) hb)
                    clear HB
                    have HB := n0_
                    clear n0_
                    (try clear hb)
                    (try clear hb2)
                    (try clear hk)
                    (try clear hi)
                    refine hK.out _ _ ⟨((HB.out.cell (World.block_lt_of_cell? w _ hw159_0)).trans hw159_0),((HB.out.cell (World.block_lt_of_cell? w _ hw159_1)).trans hw159_1),((HB.out.cell (World.block_lt_of_cell? w _ hw159_2)).trans hw159_2),((HB.out.cell (World.block_lt_of_cell? w _ hw159_3)).trans hw159_3),((HB.out.cell (World.block_lt_of_cell? w _ hw160_0)).trans hw160_0),((HB.out.cell (World.block_lt_of_cell? w _ hw160_1)).trans hw160_1),((HB.out.cell (World.block_lt_of_cell? w _ hw160_2)).trans hw160_2),((HB.out.cell (World.block_lt_of_cell? w _ hw160_3)).trans hw160_3)⟩ (fun hHeld => ?_)
                    clear hK K
                    refine norm_ (a' := ?_) ?_ ?_
                    rotate_left
                    · show Act.put _ (some 27) _ = _
                      simp only [Act.put,zA,zB,zC,i64_w,i32_w]
                      rfl
                    refine pure_ (i := 9) (N := some 6) (v := ?_) (a' := ?_) #[true,true,true,true,true,true,true,true,true,true] rfl rfl (any_of HT_.out (by kernel_rfl)) (fun _ _ _ h => h) (Or.inl ⟨by rfl,?_⟩) ?_ ?_
                    rotate_left
                    · intro w'
                      go_simp
                      with_reducible rfl
                    rotate_left
                    · simp only [Act.put,zA,zB,zC,i64_w,i32_w]
                      rfl
                    refine done_ (done_of HT_.out (by kernel_rfl)) ?_
                    try go_wp2
                    go_roundg kj2
                    case measure => have := HK1.out;have := HJ2.out;omega
                    case rel => exact ⟨(wrap64 (x5_1 + 1)),(by first | rfl | (simp;done) | (simp [*];done)),H',⟨by have := HK1.out;have := HJ2.out;omega⟩,⟨by repeat (first | (with_reducible first | exact HB.out | apply below_alloc | apply pw_below_drewN | apply below_drew1) | exact HB.out)⟩⟩
                  · rw [if_neg c10] at H
                    have c10b0 : (t161 == 0) = false := beq_eq_false_iff_ne.mpr c10
                    have c10b1 : (t161 != 0) = true := bne_iff_ne.mpr c10
                    obtain rfl := Option.some.inj H
                    try go_wp2
                    have n0_ := Aside0.mk (below_drew1 HB.out)
                    clear HB
                    have HB := n0_
                    clear n0_
                    have p159 : 0 ≤ (x5_1 : Int) := of_decide_eq_true (by first | (with_reducible assumption) | assumption)
                    have q159 : x5_1 < (l0.length : Int) := of_decide_eq_true (by first | (with_reducible assumption) | assumption)
                    obtain ⟨ad159,e159,hx159_0,hx159_1,hx159_2,hx159_3⟩ := at_T66 HR0.out x5_1 p159 q159
                    have hw159_3 := hx159_3
                    have hw159_2 := hx159_2
                    have hw159_1 := hx159_1
                    have hw159_0 := hx159_0
                    cases e159
                    replace hx159_0 := (HB.out.cell (World.block_lt_of_cell? w _ hx159_0)).trans hx159_0
                    replace hx159_1 := (HB.out.cell (World.block_lt_of_cell? w _ hx159_1)).trans hx159_1
                    replace hx159_2 := (HB.out.cell (World.block_lt_of_cell? w _ hx159_2)).trans hx159_2
                    replace hx159_3 := (HB.out.cell (World.block_lt_of_cell? w _ hx159_3)).trans hx159_3
                    replace p159 := eq_true p159
                    replace q159 := eq_true q159
                    have p160 : 0 ≤ (x5_1 : Int) := of_decide_eq_true (by first | (with_reducible assumption) | assumption)
                    have q160 : x5_1 < (l1.length : Int) := of_decide_eq_true (by first | (with_reducible assumption) | assumption)
                    obtain ⟨ad160,e160,hx160_0,hx160_1,hx160_2,hx160_3⟩ := at_T66 HR1.out x5_1 p160 q160
                    have hw160_3 := hx160_3
                    have hw160_2 := hx160_2
                    have hw160_1 := hx160_1
                    have hw160_0 := hx160_0
                    cases e160
                    replace hx160_0 := (HB.out.cell (World.block_lt_of_cell? w _ hx160_0)).trans hx160_0
                    replace hx160_1 := (HB.out.cell (World.block_lt_of_cell? w _ hx160_1)).trans hx160_1
                    replace hx160_2 := (HB.out.cell (World.block_lt_of_cell? w _ hx160_2)).trans hx160_2
                    replace hx160_3 := (HB.out.cell (World.block_lt_of_cell? w _ hx160_3)).trans hx160_3
                    replace p160 := eq_true p160
                    replace q160 := eq_true q160
                    refine start_ (n := 10) (S := fun w' => w'.cell? (ad159.add ((x5_1).toNat * 4)) = some (.int .i64 ((rd_T66 l0 x5_1).f0)) ∧ w'.cell? ⟨(ad159.add ((x5_1).toNat * 4)).block,(ad159.add ((x5_1).toNat * 4)).off + 1,none⟩ = some (.bool ((rd_T66 l0 x5_1).f1)) ∧ w'.cell? ⟨(ad159.add ((x5_1).toNat * 4)).block,(ad159.add ((x5_1).toNat * 4)).off + 2,none⟩ = some (.int .i64 ((rd_T66 l0 x5_1).f2)) ∧ w'.cell? ⟨(ad159.add ((x5_1).toNat * 4)).block,(ad159.add ((x5_1).toNat * 4)).off + 3,none⟩ = some (.string ((rd_T66 l0 x5_1).f3)) ∧ w'.cell? (ad160.add ((x5_1).toNat * 4)) = some (.int .i64 ((rd_T66 l1 x5_1).f0)) ∧ w'.cell? ⟨(ad160.add ((x5_1).toNat * 4)).block,(ad160.add ((x5_1).toNat * 4)).off + 1,none⟩ = some (.bool ((rd_T66 l1 x5_1).f1)) ∧ w'.cell? ⟨(ad160.add ((x5_1).toNat * 4)).block,(ad160.add ((x5_1).toNat * 4)).off + 2,none⟩ = some (.int .i64 ((rd_T66 l1 x5_1).f2)) ∧ w'.cell? ⟨(ad160.add ((x5_1).toNat * 4)).block,(ad160.add ((x5_1).toNat * 4)).off + 3,none⟩ = some (.string ((rd_T66 l1 x5_1).f3))) (ds := []) #[false,false,false,false,false,false,false,false,false,false] (by kernel_rfl) rfl rfl ⟨((HB.out.cell (World.block_lt_of_cell? w _ hw159_0)).trans hw159_0),((HB.out.cell (World.block_lt_of_cell? w _ hw159_1)).trans hw159_1),((HB.out.cell (World.block_lt_of_cell? w _ hw159_2)).trans hw159_2),((HB.out.cell (World.block_lt_of_cell? w _ hw159_3)).trans hw159_3),((HB.out.cell (World.block_lt_of_cell? w _ hw160_0)).trans hw160_0),((HB.out.cell (World.block_lt_of_cell? w _ hw160_1)).trans hw160_1),((HB.out.cell (World.block_lt_of_cell? w _ hw160_2)).trans hw160_2),((HB.out.cell (World.block_lt_of_cell? w _ hw160_3)).trans hw160_3)⟩ (fun hHeld => ?_);refine with_tabW verdererref02_Compare.tab4 verdererref02_Compare.bits4 (fun HT_ HW_ => ?_)
                    generalize wc.drew = w13 at HB hx159_0 hx159_1 hx159_2 hx159_3 hx160_0 hx160_1 hx160_2 hx160_3 hHeld ⊢
                    refine pure_ (i := 0) (N := some 19) (v := ?_) (a' := ?_) #[true,false,false,false,false,false,false,false,false,false] rfl rfl (any_of HT_.out (by kernel_rfl)) (fun _ _ _ h => h) (Or.inl ⟨by rfl,?_⟩) ?_ ?_
                    rotate_left
                    · intro w'
                      go_simp
                      with_reducible rfl
                    rotate_left
                    · simp only [Act.put,zA,zB,zC,i64_w,i32_w]
                      rfl
                    refine pure_ (i := 1) (N := some 20) (v := ?_) (a' := ?_) #[true,true,false,false,false,false,false,false,false,false] rfl rfl (any_of HT_.out (by kernel_rfl)) (fun _ _ _ h => h) (Or.inl ⟨by rfl,?_⟩) ?_ ?_
                    rotate_left
                    · intro w'
                      go_simp
                      with_reducible rfl
                    rotate_left
                    · simp only [Act.put,zA,zB,zC,i64_w,i32_w]
                      rfl
                    refine pure_ (i := 2) (N := some 21) (v := ?_) (a' := ?_) #[true,true,true,false,false,false,false,false,false,false] rfl rfl (any_of HT_.out (by kernel_rfl)) (fun _ _ _ h => h) (Or.inl ⟨by rfl,?_⟩) ?_ ?_
                    rotate_left
                    · intro w'
                      go_simp
                      with_reducible rfl
                    rotate_left
                    · simp only [Act.put,zA,zB,zC,i64_w,i32_w]
                      rfl
                    refine pure_ (i := 4) (N := some 23) (v := ?_) (a' := ?_) #[true,true,true,false,true,false,false,false,false,false] rfl rfl (any_of HT_.out (by kernel_rfl)) (fun _ _ _ h => h) (Or.inl ⟨by rfl,?_⟩) ?_ ?_
                    rotate_left
                    · intro w'
                      go_simp
                      with_reducible rfl
                    rotate_left
                    · simp only [Act.put,zA,zB,zC,i64_w,i32_w]
                      rfl
                    refine pure_ (i := 5) (N := some 24) (v := ?_) (a' := ?_) #[true,true,true,false,true,true,false,false,false,false] rfl rfl (any_of HT_.out (by kernel_rfl)) (fun _ _ _ h => h) (Or.inl ⟨by rfl,?_⟩) ?_ ?_
                    rotate_left
                    · intro w'
                      go_simp
                      with_reducible rfl
                    rotate_left
                    · simp only [Act.put,zA,zB,zC,i64_w,i32_w]
                      rfl
                    refine pure_ (i := 6) (N := some 25) (v := ?_) (a' := ?_) #[true,true,true,false,true,true,true,false,false,false] rfl rfl (any_of HT_.out (by kernel_rfl)) (fun _ _ _ h => h) (Or.inl ⟨by rfl,?_⟩) ?_ ?_
                    rotate_left
                    · intro w'
                      go_simp
                      with_reducible rfl
                    rotate_left
                    · simp only [Act.put,zA,zB,zC,i64_w,i32_w]
                      rfl
                    refine take_ (i := 3) (N := some 22) (v := ?_) (a' := ?_) #[true,true,true,true,true,true,true,false,false,false] rfl rfl (take_ofW HT_.out HW_.out (by kernel_rfl)) (fun _ _ _ h => h) (Or.inl ⟨by rfl,?_⟩) hHeld ?_ ?_
                    rotate_left
                    · rintro w' ⟨s0,s1,s2,s3,s4,s5,s6,s7⟩
                      go_simp
                      with_reducible rfl
                    rotate_left
                    · simp only [Act.put,zA,zB,zC,i64_w,i32_w]
                      rfl
                    refine take_ (i := 7) (N := some 26) (v := ?_) (a' := ?_) #[true,true,true,true,true,true,true,true,false,false] rfl rfl (take_ofW HT_.out HW_.out (by kernel_rfl)) (fun _ _ _ h => h) (Or.inl ⟨by rfl,?_⟩) hHeld ?_ ?_
                    rotate_left
                    · rintro w' ⟨s0,s1,s2,s3,s4,s5,s6,s7⟩
                      go_simp
                      with_reducible rfl
                    rotate_left
                    · simp only [Act.put,zA,zB,zC,i64_w,i32_w]
                      rfl
                    refine one_ (i := 8) (N := some 27) #[true,true,true,true,true,true,true,true,true,false] rfl rfl (one_of HT_.out (by kernel_rfl)) (by decide) (fun K hK => ?_)
                    refine goes_ Try.func116 (by kernel_rfl) rfl #[.agg #[.int .i64 ((rd_T66 l0 x5_1).f0),.bool ((rd_T66 l0 x5_1).f1),.int .i64 ((rd_T66 l0 x5_1).f2),.string ((rd_T66 l0 x5_1).f3)],.agg #[.int .i64 ((rd_T66 l1 x5_1).f0),.bool ((rd_T66 l1 x5_1).f1),.int .i64 ((rd_T66 l1 x5_1).f2),.string ((rd_T66 l1 x5_1).f3)]] (by rfl) rfl rfl (by (try simp only [List.map_toArray,List.map_cons,List.map_nil]);first | done | rfl | (simp only [List.length_drop,List.length_take];rfl)) ?_
                    with_reducible refine (verdererref01_Compare.calls kj2 ((rd_T66 l0 x5_1).f0) ((rd_T66 l0 x5_1).f1) ((rd_T66 l0 x5_1).f2) ((rd_T66 l0 x5_1).f3) ((rd_T66 l1 x5_1).f0) ((rd_T66 l1 x5_1).f1) ((rd_T66 l1 x5_1).f2) ((rd_T66 l1 x5_1).f3) t161 _ A9.out).mono ?_
                    rintro e w14 ⟨rfl,hb⟩
                    refine ⟨_,rfl,?_⟩
                    have n0_ := Aside0.mk (below_step (by repeat (first | (with_reducible first | exact HB.out | apply below_alloc | apply pw_below_drewN | apply below_drew1) | exact HB.out)) hb)
                    clear HB
                    have HB := n0_
                    clear n0_
                    (try clear hb)
                    (try clear hb2)
                    (try clear hk)
                    (try clear hi)
                    refine hK.out _ _ ⟨((HB.out.cell (World.block_lt_of_cell? w _ hw159_0)).trans hw159_0),((HB.out.cell (World.block_lt_of_cell? w _ hw159_1)).trans hw159_1),((HB.out.cell (World.block_lt_of_cell? w _ hw159_2)).trans hw159_2),((HB.out.cell (World.block_lt_of_cell? w _ hw159_3)).trans hw159_3),((HB.out.cell (World.block_lt_of_cell? w _ hw160_0)).trans hw160_0),((HB.out.cell (World.block_lt_of_cell? w _ hw160_1)).trans hw160_1),((HB.out.cell (World.block_lt_of_cell? w _ hw160_2)).trans hw160_2),((HB.out.cell (World.block_lt_of_cell? w _ hw160_3)).trans hw160_3)⟩ (fun hHeld => ?_)
                    clear hK K
                    refine norm_ (a' := ?_) ?_ ?_
                    rotate_left
                    · show Act.put _ (some 27) _ = _
                      simp only [Act.put,zA,zB,zC,i64_w,i32_w]
                      rfl
                    refine pure_ (i := 9) (N := some 6) (v := ?_) (a' := ?_) #[true,true,true,true,true,true,true,true,true,true] rfl rfl (any_of HT_.out (by kernel_rfl)) (fun _ _ _ h => h) (Or.inl ⟨by rfl,?_⟩) ?_ ?_
                    rotate_left
                    · intro w'
                      go_simp
                      with_reducible rfl
                    rotate_left
                    · simp only [Act.put,zA,zB,zC,i64_w,i32_w]
                      rfl
                    refine done_ (done_of HT_.out (by kernel_rfl)) ?_
                    try go_wp2
                    go_ret
                    exact ⟨by first | rfl | (simp [errW_none,errW_some] <;> rfl) | (simp [*,errW_none,errW_some] <;> rfl),by repeat (first | (with_reducible first | exact HB.out | apply below_alloc | apply pw_below_drewN | apply below_drew1) | exact HB.out)⟩
                · rw [if_neg c8] at H
                  exact absurd H (by simp)
              · rw [if_neg c7] at H
                exact absurd H (by simp)
            · rw [if_neg c6] at H
              exact absurd H (by simp)
          · replace c5 := Bool.eq_false_iff.mpr c5
            subst c5
            have H1 : (if (l0.length : Int) < (l1.length : Int) then (some (-1)) else (if (l0.length : Int) > (l1.length : Int) then (some 1) else (some 0))) = some r := by rw [if_neg (show ¬ (false = true) by decide)] at H;exact H
            clear H
            have H := H1
            clear H1
            by_cases c15 : (l0.length : Int) < (l1.length : Int)
            · rw [if_pos c15] at H
              have c15b0 : decide ((l0.length : Int) < (l1.length : Int)) = true := decide_eq_true c15
              have c15b1 : decide (l0.length < l1.length) = true := decide_eq_true (Int.ofNat_lt.mp c15)
              clear c15
              obtain rfl := Option.some.inj H
              go_wp2
              go_ret
              exact ⟨by first | rfl | (simp [errW_none,errW_some] <;> rfl) | (simp [*,errW_none,errW_some] <;> rfl),by repeat (first | (with_reducible first | exact HB.out | apply below_alloc | apply pw_below_drewN | apply below_drew1) | exact HB.out)⟩
            · rw [if_neg c15] at H
              have c15b0 : decide ((l0.length : Int) < (l1.length : Int)) = false := decide_eq_false c15
              have c15b1 : decide (l0.length < l1.length) = false := decide_eq_false (fun h => c15 (Int.ofNat_lt.mpr h))
              clear c15
              by_cases c16 : (l0.length : Int) > (l1.length : Int)
              · rw [if_pos c16] at H
                have c16b0 : decide ((l1.length : Int) < (l0.length : Int)) = true := decide_eq_true c16
                have c16b1 : decide (l1.length < l0.length) = true := decide_eq_true (Int.ofNat_lt.mp c16)
                clear c16
                obtain rfl := Option.some.inj H
                go_wp2
                go_ret
                exact ⟨by first | rfl | (simp [errW_none,errW_some] <;> rfl) | (simp [*,errW_none,errW_some] <;> rfl),by repeat (first | (with_reducible first | exact HB.out | apply below_alloc | apply pw_below_drewN | apply below_drew1) | exact HB.out)⟩
              · rw [if_neg c16] at H
                have c16b0 : decide ((l1.length : Int) < (l0.length : Int)) = false := decide_eq_false c16
                have c16b1 : decide (l1.length < l0.length) = false := decide_eq_false (fun h => c16 (Int.ofNat_lt.mpr h))
                clear c16
                obtain rfl := Option.some.inj H
                go_wp2
                go_ret
                exact ⟨by first | rfl | (simp [errW_none,errW_some] <;> rfl) | (simp [*,errW_none,errW_some] <;> rfl),by repeat (first | (with_reducible first | exact HB.out | apply below_alloc | apply pw_below_drewN | apply below_drew1) | exact HB.out)⟩
end Go.Proofs.Ythmbfcfomcaaaaa.Z
end
section
namespace Go.Proofs.Ythmbfcfomcaaaaa.Z
open Go.RowKit Go.Proofs.YthmbfcfomcaaaaaW.PrintWords Go.Proofs.YthmbfcfomcaaaaaW.PrintLast Go.Proofs.YthmbfcfomcaaaaaW.PrintMore
attribute [local go_sem] max2_int min2_int max_two min_two max_three min_three max_four min_four
set_option linter.unusedVariables false
set_option linter.unusedSimpArgs false
attribute [local go_sem high] eqA66
def verdererref02_Equal.l0 : Nat → List (S66) → List (S66) → Int → Option (Bool)
  | 0,_,_,_ => none
  | k + 1,x0,x1,x5 => if x5 < (x0.length : Int) then (if 0 ≤ x5 then (if x5 < (x1.length : Int) then (if (!(((rd_T66 x0 x5).f0) == ((rd_T66 x1 x5).f0)) || (!(((rd_T66 x0 x5).f1) == ((rd_T66 x1 x5).f1)) || (!(((rd_T66 x0 x5).f2) == ((rd_T66 x1 x5).f2)) || (!((((rd_T66 x0 x5).f3).toList) == (((rd_T66 x1 x5).f3).toList)))))) = true then (some false) else (verdererref02_Equal.l0 k x0 x1 (wrap64 (x5 + 1)))) else (none)) else (none)) else (some true)
def verdererref02_Equal.f (k : Nat) (l0 : List (S66)) (l1 : List (S66)) : Option (Bool) := if (l0.length : Int) = (l1.length : Int) then (verdererref02_Equal.l0 k l0 l1 0) else (some false)
theorem verdererref02_Equal.mono_l : ∀ k,(∀ y0 y1 y2,LeO (verdererref02_Equal.l0 k y0 y1 y2) (verdererref02_Equal.l0 (k + 1) y0 y1 y2))
  | 0 => fun _ _ _ r h => by simp [verdererref02_Equal.l0] at h
  | k + 1 => by
    have ih0 := verdererref02_Equal.mono_l k
    · intro y0 y1 y2
      unfold verdererref02_Equal.l0
      repeat' first
      | (with_reducible exact ih0 _ _ _)
      | (with_reducible exact LeO.refl _)
      | (with_reducible exact LeO.none _)
      | (with_reducible refine LeO.ite ?_ ?_)
      | (with_reducible refine LeO.bind ?_ (fun _ => ?_))
      | exact ih0 _ _ _
      | exact LeO.none _
      | refine LeO.ite ?_ ?_
      | refine LeO.bind ?_ (fun _ => ?_)
theorem verdererref02_Equal.mono : ∀ a0 a1 k,LeO (verdererref02_Equal.f k a0 a1) (verdererref02_Equal.f (k + 1) a0 a1) := by
  intro a0 a1 k
  have ih0 := verdererref02_Equal.mono_l k
  unfold verdererref02_Equal.f
  repeat' first
      | (with_reducible exact ih0 _ _ _)
      | (with_reducible exact LeO.refl _)
      | (with_reducible exact LeO.none _)
      | (with_reducible refine LeO.ite ?_ ?_)
      | (with_reducible refine LeO.bind ?_ (fun _ => ?_))
      | exact ih0 _ _ _
      | exact LeO.none _
      | refine LeO.ite ?_ ?_
      | refine LeO.bind ?_ (fun _ => ?_)
set_option maxHeartbeats 8000000 in
set_option maxRecDepth 100000 in
theorem verdererref02_Equal.calls (k : Nat) (A0 : Option Addr) (c0 : Nat) (l0 : List (S66)) (A1 : Option Addr) (c1 : Nat) (l1 : List (S66)) (r : Bool) (w : World) (hr0 : Kd.C k66 w A0 l0.length l0) (hc0 : l0.length ≤ c0) (hr1 : Kd.C k66 w A1 l1.length l1) (hc1 : l1.length ≤ c1) (h : verdererref02_Equal.f k l0 l1 = some r) :
    Calls Try.prog 22 #[.slice A0 l0.length c0,.slice A1 l1.length c1] w fun e w' => e = .returned (.bool r) ∧ Drawn0 w w' := by
  have hu66 := Try.underlying66
  have HR0 := Aside0.mk hr0
  have HC0 := Aside0.mk hc0
  clear hr0 hc0
  have HR1 := Aside0.mk hr1
  have HC1 := Aside0.mk hc1
  clear hr1 hc1
  have H : (if (l0.length : Int) = (l1.length : Int) then (verdererref02_Equal.l0 k l0 l1 0) else (some false)) = some r := h
  clear h
  by_cases c3 : (l0.length : Int) = (l1.length : Int)
  · rw [if_pos c3] at H
    have c3b0 : ((l0.length : Int) == (l1.length : Int)) = true := beq_iff_eq.mpr c3
    have c3b1 : ((l0.length : Int) != (l1.length : Int)) = false := bne_eq_false_iff_eq.mpr c3
    have c3b2 : (l0.length == l1.length) = true := by first | simpa using c3 | (simp at c3 ⊢;omega)
    clear c3
    have H' := Aside0.mk H
    clear H
    go_enter Try.func22,Try.ntmps22
    go_wp2
    repeat (go_quiet (fail);try go_wp2)
    go_loopg [5] k (fun kq v5 w' => ∃ (x5_1 : Int),v5 = .int .i64 x5_1 ∧ Aside0 (verdererref02_Equal.l0 kq l0 l1 x5_1 = some r) ∧ Aside0 (kq ≤ k) ∧ Drawn0 w w')
    case atStart => exact ⟨(0),(by first | rfl | (simp;done) | (simp [*];done)),H',⟨Nat.le_refl _⟩,by repeat (first | exact Drawn0.refl _ | apply Drawn0.step)⟩
    case round =>
      clear H'
      try clear c1
      try clear c2
      try clear p2
      try clear c3
      try clear c3b0
      try clear c3b1
      try clear c3b2
      obtain ⟨x5_1,rfl,HA,HK1,⟨m1,rfl⟩⟩ := hrel
      cases gk with
      | zero => exact absurd HA.out (by simp [verdererref02_Equal.l0])
      | succ k1 =>
        have H := HA.out
        clear HA
        simp only [verdererref02_Equal.l0] at H
        by_cases c4 : x5_1 < (l0.length : Int)
        · rw [if_pos c4] at H
          have c4b0 : decide (x5_1 < (l0.length : Int)) = true := decide_eq_true c4
          clear c4
          by_cases c5 : 0 ≤ x5_1
          · rw [if_pos c5] at H
            have c5b0 : decide (0 ≤ x5_1) = true := decide_eq_true c5
            clear c5
            by_cases c6 : x5_1 < (l1.length : Int)
            · rw [if_pos c6] at H
              have c6b0 : decide (x5_1 < (l1.length : Int)) = true := decide_eq_true c6
              clear c6
              by_cases c7 : (!(((rd_T66 l0 x5_1).f0) == ((rd_T66 l1 x5_1).f0)) || (!(((rd_T66 l0 x5_1).f1) == ((rd_T66 l1 x5_1).f1)) || (!(((rd_T66 l0 x5_1).f2) == ((rd_T66 l1 x5_1).f2)) || (!((((rd_T66 l0 x5_1).f3).toList) == (((rd_T66 l1 x5_1).f3).toList)))))) = true
              · rw [if_pos c7] at H
                have c7b0 : (!(((rd_T66 l0 x5_1).f0) == ((rd_T66 l1 x5_1).f0)) || (!(((rd_T66 l0 x5_1).f1) == ((rd_T66 l1 x5_1).f1)) || (!(((rd_T66 l0 x5_1).f2) == ((rd_T66 l1 x5_1).f2)) || (!((((rd_T66 l0 x5_1).f3).toList) == (((rd_T66 l1 x5_1).f3).toList)))))) = true := c7
                clear c7
                obtain rfl := Option.some.inj H
                have p166 : 0 ≤ (x5_1 : Int) := of_decide_eq_true (by first | (with_reducible assumption) | assumption)
                have q166 : x5_1 < (l0.length : Int) := of_decide_eq_true (by first | (with_reducible assumption) | assumption)
                obtain ⟨ad166,e166,hx166_0,hx166_1,hx166_2,hx166_3⟩ := at_T66 HR0.out x5_1 p166 q166
                cases e166
                replace p166 := eq_true p166
                replace q166 := eq_true q166
                have p167 : 0 ≤ (x5_1 : Int) := of_decide_eq_true (by first | (with_reducible assumption) | assumption)
                have q167 : x5_1 < (l1.length : Int) := of_decide_eq_true (by first | (with_reducible assumption) | assumption)
                obtain ⟨ad167,e167,hx167_0,hx167_1,hx167_2,hx167_3⟩ := at_T66 HR1.out x5_1 p167 q167
                cases e167
                replace p167 := eq_true p167
                replace q167 := eq_true q167
                go_wp2
                repeat (go_quiet (fail);try go_wp2)
                go_ret
                exact ⟨by first | rfl | (simp;done) | (simp [*];done),by repeat (first | exact Drawn0.refl _ | apply Drawn0.step)⟩
              · rw [if_neg c7] at H
                have c7b0 : (!(((rd_T66 l0 x5_1).f0) == ((rd_T66 l1 x5_1).f0)) || (!(((rd_T66 l0 x5_1).f1) == ((rd_T66 l1 x5_1).f1)) || (!(((rd_T66 l0 x5_1).f2) == ((rd_T66 l1 x5_1).f2)) || (!((((rd_T66 l0 x5_1).f3).toList) == (((rd_T66 l1 x5_1).f3).toList)))))) = false := by simpa using c7
                clear c7
                have H' := Aside0.mk H
                clear H
                have p166 : 0 ≤ (x5_1 : Int) := of_decide_eq_true (by first | (with_reducible assumption) | assumption)
                have q166 : x5_1 < (l0.length : Int) := of_decide_eq_true (by first | (with_reducible assumption) | assumption)
                obtain ⟨ad166,e166,hx166_0,hx166_1,hx166_2,hx166_3⟩ := at_T66 HR0.out x5_1 p166 q166
                cases e166
                replace p166 := eq_true p166
                replace q166 := eq_true q166
                have p167 : 0 ≤ (x5_1 : Int) := of_decide_eq_true (by first | (with_reducible assumption) | assumption)
                have q167 : x5_1 < (l1.length : Int) := of_decide_eq_true (by first | (with_reducible assumption) | assumption)
                obtain ⟨ad167,e167,hx167_0,hx167_1,hx167_2,hx167_3⟩ := at_T66 HR1.out x5_1 p167 q167
                cases e167
                replace p167 := eq_true p167
                replace q167 := eq_true q167
                go_wp2
                repeat (go_quiet (fail);try go_wp2)
                go_roundg k1
                case measure => have := HK1.out;omega
                case rel => exact ⟨(wrap64 (x5_1 + 1)),(by first | rfl | (simp;done) | (simp [*];done)),H',⟨by have := HK1.out;omega⟩,by repeat (first | exact Drawn0.refl _ | apply Drawn0.step)⟩
            · rw [if_neg c6] at H
              exact absurd H (by simp)
          · rw [if_neg c5] at H
            exact absurd H (by simp)
        · rw [if_neg c4] at H
          have c4b0 : decide (x5_1 < (l0.length : Int)) = false := decide_eq_false c4
          clear c4
          obtain rfl := Option.some.inj H
          go_wp2
          repeat (go_quiet (fail);try go_wp2)
          go_ret
          exact ⟨by first | rfl | (simp;done) | (simp [*];done),by repeat (first | exact Drawn0.refl _ | apply Drawn0.step)⟩
  · rw [if_neg c3] at H
    have c3b0 : ((l0.length : Int) == (l1.length : Int)) = false := beq_eq_false_iff_ne.mpr c3
    have c3b1 : ((l0.length : Int) != (l1.length : Int)) = true := bne_iff_ne.mpr c3
    have c3b2 : (l0.length == l1.length) = false := by first | simpa using c3 | (simp at c3 ⊢;omega)
    obtain rfl := Option.some.inj H
    go_enter Try.func22,Try.ntmps22
    go_wp2
    repeat (go_quiet (fail);try go_wp2)
    go_ret
    exact ⟨by first | rfl | (simp;done) | (simp [*];done),by repeat (first | exact Drawn0.refl _ | apply Drawn0.step)⟩
end Go.Proofs.Ythmbfcfomcaaaaa.Z
end
section
namespace Go.Proofs.Ythmbfcfomcaaaaa.Z
open Go.RowKit Go.Proofs.YthmbfcfomcaaaaaW.PrintWords Go.Proofs.YthmbfcfomcaaaaaW.PrintLast Go.Proofs.YthmbfcfomcaaaaaW.PrintMore Go.Proofs.Ythmbfcfomcaaaaa.Cmp
theorem bt_get {s : ByteArray} {i : Nat} (h : i < s.size) : bt s (i : Int) = ((s.data.toList[i]'(by simpa using h)).toNat : Int) := by
  rw [← bt_at s (i : Int) (by simpa using h)]
  rfl
theorem bytes_drop {s : ByteArray} {i : Nat} (h : i < s.size) : s.data.toList.drop i = s.data.toList[i]'(by simpa using h) :: s.data.toList.drop (i + 1) := List.drop_eq_getElem_cons (by simpa using h)
end Go.Proofs.Ythmbfcfomcaaaaa.Z
end
section
namespace Go.Proofs.Ythmbfcfomcaaaaa.Z
open Go.RowKit Go.Proofs.YthmbfcfomcaaaaaW.PrintWords Go.Proofs.YthmbfcfomcaaaaaW.PrintLast Go.Proofs.YthmbfcfomcaaaaaW.PrintMore Go.Proofs.Ythmbfcfomcaaaaa.Cmp
def vright (a : S66) : Bool := if a.f0 = 0 then !a.f1 && (a.f2 == 0 && a.f3.toList == ([] : List UInt8)) else if a.f0 = 1 then (a.f2 == 0 && a.f3.toList == ([] : List UInt8)) else if a.f0 = 2 then (!a.f1 && a.f3.toList == ([] : List UInt8)) else if a.f0 = 3 then (!a.f1 && (a.f2 == 0 && decide (a.f3.size ≤ 60))) else false
theorem vright_f (a : S66) : value_Right.f a.f0 a.f1 a.f2 a.f3 = some (vright a) := by
  unfold value_Right.f vright
  simp only [value_Null.f,value_Bool.f,value_Int.f,value_Text.f,Option.bind_some]
  by_cases k0 : a.f0 = 0
  · rw [if_pos k0,if_pos k0,k0];cases a.f1 <;> simp
  · by_cases k1 : a.f0 = 1
    · rw [if_neg k0,if_neg k0,if_pos k1,if_pos k1,k1];cases a.f1 <;> simp
    · by_cases k2 : a.f0 = 2
      · rw [if_neg k0,if_neg k0,if_neg k1,if_neg k1,if_pos k2,if_pos k2,k2];cases a.f1 <;> simp
      · by_cases k3 : a.f0 = 3
        · rw [if_neg k0,if_neg k0,if_neg k1,if_neg k1,if_neg k2,if_neg k2,if_pos k3,if_pos k3,k3]
          cases a.f1 <;> simp
          · by_cases h : a.f2 = 0
            · rw [if_pos h]
              simp [h]
              omega
            · rw [if_neg h]
              simp [h]
        · rw [if_neg k0,if_neg k0,if_neg k1,if_neg k1,if_neg k2,if_neg k2,if_neg k3,if_neg k3]
theorem right1_f (a : S66) : row_Right_1.f a.f0 a.f1 a.f2 a.f3 = some (!vright a) := by
  unfold row_Right_1.f
  rw [vright_f]
  rfl
def rright (r : List S66) : Bool := decide (r.length ≤ 40) && r.all vright
theorem indexFunc_l0 (x : List S66) (hl : x.length ≤ 9223372036854775807) : ∀ d i k,x.length - i = d → i ≤ x.length → d < k → ∃ r,slices_IndexFunc_105.l0 k x (x.length : Int) (i : Int) = some r ∧ decide (r ≥ 0) = !((x.drop i).all vright) := by
  intro d
  induction d with
  | zero =>
    intro i k hd hi hk
    obtain ⟨k,rfl⟩ : ∃ m,k = m + 1 := ⟨k - 1,by omega⟩
    refine ⟨-1,?_,?_⟩
    · simp only [slices_IndexFunc_105.l0]
      rw [if_neg (by omega)]
    · rw [List.drop_eq_nil_of_le (by omega)];rfl
  | succ d ih =>
    intro i k hd hi hk
    obtain ⟨k,rfl⟩ : ∃ m,k = m + 1 := ⟨k - 1,by omega⟩
    have hlt : i < x.length := by omega
    simp only [slices_IndexFunc_105.l0]
    rw [if_pos (by omega),if_pos (by omega),if_pos (by omega),right1_f,Option.bind_some,drop_rd hlt,List.all_cons]
    cases hv : vright (rd_T66 x i) with
    | false =>
      refine ⟨(i : Int),?_,?_⟩
      · rfl
      · simp
    | true =>
      simp only [Bool.not_true,Bool.false_eq_true,if_false,Bool.true_and]
      rw [wrap_succ hlt hl]
      exact ih (i + 1) k (by omega) (by omega) (by omega)
theorem rright_f (r : List S66) (k : Nat) (hk : 40 < k) : row_Right.f k r = some (rright r) := by
  unfold row_Right.f rright slices_ContainsFunc_90.f slices_IndexFunc_105.f
  by_cases h : r.length ≤ 40
  · obtain ⟨q,h1,h2⟩ := indexFunc_l0 r (by omega) r.length 0 k (by omega) (by omega) (by omega)
    rw [show ((0 : Nat) : Int) = 0 from rfl] at h1
    rw [if_pos (by omega),h1]
    simp only [Option.bind_some,h2]
    simp [h]
  · rw [if_neg (by omega)]
    simp [h]
end Go.Proofs.Ythmbfcfomcaaaaa.Z
end
section
namespace Go.Proofs.Ythmbfcfomcaaaaa.Z
set_option linter.unusedVariables false
set_option linter.unusedSimpArgs false
open Go.RowKit Go.Proofs.YthmbfcfomcaaaaaW.PrintWords Go.Proofs.YthmbfcfomcaaaaaW.PrintLast Go.Proofs.YthmbfcfomcaaaaaW.PrintMore Go.Proofs.Ythmbfcfomcaaaaa.Cmp
structure RowC (w : World) (A : Option Addr) (c : Nat) (r : List S66) : Prop where
  cap : r.length ≤ c
  row : Kd.C k66 w A r.length r
theorem RowC.below {w w1 : World} {A : Option Addr} {c : Nat} {r : List S66} (h : RowC w A c r) (hb : Below w.heap.size w w1) : RowC w1 A c r := ⟨h.cap,Kd.C_below h.row hb⟩
theorem RowC.max {w : World} {A : Option Addr} {c : Nat} {r : List S66} (h : RowC w A c r) : r.length ≤ 9223372036854775807 := h.row.2.1
theorem EntIn.c {w : World} {D : Nat → Prop} {e : Ent} (h : EntIn w D e) : RowC w e.A e.c e.row := ⟨h.cap,Kd.F_now h.row⟩
theorem cmp_at (A0 A1 : Option Addr) (c0 c1 : Nat) (l0 l1 : List S66) (w : World) (h0 : RowC w A0 c0 l0) (h1 : RowC w A1 c1 l1) :
    Calls Try.prog 93 #[.slice A0 l0.length c0,.slice A1 l1.length c1] w fun e w' => e = .returned (.int .i64 (rcmp l0 l1)) ∧ Below w.heap.size w w' :=
  row_Compare.calls (l0.length + 1) A0 c0 l0 A1 c1 l1 (rcmp l0 l1) w h0.row h0.cap h1.row h1.cap (rowCompare_f l0 l1 h0.max (l0.length + 1) (by omega))
def adr : Option (Nat × Ent) → Option Addr
  | none => none
  | some x => some ⟨x.1,0,none⟩
def isRow (r : List S66) (x : Nat × Ent) : Bool := decide (rcmp r x.2.row = 0)
theorem srt_items {a b : List (Nat × Ent)} {x : Nat × Ent} (h : Srt (entsL (a ++ x :: b))) : (∀ y ∈ a,rcmp y.2.row x.2.row < 0) ∧ (∀ y ∈ b,rcmp x.2.row y.2.row < 0) := by
  rw [entsL_app] at h
  have := Srt.app (e := x.2) (by simpa [entsL] using h)
  exact ⟨fun y hy => this.2.2.1 y.2 (List.mem_map_of_mem (f := Prod.snd) hy),fun y hy => this.2.2.2 y.2 (List.mem_map_of_mem (f := Prod.snd) hy)⟩
theorem find_append {α : Type} (p : α → Bool) (a b : List α) : (a ++ b).find? p = match a.find? p with | some x => some x | none => b.find? p := by
  rw [List.find?_append]
  cases a.find? p <;> rfl
theorem find_none' {α : Type} {p : α → Bool} {a : List α} (h : ∀ x ∈ a,p x = false) : a.find? p = none := List.find?_eq_none.2 (fun x hx => by simp [h x hx])
theorem isRow_left {a b : List (Nat × Ent)} {x : Nat × Ent} (r : List S66) (h : Srt (entsL (a ++ x :: b))) (hc : rcmp r x.2.row < 0) : (a ++ x :: b).find? (isRow r) = a.find? (isRow r) := by
  obtain ⟨h1,h2⟩ := srt_items h
  rw [find_append,List.find?_cons,find_none' (a := b) (fun y hy => by
    have := rcmp_law.lt_le hc (Int.le_of_lt (h2 y hy))
    unfold isRow;exact decide_eq_false (by omega))]
  have : isRow r x = false := by unfold isRow;exact decide_eq_false (by omega)
  rw [this]
  cases a.find? (isRow r) <;> rfl
theorem isRow_right {a b : List (Nat × Ent)} {x : Nat × Ent} (r : List S66) (h : Srt (entsL (a ++ x :: b))) (hc : 0 < rcmp r x.2.row) : (a ++ x :: b).find? (isRow r) = b.find? (isRow r) := by
  obtain ⟨h1,h2⟩ := srt_items h
  have k1 : rcmp x.2.row r < 0 := by rw [rcmp_anti];omega
  rw [find_append,find_none' (a := a) (fun y hy => by
    have := rcmp_law.lt_le (h1 y hy) (Int.le_of_lt k1)
    rw [rcmp_anti] at this
    unfold isRow;exact decide_eq_false (by omega)),List.find?_cons]
  have : isRow r x = false := by unfold isRow;exact decide_eq_false (by omega)
  rw [this]
theorem isRow_here {a b : List (Nat × Ent)} {x : Nat × Ent} (r : List S66) (h : Srt (entsL (a ++ x :: b))) (hc : rcmp r x.2.row = 0) : (a ++ x :: b).find? (isRow r) = some x := by
  obtain ⟨h1,h2⟩ := srt_items h
  rw [find_append,find_none' (a := a) (fun y hy => by
    have := h1 y hy
    have e := rcmp_law.eq_left y.2.row hc
    have : rcmp r y.2.row = rcmp x.2.row y.2.row := e
    have k := rcmp_anti y.2.row x.2.row
    unfold isRow;exact decide_eq_false (by omega)),List.find?_cons]
  have : isRow r x = true := by unfold isRow;exact decide_eq_true hc
  rw [this]
theorem srt_left {b : Nat} {e : Ent} {l r : Tr} {h : Int} (k : Srt (Tr.node b e l r h).ents) : Srt l.ents ∧ Srt r.ents := by
  rw [Tr.ents_node] at k
  exact ⟨k.app.1,k.app.2.1⟩
set_option maxHeartbeats 4000000 in
set_option maxRecDepth 100000 in
theorem nd_find {D : Nat → Prop} (t : Tr) (A : Option Addr) (c : Nat) (r : List S66) (w : World) (h : t.In w D) (hs : Srt t.ents) (hr : RowC w A c r) :
    Calls Try.prog 61 #[t.ptr,.slice A r.length c] w fun e' w' => e' = .returned (.pointer (adr (t.items.find? (isRow r)))) ∧ Below w.heap.size w w' := by
  have HI := Aside0.mk h
  have HS := Aside0.mk hs
  have HR := Aside0.mk hr
  have HB := Aside0.mk (Below.refl w.heap.size w)
  obtain ⟨q,hq⟩ := ptr_case t
  have HQ := Aside0.mk hq
  obtain ⟨rr,hrr⟩ : ∃ rr,adr (t.items.find? (isRow r)) = rr := ⟨_,rfl⟩
  have RR := Aside0.mk hrr
  rw [hrr,hq]
  clear h hs hr hq hrr
  go_enter Try.func61,Try.ntmps61
  go_wp2_with (fail)
  go_loopg [0] t.size (fun k p wr => ∃ t2 : Tr,p = t2.ptr ∧ k = t2.size ∧ Aside0 (t2.In w D) ∧ Aside0 (Srt t2.ents) ∧ Aside0 (adr (t2.items.find? (isRow r)) = rr) ∧ Aside0 (Below w.heap.size w wr))
  case atStart => exact ⟨t,HQ.out.symm,rfl,HI,HS,RR,HB⟩
  case round =>
    clear HB HI HS RR HQ
    obtain ⟨t2,rfl,rfl,HI,HS,RR,HB⟩ := hrel
    cases t2 with
    | nil =>
      have e : rr = none := RR.out.symm
      subst e
      show Code.wp _ _ _ { tmps := _,defers := _ } _
      simp only [Tr.ptr]
      go_wp2_with (fail)
      go_ret
      exact ⟨rfl,HB.out⟩
    | node b e l r' k =>
      have c0 := blk_cell HI.out.1 0
      have c2 := blk_cell HI.out.1 2
      have c3 := blk_cell HI.out.1 3
      simp only [ncells,List.getElem?_toArray,List.getElem?_cons_zero,List.getElem?_cons_succ] at c0 c2 c3
      replace c0 := (HB.out.cell (World.block_lt_of_cell? w _ c0)).trans c0
      replace c2 := (HB.out.cell (World.block_lt_of_cell? w _ c2)).trans c2
      replace c3 := (HB.out.cell (World.block_lt_of_cell? w _ c3)).trans c3
      have RC := Aside0.mk (HR.out.below HB.out)
      have EC := Aside0.mk (HI.out.2.1.c.below HB.out)
      simp only [Tr.ptr]
      go_wp2_with (fail)
      refine (cmp_at A e.A c e.c r e.row wr RC.out EC.out).mono ?_
      rintro e' w2 ⟨rfl,hb⟩
      replace c2 := (hb.cell (World.block_lt_of_cell? _ _ c2)).trans c2
      replace c3 := (hb.cell (World.block_lt_of_cell? _ _ c3)).trans c3
      have HB2 := Aside0.mk (HB.out.trans (hb.mono HB.out.size))
      clear hb HB c0 RC EC
      obtain ⟨ql,hql⟩ := ptr_case l
      obtain ⟨qr,hqr⟩ := ptr_case r'
      rw [hql] at c2
      rw [hqr] at c3
      have QL := Aside0.mk hql
      have QR := Aside0.mk hqr
      clear hql hqr
      have SZ := Aside0.mk (Tr.size_node b e l r' k)
      obtain ⟨v,hv⟩ : ∃ v,rcmp r e.row = v := ⟨_,rfl⟩
      have HV := Aside0.mk hv
      rw [hv]
      clear hv
      rcases Int.lt_trichotomy v 0 with hc | hc | hc
      · have q1 : decide (v < 0) = true := decide_eq_true hc
        have R2 := Aside0.mk (show adr (l.items.find? (isRow r)) = rr by rw [← RR.out];exact congrArg adr (isRow_left r HS.out (by rw [HV.out];exact hc)).symm)
        go_wp2_with (fail)
        go_roundg l.size
        case measure => rw [SZ.out];omega
        case rel => exact ⟨l,QL.out.symm,rfl,⟨HI.out.2.2.1⟩,⟨(srt_left HS.out).1⟩,R2,HB2⟩
      · subst hc
        have R2 : rr = some ⟨b,0,none⟩ := by rw [← RR.out];exact congrArg adr (isRow_here r HS.out HV.out)
        subst R2
        go_wp2_with (fail)
        go_ret
        exact ⟨rfl,HB2.out⟩
      · have q1 : decide (v < 0) = false := decide_eq_false (by omega)
        have q2 : decide (0 < v) = true := decide_eq_true hc
        have R2 := Aside0.mk (show adr (r'.items.find? (isRow r)) = rr by rw [← RR.out];exact congrArg adr (isRow_right r HS.out (by rw [HV.out];exact hc)).symm)
        go_wp2_with (fail)
        go_roundg r'.size
        case measure => rw [SZ.out];omega
        case rel => exact ⟨r',QR.out.symm,rfl,⟨HI.out.2.2.2⟩,⟨(srt_left HS.out).2⟩,R2,HB2⟩
def pick (o : Option (Nat × Ent)) (d : Option Addr) : Option Addr := match o with | some x => some ⟨x.1,0,none⟩ | none => d
theorem items_head (b : Nat) (e : Ent) (l r : Tr) (k : Int) : ∃ x rest,(Tr.node b e l r k).items = x :: rest := by
  show ∃ x rest,l.items ++ (b,e) :: r.items = x :: rest
  cases l.items with
  | nil => exact ⟨_,_,rfl⟩
  | cons x t => exact ⟨x,t ++ (b,e) :: r.items,rfl⟩
set_option maxHeartbeats 4000000 in
set_option maxRecDepth 100000 in
theorem nd_first {D : Nat → Prop} (b : Nat) (e : Ent) (l r : Tr) (k : Int) (w : World) (h : (Tr.node b e l r k).In w D) :
    Calls Try.prog 70 #[.pointer (some ⟨b,0,none⟩)] w fun e' w' => e' = .returned (.pointer (adr (Tr.node b e l r k).items.head?)) ∧ Below w.heap.size w w' := by
  have HI := Aside0.mk h
  have HB := Aside0.mk (Below.refl w.heap.size w)
  obtain ⟨rr,hrr⟩ : ∃ rr,adr (Tr.node b e l r k).items.head? = rr := ⟨_,rfl⟩
  have RR := Aside0.mk hrr
  rw [hrr]
  clear h hrr
  go_enter Try.func70,Try.ntmps70
  go_wp2_with (fail)
  go_loopg [0] (Tr.node b e l r k).size (fun j p wr => ∃ (b : Nat) (e : Ent) (l r : Tr) (k : Int),p = .pointer (some ⟨b,0,none⟩) ∧ j = (Tr.node b e l r k).size ∧ Aside0 ((Tr.node b e l r k).In w D) ∧ Aside0 (adr (Tr.node b e l r k).items.head? = rr) ∧ Aside0 (Below w.heap.size w wr))
  case atStart => exact ⟨b,e,l,r,k,rfl,rfl,HI,RR,HB⟩
  case round =>
    clear HB HI RR
    obtain ⟨b,e,l,r,k,rfl,rfl,HI,RR,HB⟩ := hrel
    have c2 := blk_cell HI.out.1 2
    simp only [ncells,List.getElem?_toArray,List.getElem?_cons_zero,List.getElem?_cons_succ] at c2
    replace c2 := (HB.out.cell (World.block_lt_of_cell? w _ c2)).trans c2
    cases l with
    | nil =>
      have e : rr = some ⟨b,0,none⟩ := RR.out.symm
      subst e
      simp only [Tr.ptr] at c2
      go_wp2_with (fail)
      go_ret
      exact ⟨rfl,HB.out⟩
    | node b1 e1 l1 r1 k1 =>
      simp only [Tr.ptr] at c2
      have SZ := Aside0.mk (show (Tr.node b1 e1 l1 r1 k1).size < (Tr.node b e (.node b1 e1 l1 r1 k1) r k).size by rw [Tr.size_node b];omega)
      have R2 := Aside0.mk (show adr (Tr.node b1 e1 l1 r1 k1).items.head? = rr by
        rw [← RR.out]
        obtain ⟨x,rest,hx⟩ := items_head b1 e1 l1 r1 k1
        show _ = adr ((Tr.node b1 e1 l1 r1 k1).items ++ _).head?
        rw [hx];rfl)
      go_wp2_with (fail)
      go_roundg (Tr.node b1 e1 l1 r1 k1).size
      case measure => exact SZ.out
      case rel => exact ⟨b1,e1,l1,r1,k1,rfl,rfl,⟨HI.out.2.2.1⟩,R2,HB⟩
end Go.Proofs.Ythmbfcfomcaaaaa.Z
end
section
namespace Go.Proofs.Ythmbfcfomcaaaaa.Z
set_option linter.unusedVariables false
set_option linter.unusedSimpArgs false
open Go.RowKit Go.Proofs.YthmbfcfomcaaaaaW.PrintWords Go.Proofs.YthmbfcfomcaaaaaW.PrintLast Go.Proofs.YthmbfcfomcaaaaaW.PrintMore Go.Proofs.Ythmbfcfomcaaaaa.Cmp
theorem cmpI_zero {a b : Int} (h : cmpI a b = 0) : a = b := cmpI_eq.1 h
theorem bytes_ext {a b : ByteArray} (h : a.data.toList = b.data.toList) : a = b := by
  cases a with | mk da => cases b with | mk db => exact congrArg ByteArray.mk (Array.toList_inj.1 h)
theorem bytes_nil {a : ByteArray} (h : (a.toList == ([] : List UInt8)) = true) : a.data.toList = [] := by
  rw [beq_iff_eq] at h
  rw [← ByteArray.toList_eq a];exact h
theorem vright_eq {a b : S66} (ha : vright a = true) (hb : vright b = true) (h : vcmp a b = 0) : a = b := by
  obtain ⟨a0,a1,a2,a3⟩ := a
  obtain ⟨b0,b1,b2,b3⟩ := b
  unfold vcmp at h
  by_cases h0 : a0 = b0
  · subst h0
    simp only [if_true] at h
    unfold kcmp at h
    unfold vright at ha hb
    simp only at ha hb h
    by_cases k0 : a0 = 0
    · subst k0
      simp only [if_true,Bool.and_eq_true,Bool.not_eq_true',beq_iff_eq] at ha hb
      obtain ⟨rfl,rfl,e1⟩ := ha
      obtain ⟨rfl,rfl,e2⟩ := hb
      exact congrArg _ (bytes_ext ((bytes_nil (by simpa using e1)).trans (bytes_nil (by simpa using e2)).symm))
    · rw [if_neg k0] at ha hb
      by_cases k1 : a0 = 1
      · subst k1
        simp only [if_true,Bool.and_eq_true,beq_iff_eq] at ha hb h
        obtain ⟨rfl,e1⟩ := ha
        obtain ⟨rfl,e2⟩ := hb
        have := cmpI_zero h
        have e3 : a1 = b1 := by cases a1 <;> cases b1 <;> simp_all [b2i]
        subst e3
        exact congrArg _ (bytes_ext ((bytes_nil (by simpa using e1)).trans (bytes_nil (by simpa using e2)).symm))
      · rw [if_neg k1] at ha hb h
        by_cases k2 : a0 = 2
        · subst k2
          simp only [if_true,Bool.and_eq_true,Bool.not_eq_true',beq_iff_eq] at ha hb h
          obtain ⟨rfl,e1⟩ := ha
          obtain ⟨rfl,e2⟩ := hb
          have := cmpI_zero h
          subst this
          exact congrArg _ (bytes_ext ((bytes_nil (by simpa using e1)).trans (bytes_nil (by simpa using e2)).symm))
        · rw [if_neg k2] at ha hb h
          by_cases k3 : a0 = 3
          · subst k3
            simp only [if_true,Bool.and_eq_true,Bool.not_eq_true',beq_iff_eq] at ha hb h
            obtain ⟨rfl,rfl,e1⟩ := ha
            obtain ⟨rfl,rfl,e2⟩ := hb
            exact congrArg _ (bytes_ext (cmpB_eq h))
          · rw [if_neg k3] at ha
            cases ha
  · rw [if_neg (show ¬ (a0 = b0) from h0)] at h
    exact absurd (cmpI_zero h) h0
theorem lex_right : ∀ {a b : List S66},a.all vright = true → b.all vright = true → lexC vcmp a b = 0 → a = b
  | [],[],_,_,_ => rfl
  | [],_ :: _,_,_,h => by simp [lexC] at h
  | _ :: _,[],_,_,h => by simp [lexC] at h
  | x :: a,y :: b,ha,hb,h => by
    simp only [List.all_cons,Bool.and_eq_true] at ha hb
    unfold lexC at h
    by_cases hc : vcmp x y = 0
    · rw [if_pos hc] at h
      rw [vright_eq ha.1 hb.1 hc,lex_right ha.2 hb.2 h]
    · rw [if_neg hc] at h
      exact absurd h hc
theorem rright_eq {a b : List S66} (ha : rright a = true) (hb : rright b = true) (h : rcmp a b = 0) : a = b := by
  unfold rright at ha hb
  rw [Bool.and_eq_true] at ha hb
  exact lex_right ha.2 hb.2 h
end Go.Proofs.Ythmbfcfomcaaaaa.Z
end
section
namespace Go.Proofs.Ythmbfcfomcaaaaa.Z
set_option linter.unusedVariables false
set_option linter.unusedSimpArgs false
open Go.RowKit Go.Proofs.YthmbfcfomcaaaaaW.PrintWords Go.Proofs.YthmbfcfomcaaaaaW.PrintLast Go.Proofs.YthmbfcfomcaaaaaW.PrintMore Go.Proofs.Ythmbfcfomcaaaaa.Cmp
def Tr.put (g : Nat) (en : Ent) : Tr → List (Nat × Ent)
  | .nil => [(g,en)]
  | .node b e l r _ => if rcmp en.row e.row < 0 then l.put g en ++ (b,e) :: r.items else l.items ++ (b,e) :: r.put g en
theorem Tr.put_len (g : Nat) (en : Ent) : ∀ t : Tr,(t.put g en).length = t.size + 1
  | .nil => rfl
  | .node b e l r h => by
    rw [Tr.size_node]
    simp only [Tr.put]
    split
    · rw [List.length_append,List.length_cons,Tr.put_len g en l];show _ + (r.size + 1) = _;omega
    · rw [List.length_append,List.length_cons,Tr.put_len g en r];show l.size + _ = _;omega
theorem Tr.put_ids (g : Nat) (en : Ent) : ∀ (t : Tr) (x : Nat),x ∈ idsL (t.put g en) → x ∈ t.ids ∨ x = g
  | .nil,x,h => by simp [Tr.put,idsL] at h;exact .inr h
  | .node b e l r h,x,hx => by
    rw [Tr.ids_node]
    simp only [Tr.put] at hx
    split at hx
    · rw [idsL_app] at hx
      rcases List.mem_append.1 hx with q | q
      · exact (Tr.put_ids g en l x q).imp (fun q => by simp [q]) id
      · refine .inl (List.mem_append_right _ ?_)
        simpa [idsL,Tr.ids] using q
    · rw [idsL_app] at hx
      rcases List.mem_append.1 hx with q | q
      · exact .inl (List.mem_append_left _ q)
      · rcases List.mem_cons.1 (show x ∈ b :: idsL (r.put g en) from by simpa [idsL] using q) with q | q
        · exact .inl (by simp [q])
        · exact (Tr.put_ids g en r x q).imp (fun q => by simp [q]) id
structure Put (w : World) (D : Nat → Prop) (en : Ent) (t t' : Tr) (w' : World) : Prop where
  inn : NdIn w' D t'
  hok : t'.Hok
  items : ∃ g,w.heap.size ≤ g ∧ t'.items = t.put g en
  ch : Ch (fun x => x ∈ t.ids) w w'
theorem put_sub {w w' : World} {D : Nat → Prop} {en : Ent} {t t' : Tr} (h : Put w D en t t' w') : ∀ x ∈ t'.ids,x ∈ t.ids ∨ w.heap.size ≤ x := fun x hx => by
  obtain ⟨g,hg,hi⟩ := h.items
  unfold Tr.ids at hx
  rw [hi] at hx
  rcases Tr.put_ids g en t x hx with q | q
  · exact .inl q
  · exact .inr (by omega)
def entV (en : Ent) : Value := .agg #[.slice en.A en.row.length en.c,.int .i64 en.many]
set_option maxHeartbeats 4000000 in
set_option maxRecDepth 100000 in
theorem nd_put0 {D : Nat → Prop} (en : Ent) (w : World) (he : EntIn w D en) (hD : ∀ k,D k → k < w.heap.size) :
    Calls Try.prog 62 #[.pointer none,entV en] w fun e' w' => ∃ t',e' = .returned t'.ptr ∧ Put w D en .nil t' w' := by
  have HE := Aside0.mk he
  have HD := Aside0.mk hD
  clear he hD
  simp only [entV]
  go_enter Try.func62,Try.ntmps62
  go_wp2_with (fail)
  go_ret
  have b1 : Below w.heap.size w ((w.alloc (Obj.cells #[Value.slice en.A en.row.length en.c,Value.int IntKind.i64 en.many] 34)).alloc (Obj.cells (ncells en .nil .nil 1) 90)) := below_alloc (below_alloc (Below.refl _ _) _) _
  have h1 : ((w.alloc (Obj.cells #[Value.slice en.A en.row.length en.c,Value.int IntKind.i64 en.many] 34)).alloc (Obj.cells (ncells en .nil .nil 1) 90)).heap[w.heap.size + 1]? = some (.cells (ncells en .nil .nil 1) 90 (0,0)) := by
    have := blk_new (w.alloc (Obj.cells #[Value.slice en.A en.row.length en.c,Value.int IntKind.i64 en.many] 34)) (Obj.cells (ncells en .nil .nil 1) 90)
    rwa [World.size_alloc] at this
  exact ⟨.node (w.heap.size + 1) en .nil .nil 1,rfl,mkNd h1 (HE.out.step (fun k hk hlt => b1.block k hlt)) trivial trivial (by simp [Tr.ids_nil]) (fun x hx hm => by
    have := HD.out x hx
    simp [Tr.ids_nil] at hm
    omega),⟨by omega,by simp [Tr.size_nil],trivial,trivial⟩,⟨w.heap.size + 1,by omega,rfl⟩,Ch.of_below b1⟩
set_option maxHeartbeats 4000000 in
set_option maxRecDepth 100000 in
theorem nd_put {D : Nat → Prop} (en : Ent) (t : Tr) : ∀ (w : World) (h : NdIn w D t) (hok : t.Hok) (hs : t.size ≤ 400000000000000000) (he : EntIn w D en) (hD : ∀ k,D k → k < w.heap.size),
    Calls Try.prog 62 #[t.ptr,entV en] w fun e' w' => ∃ t',e' = .returned t'.ptr ∧ Put w D en t t' w' := by
  induction t with
  | nil => intro w h hok hs he hD;exact nd_put0 en w he hD
  | node b e l r k ihl ihr =>
    intro w h hok hs he hD
    have hsz := Tr.size_node b e l r k
    have H0 := Aside0.mk h
    have HO := Aside0.mk hok
    have HE := Aside0.mk he
    have HD := Aside0.mk hD
    have HS := Aside0.mk (show l.size + r.size + 1 ≤ 400000000000000000 by omega)
    have IL := Aside0.mk ihl
    have IR := Aside0.mk ihr
    have H1 := Aside0.mk (h.below (w1 := w.alloc (Obj.cells #[Value.slice en.A en.row.length en.c,Value.int IntKind.i64 en.many] 34)) (below_alloc (Below.refl _ _) _))
    have HB := Aside0.mk (below_alloc (Below.refl w.heap.size w) (Obj.cells #[Value.slice en.A en.row.length en.c,Value.int IntKind.i64 en.many] 34))
    have G0 := Aside0.mk (blk_new w (Obj.cells #[Value.slice en.A en.row.length en.c,Value.int IntKind.i64 en.many] 34))
    clear h hok hs he hD hsz ihl ihr
    have c0 := blk_cell H1.out.inn.1 0
    have d0 := blk_cell G0.out 0
    have d1 := blk_cell G0.out 1
    simp only [ncells,List.getElem?_toArray,List.getElem?_cons_zero,List.getElem?_cons_succ] at c0 d0 d1
    simp only [entV,Tr.ptr]
    go_enter Try.func62,Try.ntmps62
    go_wp2_with (fail)
    obtain ⟨g,hg⟩ : ∃ g,w.heap.size = g := ⟨_,rfl⟩
    rw [hg] at G0 d0 d1 ⊢
    have HG := Aside0.mk hg
    clear hg
    have H1' : Aside0 (NdIn (w.alloc (Obj.cells #[Value.slice en.A en.row.length en.c,Value.int IntKind.i64 en.many] 34)) D (.node b e l r k)) := H1
    generalize w.alloc (Obj.cells #[Value.slice en.A en.row.length en.c,Value.int IntKind.i64 en.many] 34) = w0 at *
    go_still_tail 7,(by kernel_rfl)
    change wpList _ _ _ _ _ w0.drew
    have B1 := Aside0.mk (below_drew1 HB.out)
    have H2 := Aside0.mk (H1.out.heap (w' := w0.drew) rfl)
    have G1 : Aside0 (w0.drew.heap[g]? = some (.cells #[Value.slice en.A en.row.length en.c,Value.int IntKind.i64 en.many] 34 (0,0))) := G0
    clear H1 H1' HB G0 c0 d0 d1
    generalize w0.drew = w1 at *
    go_wp2_with (fail)
    refine (cmp_at en.A e.A en.c e.c en.row e.row w1 (HE.out.c.below B1.out) H2.out.inn.2.1.c).mono ?_
    rintro e' w2 ⟨rfl,hb⟩
    have B2 := Aside0.mk (B1.out.trans (hb.mono B1.out.size))
    have H3 := Aside0.mk (H2.out.below hb)
    have G2 := Aside0.mk (blk_below G1.out hb)
    clear hb B1 H2 G1
    obtain ⟨v,hv⟩ : ∃ v,rcmp en.row e.row = v := ⟨_,rfl⟩
    have HV := Aside0.mk hv
    rw [hv]
    clear hv
    by_cases hc : v < 0
    · have q1 : decide (v < 0) = true := decide_eq_true hc
      go_wp2_with (fail)
      have c2 := blk_cell H3.out.inn.1 2
      have d0 := blk_cell G2.out 0
      have d1 := blk_cell G2.out 1
      simp only [ncells,List.getElem?_toArray,List.getElem?_cons_zero,List.getElem?_cons_succ] at c2 d0 d1
      go_region_with ((go_at_call 62;(refine (IL.out w2.drew (H3.out.left.heap (w' := w2.drew) rfl) HO.out.2.2.1 (by have := HS.out;omega) (HE.out.step (fun x hx hlt => B2.out.block x hlt)) (fun x hx => Nat.lt_of_lt_of_le (HD.out x hx) B2.out.size)).mono ?_);rintro e' w3 ⟨t1,rfl,hp⟩;have PT := Aside0.mk hp;have ss := (H3.out.heap (w' := w2.drew) rfl).set_left hp.ch (fun _ q => q) hp.inn (put_sub hp);have S2 := Aside0.mk ss.2;have z2 := blk_frozen ss.1 2;have y2 := blk_cell ss.1 2;simp only [ncells,List.getElem?_toArray,List.getElem?_cons_zero,List.getElem?_cons_succ] at y2;obtain ⟨q,hq⟩ := ptr_case t1;rw [hq] at S2 ⊢;have HQ := Aside0.mk hq;clear hp ss hq c2 d0 d1))
      all_goals
        clear z2 y2
        have S3 := Aside0.mk S2.out.1
        have C3 := Aside0.mk (((Ch.of_below (S := fun x => x ∈ (Tr.node b e l r k).ids) B2.out).drew).then_ S2.out.2 (fun x q => .inl (by rw [Tr.ids_node];rcases q with q | q <;> simp [q])))
        clear S2
        generalize w3.setCell ⟨b,2,none⟩ (.pointer q) = w4 at *
        go_wp2_with (fail)
        refine (nd_even b e t1 r k w4 S3.out PT.out.hok HO.out.2.2.2 (by have := HS.out;obtain ⟨g2,_,hi⟩ := PT.out.items;have h2 := Tr.put_len g2 en l;rw [← hi] at h2;change t1.size = _ at h2;omega)).mono ?_
        rintro e' w5 ⟨t',rfl,hev⟩
        have EV := Aside0.mk hev
        clear hev S3
        go_wp2_with (fail)
        go_ret
        refine ⟨t',rfl,EV.out.inn,EV.out.hok,?_,C3.out.then_ EV.out.ch (fun x q => ?_)⟩
        · obtain ⟨g2,hg2,hi⟩ := PT.out.items
          refine ⟨g2,Nat.le_trans B2.out.size hg2,EV.out.items.trans ?_⟩
          simp only [Tr.put,Tr.items]
          rw [if_pos (by rw [HV.out];exact hc),hi]
        · rw [Tr.ids_node] at q ⊢
          rcases List.mem_append.1 q with q | q
          · rcases put_sub PT.out x q with q | q
            · exact .inl (by simp [q])
            · exact .inr (Nat.le_trans B2.out.size q)
          · exact .inl (List.mem_append_right _ q)
    · have q1 : decide (v < 0) = false := decide_eq_false hc
      go_wp2_with (fail)
      have c3 := blk_cell H3.out.inn.1 3
      have d0 := blk_cell G2.out 0
      have d1 := blk_cell G2.out 1
      simp only [ncells,List.getElem?_toArray,List.getElem?_cons_zero,List.getElem?_cons_succ] at c3 d0 d1
      go_region_with ((go_at_call 62;(refine (IR.out w2.drew (H3.out.right.heap (w' := w2.drew) rfl) HO.out.2.2.2 (by have := HS.out;omega) (HE.out.step (fun x hx hlt => B2.out.block x hlt)) (fun x hx => Nat.lt_of_lt_of_le (HD.out x hx) B2.out.size)).mono ?_);rintro e' w3 ⟨t1,rfl,hp⟩;have PT := Aside0.mk hp;have ss := (H3.out.heap (w' := w2.drew) rfl).set_right hp.ch (fun _ q => q) hp.inn (put_sub hp);have S2 := Aside0.mk ss.2;have z2 := blk_frozen ss.1 3;have y2 := blk_cell ss.1 3;simp only [ncells,List.getElem?_toArray,List.getElem?_cons_zero,List.getElem?_cons_succ] at y2;obtain ⟨q,hq⟩ := ptr_case t1;rw [hq] at S2 ⊢;have HQ := Aside0.mk hq;clear hp ss hq c3 d0 d1))
      all_goals
        clear z2 y2
        have S3 := Aside0.mk S2.out.1
        have C3 := Aside0.mk (((Ch.of_below (S := fun x => x ∈ (Tr.node b e l r k).ids) B2.out).drew).then_ S2.out.2 (fun x q => .inl (by rw [Tr.ids_node];rcases q with q | q <;> simp [q])))
        clear S2
        generalize w3.setCell ⟨b,3,none⟩ (.pointer q) = w4 at *
        go_wp2_with (fail)
        refine (nd_even b e l t1 k w4 S3.out HO.out.2.2.1 PT.out.hok (by have := HS.out;obtain ⟨g2,_,hi⟩ := PT.out.items;have h2 := Tr.put_len g2 en r;rw [← hi] at h2;change t1.size = _ at h2;omega)).mono ?_
        rintro e' w5 ⟨t',rfl,hev⟩
        have EV := Aside0.mk hev
        clear hev S3
        go_wp2_with (fail)
        go_ret
        refine ⟨t',rfl,EV.out.inn,EV.out.hok,?_,C3.out.then_ EV.out.ch (fun x q => ?_)⟩
        · obtain ⟨g2,hg2,hi⟩ := PT.out.items
          refine ⟨g2,Nat.le_trans B2.out.size hg2,EV.out.items.trans ?_⟩
          simp only [Tr.put,Tr.items]
          rw [if_neg (by rw [HV.out];omega),hi]
        · rw [Tr.ids_node] at q ⊢
          rcases List.mem_append.1 q with q | q
          · exact .inl (List.mem_append_left _ q)
          · rcases List.mem_cons.1 q with q | q
            · exact .inl (by simp [q])
            · rcases put_sub PT.out x q with q | q
              · exact .inl (by simp [q])
              · exact .inr (Nat.le_trans B2.out.size q)
end Go.Proofs.Ythmbfcfomcaaaaa.Z
end
section
namespace Go.Proofs.Ythmbfcfomcaaaaa.Z
set_option linter.unusedVariables false
set_option linter.unusedSimpArgs false
open Go.RowKit Go.Proofs.YthmbfcfomcaaaaaW.PrintWords Go.Proofs.YthmbfcfomcaaaaaW.PrintLast Go.Proofs.YthmbfcfomcaaaaaW.PrintMore Go.Proofs.Ythmbfcfomcaaaaa.Cmp
structure Drop (w : World) (D : Nat → Prop) (r : List S66) (t t' : Tr) (w' : World) : Prop where
  inn : NdIn w' D t'
  hok : t'.Hok
  ents : t'.ents = others r t.ents
  sub : ∀ x ∈ t'.ids,x ∈ t.ids
  ch : Ch (fun x => x ∈ t.ids) w w'
theorem Drop.size {w w' : World} {D : Nat → Prop} {r : List S66} {t t' : Tr} (h : Drop w D r t t' w') : t'.size ≤ t.size := by
  rw [← Tr.size_ents,← Tr.size_ents,h.ents]
  exact List.length_filter_le _ _
theorem NdIn.set_ent {w : World} {D : Nat → Prop} {b : Nat} {e e1 : Ent} {l r : Tr} {k : Int} (h : NdIn w D (.node b e l r k)) (he : EntIn w D e1) :
    NdIn ((w.setCell ⟨b,0,none⟩ (.slice e1.A e1.row.length e1.c)).setCell ⟨b,1,none⟩ (.int .i64 e1.many)) D (.node b e1 l r k) ∧ Ch (fun x => x = b) w ((w.setCell ⟨b,0,none⟩ (.slice e1.A e1.row.length e1.c)).setCell ⟨b,1,none⟩ (.int .i64 e1.many)) := by
  obtain ⟨n1,n2,n3,n4⟩ := h.root
  have cb : Ch (fun x => x = b) w ((w.setCell ⟨b,0,none⟩ (.slice e1.A e1.row.length e1.c)).setCell ⟨b,1,none⟩ (.int .i64 e1.many)) := ((Ch.refl (fun x => x = b) w).setCell (p := ⟨b,0,none⟩) (.inl rfl) _).setCell (p := ⟨b,1,none⟩) (.inl rfl) _
  have c1 := blk_put (cs' := #[.slice e1.A e1.row.length e1.c,.int .i64 e.many,l.ptr,r.ptr,.int .i64 k]) h.inn.1 0 (.slice e1.A e1.row.length e1.c) rfl
  have c2 := blk_put (cs' := ncells e1 l r k) c1 1 (.int .i64 e1.many) rfl
  refine ⟨mkNd c2 (he.step (fun x hx hlt => cb.block x hlt (fun q => n4 (q ▸ hx)))) (h.left.inn.keep cb (fun x hx q => n1 (q ▸ hx)) (fun x hx q => n4 (q ▸ hx))) (h.right.inn.keep cb (fun x hx q => n2 (q ▸ hx)) (fun x hx q => n4 (q ▸ hx))) ?_ ?_,cb⟩
  · have := h.nd;rw [Tr.ids_node] at this;exact this
  · intro x hx;have := h.dis x hx;rw [Tr.ids_node] at this;exact this
theorem Tr.In.node_of {w : World} {D : Nat → Prop} : ∀ {t : Tr},t.In w D → ∀ x ∈ t.items,∃ l r k,w.heap[x.1]? = some (.cells (ncells x.2 l r k) 90 (0,0)) ∧ EntIn w D x.2
  | .nil,_,x,hx => by simp [Tr.items] at hx
  | .node b e l r h,⟨h0,he,hl,hr⟩,x,hx => by
    simp only [Tr.items] at hx
    rcases List.mem_append.1 hx with q | q
    · exact Tr.In.node_of hl x q
    · rcases List.mem_cons.1 q with q | q
      · subst q;exact ⟨l,r,h,h0,he⟩
      · exact Tr.In.node_of hr x q
theorem nd_first' {D : Nat → Prop} (b : Nat) (e : Ent) (l r : Tr) (k : Int) (bs : Nat) (es : Ent) (rest : List (Nat × Ent)) (hx : (Tr.node b e l r k).items = (bs,es) :: rest) (w : World) (h : (Tr.node b e l r k).In w D) :
    Calls Try.prog 70 #[.pointer (some ⟨b,0,none⟩)] w fun e' w' => e' = .returned (.pointer (some ⟨bs,0,none⟩)) ∧ Below w.heap.size w w' := by
  have := nd_first b e l r k w h
  rw [hx] at this
  exact this
theorem there_left {b : Nat} {e : Ent} {l r' : Tr} {k : Int} {r : List S66} (hs : Srt (Tr.node b e l r' k).ents) (hx : ∃ x ∈ (Tr.node b e l r' k).ents,rcmp r x.row = 0) (hc : rcmp r e.row < 0) : ∃ x ∈ l.ents,rcmp r x.row = 0 := by
  rw [Tr.ents_node] at hs hx
  obtain ⟨x,hm,h0⟩ := hx
  rcases List.mem_append.1 hm with q | q
  · exact ⟨x,q,h0⟩
  · rcases List.mem_cons.1 q with q | q
    · subst q;omega
    · have := rcmp_law.lt_le hc (Int.le_of_lt (hs.app.2.2.2 x q))
      omega
theorem there_right {b : Nat} {e : Ent} {l r' : Tr} {k : Int} {r : List S66} (hs : Srt (Tr.node b e l r' k).ents) (hx : ∃ x ∈ (Tr.node b e l r' k).ents,rcmp r x.row = 0) (hc : 0 < rcmp r e.row) : ∃ x ∈ r'.ents,rcmp r x.row = 0 := by
  rw [Tr.ents_node] at hs hx
  obtain ⟨x,hm,h0⟩ := hx
  rcases List.mem_append.1 hm with q | q
  · have h1 := hs.app.2.2.1 x q
    have := rcmp_law.lt_le h1 (show rcmp e.row r ≤ 0 by rw [rcmp_anti];omega)
    rw [rcmp_anti] at this
    omega
  · rcases List.mem_cons.1 q with q | q
    · subst q;omega
    · exact ⟨x,q,h0⟩
set_option maxHeartbeats 4000000 in
set_option maxRecDepth 100000 in
theorem nd_drop {D : Nat → Prop} (t : Tr) : ∀ (w : World) (A : Option Addr) (c : Nat) (r : List S66) (h : NdIn w D t) (hok : t.Hok) (hs : t.size ≤ 400000000000000000) (hsr : Srt t.ents) (hr : RowC w A c r) (hx : ∃ x ∈ t.ents,rcmp r x.row = 0),
    Calls Try.prog 64 #[t.ptr,.slice A r.length c] w fun e' w' => ∃ t',e' = .returned t'.ptr ∧ Drop w D r t t' w' := by
  induction t with
  | nil => intro w A c r h hok hs hsr hr hx;obtain ⟨x,hx,_⟩ := hx;simp [Tr.ents_nil] at hx
  | node b e l r' k ihl ihr =>
    intro w A c r h hok hs hsr hr hx
    have hsz := Tr.size_node b e l r' k
    have H1 := Aside0.mk h
    have HO := Aside0.mk hok
    have HR := Aside0.mk hr
    have HX := Aside0.mk hx
    have SR := Aside0.mk hsr
    have SE := Aside0.mk (show Srt (l.ents ++ e :: r'.ents) by rw [← Tr.ents_node b e l r' k];exact hsr)
    have HS := Aside0.mk (show l.size + r'.size + 1 ≤ 400000000000000000 by omega)
    have IL := Aside0.mk ihl
    have IR := Aside0.mk ihr
    clear h hok hs hsr hr hx hsz ihl ihr
    have c0 := blk_cell H1.out.inn.1 0
    simp only [ncells,List.getElem?_toArray,List.getElem?_cons_zero,List.getElem?_cons_succ] at c0
    simp only [Tr.ptr]
    go_enter Try.func64,Try.ntmps64
    go_wp2_with (fail)
    refine (cmp_at A e.A c e.c r e.row w HR.out H1.out.inn.2.1.c).mono ?_
    rintro e' w2 ⟨rfl,hb⟩
    have B2 := Aside0.mk hb
    have H3 := Aside0.mk (H1.out.below hb)
    have R3 := Aside0.mk (HR.out.below hb)
    clear hb c0
    have c2 := blk_cell H3.out.inn.1 2
    have c3 := blk_cell H3.out.inn.1 3
    simp only [ncells,List.getElem?_toArray,List.getElem?_cons_zero,List.getElem?_cons_succ] at c2 c3
    obtain ⟨v,hv⟩ : ∃ v,rcmp r e.row = v := ⟨_,rfl⟩
    have HV := Aside0.mk hv
    rw [hv]
    clear hv
    rcases Int.lt_trichotomy v 0 with hc | hc | hc
    · have q1 : decide (v < 0) = true := decide_eq_true hc
      go_wp2_with (fail)
      refine (IL.out w2 A c r H3.out.left HO.out.2.2.1 (by have := HS.out;omega) (srt_left SR.out).1 R3.out (there_left SR.out HX.out (by rw [HV.out];exact hc))).mono ?_
      rintro e' w3 ⟨t1,rfl,hp⟩
      have PT := Aside0.mk hp
      have ss := H3.out.set_left hp.ch (fun _ q => q) hp.inn (fun x q => .inl (hp.sub x q))
      have S2 := Aside0.mk ss.2
      have z2 := blk_frozen ss.1 2
      have y2 := blk_cell ss.1 2
      simp only [ncells,List.getElem?_toArray,List.getElem?_cons_zero,List.getElem?_cons_succ] at y2
      obtain ⟨q,hq⟩ := ptr_case t1
      rw [hq] at S2 ⊢
      clear hp ss hq c2 c3
      go_wp2_with (fail)
      have S3 := Aside0.mk S2.out.1
      have C3 := Aside0.mk ((Ch.of_below (S := fun x => x ∈ (Tr.node b e l r' k).ids) B2.out).then_ S2.out.2 (fun x q => .inl (by rw [Tr.ids_node];rcases q with q | q <;> simp [q])))
      clear S2 z2 y2
      generalize w3.setCell ⟨b,2,none⟩ (.pointer q) = w4 at *
      refine (nd_even b e t1 r' k w4 S3.out PT.out.hok HO.out.2.2.2 (by have := HS.out;have := PT.out.size;omega)).mono ?_
      rintro e' w5 ⟨t',rfl,hev⟩
      have EV := Aside0.mk hev
      clear hev S3
      go_wp2_with (fail)
      go_ret
      refine ⟨t',rfl,EV.out.inn,EV.out.hok,?_,fun x q => ?_,C3.out.then_ EV.out.ch (fun x q => .inl ?_)⟩
      · have e1 : t'.ents = t1.ents ++ e :: r'.ents := by have := congrArg entsL EV.out.items;rw [show entsL (Tr.node b e t1 r' k).items = (Tr.node b e t1 r' k).ents from rfl,Tr.ents_node] at this;exact this
        rw [e1,PT.out.ents,Tr.ents_node,oth_left r SE.out (by rw [HV.out];exact hc)]
      · have e1 := ids_of_items EV.out.items
        rw [e1,Tr.ids_node] at q
        rw [Tr.ids_node]
        rcases List.mem_append.1 q with q | q
        · exact List.mem_append_left _ (PT.out.sub x q)
        · exact List.mem_append_right _ q
      · rw [Tr.ids_node] at q ⊢
        rcases List.mem_append.1 q with q | q
        · exact List.mem_append_left _ (PT.out.sub x q)
        · exact List.mem_append_right _ q
    · subst hc
      cases l with
      | nil =>
        simp only [Tr.ptr] at c2
        obtain ⟨q,hq⟩ := ptr_case r'
        have HQ := Aside0.mk hq
        rw [hq] at c3
        clear hq
        go_wp2_with (fail)
        go_ret
        refine ⟨r',congrArg Ending.returned HQ.out.symm,H3.out.right,HO.out.2.2.2,?_,fun x q => ?_,Ch.of_below B2.out⟩
        · rw [Tr.ents_node,oth_here r SE.out HV.out];rfl
        · rw [Tr.ids_node];simp [q]
      | node b1 e1 l1 r1 k1 =>
        simp only [Tr.ptr] at c2
        cases r' with
        | nil =>
          simp only [Tr.ptr] at c3
          go_wp2_with (fail)
          go_ret
          refine ⟨.node b1 e1 l1 r1 k1,rfl,H3.out.left,HO.out.2.2.1,?_,fun x q => ?_,Ch.of_below B2.out⟩
          · rw [Tr.ents_node b e,oth_here r SE.out HV.out,Tr.ents_nil,List.append_nil]
          · rw [Tr.ids_node b e];exact List.mem_append_left _ q
        | node b2 e2 l2 r2 k2 =>
          simp only [Tr.ptr] at c3
          go_wp2_with (fail)
          obtain ⟨⟨bs,es⟩,rest,hit⟩ := items_head b2 e2 l2 r2 k2
          have HI := Aside0.mk hit
          have MI := Aside0.mk (show (bs,es) ∈ (Tr.node b2 e2 l2 r2 k2).items by rw [hit];simp)
          refine (nd_first' b2 e2 l2 r2 k2 bs es rest hit w2 H3.out.right.inn).mono ?_
          rintro e' w3 ⟨rfl,hb⟩
          have B3 := Aside0.mk (B2.out.trans (hb.mono B2.out.size))
          have H4 := Aside0.mk (H3.out.below hb)
          obtain ⟨lx,rx,kx,hcx,hex⟩ := H4.out.right.inn.node_of _ MI.out
          have EX := Aside0.mk hex
          have d0 := blk_cell hcx 0
          have d1 := blk_cell hcx 1
          have a0 := blk_cell H4.out.inn.1 0
          have a1 := blk_cell H4.out.inn.1 1
          have a3 := blk_cell H4.out.inn.1 3
          have z0 := blk_frozen H4.out.inn.1 0
          have z1 := blk_frozen H4.out.inn.1 1
          simp only [ncells,List.getElem?_toArray,List.getElem?_cons_zero,List.getElem?_cons_succ] at d0 d1 a0 a1 a3
          simp only [Tr.ptr] at a3
          have SE4 := Aside0.mk (H4.out.set_ent hex)
          clear hb hcx hex hit c2 c3 H3 R3
          go_wp2_with (fail)
          clear d0 d1 a0 a1 a3 z0 z1
          generalize (w3.setCell ⟨b,0,none⟩ (.slice es.A es.row.length es.c)).setCell ⟨b,1,none⟩ (.int .i64 es.many) = w4 at *
          have H5 := Aside0.mk SE4.out.1
          have C5 := Aside0.mk ((Ch.of_below (S := fun x => x ∈ (Tr.node b e (.node b1 e1 l1 r1 k1) (.node b2 e2 l2 r2 k2) k).ids) B3.out).then_ SE4.out.2 (fun x q => .inl (by rw [Tr.ids_node];subst q;simp)))
          have EX4 := Aside0.mk (EX.out.step (fun x hx hlt => SE4.out.2.block x hlt (fun q => H4.out.root.2.2.2 (q ▸ hx))))
          clear SE4 H4 EX
          have EN := Aside0.mk (show (Tr.node b2 e2 l2 r2 k2).ents = es :: entsL rest by unfold Tr.ents;rw [HI.out];rfl)
          have a0 := blk_cell H5.out.inn.1 0
          have a3 := blk_cell H5.out.inn.1 3
          simp only [ncells,List.getElem?_toArray,List.getElem?_cons_zero,List.getElem?_cons_succ] at a0 a3
          simp only [Tr.ptr] at a3
          have IR2 := Aside0.mk (IR.out w4.drew es.A es.c es.row (H5.out.right.heap (w' := w4.drew) rfl) HO.out.2.2.2 (by have := HS.out;omega) (srt_left SR.out).2 (EX4.out.step (w1 := w4.drew) (fun x hx hlt => rfl)).c ⟨es,by rw [EN.out];simp,rcmp_law.self _⟩)
          go_region_with ((go_at_call 64;(refine IR2.out.mono ?_);rintro e' w5 ⟨t1,rfl,hp⟩;have PT := Aside0.mk hp;have ss := (H5.out.heap (w' := w4.drew) rfl).set_right hp.ch (fun _ q => q) hp.inn (fun x q => .inl (hp.sub x q));have S2 := Aside0.mk ss.2;have z2 := blk_frozen ss.1 3;have y2 := blk_cell ss.1 3;simp only [ncells,List.getElem?_toArray,List.getElem?_cons_zero,List.getElem?_cons_succ] at y2;simp only [Tr.ptr] at y2;obtain ⟨q,hq⟩ := ptr_case t1;rw [hq] at S2 ⊢;clear hp ss hq a0 a3))
          all_goals
            clear z2 y2
            have S3 := Aside0.mk S2.out.1
            have C6 := Aside0.mk ((C5.out.drew).then_ S2.out.2 (fun x q => .inl (by rw [Tr.ids_node];rcases q with q | q <;> simp [q])))
            clear S2
            generalize w5.setCell ⟨b,3,none⟩ (.pointer q) = w6 at *
            go_wp2_with (fail)
            refine (nd_even b es (.node b1 e1 l1 r1 k1) t1 k w6 S3.out HO.out.2.2.1 PT.out.hok (by have := HS.out;have := PT.out.size;omega)).mono ?_
            rintro e' w7 ⟨t',rfl,hev⟩
            have EV := Aside0.mk hev
            clear hev S3
            go_wp2_with (fail)
            go_ret
            refine ⟨t',rfl,EV.out.inn,EV.out.hok,?_,fun x q => ?_,C6.out.then_ EV.out.ch (fun x q => .inl ?_)⟩
            · have f1 : t'.ents = (Tr.node b1 e1 l1 r1 k1).ents ++ es :: t1.ents := by have := congrArg entsL EV.out.items;rw [show entsL (Tr.node b es (Tr.node b1 e1 l1 r1 k1) t1 k).items = (Tr.node b es (Tr.node b1 e1 l1 r1 k1) t1 k).ents from rfl,Tr.ents_node b es] at this;exact this
              have f2 : others es.row (Tr.node b2 e2 l2 r2 k2).ents = entsL rest := by
                have h0 := (srt_left SR.out).2
                rw [EN.out] at h0 ⊢
                exact oth_here (a := []) es.row h0 (rcmp_law.self _)
              rw [f1,PT.out.ents,Tr.ents_node b e,oth_here r SE.out HV.out,f2,EN.out]
            · have f1 := ids_of_items EV.out.items
              rw [f1,Tr.ids_node b es] at q
              rw [Tr.ids_node b e]
              rcases List.mem_append.1 q with q | q
              · exact List.mem_append_left _ q
              · rcases List.mem_cons.1 q with q | q
                · rw [q];simp
                · exact List.mem_append_right _ (List.mem_cons_of_mem _ (PT.out.sub x q))
            · rw [Tr.ids_node b es] at q
              rw [Tr.ids_node b e]
              rcases List.mem_append.1 q with q | q
              · exact List.mem_append_left _ q
              · rcases List.mem_cons.1 q with q | q
                · rw [q];simp
                · exact List.mem_append_right _ (List.mem_cons_of_mem _ (PT.out.sub x q))
    · have q1 : decide (v < 0) = false := decide_eq_false (by omega)
      have q2 : decide (0 < v) = true := decide_eq_true hc
      go_wp2_with (fail)
      refine (IR.out w2 A c r H3.out.right HO.out.2.2.2 (by have := HS.out;omega) (srt_left SR.out).2 R3.out (there_right SR.out HX.out (by rw [HV.out];exact hc))).mono ?_
      rintro e' w3 ⟨t1,rfl,hp⟩
      have PT := Aside0.mk hp
      have ss := H3.out.set_right hp.ch (fun _ q => q) hp.inn (fun x q => .inl (hp.sub x q))
      have S2 := Aside0.mk ss.2
      have z2 := blk_frozen ss.1 3
      have y2 := blk_cell ss.1 3
      simp only [ncells,List.getElem?_toArray,List.getElem?_cons_zero,List.getElem?_cons_succ] at y2
      obtain ⟨q,hq⟩ := ptr_case t1
      rw [hq] at S2 ⊢
      clear hp ss hq c2 c3
      go_wp2_with (fail)
      have S3 := Aside0.mk S2.out.1
      have C3 := Aside0.mk ((Ch.of_below (S := fun x => x ∈ (Tr.node b e l r' k).ids) B2.out).then_ S2.out.2 (fun x q => .inl (by rw [Tr.ids_node];rcases q with q | q <;> simp [q])))
      clear S2 z2 y2
      generalize w3.setCell ⟨b,3,none⟩ (.pointer q) = w4 at *
      refine (nd_even b e l t1 k w4 S3.out HO.out.2.2.1 PT.out.hok (by have := HS.out;have := PT.out.size;omega)).mono ?_
      rintro e' w5 ⟨t',rfl,hev⟩
      have EV := Aside0.mk hev
      clear hev S3
      go_wp2_with (fail)
      go_ret
      refine ⟨t',rfl,EV.out.inn,EV.out.hok,?_,fun x q => ?_,C3.out.then_ EV.out.ch (fun x q => .inl ?_)⟩
      · have e1 : t'.ents = l.ents ++ e :: t1.ents := by have := congrArg entsL EV.out.items;rw [show entsL (Tr.node b e l t1 k).items = (Tr.node b e l t1 k).ents from rfl,Tr.ents_node] at this;exact this
        rw [e1,PT.out.ents,Tr.ents_node,oth_right r SE.out (by rw [HV.out];exact hc)]
      · have e1 := ids_of_items EV.out.items
        rw [e1,Tr.ids_node] at q
        rw [Tr.ids_node]
        rcases List.mem_append.1 q with q | q
        · exact List.mem_append_left _ q
        · rcases List.mem_cons.1 q with q | q
          · rw [q];simp
          · exact List.mem_append_right _ (List.mem_cons_of_mem _ (PT.out.sub x q))
      · rw [Tr.ids_node] at q ⊢
        rcases List.mem_append.1 q with q | q
        · exact List.mem_append_left _ q
        · rcases List.mem_cons.1 q with q | q
          · rw [q];simp
          · exact List.mem_append_right _ (List.mem_cons_of_mem _ (PT.out.sub x q))
end Go.Proofs.Ythmbfcfomcaaaaa.Z
end
