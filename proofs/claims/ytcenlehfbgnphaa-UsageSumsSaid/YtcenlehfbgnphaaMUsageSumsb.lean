/- Parts of the proof of UsageSums: what its functions answer. -/
import Derived.Test.YtcenlehfbgnphaaMUsageSumsa
import Derived.Lib.Bytealg
import Derived.RegionTactic
import Derived.BigRegion
import Derived.Deep.QuietTactic
import Derived.BigQuiet
import Derived.ChangeAlike
import Derived.Laws.Bits64
import Derived.Laws.BitsLemmas
import Derived.StillTailTactics
import Derived.Deep.LoopGhost
import Derived.Deep.RegionHeld3
import Derived.Lib.Hide
import Derived.ChangeKeysEq
import Derived.RangeFuncNested
import Derived.RangeFuncBound
import Derived.RangeFuncCalls
import Derived.RangeFuncLeaves
import Derived.Shelf.Abstract
import Derived.WalkKit
import Derived.OwnWalkIn
import Derived.TacticsInMore
import Derived.LoopNIn
import Derived.LoopIn
import Derived.Maps.OwnOps
import Derived.Maps.OwnSet
import Derived.Maps.StringElems
import Derived.Maps.RangeWalk
import Derived.Maps.OwnIn
import Derived.RangeFuncBox
import Derived.Maps.AppendAt
import Derived.Shelf.Sort.Plain
import Derived.Shelf.Slices.In.SortNone
import Derived.Test.YtcenlehfbgnphaaProg
import Derived.Sort.KeysCollected
import Derived.Sort.OwnSorted
import Derived.Maps.Ext
section
namespace Go.Proofs.Ytcenlehfbgnphaa.Z
open Go.RowKit Go.Proofs.YtcenlehfbgnphaaW.PrintWords Go.Proofs.YtcenlehfbgnphaaW.PrintLast Go.Proofs.YtcenlehfbgnphaaW.PrintMore
attribute [local go_sem] max2_int min2_int max_two min_two max_three min_three max_four min_four
set_option linter.unusedVariables false
set_option linter.unusedSimpArgs false
attribute [local go_sem high] eqA85
def usage_Own.l0 : Nat → ByteArray → List (S83) → Int → Int → Option (Int × Bool)
  | 0,_,_,_,_ => none
  | k + 1,x0,x8,x9,x10 => if x10 < x9 then (if 0 ≤ x10 then (if x10 < (x8.length : Int) then (if (((rd_T83 x8 x10).f0).length : Int) = 2 then (if 0 < (((rd_T83 x8 x10).f0).length : Int) then ((value_Text.f x0).bind fun bt467 => (if (((rd_T85 ((rd_T83 x8 x10).f0) 0).f0) == bt467.1 && (((rd_T85 ((rd_T83 x8 x10).f0) 0).f1) == bt467.2.1 && (((rd_T85 ((rd_T83 x8 x10).f0) 0).f2) == bt467.2.2.1 && ((((rd_T85 ((rd_T83 x8 x10).f0) 0).f3).toList) == bt467.2.2.2.toList)))) = true then (if 1 < (((rd_T83 x8 x10).f0).length : Int) then (if ((rd_T85 ((rd_T83 x8 x10).f0) 1).f0) = 2 then (some ((rd_T85 ((rd_T83 x8 x10).f0) 1).f2,true)) else (usage_Own.l0 k x0 x8 x9 (wrap64 (x10 + 1)))) else (none)) else (usage_Own.l0 k x0 x8 x9 (wrap64 (x10 + 1))))) else (none)) else (usage_Own.l0 k x0 x8 x9 (wrap64 (x10 + 1)))) else (none)) else (none)) else (some (0,false))
def usage_Own.f (k : Nat) (a0 : ByteArray) (l1 : List (S83)) : Option (Int × Bool) := usage_Own.l0 k a0 l1 (l1.length : Int) 0
theorem usage_Own.mono_l : ∀ k,(∀ y0 y1 y2 y3,LeO (usage_Own.l0 k y0 y1 y2 y3) (usage_Own.l0 (k + 1) y0 y1 y2 y3))
  | 0 => fun _ _ _ _ r h => by simp [usage_Own.l0] at h
  | k + 1 => by
    have ih0 := usage_Own.mono_l k
    · intro y0 y1 y2 y3
      unfold usage_Own.l0
      repeat' first
      | (with_reducible exact ih0 _ _ _ _)
      | (with_reducible exact LeO.refl _)
      | (with_reducible exact LeO.none _)
      | (with_reducible refine LeO.ite ?_ ?_)
      | (with_reducible refine LeO.bind ?_ (fun _ => ?_))
      | exact ih0 _ _ _ _
      | exact LeO.none _
      | refine LeO.ite ?_ ?_
      | refine LeO.bind ?_ (fun _ => ?_)
theorem usage_Own.mono : ∀ a0 a1 k,LeO (usage_Own.f k a0 a1) (usage_Own.f (k + 1) a0 a1) := by
  intro a0 a1 k
  have ih0 := usage_Own.mono_l k
  unfold usage_Own.f
  repeat' first
      | (with_reducible exact ih0 _ _ _ _)
      | (with_reducible exact LeO.refl _)
      | (with_reducible exact LeO.none _)
      | (with_reducible refine LeO.ite ?_ ?_)
      | (with_reducible refine LeO.bind ?_ (fun _ => ?_))
      | exact ih0 _ _ _ _
      | exact LeO.none _
      | refine LeO.ite ?_ ?_
      | refine LeO.bind ?_ (fun _ => ?_)
def usage_Own.T4 : Bool × List (List Nat × List Nat) := (true,[([],[]),([0],[0]),([1],[1]),([2],[2]),([3],[3]),([4],[4]),([5,4],[4,5]),([6,4],[4,6]),([7,4],[4,7]),([4],[4]),([9,4,4],[4,9]),([8,10,4],[4,8,10]),([4,11],[4,11]),([12,10],[12]),([13],[13]),([14,13],[13,14]),([15,13],[13,15]),([16,13],[13,16]),([17,13],[13,17]),([18,13],[13,18]),([13,19],[13,19])])
def usage_Own.B4 : List Nat := [0,1,3,7,15,31,63,127,255,31,543,2047,4095,8191,16383,32767,65535,131071,262143,524287,1048575]
theorem usage_Own.tab4 : rtab .any (opsOf Try.f58 4) = usage_Own.T4 := by kernel_rfl
theorem usage_Own.bits4 : waitsOk usage_Own.T4.2 usage_Own.B4 = true := by kernel_rfl
set_option maxHeartbeats 8000000 in
set_option maxRecDepth 100000 in
theorem usage_Own.calls (k : Nat) (a0 : ByteArray) (A1 : Option Addr) (c1 : Nat) (l1 : List (S83)) (r1 : Int) (r2 : Bool) (w : World) (hr1 : Kd.C k83 w A1 l1.length l1) (hc1 : l1.length ≤ c1) (h : usage_Own.f k a0 l1 = some (r1,r2)) :
    Calls Try.prog 58 #[.string a0,.slice A1 l1.length c1] w fun e w' => e = .returned (.tuple #[.int .i64 r1,.bool r2]) ∧ Below w.heap.size w w' := by
  have hu83 := Try.underlying83
  have hu85 := Try.underlying85
  have HR1 := Aside0.mk hr1
  have HC1 := Aside0.mk hc1
  clear hr1 hc1
  have HB := Aside0.mk (Below.refl w.heap.size w)
  have H : (usage_Own.l0 k a0 l1 (l1.length : Int) 0) = some (r1,r2) := h
  clear h
  have H' := Aside0.mk H
  clear H
  go_enter Try.func58,Try.ntmps58
  go_wp2
  go_loopg [10] k (fun kq v10 w' => ∃ (x10_1 : Int),v10 = .int .i64 x10_1 ∧ Aside0 (usage_Own.l0 kq a0 l1 (l1.length : Int) x10_1 = some (r1,r2)) ∧ Aside0 (kq ≤ k) ∧ Aside0 (Below w.heap.size w w'))
  case atStart => exact ⟨(0),(by first | rfl | (simp;done) | (simp [*];done)),H',⟨Nat.le_refl _⟩,⟨by repeat (first | (with_reducible first | exact HB.out | apply below_alloc | apply pw_below_drewN | apply below_drew1) | exact HB.out)⟩⟩
  case round =>
    clear H'
    try clear c1
    try clear p2
    obtain ⟨x10_1,rfl,HA,HK1,HB⟩ := hrel
    cases gk with
    | zero => exact absurd HA.out (by simp [usage_Own.l0])
    | succ k1 =>
      have H := HA.out
      clear HA
      simp only [usage_Own.l0] at H
      by_cases c3 : x10_1 < (l1.length : Int)
      · rw [if_pos c3] at H
        have c3b0 : decide (x10_1 < (l1.length : Int)) = true := decide_eq_true c3
        clear c3
        by_cases c4 : 0 ≤ x10_1
        · rw [if_pos c4] at H
          have c4b0 : decide (0 ≤ x10_1) = true := decide_eq_true c4
          clear c4
          by_cases c5 : x10_1 < (l1.length : Int)
          · rw [if_pos c5] at H
            have c5b0 : decide (x10_1 < (l1.length : Int)) = true := decide_eq_true c5
            clear c5
            by_cases c6 : (((rd_T83 l1 x10_1).f0).length : Int) = 2
            · rw [if_pos c6] at H
              have c6b0 : ((((rd_T83 l1 x10_1).f0).length : Int) == 2) = true := beq_iff_eq.mpr c6
              have c6b1 : ((((rd_T83 l1 x10_1).f0).length : Int) != 2) = false := bne_eq_false_iff_eq.mpr c6
              clear c6
              by_cases c7 : 0 < (((rd_T83 l1 x10_1).f0).length : Int)
              · rw [if_pos c7] at H
                have c7b0 : decide (0 < (((rd_T83 l1 x10_1).f0).length : Int)) = true := decide_eq_true c7
                have c7b1 : decide (0 < ((rd_T83 l1 x10_1).f0).length) = true := decide_eq_true (by omega)
                clear c7
                replace H := Option.bind_eq_some_iff.mp H
                obtain ⟨⟨t467,t468,t469,t470⟩,A80,H⟩ := H
                replace H : (if (((rd_T85 ((rd_T83 l1 x10_1).f0) 0).f0) == t467 && (((rd_T85 ((rd_T83 l1 x10_1).f0) 0).f1) == t468 && (((rd_T85 ((rd_T83 l1 x10_1).f0) 0).f2) == t469 && ((((rd_T85 ((rd_T83 l1 x10_1).f0) 0).f3).toList) == t470.toList)))) = true then (if 1 < (((rd_T83 l1 x10_1).f0).length : Int) then (if ((rd_T85 ((rd_T83 l1 x10_1).f0) 1).f0) = 2 then (some ((rd_T85 ((rd_T83 l1 x10_1).f0) 1).f2,true)) else (usage_Own.l0 k1 a0 l1 (l1.length : Int) (wrap64 (x10_1 + 1)))) else (none)) else (usage_Own.l0 k1 a0 l1 (l1.length : Int) (wrap64 (x10_1 + 1)))) = some (r1,r2) := H
                have A8 := Aside0.mk A80
                clear A80
                by_cases c9 : (((rd_T85 ((rd_T83 l1 x10_1).f0) 0).f0) == t467 && (((rd_T85 ((rd_T83 l1 x10_1).f0) 0).f1) == t468 && (((rd_T85 ((rd_T83 l1 x10_1).f0) 0).f2) == t469 && ((((rd_T85 ((rd_T83 l1 x10_1).f0) 0).f3).toList) == t470.toList)))) = true
                · rw [if_pos c9] at H
                  have c9b0 : (((rd_T85 ((rd_T83 l1 x10_1).f0) 0).f0) == t467 && (((rd_T85 ((rd_T83 l1 x10_1).f0) 0).f1) == t468 && (((rd_T85 ((rd_T83 l1 x10_1).f0) 0).f2) == t469 && ((((rd_T85 ((rd_T83 l1 x10_1).f0) 0).f3).toList) == t470.toList)))) = true := c9
                  (try (have c9b1 : decide (((rd_T85 ((rd_T83 l1 x10_1).f0) 0).f0) = t467 && (((rd_T85 ((rd_T83 l1 x10_1).f0) 0).f1) == t468 && (((rd_T85 ((rd_T83 l1 x10_1).f0) 0).f2) == t469 && ((((rd_T85 ((rd_T83 l1 x10_1).f0) 0).f3).toList) == t470.toList)))) = true := by simpa using c9))
                  (try (have c9b2 : (((rd_T85 ((rd_T83 l1 x10_1).f0) 0).f0) == t467 && (((rd_T85 ((rd_T83 l1 x10_1).f0) 0).f1) == t468 && (((rd_T85 ((rd_T83 l1 x10_1).f0) 0).f2) == t469 && ((((rd_T85 ((rd_T83 l1 x10_1).f0) 0).f3).toList) == t470.toList)))) = true := by simpa using c9))
                  clear c9
                  by_cases c10 : 1 < (((rd_T83 l1 x10_1).f0).length : Int)
                  · rw [if_pos c10] at H
                    have c10b0 : decide (1 < (((rd_T83 l1 x10_1).f0).length : Int)) = true := decide_eq_true c10
                    have c10b1 : decide (1 < ((rd_T83 l1 x10_1).f0).length) = true := decide_eq_true (by omega)
                    clear c10
                    by_cases c11 : ((rd_T85 ((rd_T83 l1 x10_1).f0) 1).f0) = 2
                    · rw [if_pos c11] at H
                      have c11b0 : (((rd_T85 ((rd_T83 l1 x10_1).f0) 1).f0) == 2) = true := beq_iff_eq.mpr c11
                      have c11b1 : (((rd_T85 ((rd_T83 l1 x10_1).f0) 1).f0) != 2) = false := bne_eq_false_iff_eq.mpr c11
                      clear c11
                      simp only [Option.some.injEq,Prod.mk.injEq] at H
                      obtain ⟨rfl,rfl⟩ := H
                      have p464 : 0 ≤ (x10_1 : Int) := of_decide_eq_true (by first | (with_reducible assumption) | assumption)
                      have q464 : x10_1 < (l1.length : Int) := of_decide_eq_true (by first | (with_reducible assumption) | assumption)
                      obtain ⟨ad464,A464_0,c464_0,e464,hx464_0,hx464_1,hl464_0,hi464_0⟩ := at_T83 HR1.out x10_1 p464 q464
                      cases e464
                      replace hx464_0 := (HB.out.cell (World.block_lt_of_cell? w _ hx464_0)).trans hx464_0
                      replace hx464_1 := (HB.out.cell (World.block_lt_of_cell? w _ hx464_1)).trans hx464_1
                      have HR464_0 := Aside0.mk hi464_0
                      have HC464_0 := Aside0.mk hl464_0
                      clear hi464_0 hl464_0
                      replace p464 := eq_true p464
                      replace q464 := eq_true q464
                      try go_wp2_with (first | ((with_reducible refine gate_dst (N := 7) rfl ?_);refine box_event ?hg (N := 7) ?hd (cs := #[.slice none 0 0,.int .i64 0]) (t := 83) ?hr ?_;(case hd => rfl);(case hg => rfl);(case hr => first | (go_simp;done) | (go_simp;rfl));intro gb465 hg w12 hbox hb;have n0_ := Aside0.mk (below_step (by repeat (first | (with_reducible first | exact HB.out | apply below_alloc | apply pw_below_drewN | apply below_drew1) | exact HB.out)) hb);have n1_ := Aside0.mk (hbox);have n2_ := Aside0.mk ((by rw [hg];exact (below_size (by repeat (first | (with_reducible first | exact HB.out | apply below_alloc | apply pw_below_drewN | apply below_drew1) | exact HB.out))) : w.heap.size ≤ gb465));have n3_ := Aside0.mk ((by rw [hg];exact (below_size (by repeat (first | (with_reducible first | exact HB.out | apply below_alloc | apply pw_below_drewN | apply below_drew1) | exact HB.out))) : w.heap.size ≤ gb465));clear HB;have HB := n0_;have BK465 := n1_;have GW465 := n2_;have GE465 := n3_;clear n0_ n1_ n2_ n3_;clear hb hbox hg;have hcz13_0 : w12.cell? ⟨gb465,0,none⟩ = some (.slice none 0 0) := (blk_cell BK465.out 0).trans rfl;have hcz13_1 : w12.cell? ⟨gb465,1,none⟩ = some (.int .i64 0) := (blk_cell BK465.out 1).trans rfl;have hfz13_0 := blk_frozen BK465.out 0;have hfz13_1 := blk_frozen BK465.out 1))
                      have n0_ : Aside0 (((w12.setCell ⟨gb465,0,none⟩ (.slice A464_0 ((rd_T83 l1 x10_1).f0).length c464_0)).setCell ⟨gb465,1,none⟩ (.int .i64 ((rd_T83 l1 x10_1).f1))).heap[gb465]? = some (.cells #[.slice A464_0 ((rd_T83 l1 x10_1).f0).length c464_0,.int .i64 ((rd_T83 l1 x10_1).f1)] 83 (0,0))) := ⟨by (with_reducible repeat (first | refine blk_drewN ?_ _ | refine blk_drew ?_ | refine blk_alloc ?_ _));refine blk_put (cs := #[.slice A464_0 ((rd_T83 l1 x10_1).f0).length c464_0,.int .i64 0]) ?_ 1 _ rfl;(with_reducible repeat (first | refine blk_drewN ?_ _ | refine blk_drew ?_ | refine blk_alloc ?_ _));refine blk_put (cs := #[.slice none 0 0,.int .i64 0]) ?_ 0 _ rfl;(with_reducible repeat (first | refine blk_drewN ?_ _ | refine blk_drew ?_ | refine blk_alloc ?_ _));exact BK465.out⟩
                      have n1_ : Aside0 (Below w.heap.size w ((w12.setCell ⟨gb465,0,none⟩ (.slice A464_0 ((rd_T83 l1 x10_1).f0).length c464_0)).setCell ⟨gb465,1,none⟩ (.int .i64 ((rd_T83 l1 x10_1).f1)))) := ⟨by repeat (first | (with_reducible first | exact HB.out | apply below_alloc | apply pw_below_drewN | apply below_drew1 | refine below_set ?_ GE465.out) | exact HB.out)⟩
                      (try clear BK465)
                      (try clear HB)
                      generalize ((w12.setCell ⟨gb465,0,none⟩ (.slice A464_0 ((rd_T83 l1 x10_1).f0).length c464_0)).setCell ⟨gb465,1,none⟩ (.int .i64 ((rd_T83 l1 x10_1).f1))) = w14 at n0_ n1_ ⊢
                      have BK465 := n0_
                      have HB := n1_
                      clear n0_ n1_
                      have n0_ := Aside0.mk (blk_drew BK465.out)
                      have n1_ := Aside0.mk (below_drew1 HB.out)
                      clear BK465
                      clear HB
                      have BK465 := n0_
                      have HB := n1_
                      clear n0_ n1_
                      have p466 : 0 ≤ (0 : Int) := (by omega)
                      have q466 : 0 < (((rd_T83 l1 x10_1).f0).length : Int) := of_decide_eq_true (by first | (with_reducible assumption) | assumption)
                      obtain ⟨ad466,e466,hx466_0,hx466_1,hx466_2,hx466_3⟩ := at_T85 HR464_0.out 0 p466 q466
                      have hw466_3 := hx466_3
                      (try rw [show ((0 : Int)).toNat = 0 from rfl] at hw466_3)
                      (try rw [show 0 * 4 = 0 from rfl] at hw466_3)
                      (try rw [Addr.add_zero'] at hw466_3)
                      have hw466_2 := hx466_2
                      (try rw [show ((0 : Int)).toNat = 0 from rfl] at hw466_2)
                      (try rw [show 0 * 4 = 0 from rfl] at hw466_2)
                      (try rw [Addr.add_zero'] at hw466_2)
                      have hw466_1 := hx466_1
                      (try rw [show ((0 : Int)).toNat = 0 from rfl] at hw466_1)
                      (try rw [show 0 * 4 = 0 from rfl] at hw466_1)
                      (try rw [Addr.add_zero'] at hw466_1)
                      have hw466_0 := hx466_0
                      (try rw [show ((0 : Int)).toNat = 0 from rfl] at hw466_0)
                      (try rw [show 0 * 4 = 0 from rfl] at hw466_0)
                      (try rw [Addr.add_zero'] at hw466_0)
                      cases e466
                      have qi466 : (0 < ((rd_T83 l1 x10_1).f0).length) = True := eq_true (by omega)
                      (try rw [show ((0 : Int)).toNat = 0 from rfl] at hx466_0)
                      (try rw [show 0 * 4 = 0 from rfl] at hx466_0)
                      (try rw [Addr.add_zero'] at hx466_0)
                      (try rw [show ((0 : Int)).toNat = 0 from rfl] at hx466_1)
                      (try rw [show 0 * 4 = 0 from rfl] at hx466_1)
                      (try rw [Addr.add_zero'] at hx466_1)
                      (try rw [show ((0 : Int)).toNat = 0 from rfl] at hx466_2)
                      (try rw [show 0 * 4 = 0 from rfl] at hx466_2)
                      (try rw [Addr.add_zero'] at hx466_2)
                      (try rw [show ((0 : Int)).toNat = 0 from rfl] at hx466_3)
                      (try rw [show 0 * 4 = 0 from rfl] at hx466_3)
                      (try rw [Addr.add_zero'] at hx466_3)
                      replace hx466_0 := (HB.out.cell (World.block_lt_of_cell? w _ hx466_0)).trans hx466_0
                      replace hx466_1 := (HB.out.cell (World.block_lt_of_cell? w _ hx466_1)).trans hx466_1
                      replace hx466_2 := (HB.out.cell (World.block_lt_of_cell? w _ hx466_2)).trans hx466_2
                      replace hx466_3 := (HB.out.cell (World.block_lt_of_cell? w _ hx466_3)).trans hx466_3
                      replace p466 := eq_true p466
                      replace q466 := eq_true q466
                      have p471 : 0 ≤ (1 : Int) := (by omega)
                      have q471 : 1 < (((rd_T83 l1 x10_1).f0).length : Int) := of_decide_eq_true (by first | (with_reducible assumption) | assumption)
                      obtain ⟨ad471,e471,hx471_0,hx471_1,hx471_2,hx471_3⟩ := at_T85 HR464_0.out 1 p471 q471
                      have hw471_3 := hx471_3
                      (try rw [show ((1 : Int)).toNat = 1 from rfl] at hw471_3)
                      (try rw [show 1 * 4 = 4 from rfl] at hw471_3)
                      (try simp only [Nat.reduceMul,Nat.reduceEqDiff,Go.Addr.add,↓reduceIte] at hw471_3)
                      have hw471_2 := hx471_2
                      (try rw [show ((1 : Int)).toNat = 1 from rfl] at hw471_2)
                      (try rw [show 1 * 4 = 4 from rfl] at hw471_2)
                      (try simp only [Nat.reduceMul,Nat.reduceEqDiff,Go.Addr.add,↓reduceIte] at hw471_2)
                      have hw471_1 := hx471_1
                      (try rw [show ((1 : Int)).toNat = 1 from rfl] at hw471_1)
                      (try rw [show 1 * 4 = 4 from rfl] at hw471_1)
                      (try simp only [Nat.reduceMul,Nat.reduceEqDiff,Go.Addr.add,↓reduceIte] at hw471_1)
                      have hw471_0 := hx471_0
                      (try rw [show ((1 : Int)).toNat = 1 from rfl] at hw471_0)
                      (try rw [show 1 * 4 = 4 from rfl] at hw471_0)
                      (try simp only [Nat.reduceMul,Nat.reduceEqDiff,Go.Addr.add,↓reduceIte] at hw471_0)
                      obtain rfl : ad466 = ad471 := (by injection e471)
                      (try simp only [show (1 : Int).toNat = 1 from rfl,Nat.reduceMul,Nat.reduceEqDiff,Go.Addr.add,↓reduceIte] at hx471_0)
                      (try simp only [show (1 : Int).toNat = 1 from rfl,Nat.reduceMul,Nat.reduceEqDiff,Go.Addr.add,↓reduceIte] at hx471_1)
                      (try simp only [show (1 : Int).toNat = 1 from rfl,Nat.reduceMul,Nat.reduceEqDiff,Go.Addr.add,↓reduceIte] at hx471_2)
                      (try simp only [show (1 : Int).toNat = 1 from rfl,Nat.reduceMul,Nat.reduceEqDiff,Go.Addr.add,↓reduceIte] at hx471_3)
                      have qi471 : (1 < ((rd_T83 l1 x10_1).f0).length) = True := eq_true (by omega)
                      (try rw [show ((1 : Int)).toNat = 1 from rfl] at hx471_0)
                      (try rw [show 1 * 4 = 4 from rfl] at hx471_0)
                      (try rw [show ((1 : Int)).toNat = 1 from rfl] at hx471_1)
                      (try rw [show 1 * 4 = 4 from rfl] at hx471_1)
                      (try rw [show ((1 : Int)).toNat = 1 from rfl] at hx471_2)
                      (try rw [show 1 * 4 = 4 from rfl] at hx471_2)
                      (try rw [show ((1 : Int)).toNat = 1 from rfl] at hx471_3)
                      (try rw [show 1 * 4 = 4 from rfl] at hx471_3)
                      replace hx471_0 := (HB.out.cell (World.block_lt_of_cell? w _ hx471_0)).trans hx471_0
                      replace hx471_1 := (HB.out.cell (World.block_lt_of_cell? w _ hx471_1)).trans hx471_1
                      replace hx471_2 := (HB.out.cell (World.block_lt_of_cell? w _ hx471_2)).trans hx471_2
                      replace hx471_3 := (HB.out.cell (World.block_lt_of_cell? w _ hx471_3)).trans hx471_3
                      replace p471 := eq_true p471
                      replace q471 := eq_true q471
                      refine start_ (n := 21) (S := fun w' => w'.cell? ⟨gb465,0,none⟩ = some (.slice (some ad466) ((rd_T83 l1 x10_1).f0).length c464_0) ∧ w'.cell? ⟨gb465,1,none⟩ = some (.int .i64 ((rd_T83 l1 x10_1).f1)) ∧ w'.cell? ad466 = some (.int .i64 ((rd_T85 ((rd_T83 l1 x10_1).f0) 0).f0)) ∧ w'.cell? ⟨ad466.block,ad466.off + 1,none⟩ = some (.bool ((rd_T85 ((rd_T83 l1 x10_1).f0) 0).f1)) ∧ w'.cell? ⟨ad466.block,ad466.off + 2,none⟩ = some (.int .i64 ((rd_T85 ((rd_T83 l1 x10_1).f0) 0).f2)) ∧ w'.cell? ⟨ad466.block,ad466.off + 3,none⟩ = some (.string ((rd_T85 ((rd_T83 l1 x10_1).f0) 0).f3)) ∧ w'.cell? ⟨ad466.block,ad466.off + 4,none⟩ = some (.int .i64 ((rd_T85 ((rd_T83 l1 x10_1).f0) 1).f0)) ∧ w'.cell? ⟨ad466.block,ad466.off + 4 + 1,none⟩ = some (.bool ((rd_T85 ((rd_T83 l1 x10_1).f0) 1).f1)) ∧ w'.cell? ⟨ad466.block,ad466.off + 4 + 2,none⟩ = some (.int .i64 ((rd_T85 ((rd_T83 l1 x10_1).f0) 1).f2)) ∧ w'.cell? ⟨ad466.block,ad466.off + 4 + 3,none⟩ = some (.string ((rd_T85 ((rd_T83 l1 x10_1).f0) 1).f3))) (ds := []) #[false,false,false,false,false,false,false,false,false,false,false,false,false,false,false,false,false,false,false,false,false] (by kernel_rfl) rfl rfl ⟨(blk_cell BK465.out 0).trans rfl,(blk_cell BK465.out 1).trans rfl,((HB.out.cell (World.block_lt_of_cell? w _ hw466_0)).trans hw466_0),((HB.out.cell (World.block_lt_of_cell? w _ hw466_1)).trans hw466_1),((HB.out.cell (World.block_lt_of_cell? w _ hw466_2)).trans hw466_2),((HB.out.cell (World.block_lt_of_cell? w _ hw466_3)).trans hw466_3),((HB.out.cell (World.block_lt_of_cell? w _ hw471_0)).trans hw471_0),((HB.out.cell (World.block_lt_of_cell? w _ hw471_1)).trans hw471_1),((HB.out.cell (World.block_lt_of_cell? w _ hw471_2)).trans hw471_2),((HB.out.cell (World.block_lt_of_cell? w _ hw471_3)).trans hw471_3)⟩ (fun hHeld => ?_);refine with_tabW usage_Own.tab4 usage_Own.bits4 (fun HT_ HW_ => ?_)
                      generalize w14.drew = w15 at BK465 HB hx466_0 hx466_1 hx466_2 hx466_3 hx471_0 hx471_1 hx471_2 hx471_3 hHeld ⊢
                      refine pure_ (i := 0) (N := some 14) (v := ?_) (a' := ?_) #[true,false,false,false,false,false,false,false,false,false,false,false,false,false,false,false,false,false,false,false,false] rfl rfl (any_of HT_.out (by kernel_rfl)) (fun _ _ _ h => h) (Or.inl ⟨by rfl,?_⟩) ?_ ?_
                      rotate_left
                      · intro w'
                        go_simp
                        with_reducible rfl
                      rotate_left
                      · simp only [Act.put,zA,zB,zC,i64_w,i32_w]
                        rfl
                      refine take_ (i := 1) (N := some 15) (v := ?_) (a' := ?_) #[true,true,false,false,false,false,false,false,false,false,false,false,false,false,false,false,false,false,false,false,false] rfl rfl (take_ofW HT_.out HW_.out (by kernel_rfl)) (fun _ _ _ h => h) (Or.inl ⟨by rfl,?_⟩) hHeld ?_ ?_
                      rotate_left
                      · rintro w' ⟨s0,s1,s2,s3,s4,s5,s6,s7,s8,s9⟩
                        go_simp
                        with_reducible rfl
                      rotate_left
                      · simp only [Act.put,zA,zB,zC,i64_w,i32_w]
                        rfl
                      refine pure_ (i := 2) (N := some 16) (v := ?_) (a' := ?_) #[true,true,true,false,false,false,false,false,false,false,false,false,false,false,false,false,false,false,false,false,false] rfl rfl (any_of HT_.out (by kernel_rfl)) (fun _ _ _ h => h) (Or.inl ⟨by rfl,?_⟩) ?_ ?_
                      rotate_left
                      · intro w'
                        go_simp
                        with_reducible rfl
                      rotate_left
                      · simp only [Act.put,zA,zB,zC,i64_w,i32_w]
                        rfl
                      refine pure_ (i := 3) (N := some 17) (v := ?_) (a' := ?_) #[true,true,true,true,false,false,false,false,false,false,false,false,false,false,false,false,false,false,false,false,false] rfl rfl (any_of HT_.out (by kernel_rfl)) (fun _ _ _ h => h) (Or.inl ⟨by rfl,?_⟩) ?_ ?_
                      rotate_left
                      · intro w'
                        go_simp
                        with_reducible rfl
                      rotate_left
                      · simp only [Act.put,zA,zB,zC,i64_w,i32_w]
                        rfl
                      refine pure_ (i := 4) (N := some 18) (v := ?_) (a' := ?_) #[true,true,true,true,true,false,false,false,false,false,false,false,false,false,false,false,false,false,false,false,false] rfl rfl (any_of HT_.out (by kernel_rfl)) (fun _ _ _ h => h) (Or.inl ⟨by rfl,?_⟩) ?_ ?_
                      rotate_left
                      · intro w'
                        go_simp
                        with_reducible rfl
                      rotate_left
                      · simp only [Act.put,zA,zB,zC,i64_w,i32_w]
                        rfl
                      refine pure_ (i := 5) (N := some 19) (v := ?_) (a' := ?_) #[true,true,true,true,true,true,false,false,false,false,false,false,false,false,false,false,false,false,false,false,false] rfl rfl (any_of HT_.out (by kernel_rfl)) (fun _ _ _ h => h) (Or.inl ⟨by rfl,?_⟩) ?_ ?_
                      rotate_left
                      · intro w'
                        go_simp
                        with_reducible rfl
                      rotate_left
                      · simp only [Act.put,zA,zB,zC,i64_w,i32_w]
                        rfl
                      refine pure_ (i := 9) (N := some 23) (v := ?_) (a' := ?_) #[true,true,true,true,true,true,false,false,false,true,false,false,false,false,false,false,false,false,false,false,false] rfl rfl (any_of HT_.out (by kernel_rfl)) (fun _ _ _ h => h) (Or.inl ⟨by rfl,?_⟩) ?_ ?_
                      rotate_left
                      · intro w'
                        go_simp
                        with_reducible rfl
                      rotate_left
                      · simp only [Act.put,zA,zB,zC,i64_w,i32_w]
                        rfl
                      refine take_ (i := 6) (N := some 20) (v := ?_) (a' := ?_) #[true,true,true,true,true,true,true,false,false,true,false,false,false,false,false,false,false,false,false,false,false] rfl rfl (take_ofW HT_.out HW_.out (by kernel_rfl)) (fun _ _ _ h => h) (Or.inl ⟨by rfl,?_⟩) hHeld ?_ ?_
                      rotate_left
                      · rintro w' ⟨s0,s1,s2,s3,s4,s5,s6,s7,s8,s9⟩
                        go_simp
                        with_reducible rfl
                      rotate_left
                      · simp only [Act.put,zA,zB,zC,i64_w,i32_w]
                        rfl
                      refine pure_ (i := 7) (N := some 21) (v := ?_) (a' := ?_) #[true,true,true,true,true,true,true,true,false,true,false,false,false,false,false,false,false,false,false,false,false] rfl rfl (any_of HT_.out (by kernel_rfl)) (fun _ _ _ h => h) (Or.inl ⟨by rfl,?_⟩) ?_ ?_
                      rotate_left
                      · intro w'
                        go_simp
                        with_reducible rfl
                      rotate_left
                      · simp only [Act.put,zA,zB,zC,i64_w,i32_w]
                        rfl
                      refine take_ (i := 8) (N := some 22) (v := ?_) (a' := ?_) #[true,true,true,true,true,true,true,true,true,true,false,false,false,false,false,false,false,false,false,false,false] rfl rfl (take_ofW HT_.out HW_.out (by kernel_rfl)) (fun _ _ _ h => h) (Or.inl ⟨by rfl,?_⟩) hHeld ?_ ?_
                      rotate_left
                      · rintro w' ⟨s0,s1,s2,s3,s4,s5,s6,s7,s8,s9⟩
                        go_simp
                        with_reducible rfl
                      rotate_left
                      · simp only [Act.put,zA,zB,zC,i64_w,i32_w]
                        rfl
                      refine one_ (i := 10) (N := some 24) #[true,true,true,true,true,true,true,true,true,true,true,false,false,false,false,false,false,false,false,false,false] rfl rfl (one_of HT_.out (by kernel_rfl)) (by decide) (fun K hK => ?_)
                      refine goes_ Try.func93 (by kernel_rfl) rfl #[.string a0] (by rfl) rfl rfl (by (try simp only [List.map_toArray,List.map_cons,List.map_nil]);first | done | rfl | (simp only [List.length_drop,List.length_take];rfl)) ?_
                      with_reducible refine (value_Text.calls a0 t467 t468 t469 t470 _ A8.out).mono ?_
                      rintro e w16 ⟨rfl,hb⟩
                      refine ⟨_,rfl,?_⟩
                      have n0_ := Aside0.mk (blk_below (g := gb465) (o := .cells #[.slice (some ad466) ((rd_T83 l1 x10_1).f0).length c464_0,.int .i64 ((rd_T83 l1 x10_1).f1)] 83 (0,0)) (by (with_reducible repeat (first | refine blk_drewN ?_ _ | refine blk_drew ?_ | refine blk_alloc ?_ _));exact BK465.out) hb)
                      have n1_ := Aside0.mk (below_step (by repeat (first | (with_reducible first | exact HB.out | apply below_alloc | apply pw_below_drewN | apply below_drew1 | refine below_set ?_ GE465.out) | exact HB.out)) hb)
                      clear BK465
                      clear HB
                      have BK465 := n0_
                      have HB := n1_
                      clear n0_ n1_
                      (try clear hb)
                      (try clear hb2)
                      (try clear hk)
                      (try clear hi)
                      refine hK.out _ _ ⟨(blk_cell BK465.out 0).trans rfl,(blk_cell BK465.out 1).trans rfl,((HB.out.cell (World.block_lt_of_cell? w _ hw466_0)).trans hw466_0),((HB.out.cell (World.block_lt_of_cell? w _ hw466_1)).trans hw466_1),((HB.out.cell (World.block_lt_of_cell? w _ hw466_2)).trans hw466_2),((HB.out.cell (World.block_lt_of_cell? w _ hw466_3)).trans hw466_3),((HB.out.cell (World.block_lt_of_cell? w _ hw471_0)).trans hw471_0),((HB.out.cell (World.block_lt_of_cell? w _ hw471_1)).trans hw471_1),((HB.out.cell (World.block_lt_of_cell? w _ hw471_2)).trans hw471_2),((HB.out.cell (World.block_lt_of_cell? w _ hw471_3)).trans hw471_3)⟩ (fun hHeld => ?_)
                      clear hK K
                      refine norm_ (a' := ?_) ?_ ?_
                      rotate_left
                      · show Act.put _ (some 24) _ = _
                        simp only [Act.put,zA,zB,zC,i64_w,i32_w]
                        rfl
                      refine pure_ (i := 11) (N := some 25) (v := ?_) (a' := ?_) #[true,true,true,true,true,true,true,true,true,true,true,true,false,false,false,false,false,false,false,false,false] rfl rfl (any_of HT_.out (by kernel_rfl)) (fun _ _ _ h => h) (Or.inl ⟨by rfl,?_⟩) ?_ ?_
                      rotate_left
                      · intro w'
                        go_simp
                        with_reducible rfl
                      rotate_left
                      · simp only [Act.put,zA,zB,zC,i64_w,i32_w]
                        rfl
                      refine pure_ (i := 12) (N := some 26) (v := ?_) (a' := ?_) #[true,true,true,true,true,true,true,true,true,true,true,true,true,false,false,false,false,false,false,false,false] rfl rfl (any_of HT_.out (by kernel_rfl)) (fun _ _ _ h => h) (Or.inl ⟨by rfl,?_⟩) ?_ ?_
                      rotate_left
                      · intro w'
                        go_simp
                        with_reducible rfl
                      rotate_left
                      · simp only [Act.put,zA,zB,zC,i64_w,i32_w]
                        rfl
                      refine pure_ (i := 13) (N := some 27) (v := ?_) (a' := ?_) #[true,true,true,true,true,true,true,true,true,true,true,true,true,true,false,false,false,false,false,false,false] rfl rfl (any_of HT_.out (by kernel_rfl)) (fun _ _ _ h => h) (Or.inl ⟨by rfl,?_⟩) ?_ ?_
                      rotate_left
                      · intro w'
                        go_simp
                        with_reducible rfl
                      rotate_left
                      · simp only [Act.put,zA,zB,zC,i64_w,i32_w]
                        rfl
                      refine pure_ (i := 14) (N := some 28) (v := ?_) (a' := ?_) #[true,true,true,true,true,true,true,true,true,true,true,true,true,true,true,false,false,false,false,false,false] rfl rfl (any_of HT_.out (by kernel_rfl)) (fun _ _ _ h => h) (Or.inl ⟨by rfl,?_⟩) ?_ ?_
                      rotate_left
                      · intro w'
                        go_simp
                        with_reducible rfl
                      rotate_left
                      · simp only [Act.put,zA,zB,zC,i64_w,i32_w]
                        rfl
                      refine take_ (i := 15) (N := some 29) (v := ?_) (a' := ?_) #[true,true,true,true,true,true,true,true,true,true,true,true,true,true,true,true,false,false,false,false,false] rfl rfl (take_ofW HT_.out HW_.out (by kernel_rfl)) (fun _ _ _ h => h) (Or.inl ⟨by rfl,?_⟩) hHeld ?_ ?_
                      rotate_left
                      · rintro w' ⟨s0,s1,s2,s3,s4,s5,s6,s7,s8,s9⟩
                        go_simp
                        with_reducible rfl
                      rotate_left
                      · simp only [Act.put,zA,zB,zC,i64_w,i32_w]
                        rfl
                      refine pure_ (i := 16) (N := some 30) (v := ?_) (a' := ?_) #[true,true,true,true,true,true,true,true,true,true,true,true,true,true,true,true,true,false,false,false,false] rfl rfl (any_of HT_.out (by kernel_rfl)) (fun _ _ _ h => h) (Or.inl ⟨by rfl,?_⟩) ?_ ?_
                      rotate_left
                      · intro w'
                        go_simp
                        with_reducible rfl
                      rotate_left
                      · simp only [Act.put,zA,zB,zC,i64_w,i32_w]
                        rfl
                      refine pure_ (i := 17) (N := some 31) (v := ?_) (a' := ?_) #[true,true,true,true,true,true,true,true,true,true,true,true,true,true,true,true,true,true,false,false,false] rfl rfl (any_of HT_.out (by kernel_rfl)) (fun _ _ _ h => h) (Or.inl ⟨by rfl,?_⟩) ?_ ?_
                      rotate_left
                      · intro w'
                        go_simp
                        with_reducible rfl
                      rotate_left
                      · simp only [Act.put,zA,zB,zC,i64_w,i32_w]
                        rfl
                      refine take_ (i := 18) (N := some 32) (v := ?_) (a' := ?_) #[true,true,true,true,true,true,true,true,true,true,true,true,true,true,true,true,true,true,true,false,false] rfl rfl (take_ofW HT_.out HW_.out (by kernel_rfl)) (fun _ _ _ h => h) (Or.inl ⟨by rfl,?_⟩) hHeld ?_ ?_
                      rotate_left
                      · rintro w' ⟨s0,s1,s2,s3,s4,s5,s6,s7,s8,s9⟩
                        go_simp
                        with_reducible rfl
                      rotate_left
                      · simp only [Act.put,zA,zB,zC,i64_w,i32_w]
                        rfl
                      refine pure_ (i := 19) (N := some 33) (v := ?_) (a' := ?_) #[true,true,true,true,true,true,true,true,true,true,true,true,true,true,true,true,true,true,true,true,false] rfl rfl (any_of HT_.out (by kernel_rfl)) (fun _ _ _ h => h) (Or.inl ⟨by rfl,?_⟩) ?_ ?_
                      rotate_left
                      · intro w'
                        go_simp
                        with_reducible rfl
                      rotate_left
                      · simp only [Act.put,zA,zB,zC,i64_w,i32_w]
                        rfl
                      refine pure_ (i := 20) (N := some 34) (v := ?_) (a' := ?_) #[true,true,true,true,true,true,true,true,true,true,true,true,true,true,true,true,true,true,true,true,true] rfl rfl (any_of HT_.out (by kernel_rfl)) (fun _ _ _ h => h) (Or.inl ⟨by rfl,?_⟩) ?_ ?_
                      rotate_left
                      · intro w'
                        go_simp
                        with_reducible rfl
                      rotate_left
                      · simp only [Act.put,zA,zB,zC,i64_w,i32_w]
                        rfl
                      refine done_ (done_of HT_.out (by kernel_rfl)) ?_
                      have hcz17_0 : w16.cell? ⟨gb465,0,none⟩ = some (.slice (some ad466) ((rd_T83 l1 x10_1).f0).length c464_0) := (blk_cell BK465.out 0).trans rfl
                      have hcz17_1 : w16.cell? ⟨gb465,1,none⟩ = some (.int .i64 ((rd_T83 l1 x10_1).f1)) := (blk_cell BK465.out 1).trans rfl
                      have hfz17_0 := blk_frozen BK465.out 0
                      have hfz17_1 := blk_frozen BK465.out 1
                      have p472 : 0 ≤ (1 : Int) := (by omega)
                      have q472 : 1 < (((rd_T83 l1 x10_1).f0).length : Int) := of_decide_eq_true (by first | (with_reducible assumption) | assumption)
                      obtain ⟨ad472,e472,hx472_0,hx472_1,hx472_2,hx472_3⟩ := at_T85 HR464_0.out 1 p472 q472
                      obtain rfl : ad466 = ad472 := (by injection e472)
                      (try simp only [show (1 : Int).toNat = 1 from rfl,Nat.reduceMul,Nat.reduceEqDiff,Go.Addr.add,↓reduceIte] at hx472_0)
                      (try simp only [show (1 : Int).toNat = 1 from rfl,Nat.reduceMul,Nat.reduceEqDiff,Go.Addr.add,↓reduceIte] at hx472_1)
                      (try simp only [show (1 : Int).toNat = 1 from rfl,Nat.reduceMul,Nat.reduceEqDiff,Go.Addr.add,↓reduceIte] at hx472_2)
                      (try simp only [show (1 : Int).toNat = 1 from rfl,Nat.reduceMul,Nat.reduceEqDiff,Go.Addr.add,↓reduceIte] at hx472_3)
                      have qi472 : (1 < ((rd_T83 l1 x10_1).f0).length) = True := eq_true (by omega)
                      (try rw [show ((1 : Int)).toNat = 1 from rfl] at hx472_0)
                      (try rw [show 1 * 4 = 4 from rfl] at hx472_0)
                      (try rw [show ((1 : Int)).toNat = 1 from rfl] at hx472_1)
                      (try rw [show 1 * 4 = 4 from rfl] at hx472_1)
                      (try rw [show ((1 : Int)).toNat = 1 from rfl] at hx472_2)
                      (try rw [show 1 * 4 = 4 from rfl] at hx472_2)
                      (try rw [show ((1 : Int)).toNat = 1 from rfl] at hx472_3)
                      (try rw [show 1 * 4 = 4 from rfl] at hx472_3)
                      replace hx472_0 := (HB.out.cell (World.block_lt_of_cell? w _ hx472_0)).trans hx472_0
                      replace hx472_1 := (HB.out.cell (World.block_lt_of_cell? w _ hx472_1)).trans hx472_1
                      replace hx472_2 := (HB.out.cell (World.block_lt_of_cell? w _ hx472_2)).trans hx472_2
                      replace hx472_3 := (HB.out.cell (World.block_lt_of_cell? w _ hx472_3)).trans hx472_3
                      replace p472 := eq_true p472
                      replace q472 := eq_true q472
                      try go_wp2
                      go_ret2
                      exact ⟨by first | rfl | (simp [errW_none,errW_some] <;> rfl) | (simp [*,errW_none,errW_some] <;> rfl),by repeat (first | (with_reducible first | exact HB.out | apply below_alloc | apply pw_below_drewN | apply below_drew1 | refine below_set ?_ GE465.out) | exact HB.out)⟩
                    · rw [if_neg c11] at H
                      have c11b0 : (((rd_T85 ((rd_T83 l1 x10_1).f0) 1).f0) == 2) = false := beq_eq_false_iff_ne.mpr c11
                      have c11b1 : (((rd_T85 ((rd_T83 l1 x10_1).f0) 1).f0) != 2) = true := bne_iff_ne.mpr c11
                      have H' := Aside0.mk H
                      clear H
                      have p464 : 0 ≤ (x10_1 : Int) := of_decide_eq_true (by first | (with_reducible assumption) | assumption)
                      have q464 : x10_1 < (l1.length : Int) := of_decide_eq_true (by first | (with_reducible assumption) | assumption)
                      obtain ⟨ad464,A464_0,c464_0,e464,hx464_0,hx464_1,hl464_0,hi464_0⟩ := at_T83 HR1.out x10_1 p464 q464
                      cases e464
                      replace hx464_0 := (HB.out.cell (World.block_lt_of_cell? w _ hx464_0)).trans hx464_0
                      replace hx464_1 := (HB.out.cell (World.block_lt_of_cell? w _ hx464_1)).trans hx464_1
                      have HR464_0 := Aside0.mk hi464_0
                      have HC464_0 := Aside0.mk hl464_0
                      clear hi464_0 hl464_0
                      replace p464 := eq_true p464
                      replace q464 := eq_true q464
                      try go_wp2_with (first | ((with_reducible refine gate_dst (N := 7) rfl ?_);refine box_event ?hg (N := 7) ?hd (cs := #[.slice none 0 0,.int .i64 0]) (t := 83) ?hr ?_;(case hd => rfl);(case hg => rfl);(case hr => first | (go_simp;done) | (go_simp;rfl));intro gb465 hg w18 hbox hb;have n0_ := Aside0.mk (below_step (by repeat (first | (with_reducible first | exact HB.out | apply below_alloc | apply pw_below_drewN | apply below_drew1) | exact HB.out)) hb);have n1_ := Aside0.mk (hbox);have n2_ := Aside0.mk ((by rw [hg];exact (below_size (by repeat (first | (with_reducible first | exact HB.out | apply below_alloc | apply pw_below_drewN | apply below_drew1) | exact HB.out))) : w.heap.size ≤ gb465));have n3_ := Aside0.mk ((by rw [hg];exact (below_size (by repeat (first | (with_reducible first | exact HB.out | apply below_alloc | apply pw_below_drewN | apply below_drew1) | exact HB.out))) : w.heap.size ≤ gb465));clear HB;have HB := n0_;have BK465 := n1_;have GW465 := n2_;have GE465 := n3_;clear n0_ n1_ n2_ n3_;clear hb hbox hg;have hcz19_0 : w18.cell? ⟨gb465,0,none⟩ = some (.slice none 0 0) := (blk_cell BK465.out 0).trans rfl;have hcz19_1 : w18.cell? ⟨gb465,1,none⟩ = some (.int .i64 0) := (blk_cell BK465.out 1).trans rfl;have hfz19_0 := blk_frozen BK465.out 0;have hfz19_1 := blk_frozen BK465.out 1))
                      have n0_ : Aside0 (((w18.setCell ⟨gb465,0,none⟩ (.slice A464_0 ((rd_T83 l1 x10_1).f0).length c464_0)).setCell ⟨gb465,1,none⟩ (.int .i64 ((rd_T83 l1 x10_1).f1))).heap[gb465]? = some (.cells #[.slice A464_0 ((rd_T83 l1 x10_1).f0).length c464_0,.int .i64 ((rd_T83 l1 x10_1).f1)] 83 (0,0))) := ⟨by (with_reducible repeat (first | refine blk_drewN ?_ _ | refine blk_drew ?_ | refine blk_alloc ?_ _));refine blk_put (cs := #[.slice A464_0 ((rd_T83 l1 x10_1).f0).length c464_0,.int .i64 0]) ?_ 1 _ rfl;(with_reducible repeat (first | refine blk_drewN ?_ _ | refine blk_drew ?_ | refine blk_alloc ?_ _));refine blk_put (cs := #[.slice none 0 0,.int .i64 0]) ?_ 0 _ rfl;(with_reducible repeat (first | refine blk_drewN ?_ _ | refine blk_drew ?_ | refine blk_alloc ?_ _));exact BK465.out⟩
                      have n1_ : Aside0 (Below w.heap.size w ((w18.setCell ⟨gb465,0,none⟩ (.slice A464_0 ((rd_T83 l1 x10_1).f0).length c464_0)).setCell ⟨gb465,1,none⟩ (.int .i64 ((rd_T83 l1 x10_1).f1)))) := ⟨by repeat (first | (with_reducible first | exact HB.out | apply below_alloc | apply pw_below_drewN | apply below_drew1 | refine below_set ?_ GE465.out) | exact HB.out)⟩
                      (try clear BK465)
                      (try clear HB)
                      generalize ((w18.setCell ⟨gb465,0,none⟩ (.slice A464_0 ((rd_T83 l1 x10_1).f0).length c464_0)).setCell ⟨gb465,1,none⟩ (.int .i64 ((rd_T83 l1 x10_1).f1))) = w20 at n0_ n1_ ⊢
                      have BK465 := n0_
                      have HB := n1_
                      clear n0_ n1_
                      have n0_ := Aside0.mk (blk_drew BK465.out)
                      have n1_ := Aside0.mk (below_drew1 HB.out)
                      clear BK465
                      clear HB
                      have BK465 := n0_
                      have HB := n1_
                      clear n0_ n1_
                      have p466 : 0 ≤ (0 : Int) := (by omega)
                      have q466 : 0 < (((rd_T83 l1 x10_1).f0).length : Int) := of_decide_eq_true (by first | (with_reducible assumption) | assumption)
                      obtain ⟨ad466,e466,hx466_0,hx466_1,hx466_2,hx466_3⟩ := at_T85 HR464_0.out 0 p466 q466
                      have hw466_3 := hx466_3
                      (try rw [show ((0 : Int)).toNat = 0 from rfl] at hw466_3)
                      (try rw [show 0 * 4 = 0 from rfl] at hw466_3)
                      (try rw [Addr.add_zero'] at hw466_3)
                      have hw466_2 := hx466_2
                      (try rw [show ((0 : Int)).toNat = 0 from rfl] at hw466_2)
                      (try rw [show 0 * 4 = 0 from rfl] at hw466_2)
                      (try rw [Addr.add_zero'] at hw466_2)
                      have hw466_1 := hx466_1
                      (try rw [show ((0 : Int)).toNat = 0 from rfl] at hw466_1)
                      (try rw [show 0 * 4 = 0 from rfl] at hw466_1)
                      (try rw [Addr.add_zero'] at hw466_1)
                      have hw466_0 := hx466_0
                      (try rw [show ((0 : Int)).toNat = 0 from rfl] at hw466_0)
                      (try rw [show 0 * 4 = 0 from rfl] at hw466_0)
                      (try rw [Addr.add_zero'] at hw466_0)
                      cases e466
                      have qi466 : (0 < ((rd_T83 l1 x10_1).f0).length) = True := eq_true (by omega)
                      (try rw [show ((0 : Int)).toNat = 0 from rfl] at hx466_0)
                      (try rw [show 0 * 4 = 0 from rfl] at hx466_0)
                      (try rw [Addr.add_zero'] at hx466_0)
                      (try rw [show ((0 : Int)).toNat = 0 from rfl] at hx466_1)
                      (try rw [show 0 * 4 = 0 from rfl] at hx466_1)
                      (try rw [Addr.add_zero'] at hx466_1)
                      (try rw [show ((0 : Int)).toNat = 0 from rfl] at hx466_2)
                      (try rw [show 0 * 4 = 0 from rfl] at hx466_2)
                      (try rw [Addr.add_zero'] at hx466_2)
                      (try rw [show ((0 : Int)).toNat = 0 from rfl] at hx466_3)
                      (try rw [show 0 * 4 = 0 from rfl] at hx466_3)
                      (try rw [Addr.add_zero'] at hx466_3)
                      replace hx466_0 := (HB.out.cell (World.block_lt_of_cell? w _ hx466_0)).trans hx466_0
                      replace hx466_1 := (HB.out.cell (World.block_lt_of_cell? w _ hx466_1)).trans hx466_1
                      replace hx466_2 := (HB.out.cell (World.block_lt_of_cell? w _ hx466_2)).trans hx466_2
                      replace hx466_3 := (HB.out.cell (World.block_lt_of_cell? w _ hx466_3)).trans hx466_3
                      replace p466 := eq_true p466
                      replace q466 := eq_true q466
                      have p471 : 0 ≤ (1 : Int) := (by omega)
                      have q471 : 1 < (((rd_T83 l1 x10_1).f0).length : Int) := of_decide_eq_true (by first | (with_reducible assumption) | assumption)
                      obtain ⟨ad471,e471,hx471_0,hx471_1,hx471_2,hx471_3⟩ := at_T85 HR464_0.out 1 p471 q471
                      have hw471_3 := hx471_3
                      (try rw [show ((1 : Int)).toNat = 1 from rfl] at hw471_3)
                      (try rw [show 1 * 4 = 4 from rfl] at hw471_3)
                      (try simp only [Nat.reduceMul,Nat.reduceEqDiff,Go.Addr.add,↓reduceIte] at hw471_3)
                      have hw471_2 := hx471_2
                      (try rw [show ((1 : Int)).toNat = 1 from rfl] at hw471_2)
                      (try rw [show 1 * 4 = 4 from rfl] at hw471_2)
                      (try simp only [Nat.reduceMul,Nat.reduceEqDiff,Go.Addr.add,↓reduceIte] at hw471_2)
                      have hw471_1 := hx471_1
                      (try rw [show ((1 : Int)).toNat = 1 from rfl] at hw471_1)
                      (try rw [show 1 * 4 = 4 from rfl] at hw471_1)
                      (try simp only [Nat.reduceMul,Nat.reduceEqDiff,Go.Addr.add,↓reduceIte] at hw471_1)
                      have hw471_0 := hx471_0
                      (try rw [show ((1 : Int)).toNat = 1 from rfl] at hw471_0)
                      (try rw [show 1 * 4 = 4 from rfl] at hw471_0)
                      (try simp only [Nat.reduceMul,Nat.reduceEqDiff,Go.Addr.add,↓reduceIte] at hw471_0)
                      obtain rfl : ad466 = ad471 := (by injection e471)
                      (try simp only [show (1 : Int).toNat = 1 from rfl,Nat.reduceMul,Nat.reduceEqDiff,Go.Addr.add,↓reduceIte] at hx471_0)
                      (try simp only [show (1 : Int).toNat = 1 from rfl,Nat.reduceMul,Nat.reduceEqDiff,Go.Addr.add,↓reduceIte] at hx471_1)
                      (try simp only [show (1 : Int).toNat = 1 from rfl,Nat.reduceMul,Nat.reduceEqDiff,Go.Addr.add,↓reduceIte] at hx471_2)
                      (try simp only [show (1 : Int).toNat = 1 from rfl,Nat.reduceMul,Nat.reduceEqDiff,Go.Addr.add,↓reduceIte] at hx471_3)
                      have qi471 : (1 < ((rd_T83 l1 x10_1).f0).length) = True := eq_true (by omega)
                      (try rw [show ((1 : Int)).toNat = 1 from rfl] at hx471_0)
                      (try rw [show 1 * 4 = 4 from rfl] at hx471_0)
                      (try rw [show ((1 : Int)).toNat = 1 from rfl] at hx471_1)
                      (try rw [show 1 * 4 = 4 from rfl] at hx471_1)
                      (try rw [show ((1 : Int)).toNat = 1 from rfl] at hx471_2)
                      (try rw [show 1 * 4 = 4 from rfl] at hx471_2)
                      (try rw [show ((1 : Int)).toNat = 1 from rfl] at hx471_3)
                      (try rw [show 1 * 4 = 4 from rfl] at hx471_3)
                      replace hx471_0 := (HB.out.cell (World.block_lt_of_cell? w _ hx471_0)).trans hx471_0
                      replace hx471_1 := (HB.out.cell (World.block_lt_of_cell? w _ hx471_1)).trans hx471_1
                      replace hx471_2 := (HB.out.cell (World.block_lt_of_cell? w _ hx471_2)).trans hx471_2
                      replace hx471_3 := (HB.out.cell (World.block_lt_of_cell? w _ hx471_3)).trans hx471_3
                      replace p471 := eq_true p471
                      replace q471 := eq_true q471
                      refine start_ (n := 21) (S := fun w' => w'.cell? ⟨gb465,0,none⟩ = some (.slice (some ad466) ((rd_T83 l1 x10_1).f0).length c464_0) ∧ w'.cell? ⟨gb465,1,none⟩ = some (.int .i64 ((rd_T83 l1 x10_1).f1)) ∧ w'.cell? ad466 = some (.int .i64 ((rd_T85 ((rd_T83 l1 x10_1).f0) 0).f0)) ∧ w'.cell? ⟨ad466.block,ad466.off + 1,none⟩ = some (.bool ((rd_T85 ((rd_T83 l1 x10_1).f0) 0).f1)) ∧ w'.cell? ⟨ad466.block,ad466.off + 2,none⟩ = some (.int .i64 ((rd_T85 ((rd_T83 l1 x10_1).f0) 0).f2)) ∧ w'.cell? ⟨ad466.block,ad466.off + 3,none⟩ = some (.string ((rd_T85 ((rd_T83 l1 x10_1).f0) 0).f3)) ∧ w'.cell? ⟨ad466.block,ad466.off + 4,none⟩ = some (.int .i64 ((rd_T85 ((rd_T83 l1 x10_1).f0) 1).f0)) ∧ w'.cell? ⟨ad466.block,ad466.off + 4 + 1,none⟩ = some (.bool ((rd_T85 ((rd_T83 l1 x10_1).f0) 1).f1)) ∧ w'.cell? ⟨ad466.block,ad466.off + 4 + 2,none⟩ = some (.int .i64 ((rd_T85 ((rd_T83 l1 x10_1).f0) 1).f2)) ∧ w'.cell? ⟨ad466.block,ad466.off + 4 + 3,none⟩ = some (.string ((rd_T85 ((rd_T83 l1 x10_1).f0) 1).f3))) (ds := []) #[false,false,false,false,false,false,false,false,false,false,false,false,false,false,false,false,false,false,false,false,false] (by kernel_rfl) rfl rfl ⟨(blk_cell BK465.out 0).trans rfl,(blk_cell BK465.out 1).trans rfl,((HB.out.cell (World.block_lt_of_cell? w _ hw466_0)).trans hw466_0),((HB.out.cell (World.block_lt_of_cell? w _ hw466_1)).trans hw466_1),((HB.out.cell (World.block_lt_of_cell? w _ hw466_2)).trans hw466_2),((HB.out.cell (World.block_lt_of_cell? w _ hw466_3)).trans hw466_3),((HB.out.cell (World.block_lt_of_cell? w _ hw471_0)).trans hw471_0),((HB.out.cell (World.block_lt_of_cell? w _ hw471_1)).trans hw471_1),((HB.out.cell (World.block_lt_of_cell? w _ hw471_2)).trans hw471_2),((HB.out.cell (World.block_lt_of_cell? w _ hw471_3)).trans hw471_3)⟩ (fun hHeld => ?_);refine with_tabW usage_Own.tab4 usage_Own.bits4 (fun HT_ HW_ => ?_)
                      generalize w20.drew = w21 at BK465 HB hx466_0 hx466_1 hx466_2 hx466_3 hx471_0 hx471_1 hx471_2 hx471_3 hHeld ⊢
                      refine pure_ (i := 0) (N := some 14) (v := ?_) (a' := ?_) #[true,false,false,false,false,false,false,false,false,false,false,false,false,false,false,false,false,false,false,false,false] rfl rfl (any_of HT_.out (by kernel_rfl)) (fun _ _ _ h => h) (Or.inl ⟨by rfl,?_⟩) ?_ ?_
                      rotate_left
                      · intro w'
                        go_simp
                        with_reducible rfl
                      rotate_left
                      · simp only [Act.put,zA,zB,zC,i64_w,i32_w]
                        rfl
                      refine take_ (i := 1) (N := some 15) (v := ?_) (a' := ?_) #[true,true,false,false,false,false,false,false,false,false,false,false,false,false,false,false,false,false,false,false,false] rfl rfl (take_ofW HT_.out HW_.out (by kernel_rfl)) (fun _ _ _ h => h) (Or.inl ⟨by rfl,?_⟩) hHeld ?_ ?_
                      rotate_left
                      · rintro w' ⟨s0,s1,s2,s3,s4,s5,s6,s7,s8,s9⟩
                        go_simp
                        with_reducible rfl
                      rotate_left
                      · simp only [Act.put,zA,zB,zC,i64_w,i32_w]
                        rfl
                      refine pure_ (i := 2) (N := some 16) (v := ?_) (a' := ?_) #[true,true,true,false,false,false,false,false,false,false,false,false,false,false,false,false,false,false,false,false,false] rfl rfl (any_of HT_.out (by kernel_rfl)) (fun _ _ _ h => h) (Or.inl ⟨by rfl,?_⟩) ?_ ?_
                      rotate_left
                      · intro w'
                        go_simp
                        with_reducible rfl
                      rotate_left
                      · simp only [Act.put,zA,zB,zC,i64_w,i32_w]
                        rfl
                      refine pure_ (i := 3) (N := some 17) (v := ?_) (a' := ?_) #[true,true,true,true,false,false,false,false,false,false,false,false,false,false,false,false,false,false,false,false,false] rfl rfl (any_of HT_.out (by kernel_rfl)) (fun _ _ _ h => h) (Or.inl ⟨by rfl,?_⟩) ?_ ?_
                      rotate_left
                      · intro w'
                        go_simp
                        with_reducible rfl
                      rotate_left
                      · simp only [Act.put,zA,zB,zC,i64_w,i32_w]
                        rfl
                      refine pure_ (i := 4) (N := some 18) (v := ?_) (a' := ?_) #[true,true,true,true,true,false,false,false,false,false,false,false,false,false,false,false,false,false,false,false,false] rfl rfl (any_of HT_.out (by kernel_rfl)) (fun _ _ _ h => h) (Or.inl ⟨by rfl,?_⟩) ?_ ?_
                      rotate_left
                      · intro w'
                        go_simp
                        with_reducible rfl
                      rotate_left
                      · simp only [Act.put,zA,zB,zC,i64_w,i32_w]
                        rfl
                      refine pure_ (i := 5) (N := some 19) (v := ?_) (a' := ?_) #[true,true,true,true,true,true,false,false,false,false,false,false,false,false,false,false,false,false,false,false,false] rfl rfl (any_of HT_.out (by kernel_rfl)) (fun _ _ _ h => h) (Or.inl ⟨by rfl,?_⟩) ?_ ?_
                      rotate_left
                      · intro w'
                        go_simp
                        with_reducible rfl
                      rotate_left
                      · simp only [Act.put,zA,zB,zC,i64_w,i32_w]
                        rfl
                      refine pure_ (i := 9) (N := some 23) (v := ?_) (a' := ?_) #[true,true,true,true,true,true,false,false,false,true,false,false,false,false,false,false,false,false,false,false,false] rfl rfl (any_of HT_.out (by kernel_rfl)) (fun _ _ _ h => h) (Or.inl ⟨by rfl,?_⟩) ?_ ?_
                      rotate_left
                      · intro w'
                        go_simp
                        with_reducible rfl
                      rotate_left
                      · simp only [Act.put,zA,zB,zC,i64_w,i32_w]
                        rfl
                      refine take_ (i := 6) (N := some 20) (v := ?_) (a' := ?_) #[true,true,true,true,true,true,true,false,false,true,false,false,false,false,false,false,false,false,false,false,false] rfl rfl (take_ofW HT_.out HW_.out (by kernel_rfl)) (fun _ _ _ h => h) (Or.inl ⟨by rfl,?_⟩) hHeld ?_ ?_
                      rotate_left
                      · rintro w' ⟨s0,s1,s2,s3,s4,s5,s6,s7,s8,s9⟩
                        go_simp
                        with_reducible rfl
                      rotate_left
                      · simp only [Act.put,zA,zB,zC,i64_w,i32_w]
                        rfl
                      refine pure_ (i := 7) (N := some 21) (v := ?_) (a' := ?_) #[true,true,true,true,true,true,true,true,false,true,false,false,false,false,false,false,false,false,false,false,false] rfl rfl (any_of HT_.out (by kernel_rfl)) (fun _ _ _ h => h) (Or.inl ⟨by rfl,?_⟩) ?_ ?_
                      rotate_left
                      · intro w'
                        go_simp
                        with_reducible rfl
                      rotate_left
                      · simp only [Act.put,zA,zB,zC,i64_w,i32_w]
                        rfl
                      refine take_ (i := 8) (N := some 22) (v := ?_) (a' := ?_) #[true,true,true,true,true,true,true,true,true,true,false,false,false,false,false,false,false,false,false,false,false] rfl rfl (take_ofW HT_.out HW_.out (by kernel_rfl)) (fun _ _ _ h => h) (Or.inl ⟨by rfl,?_⟩) hHeld ?_ ?_
                      rotate_left
                      · rintro w' ⟨s0,s1,s2,s3,s4,s5,s6,s7,s8,s9⟩
                        go_simp
                        with_reducible rfl
                      rotate_left
                      · simp only [Act.put,zA,zB,zC,i64_w,i32_w]
                        rfl
                      refine one_ (i := 10) (N := some 24) #[true,true,true,true,true,true,true,true,true,true,true,false,false,false,false,false,false,false,false,false,false] rfl rfl (one_of HT_.out (by kernel_rfl)) (by decide) (fun K hK => ?_)
                      refine goes_ Try.func93 (by kernel_rfl) rfl #[.string a0] (by rfl) rfl rfl (by (try simp only [List.map_toArray,List.map_cons,List.map_nil]);first | done | rfl | (simp only [List.length_drop,List.length_take];rfl)) ?_
                      with_reducible refine (value_Text.calls a0 t467 t468 t469 t470 _ A8.out).mono ?_
                      rintro e w22 ⟨rfl,hb⟩
                      refine ⟨_,rfl,?_⟩
                      have n0_ := Aside0.mk (blk_below (g := gb465) (o := .cells #[.slice (some ad466) ((rd_T83 l1 x10_1).f0).length c464_0,.int .i64 ((rd_T83 l1 x10_1).f1)] 83 (0,0)) (by (with_reducible repeat (first | refine blk_drewN ?_ _ | refine blk_drew ?_ | refine blk_alloc ?_ _));exact BK465.out) hb)
                      have n1_ := Aside0.mk (below_step (by repeat (first | (with_reducible first | exact HB.out | apply below_alloc | apply pw_below_drewN | apply below_drew1 | refine below_set ?_ GE465.out) | exact HB.out)) hb)
                      clear BK465
                      clear HB
                      have BK465 := n0_
                      have HB := n1_
                      clear n0_ n1_
                      (try clear hb)
                      (try clear hb2)
                      (try clear hk)
                      (try clear hi)
                      refine hK.out _ _ ⟨(blk_cell BK465.out 0).trans rfl,(blk_cell BK465.out 1).trans rfl,((HB.out.cell (World.block_lt_of_cell? w _ hw466_0)).trans hw466_0),((HB.out.cell (World.block_lt_of_cell? w _ hw466_1)).trans hw466_1),((HB.out.cell (World.block_lt_of_cell? w _ hw466_2)).trans hw466_2),((HB.out.cell (World.block_lt_of_cell? w _ hw466_3)).trans hw466_3),((HB.out.cell (World.block_lt_of_cell? w _ hw471_0)).trans hw471_0),((HB.out.cell (World.block_lt_of_cell? w _ hw471_1)).trans hw471_1),((HB.out.cell (World.block_lt_of_cell? w _ hw471_2)).trans hw471_2),((HB.out.cell (World.block_lt_of_cell? w _ hw471_3)).trans hw471_3)⟩ (fun hHeld => ?_)
                      clear hK K
                      refine norm_ (a' := ?_) ?_ ?_
                      rotate_left
                      · show Act.put _ (some 24) _ = _
                        simp only [Act.put,zA,zB,zC,i64_w,i32_w]
                        rfl
                      refine pure_ (i := 11) (N := some 25) (v := ?_) (a' := ?_) #[true,true,true,true,true,true,true,true,true,true,true,true,false,false,false,false,false,false,false,false,false] rfl rfl (any_of HT_.out (by kernel_rfl)) (fun _ _ _ h => h) (Or.inl ⟨by rfl,?_⟩) ?_ ?_
                      rotate_left
                      · intro w'
                        go_simp
                        with_reducible rfl
                      rotate_left
                      · simp only [Act.put,zA,zB,zC,i64_w,i32_w]
                        rfl
                      refine pure_ (i := 12) (N := some 26) (v := ?_) (a' := ?_) #[true,true,true,true,true,true,true,true,true,true,true,true,true,false,false,false,false,false,false,false,false] rfl rfl (any_of HT_.out (by kernel_rfl)) (fun _ _ _ h => h) (Or.inl ⟨by rfl,?_⟩) ?_ ?_
                      rotate_left
                      · intro w'
                        go_simp
                        with_reducible rfl
                      rotate_left
                      · simp only [Act.put,zA,zB,zC,i64_w,i32_w]
                        rfl
                      refine pure_ (i := 13) (N := some 27) (v := ?_) (a' := ?_) #[true,true,true,true,true,true,true,true,true,true,true,true,true,true,false,false,false,false,false,false,false] rfl rfl (any_of HT_.out (by kernel_rfl)) (fun _ _ _ h => h) (Or.inl ⟨by rfl,?_⟩) ?_ ?_
                      rotate_left
                      · intro w'
                        go_simp
                        with_reducible rfl
                      rotate_left
                      · simp only [Act.put,zA,zB,zC,i64_w,i32_w]
                        rfl
                      refine pure_ (i := 14) (N := some 28) (v := ?_) (a' := ?_) #[true,true,true,true,true,true,true,true,true,true,true,true,true,true,true,false,false,false,false,false,false] rfl rfl (any_of HT_.out (by kernel_rfl)) (fun _ _ _ h => h) (Or.inl ⟨by rfl,?_⟩) ?_ ?_
                      rotate_left
                      · intro w'
                        go_simp
                        with_reducible rfl
                      rotate_left
                      · simp only [Act.put,zA,zB,zC,i64_w,i32_w]
                        rfl
                      refine take_ (i := 15) (N := some 29) (v := ?_) (a' := ?_) #[true,true,true,true,true,true,true,true,true,true,true,true,true,true,true,true,false,false,false,false,false] rfl rfl (take_ofW HT_.out HW_.out (by kernel_rfl)) (fun _ _ _ h => h) (Or.inl ⟨by rfl,?_⟩) hHeld ?_ ?_
                      rotate_left
                      · rintro w' ⟨s0,s1,s2,s3,s4,s5,s6,s7,s8,s9⟩
                        go_simp
                        with_reducible rfl
                      rotate_left
                      · simp only [Act.put,zA,zB,zC,i64_w,i32_w]
                        rfl
                      refine pure_ (i := 16) (N := some 30) (v := ?_) (a' := ?_) #[true,true,true,true,true,true,true,true,true,true,true,true,true,true,true,true,true,false,false,false,false] rfl rfl (any_of HT_.out (by kernel_rfl)) (fun _ _ _ h => h) (Or.inl ⟨by rfl,?_⟩) ?_ ?_
                      rotate_left
                      · intro w'
                        go_simp
                        with_reducible rfl
                      rotate_left
                      · simp only [Act.put,zA,zB,zC,i64_w,i32_w]
                        rfl
                      refine pure_ (i := 17) (N := some 31) (v := ?_) (a' := ?_) #[true,true,true,true,true,true,true,true,true,true,true,true,true,true,true,true,true,true,false,false,false] rfl rfl (any_of HT_.out (by kernel_rfl)) (fun _ _ _ h => h) (Or.inl ⟨by rfl,?_⟩) ?_ ?_
                      rotate_left
                      · intro w'
                        go_simp
                        with_reducible rfl
                      rotate_left
                      · simp only [Act.put,zA,zB,zC,i64_w,i32_w]
                        rfl
                      refine take_ (i := 18) (N := some 32) (v := ?_) (a' := ?_) #[true,true,true,true,true,true,true,true,true,true,true,true,true,true,true,true,true,true,true,false,false] rfl rfl (take_ofW HT_.out HW_.out (by kernel_rfl)) (fun _ _ _ h => h) (Or.inl ⟨by rfl,?_⟩) hHeld ?_ ?_
                      rotate_left
                      · rintro w' ⟨s0,s1,s2,s3,s4,s5,s6,s7,s8,s9⟩
                        go_simp
                        with_reducible rfl
                      rotate_left
                      · simp only [Act.put,zA,zB,zC,i64_w,i32_w]
                        rfl
                      refine pure_ (i := 19) (N := some 33) (v := ?_) (a' := ?_) #[true,true,true,true,true,true,true,true,true,true,true,true,true,true,true,true,true,true,true,true,false] rfl rfl (any_of HT_.out (by kernel_rfl)) (fun _ _ _ h => h) (Or.inl ⟨by rfl,?_⟩) ?_ ?_
                      rotate_left
                      · intro w'
                        go_simp
                        with_reducible rfl
                      rotate_left
                      · simp only [Act.put,zA,zB,zC,i64_w,i32_w]
                        rfl
                      refine pure_ (i := 20) (N := some 34) (v := ?_) (a' := ?_) #[true,true,true,true,true,true,true,true,true,true,true,true,true,true,true,true,true,true,true,true,true] rfl rfl (any_of HT_.out (by kernel_rfl)) (fun _ _ _ h => h) (Or.inl ⟨by rfl,?_⟩) ?_ ?_
                      rotate_left
                      · intro w'
                        go_simp
                        with_reducible rfl
                      rotate_left
                      · simp only [Act.put,zA,zB,zC,i64_w,i32_w]
                        rfl
                      refine done_ (done_of HT_.out (by kernel_rfl)) ?_
                      try go_wp2
                      go_roundg k1
                      case measure => have := HK1.out;omega
                      case rel => exact ⟨(wrap64 (x10_1 + 1)),(by first | rfl | (simp;done) | (simp [*];done)),H',⟨by have := HK1.out;omega⟩,⟨by repeat (first | (with_reducible first | exact HB.out | apply below_alloc | apply pw_below_drewN | apply below_drew1 | refine below_set ?_ GE465.out) | exact HB.out)⟩⟩
                  · rw [if_neg c10] at H
                    exact absurd H (by simp)
                · rw [if_neg c9] at H
                  have c9b0 : (((rd_T85 ((rd_T83 l1 x10_1).f0) 0).f0) == t467 && (((rd_T85 ((rd_T83 l1 x10_1).f0) 0).f1) == t468 && (((rd_T85 ((rd_T83 l1 x10_1).f0) 0).f2) == t469 && ((((rd_T85 ((rd_T83 l1 x10_1).f0) 0).f3).toList) == t470.toList)))) = false := by simpa using c9
                  (try (have c9b1 : decide (((rd_T85 ((rd_T83 l1 x10_1).f0) 0).f0) = t467 && (((rd_T85 ((rd_T83 l1 x10_1).f0) 0).f1) == t468 && (((rd_T85 ((rd_T83 l1 x10_1).f0) 0).f2) == t469 && ((((rd_T85 ((rd_T83 l1 x10_1).f0) 0).f3).toList) == t470.toList)))) = false := by simpa using c9))
                  (try (have c9b2 : (((rd_T85 ((rd_T83 l1 x10_1).f0) 0).f0) == t467 && (((rd_T85 ((rd_T83 l1 x10_1).f0) 0).f1) == t468 && (((rd_T85 ((rd_T83 l1 x10_1).f0) 0).f2) == t469 && ((((rd_T85 ((rd_T83 l1 x10_1).f0) 0).f3).toList) == t470.toList)))) = false := by simpa using c9))
                  (try (have c9b3 : ¬ (((rd_T85 ((rd_T83 l1 x10_1).f0) 0).f0) = t467 && (((rd_T85 ((rd_T83 l1 x10_1).f0) 0).f1) == t468 && (((rd_T85 ((rd_T83 l1 x10_1).f0) 0).f2) == t469 && ((((rd_T85 ((rd_T83 l1 x10_1).f0) 0).f3).toList) == t470.toList)))) := by simpa using c9))
                  clear c9
                  have H' := Aside0.mk H
                  clear H
                  have p464 : 0 ≤ (x10_1 : Int) := of_decide_eq_true (by first | (with_reducible assumption) | assumption)
                  have q464 : x10_1 < (l1.length : Int) := of_decide_eq_true (by first | (with_reducible assumption) | assumption)
                  obtain ⟨ad464,A464_0,c464_0,e464,hx464_0,hx464_1,hl464_0,hi464_0⟩ := at_T83 HR1.out x10_1 p464 q464
                  cases e464
                  replace hx464_0 := (HB.out.cell (World.block_lt_of_cell? w _ hx464_0)).trans hx464_0
                  replace hx464_1 := (HB.out.cell (World.block_lt_of_cell? w _ hx464_1)).trans hx464_1
                  have HR464_0 := Aside0.mk hi464_0
                  have HC464_0 := Aside0.mk hl464_0
                  clear hi464_0 hl464_0
                  replace p464 := eq_true p464
                  replace q464 := eq_true q464
                  try go_wp2_with (first | ((with_reducible refine gate_dst (N := 7) rfl ?_);refine box_event ?hg (N := 7) ?hd (cs := #[.slice none 0 0,.int .i64 0]) (t := 83) ?hr ?_;(case hd => rfl);(case hg => rfl);(case hr => first | (go_simp;done) | (go_simp;rfl));intro gb465 hg w23 hbox hb;have n0_ := Aside0.mk (below_step (by repeat (first | (with_reducible first | exact HB.out | apply below_alloc | apply pw_below_drewN | apply below_drew1) | exact HB.out)) hb);have n1_ := Aside0.mk (hbox);have n2_ := Aside0.mk ((by rw [hg];exact (below_size (by repeat (first | (with_reducible first | exact HB.out | apply below_alloc | apply pw_below_drewN | apply below_drew1) | exact HB.out))) : w.heap.size ≤ gb465));have n3_ := Aside0.mk ((by rw [hg];exact (below_size (by repeat (first | (with_reducible first | exact HB.out | apply below_alloc | apply pw_below_drewN | apply below_drew1) | exact HB.out))) : w.heap.size ≤ gb465));clear HB;have HB := n0_;have BK465 := n1_;have GW465 := n2_;have GE465 := n3_;clear n0_ n1_ n2_ n3_;clear hb hbox hg;have hcz24_0 : w23.cell? ⟨gb465,0,none⟩ = some (.slice none 0 0) := (blk_cell BK465.out 0).trans rfl;have hcz24_1 : w23.cell? ⟨gb465,1,none⟩ = some (.int .i64 0) := (blk_cell BK465.out 1).trans rfl;have hfz24_0 := blk_frozen BK465.out 0;have hfz24_1 := blk_frozen BK465.out 1))
                  have n0_ : Aside0 (((w23.setCell ⟨gb465,0,none⟩ (.slice A464_0 ((rd_T83 l1 x10_1).f0).length c464_0)).setCell ⟨gb465,1,none⟩ (.int .i64 ((rd_T83 l1 x10_1).f1))).heap[gb465]? = some (.cells #[.slice A464_0 ((rd_T83 l1 x10_1).f0).length c464_0,.int .i64 ((rd_T83 l1 x10_1).f1)] 83 (0,0))) := ⟨by (with_reducible repeat (first | refine blk_drewN ?_ _ | refine blk_drew ?_ | refine blk_alloc ?_ _));refine blk_put (cs := #[.slice A464_0 ((rd_T83 l1 x10_1).f0).length c464_0,.int .i64 0]) ?_ 1 _ rfl;(with_reducible repeat (first | refine blk_drewN ?_ _ | refine blk_drew ?_ | refine blk_alloc ?_ _));refine blk_put (cs := #[.slice none 0 0,.int .i64 0]) ?_ 0 _ rfl;(with_reducible repeat (first | refine blk_drewN ?_ _ | refine blk_drew ?_ | refine blk_alloc ?_ _));exact BK465.out⟩
                  have n1_ : Aside0 (Below w.heap.size w ((w23.setCell ⟨gb465,0,none⟩ (.slice A464_0 ((rd_T83 l1 x10_1).f0).length c464_0)).setCell ⟨gb465,1,none⟩ (.int .i64 ((rd_T83 l1 x10_1).f1)))) := ⟨by repeat (first | (with_reducible first | exact HB.out | apply below_alloc | apply pw_below_drewN | apply below_drew1 | refine below_set ?_ GE465.out) | exact HB.out)⟩
                  (try clear BK465)
                  (try clear HB)
                  generalize ((w23.setCell ⟨gb465,0,none⟩ (.slice A464_0 ((rd_T83 l1 x10_1).f0).length c464_0)).setCell ⟨gb465,1,none⟩ (.int .i64 ((rd_T83 l1 x10_1).f1))) = w25 at n0_ n1_ ⊢
                  have BK465 := n0_
                  have HB := n1_
                  clear n0_ n1_
                  have n0_ := Aside0.mk (blk_drew BK465.out)
                  have n1_ := Aside0.mk (below_drew1 HB.out)
                  clear BK465
                  clear HB
                  have BK465 := n0_
                  have HB := n1_
                  clear n0_ n1_
                  have p466 : 0 ≤ (0 : Int) := (by omega)
                  have q466 : 0 < (((rd_T83 l1 x10_1).f0).length : Int) := of_decide_eq_true (by first | (with_reducible assumption) | assumption)
                  obtain ⟨ad466,e466,hx466_0,hx466_1,hx466_2,hx466_3⟩ := at_T85 HR464_0.out 0 p466 q466
                  have hw466_3 := hx466_3
                  (try rw [show ((0 : Int)).toNat = 0 from rfl] at hw466_3)
                  (try rw [show 0 * 4 = 0 from rfl] at hw466_3)
                  (try rw [Addr.add_zero'] at hw466_3)
                  have hw466_2 := hx466_2
                  (try rw [show ((0 : Int)).toNat = 0 from rfl] at hw466_2)
                  (try rw [show 0 * 4 = 0 from rfl] at hw466_2)
                  (try rw [Addr.add_zero'] at hw466_2)
                  have hw466_1 := hx466_1
                  (try rw [show ((0 : Int)).toNat = 0 from rfl] at hw466_1)
                  (try rw [show 0 * 4 = 0 from rfl] at hw466_1)
                  (try rw [Addr.add_zero'] at hw466_1)
                  have hw466_0 := hx466_0
                  (try rw [show ((0 : Int)).toNat = 0 from rfl] at hw466_0)
                  (try rw [show 0 * 4 = 0 from rfl] at hw466_0)
                  (try rw [Addr.add_zero'] at hw466_0)
                  cases e466
                  have qi466 : (0 < ((rd_T83 l1 x10_1).f0).length) = True := eq_true (by omega)
                  (try rw [show ((0 : Int)).toNat = 0 from rfl] at hx466_0)
                  (try rw [show 0 * 4 = 0 from rfl] at hx466_0)
                  (try rw [Addr.add_zero'] at hx466_0)
                  (try rw [show ((0 : Int)).toNat = 0 from rfl] at hx466_1)
                  (try rw [show 0 * 4 = 0 from rfl] at hx466_1)
                  (try rw [Addr.add_zero'] at hx466_1)
                  (try rw [show ((0 : Int)).toNat = 0 from rfl] at hx466_2)
                  (try rw [show 0 * 4 = 0 from rfl] at hx466_2)
                  (try rw [Addr.add_zero'] at hx466_2)
                  (try rw [show ((0 : Int)).toNat = 0 from rfl] at hx466_3)
                  (try rw [show 0 * 4 = 0 from rfl] at hx466_3)
                  (try rw [Addr.add_zero'] at hx466_3)
                  replace hx466_0 := (HB.out.cell (World.block_lt_of_cell? w _ hx466_0)).trans hx466_0
                  replace hx466_1 := (HB.out.cell (World.block_lt_of_cell? w _ hx466_1)).trans hx466_1
                  replace hx466_2 := (HB.out.cell (World.block_lt_of_cell? w _ hx466_2)).trans hx466_2
                  replace hx466_3 := (HB.out.cell (World.block_lt_of_cell? w _ hx466_3)).trans hx466_3
                  replace p466 := eq_true p466
                  replace q466 := eq_true q466
                  refine start_ (n := 21) (S := fun w' => w'.cell? ⟨gb465,0,none⟩ = some (.slice (some ad466) ((rd_T83 l1 x10_1).f0).length c464_0) ∧ w'.cell? ⟨gb465,1,none⟩ = some (.int .i64 ((rd_T83 l1 x10_1).f1)) ∧ w'.cell? ad466 = some (.int .i64 ((rd_T85 ((rd_T83 l1 x10_1).f0) 0).f0)) ∧ w'.cell? ⟨ad466.block,ad466.off + 1,none⟩ = some (.bool ((rd_T85 ((rd_T83 l1 x10_1).f0) 0).f1)) ∧ w'.cell? ⟨ad466.block,ad466.off + 2,none⟩ = some (.int .i64 ((rd_T85 ((rd_T83 l1 x10_1).f0) 0).f2)) ∧ w'.cell? ⟨ad466.block,ad466.off + 3,none⟩ = some (.string ((rd_T85 ((rd_T83 l1 x10_1).f0) 0).f3))) (ds := []) #[false,false,false,false,false,false,false,false,false,false,false,false,false,false,false,false,false,false,false,false,false] (by kernel_rfl) rfl rfl ⟨(blk_cell BK465.out 0).trans rfl,(blk_cell BK465.out 1).trans rfl,((HB.out.cell (World.block_lt_of_cell? w _ hw466_0)).trans hw466_0),((HB.out.cell (World.block_lt_of_cell? w _ hw466_1)).trans hw466_1),((HB.out.cell (World.block_lt_of_cell? w _ hw466_2)).trans hw466_2),((HB.out.cell (World.block_lt_of_cell? w _ hw466_3)).trans hw466_3)⟩ (fun hHeld => ?_);refine with_tabW usage_Own.tab4 usage_Own.bits4 (fun HT_ HW_ => ?_)
                  generalize w25.drew = w26 at BK465 HB hx466_0 hx466_1 hx466_2 hx466_3 hHeld ⊢
                  refine pure_ (i := 0) (N := some 14) (v := ?_) (a' := ?_) #[true,false,false,false,false,false,false,false,false,false,false,false,false,false,false,false,false,false,false,false,false] rfl rfl (any_of HT_.out (by kernel_rfl)) (fun _ _ _ h => h) (Or.inl ⟨by rfl,?_⟩) ?_ ?_
                  rotate_left
                  · intro w'
                    go_simp
                    with_reducible rfl
                  rotate_left
                  · simp only [Act.put,zA,zB,zC,i64_w,i32_w]
                    rfl
                  refine take_ (i := 1) (N := some 15) (v := ?_) (a' := ?_) #[true,true,false,false,false,false,false,false,false,false,false,false,false,false,false,false,false,false,false,false,false] rfl rfl (take_ofW HT_.out HW_.out (by kernel_rfl)) (fun _ _ _ h => h) (Or.inl ⟨by rfl,?_⟩) hHeld ?_ ?_
                  rotate_left
                  · rintro w' ⟨s0,s1,s2,s3,s4,s5⟩
                    go_simp
                    with_reducible rfl
                  rotate_left
                  · simp only [Act.put,zA,zB,zC,i64_w,i32_w]
                    rfl
                  refine pure_ (i := 2) (N := some 16) (v := ?_) (a' := ?_) #[true,true,true,false,false,false,false,false,false,false,false,false,false,false,false,false,false,false,false,false,false] rfl rfl (any_of HT_.out (by kernel_rfl)) (fun _ _ _ h => h) (Or.inl ⟨by rfl,?_⟩) ?_ ?_
                  rotate_left
                  · intro w'
                    go_simp
                    with_reducible rfl
                  rotate_left
                  · simp only [Act.put,zA,zB,zC,i64_w,i32_w]
                    rfl
                  refine pure_ (i := 3) (N := some 17) (v := ?_) (a' := ?_) #[true,true,true,true,false,false,false,false,false,false,false,false,false,false,false,false,false,false,false,false,false] rfl rfl (any_of HT_.out (by kernel_rfl)) (fun _ _ _ h => h) (Or.inl ⟨by rfl,?_⟩) ?_ ?_
                  rotate_left
                  · intro w'
                    go_simp
                    with_reducible rfl
                  rotate_left
                  · simp only [Act.put,zA,zB,zC,i64_w,i32_w]
                    rfl
                  refine pure_ (i := 4) (N := some 18) (v := ?_) (a' := ?_) #[true,true,true,true,true,false,false,false,false,false,false,false,false,false,false,false,false,false,false,false,false] rfl rfl (any_of HT_.out (by kernel_rfl)) (fun _ _ _ h => h) (Or.inl ⟨by rfl,?_⟩) ?_ ?_
                  rotate_left
                  · intro w'
                    go_simp
                    with_reducible rfl
                  rotate_left
                  · simp only [Act.put,zA,zB,zC,i64_w,i32_w]
                    rfl
                  refine pure_ (i := 5) (N := some 19) (v := ?_) (a' := ?_) #[true,true,true,true,true,true,false,false,false,false,false,false,false,false,false,false,false,false,false,false,false] rfl rfl (any_of HT_.out (by kernel_rfl)) (fun _ _ _ h => h) (Or.inl ⟨by rfl,?_⟩) ?_ ?_
                  rotate_left
                  · intro w'
                    go_simp
                    with_reducible rfl
                  rotate_left
                  · simp only [Act.put,zA,zB,zC,i64_w,i32_w]
                    rfl
                  refine pure_ (i := 9) (N := some 23) (v := ?_) (a' := ?_) #[true,true,true,true,true,true,false,false,false,true,false,false,false,false,false,false,false,false,false,false,false] rfl rfl (any_of HT_.out (by kernel_rfl)) (fun _ _ _ h => h) (Or.inl ⟨by rfl,?_⟩) ?_ ?_
                  rotate_left
                  · intro w'
                    go_simp
                    with_reducible rfl
                  rotate_left
                  · simp only [Act.put,zA,zB,zC,i64_w,i32_w]
                    rfl
                  refine take_ (i := 6) (N := some 20) (v := ?_) (a' := ?_) #[true,true,true,true,true,true,true,false,false,true,false,false,false,false,false,false,false,false,false,false,false] rfl rfl (take_ofW HT_.out HW_.out (by kernel_rfl)) (fun _ _ _ h => h) (Or.inl ⟨by rfl,?_⟩) hHeld ?_ ?_
                  rotate_left
                  · rintro w' ⟨s0,s1,s2,s3,s4,s5⟩
                    go_simp
                    with_reducible rfl
                  rotate_left
                  · simp only [Act.put,zA,zB,zC,i64_w,i32_w]
                    rfl
                  refine pure_ (i := 7) (N := some 21) (v := ?_) (a' := ?_) #[true,true,true,true,true,true,true,true,false,true,false,false,false,false,false,false,false,false,false,false,false] rfl rfl (any_of HT_.out (by kernel_rfl)) (fun _ _ _ h => h) (Or.inl ⟨by rfl,?_⟩) ?_ ?_
                  rotate_left
                  · intro w'
                    go_simp
                    with_reducible rfl
                  rotate_left
                  · simp only [Act.put,zA,zB,zC,i64_w,i32_w]
                    rfl
                  refine take_ (i := 8) (N := some 22) (v := ?_) (a' := ?_) #[true,true,true,true,true,true,true,true,true,true,false,false,false,false,false,false,false,false,false,false,false] rfl rfl (take_ofW HT_.out HW_.out (by kernel_rfl)) (fun _ _ _ h => h) (Or.inl ⟨by rfl,?_⟩) hHeld ?_ ?_
                  rotate_left
                  · rintro w' ⟨s0,s1,s2,s3,s4,s5⟩
                    go_simp
                    with_reducible rfl
                  rotate_left
                  · simp only [Act.put,zA,zB,zC,i64_w,i32_w]
                    rfl
                  refine one_ (i := 10) (N := some 24) #[true,true,true,true,true,true,true,true,true,true,true,false,false,false,false,false,false,false,false,false,false] rfl rfl (one_of HT_.out (by kernel_rfl)) (by decide) (fun K hK => ?_)
                  refine goes_ Try.func93 (by kernel_rfl) rfl #[.string a0] (by rfl) rfl rfl (by (try simp only [List.map_toArray,List.map_cons,List.map_nil]);first | done | rfl | (simp only [List.length_drop,List.length_take];rfl)) ?_
                  with_reducible refine (value_Text.calls a0 t467 t468 t469 t470 _ A8.out).mono ?_
                  rintro e w27 ⟨rfl,hb⟩
                  refine ⟨_,rfl,?_⟩
                  have n0_ := Aside0.mk (blk_below (g := gb465) (o := .cells #[.slice (some ad466) ((rd_T83 l1 x10_1).f0).length c464_0,.int .i64 ((rd_T83 l1 x10_1).f1)] 83 (0,0)) (by (with_reducible repeat (first | refine blk_drewN ?_ _ | refine blk_drew ?_ | refine blk_alloc ?_ _));exact BK465.out) hb)
                  have n1_ := Aside0.mk (below_step (by repeat (first | (with_reducible first | exact HB.out | apply below_alloc | apply pw_below_drewN | apply below_drew1 | refine below_set ?_ GE465.out) | exact HB.out)) hb)
                  clear BK465
                  clear HB
                  have BK465 := n0_
                  have HB := n1_
                  clear n0_ n1_
                  (try clear hb)
                  (try clear hb2)
                  (try clear hk)
                  (try clear hi)
                  refine hK.out _ _ ⟨(blk_cell BK465.out 0).trans rfl,(blk_cell BK465.out 1).trans rfl,((HB.out.cell (World.block_lt_of_cell? w _ hw466_0)).trans hw466_0),((HB.out.cell (World.block_lt_of_cell? w _ hw466_1)).trans hw466_1),((HB.out.cell (World.block_lt_of_cell? w _ hw466_2)).trans hw466_2),((HB.out.cell (World.block_lt_of_cell? w _ hw466_3)).trans hw466_3)⟩ (fun hHeld => ?_)
                  clear hK K
                  refine norm_ (a' := ?_) ?_ ?_
                  rotate_left
                  · show Act.put _ (some 24) _ = _
                    simp only [Act.put,zA,zB,zC,i64_w,i32_w]
                    rfl
                  refine pure_ (i := 11) (N := some 25) (v := ?_) (a' := ?_) #[true,true,true,true,true,true,true,true,true,true,true,true,false,false,false,false,false,false,false,false,false] rfl rfl (any_of HT_.out (by kernel_rfl)) (fun _ _ _ h => h) (Or.inl ⟨by rfl,?_⟩) ?_ ?_
                  rotate_left
                  · intro w'
                    go_simp
                    with_reducible rfl
                  rotate_left
                  · simp only [Act.put,zA,zB,zC,i64_w,i32_w]
                    rfl
                  refine pure_ (i := 12) (N := some 26) (v := ?_) (a' := ?_) #[true,true,true,true,true,true,true,true,true,true,true,true,true,false,false,false,false,false,false,false,false] rfl rfl (any_of HT_.out (by kernel_rfl)) (fun _ _ _ h => h) (Or.inl ⟨by rfl,?_⟩) ?_ ?_
                  rotate_left
                  · intro w'
                    go_simp
                    with_reducible rfl
                  rotate_left
                  · simp only [Act.put,zA,zB,zC,i64_w,i32_w]
                    rfl
                  refine pure_ (i := 13) (N := some 27) (v := ?_) (a' := ?_) #[true,true,true,true,true,true,true,true,true,true,true,true,true,true,false,false,false,false,false,false,false] rfl rfl (any_of HT_.out (by kernel_rfl)) (fun _ _ _ h => h) (Or.inl ⟨by rfl,?_⟩) ?_ ?_
                  rotate_left
                  · intro w'
                    go_simp
                    with_reducible rfl
                  rotate_left
                  · simp only [Act.put,zA,zB,zC,i64_w,i32_w]
                    rfl
                  refine pure_ (i := 14) (N := some 28) (v := undef) (a' := ?_) #[true,true,true,true,true,true,true,true,true,true,true,true,true,true,true,false,false,false,false,false,false] rfl rfl (any_of HT_.out (by kernel_rfl)) (fun _ _ _ h => h) (Or.inr ⟨by rfl,rfl⟩) ?_ ?_
                  rotate_left
                  · simp only [Act.put,zA,zB,zC,i64_w,i32_w]
                    rfl
                  refine pure_ (i := 15) (N := some 29) (v := undef) (a' := ?_) #[true,true,true,true,true,true,true,true,true,true,true,true,true,true,true,true,false,false,false,false,false] rfl rfl (any_of HT_.out (by kernel_rfl)) (fun _ _ _ h => h) (Or.inr ⟨by rfl,rfl⟩) ?_ ?_
                  rotate_left
                  · simp only [Act.put,zA,zB,zC,i64_w,i32_w]
                    rfl
                  refine pure_ (i := 16) (N := some 30) (v := undef) (a' := ?_) #[true,true,true,true,true,true,true,true,true,true,true,true,true,true,true,true,true,false,false,false,false] rfl rfl (any_of HT_.out (by kernel_rfl)) (fun _ _ _ h => h) (Or.inr ⟨by rfl,rfl⟩) ?_ ?_
                  rotate_left
                  · simp only [Act.put,zA,zB,zC,i64_w,i32_w]
                    rfl
                  refine pure_ (i := 17) (N := some 31) (v := undef) (a' := ?_) #[true,true,true,true,true,true,true,true,true,true,true,true,true,true,true,true,true,true,false,false,false] rfl rfl (any_of HT_.out (by kernel_rfl)) (fun _ _ _ h => h) (Or.inr ⟨by rfl,rfl⟩) ?_ ?_
                  rotate_left
                  · simp only [Act.put,zA,zB,zC,i64_w,i32_w]
                    rfl
                  refine pure_ (i := 18) (N := some 32) (v := undef) (a' := ?_) #[true,true,true,true,true,true,true,true,true,true,true,true,true,true,true,true,true,true,true,false,false] rfl rfl (any_of HT_.out (by kernel_rfl)) (fun _ _ _ h => h) (Or.inr ⟨by rfl,rfl⟩) ?_ ?_
                  rotate_left
                  · simp only [Act.put,zA,zB,zC,i64_w,i32_w]
                    rfl
                  refine pure_ (i := 19) (N := some 33) (v := undef) (a' := ?_) #[true,true,true,true,true,true,true,true,true,true,true,true,true,true,true,true,true,true,true,true,false] rfl rfl (any_of HT_.out (by kernel_rfl)) (fun _ _ _ h => h) (Or.inr ⟨by rfl,rfl⟩) ?_ ?_
                  rotate_left
                  · simp only [Act.put,zA,zB,zC,i64_w,i32_w]
                    rfl
                  refine pure_ (i := 20) (N := some 34) (v := ?_) (a' := ?_) #[true,true,true,true,true,true,true,true,true,true,true,true,true,true,true,true,true,true,true,true,true] rfl rfl (any_of HT_.out (by kernel_rfl)) (fun _ _ _ h => h) (Or.inl ⟨by rfl,?_⟩) ?_ ?_
                  rotate_left
                  · intro w'
                    go_simp
                    with_reducible rfl
                  rotate_left
                  · simp only [Act.put,zA,zB,zC,i64_w,i32_w]
                    rfl
                  refine done_ (done_of HT_.out (by kernel_rfl)) ?_
                  try go_wp2
                  go_roundg k1
                  case measure => have := HK1.out;omega
                  case rel => exact ⟨(wrap64 (x10_1 + 1)),(by first | rfl | (simp;done) | (simp [*];done)),H',⟨by have := HK1.out;omega⟩,⟨by repeat (first | (with_reducible first | exact HB.out | apply below_alloc | apply pw_below_drewN | apply below_drew1 | refine below_set ?_ GE465.out) | exact HB.out)⟩⟩
              · rw [if_neg c7] at H
                exact absurd H (by simp)
            · rw [if_neg c6] at H
              have c6b0 : ((((rd_T83 l1 x10_1).f0).length : Int) == 2) = false := beq_eq_false_iff_ne.mpr c6
              have c6b1 : ((((rd_T83 l1 x10_1).f0).length : Int) != 2) = true := bne_iff_ne.mpr c6
              have H' := Aside0.mk H
              clear H
              have p464 : 0 ≤ (x10_1 : Int) := of_decide_eq_true (by first | (with_reducible assumption) | assumption)
              have q464 : x10_1 < (l1.length : Int) := of_decide_eq_true (by first | (with_reducible assumption) | assumption)
              obtain ⟨ad464,A464_0,c464_0,e464,hx464_0,hx464_1,hl464_0,hi464_0⟩ := at_T83 HR1.out x10_1 p464 q464
              cases e464
              replace hx464_0 := (HB.out.cell (World.block_lt_of_cell? w _ hx464_0)).trans hx464_0
              replace hx464_1 := (HB.out.cell (World.block_lt_of_cell? w _ hx464_1)).trans hx464_1
              have HR464_0 := Aside0.mk hi464_0
              have HC464_0 := Aside0.mk hl464_0
              clear hi464_0 hl464_0
              replace p464 := eq_true p464
              replace q464 := eq_true q464
              try go_wp2_with (first | ((with_reducible refine gate_dst (N := 7) rfl ?_);refine box_event ?hg (N := 7) ?hd (cs := #[.slice none 0 0,.int .i64 0]) (t := 83) ?hr ?_;(case hd => rfl);(case hg => rfl);(case hr => first | (go_simp;done) | (go_simp;rfl));intro gb465 hg w28 hbox hb;have n0_ := Aside0.mk (below_step (by repeat (first | (with_reducible first | exact HB.out | apply below_alloc | apply pw_below_drewN | apply below_drew1) | exact HB.out)) hb);have n1_ := Aside0.mk (hbox);have n2_ := Aside0.mk ((by rw [hg];exact (below_size (by repeat (first | (with_reducible first | exact HB.out | apply below_alloc | apply pw_below_drewN | apply below_drew1) | exact HB.out))) : w.heap.size ≤ gb465));have n3_ := Aside0.mk ((by rw [hg];exact (below_size (by repeat (first | (with_reducible first | exact HB.out | apply below_alloc | apply pw_below_drewN | apply below_drew1) | exact HB.out))) : w.heap.size ≤ gb465));clear HB;have HB := n0_;have BK465 := n1_;have GW465 := n2_;have GE465 := n3_;clear n0_ n1_ n2_ n3_;clear hb hbox hg;have hcz29_0 : w28.cell? ⟨gb465,0,none⟩ = some (.slice none 0 0) := (blk_cell BK465.out 0).trans rfl;have hcz29_1 : w28.cell? ⟨gb465,1,none⟩ = some (.int .i64 0) := (blk_cell BK465.out 1).trans rfl;have hfz29_0 := blk_frozen BK465.out 0;have hfz29_1 := blk_frozen BK465.out 1))
              have n0_ : Aside0 (((w28.setCell ⟨gb465,0,none⟩ (.slice A464_0 ((rd_T83 l1 x10_1).f0).length c464_0)).setCell ⟨gb465,1,none⟩ (.int .i64 ((rd_T83 l1 x10_1).f1))).heap[gb465]? = some (.cells #[.slice A464_0 ((rd_T83 l1 x10_1).f0).length c464_0,.int .i64 ((rd_T83 l1 x10_1).f1)] 83 (0,0))) := ⟨by (with_reducible repeat (first | refine blk_drewN ?_ _ | refine blk_drew ?_ | refine blk_alloc ?_ _));refine blk_put (cs := #[.slice A464_0 ((rd_T83 l1 x10_1).f0).length c464_0,.int .i64 0]) ?_ 1 _ rfl;(with_reducible repeat (first | refine blk_drewN ?_ _ | refine blk_drew ?_ | refine blk_alloc ?_ _));refine blk_put (cs := #[.slice none 0 0,.int .i64 0]) ?_ 0 _ rfl;(with_reducible repeat (first | refine blk_drewN ?_ _ | refine blk_drew ?_ | refine blk_alloc ?_ _));exact BK465.out⟩
              have n1_ : Aside0 (Below w.heap.size w ((w28.setCell ⟨gb465,0,none⟩ (.slice A464_0 ((rd_T83 l1 x10_1).f0).length c464_0)).setCell ⟨gb465,1,none⟩ (.int .i64 ((rd_T83 l1 x10_1).f1)))) := ⟨by repeat (first | (with_reducible first | exact HB.out | apply below_alloc | apply pw_below_drewN | apply below_drew1 | refine below_set ?_ GE465.out) | exact HB.out)⟩
              (try clear BK465)
              (try clear HB)
              generalize ((w28.setCell ⟨gb465,0,none⟩ (.slice A464_0 ((rd_T83 l1 x10_1).f0).length c464_0)).setCell ⟨gb465,1,none⟩ (.int .i64 ((rd_T83 l1 x10_1).f1))) = w30 at n0_ n1_ ⊢
              have BK465 := n0_
              have HB := n1_
              clear n0_ n1_
              have n0_ := Aside0.mk (blk_drew BK465.out)
              have n1_ := Aside0.mk (below_drew1 HB.out)
              clear BK465
              clear HB
              have BK465 := n0_
              have HB := n1_
              clear n0_ n1_
              refine start_ (n := 21) (S := fun w' => w'.cell? ⟨gb465,0,none⟩ = some (.slice A464_0 ((rd_T83 l1 x10_1).f0).length c464_0) ∧ w'.cell? ⟨gb465,1,none⟩ = some (.int .i64 ((rd_T83 l1 x10_1).f1))) (ds := []) #[false,false,false,false,false,false,false,false,false,false,false,false,false,false,false,false,false,false,false,false,false] (by kernel_rfl) rfl rfl ⟨(blk_cell BK465.out 0).trans rfl,(blk_cell BK465.out 1).trans rfl⟩ (fun hHeld => ?_);refine with_tabW usage_Own.tab4 usage_Own.bits4 (fun HT_ HW_ => ?_)
              generalize w30.drew = w31 at BK465 HB hHeld ⊢
              refine pure_ (i := 0) (N := some 14) (v := ?_) (a' := ?_) #[true,false,false,false,false,false,false,false,false,false,false,false,false,false,false,false,false,false,false,false,false] rfl rfl (any_of HT_.out (by kernel_rfl)) (fun _ _ _ h => h) (Or.inl ⟨by rfl,?_⟩) ?_ ?_
              rotate_left
              · intro w'
                go_simp
                with_reducible rfl
              rotate_left
              · simp only [Act.put,zA,zB,zC,i64_w,i32_w]
                rfl
              refine take_ (i := 1) (N := some 15) (v := ?_) (a' := ?_) #[true,true,false,false,false,false,false,false,false,false,false,false,false,false,false,false,false,false,false,false,false] rfl rfl (take_ofW HT_.out HW_.out (by kernel_rfl)) (fun _ _ _ h => h) (Or.inl ⟨by rfl,?_⟩) hHeld ?_ ?_
              rotate_left
              · rintro w' ⟨s0,s1⟩
                go_simp
                with_reducible rfl
              rotate_left
              · simp only [Act.put,zA,zB,zC,i64_w,i32_w]
                rfl
              refine pure_ (i := 2) (N := some 16) (v := ?_) (a' := ?_) #[true,true,true,false,false,false,false,false,false,false,false,false,false,false,false,false,false,false,false,false,false] rfl rfl (any_of HT_.out (by kernel_rfl)) (fun _ _ _ h => h) (Or.inl ⟨by rfl,?_⟩) ?_ ?_
              rotate_left
              · intro w'
                go_simp
                with_reducible rfl
              rotate_left
              · simp only [Act.put,zA,zB,zC,i64_w,i32_w]
                rfl
              refine pure_ (i := 3) (N := some 17) (v := ?_) (a' := ?_) #[true,true,true,true,false,false,false,false,false,false,false,false,false,false,false,false,false,false,false,false,false] rfl rfl (any_of HT_.out (by kernel_rfl)) (fun _ _ _ h => h) (Or.inl ⟨by rfl,?_⟩) ?_ ?_
              rotate_left
              · intro w'
                go_simp
                with_reducible rfl
              rotate_left
              · simp only [Act.put,zA,zB,zC,i64_w,i32_w]
                rfl
              refine pure_ (i := 4) (N := some 18) (v := ?_) (a' := ?_) #[true,true,true,true,true,false,false,false,false,false,false,false,false,false,false,false,false,false,false,false,false] rfl rfl (any_of HT_.out (by kernel_rfl)) (fun _ _ _ h => h) (Or.inl ⟨by rfl,?_⟩) ?_ ?_
              rotate_left
              · intro w'
                go_simp
                with_reducible rfl
              rotate_left
              · simp only [Act.put,zA,zB,zC,i64_w,i32_w]
                rfl
              refine pure_ (i := 5) (N := some 19) (v := undef) (a' := ?_) #[true,true,true,true,true,true,false,false,false,false,false,false,false,false,false,false,false,false,false,false,false] rfl rfl (any_of HT_.out (by kernel_rfl)) (fun _ _ _ h => h) (Or.inr ⟨by rfl,rfl⟩) ?_ ?_
              rotate_left
              · simp only [Act.put,zA,zB,zC,i64_w,i32_w]
                rfl
              refine pure_ (i := 6) (N := some 20) (v := undef) (a' := ?_) #[true,true,true,true,true,true,true,false,false,false,false,false,false,false,false,false,false,false,false,false,false] rfl rfl (any_of HT_.out (by kernel_rfl)) (fun _ _ _ h => h) (Or.inr ⟨by rfl,rfl⟩) ?_ ?_
              rotate_left
              · simp only [Act.put,zA,zB,zC,i64_w,i32_w]
                rfl
              refine pure_ (i := 7) (N := some 21) (v := undef) (a' := ?_) #[true,true,true,true,true,true,true,true,false,false,false,false,false,false,false,false,false,false,false,false,false] rfl rfl (any_of HT_.out (by kernel_rfl)) (fun _ _ _ h => h) (Or.inr ⟨by rfl,rfl⟩) ?_ ?_
              rotate_left
              · simp only [Act.put,zA,zB,zC,i64_w,i32_w]
                rfl
              refine pure_ (i := 8) (N := some 22) (v := undef) (a' := ?_) #[true,true,true,true,true,true,true,true,true,false,false,false,false,false,false,false,false,false,false,false,false] rfl rfl (any_of HT_.out (by kernel_rfl)) (fun _ _ _ h => h) (Or.inr ⟨by rfl,rfl⟩) ?_ ?_
              rotate_left
              · simp only [Act.put,zA,zB,zC,i64_w,i32_w]
                rfl
              refine pure_ (i := 9) (N := some 23) (v := undef) (a' := ?_) #[true,true,true,true,true,true,true,true,true,true,false,false,false,false,false,false,false,false,false,false,false] rfl rfl (any_of HT_.out (by kernel_rfl)) (fun _ _ _ h => h) (Or.inr ⟨by rfl,rfl⟩) ?_ ?_
              rotate_left
              · simp only [Act.put,zA,zB,zC,i64_w,i32_w]
                rfl
              refine pure_ (i := 10) (N := some 24) (v := undef) (a' := ?_) #[true,true,true,true,true,true,true,true,true,true,true,false,false,false,false,false,false,false,false,false,false] rfl rfl (any_of HT_.out (by kernel_rfl)) (fun _ _ _ h => h) (Or.inr ⟨by rfl,rfl⟩) ?_ ?_
              rotate_left
              · simp only [Act.put,zA,zB,zC,i64_w,i32_w]
                rfl
              refine pure_ (i := 11) (N := some 25) (v := undef) (a' := ?_) #[true,true,true,true,true,true,true,true,true,true,true,true,false,false,false,false,false,false,false,false,false] rfl rfl (any_of HT_.out (by kernel_rfl)) (fun _ _ _ h => h) (Or.inr ⟨by rfl,rfl⟩) ?_ ?_
              rotate_left
              · simp only [Act.put,zA,zB,zC,i64_w,i32_w]
                rfl
              refine pure_ (i := 12) (N := some 26) (v := ?_) (a' := ?_) #[true,true,true,true,true,true,true,true,true,true,true,true,true,false,false,false,false,false,false,false,false] rfl rfl (any_of HT_.out (by kernel_rfl)) (fun _ _ _ h => h) (Or.inl ⟨by rfl,?_⟩) ?_ ?_
              rotate_left
              · intro w'
                go_simp
                with_reducible rfl
              rotate_left
              · simp only [Act.put,zA,zB,zC,i64_w,i32_w]
                rfl
              refine pure_ (i := 13) (N := some 27) (v := ?_) (a' := ?_) #[true,true,true,true,true,true,true,true,true,true,true,true,true,true,false,false,false,false,false,false,false] rfl rfl (any_of HT_.out (by kernel_rfl)) (fun _ _ _ h => h) (Or.inl ⟨by rfl,?_⟩) ?_ ?_
              rotate_left
              · intro w'
                go_simp
                with_reducible rfl
              rotate_left
              · simp only [Act.put,zA,zB,zC,i64_w,i32_w]
                rfl
              refine pure_ (i := 14) (N := some 28) (v := undef) (a' := ?_) #[true,true,true,true,true,true,true,true,true,true,true,true,true,true,true,false,false,false,false,false,false] rfl rfl (any_of HT_.out (by kernel_rfl)) (fun _ _ _ h => h) (Or.inr ⟨by rfl,rfl⟩) ?_ ?_
              rotate_left
              · simp only [Act.put,zA,zB,zC,i64_w,i32_w]
                rfl
              refine pure_ (i := 15) (N := some 29) (v := undef) (a' := ?_) #[true,true,true,true,true,true,true,true,true,true,true,true,true,true,true,true,false,false,false,false,false] rfl rfl (any_of HT_.out (by kernel_rfl)) (fun _ _ _ h => h) (Or.inr ⟨by rfl,rfl⟩) ?_ ?_
              rotate_left
              · simp only [Act.put,zA,zB,zC,i64_w,i32_w]
                rfl
              refine pure_ (i := 16) (N := some 30) (v := undef) (a' := ?_) #[true,true,true,true,true,true,true,true,true,true,true,true,true,true,true,true,true,false,false,false,false] rfl rfl (any_of HT_.out (by kernel_rfl)) (fun _ _ _ h => h) (Or.inr ⟨by rfl,rfl⟩) ?_ ?_
              rotate_left
              · simp only [Act.put,zA,zB,zC,i64_w,i32_w]
                rfl
              refine pure_ (i := 17) (N := some 31) (v := undef) (a' := ?_) #[true,true,true,true,true,true,true,true,true,true,true,true,true,true,true,true,true,true,false,false,false] rfl rfl (any_of HT_.out (by kernel_rfl)) (fun _ _ _ h => h) (Or.inr ⟨by rfl,rfl⟩) ?_ ?_
              rotate_left
              · simp only [Act.put,zA,zB,zC,i64_w,i32_w]
                rfl
              refine pure_ (i := 18) (N := some 32) (v := undef) (a' := ?_) #[true,true,true,true,true,true,true,true,true,true,true,true,true,true,true,true,true,true,true,false,false] rfl rfl (any_of HT_.out (by kernel_rfl)) (fun _ _ _ h => h) (Or.inr ⟨by rfl,rfl⟩) ?_ ?_
              rotate_left
              · simp only [Act.put,zA,zB,zC,i64_w,i32_w]
                rfl
              refine pure_ (i := 19) (N := some 33) (v := undef) (a' := ?_) #[true,true,true,true,true,true,true,true,true,true,true,true,true,true,true,true,true,true,true,true,false] rfl rfl (any_of HT_.out (by kernel_rfl)) (fun _ _ _ h => h) (Or.inr ⟨by rfl,rfl⟩) ?_ ?_
              rotate_left
              · simp only [Act.put,zA,zB,zC,i64_w,i32_w]
                rfl
              refine pure_ (i := 20) (N := some 34) (v := ?_) (a' := ?_) #[true,true,true,true,true,true,true,true,true,true,true,true,true,true,true,true,true,true,true,true,true] rfl rfl (any_of HT_.out (by kernel_rfl)) (fun _ _ _ h => h) (Or.inl ⟨by rfl,?_⟩) ?_ ?_
              rotate_left
              · intro w'
                go_simp
                with_reducible rfl
              rotate_left
              · simp only [Act.put,zA,zB,zC,i64_w,i32_w]
                rfl
              refine done_ (done_of HT_.out (by kernel_rfl)) ?_
              try go_wp2
              go_roundg k1
              case measure => have := HK1.out;omega
              case rel => exact ⟨(wrap64 (x10_1 + 1)),(by first | rfl | (simp;done) | (simp [*];done)),H',⟨by have := HK1.out;omega⟩,⟨by repeat (first | (with_reducible first | exact HB.out | apply below_alloc | apply pw_below_drewN | apply below_drew1 | refine below_set ?_ GE465.out) | exact HB.out)⟩⟩
          · rw [if_neg c5] at H
            exact absurd H (by simp)
        · rw [if_neg c4] at H
          exact absurd H (by simp)
      · rw [if_neg c3] at H
        have c3b0 : decide (x10_1 < (l1.length : Int)) = false := decide_eq_false c3
        clear c3
        simp only [Option.some.injEq,Prod.mk.injEq] at H
        obtain ⟨rfl,rfl⟩ := H
        go_wp2
        go_ret2
        exact ⟨by first | rfl | (simp [errW_none,errW_some] <;> rfl) | (simp [*,errW_none,errW_some] <;> rfl),by repeat (first | (with_reducible first | exact HB.out | apply below_alloc | apply pw_below_drewN | apply below_drew1) | exact HB.out)⟩
end Go.Proofs.Ytcenlehfbgnphaa.Z
end
section
namespace Go.Proofs.Ytcenlehfbgnphaa.Cmp
structure CmpLaw {α : Type} (c : α → α → Int) : Prop where
  lo : ∀ a b,-1 ≤ c a b
  anti : ∀ a b,c b a = - c a b
  le : ∀ a b d,c a b ≤ 0 → c b d ≤ 0 → c a d ≤ 0
variable {α : Type} {c : α → α → Int}
theorem CmpLaw.hi (h : CmpLaw c) (a b : α) : c a b ≤ 1 := by have := h.lo b a;have := h.anti b a;omega
theorem CmpLaw.lt_le (h : CmpLaw c) {a b d : α} (h1 : c a b < 0) (h2 : c b d ≤ 0) : c a d < 0 := by
  have h3 := h.le a b d (by omega) h2
  rcases Int.lt_or_eq_of_le h3 with h4 | h4
  · exact h4
  · have h5 := h.anti a d
    have h6 := h.le b d a h2 (by omega)
    have h7 := h.anti a b
    omega
theorem CmpLaw.le_lt (h : CmpLaw c) {a b d : α} (h1 : c a b ≤ 0) (h2 : c b d < 0) : c a d < 0 := by
  have h3 := h.le a b d h1 (by omega)
  rcases Int.lt_or_eq_of_le h3 with h4 | h4
  · exact h4
  · have h5 := h.anti a d
    have h6 := h.le d a b (by omega) h1
    have h7 := h.anti b d
    omega
theorem CmpLaw.eq_left (h : CmpLaw c) {a b : α} (d : α) (h1 : c a b = 0) : c a d = c b d := by
  have a1 := h.anti a b
  have lo1 := h.lo a d
  have hi1 := h.hi a d
  have lo2 := h.lo b d
  have hi2 := h.hi b d
  rcases Int.lt_trichotomy (c b d) 0 with h2 | h2 | h2
  · have := h.le_lt (a := a) (b := b) (d := d) (by omega) h2
    omega
  · have h3 := h.le a b d (by omega) (by omega)
    have h4 := h.le d b a (by have := h.anti b d;omega) (by omega)
    have := h.anti a d
    omega
  · have h3 : c d b < 0 := by have := h.anti b d;omega
    have := h.lt_le h3 (show c b a ≤ 0 by omega)
    have := h.anti a d
    omega
def cmpI (a b : Int) : Int := if a < b then -1 else if b < a then 1 else 0
theorem cmpI_law : CmpLaw cmpI := by
  refine ⟨fun a b => ?_,fun a b => ?_,fun a b d h1 h2 => ?_⟩ <;> unfold cmpI at * <;> repeat' split at * <;> omega
theorem cmpI_eq {a b : Int} : cmpI a b = 0 ↔ a = b := by unfold cmpI;repeat' split <;> omega
theorem CmpLaw.on {β : Type} (f : β → α) (h : CmpLaw c) : CmpLaw (fun x y => c (f x) (f y)) := ⟨fun _ _ => h.lo _ _,fun _ _ => h.anti _ _,fun _ _ _ => h.le _ _ _⟩
def andThenC (c d : α → α → Int) (a b : α) : Int := if c a b = 0 then d a b else c a b
theorem CmpLaw.andThen {d : α → α → Int} (hc : CmpLaw c) (hd : CmpLaw d) : CmpLaw (andThenC c d) := by
  refine ⟨fun a b => ?_,fun a b => ?_,fun a b e h1 h2 => ?_⟩
  · unfold andThenC;split
    · exact hd.lo a b
    · exact hc.lo a b
  · unfold andThenC
    have h1 := hc.anti a b
    have h2 := hd.anti a b
    by_cases h : c a b = 0
    · rw [if_pos h,if_pos (by omega)];exact h2
    · rw [if_neg h,if_neg (by omega)];exact h1
  · unfold andThenC at *
    by_cases ha : c a b = 0
    · rw [if_pos ha] at h1
      rw [hc.eq_left e ha]
      by_cases hb : c b e = 0
      · rw [if_pos hb] at h2 ⊢
        exact hd.le _ _ _ h1 h2
      · rw [if_neg hb] at h2 ⊢
        exact h2
    · rw [if_neg ha] at h1
      have h3 : c b e ≤ 0 := by
        by_cases hb : c b e = 0
        · omega
        · rw [if_neg hb] at h2;exact h2
      have h4 := hc.lt_le (show c a b < 0 by omega) h3
      rw [if_neg (by omega)]
      omega
def lexC (c : α → α → Int) : List α → List α → Int
  | [],[] => 0
  | [],_ :: _ => -1
  | _ :: _,[] => 1
  | a :: as_,b :: bs => if c a b = 0 then lexC c as_ bs else c a b
theorem lexC_law (h : CmpLaw c) : CmpLaw (lexC c) := by
  have lo : ∀ a b,-1 ≤ lexC c a b := by
    intro a
    induction a with
    | nil => intro b;cases b <;> simp [lexC]
    | cons x a ih =>
      intro b
      cases b with
      | nil => simp [lexC]
      | cons y b =>
        simp only [lexC]
        split
        · exact ih b
        · exact h.lo x y
  have anti : ∀ a b,lexC c b a = - lexC c a b := by
    intro a
    induction a with
    | nil => intro b;cases b <;> simp [lexC]
    | cons x a ih =>
      intro b
      cases b with
      | nil => simp [lexC]
      | cons y b =>
        simp only [lexC]
        have h1 := h.anti x y
        by_cases h0 : c x y = 0
        · rw [if_pos h0,if_pos (by omega)];exact ih b
        · rw [if_neg h0,if_neg (by omega)];exact h1
  refine ⟨lo,anti,?_⟩
  intro a
  induction a with
  | nil =>
    intro b d h1 h2
    cases d with
    | nil => simp [lexC]
    | cons => simp [lexC]
  | cons x a ih =>
    intro b d h1 h2
    cases b with
    | nil => simp [lexC] at h1
    | cons y b =>
      cases d with
      | nil => simp [lexC] at h2
      | cons z d =>
        simp only [lexC] at h1 h2 ⊢
        by_cases hxy : c x y = 0
        · rw [if_pos hxy] at h1
          rw [h.eq_left z hxy]
          by_cases hyz : c y z = 0
          · rw [if_pos hyz] at h2 ⊢
            exact ih b d h1 h2
          · rw [if_neg hyz] at h2 ⊢
            exact h2
        · rw [if_neg hxy] at h1
          have h3 : c y z ≤ 0 := by
            by_cases hyz : c y z = 0
            · omega
            · rw [if_neg hyz] at h2;exact h2
          have h4 := h.lt_le (show c x y < 0 by omega) h3
          rw [if_neg (by omega)]
          omega
theorem lexC_eq (hc : ∀ a b,c a b = 0 → a = b) : ∀ a b,lexC c a b = 0 → a = b := by
  intro a
  induction a with
  | nil => intro b h;cases b with | nil => rfl | cons => simp [lexC] at h
  | cons x a ih =>
    intro b h
    cases b with
    | nil => simp [lexC] at h
    | cons y b =>
      simp only [lexC] at h
      by_cases h0 : c x y = 0
      · rw [if_pos h0] at h
        rw [hc _ _ h0,ih _ h]
      · rw [if_neg h0] at h
        exact absurd h h0
def cmpB (a b : List UInt8) : Int := lexC (fun x y : UInt8 => cmpI x.toNat y.toNat) a b
theorem cmpB_law : CmpLaw cmpB := lexC_law (cmpI_law.on fun x : UInt8 => (x.toNat : Int))
theorem cmpB_eq {a b : List UInt8} (h : cmpB a b = 0) : a = b := lexC_eq (fun x y hxy => by have := cmpI_eq.1 hxy;exact UInt8.toNat_inj.1 (by omega)) a b h
end Go.Proofs.Ytcenlehfbgnphaa.Cmp
end
section
namespace Go.Proofs.Ytcenlehfbgnphaa.Z
open Go.RowKit Go.Proofs.YtcenlehfbgnphaaW.PrintWords Go.Proofs.YtcenlehfbgnphaaW.PrintLast Go.Proofs.YtcenlehfbgnphaaW.PrintMore
attribute [local go_sem] max2_int min2_int max_two min_two max_three min_three max_four min_four
set_option linter.unusedVariables false
set_option linter.unusedSimpArgs false
def safe_fits.f (a0 : Int) (a1 : Bool) : Option (Int × Int) := if a1 = true then (some (a0,0)) else (some (0,10))
set_option maxHeartbeats 8000000 in
set_option maxRecDepth 100000 in
theorem safe_fits.calls (a0 : Int) (a1 : Bool) (r1 : Int) (r2 : Int) (w : World) (h : safe_fits.f a0 a1 = some (r1,r2)) :
    Calls Try.prog 62 #[.int .i64 a0,.bool a1] w fun e w' => e = .returned (.tuple #[.int .i64 r1,.int .i64 r2]) ∧ Drawn0 w w' := by
  have H : (if a1 = true then (some (a0,0)) else (some (0,10))) = some (r1,r2) := h
  clear h
  by_cases c3 : a1 = true
  · subst c3
    have H1 : (some (a0,0)) = some (r1,r2) := by rw [if_pos rfl] at H;exact H
    clear H
    have H := H1
    clear H1
    simp only [Option.some.injEq,Prod.mk.injEq] at H
    obtain ⟨rfl,rfl⟩ := H
    go_enter Try.func62,Try.ntmps62
    go_wp2
    go_ret2
    exact ⟨by first | rfl | (simp;done) | (simp [*];done),by repeat (first | exact Drawn0.refl _ | apply Drawn0.step)⟩
  · replace c3 := Bool.eq_false_iff.mpr c3
    subst c3
    have H1 : (some (0,10)) = some (r1,r2) := by rw [if_neg (show ¬ (false = true) by decide)] at H;exact H
    clear H
    have H := H1
    clear H1
    simp only [Option.some.injEq,Prod.mk.injEq] at H
    obtain ⟨rfl,rfl⟩ := H
    go_enter Try.func62,Try.ntmps62
    go_wp2
    go_ret2
    exact ⟨by first | rfl | (simp;done) | (simp [*];done),by repeat (first | exact Drawn0.refl _ | apply Drawn0.step)⟩
end Go.Proofs.Ytcenlehfbgnphaa.Z
end
section
namespace Go.Proofs.Ytcenlehfbgnphaa.Z
set_option linter.unusedVariables false
set_option linter.unusedSimpArgs false
open Go.RowKit Go.Proofs.YtcenlehfbgnphaaW.PrintWords Go.Proofs.YtcenlehfbgnphaaW.PrintLast Go.Proofs.YtcenlehfbgnphaaW.PrintMore
def sumCells (x0 x1 x2 : Int) : Array Value := #[.int .i64 x0,.int .i64 x1,.int .i64 x2]
end Go.Proofs.Ytcenlehfbgnphaa.Z
end
section
namespace Go.Proofs.Ytcenlehfbgnphaa.Z
open Go.RowKit Go.Proofs.YtcenlehfbgnphaaW.PrintWords Go.Proofs.YtcenlehfbgnphaaW.PrintLast Go.Proofs.YtcenlehfbgnphaaW.PrintMore
attribute [local go_sem] max2_int min2_int max_two min_two max_three min_three max_four min_four
set_option linter.unusedVariables false
set_option linter.unusedSimpArgs false
def safe_Add.f (a0 : Int) (a1 : Int) : Option (Int × Int) := (safe_fits.f (wrap64 (a0 + a1)) (decide ((Go.bits .and .i64 (Go.bits .xor .i64 a0 (wrap64 (a0 + a1))) (Go.bits .xor .i64 a1 (wrap64 (a0 + a1)))) ≥ 0))).bind fun bt101 => (some (bt101.1,bt101.2))
set_option maxHeartbeats 8000000 in
set_option maxRecDepth 100000 in
theorem safe_Add.calls (a0 : Int) (a1 : Int) (r1 : Int) (r2 : Int) (w : World) (h : safe_Add.f a0 a1 = some (r1,r2)) :
    Calls Try.prog 23 #[.int .i64 a0,.int .i64 a1] w fun e w' => e = .returned (.tuple #[.int .i64 r1,.int .i64 r2]) ∧ Drawn0 w w' := by
  have H : ((safe_fits.f (wrap64 (a0 + a1)) (decide ((Go.bits .and .i64 (Go.bits .xor .i64 a0 (wrap64 (a0 + a1))) (Go.bits .xor .i64 a1 (wrap64 (a0 + a1)))) ≥ 0))).bind fun bt101 => (some (bt101.1,bt101.2))) = some (r1,r2) := h
  clear h
  replace H := Option.bind_eq_some_iff.mp H
  obtain ⟨⟨t101,t102⟩,A30,H⟩ := H
  replace H : (some (t101,t102)) = some (r1,r2) := H
  have A3 := Aside0.mk A30
  clear A30
  simp only [Option.some.injEq,Prod.mk.injEq] at H
  obtain ⟨rfl,rfl⟩ := H
  go_enter Try.func23,Try.ntmps23
  go_wp2_with (first | ((with_reducible refine gate_callee (f := 62) rfl ?_);refine goesL_ (some 19) rfl rfl Try.func62 (by kernel_rfl) rfl #[.int .i64 (wrap64 (a0 + a1)),.bool (decide ((Go.bits .and .i64 (Go.bits .xor .i64 a0 (wrap64 (a0 + a1))) (Go.bits .xor .i64 a1 (wrap64 (a0 + a1)))) ≥ 0))] rfl (by (try simp only [List.map_toArray,List.map_cons,List.map_nil]);first | done | rfl | (simp only [List.length_drop,List.length_take];rfl)) ?_;(with_reducible refine (safe_fits.calls (wrap64 (a0 + a1)) (decide ((Go.bits .and .i64 (Go.bits .xor .i64 a0 (wrap64 (a0 + a1))) (Go.bits .xor .i64 a1 (wrap64 (a0 + a1)))) ≥ 0)) t101 t102 _ A3.out).mono ?_);rintro e w' ⟨rfl,⟨nd,rfl⟩⟩;refine ⟨_,rfl,?_⟩))
  go_ret2
  exact ⟨by first | rfl | (simp;done) | (simp [*];done),by repeat (first | exact Drawn0.refl _ | apply Drawn0.step)⟩
end Go.Proofs.Ytcenlehfbgnphaa.Z
end
section
namespace Go.Proofs.Ytcenlehfbgnphaa.Z
open Go.RowKit Go.Proofs.YtcenlehfbgnphaaW.PrintWords Go.Proofs.YtcenlehfbgnphaaW.PrintLast Go.Proofs.YtcenlehfbgnphaaW.PrintMore
attribute [local go_sem] max2_int min2_int max_two min_two max_three min_three max_four min_four
set_option linter.unusedVariables false
set_option linter.unusedSimpArgs false
def safe_Sub.f (a0 : Int) (a1 : Int) : Option (Int × Int) := (safe_fits.f (wrap64 (a0 - a1)) (decide ((Go.bits .and .i64 (Go.bits .xor .i64 a0 a1) (Go.bits .xor .i64 a0 (wrap64 (a0 - a1)))) ≥ 0))).bind fun bt153 => (some (bt153.1,bt153.2))
set_option maxHeartbeats 8000000 in
set_option maxRecDepth 100000 in
theorem safe_Sub.calls (a0 : Int) (a1 : Int) (r1 : Int) (r2 : Int) (w : World) (h : safe_Sub.f a0 a1 = some (r1,r2)) :
    Calls Try.prog 25 #[.int .i64 a0,.int .i64 a1] w fun e w' => e = .returned (.tuple #[.int .i64 r1,.int .i64 r2]) ∧ Drawn0 w w' := by
  have H : ((safe_fits.f (wrap64 (a0 - a1)) (decide ((Go.bits .and .i64 (Go.bits .xor .i64 a0 a1) (Go.bits .xor .i64 a0 (wrap64 (a0 - a1)))) ≥ 0))).bind fun bt153 => (some (bt153.1,bt153.2))) = some (r1,r2) := h
  clear h
  replace H := Option.bind_eq_some_iff.mp H
  obtain ⟨⟨t153,t154⟩,A30,H⟩ := H
  replace H : (some (t153,t154)) = some (r1,r2) := H
  have A3 := Aside0.mk A30
  clear A30
  simp only [Option.some.injEq,Prod.mk.injEq] at H
  obtain ⟨rfl,rfl⟩ := H
  go_enter Try.func25,Try.ntmps25
  go_wp2_with (first | ((with_reducible refine gate_callee (f := 62) rfl ?_);refine goesL_ (some 19) rfl rfl Try.func62 (by kernel_rfl) rfl #[.int .i64 (wrap64 (a0 - a1)),.bool (decide ((Go.bits .and .i64 (Go.bits .xor .i64 a0 a1) (Go.bits .xor .i64 a0 (wrap64 (a0 - a1)))) ≥ 0))] rfl (by (try simp only [List.map_toArray,List.map_cons,List.map_nil]);first | done | rfl | (simp only [List.length_drop,List.length_take];rfl)) ?_;(with_reducible refine (safe_fits.calls (wrap64 (a0 - a1)) (decide ((Go.bits .and .i64 (Go.bits .xor .i64 a0 a1) (Go.bits .xor .i64 a0 (wrap64 (a0 - a1)))) ≥ 0)) t153 t154 _ A3.out).mono ?_);rintro e w' ⟨rfl,⟨nd,rfl⟩⟩;refine ⟨_,rfl,?_⟩))
  go_ret2
  exact ⟨by first | rfl | (simp;done) | (simp [*];done),by repeat (first | exact Drawn0.refl _ | apply Drawn0.step)⟩
end Go.Proofs.Ytcenlehfbgnphaa.Z
end
section
namespace Go.Proofs.Ytcenlehfbgnphaa.Z
open Go.RowKit Go.Proofs.YtcenlehfbgnphaaW.PrintWords Go.Proofs.YtcenlehfbgnphaaW.PrintLast Go.Proofs.YtcenlehfbgnphaaW.PrintMore
def In64 (x : Int) : Prop := -9223372036854775808 ≤ x ∧ x ≤ 9223372036854775807
theorem wrap_toInt (x : BitVec 64) : IntKind.i64.wrap (x.toNat : Int) = x.toInt := by
  rw [Go.IntKind.wrap_i64,BitVec.toInt_eq_toNat_bmod,Int.bmod_def]
  have := x.isLt
  split <;> omega
theorem and_i64 (a b : Int) : Go.bits .and .i64 a b = (BitVec.ofInt 64 a &&& BitVec.ofInt 64 b).toInt := wrap_toInt _
def fitF (n : Int) : Int × Int := if -9223372036854775808 ≤ n ∧ n ≤ 9223372036854775807 then (n,0) else (0,10)
end Go.Proofs.Ytcenlehfbgnphaa.Z
end
section
namespace Go.Proofs.Ytcenlehfbgnphaa.Z
set_option linter.unusedVariables false
set_option linter.unusedSimpArgs false
open Go.RowKit Go.Proofs.YtcenlehfbgnphaaW.PrintWords Go.Proofs.YtcenlehfbgnphaaW.PrintLast Go.Proofs.YtcenlehfbgnphaaW.PrintMore
theorem only_refl (a : World) (g : Nat) : a.grownBy a (some g) := ⟨rfl,rfl,rfl,Nat.le_refl _,fun _ _ _ => rfl⟩
theorem only_drew {a w : World} {row : Option Nat} (h : a.grownBy w row) : a.grownBy w.drew row := ⟨h.os,h.tape,h.output,h.size,h.block⟩
theorem only_setCell {a w : World} {g : Nat} {p : Addr} (h : a.grownBy w (some g)) (hp : p.block = g ∨ a.heap.size ≤ p.block) (u : Value) : a.grownBy (w.setCell p u) (some g) :=
  ⟨h.os,h.tape,h.output,by simpa [World.setCell] using h.size,fun i hi hne => (Below.heap_setCell w p u i (by
    rintro rfl
    rcases hp with hp | hp
    · exact hne (by rw [hp])
    · omega)).trans (h.block i hi hne)⟩
set_option maxHeartbeats 4000000 in
set_option maxRecDepth 100000 in
theorem sum_putg (g : Nat) (x0 x1 x2 n t L M X : Int) (w : World) (h : w.heap[g]? = some (.cells (sumCells x0 x1 x2) 26 (0,0))) (t0 : -1073741824 ≤ t) (t1 : t ≤ 1073741824)
    (hL : wrap64 (x2 + wrap64 (bits BinOp.and IntKind.i64 n 4294967295 * t)) = L) (hM : wrap64 (wrap64 (x1 + wrap64 (n / 4294967296 * t)) + L / 4294967296) = M) (hX : wrap64 (x0 + M / 4294967296) = X) :
    Calls Try.prog 15 #[.pointer (some ⟨g,0,none⟩),.int .i64 n,.int .i64 t] w fun e w' => e = .returned (.int .i64 0) ∧ w'.heap[g]? = some (.cells (sumCells X (bits BinOp.and IntKind.i64 M 4294967295) (bits BinOp.and IntKind.i64 L 4294967295)) 26 (0,0)) ∧ w.grownBy w' (some g) := by
  have z0 := blk_frozen h 0
  have z1 := blk_frozen h 1
  have z2 := blk_frozen h 2
  have c0 := blk_cell h 0
  have c1 := blk_cell h 1
  have c2 := blk_cell h 2
  simp only [sumCells,List.getElem?_toArray,List.getElem?_cons_zero,List.getElem?_cons_succ] at c0 c1 c2
  have H := Aside0.mk h
  have HL := Aside0.mk hL
  have HM := Aside0.mk hM
  have HX := Aside0.mk hX
  clear h hL hM hX
  go_enter Try.func15,Try.ntmps15
  go_wp2
  rw [HL.out,HM.out]
  go_region
  rw [HX.out]
  have H1 : (w.setCell ⟨g,0,none⟩ (.int .i64 X)).heap[g]? = some (.cells #[.int .i64 X,.int .i64 x1,.int .i64 x2] 26 (0,0)) := blk_put H.out 0 _ rfl
  have B1 := only_setCell (p := ⟨g,0,none⟩) (only_refl w g) (Or.inl rfl) (.int .i64 X)
  generalize w.setCell ⟨g,0,none⟩ (.int .i64 X) = W0 at H1 B1 ⊢
  have H1' := blk_drew H1
  have B1' := only_drew B1
  generalize W0.drew = W1 at H1' B1' ⊢
  clear H1 B1 H
  have H2 := blk_drew H1'
  have B2 := only_drew B1'
  go_wp2
  refine start_ (n := 14) (S := fun w' => True) (ds := []) #[false,false,false,false,false,false,false,false,false,false,false,false,false,false] (by kernel_rfl) rfl rfl trivial (fun hHeld => ?_)
  refine pure_ (i := 0) (N := some 53) (v := ?_) (a' := ?_) #[true,false,false,false,false,false,false,false,false,false,false,false,false,false] rfl rfl (by kernel_rfl) (fun _ _ _ h => h) (Or.inl ⟨by rfl,?_⟩) ?_ ?_
  rotate_left
  · intro w'
    go_simp
    with_reducible rfl
  rotate_left
  · simp only [Act.put,zA,zB,zC,i64_w,i32_w]
    rfl
  refine pure_ (i := 1) (N := some 54) (v := ?_) (a' := ?_) #[true,true,false,false,false,false,false,false,false,false,false,false,false,false] rfl rfl (by kernel_rfl) (fun _ _ _ h => h) (Or.inl ⟨by rfl,?_⟩) ?_ ?_
  rotate_left
  · intro w'
    go_simp
    with_reducible rfl
  rotate_left
  · simp only [Act.put,zA,zB,zC,i64_w,i32_w]
    rfl
  refine pure_ (i := 2) (N := some 55) (v := ?_) (a' := ?_) #[true,true,true,false,false,false,false,false,false,false,false,false,false,false] rfl rfl (by kernel_rfl) (fun _ _ _ h => h) (Or.inl ⟨by rfl,?_⟩) ?_ ?_
  rotate_left
  · intro w'
    go_simp
    with_reducible rfl
  rotate_left
  · simp only [Act.put,zA,zB,zC,i64_w,i32_w]
    rfl
  refine pure_ (i := 3) (N := some 56) (v := ?_) (a' := ?_) #[true,true,true,true,false,false,false,false,false,false,false,false,false,false] rfl rfl (by kernel_rfl) (fun _ _ _ h => h) (Or.inl ⟨by rfl,?_⟩) ?_ ?_
  rotate_left
  · intro w'
    go_simp
    with_reducible rfl
  rotate_left
  · simp only [Act.put,zA,zB,zC,i64_w,i32_w]
    rfl
  refine pure_ (i := 4) (N := some 57) (v := ?_) (a' := ?_) #[true,true,true,true,true,false,false,false,false,false,false,false,false,false] rfl rfl (by kernel_rfl) (fun _ _ _ h => h) (Or.inl ⟨by rfl,?_⟩) ?_ ?_
  rotate_left
  · intro w'
    go_simp
    with_reducible rfl
  rotate_left
  · simp only [Act.put,zA,zB,zC,i64_w,i32_w]
    rfl
  refine pure_ (i := 5) (N := some 58) (v := ?_) (a' := ?_) #[true,true,true,true,true,true,false,false,false,false,false,false,false,false] rfl rfl (by kernel_rfl) (fun _ _ _ h => h) (Or.inl ⟨by rfl,?_⟩) ?_ ?_
  rotate_left
  · intro w'
    go_simp
    with_reducible rfl
  rotate_left
  · simp only [Act.put,zA,zB,zC,i64_w,i32_w]
    rfl
  refine pure_ (i := 6) (N := some 59) (v := ?_) (a' := ?_) #[true,true,true,true,true,true,true,false,false,false,false,false,false,false] rfl rfl (by kernel_rfl) (fun _ _ _ h => h) (Or.inl ⟨by rfl,?_⟩) ?_ ?_
  rotate_left
  · intro w'
    go_simp
    with_reducible rfl
  rotate_left
  · simp only [Act.put,zA,zB,zC,i64_w,i32_w]
    rfl
  refine pure_ (i := 7) (N := some 60) (v := ?_) (a' := ?_) #[true,true,true,true,true,true,true,true,false,false,false,false,false,false] rfl rfl (by kernel_rfl) (fun _ _ _ h => h) (Or.inl ⟨by rfl,?_⟩) ?_ ?_
  rotate_left
  · intro w'
    go_simp
    with_reducible rfl
  rotate_left
  · simp only [Act.put,zA,zB,zC,i64_w,i32_w]
    rfl
  refine pure_ (i := 8) (N := some 61) (v := ?_) (a' := ?_) #[true,true,true,true,true,true,true,true,true,false,false,false,false,false] rfl rfl (by kernel_rfl) (fun _ _ _ h => h) (Or.inl ⟨by rfl,?_⟩) ?_ ?_
  rotate_left
  · intro w'
    go_simp
    with_reducible rfl
  rotate_left
  · simp only [Act.put,zA,zB,zC,i64_w,i32_w]
    rfl
  refine pure_ (i := 10) (N := some 62) (v := ?_) (a' := ?_) #[true,true,true,true,true,true,true,true,true,false,true,false,false,false] rfl rfl (by kernel_rfl) (fun _ _ _ h => h) (Or.inl ⟨by rfl,?_⟩) ?_ ?_
  rotate_left
  · intro w'
    go_simp
    with_reducible rfl
  rotate_left
  · simp only [Act.put,zA,zB,zC,i64_w,i32_w]
    rfl
  refine pure_ (i := 11) (N := some 63) (v := ?_) (a' := ?_) #[true,true,true,true,true,true,true,true,true,false,true,true,false,false] rfl rfl (by kernel_rfl) (fun _ _ _ h => h) (Or.inl ⟨by rfl,?_⟩) ?_ ?_
  rotate_left
  · intro w'
    go_simp
    with_reducible rfl
  rotate_left
  · simp only [Act.put,zA,zB,zC,i64_w,i32_w]
    rfl
  refine one_ (i := 9) (N := none) #[true,true,true,true,true,true,true,true,true,true,true,true,false,false] rfl rfl (by kernel_rfl) (by decide) (fun K hK => ?_)
  refine skip_ (w1 := (W1.drew).setCell ⟨g,1,none⟩ (.int .i64 (bits BinOp.and IntKind.i64 M 4294967295))) (by rfl) rfl ?_ ?_
  · have z := blk_frozen H2 1
    have c := blk_cell H2 1
    simp only [List.getElem?_toArray,List.getElem?_cons_zero,List.getElem?_cons_succ] at c
    go_simp
    try with_reducible rfl
  refine hK.out _ _ trivial (fun hHeld => ?_)
  clear hK K
  have H3 : ((W1.drew).setCell ⟨g,1,none⟩ (.int .i64 (bits BinOp.and IntKind.i64 M 4294967295))).heap[g]? = some (.cells #[.int .i64 X,.int .i64 (bits BinOp.and IntKind.i64 M 4294967295),.int .i64 x2] 26 (0,0)) := blk_put H2 1 _ rfl
  have B3 := only_setCell (p := ⟨g,1,none⟩) B2 (Or.inl rfl) (.int .i64 (bits BinOp.and IntKind.i64 M 4294967295))
  generalize (W1.drew).setCell ⟨g,1,none⟩ (.int .i64 (bits BinOp.and IntKind.i64 M 4294967295)) = W2 at H3 B3 ⊢
  refine pure_ (i := 12) (N := some 64) (v := ?_) (a' := ?_) #[true,true,true,true,true,true,true,true,true,true,true,true,true,false] rfl rfl (by kernel_rfl) (fun _ _ _ h => h) (Or.inl ⟨by rfl,?_⟩) ?_ ?_
  rotate_left
  · intro w'
    go_simp
    with_reducible rfl
  rotate_left
  · simp only [Act.put,zA,zB,zC,i64_w,i32_w]
    rfl
  refine one_ (i := 13) (N := none) #[true,true,true,true,true,true,true,true,true,true,true,true,true,true] rfl rfl (by kernel_rfl) (by decide) (fun K hK => ?_)
  refine skip_ (w1 := (W2).setCell ⟨g,2,none⟩ (.int .i64 (bits BinOp.and IntKind.i64 L 4294967295))) (by rfl) rfl ?_ ?_
  · have z := blk_frozen H3 2
    have c := blk_cell H3 2
    simp only [List.getElem?_toArray,List.getElem?_cons_zero,List.getElem?_cons_succ] at c
    go_simp
    try with_reducible rfl
  refine hK.out _ _ trivial (fun hHeld => ?_)
  clear hK K
  refine done_ (by kernel_rfl) ?_
  go_wp2
  go_ret
  exact ⟨rfl,blk_put H3 2 _ rfl,only_setCell B3 (Or.inl rfl) _⟩
end Go.Proofs.Ytcenlehfbgnphaa.Z
end
section
namespace Go.Proofs.Ytcenlehfbgnphaa.Z
set_option linter.unusedVariables false
set_option linter.unusedSimpArgs false
open Go.RowKit Go.Proofs.YtcenlehfbgnphaaW.PrintWords Go.Proofs.YtcenlehfbgnphaaW.PrintLast Go.Proofs.YtcenlehfbgnphaaW.PrintMore Go.Proofs.Ytcenlehfbgnphaa.Cmp
theorem wrap_id {x : Int} (h0 : -9223372036854775808 ≤ x) (h1 : x ≤ 9223372036854775807) : wrap64 x = x := by unfold wrap64;omega
theorem wrap_succ {n : Nat} {m : Nat} (h : n < m) (hm : m ≤ 9223372036854775807) : wrap64 ((n : Int) + 1) = ((n + 1 : Nat) : Int) := by rw [wrap_id (by omega) (by omega)];omega
structure RowC (w : World) (A : Option Addr) (c : Nat) (r : List S85) : Prop where
  cap : r.length ≤ c
  row : Kd.C k85 w A r.length r
theorem RowC.below {w w1 : World} {A : Option Addr} {c : Nat} {r : List S85} (h : RowC w A c r) (hb : Below w.heap.size w w1) : RowC w1 A c r := ⟨h.cap,Kd.C_below h.row hb⟩
theorem RowC.max {w : World} {A : Option Addr} {c : Nat} {r : List S85} (h : RowC w A c r) : r.length ≤ 9223372036854775807 := h.row.2.1
theorem add_block (a : Addr) (n : Nat) : (a.add n).block = a.block := by unfold Addr.add;split <;> rfl
structure SameW (w w' : World) : Prop where
  heap : w'.heap = w.heap
  os : w'.os = w.os
  tape : w'.tape = w.tape
  output : w'.output = w.output
structure NextW (N : Nat) (w w' : World) : Prop where
  below : Below N w w'
  le : N ≤ w'.heap.size
theorem NextW.refl (w : World) : NextW w.heap.size w w := ⟨Below.refl _ _,Nat.le_refl _⟩
theorem NextW.next {N : Nat} {w w1 w2 W : World} (h : NextW N w w1) (hb : Below W.heap.size W w2) (e : SameW w1 W := by exact ⟨rfl,rfl,rfl,rfl⟩) : NextW N w w2 := by
  have h1 : Below N w W := ⟨e.os.trans h.below.os,e.tape.trans h.below.tape,e.output.trans h.below.output,by rw [e.heap];exact h.below.size,fun k hk => by rw [e.heap];exact h.below.block k hk⟩
  have hs : N ≤ W.heap.size := by rw [e.heap];exact h.le
  exact ⟨h1.trans (hb.mono hs),Nat.le_trans hs hb.size⟩
theorem NextW.nextN {N : Nat} {w w1 w2 W : World} (h : NextW N w w1) (hb : Below N W w2) (e : SameW w1 W := by exact ⟨rfl,rfl,rfl,rfl⟩) : NextW N w w2 := by
  have h1 : Below N w W := ⟨e.os.trans h.below.os,e.tape.trans h.below.tape,e.output.trans h.below.output,by rw [e.heap];exact h.below.size,fun k hk => by rw [e.heap];exact h.below.block k hk⟩
  have hs : N ≤ W.heap.size := by rw [e.heap];exact h.le
  exact ⟨h1.trans hb,Nat.le_trans hs hb.size⟩
theorem NextW.at_ {N : Nat} {w w1 W : World} (h : NextW N w w1) (e : SameW w1 W := by exact ⟨rfl,rfl,rfl,rfl⟩) : Below N w W :=
  ⟨e.os.trans h.below.os,e.tape.trans h.below.tape,e.output.trans h.below.output,by rw [e.heap];exact h.below.size,fun k hk => by rw [e.heap];exact h.below.block k hk⟩
theorem SameW.below {w W : World} (e : SameW w W) (N : Nat) : Below N w W := ⟨e.os,e.tape,e.output,by rw [e.heap];exact Nat.le_refl _,fun k _ => by rw [e.heap]⟩
theorem SameW.refl (w : World) : SameW w w := ⟨rfl,rfl,rfl,rfl⟩
theorem SameW.drew (w : World) : SameW w w.drew := ⟨rfl,rfl,rfl,rfl⟩
theorem SameW.drewN (w : World) (n : Nat) : SameW w (w.drewN n) := ⟨rfl,rfl,rfl,rfl⟩
theorem own_new2 {v1 v2 : Value} {N M : Nat} (h1 : ∀ k,v1.ownBlock = some k → N ≤ k) (hm : N ≤ M) (h : v2.ownBlock = v1.ownBlock ∨ ∃ b,v2.ownBlock = some b ∧ M ≤ b) : ∀ k,v2.ownBlock = some k → N ≤ k := fun k e => by
  rcases h with h | ⟨b,h2,h3⟩
  · exact h1 k (h ▸ e)
  · rw [h2] at e;injection e with e;omega
end Go.Proofs.Ytcenlehfbgnphaa.Z
end
section
namespace Go.Proofs.Ytcenlehfbgnphaa.Z
set_option linter.unusedVariables false
set_option linter.unusedSimpArgs false
open Go.RowKit Go.Proofs.YtcenlehfbgnphaaW.PrintWords Go.Proofs.YtcenlehfbgnphaaW.PrintLast Go.Proofs.YtcenlehfbgnphaaW.PrintMore Go.Proofs.Ytcenlehfbgnphaa.Cmp
abbrev En := S83
def ownHit (n : ByteArray) (e : En) : Bool := decide (e.f0.length = 2) && ((rd_T85 e.f0 0).f0 == 3 && (((rd_T85 e.f0 0).f1) == false && (((rd_T85 e.f0 0).f2) == 0 && ((((rd_T85 e.f0 0).f3).toList) == n.toList)))) && decide ((rd_T85 e.f0 1).f0 = 2)
def ownL (n : ByteArray) : List En → Int × Bool
  | [] => (0,false)
  | e :: r => if ownHit n e then ((rd_T85 e.f0 1).f2,true) else ownL n r
theorem own_l0 (l : List En) (n : ByteArray) (hl : l.length ≤ 9223372036854775807) : ∀ d i k,l.length - i = d → i ≤ l.length → d + 1 < k → usage_Own.l0 k n l (l.length : Int) (i : Int) = some (ownL n (l.drop i)) := by
  intro d
  induction d with
  | zero =>
    intro i k hd hi hk
    obtain ⟨k,rfl⟩ : ∃ m,k = m + 1 := ⟨k - 1,by omega⟩
    simp only [usage_Own.l0]
    rw [if_neg (by omega),List.drop_eq_nil_of_le (by omega)]
    rfl
  | succ d ih =>
    intro i k hd hi hk
    obtain ⟨k,rfl⟩ : ∃ m,k = m + 1 := ⟨k - 1,by omega⟩
    have hlt : i < l.length := by omega
    have e0 : rd_T83 l (i : Int) = l[i] := by
      unfold rd_T83
      rw [Int.toNat_natCast,List.getD_eq_getElem?_getD,List.getElem?_eq_getElem hlt]
      rfl
    have e1 : l.drop i = l[i] :: l.drop (i + 1) := List.drop_eq_getElem_cons hlt
    have hw : wrap64 ((i : Int) + 1) = ((i + 1 : Nat) : Int) := by unfold wrap64;omega
    have step := ih (i + 1) k (by omega) (by omega) (by omega)
    rw [e1]
    show _ = some (if ownHit n l[i] then ((rd_T85 l[i].f0 1).f2,true) else ownL n (l.drop (i + 1)))
    simp only [usage_Own.l0]
    rw [if_pos (by omega),if_pos (by omega),if_pos (by omega),e0,hw,step]
    generalize l[i] = x
    unfold ownHit
    by_cases h2 : x.f0.length = 2
    · rw [if_pos (show (x.f0.length : Int) = 2 by omega),if_pos (show (0 : Int) < (x.f0.length : Int) by omega),if_pos (show (1 : Int) < (x.f0.length : Int) by omega),decide_eq_true h2]
      simp only [value_Text.f,Option.bind_some,Bool.true_and]
      cases hc : ((rd_T85 x.f0 0).f0 == 3 && (((rd_T85 x.f0 0).f1) == false && (((rd_T85 x.f0 0).f2) == 0 && ((((rd_T85 x.f0 0).f3).toList) == n.toList)))) with
      | true =>
        rw [if_pos rfl]
        by_cases hk : (rd_T85 x.f0 1).f0 = 2
        · rw [if_pos hk,decide_eq_true hk];rfl
        · rw [if_neg hk,decide_eq_false hk];rfl
      | false => rw [if_neg (by simp)];rfl
    · rw [if_neg (show ¬ (x.f0.length : Int) = 2 by omega),decide_eq_false h2]
      rfl
theorem own_f (l : List En) (n : ByteArray) (hl : l.length ≤ 9223372036854775807) : usage_Own.f (l.length + 2) n l = some (ownL n l) := by
  have := own_l0 l n hl l.length 0 (l.length + 2) (by omega) (Nat.zero_le _) (by omega)
  exact this
theorem use_own {A : Option Addr} {c : Nat} {l : List En} {w : World} (hC : Kd.C k83 w A l.length l) (hc : l.length ≤ c) (n : ByteArray) :
    Calls Try.prog 58 #[.string n,.slice A l.length c] w fun e w' => e = .returned (.tuple #[.int .i64 (ownL n l).1,.bool (ownL n l).2]) ∧ Below w.heap.size w w' :=
  usage_Own.calls (l.length + 2) n A c l (ownL n l).1 (ownL n l).2 w hC hc (own_f l n hC.2.1)
def NumE (l : List En) : Prop := ∀ e ∈ l,∀ x ∈ e.f0,In64 x.f2
theorem own_in {l : List En} (h : NumE l) (n : ByteArray) : In64 (ownL n l).1 := by
  induction l with
  | nil => show In64 0;exact ⟨by decide,by decide⟩
  | cons e r ih =>
    show In64 (if ownHit n e then ((rd_T85 e.f0 1).f2,true) else ownL n r).1
    by_cases hh : ownHit n e = true
    · rw [if_pos hh]
      unfold ownHit at hh
      simp only [Bool.and_eq_true,decide_eq_true_eq] at hh
      have h2 : 1 < e.f0.length := by omega
      have e1 : rd_T85 e.f0 1 = e.f0[1] := by
        show e.f0.getD 1 _ = _
        rw [List.getD_eq_getElem?_getD,List.getElem?_eq_getElem h2]
        rfl
      show In64 (rd_T85 e.f0 1).f2
      rw [e1]
      exact h e List.mem_cons_self _ (List.getElem_mem h2)
    · rw [if_neg hh]
      exact ih (fun x hx => h x (List.mem_cons_of_mem _ hx))
end Go.Proofs.Ytcenlehfbgnphaa.Z
end
section
namespace Go.Proofs.Ytcenlehfbgnphaa.Z
set_option linter.unusedVariables false
set_option linter.unusedSimpArgs false
open Go.RowKit Go.Proofs.YtcenlehfbgnphaaW.PrintWords Go.Proofs.YtcenlehfbgnphaaW.PrintLast Go.Proofs.YtcenlehfbgnphaaW.PrintMore
def orV (x1 x2 : Int) : Int := bits BinOp.or IntKind.i64 (wrap64 (x1 * 4294967296)) x2
theorem toNat_ofInt64 (a : Int) : ((BitVec.ofInt 64 a).toNat : Int) = a % 18446744073709551616 := by
  rw [BitVec.toNat_ofInt]
  have : 0 ≤ a % ((2 ^ 64 : Nat) : Int) := Int.emod_nonneg _ (by decide)
  rw [Int.toNat_of_nonneg this]
  rfl
theorem toInt_small (x : BitVec 64) (h : x.toNat < 9223372036854775808) : x.toInt = (x.toNat : Int) := by
  rw [BitVec.toInt_eq_toNat_bmod,Int.bmod_def]
  split <;> omega
theorem and_low64 (n : Int) : bits BinOp.and IntKind.i64 n 4294967295 = n % 4294967296 := by
  rw [and_i64]
  have e : (BitVec.ofInt 64 n &&& BitVec.ofInt 64 4294967295).toNat = (BitVec.ofInt 64 n).toNat % 4294967296 := by
    rw [BitVec.toNat_and,show (BitVec.ofInt 64 4294967295).toNat = 2 ^ 32 - 1 by decide +kernel,Nat.and_two_pow_sub_one_eq_mod]
  have h := toNat_ofInt64 n
  rw [toInt_small _ (by rw [e];omega),e]
  omega
theorem or_low (x1 x2 : Int) (h0 : 0 ≤ x1) (h1 : x1 < 4294967296) (g0 : 0 ≤ x2) (g1 : x2 < 4294967296) : orV x1 x2 = wrap64 (x1 * 4294967296 + x2) := by
  unfold orV
  have ho : ∀ a b : Int,bits BinOp.or IntKind.i64 a b = (BitVec.ofInt 64 a ||| BitVec.ofInt 64 b).toInt := fun a b => wrap_toInt _
  rw [ho]
  have ha : (BitVec.ofInt 64 (wrap64 (x1 * 4294967296))).toNat = 2 ^ 32 * x1.toNat := by
    have h := toNat_ofInt64 (wrap64 (x1 * 4294967296))
    have : wrap64 (x1 * 4294967296) % 18446744073709551616 = x1 * 4294967296 := by unfold wrap64;omega
    omega
  have hb : (BitVec.ofInt 64 x2).toNat = x2.toNat := by
    have h := toNat_ofInt64 x2
    omega
  have e : (BitVec.ofInt 64 (wrap64 (x1 * 4294967296)) ||| BitVec.ofInt 64 x2).toNat = 2 ^ 32 * x1.toNat + x2.toNat := by
    rw [BitVec.toNat_or,ha,hb,Nat.two_pow_add_eq_or_of_lt (by omega)]
  rw [BitVec.toInt_eq_toNat_bmod,e,Int.bmod_def]
  unfold wrap64
  split <;> omega
structure SumAt (w : World) (g : Nat) (S : Int) : Prop where
  out : ∃ x0 x1 x2,w.heap[g]? = some (.cells (sumCells x0 x1 x2) 26 (0,0)) ∧ 0 ≤ x1 ∧ x1 < 4294967296 ∧ 0 ≤ x2 ∧ x2 < 4294967296 ∧ S = x0 * 18446744073709551616 + x1 * 4294967296 + x2
structure SumOk (S : Int) : Prop where
  lo : -1267650600228229401496703205376 ≤ S
  hi : S ≤ 1267650600228229401496703205376
theorem SumAt.new (w : World) : SumAt (w.alloc (Obj.cells (sumCells 0 0 0) 26 (0,0))) w.heap.size 0 := ⟨0,0,0,blk_new w _,by omega,by omega,by omega,by omega,by omega⟩
theorem SumAt.drawn {w w' : World} {g : Nat} {S : Int} (h : SumAt w g S) (d : Drawn0 w w') : SumAt w' g S := by
  obtain ⟨n,rfl⟩ := d.out
  obtain ⟨x0,x1,x2,hh,r⟩ := h.out
  exact ⟨x0,x1,x2,blk_drewN hh n,r⟩
theorem SumAt.lt {w : World} {g : Nat} {S : Int} (h : SumAt w g S) : g < w.heap.size := by
  obtain ⟨x0,x1,x2,hh,r⟩ := h.out
  rcases Nat.lt_or_ge g w.heap.size with c | c
  · exact c
  · rw [Array.getElem?_eq_none c] at hh;exact absurd hh (by simp)
theorem prod_bd {a t A : Int} (a0 : -A ≤ a) (a1 : a ≤ A) (t0 : -1073741824 ≤ t) (t1 : t ≤ 1073741824) : -(A * 1073741824) ≤ a * t ∧ a * t ≤ A * 1073741824 := by
  have hA : 0 ≤ A := by omega
  have h1 : (a.natAbs : Int) * (t.natAbs : Int) ≤ A * 1073741824 := Int.mul_le_mul (by omega) (by omega) (by omega) hA
  have h2 : ((a * t).natAbs : Int) = (a.natAbs : Int) * (t.natAbs : Int) := by rw [Int.natAbs_mul];rfl
  omega
theorem putM_parts (x0 x1 x2 P Q : Int) (a0 : 0 ≤ x1) (a1 : x1 < 4294967296) (b0 : 0 ≤ x2) (b1 : x2 < 4294967296) (p0 : -4611686018427387904 ≤ P) (p1 : P ≤ 4611686018427387904) (q0 : -2305843009213693952 ≤ Q) (q1 : Q ≤ 2305843009213693952) (c0 : -1000000000000000000 ≤ x0) (c1 : x0 ≤ 1000000000000000000) :
    wrap64 (x2 + wrap64 P) = x2 + P ∧ wrap64 (wrap64 (x1 + wrap64 Q) + (x2 + P) / 4294967296) = x1 + Q + (x2 + P) / 4294967296 ∧ wrap64 (x0 + (x1 + Q + (x2 + P) / 4294967296) / 4294967296) = x0 + (x1 + Q + (x2 + P) / 4294967296) / 4294967296 := by
  refine ⟨?_,?_,?_⟩ <;> unfold wrap64 <;> omega
theorem sum_put (g : Nat) (S n t : Int) (w : World) (h : SumAt w g S) (hs : SumOk S) (hn : In64 n) (t0 : -1073741824 ≤ t) (t1 : t ≤ 1073741824) :
    Calls Try.prog 15 #[.pointer (some ⟨g,0,none⟩),.int .i64 n,.int .i64 t] w fun e w' => e = .returned (.int .i64 0) ∧ SumAt w' g (S + n * t) ∧ w.grownBy w' (some g) := by
  obtain ⟨x0,x1,x2,hh,a0,a1,b0,b1,hS⟩ := h.out
  obtain ⟨n0,n1⟩ := hn
  obtain ⟨s0,s1⟩ := hs
  obtain ⟨p0,p1⟩ := prod_bd (a := n % 4294967296) (A := 4294967296) (by omega) (by omega) t0 t1
  obtain ⟨q0,q1⟩ := prod_bd (a := n / 4294967296) (A := 2147483648) (by omega) (by omega) t0 t1
  have hnt : n * t = n / 4294967296 * t * 4294967296 + n % 4294967296 * t := by
    have e : n = n / 4294967296 * 4294967296 + n % 4294967296 := by omega
    generalize n / 4294967296 = u at *
    generalize n % 4294967296 = v at *
    rw [e,Int.add_mul,Int.mul_right_comm]
  obtain ⟨hL,hM,hX⟩ := putM_parts x0 x1 x2 (n % 4294967296 * t) (n / 4294967296 * t) a0 a1 b0 b1 (by omega) (by omega) (by omega) (by omega) (by omega) (by omega)
  have hL' : wrap64 (x2 + wrap64 (bits BinOp.and IntKind.i64 n 4294967295 * t)) = x2 + n % 4294967296 * t := by rw [and_low64];exact hL
  refine (sum_putg g x0 x1 x2 n t _ _ _ w hh t0 t1 hL' hM hX).mono ?_
  rintro e w' ⟨rfl,hc,hg⟩
  refine ⟨rfl,⟨⟨_,_,_,hc,?_⟩⟩,hg⟩
  rw [and_low64,and_low64,hnt,hS]
  clear hL hL' hM hX hc hg
  generalize n % 4294967296 * t = P at *
  generalize n / 4294967296 * t = Q at *
  omega
end Go.Proofs.Ytcenlehfbgnphaa.Z
end
section
namespace Go.Proofs.Ytcenlehfbgnphaa.Z
set_option linter.unusedVariables false
set_option linter.unusedSimpArgs false
open Go.RowKit Go.Proofs.YtcenlehfbgnphaaW.PrintWords Go.Proofs.YtcenlehfbgnphaaW.PrintLast Go.Proofs.YtcenlehfbgnphaaW.PrintMore
set_option maxHeartbeats 2000000 in
set_option maxRecDepth 100000 in
theorem sum_value_a (g : Nat) (x1 x2 : Int) (w : World) (h : w.heap[g]? = some (.cells (sumCells 0 x1 x2) 26 (0,0))) (h1 : decide (x1 < 2147483648) = true) :
    Calls Try.prog 18 #[.pointer (some ⟨g,0,none⟩)] w fun e w' => e = .returned (.tuple #[.int .i64 (orV x1 x2),.int .i64 0]) ∧ Drawn0 w w' := by
  have c0 := blk_cell h 0
  have c1 := blk_cell h 1
  have c2 := blk_cell h 2
  simp only [sumCells,List.getElem?_toArray,List.getElem?_cons_zero,List.getElem?_cons_succ] at c0 c1 c2
  clear h
  go_enter Try.func18,Try.ntmps18
  go_wp2
  go_quiet (fail)
  go_wp2
  go_ret2
  exact ⟨by rfl,⟨⟨_,rfl⟩⟩⟩
set_option maxHeartbeats 2000000 in
set_option maxRecDepth 100000 in
theorem sum_value_b (g : Nat) (x1 x2 : Int) (w : World) (h : w.heap[g]? = some (.cells (sumCells 0 x1 x2) 26 (0,0))) (h1 : decide (x1 < 2147483648) = false) :
    Calls Try.prog 18 #[.pointer (some ⟨g,0,none⟩)] w fun e w' => e = .returned (.tuple #[.int .i64 0,.int .i64 10]) ∧ Drawn0 w w' := by
  have c0 := blk_cell h 0
  have c1 := blk_cell h 1
  have c2 := blk_cell h 2
  simp only [sumCells,List.getElem?_toArray,List.getElem?_cons_zero,List.getElem?_cons_succ] at c0 c1 c2
  clear h
  go_enter Try.func18,Try.ntmps18
  go_wp2
  go_quiet (fail)
  go_wp2
  go_ret2
  exact ⟨by rfl,⟨⟨_,rfl⟩⟩⟩
set_option maxHeartbeats 2000000 in
set_option maxRecDepth 100000 in
theorem sum_value_c (g : Nat) (x1 x2 : Int) (w : World) (h : w.heap[g]? = some (.cells (sumCells (-1) x1 x2) 26 (0,0))) (h1 : decide (2147483648 ≤ x1) = true) :
    Calls Try.prog 18 #[.pointer (some ⟨g,0,none⟩)] w fun e w' => e = .returned (.tuple #[.int .i64 (orV x1 x2),.int .i64 0]) ∧ Drawn0 w w' := by
  have c0 := blk_cell h 0
  have c1 := blk_cell h 1
  have c2 := blk_cell h 2
  simp only [sumCells,List.getElem?_toArray,List.getElem?_cons_zero,List.getElem?_cons_succ] at c0 c1 c2
  clear h
  go_enter Try.func18,Try.ntmps18
  go_wp2
  go_quiet (fail)
  go_wp2
  go_ret2
  exact ⟨by rfl,⟨⟨_,rfl⟩⟩⟩
set_option maxHeartbeats 2000000 in
set_option maxRecDepth 100000 in
theorem sum_value_d (g : Nat) (x1 x2 : Int) (w : World) (h : w.heap[g]? = some (.cells (sumCells (-1) x1 x2) 26 (0,0))) (h1 : decide (2147483648 ≤ x1) = false) :
    Calls Try.prog 18 #[.pointer (some ⟨g,0,none⟩)] w fun e w' => e = .returned (.tuple #[.int .i64 0,.int .i64 10]) ∧ Drawn0 w w' := by
  have c0 := blk_cell h 0
  have c1 := blk_cell h 1
  have c2 := blk_cell h 2
  simp only [sumCells,List.getElem?_toArray,List.getElem?_cons_zero,List.getElem?_cons_succ] at c0 c1 c2
  clear h
  go_enter Try.func18,Try.ntmps18
  go_wp2
  go_quiet (fail)
  go_wp2
  go_ret2
  exact ⟨by rfl,⟨⟨_,rfl⟩⟩⟩
set_option maxHeartbeats 2000000 in
set_option maxRecDepth 100000 in
theorem sum_value_e (g : Nat) (x0 x1 x2 : Int) (w : World) (h : w.heap[g]? = some (.cells (sumCells x0 x1 x2) 26 (0,0))) (h0 : (x0 == 0) = false) (h2 : (x0 == -1) = false) :
    Calls Try.prog 18 #[.pointer (some ⟨g,0,none⟩)] w fun e w' => e = .returned (.tuple #[.int .i64 0,.int .i64 10]) ∧ Drawn0 w w' := by
  have c0 := blk_cell h 0
  have c1 := blk_cell h 1
  have c2 := blk_cell h 2
  simp only [sumCells,List.getElem?_toArray,List.getElem?_cons_zero,List.getElem?_cons_succ] at c0 c1 c2
  clear h
  go_enter Try.func18,Try.ntmps18
  go_wp2
  go_quiet (fail)
  go_wp2
  go_ret2
  exact ⟨by rfl,⟨⟨_,rfl⟩⟩⟩
theorem sum_value (g : Nat) (S : Int) (w : World) (h : SumAt w g S) : Calls Try.prog 18 #[.pointer (some ⟨g,0,none⟩)] w fun e w' => e = .returned (.tuple #[.int .i64 (fitF S).1,.int .i64 (fitF S).2]) ∧ Drawn0 w w' := by
  obtain ⟨x0,x1,x2,hh,a0,a1,b0,b1,hS⟩ := h.out
  have ho := or_low x1 x2 a0 a1 b0 b1
  by_cases z : x0 = 0
  · subst z
    by_cases c : x1 < 2147483648
    · have e : fitF S = (orV x1 x2,0) := by
        unfold fitF
        rw [if_pos (by omega),ho]
        congr 1
        unfold wrap64
        omega
      rw [e]
      exact sum_value_a g x1 x2 w hh (decide_eq_true c)
    · have e : fitF S = (0,10) := by
        unfold fitF
        rw [if_neg (by omega)]
      rw [e]
      exact sum_value_b g x1 x2 w hh (decide_eq_false c)
  · by_cases z1 : x0 = -1
    · subst z1
      by_cases c : 2147483648 ≤ x1
      · have e : fitF S = (orV x1 x2,0) := by
          unfold fitF
          rw [if_pos (by omega),ho]
          congr 1
          unfold wrap64
          omega
        rw [e]
        exact sum_value_c g x1 x2 w hh (decide_eq_true c)
      · have e : fitF S = (0,10) := by
          unfold fitF
          rw [if_neg (by omega)]
        rw [e]
        exact sum_value_d g x1 x2 w hh (decide_eq_false c)
    · have e : fitF S = (0,10) := by
        unfold fitF
        rw [if_neg (by omega)]
      rw [e]
      exact sum_value_e g x0 x1 x2 w hh (by simpa using z) (by simpa using z1)
end Go.Proofs.Ytcenlehfbgnphaa.Z
end
section
namespace Go.Proofs.Ytcenlehfbgnphaa.Z
set_option linter.unusedVariables false
set_option linter.unusedSimpArgs false
abbrev Nm := ByteArray
abbrev Tn := ByteArray × ByteArray
def getT : List Tn → Nm → Option Nm
  | [],_ => none
  | p :: r,n => if p.1 = n then some p.2 else getT r n
theorem getT_cons (q : Tn) (r : List Tn) (n : Nm) : getT (q :: r) n = if q.1 = n then some q.2 else getT r n := rfl
def upL (L : List Tn) : Nat → Nm → List Nm
  | 0,_ => []
  | k + 1,n => match getT L n with
    | none => []
    | some p => n :: upL L k p
def Shallow (L : List Tn) : Prop := ∀ n,(upL L 6 n).length ≤ 5
def abv (L : List Tn) (n : Nm) : List Nm := upL L 6 n
theorem upL_stop (L : List Tn) : ∀ k n,(upL L k n).length < k → upL L (k + 1) n = upL L k n
  | 0,_,h => absurd h (Nat.not_lt_zero _)
  | k + 1,n,h => by
    unfold upL at h ⊢
    cases hg : getT L n with
    | none => rfl
    | some p =>
      rw [hg] at h
      show n :: upL L (k + 1) p = n :: upL L k p
      rw [upL_stop L k p (by simpa using h)]
theorem abv_none {L : List Tn} {n : Nm} (h : getT L n = none) : abv L n = [] := by
  unfold abv upL
  rw [h]
theorem abv_some {L : List Tn} {n p : Nm} (hs : Shallow L) (h : getT L n = some p) : abv L n = n :: abv L p := by
  have h1 : upL L 6 n = n :: upL L 5 p := by
    show (match getT L n with | none => [] | some p => n :: upL L 5 p) = _
    rw [h]
  have h2 := hs n
  rw [h1] at h2
  have h3 : (upL L 5 p).length < 5 := by simp at h2;omega
  unfold abv
  rw [h1,upL_stop L 5 p h3]
theorem abv_len {L : List Tn} (hs : Shallow L) (n : Nm) : (abv L n).length ≤ 5 := hs n
theorem getT_mem : ∀ (L : List Tn) (n p : Nm),getT L n = some p → (n,p) ∈ L
  | [],_,_,h => by cases h
  | q :: r,n,p,h => by
    unfold getT at h
    by_cases e : q.1 = n
    · rw [if_pos e] at h
      injection h with h
      subst e
      subst h
      exact List.mem_cons_self
    · rw [if_neg e] at h
      exact List.mem_cons_of_mem _ (getT_mem r n p h)
theorem getT_none : ∀ (L : List Tn) (n : Nm),getT L n = none ↔ ∀ p ∈ L,p.1 ≠ n
  | [],_ => by simp [getT]
  | q :: r,n => by
    unfold getT
    by_cases e : q.1 = n
    · rw [if_pos e]
      constructor
      · intro h;cases h
      · intro h;exact absurd e (h q List.mem_cons_self)
    · rw [if_neg e,getT_none r n]
      constructor
      · intro h p hp
        rcases List.mem_cons.1 hp with rfl | hp
        · exact e
        · exact h p hp
      · intro h p hp
        exact h p (List.mem_cons_of_mem _ hp)
theorem abv_head {L : List Tn} (hs : Shallow L) {n : Nm} (h : getT L n ≠ none) : ∃ r,abv L n = n :: r := by
  cases hg : getT L n with
  | none => exact absurd hg h
  | some p => exact ⟨_,abv_some hs hg⟩
def hasN (l : List Nm) (n : Nm) : Bool := l.any (fun x => decide (x = n))
theorem hasN_iff (l : List Nm) (n : Nm) : hasN l n = true ↔ n ∈ l := by
  unfold hasN
  rw [List.any_eq_true]
  constructor
  · rintro ⟨x,hx,h⟩
    have := of_decide_eq_true h
    subst this
    exact hx
  · intro h
    exact ⟨n,h,decide_eq_true rfl⟩
def undL (L : List Tn) (n : Nm) : List Nm := (L.map Prod.fst).filter (fun x => hasN (abv L x) n)
end Go.Proofs.Ytcenlehfbgnphaa.Z
end
section
namespace Go.Proofs.YtcenlehfbgnphaaW.PrintMore
set_option linter.unusedVariables false
open Go.RowKit Go.Proofs.YtcenlehfbgnphaaW.PrintWords Go.Proofs.YtcenlehfbgnphaaW.PrintLast
def SeqBox {α : Type} (F : Fence) (n : Nat) (P : Program) (g : Nat) (lb : Array Value) (encs : α → Array Value) (Kp : World → World → Prop) (S Sp : List α → Prop) (N Bn : Nat) (w : World) : Prop :=
  ∀ (l : Nat) (J Jx : List α → World → Prop) (W : World),Below w.heap.size w W → AbidesFrom W.heap.size J → (∀ s A v,J s A → J s (A.setCell ⟨Bn,0,none⟩ v)) →
    (∀ pre x W1,J pre W1 → pre.length < N → YieldAt F (n - 1) P l (encs x) W1 fun e W' =>
      (e = .returned (.bool true) ∧ J (pre ++ [x]) W' ∧ Kp W1 W') ∨ (e = .returned (.bool false) ∧ Jx (pre ++ [x]) W')) →
    J [] W →
    CallsIn F n P g (#[.func (.yield l) #[] #[]] ++ lb) W fun e W' => (∃ v,e = .returned v) ∧ ((∃ xs,S xs ∧ J xs W') ∨ (∃ pre,Sp pre ∧ Jx pre W'))
section
variable {F : Fence} {n : Nat} {P : Program} {w : World}
theorem range_box {α : Type} {g : Operand} {ps : Array Tmp} {assign body : Code} {Q : Exit → Act → World → Prop} {a : Act}
    (hro : F.round = none) (h1 : 1 ≤ n) {gf : Nat} {lb : Array Value} (hg : a.eval g = .func (.func gf) #[] lb) (hFg : F.fn gf) (eg : ∀ args w,(callFunc gf args).run P w = .ok (.enter gf args) w)
    {encs : α → Array Value} {Kp : World → World → Prop} {S Sp : List α → Prop} {N Bn : Nat} {w0 : World} (hseq : SeqBox F (n - 1) P gf lb encs Kp S Sp N Bn w0) (hBn : Bn < w.heap.size)
    (hKt : ∀ {A B C : World},Kp A B → Kp B C → Kp A C) (hKb : ∀ (W : World) (l : Nat) (o o' : Obj),w.heap.size ≤ l → W.heap[l]? = some o → o.isCells = false → o.isWalk = false → Kp W (W.putObj l o')) (hb0 : Below w0.heap.size w0 w) (hps : ∀ x,(encs x).size = ps.size)
    (I : List α → World → Prop) (Ix : Code → List α → World → Prop) (hI : OwnFrom w.heap.size I) (hIx : ∀ c,OwnFrom w.heap.size (Ix c)) (hIB : ∀ pre A v,I pre A → I pre (A.setCell ⟨Bn,0,none⟩ v)) (h0 : I [] w) (a₁ : α → Act)
    (hassign : ∀ (l : Nat) (x : α) (W : World) (K : Act → World → Prop),K (a₁ x) W →
      assign.wpIn (F.inRound l) (n - 1 - 1) P (Exit.then K (fun _ _ _ => False)) { tmps := (ps.zip (encs x)).foldl (fun t (p,v) => t.setIfInBounds p v) a.tmps,defers := [] } W)
    (hbody : ∀ (l : Nat) (pre : List α) (x : α) (W : World),I pre W → pre.length < N → body.wpIn (F.inRound l) (n - 1 - 1) P (ownPostG w.heap.size Kp I Ix (pre ++ [x]) W) (a₁ x) W)
    (hdone : ∀ (D : Nat) (xs : List α) (W : World),w.heap.size ≤ D → S xs → I xs W → W.heap[D]? = some (.deferred (some [])) → Q .normal { a with defers := { target := .collected D,args := #[] } :: a.defers } W)
    (hstop : ∀ (D : Nat) (c : Code) (pre : List α) (W : World),w.heap.size ≤ D → Sp pre → Ix c pre W → W.heap[D]? = some (.deferred (some [])) → c.wpIn F n P Q { a with defers := { target := .collected D,args := #[] } :: a.defers } W) :
    (Code.rangeFunc g ps assign body).wpIn F n P Q a w := by
  refine wpIn_rangeFunc fun fn hfn => ?_
  rw [hro]
  let R : LoopState → Option Code → Loop := fun st pe => { state := st,pending := pe,fn,tmps := a.tmps,params := ps,assign,body,defers := w.heap.size }
  obtain ⟨rec,hrec⟩ : ∃ rec,rec = R := ⟨_,rfl⟩
  obtain ⟨W1,hW1⟩ : ∃ W1,(w.alloc (.deferred (some []))).alloc (.loop (rec .ready none)) = W1 := ⟨_,rfl⟩
  have sz : W1.heap.size = w.heap.size + 2 := by rw [← hW1];simp
  have bL : W1.heap[w.heap.size + 1]? = some (.loop (rec .ready none)) := by
    have := World.alloc_heap_new (w.alloc (.deferred (some []))) (.loop (rec .ready none))
    rw [World.size_alloc] at this
    rw [← hW1];exact this
  have bD : W1.heap[w.heap.size]? = some (.deferred (some [])) := by
    rw [← hW1];exact (Below.heap_alloc _ _ _ (by simp)).trans (World.alloc_heap_new w _)
  have i1 : I [] W1 := by rw [← hW1];exact hI.alloc _ (hI.alloc _ h0)
  have b1 : Below w0.heap.size w0 W1 := by
    rw [← hW1];exact hb0.trans ((((Below.refl _ w).alloc (Nat.le_refl _) _).alloc (by simp) _).mono hb0.size)
  have turn : ∀ {A : World} {row : Option Nat},(∀ r,row = some r → W1.heap.size ≤ r ∧ ∃ o : Obj,A.heap[r]? = some o ∧ o.isWalk = true) → ∀ r,row = some r → w.heap.size ≤ r ∧ ∃ o : Obj,A.heap[r]? = some o ∧ o.isCells = false := fun hr r e => by
    obtain ⟨hB,o,ho,hw⟩ := hr r e
    exact ⟨by omega,o,ho,Obj.not_cells_of_walk hw⟩
  refine ⟨w.heap.size + 1,[{ target := .collected w.heap.size,args := #[] }],W1,{ target := .fn (.func gf) lb,args := #[.func (.yield (w.heap.size + 1)) #[] #[]] },W1,gf,
    #[.func (.yield (w.heap.size + 1)) #[] #[]] ++ lb,W1,by rw [← hW1,hrec];exact run_enterLoop_outer _ _ _ _ _,?_,?_,?_,fun _ => h1,?_⟩
  · simp only [resolve,hg]
    simp [go_sem]
  · intro f' hf'
    simp [Target.leads] at hf'
    subst hf'
    exact hFg
  · simp [invoke,go_sem,eg]
  refine (hseq (w.heap.size + 1)
    (fun pre W => I pre W ∧ W.heap[w.heap.size + 1]? = some (.loop (rec .ready none)) ∧ W.heap[w.heap.size]? = some (.deferred (some [])))
    (fun pre W => ∃ c,Ix c pre W ∧ W.heap[w.heap.size + 1]? = some (.loop (rec .done (some c))) ∧ W.heap[w.heap.size]? = some (.deferred (some [])))
    W1 b1
    (fun s A B row hs hg' hr => ⟨hI s A B row hs.1 hg' (turn hr),(grownBy_keeps hg' (fun r e => (hr r e).2) hs.2.1 rfl).trans hs.2.1,(grownBy_keeps hg' (fun r e => (hr r e).2) hs.2.2 rfl).trans hs.2.2⟩)
    (fun s A v hs => ⟨hIB s A v hs.1,(Below.heap_setCell A ⟨Bn,0,none⟩ v _ (show w.heap.size + 1 ≠ Bn by omega)).trans hs.2.1,(Below.heap_setCell A ⟨Bn,0,none⟩ v _ (show w.heap.size ≠ Bn by omega)).trans hs.2.2⟩)
    ?_ ⟨i1,bL,bD⟩).mono ?_
  · rintro pre x W ⟨hi,hl,hk⟩ hlen
    have lt : w.heap.size + 1 < W.heap.size := (Array.getElem?_eq_some_iff.1 hl).1
    have hy := run_yield (P := P) (args := encs x) hl (by rw [hrec];exact hps x)
    rw [hrec] at hy
    refine ⟨fn,_,assign,body,hy,roundIn_of_wpIn hfn (hassign _ x W _ ⟨_,run_beginRound hl (by rw [hrec]),?_⟩)⟩
    clear hy
    obtain ⟨V,hV⟩ : ∃ V,W.putObj (w.heap.size + 1) (.loop { rec .ready none with state := .busy }) = V := ⟨_,rfl⟩
    have vL : V.heap[w.heap.size + 1]? = some (.loop { rec .ready none with state := .busy }) := by rw [← hV];exact World.putObj_heap_same lt
    have vD : V.heap[w.heap.size]? = some (.deferred (some [])) := by rw [← hV];exact (World.putObj_heap_other (by omega)).trans hk
    have vK : Kp W V := by rw [← hV];exact hKb _ _ _ _ (by omega) hl rfl rfl
    have vI : I pre V := by rw [← hV];exact hI.putObj _ hi (by omega) hl rfl
    rw [hV]
    have fin : ∀ (jump : Option Code) (X : World),KeepsFrom w.heap.size V X → ∃ Y,Y = X.putObj (w.heap.size + 1) (.loop (rec (if jump.isNone then .ready else .done) jump)) ∧
        (Instr.endRound (w.heap.size + 1) jump).run P X = .ok (.bool jump.isNone) Y ∧ X.heap[w.heap.size + 1]? = some (.loop { rec .ready none with state := .busy }) ∧
        Y.heap[w.heap.size + 1]? = some (.loop (rec (if jump.isNone then .ready else .done) jump)) ∧ Y.heap[w.heap.size]? = some (.deferred (some [])) := fun jump X hk3 => by
      have hl3 := hk3.same _ _ (by omega) vL rfl
      refine ⟨_,rfl,?_,hl3,World.putObj_heap_same (Array.getElem?_eq_some_iff.1 hl3).1,(World.putObj_heap_other (by omega)).trans (hk3.same _ _ (Nat.le_refl _) vD rfl)⟩
      have := run_endRound (P := P) jump hl3
      rw [hrec] at this ⊢
      exact this
    refine wpIn_mono (hbody _ pre x V vI hlen) ?_
    have out : ∀ (c : Code) (X : World),KeepsFrom w.heap.size V X → Ix c (pre ++ [x]) X → ∃ v Y,(Instr.endRound (w.heap.size + 1) (some c)).run P X = .ok v Y ∧ ((Ending.returned v = .returned (.bool true) ∧ (I (pre ++ [x]) Y ∧ Y.heap[w.heap.size + 1]? = some (.loop (rec .ready none)) ∧ Y.heap[w.heap.size]? = some (.deferred (some []))) ∧ Kp W Y) ∨ (Ending.returned v = .returned (.bool false) ∧ ∃ c,Ix c (pre ++ [x]) Y ∧ Y.heap[w.heap.size + 1]? = some (.loop (rec .done (some c))) ∧ Y.heap[w.heap.size]? = some (.deferred (some [])))) := fun c X hk3 hi3 => by
      obtain ⟨Y,hY,hr,hl3,hl4,hk4⟩ := fin (some c) X hk3
      exact ⟨_,Y,hr,.inr ⟨rfl,c,by rw [hY];exact (hIx c).putObj _ hi3 (by omega) hl3 rfl,hl4,hk4⟩⟩
    rintro e a3 X hp
    cases e with
    | normal =>
      obtain ⟨hk3,hkp3,hi3⟩ := hp
      obtain ⟨Y,hY,hr,hl3,hl4,hk4⟩ := fin none X hk3
      exact ⟨_,Y,hr,.inl ⟨rfl,⟨by rw [hY];exact hI.putObj _ hi3 (by omega) hl3 rfl,hl4,hk4⟩,hKt vK (hKt hkp3 (by rw [hY];exact hKb _ _ _ _ (by omega) hl3 rfl rfl))⟩⟩
    | ret => exact out .ret X hp.1 hp.2
    | exit id => exact out (.exit id) X hp.1 hp.2
    | goto t => exact out (.goto t) X hp.1 hp.2
    | panic ch => exact hp.elim
    | outgrown => exact hp.elim
  · rintro e X ⟨⟨v,rfl⟩,(⟨xs,hS,hi,hl,hk⟩ | ⟨pre,hSp,c,hi,hl,hk⟩)⟩
    · exact ⟨none,_,by have := run_endLoop (P := P) hl (by rw [hrec];simp [R]);rw [hrec] at this;exact this,hdone _ xs _ (Nat.le_refl _) hS (hI.putObj _ hi (by omega) hl rfl) ((World.putObj_heap_other (by omega)).trans hk)⟩
    · exact ⟨some c,_,by have := run_endLoop (P := P) hl (by rw [hrec];simp [R]);rw [hrec] at this;exact this,hstop _ c pre _ (Nat.le_refl _) hSp ((hIx c).putObj _ hi (by omega) hl rfl) ((World.putObj_heap_other (by omega)).trans hk)⟩
end
end Go.Proofs.YtcenlehfbgnphaaW.PrintMore
end
section
namespace Go.Proofs.Ytcenlehfbgnphaa.Z
set_option linter.unusedVariables false
set_option linter.unusedSimpArgs false
open Go.RowKit Go.Shelf Go.Maps Go.Proofs.YtcenlehfbgnphaaW.PrintWords Go.Proofs.YtcenlehfbgnphaaW.PrintLast Go.Proofs.YtcenlehfbgnphaaW.PrintMore Go.Proofs.Ytcenlehfbgnphaa.Cmp
attribute [local go_sem] Oper.semAt_some
abbrev tT : Nat := 133
abbrev tM : Nat := 131
def lk (n : Nm) : Lit := .string n.data.toList
theorem lk_inj {a b : Nm} (h : lk a = lk b) : a = b := by
  unfold lk at h
  injection h with h
  cases a;cases b
  simpa using congrArg List.toArray h
def mapD (L : List Tn) : DataW Unit := .map (L.map fun p => (lk p.1,.lit (lk p.2)))
theorem lawS : Keyed Try.prog 9 := string_keyed Try.underlying9
structure TreeAt (w : World) (t b : Nat) (L : List Tn) : Prop where
  blk : w.heap[t]? = some (.cells #[.map (some b)] tT (0,0))
  map : w.ownsMap Try.prog 9 (plainElem Try.prog 9) b L.length (mapD L)
theorem TreeAt.below {w w1 : World} {t b : Nat} {L : List Tn} (h : TreeAt w t b L) (hb : Below w.heap.size w w1) : TreeAt w1 t b L :=
  ⟨(hb.block t (blk_lt h.blk)).trans h.blk,h.map.kept (row := none) ⟨hb.os,hb.tape,hb.output,hb.size,fun k hk _ => hb.block k hk⟩ (by simp)⟩
theorem TreeAt.stay {w w1 : World} {t b n₀ : Nat} {L : List Tn} (h : TreeAt w t b L) (hb : Below n₀ w w1) (ht : t < n₀) (hbn : b < n₀) : TreeAt w1 t b L := by
  refine ⟨(hb.block t ht).trans h.blk,?_⟩
  obtain ⟨es,clock,h1,h2⟩ := h.map
  exact ⟨es,clock,(hb.block b hbn).trans h1,h2⟩
theorem same_lk (a b : Nm) : (lk a).sameKey (lk b) = decide (a = b) := by
  unfold lk Lit.sameKey
  by_cases h : a = b
  · subst h;simp
  · rw [decide_eq_false h]
    apply Bool.eq_false_iff.2
    intro e
    exact h (lk_inj (by unfold lk;rw [eq_of_beq e]))
theorem find_mapD (n : Nm) : ∀ L : List Tn,(L.map fun p => (lk p.1,(DataW.lit (lk p.2) : DataW Unit))).find? (fun p => p.1.sameKey (lk n)) = (getT L n).map (fun p => (lk n,.lit (lk p)))
  | [] => rfl
  | q :: r => by
    unfold getT
    rw [List.map_cons,List.find?_cons]
    show (match (lk q.1).sameKey (lk n) with | true => _ | false => _) = _
    rw [same_lk]
    by_cases e : q.1 = n
    · rw [decide_eq_true e,if_pos e,e];rfl
    · rw [decide_eq_false e,if_neg e]
      exact find_mapD n r
theorem at_mapD (L : List Tn) (n : Nm) (z : DataW Unit) : (mapD L).atKey (lk n) z = match getT L n with | some p => .lit (lk p) | none => z := by
  unfold mapD DataW.atKey
  simp only [find_mapD]
  cases getT L n <;> rfl
theorem has_mapD (L : List Tn) (n : Nm) : Maps.has (mapD L) (lk n) = (getT L n).isSome := by
  unfold mapD
  rw [has_eq]
  induction L with
  | nil => rfl
  | cons q r ih =>
    rw [List.map_cons,List.any_cons,ih]
    show ((lk q.1).sameKey (lk n) || _) = _
    rw [same_lk]
    rw [getT_cons]
    by_cases e : q.1 = n
    · rw [decide_eq_true e,if_pos e];rfl
    · rw [decide_eq_false e,if_neg e];rfl
theorem zeroS (w : World) : (zeroValue 9).run Try.prog w = .ok (.string ⟨#[]⟩) w := Try.zeroValue9 w
theorem plainS (s : Nm) (h : s.size ≤ maxLen) : plainElem (H := Unit) Try.prog 9 (.string s) = some (.lit (lk s),[]) := plainElem_string Try.underlying9 h
def emp : Nm := ⟨#[]⟩
theorem TreeAt.look2 {w : World} {t b : Nat} {L : List Tn} (h : TreeAt w t b L) (n : Nm) (hn : n.size ≤ maxLen) :
    (Instr.lookup tM (.map (some b)) (.string n) true).run Try.prog w = .ok (.tuple #[.string ((getT L n).getD emp),.bool (getT L n).isSome]) w := by
  obtain ⟨v,ps,h1,h2⟩ := h.map.look_ok lawS Try.underlying131 (zeroS w) (plainS emp (by decide)) (Go.WideMaps.keyOf_string_mk Try.underlying9 hn)
  obtain ⟨s,rfl,h3,_⟩ := plainElem_string_inv Try.underlying9 h2
  have h4 : (mapD L).atKey (lk n) (.lit (lk emp)) = .lit (lk s) := congrArg Prod.fst h3
  rw [at_mapD] at h4
  have h5 : s = (getT L n).getD emp := by
    cases hg : getT L n with
    | none => rw [hg] at h4;exact (lk_inj (DataW.lit.inj h4)).symm
    | some p => rw [hg] at h4;exact (lk_inj (DataW.lit.inj h4)).symm
  have h6 : Maps.has (mapD L) (.string n.data.toList) = (getT L n).isSome := has_mapD L n
  rw [h6,h5] at h1
  exact h1
theorem TreeAt.look {w : World} {t b : Nat} {L : List Tn} (h : TreeAt w t b L) (n : Nm) (hn : n.size ≤ maxLen) :
    (Instr.lookup tM (.map (some b)) (.string n) false).run Try.prog w = .ok (.string ((getT L n).getD emp)) w := by
  obtain ⟨v,ps,h1,h2⟩ := h.map.lookup lawS Try.underlying131 (zeroS w) (plainS emp (by decide)) (Go.WideMaps.keyOf_string_mk Try.underlying9 hn)
  obtain ⟨s,rfl,h3,_⟩ := plainElem_string_inv Try.underlying9 h2
  have h4 : (mapD L).atKey (lk n) (.lit (lk emp)) = .lit (lk s) := congrArg Prod.fst h3
  rw [at_mapD] at h4
  have h5 : s = (getT L n).getD emp := by
    cases hg : getT L n with
    | none => rw [hg] at h4;exact (lk_inj (DataW.lit.inj h4)).symm
    | some p => rw [hg] at h4;exact (lk_inj (DataW.lit.inj h4)).symm
  rw [h5] at h1
  exact h1
def TreeV (w : World) (n₀ : Nat) (v : Value) (L : List Tn) : Prop := (v = .pointer none ∧ L = []) ∨ ∃ t b,v = .pointer (some ⟨t,0,none⟩) ∧ t < n₀ ∧ b < n₀ ∧ TreeAt w t b L
theorem TreeV.stay {w w1 : World} {n₀ : Nat} {v : Value} {L : List Tn} (h : TreeV w n₀ v L) (hb : Below n₀ w w1) : TreeV w1 n₀ v L := by
  rcases h with h | ⟨t,b,e,h1,h2,h3⟩
  · exact .inl h
  · exact .inr ⟨t,b,e,h1,h2,h3.stay hb h1 h2⟩
theorem TreeAt.v {w : World} {t b : Nat} {L : List Tn} (h : TreeAt w t b L) : TreeV w w.heap.size (.pointer (some ⟨t,0,none⟩)) L := .inr ⟨t,b,rfl,blk_lt h.blk,h.map.lt,h⟩
set_option maxHeartbeats 2000000 in
set_option maxRecDepth 100000 in
theorem ten_has {w : World} {n₀ : Nat} {v : Value} {L : List Tn} (h : TreeV w n₀ v L) (n : Nm) (hn : n.size ≤ maxLen) : Calls Try.prog 100 #[v,.string n] w fun e w' => e = .returned (.bool (getT L n).isSome) ∧ w' = w := by
  rcases h with ⟨rfl,rfl⟩ | ⟨t,b,rfl,_,_,h⟩
  · go_enter Try.func100,Try.ntmps100
    go_wp2
    go_ret
    exact ⟨rfl,rfl⟩
  · have x0 : w.cell? ⟨t,0,none⟩ = some (.map (some b)) := blk_cell h.blk 0
    have hl := h.look2 n hn
    clear h
    go_enter Try.func100,Try.ntmps100
    go_wp2
    go_ret
    exact ⟨rfl,rfl⟩
end Go.Proofs.Ytcenlehfbgnphaa.Z
end
section
namespace Go.Proofs.Ytcenlehfbgnphaa.Z
set_option linter.unusedVariables false
set_option linter.unusedSimpArgs false
open Go.RowKit Go.Shelf Go.Maps Go.Proofs.YtcenlehfbgnphaaW.PrintWords Go.Proofs.YtcenlehfbgnphaaW.PrintLast Go.Proofs.YtcenlehfbgnphaaW.PrintMore Go.Proofs.Ytcenlehfbgnphaa.Cmp
attribute [local go_sem] Oper.semAt_some
abbrev tP : Nat := 75
def encN (x : Nm) : Array Value := #[.string x]
structure KpU (n₀ Bt Bn : Nat) (W W' : World) : Prop where
  below : Below n₀ W W'
  bt : W'.heap[Bt]? = W.heap[Bt]?
  bn : W'.heap[Bn]? = W.heap[Bn]?
theorem KpU.trans {n₀ Bt Bn : Nat} {A B C : World} (h : KpU n₀ Bt Bn A B) (k : KpU n₀ Bt Bn B C) : KpU n₀ Bt Bn A C := ⟨h.below.trans k.below,k.bt.trans h.bt,k.bn.trans h.bn⟩
set_option maxHeartbeats 2000000 in
set_option maxRecDepth 100000 in
theorem ten_up (v : Value) (hv : v = .pointer none ∨ ∃ t : Nat,v = .pointer (some ⟨t,0,none⟩)) (n : Nm) (w : World) : Calls Try.prog 117 #[v,.string n] w fun e w' => e = .returned (.func (.func 124) #[] #[.pointer (some ⟨w.heap.size,0,none⟩),.pointer (some ⟨w.heap.size + 1,0,none⟩)]) ∧ w' = (w.alloc (.cells #[v] tP)).alloc (.cells #[.string n] 9) := by
  rcases hv with rfl | ⟨t,rfl⟩
  · go_enter Try.func117,Try.ntmps117
    go_wp2
    go_ret
    exact ⟨rfl,rfl⟩
  · go_enter Try.func117,Try.ntmps117
    go_wp2
    go_ret
    exact ⟨rfl,rfl⟩
def leftU (L : List Tn) (Bn : Nat) (w : World) : Nat := match w.cell? ⟨Bn,0,none⟩ with
  | some (.string s) => (abv L s).length
  | _ => 0
theorem leftU_eq {L : List Tn} {Bn : Nat} {w : World} {s : Nm} (h : w.cell? ⟨Bn,0,none⟩ = some (.string s)) : leftU L Bn w = (abv L s).length := by
  unfold leftU
  rw [h]
set_option maxRecDepth 100000 in
set_option maxHeartbeats 4000000 in
theorem up_walk (n l Bt Bn n₀ N : Nat) (v : Value) (L : List Tn) (nm : Nm) (hs : Shallow L) (hk : ∀ p ∈ L,p.2.size ≤ maxLen) (hnm : nm.size ≤ maxLen) (hne : Bt ≠ Bn) (hN : n₀ ≤ Bn) (hNN : (abv L nm).length ≤ N) (J Jx : List Nm → World → Prop)
    (hJB : ∀ s A u,J s A → J s (A.setCell ⟨Bn,0,none⟩ u)) (hJd : ∀ s A,J s A → J s A.drew)
    (hY : ∀ pre x W,J pre W → pre.length < N → YieldAt Fence.wide (n - 1) Try.prog l (encN x) W fun e W' =>
      (e = .returned (.bool true) ∧ J (pre ++ [x]) W' ∧ KpU n₀ Bt Bn W W') ∨ (e = .returned (.bool false) ∧ Jx (pre ++ [x]) W'))
    (W : World) (hT : TreeV W n₀ v L) (hBt : W.heap[Bt]? = some (.cells #[v] tP (0,0))) (hBn : W.heap[Bn]? = some (.cells #[.string nm] 9 (0,0))) (h0 : J [] W) :
    CallsIn Fence.wide n Try.prog 124 #[.func (.yield l) #[] #[],.pointer (some ⟨Bt,0,none⟩),.pointer (some ⟨Bn,0,none⟩)] W fun e W' => (∃ v,e = .returned v) ∧
      ((∃ ys,ys = abv L nm ∧ J ys W') ∨ (∃ pre,pre <+: abv L nm ∧ Jx pre W')) := by
  have hdd : ∀ k : Nat,(Fence.wide.depth.isSome = true → 1 ≤ k) := fun k h => by cases h
  have hwH : Fence.wide.fn 100 := trivial
  refine callsIn_of_wp Try.func124 rfl trivial ?_ rfl
  simp only [Try.ntmps124,List.size_toArray,List.length_cons,List.length_nil,Nat.reduceAdd,Nat.reduceSub,Array.replicate_succ,Array.replicate_zero,List.push_toArray,List.append_toArray,List.nil_append,List.cons_append]
  gi_wp2
  gi_loopw [4] (fun _ wr => ∃ (pre : List Nm) (x : Nm),Aside0 (abv L nm = pre ++ abv L x ∧ x.size ≤ maxLen) ∧ Aside0 (TreeV wr n₀ v L) ∧ Aside0 (wr.heap[Bt]? = some (.cells #[v] tP (0,0))) ∧ Aside0 (wr.heap[Bn]? = some (.cells #[.string x] 9 (0,0))) ∧ Aside0 (J pre wr)) (fun _ wr => leftU L Bn wr)
  case atStart => exact ⟨[],nm,⟨⟨rfl,hnm⟩⟩,⟨hT⟩,⟨hBt⟩,⟨hBn⟩,⟨h0⟩⟩
  case round =>
    rename World => wr
    clear hT hBt hBn h0
    obtain ⟨pre,x,HX,HT,HBT,HBN,HJ⟩ := hrel
    have b0 : wr.cell? ⟨Bt,0,none⟩ = some v := blk_cell HBT.out 0
    have b1 : wr.cell? ⟨Bn,0,none⟩ = some (.string x) := blk_cell HBN.out 0
    cases hg : getT L x with
    | none =>
      have HH := Aside0.mk (callsIn_wide (n := n - 1)|>.2 (ten_has HT.out x HX.out.2))
      rw [hg] at HH
      gi_wp2_with ((try refine ⟨hdd _,?_⟩);gi_at_call 100;refine HH.out.mono ?_;rintro e w' ⟨rfl,rfl⟩)
      refine ⟨(fun _ h => by cases h),?_⟩
      gi_wp2
      go_end0
      exact ⟨⟨_,rfl⟩,.inl ⟨pre,by rw [HX.out.1,abv_none hg,List.append_nil],HJ.out⟩⟩
    | some p =>
      have HH := Aside0.mk (callsIn_wide (n := n - 1)|>.2 (ten_has HT.out x HX.out.2))
      rw [hg] at HH
      have HG := Aside0.mk hg
      have HA := Aside0.mk (abv_some hs hg)
      have HP := Aside0.mk (hk _ (getT_mem L x p hg))
      obtain ⟨fn,tmps,assign,body,hy,hR⟩ := hY pre x wr HJ.out (by have h1 := congrArg List.length HX.out.1;rw [HA.out,List.length_append,List.length_cons] at h1;omega)
      dsimp only [encN] at hy
      gi_wp2_with (first
        | ((try refine ⟨hdd _,?_⟩);gi_at_call 100;refine HH.out.mono ?_;clear HH;rintro e w' ⟨rfl,rfl⟩)
        | ((try refine ⟨hdd _,?_⟩);refine hR.mono ?_;clear hR;rintro e W2 (⟨rfl,hJ2,hK2⟩ | ⟨rfl,hx2⟩)))
      · rcases HT.out with ⟨rfl,rfl⟩ | ⟨t,b,rfl,ht,hb,hA⟩
        · cases hg
        · have A2 := Aside0.mk (hA.stay hK2.below ht hb)
          have J2 := Aside0.mk hJ2
          have BT2 := Aside0.mk (hK2.bt.trans HBT.out)
          have BN2 := Aside0.mk (hK2.bn.trans HBN.out)
          have T2 := Aside0.mk (HT.out.stay hK2.below)
          have TN := Aside0.mk (show t ≠ Bn by omega)
          have c0 : W2.cell? ⟨Bt,0,none⟩ = some (.pointer (some ⟨t,0,none⟩)) := blk_cell BT2.out 0
          have c1 : W2.cell? ⟨Bn,0,none⟩ = some (.string x) := blk_cell BN2.out 0
          have c2 : W2.cell? ⟨t,0,none⟩ = some (.map (some b)) := blk_cell A2.out.blk 0
          have z0 : ∀ o,W2.frozen? ⟨Bn,o,none⟩ = false := fun o => blk_frozen BN2.out o
          have l0 := (A2.out.below (below_drew (Below.refl _ _))).look x HX.out.2
          have l1 := A2.out.look x HX.out.2
          rw [hg] at l0 l1
          clear hg hA hJ2 hK2 HT HBT HBN HJ b0 ht hb
          refine wpIn_wide.2 ?_
          go_region
          have BNE := Aside0.mk (show ((W2.setCell ⟨Bn,0,none⟩ (.string p)).drew).heap[Bn]? = some (.cells #[.string p] 9 (0,0)) from blk_put BN2.out 0 _ rfl)
          have BTE := Aside0.mk (show ((W2.setCell ⟨Bn,0,none⟩ (.string p)).drew).heap[Bt]? = some (.cells #[.pointer (some ⟨t,0,none⟩)] tP (0,0)) from (Below.heap_setCell W2 ⟨Bn,0,none⟩ (.string p) Bt hne).trans BT2.out)
          have HBE : Below n₀ W2 ((W2.setCell ⟨Bn,0,none⟩ (.string p)).drew) := below_drew ⟨rfl,rfl,rfl,by simp [World.setCell],fun k hk => Below.heap_setCell W2 ⟨Bn,0,none⟩ (.string p) k (show k ≠ Bn by omega)⟩
          have TE := Aside0.mk (T2.out.stay HBE)
          have JE := Aside0.mk (hJd _ _ (hJB _ _ (.string p) J2.out))
          have XE := Aside0.mk (show abv L nm = (pre ++ [x]) ++ abv L p ∧ p.size ≤ maxLen from ⟨by rw [HX.out.1,HA.out];simp,HP.out⟩)
          have M1 := leftU_eq (L := L) (blk_cell BNE.out 0)
          have M0 := leftU_eq (L := L) b1
          rw [HA.out,List.length_cons] at M0
          clear c0 c1 c2 z0 l0 l1 HBE
          generalize (W2.setCell ⟨Bn,0,none⟩ (.string p)).drew = WE at BNE BTE TE JE M1 ⊢
          go_roundw
          case rel => exact ⟨_,_,_,_,_,_,_,_,_,_,_,_,_,_,⟨pre ++ [x],p,XE,TE,BTE,BNE,JE⟩,rfl⟩
          case measure => rw [M1,M0];omega
      · go_end0
        exact ⟨⟨_,rfl⟩,.inr ⟨pre ++ [x],⟨abv L p,by rw [HX.out.1,HA.out];simp⟩,hx2⟩⟩
theorem up_seq (n Bt Bn n₀ : Nat) (v : Value) (L : List Tn) (nm : Nm) (w : World) (hs : Shallow L) (hk : ∀ p ∈ L,p.2.size ≤ maxLen) (hnm : nm.size ≤ maxLen) (hne : Bt ≠ Bn) (hN : n₀ ≤ Bn) (hT : TreeV w n₀ v L) (hn : n₀ ≤ w.heap.size)
    (hBt : w.heap[Bt]? = some (.cells #[v] tP (0,0))) (hBn : w.heap[Bn]? = some (.cells #[.string nm] 9 (0,0))) :
    SeqBox Fence.wide n Try.prog 124 #[.pointer (some ⟨Bt,0,none⟩),.pointer (some ⟨Bn,0,none⟩)] encN (KpU n₀ Bt Bn) (fun ys => ys = abv L nm) (fun pre => pre <+: abv L nm) (abv L nm).length Bn w := fun l J Jx W hW hJ hJB hY h0 =>
  up_walk n l Bt Bn n₀ (abv L nm).length v L nm hs hk hnm hne hN (Nat.le_refl _) J Jx hJB (fun s A h => hJ s A A.drew none h ⟨rfl,rfl,rfl,Nat.le_refl _,fun _ _ _ => rfl⟩ (fun r e => by cases e)) hY W (hT.stay (hW.mono hn))
    ((hW.block Bt (blk_lt hBt)).trans hBt) ((hW.block Bn (blk_lt hBn)).trans hBn) h0
end Go.Proofs.Ytcenlehfbgnphaa.Z
end
section
namespace Go.Proofs.Ytcenlehfbgnphaa.Z
set_option linter.unusedVariables false
set_option linter.unusedSimpArgs false
open Go.RowKit Go.Shelf Go.Maps Go.Proofs.YtcenlehfbgnphaaW.PrintWords Go.Proofs.YtcenlehfbgnphaaW.PrintLast Go.Proofs.YtcenlehfbgnphaaW.PrintMore Go.Proofs.Ytcenlehfbgnphaa.Cmp
attribute [local go_sem] Oper.semAt_some
theorem TreeV.ptr {w : World} {n₀ : Nat} {v : Value} {L : List Tn} (h : TreeV w n₀ v L) : v = .pointer none ∨ ∃ t : Nat,v = .pointer (some ⟨t,0,none⟩) := by
  rcases h with ⟨h,_⟩ | ⟨t,b,h,_⟩
  · exact .inl h
  · exact .inr ⟨t,h⟩
theorem kpU_b {n₀ Bt Bn : Nat} {w : World} (h1 : n₀ ≤ w.heap.size) (hBt : Bt < w.heap.size) (hBn : Bn < w.heap.size) (W : World) (l : Nat) (o o' : Obj) (hl : w.heap.size ≤ l) (h : W.heap[l]? = some o) (hc : o.isCells = false) (hw : o.isWalk = false) : KpU n₀ Bt Bn W (W.putObj l o') :=
  ⟨belowK_b h1 W l o o' hl h hc hw,World.putObj_heap_other (by omega),World.putObj_heap_other (by omega)⟩
theorem range_up {n : Nat} {g : Operand} {p : Tmp} {assign body : Code} {Q : Exit → Act → World → Prop} {a : Act} {w : World} {n₀ Bt Bn : Nat} {v : Value} {L : List Tn} {nm : Nm} (h1 : 1 ≤ n)
    (hg : a.eval g = .func (.func 124) #[] #[.pointer (some ⟨Bt,0,none⟩),.pointer (some ⟨Bn,0,none⟩)]) (hs : Shallow L) (hk : ∀ p ∈ L,p.2.size ≤ maxLen) (hnm : nm.size ≤ maxLen) (hne : Bt ≠ Bn) (hN : n₀ ≤ Bn) (hT : TreeV w n₀ v L) (hn : n₀ ≤ w.heap.size)
    (hBt : w.heap[Bt]? = some (.cells #[v] tP (0,0))) (hBn : w.heap[Bn]? = some (.cells #[.string nm] 9 (0,0)))
    (I : List Nm → World → Prop) (Ix : Code → List Nm → World → Prop) (hI : OwnFrom w.heap.size I) (hIx : ∀ c,OwnFrom w.heap.size (Ix c)) (hIB : ∀ pre A u,I pre A → I pre (A.setCell ⟨Bn,0,none⟩ u)) (h0 : I [] w) (a₁ : Nm → Act)
    (hassign : ∀ (l : Nat) (x : Nm) (W : World) (K : Act → World → Prop),K (a₁ x) W →
      assign.wpIn (Fence.wide.inRound l) (n - 1 - 1) Try.prog (Exit.then K (fun _ _ _ => False)) { tmps := ((#[p] : Array Tmp).zip (encN x)).foldl (fun t (p,v) => t.setIfInBounds p v) a.tmps,defers := [] } W)
    (hbody : ∀ (l : Nat) (pre : List Nm) (x : Nm) (W : World),I pre W → pre.length < (abv L nm).length → body.wpIn (Fence.wide.inRound l) (n - 1 - 1) Try.prog (ownPostG w.heap.size (KpU n₀ Bt Bn) I Ix (pre ++ [x]) W) (a₁ x) W)
    (hdone : ∀ (D : Nat) (W : World),w.heap.size ≤ D → I (abv L nm) W → W.heap[D]? = some (.deferred (some [])) → Q .normal { a with defers := { target := .collected D,args := #[] } :: a.defers } W)
    (hstop : ∀ (D : Nat) (c : Code) (pre : List Nm) (W : World),w.heap.size ≤ D → pre <+: abv L nm → Ix c pre W → W.heap[D]? = some (.deferred (some [])) → c.wpIn Fence.wide n Try.prog Q { a with defers := { target := .collected D,args := #[] } :: a.defers } W) :
    (Code.rangeFunc g #[p] assign body).wpIn Fence.wide n Try.prog Q a w :=
  range_box rfl h1 hg trivial (enters_of Try.func124 (by kernel_rfl) rfl) (up_seq (n - 1) Bt Bn n₀ v L nm w hs hk hnm hne hN hT hn hBt hBn) (blk_lt hBn) KpU.trans (kpU_b hn (blk_lt hBt) (blk_lt hBn)) (Below.refl _ _) (fun _ => rfl)
    I Ix hI hIx hIB h0 a₁ (fun l x W K hK => hassign l x W K hK) hbody (fun D xs W h1 h2 h3 h4 => by subst h2;exact hdone D W h1 h3 h4) hstop
theorem cells_own {W W' : World} {row : Option Nat} {k : Nat} {cs : Array Value} {q : TypeId} (hk : W.heap[k]? = some (.cells cs q (0,0))) (hg : W.grownBy W' row) {B : Nat} (hr : ∀ r,row = some r → B ≤ r ∧ ∃ o : Obj,W.heap[r]? = some o ∧ o.isCells = false) : W'.heap[k]? = some (.cells cs q (0,0)) :=
  (hg.block k (blk_lt hk) (fun e => by
    obtain ⟨_,o,ho,hc⟩ := hr k e.symm
    rw [hk] at ho
    cases ho
    cases hc)).trans hk
theorem below_setT {N : Nat} {w W : World} (h : Below N w W) {p : Addr} (hp : N ≤ p.block) (u : Value) : Below N w (W.setCell p u) :=
  ⟨h.os,h.tape,h.output,by simpa [World.setCell] using h.size,fun k hk => (Below.heap_setCell W p u k (by omega)).trans (h.block k hk)⟩
set_option maxRecDepth 100000 in
set_option maxHeartbeats 4000000 in
theorem ten_depth {w : World} {v : Value} {L : List Tn} (h : TreeV w w.heap.size v L) (hs : Shallow L) (hk : ∀ p ∈ L,p.2.size ≤ maxLen) (nm : Nm) (hn : nm.size ≤ maxLen) :
    Calls Try.prog 102 #[v,.string nm] w fun e w' => e = .returned (.int .i64 ((abv L nm).length : Int)) ∧ Below w.heap.size w w' := by
  have HT := Aside0.mk h
  have hp := h.ptr
  have UP := Aside0.mk (fun w' => ten_up v hp nm w')
  obtain ⟨q,hq⟩ : ∃ q,v = .pointer q := by rcases hp with h | ⟨t,h⟩ <;> exact ⟨_,h⟩
  subst hq
  have HL := Aside0.mk (abv_len hs nm)
  have hdd : ∀ k : Nat,(Fence.wide.depth.isSome = true → 1 ≤ k) := fun k h => by cases h
  have hwU : Fence.wide.fn 117 := trivial
  clear h hp
  refine (callsIn_wide (n := 3)).1 ?_
  refine callsIn_of_wp_marks Try.func102 rfl trivial ?_ rfl
  simp only [Try.ntmps102,List.size_toArray,List.length_cons,List.length_nil,Nat.reduceAdd,Nat.reduceSub,Array.replicate_succ,Array.replicate_zero,List.push_toArray,List.append_toArray,List.nil_append,List.cons_append]
  gi_wp2_with ((try refine ⟨hdd _,?_⟩);gi_at_call 117;refine (callsIn_wide.2 (UP.out _)).mono ?_;rintro e w' ⟨rfl,rfl⟩)
  obtain ⟨W0,hW0⟩ : ∃ W0,(((w.alloc (.cells #[.int .i64 0] 3)).alloc (.cells #[.pointer q] tP)).alloc (.cells #[.string nm] 9)) = W0 := ⟨_,rfl⟩
  have sz : W0.heap.size = w.heap.size + 3 := by rw [← hW0];simp
  have hB0 : Below w.heap.size w W0 := by rw [← hW0];exact below_alloc (below_alloc (below_alloc (Below.refl _ _) _) _) _
  have k0 : W0.heap[w.heap.size]? = some (.cells #[.int .i64 0] 3 (0,0)) := by rw [← hW0];exact blk_alloc (blk_alloc (blk_new w _) _) _
  have k1 : W0.heap[w.heap.size + 1]? = some (.cells #[.pointer q] tP (0,0)) := by
    rw [← hW0]
    have := blk_new (w.alloc (.cells #[.int .i64 0] 3)) (.cells #[.pointer q] tP)
    rw [World.size_alloc] at this
    exact blk_alloc this _
  have k2 : W0.heap[w.heap.size + 1 + 1]? = some (.cells #[.string nm] 9 (0,0)) := by
    rw [← hW0]
    have := blk_new ((w.alloc (.cells #[.int .i64 0] 3)).alloc (.cells #[.pointer q] tP)) (.cells #[.string nm] 9)
    rw [World.size_alloc,World.size_alloc] at this
    exact this
  rw [hW0]
  have T0 := HT.out.stay hB0
  have HB0 := Aside0.mk hB0
  clear hW0
  refine range_up (n := 3) (n₀ := w.heap.size) (v := .pointer q) (L := L) (nm := nm) (by omega) rfl hs hk hn (by omega) (by omega) T0 (by omega) k1 k2
    (fun pre W => W.heap[w.heap.size]? = some (.cells #[.int .i64 (pre.length : Int)] 3 (0,0)) ∧ Below w.heap.size w W) (fun _ _ _ => False)
    (fun s A B row hs hg hr => ⟨cells_own hs.1 hg hr,hs.2.grown hg hs.2.size (fun k e => by have := (hr k e).1;omega)⟩) (fun _ _ _ _ _ hs _ _ => hs)
    (fun pre A u hs => ⟨(Below.heap_setCell A ⟨w.heap.size + 1 + 1,0,none⟩ u w.heap.size (show w.heap.size ≠ w.heap.size + 1 + 1 by omega)).trans hs.1,below_setT hs.2 (p := ⟨w.heap.size + 1 + 1,0,none⟩) (show w.heap.size ≤ w.heap.size + 1 + 1 by omega) u⟩)
    ⟨k0,hB0⟩
    (fun x => { tmps := #[.pointer q,.string nm,undef,undef,.int .i64 0,.pointer (some ⟨w.heap.size,0,none⟩),.pointer q,.string nm,.func (.func 124) #[] #[.pointer (some ⟨w.heap.size + 1,0,none⟩),.pointer (some ⟨w.heap.size + 1 + 1,0,none⟩)],.string x,undef,undef,undef],defers := [] }) ?assign ?body ?done ?stop
  case assign =>
    intro l x W K hK
    simp only [encN]
    gi_wp2
    first | exact hK | simpa using hK
  case body =>
    rintro l pre x W ⟨hc,hB⟩ hlt
    have c0 := blk_cell hc 0
    have f0 := fun o => blk_frozen hc o
    have HLT := Aside0.mk hlt
    have HC := Aside0.mk hc
    have HB := Aside0.mk hB
    clear hc hB hlt
    have hlt : (pre.length : Int) < 1000 := by have := HLT.out;have := HL.out;omega
    gi_wp2
    have e1 : ((pre ++ [x]).length : Int) = (pre.length : Int) + 1 := by rw [List.length_append,List.length_singleton];omega
    refine ⟨(KeepsOthers.setCell _ _ _).from _,⟨below_setT (Below.refl _ _) (p := ⟨w.heap.size,0,none⟩) (Nat.le_refl _) _,Below.heap_setCell W ⟨w.heap.size,0,none⟩ _ _ (show w.heap.size + 1 ≠ w.heap.size by omega),Below.heap_setCell W ⟨w.heap.size,0,none⟩ _ _ (show w.heap.size + 1 + 1 ≠ w.heap.size by omega)⟩,?_,below_setT HB.out (p := ⟨w.heap.size,0,none⟩) (Nat.le_refl _) _⟩
    rw [e1]
    exact blk_put HC.out 0 _ rfl
  case done =>
    rintro D W hD ⟨hc,hB⟩ hK
    have c0 := blk_cell hc 0
    have HB := Aside0.mk hB
    have HK := Aside0.mk hK
    clear hc hB hK
    gi_wp2
    refine ⟨by simp,.inl ⟨_,_,rfl,run_takeDeferred HK.out,?_⟩⟩
    exact ⟨_,results_tmp rfl _ _ _,rfl,HB.out.trans (belowK_b (w := w) (Nat.le_refl _) W D _ _ (by omega) HK.out rfl rfl)⟩
  case stop =>
    rintro D c pre W _ _ h _
    exact h.elim
theorem eqS (x y : Nm) : (ByteArray.toList x == ByteArray.toList y) = decide (x = y) := by
  rw [ByteArray.toList_eq,ByteArray.toList_eq]
  by_cases h : x = y
  · subst h;simp
  · rw [decide_eq_false h]
    apply Bool.eq_false_iff.2
    intro e
    exact h (lk_inj (by unfold lk;rw [eq_of_beq e]))
set_option maxRecDepth 100000 in
set_option maxHeartbeats 4000000 in
theorem ten_below {w : World} {v : Value} {L : List Tn} (h : TreeV w w.heap.size v L) (hs : Shallow L) (hk : ∀ p ∈ L,p.2.size ≤ maxLen) (nm ab : Nm) (hn : nm.size ≤ maxLen) :
    Calls Try.prog 107 #[v,.string nm,.string ab] w fun e w' => e = .returned (.bool (hasN (abv L nm) ab)) ∧ Below w.heap.size w w' := by
  have HT := Aside0.mk h
  have hp := h.ptr
  have UP := Aside0.mk (fun w' => ten_up v hp nm w')
  obtain ⟨q,hq⟩ : ∃ q,v = .pointer q := by rcases hp with h | ⟨t,h⟩ <;> exact ⟨_,h⟩
  subst hq
  have hdd : ∀ k : Nat,(Fence.wide.depth.isSome = true → 1 ≤ k) := fun k h => by cases h
  have hwU : Fence.wide.fn 117 := trivial
  clear h hp
  refine (callsIn_wide (n := 3)).1 ?_
  refine callsIn_of_wp_marks Try.func107 rfl trivial ?_ rfl
  simp only [Try.ntmps107,List.size_toArray,List.length_cons,List.length_nil,Nat.reduceAdd,Nat.reduceSub,Array.replicate_succ,Array.replicate_zero,List.push_toArray,List.append_toArray,List.nil_append,List.cons_append]
  gi_wp2_with ((try refine ⟨hdd _,?_⟩);gi_at_call 117;refine (callsIn_wide.2 (UP.out _)).mono ?_;rintro e w' ⟨rfl,rfl⟩)
  obtain ⟨W0,hW0⟩ : ∃ W0,((((w.alloc (.cells #[.string ab] 9)).alloc (.cells #[.bool false] 4)).alloc (.cells #[.pointer q] tP)).alloc (.cells #[.string nm] 9)) = W0 := ⟨_,rfl⟩
  have sz : W0.heap.size = w.heap.size + 4 := by rw [← hW0];simp
  have hB0 : Below w.heap.size w W0 := by rw [← hW0];exact below_alloc (below_alloc (below_alloc (below_alloc (Below.refl _ _) _) _) _) _
  have k0 : W0.heap[w.heap.size]? = some (.cells #[.string ab] 9 (0,0)) := by rw [← hW0];exact blk_alloc (blk_alloc (blk_alloc (blk_new w _) _) _) _
  have k3 : W0.heap[w.heap.size + 1]? = some (.cells #[.bool false] 4 (0,0)) := by
    rw [← hW0]
    have := blk_new (w.alloc (.cells #[.string ab] 9)) (.cells #[.bool false] 4)
    rw [World.size_alloc] at this
    exact blk_alloc (blk_alloc this _) _
  have k1 : W0.heap[w.heap.size + 1 + 1]? = some (.cells #[.pointer q] tP (0,0)) := by
    rw [← hW0]
    have := blk_new ((w.alloc (.cells #[.string ab] 9)).alloc (.cells #[.bool false] 4)) (.cells #[.pointer q] tP)
    rw [World.size_alloc,World.size_alloc] at this
    exact blk_alloc this _
  have k2 : W0.heap[w.heap.size + 1 + 1 + 1]? = some (.cells #[.string nm] 9 (0,0)) := by
    rw [← hW0]
    have := blk_new (((w.alloc (.cells #[.string ab] 9)).alloc (.cells #[.bool false] 4)).alloc (.cells #[.pointer q] tP)) (.cells #[.string nm] 9)
    rw [World.size_alloc,World.size_alloc,World.size_alloc] at this
    exact this
  rw [hW0]
  have T0 := HT.out.stay hB0
  have HB0 := Aside0.mk hB0
  clear hW0
  refine range_up (n := 3) (n₀ := w.heap.size) (v := .pointer q) (L := L) (nm := nm) (by omega) rfl hs hk hn (by omega) (by omega) T0 (by omega) k1 k2
    (fun pre W => W.heap[w.heap.size]? = some (.cells #[.string ab] 9 (0,0)) ∧ W.heap[w.heap.size + 1]? = some (.cells #[.bool false] 4 (0,0)) ∧ Below w.heap.size w W ∧ hasN pre ab = false)
    (fun c pre W => c = .ret ∧ W.heap[w.heap.size + 1]? = some (.cells #[.bool true] 4 (0,0)) ∧ Below w.heap.size w W ∧ hasN pre ab = true)
    (fun s A B row hs hg hr => ⟨cells_own hs.1 hg hr,cells_own hs.2.1 hg hr,hs.2.2.1.grown hg hs.2.2.1.size (fun k e => by have := (hr k e).1;omega),hs.2.2.2⟩)
    (fun c s A B row hs hg hr => ⟨hs.1,cells_own hs.2.1 hg hr,hs.2.2.1.grown hg hs.2.2.1.size (fun k e => by have := (hr k e).1;omega),hs.2.2.2⟩)
    (fun pre A u hs => ⟨(Below.heap_setCell A ⟨w.heap.size + 1 + 1 + 1,0,none⟩ u w.heap.size (show w.heap.size ≠ w.heap.size + 1 + 1 + 1 by omega)).trans hs.1,(Below.heap_setCell A ⟨w.heap.size + 1 + 1 + 1,0,none⟩ u (w.heap.size + 1) (show w.heap.size + 1 ≠ w.heap.size + 1 + 1 + 1 by omega)).trans hs.2.1,below_setT hs.2.2.1 (p := ⟨w.heap.size + 1 + 1 + 1,0,none⟩) (show w.heap.size ≤ w.heap.size + 1 + 1 + 1 by omega) u,hs.2.2.2⟩)
    ⟨k0,k3,hB0,rfl⟩
    (fun x => { tmps := #[.pointer q,.string nm,.string ab,undef,undef,.pointer (some ⟨w.heap.size,0,none⟩),.pointer (some ⟨w.heap.size + 1,0,none⟩),.string x,.pointer q,.string nm,.func (.func 124) #[] #[.pointer (some ⟨w.heap.size + 1 + 1,0,none⟩),.pointer (some ⟨w.heap.size + 1 + 1 + 1,0,none⟩)],.string x,undef,undef,undef],defers := [] }) ?assign ?body ?done ?stop
  case assign =>
    intro l x W K hK
    simp only [encN]
    gi_wp2
    first | exact hK | simpa using hK
  case body =>
    rintro l pre x W ⟨hc,hd,hB,hno⟩ hlt
    have c0 := blk_cell hc 0
    have d0 := blk_cell hd 0
    have f0 := fun o => blk_frozen hd o
    have HC := Aside0.mk hc
    have HD := Aside0.mk hd
    have HB := Aside0.mk hB
    have HNO := Aside0.mk hno
    clear hc hB hlt hd hno
    have hh : hasN (pre ++ [x]) ab = decide (x = ab) := by
      have := HNO.out
      unfold hasN at this ⊢
      rw [List.any_append,this]
      simp
    have HH := Aside0.mk hh
    clear hh
    by_cases hx : x = ab
    · have q0 : (ByteArray.toList x == ByteArray.toList ab) = true := by rw [eqS,decide_eq_true hx]
      have HX := Aside0.mk hx
      clear hx
      gi_wp2
      exact ⟨(KeepsOthers.setCell _ _ _).from _,rfl,blk_put HD.out 0 _ rfl,below_setT HB.out (p := ⟨w.heap.size + 1,0,none⟩) (show w.heap.size ≤ w.heap.size + 1 by omega) _,by rw [HH.out,decide_eq_true HX.out]⟩
    · have q0 : (ByteArray.toList x == ByteArray.toList ab) = false := by rw [eqS,decide_eq_false hx]
      have HX := Aside0.mk hx
      clear hx
      gi_wp2
      exact ⟨KeepsFrom.refl _ _,⟨Below.refl _ _,rfl,rfl⟩,HC.out,HD.out,HB.out,by rw [HH.out,decide_eq_false HX.out]⟩
  case done =>
    rintro D W hD ⟨hc,hd,hB,hno⟩ hK
    have d0 := blk_cell hd 0
    have f0 := fun o => blk_frozen hd o
    have HK := Aside0.mk hK
    have HB := Aside0.mk hB
    have HD := Aside0.mk hd
    have HNO := Aside0.mk hno
    clear hc hd hB hno hK
    gi_wp2
    refine ⟨by simp,.inl ⟨_,_,rfl,run_takeDeferred ((Below.heap_setCell W ⟨w.heap.size + 1,0,none⟩ (.bool false) D (show D ≠ w.heap.size + 1 by omega)).trans HK.out),?_⟩⟩
    have hK2 := (Below.heap_setCell W ⟨w.heap.size + 1,0,none⟩ (.bool false) D (show D ≠ w.heap.size + 1 by omega)).trans HK.out
    have hE : ((W.setCell ⟨w.heap.size + 1,0,none⟩ (.bool false)).putObj D (Obj.deferred none)).heap[w.heap.size + 1]? = some (.cells #[.bool false] 4 (0,0)) := (World.putObj_heap_other (show w.heap.size + 1 ≠ D by omega)).trans (blk_put HD.out 0 _ rfl)
    have hc5 := blk_cell hE 0
    simp only [List.getElem?_toArray,List.getElem?_cons_zero] at hc5
    refine ⟨.bool false,?_,by rw [HNO.out],?_⟩
    · simp [results,Try.f107,go_sem,hc5]
    · exact (below_setT HB.out (p := ⟨w.heap.size + 1,0,none⟩) (show w.heap.size ≤ w.heap.size + 1 by omega) _).trans (belowK_b (w := w) (Nat.le_refl _) _ D _ _ (by omega) hK2 rfl rfl)
  case stop =>
    rintro D c pre W hD hpre ⟨rfl,hd,hB,hyes⟩ hK
    have d0 := blk_cell hd 0
    have HK := Aside0.mk hK
    have HB := Aside0.mk hB
    have HD := Aside0.mk hd
    have HYE := Aside0.mk hyes
    have HPR := Aside0.mk hpre
    clear hd hB hyes hK hpre
    gi_wp2
    refine ⟨by simp,.inl ⟨_,_,rfl,run_takeDeferred HK.out,?_⟩⟩
    have hE : (W.putObj D (Obj.deferred none)).heap[w.heap.size + 1]? = some (.cells #[.bool true] 4 (0,0)) := (World.putObj_heap_other (show w.heap.size + 1 ≠ D by omega)).trans HD.out
    have hc5 := blk_cell hE 0
    simp only [List.getElem?_toArray,List.getElem?_cons_zero] at hc5
    have hin : hasN (abv L nm) ab = true := by
      obtain ⟨r,hr⟩ := HPR.out
      rw [← hr]
      have := HYE.out
      unfold hasN at this ⊢
      rw [List.any_append,this]
      rfl
    refine ⟨.bool true,?_,by rw [hin],?_⟩
    · simp [results,Try.f107,go_sem,hc5]
    · exact HB.out.trans (belowK_b (w := w) (Nat.le_refl _) _ D _ _ (by omega) HK.out rfl rfl)
end Go.Proofs.Ytcenlehfbgnphaa.Z
end
section
namespace Go.Proofs.Ytcenlehfbgnphaa.Z
set_option linter.unusedVariables false
set_option linter.unusedSimpArgs false
open Go.RowKit Go.Shelf Go.Maps Go.Proofs.YtcenlehfbgnphaaW.PrintWords Go.Proofs.YtcenlehfbgnphaaW.PrintLast Go.Proofs.YtcenlehfbgnphaaW.PrintMore Go.Proofs.Ytcenlehfbgnphaa.Cmp
attribute [local go_sem] Oper.semAt_some
abbrev tS : Nat := 124
def strV (x : Nm) : Value := .string x
def SRow (w : World) (base : Nat) (v : Value) (l : List Nm) : Prop := w.ownsRow base 9 1 v l.length (l.map strV)
theorem SRow.reads {w : World} {base : Nat} {v : Value} {l : List Nm} (h : SRow w base v l) : ∃ A c,v = .slice A l.length c ∧ l.length ≤ c ∧ Kd.C Kd.string w A l.length l := by
  obtain ⟨h1,h2⟩ := h
  rcases h2 with ⟨rfl,h2⟩ | ⟨g,cap,cur,rfl,_,hb,hle,hm,hs,ht⟩
  · have : l = [] := List.length_eq_zero_iff.1 h2
    subst this
    exact ⟨none,0,rfl,Nat.le_refl _,Kd.C_nil _ _⟩
  · refine ⟨_,_,rfl,hle,rfl,by unfold maxLen at hm;omega,fun _ => ⟨_,rfl,fun j p hp => ⟨[.string p],rfl,rfl,fun i u hu => ?_⟩⟩⟩
    cases i with
    | succ i => simp at hu
    | zero =>
      simp only [List.getElem?_cons_zero,Option.some.injEq] at hu
      subst hu
      have hj : j < l.length := (List.getElem?_eq_some_iff.1 hp).1
      rw [Addr.add_lit]
      have e : (0 + (j * Kd.string.sz + 0)) = j := by show 0 + (j * 1 + 0) = j;omega
      rw [e,blk_cell hb j]
      have h3 : (cur.toList.take (l.length * 1))[j]? = (l.map strV)[j]? := by rw [ht]
      rw [List.getElem?_take_of_lt (by omega),List.getElem?_map,hp] at h3
      simpa [strV] using h3
theorem SRow.lt {w : World} {base : Nat} {v : Value} {l : List Nm} (h : SRow w base v l) : ∀ k,v.ownBlock = some k → base ≤ k := by
  intro k hk
  rcases h.2 with ⟨rfl,_⟩ | ⟨g,cap,cur,rfl,hb,_⟩
  · simp [Value.ownBlock] at hk
  · have : g = k := by simpa [Value.ownBlock] using hk
    omega
theorem info9 : (Try.prog.info? 9).map (fun i => (i.zero,i.size,i.bytes)) = some (some (.string ⟨#[]⟩),1,16) := by kernel_rfl
theorem SRow.set {w : World} {base : Nat} {v : Value} {l : List Nm} (h : SRow w base v l) {k : Nat} (hk : k < base) (u : Value) : SRow (w.setCell ⟨k,0,none⟩ u) base v l :=
  World.ownsRow.kept h (grownBy_setCell' w k u) (by
    cases hv : v.ownBlock with
    | none => exact .inl rfl
    | some j => exact .inr (fun e => by have := h.lt j hv;injection e with e;omega))
end Go.Proofs.Ytcenlehfbgnphaa.Z
end
section
namespace Go.Proofs
open Go.Shelf
def Try.lays190_ren : Go.Shelf.Ren := ⟨fun | 190 => 113 | 125 => 122 | 258 => 121 | 128 => 135 | 129 => 136 | 302 => 126 | 303 => 127 | 304 => 128 | 305 => 129 | 306 => 130 | 307 => 131 | 308 => 132 | 309 => 133 | 310 => 134 | 333 => 138 | 329 => 139 | 330 => 140 | 334 => 141 | 335 => 142 | 336 => 143 | 344 => 144 | n => n,fun | 31 => 124 | 9 => 9 | 3 => 3 | 46 => 94 | 0 => 0 | 51 => 160 | 53 => 96 | 4 => 4 | 183 => 153 | 182 => 152 | 131 => 157 | 5 => 5 | 218 => 162 | 222 => 166 | 228 => 168 | 229 => 169 | n => n,fun | n => n⟩
theorem Try.lays190 : Go.Proofs.Lays.n190 Try.prog Try.lays190_ren := {
  mixed := by kernel_rfl
  f125 := Try.func122.trans (congrArg some (by kernel_rfl))
  f128 := Try.func135.trans (congrArg some (by kernel_rfl))
  f129 := Try.func136.trans (congrArg some (by kernel_rfl))
  f190 := Try.func113.trans (congrArg some (by kernel_rfl))
  f258 := Try.func121.trans (congrArg some (by kernel_rfl))
  f302 := Try.func126.trans (congrArg some (by kernel_rfl))
  f303 := Try.func127.trans (congrArg some (by kernel_rfl))
  f304 := Try.func128.trans (congrArg some (by kernel_rfl))
  f305 := Try.func129.trans (congrArg some (by kernel_rfl))
  f306 := Try.func130.trans (congrArg some (by kernel_rfl))
  f307 := Try.func131.trans (congrArg some (by kernel_rfl))
  f308 := Try.func132.trans (congrArg some (by kernel_rfl))
  f309 := Try.func133.trans (congrArg some (by kernel_rfl))
  f310 := Try.func134.trans (congrArg some (by kernel_rfl))
  f329 := Try.func139.trans (congrArg some (by kernel_rfl))
  f330 := Try.func140.trans (congrArg some (by kernel_rfl))
  f333 := Try.func138.trans (congrArg some (by kernel_rfl))
  f334 := Try.func141.trans (congrArg some (by kernel_rfl))
  f335 := Try.func142.trans (congrArg some (by kernel_rfl))
  f336 := Try.func143.trans (congrArg some (by kernel_rfl))
  f344 := Try.func144.trans (congrArg some (by kernel_rfl))
  t0 := Try.underlying0
  a0 := Try.isAgg0
  z0 := Try.sizeOf0
  v0 := Try.zeroValue0
  t3 := Try.underlying3
  a3 := Try.isAgg3
  z3 := Try.sizeOf3
  v3 := Try.zeroValue3
  t4 := Try.underlying4
  a4 := Try.isAgg4
  z4 := Try.sizeOf4
  v4 := Try.zeroValue4
  t5 := Try.underlying5
  a5 := Try.isAgg5
  z5 := Try.sizeOf5
  v5 := Try.zeroValue5
  t9 := Try.underlying9
  a9 := Try.isAgg9
  z9 := Try.sizeOf9
  v9 := Try.zeroValue9
  t31 := Try.underlying124
  a31 := Try.isAgg124
  z31 := Try.sizeOf124
  v31 := Try.zeroValue124
  t46 := Try.underlying94
  a46 := Try.isAgg94
  z46 := Try.sizeOf94
  v46 := Try.zeroValue94
  t51 := Try.underlying160
  a51 := Try.isAgg160
  z51 := Try.sizeOf160
  v51 := Try.zeroValue160
  t53 := Try.underlying96
  a53 := Try.isAgg96
  z53 := Try.sizeOf96
  v53 := Try.zeroValue96
  t131 := Try.underlying157
  a131 := Try.isAgg157
  z131 := Try.sizeOf157
  v131 := Try.zeroValue157
  t182 := Try.underlying152
  a182 := Try.isAgg152
  z182 := Try.sizeOf152
  v182 := Try.zeroValue152
  t183 := Try.underlying153
  a183 := Try.isAgg153
  z183 := Try.sizeOf153
  v183 := Try.zeroValue153
  t218 := Try.underlying162
  a218 := Try.isAgg162
  z218 := Try.sizeOf162
  v218 := Try.zeroValue162
  t222 := Try.underlying166
  a222 := Try.isAgg166
  z222 := Try.sizeOf166
  v222 := Try.zeroValue166
  t228 := Try.underlying168
  a228 := Try.isAgg168
  z228 := Try.sizeOf168
  v228 := Try.zeroValue168
  t229 := Try.underlying169
  a229 := Try.isAgg169
  z229 := Try.sizeOf169
  v229 := Try.zeroValue169 }
open Go.Sort Go.RowKit in
theorem Try.slices_Sort_string (blk off cap : Nat) (ss : List (List UInt8)) (w : World) (hH : Holds encStr w blk off ss.toArray) (hblk : blk < w.heap.size) (hsz : ss.length < 4611686018427387904) :
    Calls Try.prog 113 #[.slice (some ⟨blk,off,none⟩) ss.length cap] w fun e w' =>
      e = .returned (.tuple #[]) ∧ ∃ n os,w' = grow (putRow encStr (Sort.ahead w n) blk off (ss.mergeSort fun x y => decide (x ≤ y)).toArray) os := Any.slices_Sort_string Try.lays190 blk off cap ss w hH hblk hsz
open Go.RowKit Go.Sort in
theorem Try.slices_Sort_string_none (p : Option Addr) (cap : Nat) (w : World) :
    Calls Try.prog 113 #[.slice p 0 cap] w fun e w' => e = .returned (.tuple #[]) ∧ w' = w := Any.slices_Sort_string_none Try.lays190 p cap w
end Go.Proofs
end
section
namespace Go.Proofs.Ytcenlehfbgnphaa.Z
set_option linter.unusedVariables false
set_option linter.unusedSimpArgs false
open Go.RowKit Go.Shelf Go.Maps Go.Proofs.YtcenlehfbgnphaaW.PrintWords Go.Proofs.YtcenlehfbgnphaaW.PrintLast Go.Proofs.YtcenlehfbgnphaaW.PrintMore Go.Proofs.Ytcenlehfbgnphaa.Cmp
def toB (s : Nm) : List UInt8 := s.data.toList
def ofB (b : List UInt8) : Nm := ⟨b.toArray⟩
theorem of_to (s : Nm) : ofB (toB s) = s := by unfold ofB toB;cases s;simp
theorem to_of (b : List UInt8) : toB (ofB b) = b := by unfold ofB toB;simp
theorem toB_inj {a b : Nm} (h : toB a = toB b) : a = b := by rw [← of_to a,← of_to b,h]
theorem enc_to (s : Nm) : encStr (toB s) = strV s := by unfold encStr strV toB;cases s;simp
def sortN (l : List Nm) : List Nm := ((l.map toB).mergeSort leB).map ofB
theorem sortN_len (l : List Nm) : (sortN l).length = l.length := by unfold sortN;simp
theorem map_to_of (l : List (List UInt8)) : (l.map ofB).map toB = l := by rw [List.map_map];exact (List.map_congr_left (fun x _ => to_of x)).trans (List.map_id l)
theorem map_of_to (l : List Nm) : (l.map toB).map ofB = l := by rw [List.map_map];exact (List.map_congr_left (fun x _ => of_to x)).trans (List.map_id l)
theorem sortN_eq {l l' : List Nm} (hp : l.Perm l') (hs : l'.Pairwise (fun a b => toB a ≤ toB b)) : sortN l = l' := by
  have tr : ∀ a b c : List UInt8,leB a b = true → leB b c = true → leB a c = true := fun a b c h1 h2 => by simp only [leB,decide_eq_true_eq] at *;exact List.le_trans h1 h2
  have tot : ∀ a b : List UInt8,(leB a b || leB b a) = true := fun a b => by simp only [leB,Bool.or_eq_true,decide_eq_true_eq];exact List.le_total a b
  have h1 : (l.map toB).mergeSort leB = l'.map toB := by
    refine List.Perm.eq_of_pairwise (le := fun a b => leB a b = true) (fun a b _ _ h1 h2 => ?_) (List.pairwise_mergeSort tr tot (l.map toB)) ?_ ((List.mergeSort_perm (l.map toB) leB).trans (hp.map toB))
    · simp only [leB,decide_eq_true_eq] at h1 h2
      exact List.le_antisymm h1 h2
    · exact List.pairwise_map.2 (hs.imp (fun h => by simpa [leB] using h))
  unfold sortN
  rw [h1,map_of_to]
theorem before_lt : ∀ a b : List UInt8,bytesBefore a b = true → a < b
  | [],[],h => by cases h
  | [],b :: s,_ => List.nil_lt_cons b s
  | a :: r,[],h => by cases h
  | a :: r,b :: s,h => by
    rw [List.cons_lt_cons_iff]
    unfold bytesBefore at h
    rw [Bool.or_eq_true,Bool.and_eq_true] at h
    rcases h with h | ⟨h1,h2⟩
    · exact .inl (of_decide_eq_true h)
    · exact .inr ⟨eq_of_beq h1,before_lt r s h2⟩
theorem TreeAt.rise {w : World} {t b : Nat} {L : List Tn} (h : TreeAt w t b L) : L.Pairwise (fun p q => toB p.1 < toB q.1) := by
  obtain ⟨es,h1,h2,_⟩ := h.map.canon lawS
  unfold mapD at h1
  injection h1 with h1
  rw [← h1] at h2
  exact (List.pairwise_map.1 h2).imp (fun h => before_lt _ _ h)
theorem TreeAt.names {w : World} {t b : Nat} {L : List Tn} (h : TreeAt w t b L) : (L.map Prod.fst).Nodup :=
  List.pairwise_map.2 (h.rise.imp (fun {p q} h e => by rw [e] at h;exact List.lt_irrefl _ h))
theorem undL_rise {w : World} {t b : Nat} {L : List Tn} (h : TreeAt w t b L) (n : Nm) : (undL L n).Pairwise (fun a b => toB a ≤ toB b) := by
  unfold undL
  refine List.Pairwise.filter _ (List.pairwise_map.2 (h.rise.imp (fun h => List.le_of_lt h)))
set_option maxHeartbeats 2000000 in
set_option maxRecDepth 100000 in
theorem srow_sort {w : World} {base : Nat} {v : Value} {l : List Nm} (h : SRow w base v l) (hl : l.length ≤ 1000000) :
    Calls Try.prog 113 #[v] w fun e w' => e = .returned (.tuple #[]) ∧ SRow w' base v (sortN l) ∧ w.grownBy w' v.ownBlock := by
  obtain ⟨h1,h2⟩ := h
  rcases h2 with ⟨rfl,h2⟩ | ⟨g,cap,cur,rfl,hb,hg,hle,hm,hs,ht⟩
  · have : l = [] := List.length_eq_zero_iff.1 h2
    subst this
    refine (Try.slices_Sort_string_none none 0 w).mono ?_
    rintro e w' ⟨rfl,rfl⟩
    exact ⟨rfl,⟨by simp [sortN],.inl ⟨rfl,by simp [sortN]⟩⟩,⟨rfl,rfl,rfl,Nat.le_refl _,fun _ _ _ => rfl⟩⟩
  · have e0 : (l.map toB).length = l.length := List.length_map _
    have ht2 : cur.toList.take (l.map toB).length = (l.map toB).map encStr := by
      rw [e0,List.map_map]
      rw [Nat.mul_one] at ht
      exact ht.trans (List.map_congr_left (fun x _ => (enc_to x).symm))
    have hc := Try.slices_Sort_string g 0 cap (l.map toB) w (holds_of_block hg ht2) (blk_lt hg) (by rw [e0];omega)
    rw [e0] at hc
    refine hc.mono ?_
    rintro e w' ⟨rfl,n,os,rfl⟩
    refine ⟨rfl,?_,grownBy_sorted _⟩
    have ho := ownsRow_sorted (base := base) (n := n) (os := os) (e := 9) (ss := l.map toB) (ts := (l.map toB).mergeSort leB) (by simp) hb hg (by rw [e0];exact hle) hm hs
    unfold SRow
    rw [sortN_len]
    rw [e0] at ho
    have e1 : (sortN l).map strV = ((l.map toB).mergeSort leB).map encStr := by
      unfold sortN
      rw [List.map_map]
      exact List.map_congr_left (fun x _ => by show strV (ofB x) = encStr x;rw [← enc_to,to_of])
    rw [e1]
    exact ho
end Go.Proofs.Ytcenlehfbgnphaa.Z
end
section
namespace Go.Proofs.Ytcenlehfbgnphaa.Z
set_option linter.unusedVariables false
set_option linter.unusedSimpArgs false
open Go.RowKit Go.Shelf Go.Maps Go.Proofs.YtcenlehfbgnphaaW.PrintWords Go.Proofs.YtcenlehfbgnphaaW.PrintLast Go.Proofs.YtcenlehfbgnphaaW.PrintMore Go.Proofs.Ytcenlehfbgnphaa.Cmp
noncomputable abbrev RvS : Value → Option (DataW Unit × List MemPlace) := plainElem Try.prog 9
theorem invKS : ∀ key kl,keyOf Try.prog 9 key = some kl → ∃ x : Nm,key = .string x := fun key kl h => by
  obtain ⟨x,hx,_⟩ := Maps.keyOf_str Try.underlying9 h
  exact ⟨_,hx⟩
theorem invVS : ∀ (v : Value) (y : DataW Unit × List MemPlace),RvS v = some y → ∃ c : Nm,v = .string c := fun v y h => by
  obtain ⟨s,rfl,_⟩ := plainElem_string_inv Try.underlying9 h
  exact ⟨s,rfl⟩
theorem keyS {x : Nm} {kl : Lit} (h : keyOf Try.prog 9 (.string x) = some kl) : kl = .string (toB x) ∧ x.size ≤ maxLen := by
  obtain ⟨y,hy,rfl,hl⟩ := Maps.keyOf_str Try.underlying9 h
  have : y = toB x := by
    have h1 : encStr (toB x) = encStr y := by rw [enc_to];exact hy
    exact (encStr_inj h1).symm
  subst this
  refine ⟨rfl,?_⟩
  unfold toB at hl
  rw [Array.length_toList] at hl
  exact hl
theorem strKeys_mapD (L : List Tn) : strKeys (mapD L) = (L.map Prod.fst).map toB := by
  show (L.map fun p => (lk p.1,(DataW.lit (lk p.2) : DataW Unit))).map (fun p => strOf p.1) = _
  rw [List.map_map,List.map_map]
  rfl
theorem TreeAt.grown {w w1 : World} {t b : Nat} {L : List Tn} {row : Option Nat} (h : TreeAt w t b L) (hg : w.grownBy w1 row) (ht : some t ≠ row) (hb : some b ≠ row) : TreeAt w1 t b L :=
  ⟨(hg.block t (blk_lt h.blk) ht).trans h.blk,h.map.kept hg hb⟩
theorem below_none {w w1 : World} (h : Below w.heap.size w w1) : w.grownBy w1 none := ⟨h.os,h.tape,h.output,h.size,fun k hk _ => h.block k hk⟩
structure UnderR (w wr : World) (b t : Nat) (L : List Tn) (nm : Nm) (ov : Value) (left : Lit → Bool) (cnt : Nat) (ms : List Nm) : Prop where
  rg : wr.ranges Try.prog 9 RvS b w.heap.size L.length (mapD L) left cnt
  col : Collected (mapD L) left (ms.map toB)
  row : SRow wr w.heap.size ov (ms.filter fun x => hasN (abv L x) nm)
  below : Below w.heap.size w wr
  tree : TreeAt wr t b L
  le : w.heap.size ≤ wr.heap.size
  cnt : ms.length + cnt ≤ L.length
theorem size_mapD (L : List Tn) : Maps.size (mapD L) = L.length := by
  unfold mapD
  rw [size_eq,List.length_map]
set_option maxHeartbeats 8000000 in
set_option maxRecDepth 100000 in
theorem ten_under {w : World} {t b : Nat} {L : List Tn} (h : TreeAt w t b L) (hs : Shallow L) (hk : ∀ p ∈ L,p.2.size ≤ maxLen) (hL : L.length ≤ 1000) (nm : Nm) :
    Calls Try.prog 92 #[.pointer (some ⟨t,0,none⟩),.string nm] w fun e w' => ∃ v,e = .returned v ∧ SRow w' w.heap.size v (undL L nm) ∧ Below w.heap.size w w' := by
  have HA := Aside0.mk h
  have x0 : w.cell? ⟨t,0,none⟩ = some (.map (some b)) := blk_cell h.blk 0
  clear h
  go_enter Try.func92,Try.ntmps92
  go_wp2_with (first | (at_range;refine wpList_range_own w rfl _ tM rfl 9 9 lawS Try.underlying131 RvS b L.length (mapD L) rfl HA.out.map ?_;intro w0 hrg0 hg0 hs0))
  go_frame
  have U0 : UnderR w w0 b t L nm (.slice none 0 0) (Maps.has (mapD L)) (Maps.size (mapD L)) [] := ⟨hrg0,Collected.start _,World.ownsRow_nil _ _ _ _,(Below.refl _ _).grown hg0 (Nat.le_refl _) (fun k e => by cases e),HA.out.grown hg0 (by simp) (by simp),by omega,by rw [size_mapD];simp⟩
  have HU0 := Aside0.mk U0
  clear U0 hrg0 hg0 hs0
  go_loopw [5,14] (fun ov _ wr => ∃ left cnt ms,Aside0 (UnderR w wr b t L nm ov left cnt ms)) (fun _ _ wr => wr.rangeLeft b w.heap.size)
  case atStart => exact ⟨_,_,_,HU0⟩
  case round =>
    rename World => wr
    clear HU0 x0
    obtain ⟨left,cnt,ms,HU⟩ := hrel
    obtain ⟨KL,hKL⟩ : ∃ KL,ms.filter (fun x => hasN (abv L x) nm) = KL := ⟨_,rfl⟩
    have HKL := Aside0.mk hKL
    have hrow := HU.out.row
    rw [hKL] at hrow
    obtain ⟨Av,cv,rfl,_⟩ := hrow.reads
    have KLN := Aside0.mk (show KL.length ≤ 1000 by rw [← hKL];have h1 := List.length_filter_le (fun x => hasN (abv L x) nm) ms;have := HU.out.cnt;omega)
    have HR := Aside0.mk hrow
    clear hKL hrow
    go_wp2_with (first | (at_next;refine wpList_next_ranges wr rfl _ rfl 9 lawS RvS Value.string Value.string invKS invVS b w.heap.size L.length (mapD L) left cnt rfl HU.out.rg ?_ ?_))
    · intro hc0 hl0
      have HE := Aside0.mk (show sortN KL = undL L nm by
        have hp := HU.out.col.perm HU.out.rg.owns lawS Try.underlying9 hl0
        rw [strKeys_mapD] at hp
        have hp2 := hp.map ofB
        rw [map_of_to,map_of_to] at hp2
        rw [← HKL.out]
        exact sortN_eq (hp2.filter _) (undL_rise HA.out nm))
      have HB := Aside0.mk HU.out.below
      have SR := Aside0.mk (srow_sort HR.out (by have := KLN.out;omega))
      clear hc0 hl0 HU
      go_wp2_with (fail)
      refine SR.out.mono ?_
      rintro e w2 ⟨rfl,hrow2,hg2⟩
      have HR2 := Aside0.mk hrow2
      have HB2 := Aside0.mk (HB.out.grown hg2 HB.out.size (fun k e => HR.out.lt k e))
      clear hrow2 hg2
      go_wp2_with (fail)
      go_ret
      exact ⟨_,rfl,by rw [← HE.out];have h1 := HR2.out;exact h1,HB2.out⟩
    · intro x c kl yd yp w1 cnt1 hkey hlk hv hat hrg1 hlt1 hg1 hs1 hen
      obtain ⟨rfl,hx⟩ := keyS hkey
      have A1 := Aside0.mk (HU.out.tree.grown hg1 (fun e => by have h1 := blk_lt HA.out.blk;injection e with e;omega) (fun e => hrg1.ne (by injection e with e;exact e.symm)))
      have C1 := Aside0.mk (show Collected (mapD L) (fun z => left z && !z.sameKey (.string (toB x))) ((ms ++ [x]).map toB) by rw [List.map_append];exact HU.out.col.step hlk hat)
      have B1 := Aside0.mk (HU.out.below.grown hg1 HU.out.le (fun k e => by cases e;exact Nat.le_refl _))
      have R1 := Aside0.mk (show SRow w1 w.heap.size (.slice Av KL.length cv) KL from World.ownsRow.kept HR.out hg1 (.inr (fun e => row_ne_iter HR.out HU.out.rg e.symm)))
      have G1 := Aside0.mk hrg1
      have L1 := Aside0.mk (show w.heap.size ≤ w1.heap.size from Nat.le_trans HU.out.le hg1.size)
      have N1 := Aside0.mk (show (ms ++ [x]).length + cnt1 ≤ L.length by have := HU.out.cnt;rw [List.length_append,List.length_singleton];omega)
      have M1 := Aside0.mk (show cnt1 < wr.rangeLeft b w.heap.size by rw [HU.out.rg.left_eq];exact hlt1)
      have HX := Aside0.mk hx
      clear hkey hlk hv hat hrg1 hlt1 hg1 hs1 HU HR hx
      go_wp2_with (fail)
      clear hen
      refine (ten_below (A1.out.v) hs hk x nm HX.out).mono ?_
      rintro e w2 ⟨rfl,hb2⟩
      have G2 := Aside0.mk (G1.out.kept (below_none hb2) (by simp) (by simp))
      have A2 := Aside0.mk (A1.out.below hb2)
      have B2 := Aside0.mk (B1.out.trans (hb2.mono L1.out))
      have R2 := Aside0.mk (show SRow w2 w.heap.size (.slice Av KL.length cv) KL from World.ownsRow.kept R1.out (below_none hb2) (by cases Av <;> simp [Value.ownBlock]))
      have L2 := Aside0.mk (show w.heap.size ≤ w2.heap.size from Nat.le_trans L1.out hb2.size)
      clear hb2 G1 A1 B1 R1 L1
      have hf : (ms ++ [x]).filter (fun x => hasN (abv L x) nm) = KL ++ (if hasN (abv L x) nm then [x] else []) := by
        rw [List.filter_append,HKL.out]
        simp only [List.filter_cons,List.filter_nil]
      cases hin : hasN (abv L x) nm with
      | true =>
        rw [hin,if_pos rfl] at hf
        have HF := Aside0.mk hf
        clear hf
        obtain ⟨i0,hi,hz0,hz1,hz2⟩ := info_parts info9
        obtain ⟨k,hkl⟩ : ∃ k,KL.length = k := ⟨_,rfl⟩
        have HK := Aside0.mk hkl
        have HR := Aside0.mk (show w2.ownsRow w.heap.size 9 1 (.slice Av k cv) k (KL.map strV) by rw [← hkl];exact R2.out)
        rw [hkl]
        clear hkl hin
        go_wp2_with (at_builtin;refine wpList_append_own _ rfl _ _ tS rfl w.heap.size 9 i0 (.string ⟨#[]⟩) 1 16 Try.underlying124 hi hz0 hz1 hz2 rfl (by decide) _ _ _ rfl (HR.out.alloc _) ⟨w2.heap.size,0,none⟩ 1 1 [.string x] rfl rfl (cell_one_new _ _ _) (by simp [Value.oneCell']) (by have := KLN.out;have := HK.out;unfold maxLen;omega) (by have := KLN.out;have := HK.out;omega) (by have := L2.out;simp;omega) ?_;intro v' w3 hown' hgrow _)
        obtain ⟨g',cap',rfl⟩ := ownsRow_succ hown'
        have hall := (World.grownBy_alloc w2 (Obj.cells #[.string x] 9) _).trans hgrow
        have hb : some b ≠ (Value.slice Av k cv).ownBlock := row_ne_low HR.out HA.out.map.lt
        have ht : some t ≠ (Value.slice Av k cv).ownBlock := row_ne_low HR.out (blk_lt HA.out.blk)
        have G3 := Aside0.mk (G2.out.kept hall hb (row_ne_iter HR.out G2.out))
        have A3 := Aside0.mk (A2.out.grown hall ht hb)
        have B3 := Aside0.mk (B2.out.grown hall L2.out (fun j e => R2.out.lt j (by rw [HK.out];exact e)))
        have R3 := Aside0.mk (show SRow w3 w.heap.size (.slice (some ⟨g',0,none⟩) (k + 1) cap') (KL ++ [x]) by
          unfold SRow
          rw [List.length_append,HK.out,List.map_append]
          exact hown')
        refine ⟨⟨_,cnt1,ms ++ [x],⟨⟨G3.out,C1.out,by rw [HF.out];exact R3.out,B3.out,A3.out,Nat.le_trans L2.out hall.size,N1.out⟩⟩⟩,by rw [G3.out.left_eq];exact M1.out⟩
      | false =>
        rw [hin,if_neg (by simp),List.append_nil] at hf
        have HF := Aside0.mk hf
        clear hf hin
        go_wp2_with (fail)
        go_roundw
        case rel => exact ⟨_,cnt1,ms ++ [x],⟨⟨G2.out,C1.out,by rw [HF.out];exact R2.out,B2.out,A2.out,L2.out,N1.out⟩⟩⟩
        case measure => rw [G2.out.left_eq];exact M1.out
end Go.Proofs.Ytcenlehfbgnphaa.Z
end
section
namespace Go.Proofs.Ytcenlehfbgnphaa.Z
open Go.RowKit Go.Proofs.YtcenlehfbgnphaaW.PrintWords Go.Proofs.YtcenlehfbgnphaaW.PrintLast Go.Proofs.YtcenlehfbgnphaaW.PrintMore
attribute [local go_sem] max2_int min2_int max_two min_two max_three min_three max_four min_four
set_option linter.unusedVariables false
set_option linter.unusedSimpArgs false
def schema_letter.f (a0 : Int) : Option (Bool) := if a0 ≥ 97 then (some (decide (a0 ≤ 122))) else (some false)
set_option maxHeartbeats 8000000 in
set_option maxRecDepth 100000 in
theorem schema_letter.calls (a0 : Int) (r : Bool) (w : World) (h : schema_letter.f a0 = some r) :
    Calls Try.prog 116 #[.int .u8 a0] w fun e w' => e = .returned (.bool r) ∧ Drawn0 w w' := by
  have H : (if a0 ≥ 97 then (some (decide (a0 ≤ 122))) else (some false)) = some r := h
  clear h
  by_cases c2 : a0 ≥ 97
  · rw [if_pos c2] at H
    have c2b0 : decide (97 ≤ a0) = true := decide_eq_true c2
    clear c2
    obtain rfl := Option.some.inj H
    go_enter Try.func116,Try.ntmps116
    go_wp2
    go_ret
    exact ⟨by first | rfl | (simp;done) | (simp [*];done),by repeat (first | exact Drawn0.refl _ | apply Drawn0.step)⟩
  · rw [if_neg c2] at H
    have c2b0 : decide (97 ≤ a0) = false := decide_eq_false c2
    clear c2
    obtain rfl := Option.some.inj H
    go_enter Try.func116,Try.ntmps116
    go_wp2
    go_ret
    exact ⟨by first | rfl | (simp;done) | (simp [*];done),by repeat (first | exact Drawn0.refl _ | apply Drawn0.step)⟩
end Go.Proofs.Ytcenlehfbgnphaa.Z
end
section
namespace Go.Proofs.Ytcenlehfbgnphaa.Z
open Go.RowKit Go.Proofs.YtcenlehfbgnphaaW.PrintWords Go.Proofs.YtcenlehfbgnphaaW.PrintLast Go.Proofs.YtcenlehfbgnphaaW.PrintMore
attribute [local go_sem] max2_int min2_int max_two min_two max_three min_three max_four min_four
set_option linter.unusedVariables false
set_option linter.unusedSimpArgs false
mutual
def schema_Name.j0 : Nat → ByteArray → Bool → Option (Bool)
  | 0,_,_ => none
  | k + 1,x0,x17 => if x17 = true then (some false) else (schema_Name.l0 k x0 (x0.size : Int) 0)
def schema_Name.l0 : Nat → ByteArray → Int → Int → Option (Bool)
  | 0,_,_,_ => none
  | k + 1,x0,x19,x20 => if x20 < x19 then (if 0 ≤ x20 then (if x20 < (x0.size : Int) then ((schema_letter.f (bt x0 x20)).bind fun t474 => (if t474 = true then (schema_Name.l0 k x0 x19 (wrap64 (x20 + 1))) else (if (bt x0 x20) < 48 then (if (bt x0 x20) = 95 then (schema_Name.l0 k x0 x19 (wrap64 (x20 + 1))) else (some false)) else (if (bt x0 x20) > 57 then (if (bt x0 x20) = 95 then (schema_Name.l0 k x0 x19 (wrap64 (x20 + 1))) else (some false)) else (schema_Name.l0 k x0 x19 (wrap64 (x20 + 1))))))) else (none)) else (none)) else (some true)
end
def schema_Name.f (k : Nat) (a0 : ByteArray) : Option (Bool) := if a0.toList = ([] : List UInt8) then (schema_Name.j0 k a0 true) else (if (a0.size : Int) > 16 then (schema_Name.j0 k a0 true) else (if 0 < (a0.size : Int) then ((schema_letter.f (bt a0 0)).bind fun t473 => (schema_Name.j0 k a0 (!t473))) else (none)))
theorem schema_Name.mono_l : ∀ k,(∀ y0 y1,LeO (schema_Name.j0 k y0 y1) (schema_Name.j0 (k + 1) y0 y1)) ∧ (∀ y0 y1 y2,LeO (schema_Name.l0 k y0 y1 y2) (schema_Name.l0 (k + 1) y0 y1 y2))
  | 0 => ⟨fun _ _ r h => by simp [schema_Name.j0] at h,fun _ _ _ r h => by simp [schema_Name.l0] at h⟩
  | k + 1 => by
    obtain ⟨ih0,ih1⟩ := schema_Name.mono_l k
    refine ⟨?_,?_⟩
    · intro y0 y1
      unfold schema_Name.j0
      repeat' first
      | (with_reducible exact ih0 _ _)
      | (with_reducible exact ih1 _ _ _)
      | (with_reducible exact LeO.refl _)
      | (with_reducible exact LeO.none _)
      | (with_reducible refine LeO.ite ?_ ?_)
      | (with_reducible refine LeO.bind ?_ (fun _ => ?_))
      | exact ih0 _ _
      | exact ih1 _ _ _
      | exact LeO.none _
      | refine LeO.ite ?_ ?_
      | refine LeO.bind ?_ (fun _ => ?_)
    · intro y0 y1 y2
      unfold schema_Name.l0
      repeat' first
      | (with_reducible exact ih0 _ _)
      | (with_reducible exact ih1 _ _ _)
      | (with_reducible exact LeO.refl _)
      | (with_reducible exact LeO.none _)
      | (with_reducible refine LeO.ite ?_ ?_)
      | (with_reducible refine LeO.bind ?_ (fun _ => ?_))
      | exact ih0 _ _
      | exact ih1 _ _ _
      | exact LeO.none _
      | refine LeO.ite ?_ ?_
      | refine LeO.bind ?_ (fun _ => ?_)
theorem schema_Name.mono : ∀ a0 k,LeO (schema_Name.f k a0) (schema_Name.f (k + 1) a0) := by
  intro a0 k
  obtain ⟨ih0,ih1⟩ := schema_Name.mono_l k
  unfold schema_Name.f
  repeat' first
      | (with_reducible exact ih0 _ _)
      | (with_reducible exact ih1 _ _ _)
      | (with_reducible exact LeO.refl _)
      | (with_reducible exact LeO.none _)
      | (with_reducible refine LeO.ite ?_ ?_)
      | (with_reducible refine LeO.bind ?_ (fun _ => ?_))
      | exact ih0 _ _
      | exact ih1 _ _ _
      | exact LeO.none _
      | refine LeO.ite ?_ ?_
      | refine LeO.bind ?_ (fun _ => ?_)
set_option maxHeartbeats 8000000 in
set_option maxRecDepth 100000 in
theorem schema_Name.calls (k : Nat) (a0 : ByteArray) (r : Bool) (w : World) (h : schema_Name.f k a0 = some r) :
    Calls Try.prog 99 #[.string a0] w fun e w' => e = .returned (.bool r) ∧ Drawn0 w w' := by
  have H : (if a0.toList = ([] : List UInt8) then (schema_Name.j0 k a0 true) else (if (a0.size : Int) > 16 then (schema_Name.j0 k a0 true) else (if 0 < (a0.size : Int) then ((schema_letter.f (bt a0 0)).bind fun t473 => (schema_Name.j0 k a0 (!t473))) else (none)))) = some r := h
  clear h
  have HC2 := Aside0.mk H
  clear H
  go_enter Try.func99,Try.ntmps99
  go_upto_region 1 with (fail)
  go_cut [17] (fun v17 wc => ∃ (kq : Nat) (x17_1 : Bool),v17 = .bool x17_1 ∧ Aside0 (schema_Name.j0 kq a0 x17_1 = some r) ∧ Aside0 (kq ≤ k) ∧ Drawn0 w wc)
  case first =>
    have H := HC2.out
    clear HC2
    by_cases c3 : a0.toList = ([] : List UInt8)
    · rw [if_pos c3] at H
      have c3b0 : (a0.toList == ([] : List UInt8)) = true := beq_iff_eq.mpr c3
      have c3b1 : (a0.toList != ([] : List UInt8)) = false := bne_eq_false_iff_eq.mpr c3
      clear c3
      (first | rw [c3b0] | (simp only [i64_w,i32_w];rw [c3b0]) | skip)
      have H' := Aside0.mk H
      clear H
      go_wp2
      go_meet
      case rel => exact ⟨_,(true),(by first | rfl | (simp;done) | (simp [*];done)),H',⟨by first | omega | exact Nat.le_refl _⟩,by repeat (first | exact Drawn0.refl _ | apply Drawn0.step)⟩
    · rw [if_neg c3] at H
      have c3b0 : (a0.toList == ([] : List UInt8)) = false := beq_eq_false_iff_ne.mpr c3
      have c3b1 : (a0.toList != ([] : List UInt8)) = true := bne_iff_ne.mpr c3
      (first | rw [c3b0] | (simp only [i64_w,i32_w];rw [c3b0]) | skip)
      by_cases c4 : (a0.size : Int) > 16
      · rw [if_pos c4] at H
        have c4b0 : decide (16 < (a0.size : Int)) = true := decide_eq_true c4
        have c4b1 : decide (16 < a0.size) = true := decide_eq_true (by omega)
        clear c4
        have H' := Aside0.mk H
        clear H
        go_wp2
        go_meet
        case rel => exact ⟨_,(true),(by first | rfl | (simp;done) | (simp [*];done)),H',⟨by first | omega | exact Nat.le_refl _⟩,by repeat (first | exact Drawn0.refl _ | apply Drawn0.step)⟩
      · rw [if_neg c4] at H
        have c4b0 : decide (16 < (a0.size : Int)) = false := decide_eq_false c4
        have c4b1 : decide (16 < a0.size) = false := decide_eq_false (by omega)
        clear c4
        by_cases c5 : 0 < (a0.size : Int)
        · rw [if_pos c5] at H
          have c5b0 : decide (0 < (a0.size : Int)) = true := decide_eq_true c5
          have c5b1 : decide (0 < a0.size) = true := decide_eq_true (by omega)
          clear c5
          replace H := Option.bind_eq_some_iff.mp H
          obtain ⟨t473,A70,H⟩ := H
          replace H : (schema_Name.j0 k a0 (!t473)) = some r := H
          have A7 := Aside0.mk A70
          clear A70
          have H' := Aside0.mk H
          clear H
          have p6 : 0 ≤ (0 : Int) := (by omega)
          have q6 : 0 < a0.size := (by have : (0 : Int) < (a0.size : Int) := of_decide_eq_true (by first | (with_reducible assumption) | assumption);omega)
          have hx6 : ∀ h : 0 < a0.size,((a0[0]'h).toNat : Int) = bt a0 0 := bt_at a0 0
          clear p6
          have qi6 : (0 < (a0.size : Int)) = True := eq_true (of_decide_eq_true (by first | (with_reducible assumption) | assumption))
          replace q6 := eq_true q6
          go_wp2_with (first | (go_at_call 116;(with_reducible refine (schema_letter.calls (bt a0 0) t473 _ A7.out).mono ?_);rintro e w' ⟨rfl,⟨nd,rfl⟩⟩))
          go_meet
          case rel => exact ⟨_,(!t473),(by first | rfl | (simp;done) | (simp [*];done)),H',⟨by first | omega | exact Nat.le_refl _⟩,by repeat (first | exact Drawn0.refl _ | apply Drawn0.step)⟩
        · rw [if_neg c5] at H
          exact absurd H (by simp)
  case rest =>
    clear HC2
    try clear p2
    try clear c3
    try clear c3b0
    try clear c3b1
    try clear c4
    try clear c4b0
    try clear c4b1
    try clear c5
    try clear c5b0
    try clear c5b1
    try clear p6
    try clear q6
    try clear hx6
    try clear qi6
    try clear p6
    try clear q6
    obtain ⟨kq,x17_1,rfl,HA,HJ1,⟨mc1,rfl⟩⟩ := hcut
    cases kq with
    | zero => exact absurd HA.out (by simp [schema_Name.j0])
    | succ kj1 =>
      have H := HA.out
      clear HA
      simp only [schema_Name.j0] at H
      by_cases c8 : x17_1 = true
      · subst c8
        have H1 : (some false) = some r := by rw [if_pos rfl] at H;exact H
        clear H
        have H := H1
        clear H1
        obtain rfl := Option.some.inj H
        go_wp2
        go_ret
        exact ⟨by first | rfl | (simp;done) | (simp [*];done),by repeat (first | exact Drawn0.refl _ | apply Drawn0.step)⟩
      · replace c8 := Bool.eq_false_iff.mpr c8
        subst c8
        have H1 : (schema_Name.l0 kj1 a0 (a0.size : Int) 0) = some r := by rw [if_neg (show ¬ (false = true) by decide)] at H;exact H
        clear H
        have H := H1
        clear H1
        have H' := Aside0.mk H
        clear H
        go_wp2
        go_loopg [20] kj1 (fun kq v20 w' => ∃ (x20_2 : Int),v20 = .int .i64 x20_2 ∧ Aside0 (schema_Name.l0 kq a0 (a0.size : Int) x20_2 = some r) ∧ Aside0 (kq ≤ kj1) ∧ Drawn0 w w')
        case atStart => exact ⟨(0),(by first | rfl | (simp;done) | (simp [*];done)),H',⟨Nat.le_refl _⟩,by repeat (first | exact Drawn0.refl _ | apply Drawn0.step)⟩
        case round =>
          clear H'
          try clear c1
          try clear p2
          try clear c3
          try clear c3b0
          try clear c3b1
          try clear c4
          try clear c4b0
          try clear c4b1
          try clear c5
          try clear c5b0
          try clear c5b1
          try clear p6
          try clear q6
          try clear hx6
          try clear qi6
          try clear c8
          try clear p2
          try clear p6
          try clear q6
          obtain ⟨x20_2,rfl,HA,HK2,⟨m2,rfl⟩⟩ := hrel
          cases gk with
          | zero => exact absurd HA.out (by simp [schema_Name.l0])
          | succ k2 =>
            have H := HA.out
            clear HA
            simp only [schema_Name.l0] at H
            by_cases c9 : x20_2 < (a0.size : Int)
            · rw [if_pos c9] at H
              have c9b0 : decide (x20_2 < (a0.size : Int)) = true := decide_eq_true c9
              clear c9
              by_cases c10 : 0 ≤ x20_2
              · rw [if_pos c10] at H
                have c10b0 : decide (0 ≤ x20_2) = true := decide_eq_true c10
                clear c10
                by_cases c11 : x20_2 < (a0.size : Int)
                · rw [if_pos c11] at H
                  have c11b0 : decide (x20_2 < (a0.size : Int)) = true := decide_eq_true c11
                  clear c11
                  replace H := Option.bind_eq_some_iff.mp H
                  obtain ⟨t474,A130,H⟩ := H
                  replace H : (if t474 = true then (schema_Name.l0 k2 a0 (a0.size : Int) (wrap64 (x20_2 + 1))) else (if (bt a0 x20_2) < 48 then (if (bt a0 x20_2) = 95 then (schema_Name.l0 k2 a0 (a0.size : Int) (wrap64 (x20_2 + 1))) else (some false)) else (if (bt a0 x20_2) > 57 then (if (bt a0 x20_2) = 95 then (schema_Name.l0 k2 a0 (a0.size : Int) (wrap64 (x20_2 + 1))) else (some false)) else (schema_Name.l0 k2 a0 (a0.size : Int) (wrap64 (x20_2 + 1)))))) = some r := H
                  have A13 := Aside0.mk A130
                  clear A130
                  by_cases c14 : t474 = true
                  · subst c14
                    have H1 : (schema_Name.l0 k2 a0 (a0.size : Int) (wrap64 (x20_2 + 1))) = some r := by rw [if_pos rfl] at H;exact H
                    clear H
                    have H := H1
                    clear H1
                    have H' := Aside0.mk H
                    clear H
                    have p12 : 0 ≤ (x20_2 : Int) := of_decide_eq_true (by first | (with_reducible assumption) | assumption)
                    have q12 : x20_2 < (a0.size : Int) := of_decide_eq_true (by first | (with_reducible assumption) | assumption)
                    have hx12 := bt_at a0 x20_2
                    replace p12 := eq_true p12
                    replace q12 := eq_true q12
                    go_wp2_with (first | ((with_reducible refine gate_callee (f := 116) rfl ?_);refine goesL_ (some 27) rfl rfl Try.func116 (by kernel_rfl) rfl #[.int .u8 (bt a0 x20_2)] rfl (by (try simp only [List.map_toArray,List.map_cons,List.map_nil]);first | done | rfl | (simp only [List.length_drop,List.length_take];rfl)) ?_;(with_reducible refine (schema_letter.calls (bt a0 x20_2) true _ A13.out).mono ?_);rintro e w' ⟨rfl,⟨nd,rfl⟩⟩;refine ⟨_,rfl,?_⟩))
                    go_roundg k2
                    case measure => have := HJ1.out;have := HK2.out;omega
                    case rel => exact ⟨(wrap64 (x20_2 + 1)),(by first | rfl | (simp;done) | (simp [*];done)),H',⟨by have := HJ1.out;have := HK2.out;omega⟩,by repeat (first | exact Drawn0.refl _ | apply Drawn0.step)⟩
                  · replace c14 := Bool.eq_false_iff.mpr c14
                    subst c14
                    have H1 : (if (bt a0 x20_2) < 48 then (if (bt a0 x20_2) = 95 then (schema_Name.l0 k2 a0 (a0.size : Int) (wrap64 (x20_2 + 1))) else (some false)) else (if (bt a0 x20_2) > 57 then (if (bt a0 x20_2) = 95 then (schema_Name.l0 k2 a0 (a0.size : Int) (wrap64 (x20_2 + 1))) else (some false)) else (schema_Name.l0 k2 a0 (a0.size : Int) (wrap64 (x20_2 + 1))))) = some r := by rw [if_neg (show ¬ (false = true) by decide)] at H;exact H
                    clear H
                    have H := H1
                    clear H1
                    by_cases c15 : (bt a0 x20_2) < 48
                    · rw [if_pos c15] at H
                      have c15b0 : decide ((bt a0 x20_2) < 48) = true := decide_eq_true c15
                      clear c15
                      by_cases c16 : (bt a0 x20_2) = 95
                      · rw [if_pos c16] at H
                        have c16b0 : ((bt a0 x20_2) == 95) = true := beq_iff_eq.mpr c16
                        have c16b1 : ((bt a0 x20_2) != 95) = false := bne_eq_false_iff_eq.mpr c16
                        clear c16
                        have H' := Aside0.mk H
                        clear H
                        have p12 : 0 ≤ (x20_2 : Int) := of_decide_eq_true (by first | (with_reducible assumption) | assumption)
                        have q12 : x20_2 < (a0.size : Int) := of_decide_eq_true (by first | (with_reducible assumption) | assumption)
                        have hx12 := bt_at a0 x20_2
                        replace p12 := eq_true p12
                        replace q12 := eq_true q12
                        go_wp2_with (first | ((with_reducible refine gate_callee (f := 116) rfl ?_);refine goesL_ (some 27) rfl rfl Try.func116 (by kernel_rfl) rfl #[.int .u8 (bt a0 x20_2)] rfl (by (try simp only [List.map_toArray,List.map_cons,List.map_nil]);first | done | rfl | (simp only [List.length_drop,List.length_take];rfl)) ?_;(with_reducible refine (schema_letter.calls (bt a0 x20_2) false _ A13.out).mono ?_);rintro e w' ⟨rfl,⟨nd,rfl⟩⟩;refine ⟨_,rfl,?_⟩))
                        go_roundg k2
                        case measure => have := HJ1.out;have := HK2.out;omega
                        case rel => exact ⟨(wrap64 (x20_2 + 1)),(by first | rfl | (simp;done) | (simp [*];done)),H',⟨by have := HJ1.out;have := HK2.out;omega⟩,by repeat (first | exact Drawn0.refl _ | apply Drawn0.step)⟩
                      · rw [if_neg c16] at H
                        have c16b0 : ((bt a0 x20_2) == 95) = false := beq_eq_false_iff_ne.mpr c16
                        have c16b1 : ((bt a0 x20_2) != 95) = true := bne_iff_ne.mpr c16
                        obtain rfl := Option.some.inj H
                        have p12 : 0 ≤ (x20_2 : Int) := of_decide_eq_true (by first | (with_reducible assumption) | assumption)
                        have q12 : x20_2 < (a0.size : Int) := of_decide_eq_true (by first | (with_reducible assumption) | assumption)
                        have hx12 := bt_at a0 x20_2
                        replace p12 := eq_true p12
                        replace q12 := eq_true q12
                        go_wp2_with (first | ((with_reducible refine gate_callee (f := 116) rfl ?_);refine goesL_ (some 27) rfl rfl Try.func116 (by kernel_rfl) rfl #[.int .u8 (bt a0 x20_2)] rfl (by (try simp only [List.map_toArray,List.map_cons,List.map_nil]);first | done | rfl | (simp only [List.length_drop,List.length_take];rfl)) ?_;(with_reducible refine (schema_letter.calls (bt a0 x20_2) false _ A13.out).mono ?_);rintro e w' ⟨rfl,⟨nd,rfl⟩⟩;refine ⟨_,rfl,?_⟩))
                        go_ret
                        exact ⟨by first | rfl | (simp;done) | (simp [*];done),by repeat (first | exact Drawn0.refl _ | apply Drawn0.step)⟩
                    · rw [if_neg c15] at H
                      have c15b0 : decide ((bt a0 x20_2) < 48) = false := decide_eq_false c15
                      clear c15
                      by_cases c17 : (bt a0 x20_2) > 57
                      · rw [if_pos c17] at H
                        have c17b0 : decide (57 < (bt a0 x20_2)) = true := decide_eq_true c17
                        clear c17
                        by_cases c18 : (bt a0 x20_2) = 95
                        · rw [if_pos c18] at H
                          have c18b0 : ((bt a0 x20_2) == 95) = true := beq_iff_eq.mpr c18
                          have c18b1 : ((bt a0 x20_2) != 95) = false := bne_eq_false_iff_eq.mpr c18
                          clear c18
                          have H' := Aside0.mk H
                          clear H
                          have p12 : 0 ≤ (x20_2 : Int) := of_decide_eq_true (by first | (with_reducible assumption) | assumption)
                          have q12 : x20_2 < (a0.size : Int) := of_decide_eq_true (by first | (with_reducible assumption) | assumption)
                          have hx12 := bt_at a0 x20_2
                          replace p12 := eq_true p12
                          replace q12 := eq_true q12
                          go_wp2_with (first | ((with_reducible refine gate_callee (f := 116) rfl ?_);refine goesL_ (some 27) rfl rfl Try.func116 (by kernel_rfl) rfl #[.int .u8 (bt a0 x20_2)] rfl (by (try simp only [List.map_toArray,List.map_cons,List.map_nil]);first | done | rfl | (simp only [List.length_drop,List.length_take];rfl)) ?_;(with_reducible refine (schema_letter.calls (bt a0 x20_2) false _ A13.out).mono ?_);rintro e w' ⟨rfl,⟨nd,rfl⟩⟩;refine ⟨_,rfl,?_⟩))
                          go_roundg k2
                          case measure => have := HJ1.out;have := HK2.out;omega
                          case rel => exact ⟨(wrap64 (x20_2 + 1)),(by first | rfl | (simp;done) | (simp [*];done)),H',⟨by have := HJ1.out;have := HK2.out;omega⟩,by repeat (first | exact Drawn0.refl _ | apply Drawn0.step)⟩
                        · rw [if_neg c18] at H
                          have c18b0 : ((bt a0 x20_2) == 95) = false := beq_eq_false_iff_ne.mpr c18
                          have c18b1 : ((bt a0 x20_2) != 95) = true := bne_iff_ne.mpr c18
                          obtain rfl := Option.some.inj H
                          have p12 : 0 ≤ (x20_2 : Int) := of_decide_eq_true (by first | (with_reducible assumption) | assumption)
                          have q12 : x20_2 < (a0.size : Int) := of_decide_eq_true (by first | (with_reducible assumption) | assumption)
                          have hx12 := bt_at a0 x20_2
                          replace p12 := eq_true p12
                          replace q12 := eq_true q12
                          go_wp2_with (first | ((with_reducible refine gate_callee (f := 116) rfl ?_);refine goesL_ (some 27) rfl rfl Try.func116 (by kernel_rfl) rfl #[.int .u8 (bt a0 x20_2)] rfl (by (try simp only [List.map_toArray,List.map_cons,List.map_nil]);first | done | rfl | (simp only [List.length_drop,List.length_take];rfl)) ?_;(with_reducible refine (schema_letter.calls (bt a0 x20_2) false _ A13.out).mono ?_);rintro e w' ⟨rfl,⟨nd,rfl⟩⟩;refine ⟨_,rfl,?_⟩))
                          go_ret
                          exact ⟨by first | rfl | (simp;done) | (simp [*];done),by repeat (first | exact Drawn0.refl _ | apply Drawn0.step)⟩
                      · rw [if_neg c17] at H
                        have c17b0 : decide (57 < (bt a0 x20_2)) = false := decide_eq_false c17
                        clear c17
                        have H' := Aside0.mk H
                        clear H
                        have p12 : 0 ≤ (x20_2 : Int) := of_decide_eq_true (by first | (with_reducible assumption) | assumption)
                        have q12 : x20_2 < (a0.size : Int) := of_decide_eq_true (by first | (with_reducible assumption) | assumption)
                        have hx12 := bt_at a0 x20_2
                        replace p12 := eq_true p12
                        replace q12 := eq_true q12
                        go_wp2_with (first | ((with_reducible refine gate_callee (f := 116) rfl ?_);refine goesL_ (some 27) rfl rfl Try.func116 (by kernel_rfl) rfl #[.int .u8 (bt a0 x20_2)] rfl (by (try simp only [List.map_toArray,List.map_cons,List.map_nil]);first | done | rfl | (simp only [List.length_drop,List.length_take];rfl)) ?_;(with_reducible refine (schema_letter.calls (bt a0 x20_2) false _ A13.out).mono ?_);rintro e w' ⟨rfl,⟨nd,rfl⟩⟩;refine ⟨_,rfl,?_⟩))
                        go_roundg k2
                        case measure => have := HJ1.out;have := HK2.out;omega
                        case rel => exact ⟨(wrap64 (x20_2 + 1)),(by first | rfl | (simp;done) | (simp [*];done)),H',⟨by have := HJ1.out;have := HK2.out;omega⟩,by repeat (first | exact Drawn0.refl _ | apply Drawn0.step)⟩
                · rw [if_neg c11] at H
                  exact absurd H (by simp)
              · rw [if_neg c10] at H
                exact absurd H (by simp)
            · rw [if_neg c9] at H
              have c9b0 : decide (x20_2 < (a0.size : Int)) = false := decide_eq_false c9
              clear c9
              obtain rfl := Option.some.inj H
              go_wp2
              go_ret
              exact ⟨by first | rfl | (simp;done) | (simp [*];done),by repeat (first | exact Drawn0.refl _ | apply Drawn0.step)⟩
end Go.Proofs.Ytcenlehfbgnphaa.Z
end
