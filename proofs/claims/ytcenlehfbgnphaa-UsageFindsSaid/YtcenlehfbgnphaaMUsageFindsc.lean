/-
  verdererlaw27.UsageFinds: for every input the law returns true, and each argument reads behind the call as it read before. No condition.
-/
import Derived.Test.YtcenlehfbgnphaaMUsageFindsa
import Derived.Test.YtcenlehfbgnphaaMUsageFindsb
import Derived.Deep.Slices
import Derived.ProofKit
import Derived.Test.YtcenlehfbgnphaaRows
import Derived.WalkKit
import Derived.OpenShut
import Derived.ShutString
import Derived.ChangeOld
import Derived.Below
import Derived.Laws.Cover2
section
namespace Go.Proofs.Ytcenlehfbgnphaa.Z
open Go.RowKit Go.Proofs.YtcenlehfbgnphaaW.PrintWords Go.Proofs.YtcenlehfbgnphaaW.PrintLast Go.Proofs.YtcenlehfbgnphaaW.PrintMore
attribute [local go_sem] max2_int min2_int max_two min_two max_three min_three max_four min_four
set_option linter.unusedVariables false
set_option linter.unusedSimpArgs false
def verdererref27_Find.l0 : Nat → ByteArray → ByteArray → List (S45) → Int → Option (ByteArray × ByteArray × Int × Int × Bool)
  | 0,_,_,_,_ => none
  | k + 1,x0,x1,x2,x8 => if x8 < (x2.length : Int) then (if 0 ≤ x8 then (if ((rd_T45 x2 x8).f0).toList = x0.toList then (if ((rd_T45 x2 x8).f1).toList = x1.toList then (some ((rd_T45 x2 x8).f0,(rd_T45 x2 x8).f1,(rd_T45 x2 x8).f2,(rd_T45 x2 x8).f3,true)) else (verdererref27_Find.l0 k x0 x1 x2 (wrap64 (x8 + 1)))) else (verdererref27_Find.l0 k x0 x1 x2 (wrap64 (x8 + 1)))) else (none)) else (some ((⟨#[]⟩ : ByteArray),(⟨#[]⟩ : ByteArray),0,0,false))
def verdererref27_Find.f (k : Nat) (a0 : ByteArray) (a1 : ByteArray) (l2 : List (S45)) : Option (ByteArray × ByteArray × Int × Int × Bool) := verdererref27_Find.l0 k a0 a1 l2 0
theorem verdererref27_Find.mono_l : ∀ k,(∀ y0 y1 y2 y3,LeO (verdererref27_Find.l0 k y0 y1 y2 y3) (verdererref27_Find.l0 (k + 1) y0 y1 y2 y3))
  | 0 => fun _ _ _ _ r h => by simp [verdererref27_Find.l0] at h
  | k + 1 => by
    have ih0 := verdererref27_Find.mono_l k
    · intro y0 y1 y2 y3
      unfold verdererref27_Find.l0
      repeat' first
      | (with_reducible exact ih0 _ _ _ _)
      | (with_reducible exact LeO.refl _)
      | (with_reducible exact LeO.none _)
      | (with_reducible refine LeO.ite ?_ ?_)
      | (with_reducible refine LeO.bind ?_ (fun _ => ?_))
      | exact ih0 _ _ _ _
      | exact LeO.none _
      | refine LeO.ite ?_ ?_
      | refine LeO.bind ?_ (fun _ => ?_)
theorem verdererref27_Find.mono : ∀ a0 a1 a2 k,LeO (verdererref27_Find.f k a0 a1 a2) (verdererref27_Find.f (k + 1) a0 a1 a2) := by
  intro a0 a1 a2 k
  have ih0 := verdererref27_Find.mono_l k
  unfold verdererref27_Find.f
  repeat' first
      | (with_reducible exact ih0 _ _ _ _)
      | (with_reducible exact LeO.refl _)
      | (with_reducible exact LeO.none _)
      | (with_reducible refine LeO.ite ?_ ?_)
      | (with_reducible refine LeO.bind ?_ (fun _ => ?_))
      | exact ih0 _ _ _ _
      | exact LeO.none _
      | refine LeO.ite ?_ ?_
      | refine LeO.bind ?_ (fun _ => ?_)
set_option maxHeartbeats 8000000 in
set_option maxRecDepth 100000 in
theorem verdererref27_Find.calls (k : Nat) (a0 : ByteArray) (a1 : ByteArray) (A2 : Option Addr) (c2 : Nat) (l2 : List (S45)) (r1 : ByteArray) (r2 : ByteArray) (r3 : Int) (r4 : Int) (r5 : Bool) (w : World) (hr2 : Kd.C k45 w A2 l2.length l2) (hc2 : l2.length ≤ c2) (h : verdererref27_Find.f k a0 a1 l2 = some (r1,r2,r3,r4,r5)) :
    Calls Try.prog 53 #[.string a0,.string a1,.slice A2 l2.length c2] w fun e w' => e = .returned (.tuple #[.agg #[.string r1,.string r2,.int .i64 r3,.int .i64 r4],.bool r5]) ∧ Below w.heap.size w w' := by
  have hu45 := Try.underlying45
  have HR2 := Aside0.mk hr2
  have HC2 := Aside0.mk hc2
  clear hr2 hc2
  have HB := Aside0.mk (Below.refl w.heap.size w)
  have H : (verdererref27_Find.l0 k a0 a1 l2 0) = some (r1,r2,r3,r4,r5) := h
  clear h
  have H' := Aside0.mk H
  clear H
  go_enter Try.func53,Try.ntmps53
  go_wp2_with (first | ((with_reducible refine gate_dst (N := 6) rfl ?_);refine box_event ?hg (N := 6) ?hd (cs := #[.string (⟨#[]⟩ : ByteArray),.string (⟨#[]⟩ : ByteArray),.int .i64 0,.int .i64 0]) (t := 45) ?hr ?_;(case hd => rfl);(case hg => rfl);(case hr => first | (go_simp;done) | (go_simp;rfl));intro gb314 hg w4 hbox hb;have n0_ := Aside0.mk (below_step (by repeat (first | (with_reducible first | exact HB.out | apply below_alloc | apply pw_below_drewN | apply below_drew1) | exact HB.out)) hb);have n1_ := Aside0.mk (hbox);have n2_ := Aside0.mk ((by rw [hg];exact (below_size (by repeat (first | (with_reducible first | exact HB.out | apply below_alloc | apply pw_below_drewN | apply below_drew1) | exact HB.out))) : w.heap.size ≤ gb314));have n3_ := Aside0.mk ((by rw [hg];exact (below_size (by repeat (first | (with_reducible first | exact HB.out | apply below_alloc | apply pw_below_drewN | apply below_drew1) | exact HB.out))) : w.heap.size ≤ gb314));clear HB;have HB := n0_;have BK314 := n1_;have GW314 := n2_;have GE314 := n3_;clear n0_ n1_ n2_ n3_;clear hb hbox hg))
  go_loopg [8] k (fun kq v8 w' => ∃ (x8_1 : Int) (x315000_1 : ByteArray) (x315001_1 : ByteArray) (x315002_1 : Int) (x315003_1 : Int),v8 = .int .i64 x8_1 ∧ Aside0 (verdererref27_Find.l0 kq a0 a1 l2 x8_1 = some (r1,r2,r3,r4,r5)) ∧ Aside0 (kq ≤ k) ∧ Aside0 (w'.heap[gb314]? = some (.cells #[.string x315000_1,.string x315001_1,.int .i64 x315002_1,.int .i64 x315003_1] 45 (0,0))) ∧ Aside0 (Below w.heap.size w w'))
  case atStart => exact ⟨(0),((⟨#[]⟩ : ByteArray)),((⟨#[]⟩ : ByteArray)),(0),(0),(by first | rfl | (simp;done) | (simp [*];done)),H',⟨Nat.le_refl _⟩,⟨by (with_reducible repeat (first | refine blk_drewN ?_ _ | refine blk_drew ?_ | refine blk_alloc ?_ _));exact BK314.out⟩,⟨by repeat (first | (with_reducible first | exact HB.out | apply below_alloc | apply pw_below_drewN | apply below_drew1 | refine below_set ?_ GE314.out) | exact HB.out)⟩⟩
  case round =>
    clear H'
    try clear c2
    try clear p2
    obtain ⟨x8_1,x315000_1,x315001_1,x315002_1,x315003_1,rfl,HA,HK1,BK314,HB⟩ := hrel
    cases gk with
    | zero => exact absurd HA.out (by simp [verdererref27_Find.l0])
    | succ k1 =>
      have H := HA.out
      clear HA
      simp only [verdererref27_Find.l0] at H
      by_cases c5 : x8_1 < (l2.length : Int)
      · rw [if_pos c5] at H
        have c5b0 : decide (x8_1 < (l2.length : Int)) = true := decide_eq_true c5
        clear c5
        by_cases c6 : 0 ≤ x8_1
        · rw [if_pos c6] at H
          have c6b0 : decide (0 ≤ x8_1) = true := decide_eq_true c6
          clear c6
          by_cases c7 : ((rd_T45 l2 x8_1).f0).toList = a0.toList
          · rw [if_pos c7] at H
            have c7b0 : (((rd_T45 l2 x8_1).f0).toList == a0.toList) = true := beq_iff_eq.mpr c7
            have c7b1 : (((rd_T45 l2 x8_1).f0).toList != a0.toList) = false := bne_eq_false_iff_eq.mpr c7
            clear c7
            by_cases c8 : ((rd_T45 l2 x8_1).f1).toList = a1.toList
            · rw [if_pos c8] at H
              have c8b0 : (((rd_T45 l2 x8_1).f1).toList == a1.toList) = true := beq_iff_eq.mpr c8
              have c8b1 : (((rd_T45 l2 x8_1).f1).toList != a1.toList) = false := bne_eq_false_iff_eq.mpr c8
              clear c8
              simp only [Option.some.injEq,Prod.mk.injEq] at H
              obtain ⟨rfl,rfl,rfl,rfl,rfl⟩ := H
              have p315 : 0 ≤ (x8_1 : Int) := of_decide_eq_true (by first | (with_reducible assumption) | assumption)
              have q315 : x8_1 < (l2.length : Int) := of_decide_eq_true (by first | (with_reducible assumption) | assumption)
              obtain ⟨ad315,e315,hx315_0,hx315_1,hx315_2,hx315_3⟩ := at_T45 HR2.out x8_1 p315 q315
              cases e315
              replace hx315_0 := (HB.out.cell (World.block_lt_of_cell? w _ hx315_0)).trans hx315_0
              replace hx315_1 := (HB.out.cell (World.block_lt_of_cell? w _ hx315_1)).trans hx315_1
              replace hx315_2 := (HB.out.cell (World.block_lt_of_cell? w _ hx315_2)).trans hx315_2
              replace hx315_3 := (HB.out.cell (World.block_lt_of_cell? w _ hx315_3)).trans hx315_3
              replace p315 := eq_true p315
              replace q315 := eq_true q315
              have p316 : 0 ≤ (x8_1 : Int) := of_decide_eq_true (by first | (with_reducible assumption) | assumption)
              have q316 : x8_1 < (l2.length : Int) := of_decide_eq_true (by first | (with_reducible assumption) | assumption)
              obtain ⟨ad316,e316,hx316_0,hx316_1,hx316_2,hx316_3⟩ := at_T45 HR2.out x8_1 p316 q316
              obtain rfl : ad315 = ad316 := (by injection e316)
              replace hx316_0 := (HB.out.cell (World.block_lt_of_cell? w _ hx316_0)).trans hx316_0
              replace hx316_1 := (HB.out.cell (World.block_lt_of_cell? w _ hx316_1)).trans hx316_1
              replace hx316_2 := (HB.out.cell (World.block_lt_of_cell? w _ hx316_2)).trans hx316_2
              replace hx316_3 := (HB.out.cell (World.block_lt_of_cell? w _ hx316_3)).trans hx316_3
              replace p316 := eq_true p316
              replace q316 := eq_true q316
              have p317 : 0 ≤ (x8_1 : Int) := of_decide_eq_true (by first | (with_reducible assumption) | assumption)
              have q317 : x8_1 < (l2.length : Int) := of_decide_eq_true (by first | (with_reducible assumption) | assumption)
              obtain ⟨ad317,e317,hx317_0,hx317_1,hx317_2,hx317_3⟩ := at_T45 HR2.out x8_1 p317 q317
              obtain rfl : ad315 = ad317 := (by injection e317)
              replace hx317_0 := (HB.out.cell (World.block_lt_of_cell? w _ hx317_0)).trans hx317_0
              replace hx317_1 := (HB.out.cell (World.block_lt_of_cell? w _ hx317_1)).trans hx317_1
              replace hx317_2 := (HB.out.cell (World.block_lt_of_cell? w _ hx317_2)).trans hx317_2
              replace hx317_3 := (HB.out.cell (World.block_lt_of_cell? w _ hx317_3)).trans hx317_3
              replace p317 := eq_true p317
              replace q317 := eq_true q317
              have hcz9_0 : wr.cell? ⟨gb314,0,none⟩ = some (.string x315000_1) := (blk_cell BK314.out 0).trans rfl
              have hcz9_1 : wr.cell? ⟨gb314,1,none⟩ = some (.string x315001_1) := (blk_cell BK314.out 1).trans rfl
              have hcz9_2 : wr.cell? ⟨gb314,2,none⟩ = some (.int .i64 x315002_1) := (blk_cell BK314.out 2).trans rfl
              have hcz9_3 : wr.cell? ⟨gb314,3,none⟩ = some (.int .i64 x315003_1) := (blk_cell BK314.out 3).trans rfl
              have hfz9_0 := blk_frozen BK314.out 0
              have hfz9_1 := blk_frozen BK314.out 1
              have hfz9_2 := blk_frozen BK314.out 2
              have hfz9_3 := blk_frozen BK314.out 3
              go_wp2
              refine bodyPost_ret (results_ct rfl _ _ gb314 45 #[.string ((rd_T45 l2 x8_1).f0),.string ((rd_T45 l2 x8_1).f1),.int .i64 ((rd_T45 l2 x8_1).f2),.int .i64 ((rd_T45 l2 x8_1).f3)] (0,0) _ rfl (by (with_reducible repeat (first | refine blk_drewN ?_ _ | refine blk_drew ?_ | refine blk_alloc ?_ _));refine blk_put (cs := #[.string ((rd_T45 l2 x8_1).f0),.string ((rd_T45 l2 x8_1).f1),.int .i64 ((rd_T45 l2 x8_1).f2),.int .i64 x315003_1]) ?_ 3 _ rfl;(with_reducible repeat (first | refine blk_drewN ?_ _ | refine blk_drew ?_ | refine blk_alloc ?_ _));refine blk_put (cs := #[.string ((rd_T45 l2 x8_1).f0),.string ((rd_T45 l2 x8_1).f1),.int .i64 x315002_1,.int .i64 x315003_1]) ?_ 2 _ rfl;(with_reducible repeat (first | refine blk_drewN ?_ _ | refine blk_drew ?_ | refine blk_alloc ?_ _));refine blk_put (cs := #[.string ((rd_T45 l2 x8_1).f0),.string x315001_1,.int .i64 x315002_1,.int .i64 x315003_1]) ?_ 1 _ rfl;(with_reducible repeat (first | refine blk_drewN ?_ _ | refine blk_drew ?_ | refine blk_alloc ?_ _));refine blk_put (cs := #[.string x315000_1,.string x315001_1,.int .i64 x315002_1,.int .i64 x315003_1]) ?_ 0 _ rfl;(with_reducible repeat (first | refine blk_drewN ?_ _ | refine blk_drew ?_ | refine blk_alloc ?_ _));exact BK314.out) Try.underlying45 rfl (by kernel_rfl)) rfl ?_
              exact ⟨by first | rfl | (simp [errW_none,errW_some] <;> rfl) | (simp [*,errW_none,errW_some] <;> rfl),by repeat (first | (with_reducible first | exact HB.out | apply below_alloc | apply pw_below_drewN | apply below_drew1 | refine below_set ?_ GE314.out) | exact HB.out)⟩
            · rw [if_neg c8] at H
              have c8b0 : (((rd_T45 l2 x8_1).f1).toList == a1.toList) = false := beq_eq_false_iff_ne.mpr c8
              have c8b1 : (((rd_T45 l2 x8_1).f1).toList != a1.toList) = true := bne_iff_ne.mpr c8
              have H' := Aside0.mk H
              clear H
              have p315 : 0 ≤ (x8_1 : Int) := of_decide_eq_true (by first | (with_reducible assumption) | assumption)
              have q315 : x8_1 < (l2.length : Int) := of_decide_eq_true (by first | (with_reducible assumption) | assumption)
              obtain ⟨ad315,e315,hx315_0,hx315_1,hx315_2,hx315_3⟩ := at_T45 HR2.out x8_1 p315 q315
              cases e315
              replace hx315_0 := (HB.out.cell (World.block_lt_of_cell? w _ hx315_0)).trans hx315_0
              replace hx315_1 := (HB.out.cell (World.block_lt_of_cell? w _ hx315_1)).trans hx315_1
              replace hx315_2 := (HB.out.cell (World.block_lt_of_cell? w _ hx315_2)).trans hx315_2
              replace hx315_3 := (HB.out.cell (World.block_lt_of_cell? w _ hx315_3)).trans hx315_3
              replace p315 := eq_true p315
              replace q315 := eq_true q315
              have p316 : 0 ≤ (x8_1 : Int) := of_decide_eq_true (by first | (with_reducible assumption) | assumption)
              have q316 : x8_1 < (l2.length : Int) := of_decide_eq_true (by first | (with_reducible assumption) | assumption)
              obtain ⟨ad316,e316,hx316_0,hx316_1,hx316_2,hx316_3⟩ := at_T45 HR2.out x8_1 p316 q316
              obtain rfl : ad315 = ad316 := (by injection e316)
              replace hx316_0 := (HB.out.cell (World.block_lt_of_cell? w _ hx316_0)).trans hx316_0
              replace hx316_1 := (HB.out.cell (World.block_lt_of_cell? w _ hx316_1)).trans hx316_1
              replace hx316_2 := (HB.out.cell (World.block_lt_of_cell? w _ hx316_2)).trans hx316_2
              replace hx316_3 := (HB.out.cell (World.block_lt_of_cell? w _ hx316_3)).trans hx316_3
              replace p316 := eq_true p316
              replace q316 := eq_true q316
              go_wp2
              go_roundg k1
              case measure => have := HK1.out;omega
              case rel => exact ⟨(wrap64 (x8_1 + 1)),(x315000_1),(x315001_1),(x315002_1),(x315003_1),(by first | rfl | (simp;done) | (simp [*];done)),H',⟨by have := HK1.out;omega⟩,⟨by (with_reducible repeat (first | refine blk_drewN ?_ _ | refine blk_drew ?_ | refine blk_alloc ?_ _));exact BK314.out⟩,⟨by repeat (first | (with_reducible first | exact HB.out | apply below_alloc | apply pw_below_drewN | apply below_drew1 | refine below_set ?_ GE314.out) | exact HB.out)⟩⟩
          · rw [if_neg c7] at H
            have c7b0 : (((rd_T45 l2 x8_1).f0).toList == a0.toList) = false := beq_eq_false_iff_ne.mpr c7
            have c7b1 : (((rd_T45 l2 x8_1).f0).toList != a0.toList) = true := bne_iff_ne.mpr c7
            have H' := Aside0.mk H
            clear H
            have p315 : 0 ≤ (x8_1 : Int) := of_decide_eq_true (by first | (with_reducible assumption) | assumption)
            have q315 : x8_1 < (l2.length : Int) := of_decide_eq_true (by first | (with_reducible assumption) | assumption)
            obtain ⟨ad315,e315,hx315_0,hx315_1,hx315_2,hx315_3⟩ := at_T45 HR2.out x8_1 p315 q315
            cases e315
            replace hx315_0 := (HB.out.cell (World.block_lt_of_cell? w _ hx315_0)).trans hx315_0
            replace hx315_1 := (HB.out.cell (World.block_lt_of_cell? w _ hx315_1)).trans hx315_1
            replace hx315_2 := (HB.out.cell (World.block_lt_of_cell? w _ hx315_2)).trans hx315_2
            replace hx315_3 := (HB.out.cell (World.block_lt_of_cell? w _ hx315_3)).trans hx315_3
            replace p315 := eq_true p315
            replace q315 := eq_true q315
            go_wp2
            go_roundg k1
            case measure => have := HK1.out;omega
            case rel => exact ⟨(wrap64 (x8_1 + 1)),(x315000_1),(x315001_1),(x315002_1),(x315003_1),(by first | rfl | (simp;done) | (simp [*];done)),H',⟨by have := HK1.out;omega⟩,⟨by (with_reducible repeat (first | refine blk_drewN ?_ _ | refine blk_drew ?_ | refine blk_alloc ?_ _));exact BK314.out⟩,⟨by repeat (first | (with_reducible first | exact HB.out | apply below_alloc | apply pw_below_drewN | apply below_drew1 | refine below_set ?_ GE314.out) | exact HB.out)⟩⟩
        · rw [if_neg c6] at H
          exact absurd H (by simp)
      · rw [if_neg c5] at H
        have c5b0 : decide (x8_1 < (l2.length : Int)) = false := decide_eq_false c5
        clear c5
        simp only [Option.some.injEq,Prod.mk.injEq] at H
        obtain ⟨rfl,rfl,rfl,rfl,rfl⟩ := H
        have hcz10_0 : wr.cell? ⟨gb314,0,none⟩ = some (.string x315000_1) := (blk_cell BK314.out 0).trans rfl
        have hcz10_1 : wr.cell? ⟨gb314,1,none⟩ = some (.string x315001_1) := (blk_cell BK314.out 1).trans rfl
        have hcz10_2 : wr.cell? ⟨gb314,2,none⟩ = some (.int .i64 x315002_1) := (blk_cell BK314.out 2).trans rfl
        have hcz10_3 : wr.cell? ⟨gb314,3,none⟩ = some (.int .i64 x315003_1) := (blk_cell BK314.out 3).trans rfl
        have hfz10_0 := blk_frozen BK314.out 0
        have hfz10_1 := blk_frozen BK314.out 1
        have hfz10_2 := blk_frozen BK314.out 2
        have hfz10_3 := blk_frozen BK314.out 3
        go_wp2
        refine bodyPost_ret (results_ct rfl _ _ gb314 45 #[.string (⟨#[]⟩ : ByteArray),.string (⟨#[]⟩ : ByteArray),.int .i64 0,.int .i64 0] (0,0) _ rfl (by (with_reducible repeat (first | refine blk_drewN ?_ _ | refine blk_drew ?_ | refine blk_alloc ?_ _));refine blk_put (cs := #[.string (⟨#[]⟩ : ByteArray),.string (⟨#[]⟩ : ByteArray),.int .i64 0,.int .i64 x315003_1]) ?_ 3 _ rfl;(with_reducible repeat (first | refine blk_drewN ?_ _ | refine blk_drew ?_ | refine blk_alloc ?_ _));refine blk_put (cs := #[.string (⟨#[]⟩ : ByteArray),.string (⟨#[]⟩ : ByteArray),.int .i64 x315002_1,.int .i64 x315003_1]) ?_ 2 _ rfl;(with_reducible repeat (first | refine blk_drewN ?_ _ | refine blk_drew ?_ | refine blk_alloc ?_ _));refine blk_put (cs := #[.string (⟨#[]⟩ : ByteArray),.string x315001_1,.int .i64 x315002_1,.int .i64 x315003_1]) ?_ 1 _ rfl;(with_reducible repeat (first | refine blk_drewN ?_ _ | refine blk_drew ?_ | refine blk_alloc ?_ _));refine blk_put (cs := #[.string x315000_1,.string x315001_1,.int .i64 x315002_1,.int .i64 x315003_1]) ?_ 0 _ rfl;(with_reducible repeat (first | refine blk_drewN ?_ _ | refine blk_drew ?_ | refine blk_alloc ?_ _));exact BK314.out) Try.underlying45 rfl (by kernel_rfl)) rfl ?_
        exact ⟨by first | rfl | (simp [errW_none,errW_some] <;> rfl) | (simp [*,errW_none,errW_some] <;> rfl),by repeat (first | (with_reducible first | exact HB.out | apply below_alloc | apply pw_below_drewN | apply below_drew1 | refine below_set ?_ GE314.out) | exact HB.out)⟩
end Go.Proofs.Ytcenlehfbgnphaa.Z
end
section
namespace Go.Proofs.Ytcenlehfbgnphaa.Z
set_option linter.unusedVariables false
set_option linter.unusedSimpArgs false
open Go.RowKit Go.Proofs.YtcenlehfbgnphaaW.PrintWords Go.Proofs.YtcenlehfbgnphaaW.PrintLast Go.Proofs.YtcenlehfbgnphaaW.PrintMore
theorem ref_find_l0 (a b : ByteArray) (l : List Us) (hl : l.length ≤ 1000000) : ∀ d i k,l.length - i = d → i ≤ l.length → d + 1 < k → verdererref27_Find.l0 k a b l (i : Int) = some (useOf ((l.drop i).find? (hitB a b))) := by
  intro d
  induction d with
  | zero =>
    intro i k hd hi hk
    obtain ⟨k,rfl⟩ : ∃ m,k = m + 1 := ⟨k - 1,by omega⟩
    simp only [verdererref27_Find.l0]
    rw [if_neg (by omega),List.drop_eq_nil_of_le (by omega)]
    rfl
  | succ d ih =>
    intro i k hd hi hk
    obtain ⟨k,rfl⟩ : ∃ m,k = m + 1 := ⟨k - 1,by omega⟩
    have hlt : i < l.length := by omega
    have e1 : l.drop i = l[i] :: l.drop (i + 1) := List.drop_eq_getElem_cons hlt
    have hw : wrap64 ((i : Int) + 1) = ((i + 1 : Nat) : Int) := by unfold wrap64;omega
    have step := ih (i + 1) k (by omega) (by omega) (by omega)
    simp only [verdererref27_Find.l0]
    rw [if_pos (by omega),if_pos (by omega),rd_get l i hlt,hw,step,e1,List.find?_cons]
    generalize l[i] = x
    unfold hitB
    by_cases h1 : x.f0.toList = a.toList
    · rw [if_pos h1]
      by_cases h2 : x.f1.toList = b.toList
      · rw [if_pos h2,h1,h2]
        simp [useOf]
      · rw [if_neg h2,beq_eq_false_iff_ne.2 h2]
        simp
    · rw [if_neg h1,beq_eq_false_iff_ne.2 h1]
      simp
theorem ref_find27 (a b : ByteArray) (l : List Us) (hl : l.length ≤ 1000000) : verdererref27_Find.f (l.length + 2) a b l = some (useOf (l.find? (hitB a b))) :=
  ref_find_l0 a b l hl l.length 0 (l.length + 2) (by omega) (Nat.zero_le _) (by omega)
set_option maxHeartbeats 8000000 in
set_option maxRecDepth 100000 in
theorem usage_finds (a0 a1 : ByteArray) (A : Option Addr) (c : Nat) (l : List Us) (w : World) (hr : Kd.C kUs w A l.length l) (hc : l.length ≤ c) :
    Calls Try.prog 13 #[.string a0,.string a1,.slice A l.length c] w fun e w' => e = .returned (.bool true) ∧ Below w.heap.size w w' := by
  have hu := Try.underlying45
  have HC := Aside0.mk hr
  have HK := Aside0.mk hc
  by_cases hl : l.length ≤ 200
  · have k0 : decide ((200 : Int) < (l.length : Int)) = false := decide_eq_false (by omega)
    obtain ⟨⟨u0,u1,u2,u3,u4⟩,hu5⟩ : ∃ u,useOf (l.find? (hitB a0 a1)) = u := ⟨_,rfl⟩
    have F1 := Aside0.mk (show usage_Find.f a0 a1 l = some (u0,u1,u2,u3,u4) by unfold usage_Find.f;rw [if_pos (by omega),hu5])
    have F2 := Aside0.mk (show verdererref27_Find.f (l.length + 2) a0 a1 l = some (u0,u1,u2,u3,u4) by rw [ref_find27 a0 a1 l (by omega),hu5])
    have C1 := Aside0.mk (usage_Find.calls a0 a1 A c l u0 u1 u2 u3 u4 w hr hc F1.out)
    obtain ⟨n,hn⟩ : ∃ n,l.length = n := ⟨_,rfl⟩
    have HL := Aside0.mk hn
    rw [hn] at C1 k0 ⊢
    clear hu5 hl hr hc hn
    go_enter Try.func13,Try.ntmps13
    go_wp2_with (fail)
    refine C1.out.mono ?_
    rintro e w1 ⟨rfl,hb1⟩
    have hbx : Below w1.heap.size w1 (w1.alloc (.cells #[.string u0,.string u1,.int .i64 u2,.int .i64 u3] 45)) := below_alloc (Below.refl _ _) _
    have N2 := Aside0.mk ((NextW.mk hb1 hb1.size).next hbx)
    have BX := Aside0.mk (blk_new w1 (.cells #[.string u0,.string u1,.int .i64 u2,.int .i64 u3] 45))
    have CC := Aside0.mk (Kd.C_below (Kd.C_below HC.out hb1) hbx)
    obtain ⟨gx,hgx⟩ : ∃ gx,w1.heap.size = gx := ⟨_,rfl⟩
    clear hb1 hbx
    go_wp2_with (fail)
    rw [hgx] at BX
    clear hgx
    generalize w1.alloc (.cells #[.string u0,.string u1,.int .i64 u2,.int .i64 u3] 45) = w2 at *
    have C2 := Aside0.mk (verdererref27_Find.calls (l.length + 2) a0 a1 A c l u0 u1 u2 u3 u4 w2 CC.out HK.out F2.out)
    rw [HL.out] at C2
    refine C2.out.mono ?_
    rintro e w3 ⟨rfl,hb3⟩
    have hbx : Below w3.heap.size w3 (w3.alloc (.cells #[.string u0,.string u1,.int .i64 u2,.int .i64 u3] 45)) := below_alloc (Below.refl _ _) _
    have N3 := Aside0.mk ((N2.out.next hb3).next hbx)
    have BX3 := Aside0.mk ((hbx.block gx (Nat.lt_of_lt_of_le (blk_lt BX.out) hb3.size)).trans ((hb3.block gx (blk_lt BX.out)).trans BX.out))
    have BY3 := Aside0.mk (blk_new w3 (.cells #[.string u0,.string u1,.int .i64 u2,.int .i64 u3] 45))
    have x0 := (blk_cell BX3.out 0).trans rfl
    have x1 := (blk_cell BX3.out 1).trans rfl
    have x2 := (blk_cell BX3.out 2).trans rfl
    have x3 := (blk_cell BX3.out 3).trans rfl
    have y0 := (blk_cell BY3.out 0).trans rfl
    have y1 := (blk_cell BY3.out 1).trans rfl
    have y2 := (blk_cell BY3.out 2).trans rfl
    have y3 := (blk_cell BY3.out 3).trans rfl
    have z0 : (ByteArray.toList u0 == ByteArray.toList u0) = true := beq_self_eq_true _
    have z1 : (ByteArray.toList u1 == ByteArray.toList u1) = true := beq_self_eq_true _
    have z2 : (u2 == u2) = true := beq_self_eq_true _
    have z3 : (u3 == u3) = true := beq_self_eq_true _
    have z4 : (u4 == u4) = true := beq_self_eq_true _
    clear hb3 hbx BX
    go_wp2_with (fail)
    refine (known27 _).mono ?_
    rintro e w4 ⟨rfl,hb⟩
    have N4 := Aside0.mk (N3.out.next hb)
    clear hb
    go_wp2_with (fail)
    go_ret
    exact ⟨rfl,N4.out.below⟩
  · have k0 : decide ((200 : Int) < (l.length : Int)) = true := decide_eq_true (by omega)
    clear hr hc hl
    go_enter Try.func13,Try.ntmps13
    go_wp2_with (fail)
    refine (known27 w).mono ?_
    rintro e w1 ⟨rfl,hb⟩
    have HB := Aside0.mk hb
    clear hb
    go_wp2_with (fail)
    go_ret
    exact ⟨rfl,HB.out⟩
def verdererlaw27_UsageFinds.f (a0 : ByteArray) (a1 : ByteArray) (l2 : List (S45)) : Option (Bool) := some true
theorem verdererlaw27_UsageFinds.calls (a0 : ByteArray) (a1 : ByteArray) (A2 : Option Addr) (c2 : Nat) (l2 : List (S45)) (r : Bool) (w : World) (hr2 : Kd.C k45 w A2 l2.length l2) (hc2 : l2.length ≤ c2) (h : verdererlaw27_UsageFinds.f a0 a1 l2 = some r) :
    Calls Try.prog 13 #[.string a0,.string a1,.slice A2 l2.length c2] w fun e w' => e = .returned (.bool r) ∧ Below w.heap.size w w' := by
  obtain rfl : true = r := Option.some.inj h
  exact usage_finds a0 a1 A2 c2 l2 w hr2 hc2
end Go.Proofs.Ytcenlehfbgnphaa.Z
end
section
namespace Go.Proofs.YtcenlehfbgnphaaW.PrintWords
open Go.RowKit Go.ChangeShapes Go.WideShapes
section
variable {P : Program} {α β : Type}
def OfTrod (P : Program) (t : TypeId) (d : Kd α) (G : α → Prop) : Prop :=
  ∀ (H : Type) (enc : TypeId × Value → H) (w : World) (base : Nat) (spare : Nat → Bool) (held : Bool) (fuel : Nat) (cs : List Value) (x : DataW H × List MemPlace),DataW.trod enc P w base spare held fuel t cs = some x → ∃ s,d.K w s cs ∧ G s
theorem ofTrod_int {t : TypeId} {k : IntKind} (ht : P.underlying t = some (.int k)) : OfTrod P t (Kd.int k) (fun n => (Lit.int k n).wf = true) := by
  intro H enc w base spare held fuel cs x h
  obtain ⟨n,rfl,_,hw⟩ := DataW.trod_int ht h
  exact ⟨n,rfl,hw⟩
theorem ofTrod_string {t : TypeId} (ht : P.underlying t = some .string) : OfTrod P t Kd.string (fun s => s.size ≤ maxLen) := by
  intro H enc w base spare held fuel cs x h
  obtain ⟨s,rfl,_,hs⟩ := DataW.trod_string ht h
  exact ⟨s,rfl,hs⟩
theorem list_of_all {n : Nat} {Q : Nat → α → Prop} (h : ∀ i,i < n → ∃ x,Q i x) : ∃ xs : List α,xs.length = n ∧ ∀ i x,xs[i]? = some x → Q i x := by
  induction n with
  | zero => exact ⟨[],rfl,fun i x hx => by simp at hx⟩
  | succ n ih =>
    obtain ⟨xs,hl,hx⟩ := ih (fun i hi => h i (by omega))
    obtain ⟨y,hy⟩ := h n (by omega)
    refine ⟨xs ++ [y],by simp [hl],fun i x hi => ?_⟩
    rcases Nat.lt_trichotomy i xs.length with hlt | rfl | hgt
    · rw [List.getElem?_append_left hlt] at hi
      exact hx i x hi
    · rw [List.getElem?_append_right (Nat.le_refl _)] at hi
      simp at hi
      subst hi
      rw [hl]
      exact hy
    · rw [List.getElem?_append_right (by omega),List.getElem?_eq_none (by simp;omega)] at hi
      cases hi
theorem ofTrod_slice {t e : TypeId} {d : Kd α} {G : α → Prop} (ht : P.underlying t = some (.slice e)) (hc : P.cellsOf e = d.sz) (h : OfTrod P e d G) :
    OfTrod P t (Kd.slice e d) (fun l => l.length ≤ maxLen ∧ ∀ x ∈ l,G x) := by
  intro H enc w base spare held fuel cs x hx
  rcases Go.Deep.open_slice ht hx with ⟨rfl,_⟩ | ⟨a,len,cap,m,n,D,Pl,rfl,_,hl,hm,hmm,_,hel⟩
  · exact ⟨[],⟨none,0,rfl,Nat.le_refl _,Kd.C_nil d w⟩,by simp,fun x hx => by simp at hx⟩
  · have hlm : len ≤ m := by rw [hmm];split <;> omega
    obtain ⟨xs,hxl,hxs⟩ := list_of_all (n := len) (Q := fun i s => ∃ cs',w.cells? base (a.add (i * P.cellsOf e)) (P.cellsOf e) = some cs' ∧ d.K w s cs' ∧ G s) (fun i hi => by
      obtain ⟨cs',h1,h2⟩ := hel i (by omega)
      obtain ⟨s,h3,h4⟩ := h _ _ _ _ _ _ _ _ _ h2
      exact ⟨s,cs',h1,h3,h4⟩)
    refine ⟨xs,⟨some a,cap,by rw [hxl],by omega,rfl,by rw [hxl];unfold maxLen at hm;omega,fun _ => ⟨a,rfl,fun j p hp => ?_⟩⟩,by omega,fun x hx => ?_⟩
    · obtain ⟨cs',h1,h2,_⟩ := hxs j p hp
      obtain ⟨_,hcl,hcell⟩ := World.cells?_some h1
      refine ⟨cs',by rw [hcl,hc],h2,fun i u hu => ?_⟩
      have hi : i < P.cellsOf e := by
        rw [← hcl]
        exact (List.getElem?_eq_some_iff.1 hu).1
      have := hcell i hi
      rw [Go.Deep.add_add,hc] at this
      rw [this]
      exact hu
    · obtain ⟨i,hi,rfl⟩ := List.getElem_of_mem hx
      obtain ⟨_,_,_,h4⟩ := hxs i xs[i] (List.getElem?_eq_getElem hi)
      exact h4
def segOff (segs : List (TypeId × Nat)) (i : Nat) : Nat := ((segs.take i).map (·.2)).sum
def OfSegs (P : Program) (segs : List (TypeId × Nat)) (d : Kd α) (G : α → Prop) : Prop :=
  ∀ (H : Type) (enc : TypeId × Value → H) (w : World) (base : Nat) (spare : Nat → Bool) (held : Bool) (fuel : Nat) (cs : List Value),cs.length = segOff segs segs.length →
    (∀ i t c,segs[i]? = some (t,c) → ∃ x,DataW.trod enc P w base spare held fuel t ((cs.drop (segOff segs i)).take c) = some x) → ∃ s,d.K w s cs ∧ G s
theorem ofSegs_one {t : TypeId} {c : Nat} {d : Kd α} {G : α → Prop} (h : OfTrod P t d G) : OfSegs P [(t,c)] d G := by
  intro H enc w base spare held fuel cs hl hx
  obtain ⟨x,h1⟩ := hx 0 t c rfl
  have hl2 : cs.length = c := by simpa [segOff] using hl
  have e : ((cs.drop (segOff [(t,c)] 0)).take c) = cs := by simp [segOff,← hl2]
  rw [e] at h1
  exact h _ _ _ _ _ _ _ _ _ h1
theorem ofSegs_cons {t : TypeId} {c : Nat} {ts : List (TypeId × Nat)} {d : Kd α} {d' : Kd β} {G : α → Prop} {G' : β → Prop} (h : OfTrod P t d G) (h' : OfSegs P ts d' G') : OfSegs P ((t,c) :: ts) (Kd.pair d d') (fun x => G x.1 ∧ G' x.2) := by
  intro H enc w base spare held fuel cs hl hx
  obtain ⟨x,h1⟩ := hx 0 t c rfl
  have e : ((cs.drop (segOff ((t,c) :: ts) 0)).take c) = cs.take c := by simp [segOff]
  rw [e] at h1
  obtain ⟨s,h2,h3⟩ := h _ _ _ _ _ _ _ _ _ h1
  have hl' : (cs.drop c).length = segOff ts ts.length := by
    simp [segOff] at hl ⊢
    omega
  obtain ⟨s',h4,h5⟩ := h' H enc w base spare held fuel (cs.drop c) hl' (fun i t' c' hi => by
    obtain ⟨y,hy⟩ := hx (i + 1) t' c' (by simpa using hi)
    refine ⟨y,?_⟩
    have e2 : segOff ((t,c) :: ts) (i + 1) = c + segOff ts i := by simp [segOff]
    rw [e2] at hy
    rw [List.drop_drop]
    exact hy)
  exact ⟨(s,s'),⟨cs.take c,cs.drop c,(List.take_append_drop c cs).symm,h2,h4⟩,h3,h5⟩
theorem ofTrod_struct {t : TypeId} {fs : Array Field} {segs : List (TypeId × Nat)} {d : Kd α} {G : α → Prop} (ht : P.underlying t = some (.struct fs)) (hc : P.cellsOf t = segOff segs segs.length) (hn : fs.size = segs.length)
    (hfs : ∀ i (f : Field),fs[i]? = some f → segs[i]? = some (f.type,P.cellsOf f.type) ∧ f.offset = segOff segs i) (h : OfSegs P segs d G) : OfTrod P t d G := by
  intro H enc w base spare held fuel cs x hx
  obtain ⟨xs,n,_,_,hl,hxl,hf⟩ := DataW.trod_struct ht hx
  refine h H enc w base spare held n cs (by rw [hl,hc]) (fun i t' c' hi => ?_)
  have hlt : i < fs.size := by rw [hn];exact (List.getElem?_eq_some_iff.1 hi).1
  obtain ⟨h1,h2⟩ := hfs i fs[i] (Array.getElem?_eq_getElem hlt)
  rw [hi] at h1
  injection h1 with h1
  injection h1 with h1 h3
  have h4 := hf i fs[i] (Array.getElem?_eq_getElem hlt)
  rw [h2,← h3,← h1] at h4
  have hlt2 : i < xs.length := by omega
  rw [List.getElem?_eq_getElem hlt2] at h4
  exact ⟨_,h4⟩
theorem ofTrod_iso {t : TypeId} {d : Kd α} {G : α → Prop} (f : β → α) (g : α → β) (hg : ∀ a,f (g a) = a) (h : OfTrod P t d G) : OfTrod P t (Kd.iso d f) (fun x => G (f x)) := by
  intro H enc w base spare held fuel cs x hx
  obtain ⟨s,h1,h2⟩ := h _ _ _ _ _ _ _ _ _ hx
  exact ⟨g s,by show d.K w (f (g s)) cs;rw [hg];exact h1,by show G (f (g s));rw [hg];exact h2⟩
theorem cell_heap {w w' : World} (h : w.heap = w'.heap) (a : Addr) : w'.cell? a = w.cell? a := by unfold World.cell?;rw [h]
end
end Go.Proofs.YtcenlehfbgnphaaW.PrintWords
end
section
namespace Go.Proofs.Ytcenlehfbgnphaa.Z
open Go.RowKit Go.Proofs.YtcenlehfbgnphaaW.PrintWords Go.Proofs.YtcenlehfbgnphaaW.PrintLast Go.Proofs.YtcenlehfbgnphaaW.PrintMore
set_option maxRecDepth 100000
def G45 (x : S45) : Prop := (x.f0.size ≤ maxLen) ∧ (x.f1.size ≤ maxLen) ∧ ((Lit.int .i64 x.f2).wf = true) ∧ ((Lit.int .i64 x.f3).wf = true)
theorem of45 : OfTrod Try.prog 45 k45 G45 :=
  ofTrod_iso _ (fun a => (⟨a.1,a.2.1,a.2.2.1,a.2.2.2⟩ : S45)) (fun _ => rfl) (ofTrod_struct (segs := [(9,1),(9,1),(2,1),(2,1)]) Try.underlying45 (by kernel_rfl) rfl
    (by
      intro i f hf
      rcases i with _ | _ | _ | _ | i <;> simp at hf <;> subst hf <;> exact ⟨congrArg some (Prod.ext rfl (by kernel_rfl)),rfl⟩) (ofSegs_cons (ofTrod_string Try.underlying9) (ofSegs_cons (ofTrod_string Try.underlying9) (ofSegs_cons (ofTrod_int Try.underlying2) (ofSegs_one (ofTrod_int Try.underlying2))))))
end Go.Proofs.Ytcenlehfbgnphaa.Z
end
section
namespace Go.Proofs.Ytcenlehfbgnphaa.Z
open Go.RowKit Go.Proofs.YtcenlehfbgnphaaW.PrintWords Go.Proofs.YtcenlehfbgnphaaW.PrintLast Go.Proofs.YtcenlehfbgnphaaW.PrintMore
theorem usageFinds_pure : ∀ (a0 : ByteArray) (a1 : ByteArray) (l2 : (List S45)),a0.size ≤ maxLen → a1.size ≤ maxLen → (l2.length ≤ maxLen ∧ ∀ x ∈ l2,G45 x) → verdererlaw27_UsageFinds.f a0 a1 l2 = some true := fun _ _ _ _ _ _ => rfl
end Go.Proofs.Ytcenlehfbgnphaa.Z
end
namespace Go.Proofs.Ytcenlehfbgnphaa.usageFinds
open Go.ChangeShapes Go.WideShapes Go.ChangeAt Go.RowKit Go.Proofs.YtcenlehfbgnphaaW.PrintWords
open Go.ChangeMaps (open_string shut_string)
set_option linter.unusedVariables false
theorem own : ownKnob Try.prog.godebug = none := by kernel_rfl
theorem laidOut : laidOutB Try.prog = true := by kernel_rfl
set_option maxRecDepth 100000 in
theorem lifted (os : Os) (started : os.Started) (H : Type) (enc : TypeId × Value → H) :
    ReturnsInHanded {} Try.checked os 13 .any (Rows.usageFindsSpec.pre6 enc Try.prog Try.f13 Rows.usageFindsRow.domain false) (Rows.usageFindsSpec.post enc Try.prog Try.f13 false true false false) := by
  refine returnsInHanded_of_change (C := Try.checked) own started (by kernel_rfl) Try.func13
    (ChangeSpec.witness6 (enc := enc) (C := Try.checked) false ⟨#[],#[.string ByteArray.empty,.string ByteArray.empty,.slice none 0 0],[]⟩ 8 (by kernel_rfl) (by kernel_rfl) (by kernel_rfl) (by kernel_rfl)) ?_
  intro W base args ds gs before hval0 hW hcnd _
  have hval : ∀ (j : Nat) t v,Try.f13.params[j]? = some t → args[j]? = some v → Value.okWide Try.prog W .any base t v := hval0
  have hW' := hW
  obtain ⟨p,q,hA0,hV,rfl,hfz,hnd⟩ := hW
  have hA : DataW.TrodAll enc Try.prog W 0 (fun _ => true) true Try.f13.params.toList args.toList ds p := hA0
  rw [Try.params13] at hA hval
  obtain ⟨v0,vs0,d0,ds0,p0,q0,hargs,rfl,rfl,h0,r0⟩ := trodAll_cons hA
  obtain ⟨v1,vs1,d1,ds1,p1,q1,rfl,rfl,rfl,h1,r1⟩ := trodAll_cons r0
  obtain ⟨v2,vs2,d2,ds2,p2,q2,rfl,rfl,rfl,h2,r2⟩ := trodAll_cons r1
  obtain ⟨rfl,rfl,rfl⟩ := trodAll_nil r2
  obtain rfl : args = #[v0,v1,v2] := by cases args;simp_all
  obtain ⟨rfl,rfl⟩ := trodVars_none hV
  obtain ⟨a0,rfl,rfl,rfl,y0⟩ := open_string Try.underlying9 (hval 0 9 v0 rfl rfl) h0
  obtain ⟨a1,rfl,rfl,rfl,y1⟩ := open_string Try.underlying9 (hval 1 9 v1 rfl rfl) h1
  obtain ⟨a2,len2,cap2,rfl⟩ := okWide_slice Try.underlying53 (hval 2 53 v2 rfl rfl)
  have k2 := h2
  have lt2 : ∀ x ∈ p2,x.block < W.heap.size := by obtain ⟨m,hm⟩ := k2;exact DataW.trod_lt m _ _ _ hm
  obtain ⟨l2,hK2,hG2⟩ : ∃ l,((Kd.slice 45 Z.k45) : Kd (List Z.S45)).K W l [.slice a2 len2 cap2] ∧ (l.length ≤ maxLen ∧ ∀ x ∈ l,Z.G45 x) := by obtain ⟨fuel,hf⟩ := h2;exact (show OfTrod Try.prog 53 (Kd.slice 45 Z.k45) _ from (ofTrod_slice Try.underlying53 (by kernel_rfl) Z.of45)) _ _ _ _ _ _ _ _ _ hf
  obtain ⟨A2,c2,he2,hl2,hC2⟩ := hK2
  simp only [List.cons.injEq,Value.slice.injEq,and_true] at he2
  obtain ⟨rfl,rfl,rfl⟩ := he2
  clear hA0 hval0
  have h := Z.usageFinds_pure a0 a1 l2 y0 y1 hG2
  refine (Z.verdererlaw27_UsageFinds.calls a0 a1 _ _ l2 true W hC2 hl2 h).mono fun e W' ⟨he,bel⟩ => ?_
  subst he
  exact ⟨_,rfl,_,_,_,[],_,[],hW',trodAll_mk1 (shut_bool Try.underlying4 _),(trodAll_cons_mk (shut_string Try.underlying9 y0) (trodAll_cons_mk (shut_string Try.underlying9 y1) (trodAll_cons_mk (Below.trod laidOut (by kernel_rfl) (of_decide_eq_true (by kernel_rfl)) k2 bel lt2) trodAll_mk0))),rfl,bel.frame _,fun h => by cases h⟩
theorem over : Rows.usageFindsRow.holds Try.pinned (OpenSpec.ofChange Rows.usageFindsSpec) :=
  OpenClaim.holds_of_wide 13 Try.f13 rfl rfl rfl rfl rfl rfl rfl ⟨rfl,rfl,rfl,rfl,rfl⟩ rfl rfl rfl rfl rfl (by kernel_rfl) Try.func13 (by kernel_rfl)
    (of_decide_eq_true (by kernel_rfl)) (by unfold Func.isWrapper;first | (rw [if_pos (by decide +kernel)];kernel_rfl) | (rw [if_neg (by decide +kernel)];exact ⟨rfl,rfl⟩))
    (fun os started H enc _ => lifted os started H enc)
theorem proved : Rows.UsageFindsSaid := over
#print axioms proved
end Go.Proofs.Ytcenlehfbgnphaa.usageFinds
namespace Go.Proofs.Ytcenlehfbgnphaa
theorem usageFinds_holds : Rows.UsageFindsSaid := usageFinds.proved
end Go.Proofs.Ytcenlehfbgnphaa
