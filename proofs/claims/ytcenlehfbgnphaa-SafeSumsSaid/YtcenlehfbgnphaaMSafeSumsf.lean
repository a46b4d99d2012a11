/- Parts of the proof of SafeSums: what its functions answer. -/
import Derived.Test.YtcenlehfbgnphaaMSafeSumsa
import Derived.Test.YtcenlehfbgnphaaMSafeSumsb
import Derived.Test.YtcenlehfbgnphaaMSafeSumsc
import Derived.Test.YtcenlehfbgnphaaMSafeSumsd
import Derived.Test.YtcenlehfbgnphaaMSafeSumse
section
namespace Go.Proofs.Ytcenlehfbgnphaa.Z
open Go.RowKit Go.Proofs.YtcenlehfbgnphaaW.PrintWords Go.Proofs.YtcenlehfbgnphaaW.PrintLast Go.Proofs.YtcenlehfbgnphaaW.PrintMore
attribute [local go_sem] max2_int min2_int max_two min_two max_three min_three max_four min_four
set_option linter.unusedVariables false
set_option linter.unusedSimpArgs false
mutual
def verdererref03_Big_Value.l0 : Nat → Int → Int → Bool → List Int → Option (Int × Int)
  | 0,_,_,_,_ => none
  | k + 1,x4,x5,x132000,x132001 => if x5 ≥ 0 then (if x5 > 3 then ((verdererref03_Big_at.f x132000 x132001 x5).bind fun t132 => (verdererref03_Big_Value.j1 k x4 x5 (decide (t132 > 0)) x132000 x132001)) else (verdererref03_Big_Value.j1 k x4 x5 false x132000 x132001)) else (if x132000 = true then (verdererref03_Big_Value.j2 k x4 (decide (x4 ≤ 9223372036854775808)) x132000 x132001) else (verdererref03_Big_Value.j2 k x4 false x132000 x132001))
def verdererref03_Big_Value.j1 : Nat → Int → Int → Bool → Bool → List Int → Option (Int × Int)
  | 0,_,_,_,_,_ => none
  | k + 1,x4,x5,x17,x132000,x132001 => if x17 = true then (some (0,10)) else (if x5 ≤ 3 then ((verdererref03_Big_at.f x132000 x132001 x5).bind fun t133 => (verdererref03_Big_Value.l0 k (IntKind.u64.wrap ((IntKind.u64.wrap (x4 * 65536)) + t133)) (wrap64 (x5 - 1)) x132000 x132001)) else (verdererref03_Big_Value.l0 k x4 (wrap64 (x5 - 1)) x132000 x132001))
def verdererref03_Big_Value.j2 : Nat → Int → Bool → Bool → List Int → Option (Int × Int)
  | 0,_,_,_,_ => none
  | k + 1,x4,x31,x132000,x132001 => if x31 = true then (some (wrap64 (IntKind.u64.wrap (-x4)),0)) else (if x132000 = true then (some (0,10)) else (if x4 < 9223372036854775808 then (some (wrap64 (x4),0)) else (some (0,10))))
end
def verdererref03_Big_Value.f (k : Nat) (a0_0 : Bool) (l0_1 : List Int) : Option (Int × Int) := verdererref03_Big_Value.l0 k 0 19 a0_0 l0_1
theorem verdererref03_Big_Value.mono_l : ∀ k,(∀ y0 y1 y2 y3,LeO (verdererref03_Big_Value.l0 k y0 y1 y2 y3) (verdererref03_Big_Value.l0 (k + 1) y0 y1 y2 y3)) ∧ (∀ y0 y1 y2 y3 y4,LeO (verdererref03_Big_Value.j1 k y0 y1 y2 y3 y4) (verdererref03_Big_Value.j1 (k + 1) y0 y1 y2 y3 y4)) ∧ (∀ y0 y1 y2 y3,LeO (verdererref03_Big_Value.j2 k y0 y1 y2 y3) (verdererref03_Big_Value.j2 (k + 1) y0 y1 y2 y3))
  | 0 => ⟨fun _ _ _ _ r h => by simp [verdererref03_Big_Value.l0] at h,fun _ _ _ _ _ r h => by simp [verdererref03_Big_Value.j1] at h,fun _ _ _ _ r h => by simp [verdererref03_Big_Value.j2] at h⟩
  | k + 1 => by
    obtain ⟨ih0,ih1,ih2⟩ := verdererref03_Big_Value.mono_l k
    refine ⟨?_,?_,?_⟩
    · intro y0 y1 y2 y3
      unfold verdererref03_Big_Value.l0
      repeat' first
      | (with_reducible exact ih0 _ _ _ _)
      | (with_reducible exact ih1 _ _ _ _ _)
      | (with_reducible exact ih2 _ _ _ _)
      | (with_reducible exact LeO.refl _)
      | (with_reducible exact LeO.none _)
      | (with_reducible refine LeO.ite ?_ ?_)
      | (with_reducible refine LeO.bind ?_ (fun _ => ?_))
      | exact ih0 _ _ _ _
      | exact ih1 _ _ _ _ _
      | exact ih2 _ _ _ _
      | exact LeO.none _
      | refine LeO.ite ?_ ?_
      | refine LeO.bind ?_ (fun _ => ?_)
    · intro y0 y1 y2 y3 y4
      unfold verdererref03_Big_Value.j1
      repeat' first
      | (with_reducible exact ih0 _ _ _ _)
      | (with_reducible exact ih1 _ _ _ _ _)
      | (with_reducible exact ih2 _ _ _ _)
      | (with_reducible exact LeO.refl _)
      | (with_reducible exact LeO.none _)
      | (with_reducible refine LeO.ite ?_ ?_)
      | (with_reducible refine LeO.bind ?_ (fun _ => ?_))
      | exact ih0 _ _ _ _
      | exact ih1 _ _ _ _ _
      | exact ih2 _ _ _ _
      | exact LeO.none _
      | refine LeO.ite ?_ ?_
      | refine LeO.bind ?_ (fun _ => ?_)
    · intro y0 y1 y2 y3
      unfold verdererref03_Big_Value.j2
      repeat' first
      | (with_reducible exact ih0 _ _ _ _)
      | (with_reducible exact ih1 _ _ _ _ _)
      | (with_reducible exact ih2 _ _ _ _)
      | (with_reducible exact LeO.refl _)
      | (with_reducible exact LeO.none _)
      | (with_reducible refine LeO.ite ?_ ?_)
      | (with_reducible refine LeO.bind ?_ (fun _ => ?_))
      | exact ih0 _ _ _ _
      | exact ih1 _ _ _ _ _
      | exact ih2 _ _ _ _
      | exact LeO.none _
      | refine LeO.ite ?_ ?_
      | refine LeO.bind ?_ (fun _ => ?_)
theorem verdererref03_Big_Value.mono : ∀ a0 a1 k,LeO (verdererref03_Big_Value.f k a0 a1) (verdererref03_Big_Value.f (k + 1) a0 a1) := by
  intro a0 a1 k
  obtain ⟨ih0,ih1,ih2⟩ := verdererref03_Big_Value.mono_l k
  unfold verdererref03_Big_Value.f
  repeat' first
      | (with_reducible exact ih0 _ _ _ _)
      | (with_reducible exact ih1 _ _ _ _ _)
      | (with_reducible exact ih2 _ _ _ _)
      | (with_reducible exact LeO.refl _)
      | (with_reducible exact LeO.none _)
      | (with_reducible refine LeO.ite ?_ ?_)
      | (with_reducible refine LeO.bind ?_ (fun _ => ?_))
      | exact ih0 _ _ _ _
      | exact ih1 _ _ _ _ _
      | exact ih2 _ _ _ _
      | exact LeO.none _
      | refine LeO.ite ?_ ?_
      | refine LeO.bind ?_ (fun _ => ?_)
set_option maxHeartbeats 8000000 in
set_option maxRecDepth 100000 in
theorem verdererref03_Big_Value.calls (k : Nat) (a0_0 : Bool) (A0_1 : Option Addr) (c0_1 : Nat) (l0_1 : List Int) (r1 : Int) (r2 : Int) (w : World) (hr0_1 : Kd.C (Kd.int .u64) w A0_1 l0_1.length l0_1) (hc0_1 : l0_1.length ≤ c0_1) (h : verdererref03_Big_Value.f k a0_0 l0_1 = some (r1,r2)) :
    Calls Try.prog 19 #[.agg #[.bool a0_0,.slice A0_1 l0_1.length c0_1]] w fun e w' => e = .returned (.tuple #[.int .i64 r1,.int .i64 r2]) ∧ Below w.heap.size w w' := by
  have hu29 := Try.underlying29
  have HR0_1 := Aside0.mk hr0_1
  have HC0_1 := Aside0.mk hc0_1
  clear hr0_1 hc0_1
  have HB := Aside0.mk (Below.refl w.heap.size w)
  have H : (verdererref03_Big_Value.l0 k 0 19 a0_0 l0_1) = some (r1,r2) := h
  clear h
  have H' := Aside0.mk H
  clear H
  go_enter Try.func19,Try.ntmps19
  go_wp2_with (first | ((with_reducible refine gate_dst (N := 1) rfl ?_);refine box_event ?hg (N := 1) ?hd (cs := #[.bool a0_0,.slice A0_1 l0_1.length c0_1]) (t := 29) ?hr ?_;(case hd => rfl);(case hg => rfl);(case hr => first | (go_simp;done) | (go_simp;rfl));intro gb131 hg w2 hbox hb;have n0_ := Aside0.mk (below_step (by repeat (first | (with_reducible first | exact HB.out | apply below_alloc | apply pw_below_drewN | apply below_drew1) | exact HB.out)) hb);have n1_ := Aside0.mk (hbox);have n2_ := Aside0.mk ((by rw [hg];exact (below_size (by repeat (first | (with_reducible first | exact HB.out | apply below_alloc | apply pw_below_drewN | apply below_drew1) | exact HB.out))) : w.heap.size ≤ gb131));have n3_ := Aside0.mk ((by rw [hg];exact (below_size (by repeat (first | (with_reducible first | exact HB.out | apply below_alloc | apply pw_below_drewN | apply below_drew1) | exact HB.out))) : w.heap.size ≤ gb131));clear HB;have HB := n0_;have BK131 := n1_;have GW131 := n2_;have GE131 := n3_;clear n0_ n1_ n2_ n3_;clear hb hbox hg))
  go_loopg [4,5] k (fun kq v4 v5 w' => ∃ (x4_1 : Int) (x5_1 : Int),v4 = .int .u64 x4_1 ∧ v5 = .int .i64 x5_1 ∧ Aside0 (verdererref03_Big_Value.l0 kq x4_1 x5_1 a0_0 l0_1 = some (r1,r2)) ∧ Aside0 (kq ≤ k) ∧ Aside0 (w'.heap[gb131]? = some (.cells #[.bool a0_0,(.slice A0_1 l0_1.length c0_1)] 29 (0,0))) ∧ Aside0 (Below w.heap.size w w'))
  case atStart => exact ⟨(0),(19),(by first | rfl | (simp;done) | (simp [*];done)),(by first | rfl | (simp;done) | (simp [*];done)),H',⟨Nat.le_refl _⟩,⟨by (with_reducible repeat (first | refine blk_drewN ?_ _ | refine blk_drew ?_ | refine blk_alloc ?_ _));exact BK131.out⟩,⟨by repeat (first | (with_reducible first | exact HB.out | apply below_alloc | apply pw_below_drewN | apply below_drew1 | refine below_set ?_ GE131.out) | exact HB.out)⟩⟩
  case round =>
    clear H'
    try clear c1
    try clear p2
    obtain ⟨x4_1,x5_1,rfl,rfl,HA,HK1,BK131,HB⟩ := hrel
    cases gk with
    | zero => exact absurd HA.out (by simp [verdererref03_Big_Value.l0])
    | succ k1 =>
      have H := HA.out
      clear HA
      simp only [verdererref03_Big_Value.l0] at H
      by_cases c3 : x5_1 ≥ 0
      · rw [if_pos c3] at H
        have c3b0 : decide (0 ≤ x5_1) = true := decide_eq_true c3
        clear c3
        have HC4 := Aside0.mk H
        clear H
        go_upto_region 5 with (fail)
        go_cut [17] (fun v17 wc => ∃ (kq : Nat) (x17_3 : Bool),v17 = .bool x17_3 ∧ Aside0 (verdererref03_Big_Value.j1 kq x4_1 x5_1 x17_3 a0_0 l0_1 = some (r1,r2)) ∧ Aside0 (kq ≤ k1) ∧ Aside0 (wc.heap[gb131]? = some (.cells #[.bool a0_0,(.slice A0_1 l0_1.length c0_1)] 29 (0,0))) ∧ Aside0 (Below w.heap.size w wc))
        case first =>
          have H := HC4.out
          clear HC4
          by_cases c5 : x5_1 > 3
          · rw [if_pos c5] at H
            have c5b0 : decide (3 < x5_1) = true := decide_eq_true c5
            clear c5
            (first | rw [c5b0] | (simp only [i64_w,i32_w];rw [c5b0]) | skip)
            replace H := Option.bind_eq_some_iff.mp H
            obtain ⟨t132,A60,H⟩ := H
            replace H : (verdererref03_Big_Value.j1 k1 x4_1 x5_1 (decide (t132 > 0)) a0_0 l0_1) = some (r1,r2) := H
            have A6 := Aside0.mk A60
            clear A60
            have H' := Aside0.mk H
            clear H
            have hcz7_0 : wr.cell? ⟨gb131,0,none⟩ = some (.bool a0_0) := (blk_cell BK131.out 0).trans rfl
            have hcz7_1 : wr.cell? ⟨gb131,1,none⟩ = some (.slice A0_1 l0_1.length c0_1) := (blk_cell BK131.out 1).trans rfl
            have hfz7_0 := blk_frozen BK131.out 0
            have hfz7_1 := blk_frozen BK131.out 1
            go_wp2_with (first | (go_at_call 60;(with_reducible refine (verdererref03_Big_at.calls a0_0 _ _ l0_1 x5_1 t132 _ ?side1 ?side2 A6.out).mono ?_);(case side1 => repeat (first | exact (Kd.C_below HR0_1.out HB.out) | (with_reducible refine Kd.C_alloc ?_ _) | (with_reducible refine Kd.C_drewN ?_ _) | (with_reducible refine Kd.C_drew ?_)));(case side2 => exact HC0_1.out);rintro e w8 ⟨rfl,hb⟩;have n0_ := Aside0.mk (blk_below (g := gb131) (o := .cells #[.bool a0_0,.slice A0_1 l0_1.length c0_1] 29 (0,0)) (by (with_reducible repeat (first | refine blk_drewN ?_ _ | refine blk_drew ?_ | refine blk_alloc ?_ _));exact BK131.out) hb);have n1_ := Aside0.mk (below_step (by repeat (first | (with_reducible first | exact HB.out | apply below_alloc | apply pw_below_drewN | apply below_drew1 | refine below_set ?_ GE131.out) | exact HB.out)) hb);clear BK131;clear HB;have BK131 := n0_;have HB := n1_;clear n0_ n1_;(try clear hb);(try clear hb2);(try clear hk);(try clear hi)))
            go_meet
            case rel => exact ⟨_,(decide (t132 > 0)),(by first | rfl | (simp;done) | (simp [*];done)),H',⟨by have := HK1.out;first | omega | exact Nat.le_refl _⟩,⟨by (with_reducible repeat (first | refine blk_drewN ?_ _ | refine blk_drew ?_ | refine blk_alloc ?_ _));exact BK131.out⟩,⟨by repeat (first | (with_reducible first | exact HB.out | apply below_alloc | apply pw_below_drewN | apply below_drew1 | refine below_set ?_ GE131.out) | exact HB.out)⟩⟩
          · rw [if_neg c5] at H
            have c5b0 : decide (3 < x5_1) = false := decide_eq_false c5
            clear c5
            (first | rw [c5b0] | (simp only [i64_w,i32_w];rw [c5b0]) | skip)
            have H' := Aside0.mk H
            clear H
            go_wp2
            go_meet
            case rel => exact ⟨_,(false),(by first | rfl | (simp;done) | (simp [*];done)),H',⟨by have := HK1.out;first | omega | exact Nat.le_refl _⟩,⟨by (with_reducible repeat (first | refine blk_drewN ?_ _ | refine blk_drew ?_ | refine blk_alloc ?_ _));exact BK131.out⟩,⟨by repeat (first | (with_reducible first | exact HB.out | apply below_alloc | apply pw_below_drewN | apply below_drew1 | refine below_set ?_ GE131.out) | exact HB.out)⟩⟩
        case rest =>
          clear HC4
          try clear c1
          try clear p2
          try clear c3
          try clear c3b0
          try clear c5
          try clear c5b0
          try clear hcz7_0
          try clear hcz7_1
          try clear hfz7_0
          try clear hfz7_1
          try clear p2
          obtain ⟨kq,x17_3,rfl,HA,HJ3,BK131,HB⟩ := hcut
          cases kq with
          | zero => exact absurd HA.out (by simp [verdererref03_Big_Value.j1])
          | succ kj3 =>
            have H := HA.out
            clear HA
            simp only [verdererref03_Big_Value.j1] at H
            by_cases c9 : x17_3 = true
            · subst c9
              have H1 : (some (0,10)) = some (r1,r2) := by rw [if_pos rfl] at H;exact H
              clear H
              have H := H1
              clear H1
              simp only [Option.some.injEq,Prod.mk.injEq] at H
              obtain ⟨rfl,rfl⟩ := H
              go_wp2
              go_ret2
              exact ⟨by first | rfl | (simp [errW_none,errW_some] <;> rfl) | (simp [*,errW_none,errW_some] <;> rfl),by repeat (first | (with_reducible first | exact HB.out | apply below_alloc | apply pw_below_drewN | apply below_drew1 | refine below_set ?_ GE131.out) | exact HB.out)⟩
            · replace c9 := Bool.eq_false_iff.mpr c9
              subst c9
              have H1 : (if x5_1 ≤ 3 then ((verdererref03_Big_at.f a0_0 l0_1 x5_1).bind fun t133 => (verdererref03_Big_Value.l0 kj3 (IntKind.u64.wrap ((IntKind.u64.wrap (x4_1 * 65536)) + t133)) (wrap64 (x5_1 - 1)) a0_0 l0_1)) else (verdererref03_Big_Value.l0 kj3 x4_1 (wrap64 (x5_1 - 1)) a0_0 l0_1)) = some (r1,r2) := by rw [if_neg (show ¬ (false = true) by decide)] at H;exact H
              clear H
              have H := H1
              clear H1
              by_cases c10 : x5_1 ≤ 3
              · rw [if_pos c10] at H
                have c10b0 : decide (x5_1 ≤ 3) = true := decide_eq_true c10
                clear c10
                replace H := Option.bind_eq_some_iff.mp H
                obtain ⟨t133,A110,H⟩ := H
                replace H : (verdererref03_Big_Value.l0 kj3 (IntKind.u64.wrap ((IntKind.u64.wrap (x4_1 * 65536)) + t133)) (wrap64 (x5_1 - 1)) a0_0 l0_1) = some (r1,r2) := H
                have A11 := Aside0.mk A110
                clear A110
                have H' := Aside0.mk H
                clear H
                have hcz12_0 : wc.cell? ⟨gb131,0,none⟩ = some (.bool a0_0) := (blk_cell BK131.out 0).trans rfl
                have hcz12_1 : wc.cell? ⟨gb131,1,none⟩ = some (.slice A0_1 l0_1.length c0_1) := (blk_cell BK131.out 1).trans rfl
                have hfz12_0 := blk_frozen BK131.out 0
                have hfz12_1 := blk_frozen BK131.out 1
                go_wp2_with (first | ((with_reducible refine gate_callee (f := 60) rfl ?_);refine goesL_ (some 24) rfl rfl Try.func60 (by kernel_rfl) rfl #[.agg #[.bool a0_0,.slice A0_1 l0_1.length c0_1],.int .i64 x5_1] rfl (by (try simp only [List.map_toArray,List.map_cons,List.map_nil]);first | done | rfl | (simp only [List.length_drop,List.length_take];rfl)) ?_;(with_reducible refine (verdererref03_Big_at.calls a0_0 _ _ l0_1 x5_1 t133 _ ?side1 ?side2 A11.out).mono ?_);(case side1 => repeat (first | exact (Kd.C_below HR0_1.out HB.out) | (with_reducible refine Kd.C_alloc ?_ _) | (with_reducible refine Kd.C_drewN ?_ _) | (with_reducible refine Kd.C_drew ?_)));(case side2 => exact HC0_1.out);rintro e w13 ⟨rfl,hb⟩;refine ⟨_,rfl,?_⟩;have n0_ := Aside0.mk (blk_below (g := gb131) (o := .cells #[.bool a0_0,.slice A0_1 l0_1.length c0_1] 29 (0,0)) (by (with_reducible repeat (first | refine blk_drewN ?_ _ | refine blk_drew ?_ | refine blk_alloc ?_ _));exact BK131.out) hb);have n1_ := Aside0.mk (below_step (by repeat (first | (with_reducible first | exact HB.out | apply below_alloc | apply pw_below_drewN | apply below_drew1 | refine below_set ?_ GE131.out) | exact HB.out)) hb);clear BK131;clear HB;have BK131 := n0_;have HB := n1_;clear n0_ n1_;(try clear hb);(try clear hb2);(try clear hk);(try clear hi)))
                go_roundg kj3
                case measure => have := HK1.out;have := HJ3.out;omega
                case rel => exact ⟨(IntKind.u64.wrap ((IntKind.u64.wrap (x4_1 * 65536)) + t133)),(wrap64 (x5_1 - 1)),(by first | rfl | (simp;done) | (simp [*];done)),(by first | rfl | (simp;done) | (simp [*];done)),H',⟨by have := HK1.out;have := HJ3.out;omega⟩,⟨by (with_reducible repeat (first | refine blk_drewN ?_ _ | refine blk_drew ?_ | refine blk_alloc ?_ _));exact BK131.out⟩,⟨by repeat (first | (with_reducible first | exact HB.out | apply below_alloc | apply pw_below_drewN | apply below_drew1 | refine below_set ?_ GE131.out) | exact HB.out)⟩⟩
              · rw [if_neg c10] at H
                have c10b0 : decide (x5_1 ≤ 3) = false := decide_eq_false c10
                clear c10
                have H' := Aside0.mk H
                clear H
                go_wp2
                go_roundg kj3
                case measure => have := HK1.out;have := HJ3.out;omega
                case rel => exact ⟨(x4_1),(wrap64 (x5_1 - 1)),(by first | rfl | (simp;done) | (simp [*];done)),(by first | rfl | (simp;done) | (simp [*];done)),H',⟨by have := HK1.out;have := HJ3.out;omega⟩,⟨by (with_reducible repeat (first | refine blk_drewN ?_ _ | refine blk_drew ?_ | refine blk_alloc ?_ _));exact BK131.out⟩,⟨by repeat (first | (with_reducible first | exact HB.out | apply below_alloc | apply pw_below_drewN | apply below_drew1 | refine below_set ?_ GE131.out) | exact HB.out)⟩⟩
      · rw [if_neg c3] at H
        have c3b0 : decide (0 ≤ x5_1) = false := decide_eq_false c3
        clear c3
        have HC14 := Aside0.mk H
        clear H
        go_upto_region 9 with (fail)
        go_cut [31] (fun v31 wc => ∃ (kq : Nat) (x31_13 : Bool),v31 = .bool x31_13 ∧ Aside0 (verdererref03_Big_Value.j2 kq x4_1 x31_13 a0_0 l0_1 = some (r1,r2)) ∧ Aside0 (kq ≤ k1) ∧ Aside0 (wc.heap[gb131]? = some (.cells #[.bool a0_0,(.slice A0_1 l0_1.length c0_1)] 29 (0,0))) ∧ Aside0 (Below w.heap.size w wc))
        case first =>
          have H := HC14.out
          clear HC14
          by_cases c15 : a0_0 = true
          · subst c15
            have H1 : (verdererref03_Big_Value.j2 k1 x4_1 (decide (x4_1 ≤ 9223372036854775808)) true l0_1) = some (r1,r2) := by rw [if_pos rfl] at H;exact H
            clear H
            have H := H1
            clear H1
            have H' := Aside0.mk H
            clear H
            have hcz16_0 : wr.cell? ⟨gb131,0,none⟩ = some (.bool true) := (blk_cell BK131.out 0).trans rfl
            have hcz16_1 : wr.cell? ⟨gb131,1,none⟩ = some (.slice A0_1 l0_1.length c0_1) := (blk_cell BK131.out 1).trans rfl
            have hfz16_0 := blk_frozen BK131.out 0
            have hfz16_1 := blk_frozen BK131.out 1
            go_wp2
            go_meet
            case rel => exact ⟨_,(decide (x4_1 ≤ 9223372036854775808)),(by first | rfl | (simp;done) | (simp [*];done)),H',⟨by have := HK1.out;first | omega | exact Nat.le_refl _⟩,⟨by (with_reducible repeat (first | refine blk_drewN ?_ _ | refine blk_drew ?_ | refine blk_alloc ?_ _));exact BK131.out⟩,⟨by repeat (first | (with_reducible first | exact HB.out | apply below_alloc | apply pw_below_drewN | apply below_drew1 | refine below_set ?_ GE131.out) | exact HB.out)⟩⟩
          · replace c15 := Bool.eq_false_iff.mpr c15
            subst c15
            have H1 : (verdererref03_Big_Value.j2 k1 x4_1 false false l0_1) = some (r1,r2) := by rw [if_neg (show ¬ (false = true) by decide)] at H;exact H
            clear H
            have H := H1
            clear H1
            have H' := Aside0.mk H
            clear H
            have hcz17_0 : wr.cell? ⟨gb131,0,none⟩ = some (.bool false) := (blk_cell BK131.out 0).trans rfl
            have hcz17_1 : wr.cell? ⟨gb131,1,none⟩ = some (.slice A0_1 l0_1.length c0_1) := (blk_cell BK131.out 1).trans rfl
            have hfz17_0 := blk_frozen BK131.out 0
            have hfz17_1 := blk_frozen BK131.out 1
            go_wp2
            go_meet
            case rel => exact ⟨_,(false),(by first | rfl | (simp;done) | (simp [*];done)),H',⟨by have := HK1.out;first | omega | exact Nat.le_refl _⟩,⟨by (with_reducible repeat (first | refine blk_drewN ?_ _ | refine blk_drew ?_ | refine blk_alloc ?_ _));exact BK131.out⟩,⟨by repeat (first | (with_reducible first | exact HB.out | apply below_alloc | apply pw_below_drewN | apply below_drew1 | refine below_set ?_ GE131.out) | exact HB.out)⟩⟩
        case rest =>
          clear HC14
          try clear c1
          try clear p2
          try clear c3
          try clear c3b0
          try clear c5
          try clear c5b0
          try clear c6
          try clear p6
          try clear c9
          try clear c10
          try clear c10b0
          try clear c15
          try clear hcz12_0
          try clear hcz12_1
          try clear hcz16_0
          try clear hcz16_1
          try clear hcz17_0
          try clear hcz17_1
          try clear hcz7_0
          try clear hcz7_1
          try clear hfz12_0
          try clear hfz12_1
          try clear hfz16_0
          try clear hfz16_1
          try clear hfz17_0
          try clear hfz17_1
          try clear hfz7_0
          try clear hfz7_1
          try clear p2
          obtain ⟨kq,x31_13,rfl,HA,HJ13,BK131,HB⟩ := hcut
          cases kq with
          | zero => exact absurd HA.out (by simp [verdererref03_Big_Value.j2])
          | succ kj13 =>
            have H := HA.out
            clear HA
            simp only [verdererref03_Big_Value.j2] at H
            by_cases c18 : x31_13 = true
            · subst c18
              have H1 : (some (wrap64 (IntKind.u64.wrap (-x4_1)),0)) = some (r1,r2) := by rw [if_pos rfl] at H;exact H
              clear H
              have H := H1
              clear H1
              simp only [Option.some.injEq,Prod.mk.injEq] at H
              obtain ⟨rfl,rfl⟩ := H
              go_wp2
              go_ret2
              exact ⟨by first | rfl | (simp [errW_none,errW_some] <;> rfl) | (simp [*,errW_none,errW_some] <;> rfl),by repeat (first | (with_reducible first | exact HB.out | apply below_alloc | apply pw_below_drewN | apply below_drew1 | refine below_set ?_ GE131.out) | exact HB.out)⟩
            · replace c18 := Bool.eq_false_iff.mpr c18
              subst c18
              have H1 : (if a0_0 = true then (some (0,10)) else (if x4_1 < 9223372036854775808 then (some (wrap64 (x4_1),0)) else (some (0,10)))) = some (r1,r2) := by rw [if_neg (show ¬ (false = true) by decide)] at H;exact H
              clear H
              have H := H1
              clear H1
              by_cases c19 : a0_0 = true
              · subst c19
                have H1 : (some (0,10)) = some (r1,r2) := by rw [if_pos rfl] at H;exact H
                clear H
                have H := H1
                clear H1
                simp only [Option.some.injEq,Prod.mk.injEq] at H
                obtain ⟨rfl,rfl⟩ := H
                have hcz20_0 : wc.cell? ⟨gb131,0,none⟩ = some (.bool true) := (blk_cell BK131.out 0).trans rfl
                have hcz20_1 : wc.cell? ⟨gb131,1,none⟩ = some (.slice A0_1 l0_1.length c0_1) := (blk_cell BK131.out 1).trans rfl
                have hfz20_0 := blk_frozen BK131.out 0
                have hfz20_1 := blk_frozen BK131.out 1
                go_wp2
                go_ret2
                exact ⟨by first | rfl | (simp [errW_none,errW_some] <;> rfl) | (simp [*,errW_none,errW_some] <;> rfl),by repeat (first | (with_reducible first | exact HB.out | apply below_alloc | apply pw_below_drewN | apply below_drew1 | refine below_set ?_ GE131.out) | exact HB.out)⟩
              · replace c19 := Bool.eq_false_iff.mpr c19
                subst c19
                have H1 : (if x4_1 < 9223372036854775808 then (some (wrap64 (x4_1),0)) else (some (0,10))) = some (r1,r2) := by rw [if_neg (show ¬ (false = true) by decide)] at H;exact H
                clear H
                have H := H1
                clear H1
                by_cases c21 : x4_1 < 9223372036854775808
                · rw [if_pos c21] at H
                  have c21b0 : decide (x4_1 < 9223372036854775808) = true := decide_eq_true c21
                  clear c21
                  simp only [Option.some.injEq,Prod.mk.injEq] at H
                  obtain ⟨rfl,rfl⟩ := H
                  have hcz22_0 : wc.cell? ⟨gb131,0,none⟩ = some (.bool false) := (blk_cell BK131.out 0).trans rfl
                  have hcz22_1 : wc.cell? ⟨gb131,1,none⟩ = some (.slice A0_1 l0_1.length c0_1) := (blk_cell BK131.out 1).trans rfl
                  have hfz22_0 := blk_frozen BK131.out 0
                  have hfz22_1 := blk_frozen BK131.out 1
                  go_wp2
                  go_ret2
                  exact ⟨by first | rfl | (simp [errW_none,errW_some] <;> rfl) | (simp [*,errW_none,errW_some] <;> rfl),by repeat (first | (with_reducible first | exact HB.out | apply below_alloc | apply pw_below_drewN | apply below_drew1 | refine below_set ?_ GE131.out) | exact HB.out)⟩
                · rw [if_neg c21] at H
                  have c21b0 : decide (x4_1 < 9223372036854775808) = false := decide_eq_false c21
                  clear c21
                  simp only [Option.some.injEq,Prod.mk.injEq] at H
                  obtain ⟨rfl,rfl⟩ := H
                  have hcz23_0 : wc.cell? ⟨gb131,0,none⟩ = some (.bool false) := (blk_cell BK131.out 0).trans rfl
                  have hcz23_1 : wc.cell? ⟨gb131,1,none⟩ = some (.slice A0_1 l0_1.length c0_1) := (blk_cell BK131.out 1).trans rfl
                  have hfz23_0 := blk_frozen BK131.out 0
                  have hfz23_1 := blk_frozen BK131.out 1
                  go_wp2
                  go_ret2
                  exact ⟨by first | rfl | (simp [errW_none,errW_some] <;> rfl) | (simp [*,errW_none,errW_some] <;> rfl),by repeat (first | (with_reducible first | exact HB.out | apply below_alloc | apply pw_below_drewN | apply below_drew1 | refine below_set ?_ GE131.out) | exact HB.out)⟩
end Go.Proofs.Ytcenlehfbgnphaa.Z
end
section
namespace Go.Proofs.Ytcenlehfbgnphaa.Z
open Go.RowKit Go.Proofs.YtcenlehfbgnphaaW.PrintWords Go.Proofs.YtcenlehfbgnphaaW.PrintLast Go.Proofs.YtcenlehfbgnphaaW.PrintMore
attribute [local go_sem] max2_int min2_int max_two min_two max_three min_three max_four min_four
set_option linter.unusedVariables false
set_option linter.unusedSimpArgs false
def verdererref03_Sub.f (k : Nat) (a0 : Int) (a1 : Int) : Option (Int × Int) := (verdererref03_big.f k a1).bind fun bt155 => ((verdererref03_big.f k a0).bind fun bt160 => ((verdererref03_Plus.f k bt160.1 bt160.2 (!bt155.1) bt155.2).bind fun bt164 => ((verdererref03_Big_Value.f k bt164.1 bt164.2).bind fun bt168 => (some (bt168.1,bt168.2)))))
theorem verdererref03_Sub.mono : ∀ a0 a1 k,LeO (verdererref03_Sub.f k a0 a1) (verdererref03_Sub.f (k + 1) a0 a1) := by
  intro a0 a1 k
  unfold verdererref03_Sub.f
  repeat' first
      | (with_reducible exact verdererref03_Big_Value.mono _ _ _)
      | (with_reducible exact verdererref03_Plus.mono _ _ _ _ _)
      | (with_reducible exact verdererref03_big.mono _ _)
      | (with_reducible exact LeO.refl _)
      | (with_reducible exact LeO.none _)
      | (with_reducible refine LeO.ite ?_ ?_)
      | (with_reducible refine LeO.bind ?_ (fun _ => ?_))
      | exact verdererref03_Big_Value.mono _ _ _
      | exact verdererref03_Plus.mono _ _ _ _ _
      | exact verdererref03_big.mono _ _
      | exact LeO.none _
      | refine LeO.ite ?_ ?_
      | refine LeO.bind ?_ (fun _ => ?_)
def verdererref03_Sub.T3 : Bool × List (List Nat × List Nat) := (true,[([],[]),([0],[0]),([],[]),([1,2,1],[1,2]),([3,3],[3]),([4],[4]),([4],[4]),([5,4,0,1,2,3,4,5,6],[5]),([6,7,0,1,2,3,4,5,6,7],[6])])
def verdererref03_Sub.B3 : List Nat := [0,1,0,7,15,31,31,127,255]
theorem verdererref03_Sub.tab3 : rtab .any (opsOf Try.f26 3) = verdererref03_Sub.T3 := by kernel_rfl
theorem verdererref03_Sub.bits3 : waitsOk verdererref03_Sub.T3.2 verdererref03_Sub.B3 = true := by kernel_rfl
set_option maxHeartbeats 8000000 in
set_option maxRecDepth 100000 in
theorem verdererref03_Sub.calls (k : Nat) (a0 : Int) (a1 : Int) (r1 : Int) (r2 : Int) (w : World) (h : verdererref03_Sub.f k a0 a1 = some (r1,r2)) :
    Calls Try.prog 26 #[.int .i64 a0,.int .i64 a1] w fun e w' => e = .returned (.tuple #[.int .i64 r1,.int .i64 r2]) ∧ Below w.heap.size w w' := by
  have hu29 := Try.underlying29
  have HB := Aside0.mk (Below.refl w.heap.size w)
  have H : ((verdererref03_big.f k a1).bind fun bt155 => ((verdererref03_big.f k a0).bind fun bt160 => ((verdererref03_Plus.f k bt160.1 bt160.2 (!bt155.1) bt155.2).bind fun bt164 => ((verdererref03_Big_Value.f k bt164.1 bt164.2).bind fun bt168 => (some (bt168.1,bt168.2)))))) = some (r1,r2) := h
  clear h
  replace H := Option.bind_eq_some_iff.mp H
  obtain ⟨⟨t155,t156⟩,A30,H⟩ := H
  replace H : ((verdererref03_big.f k a0).bind fun bt160 => ((verdererref03_Plus.f k bt160.1 bt160.2 (!t155) t156).bind fun bt164 => ((verdererref03_Big_Value.f k bt164.1 bt164.2).bind fun bt168 => (some (bt168.1,bt168.2))))) = some (r1,r2) := H
  have A3 := Aside0.mk A30
  clear A30
  replace H := Option.bind_eq_some_iff.mp H
  obtain ⟨⟨t160,t161⟩,A40,H⟩ := H
  replace H : ((verdererref03_Plus.f k t160 t161 (!t155) t156).bind fun bt164 => ((verdererref03_Big_Value.f k bt164.1 bt164.2).bind fun bt168 => (some (bt168.1,bt168.2)))) = some (r1,r2) := H
  have A4 := Aside0.mk A40
  clear A40
  replace H := Option.bind_eq_some_iff.mp H
  obtain ⟨⟨t164,t165⟩,A50,H⟩ := H
  replace H : ((verdererref03_Big_Value.f k t164 t165).bind fun bt168 => (some (bt168.1,bt168.2))) = some (r1,r2) := H
  have A5 := Aside0.mk A50
  clear A50
  replace H := Option.bind_eq_some_iff.mp H
  obtain ⟨⟨t168,t169⟩,A60,H⟩ := H
  replace H : (some (t168,t169)) = some (r1,r2) := H
  have A6 := Aside0.mk A60
  clear A60
  simp only [Option.some.injEq,Prod.mk.injEq] at H
  obtain ⟨rfl,rfl⟩ := H
  go_enter Try.func26,Try.ntmps26
  try go_wp2_with (first | ((with_reducible refine gate_callee (f := 61) rfl ?_);refine goesL_ (some 8) rfl rfl Try.func61 (by kernel_rfl) rfl #[.int .i64 a1] rfl (by (try simp only [List.map_toArray,List.map_cons,List.map_nil]);first | done | rfl | (simp only [List.length_drop,List.length_take];rfl)) ?_;(with_reducible refine (verdererref03_big.calls k a1 t155 t156 _ A3.out).mono ?_);rintro e w7 ⟨v157,rfl,ho0,hb⟩;refine ⟨_,rfl,?_⟩;have n0_ := Aside0.mk (Kd.R_lower ho0 (below_size (by repeat (first | (with_reducible first | exact HB.out | apply below_alloc | apply pw_below_drewN | apply below_drew1) | exact HB.out))));have n1_ := Aside0.mk (below_step (by repeat (first | (with_reducible first | exact HB.out | apply below_alloc | apply pw_below_drewN | apply below_drew1) | exact HB.out)) hb);clear HB;have HO158 := n0_;have HB := n1_;clear n0_ n1_;(try clear hb);(try clear hb2);(try clear hk);(try clear hi);(try clear ho0)) | ((with_reducible refine gate_dst (N := 6) rfl ?_);refine box_event ?hg (N := 6) ?hd (cs := #[.bool false,.slice none 0 0]) (t := 29) ?hr ?_;(case hd => rfl);(case hg => rfl);(case hr => first | (go_simp;done) | (go_simp;rfl));intro gb159 hg w8 hbox hb;have n0_ := Aside0.mk (Kd.R_below (by (with_reducible repeat (first | apply Kd.R_alloc | apply Kd.R_drewN | apply Kd.R_drew));exact HO158.out) hb);have n1_ := Aside0.mk (below_step (by repeat (first | (with_reducible first | exact HB.out | apply below_alloc | apply pw_below_drewN | apply below_drew1) | exact HB.out)) hb);have n2_ := Aside0.mk (hbox);have n3_ := Aside0.mk ((by rw [hg];exact (below_size (by repeat (first | (with_reducible first | exact HB.out | apply below_alloc | apply pw_below_drewN | apply below_drew1) | exact HB.out))) : w.heap.size ≤ gb159));have n4_ := Aside0.mk ((by rw [hg];exact (below_size (by repeat (first | (with_reducible first | exact HB.out | apply below_alloc | apply pw_below_drewN | apply below_drew1) | exact HB.out))) : w.heap.size ≤ gb159));clear HO158;clear HB;have HO158 := n0_;have HB := n1_;have BK159 := n2_;have GW159 := n3_;have GE159 := n4_;clear n0_ n1_ n2_ n3_ n4_;clear hb hbox hg;have hcz9_0 : w8.cell? ⟨gb159,0,none⟩ = some (.bool false) := (blk_cell BK159.out 0).trans rfl;have hcz9_1 : w8.cell? ⟨gb159,1,none⟩ = some (.slice none 0 0) := (blk_cell BK159.out 1).trans rfl;have hfz9_0 := blk_frozen BK159.out 0;have hfz9_1 := blk_frozen BK159.out 1;obtain ⟨Ao10,co10,eo10⟩ := Kd.R_slice HO158.out;subst eo10))
  have n0_ : Aside0 (Kd.R (Kd.int .u64) 96 (((w8.setCell ⟨gb159,0,none⟩ (.bool t155)).setCell ⟨gb159,1,none⟩ (.slice Ao10 t156.length co10)).setCell ⟨gb159,0,none⟩ (.bool (!t155))) w.heap.size (fun _ => True) (.slice Ao10 t156.length co10) t156) := ⟨by (with_reducible repeat (first | apply Kd.R_alloc | apply Kd.R_drewN | apply Kd.R_drew));exact Kd.R_mono (Kd.R_far (p := ⟨gb159,0,none⟩) (Kd.R_far (p := ⟨gb159,1,none⟩) (Kd.R_far (p := ⟨gb159,0,none⟩) (Kd.R_types HO158.out BK159.out (by decide)) (fun _ hk => hk.2) (.bool t155)) (fun _ hk => hk.2) (.slice Ao10 t156.length co10)) (fun _ hk => hk.2) (.bool (!t155))) (fun _ hk => trivial)⟩
  have n1_ : Aside0 ((((w8.setCell ⟨gb159,0,none⟩ (.bool t155)).setCell ⟨gb159,1,none⟩ (.slice Ao10 t156.length co10)).setCell ⟨gb159,0,none⟩ (.bool (!t155))).heap[gb159]? = some (.cells #[.bool (!t155),.slice Ao10 t156.length co10] 29 (0,0))) := ⟨by (with_reducible repeat (first | refine blk_drewN ?_ _ | refine blk_drew ?_ | refine blk_alloc ?_ _));refine blk_put (cs := #[.bool t155,.slice Ao10 t156.length co10]) ?_ 0 _ rfl;(with_reducible repeat (first | refine blk_drewN ?_ _ | refine blk_drew ?_ | refine blk_alloc ?_ _));refine blk_put (cs := #[.bool t155,.slice none 0 0]) ?_ 1 _ rfl;(with_reducible repeat (first | refine blk_drewN ?_ _ | refine blk_drew ?_ | refine blk_alloc ?_ _));refine blk_put (cs := #[.bool false,.slice none 0 0]) ?_ 0 _ rfl;(with_reducible repeat (first | refine blk_drewN ?_ _ | refine blk_drew ?_ | refine blk_alloc ?_ _));exact BK159.out⟩
  have n2_ : Aside0 (Below w.heap.size w (((w8.setCell ⟨gb159,0,none⟩ (.bool t155)).setCell ⟨gb159,1,none⟩ (.slice Ao10 t156.length co10)).setCell ⟨gb159,0,none⟩ (.bool (!t155)))) := ⟨by repeat (first | (with_reducible first | exact HB.out | apply below_alloc | apply pw_below_drewN | apply below_drew1 | refine below_set ?_ GE159.out) | exact HB.out)⟩
  (try clear HO158)
  (try clear BK159)
  (try clear HB)
  generalize (((w8.setCell ⟨gb159,0,none⟩ (.bool t155)).setCell ⟨gb159,1,none⟩ (.slice Ao10 t156.length co10)).setCell ⟨gb159,0,none⟩ (.bool (!t155))) = w11 at n0_ n1_ n2_ ⊢
  have HO158 := n0_
  have BK159 := n1_
  have HB := n2_
  clear n0_ n1_ n2_
  have n0_ := Aside0.mk (Kd.R_drew HO158.out)
  have n1_ := Aside0.mk (blk_drew BK159.out)
  have n2_ := Aside0.mk (below_drew1 HB.out)
  clear HO158
  clear BK159
  clear HB
  have HO158 := n0_
  have BK159 := n1_
  have HB := n2_
  clear n0_ n1_ n2_
  refine start_ (n := 9) (S := fun w' => w'.cell? ⟨gb159,0,none⟩ = some (.bool (!t155)) ∧ w'.cell? ⟨gb159,1,none⟩ = some (.slice Ao10 t156.length co10)) (ds := []) #[false,false,false,false,false,false,false,false,false] (by kernel_rfl) rfl rfl ⟨(blk_cell BK159.out 0).trans rfl,(blk_cell BK159.out 1).trans rfl⟩ (fun hHeld => ?_);refine with_tabW verdererref03_Sub.tab3 verdererref03_Sub.bits3 (fun HT_ HW_ => ?_)
  generalize w11.drew = w12 at HO158 BK159 HB hHeld ⊢
  refine pure_ (i := 0) (N := some 13) (v := ?_) (a' := ?_) #[true,false,false,false,false,false,false,false,false] rfl rfl (any_of HT_.out (by kernel_rfl)) (fun _ _ _ h => h) (Or.inl ⟨by rfl,?_⟩) ?_ ?_
  rotate_left
  · intro w'
    go_simp
    with_reducible rfl
  rotate_left
  · simp only [Act.put,zA,zB,zC,i64_w,i32_w]
    rfl
  refine take_ (i := 2) (N := some 15) (v := ?_) (a' := ?_) #[true,false,true,false,false,false,false,false,false] rfl rfl (take_ofW HT_.out HW_.out (by kernel_rfl)) (fun _ _ _ h => h) (Or.inl ⟨by rfl,?_⟩) hHeld ?_ ?_
  rotate_left
  · rintro w' ⟨s0,s1⟩
    go_simp
    with_reducible rfl
  rotate_left
  · simp only [Act.put,zA,zB,zC,i64_w,i32_w]
    rfl
  refine one_ (i := 1) (N := some 14) #[true,true,true,false,false,false,false,false,false] rfl rfl (one_of HT_.out (by kernel_rfl)) (by decide) (fun K hK => ?_)
  refine goes_ Try.func61 (by kernel_rfl) rfl #[.int .i64 a0] (by rfl) rfl rfl (by (try simp only [List.map_toArray,List.map_cons,List.map_nil]);first | done | rfl | (simp only [List.length_drop,List.length_take];rfl)) ?_
  with_reducible refine (verdererref03_big.calls k a0 t160 t161 _ A4.out).mono ?_
  rintro e w13 ⟨v162,rfl,ho0,hb⟩
  refine ⟨_,rfl,?_⟩
  have n0_ := Aside0.mk (Kd.R_elder' (by (with_reducible repeat (first | apply Kd.R_alloc | apply Kd.R_drewN | apply Kd.R_drew));exact HO158.out) (Kd.R_base ho0) hb)
  have n1_ := Aside0.mk (Kd.R_lower (Kd.R_new' ho0 (Kd.R_lt (by (with_reducible repeat (first | apply Kd.R_alloc | apply Kd.R_drewN | apply Kd.R_drew));exact HO158.out))) (below_size (by repeat (first | (with_reducible first | exact HB.out | apply below_alloc | apply pw_below_drewN | apply below_drew1 | refine below_set ?_ GE159.out) | exact HB.out))))
  have n2_ := Aside0.mk (blk_below (g := gb159) (o := .cells #[.bool (!t155),.slice Ao10 t156.length co10] 29 (0,0)) (by (with_reducible repeat (first | refine blk_drewN ?_ _ | refine blk_drew ?_ | refine blk_alloc ?_ _));exact BK159.out) hb)
  have n3_ := Aside0.mk (below_step (by repeat (first | (with_reducible first | exact HB.out | apply below_alloc | apply pw_below_drewN | apply below_drew1 | refine below_set ?_ GE159.out) | exact HB.out)) hb)
  clear HO158
  clear BK159
  clear HB
  have HO158 := n0_
  have HO163 := n1_
  have BK159 := n2_
  have HB := n3_
  clear n0_ n1_ n2_ n3_
  (try clear hb)
  (try clear hb2)
  (try clear hk)
  (try clear hi)
  (try clear ho0)
  obtain ⟨Ao14,co14,eo14⟩ := Kd.R_slice HO163.out
  (first | subst eo14 | (injection eo14 with f1_ f2_ f3_;have f4_ := f1_.symm;have f5_ := f3_.symm;clear f1_ f2_ f3_;subst f4_;subst f5_))
  refine hK.out _ _ ⟨(blk_cell BK159.out 0).trans rfl,(blk_cell BK159.out 1).trans rfl⟩ (fun hHeld => ?_)
  clear hK K
  refine norm_ (a' := ?_) ?_ ?_
  rotate_left
  · show Act.put _ (some 14) _ = _
    simp only [Act.put,zA,zB,zC,i64_w,i32_w]
    rfl
  refine one_ (i := 3) (N := some 16) #[true,true,true,true,false,false,false,false,false] rfl rfl (one_of HT_.out (by kernel_rfl)) (by decide) (fun K hK => ?_)
  refine goes_ Try.func16 (by kernel_rfl) rfl #[.agg #[.bool t160,.slice Ao14 t161.length co14],.agg #[.bool (!t155),.slice Ao10 t156.length co10]] (by rfl) rfl rfl (by (try simp only [List.map_toArray,List.map_cons,List.map_nil]);first | done | rfl | (simp only [List.length_drop,List.length_take];rfl)) ?_
  with_reducible refine (verdererref03_Plus.calls k t160 _ _ t161 (!t155) _ _ t156 t164 t165 _ ?side1 ?side2 ?side3 ?side4 A5.out).mono ?_
  (case side1 => repeat (first | exact (Kd.R_reads' HO163.out).2.2 | (with_reducible refine Kd.C_alloc ?_ _) | (with_reducible refine Kd.C_drewN ?_ _) | (with_reducible refine Kd.C_drew ?_)))
  (case side2 => exact (Kd.R_reads' HO163.out).2.1)
  (case side3 => repeat (first | exact (Kd.R_reads' HO158.out).2.2 | (with_reducible refine Kd.C_alloc ?_ _) | (with_reducible refine Kd.C_drewN ?_ _) | (with_reducible refine Kd.C_drew ?_)))
  (case side4 => exact (Kd.R_reads' HO158.out).2.1)
  rintro e w15 ⟨v166,rfl,ho0,hb⟩
  refine ⟨_,rfl,?_⟩
  have n0_ := Aside0.mk (Kd.R_elder' (by (with_reducible repeat (first | apply Kd.R_alloc | apply Kd.R_drewN | apply Kd.R_drew));exact HO158.out) (Kd.R_base ho0) hb)
  have n1_ := Aside0.mk (Kd.R_elder' (by (with_reducible repeat (first | apply Kd.R_alloc | apply Kd.R_drewN | apply Kd.R_drew));exact HO163.out) (Kd.R_base ho0) hb)
  have n2_ := Aside0.mk (Kd.R_lower (Kd.R_new' (Kd.R_new' ho0 (Kd.R_lt (by (with_reducible repeat (first | apply Kd.R_alloc | apply Kd.R_drewN | apply Kd.R_drew));exact HO158.out))) (Kd.R_lt (by (with_reducible repeat (first | apply Kd.R_alloc | apply Kd.R_drewN | apply Kd.R_drew));exact HO163.out))) (below_size (by repeat (first | (with_reducible first | exact HB.out | apply below_alloc | apply pw_below_drewN | apply below_drew1 | refine below_set ?_ GE159.out) | exact HB.out))))
  have n3_ := Aside0.mk (blk_below (g := gb159) (o := .cells #[.bool (!t155),.slice Ao10 t156.length co10] 29 (0,0)) (by (with_reducible repeat (first | refine blk_drewN ?_ _ | refine blk_drew ?_ | refine blk_alloc ?_ _));exact BK159.out) hb)
  have n4_ := Aside0.mk (below_step (by repeat (first | (with_reducible first | exact HB.out | apply below_alloc | apply pw_below_drewN | apply below_drew1 | refine below_set ?_ GE159.out) | exact HB.out)) hb)
  clear HO158
  clear HO163
  clear BK159
  clear HB
  have HO158 := n0_
  have HO163 := n1_
  have HO167 := n2_
  have BK159 := n3_
  have HB := n4_
  clear n0_ n1_ n2_ n3_ n4_
  (try clear hb)
  (try clear hb2)
  (try clear hk)
  (try clear hi)
  (try clear ho0)
  obtain ⟨Ao16,co16,eo16⟩ := Kd.R_slice HO167.out
  (first | subst eo16 | (injection eo16 with f1_ f2_ f3_;have f4_ := f1_.symm;have f5_ := f3_.symm;clear f1_ f2_ f3_;subst f4_;subst f5_))
  refine hK.out _ _ ⟨(blk_cell BK159.out 0).trans rfl,(blk_cell BK159.out 1).trans rfl⟩ (fun hHeld => ?_)
  clear hK K
  refine norm_ (a' := ?_) ?_ ?_
  rotate_left
  · show Act.put _ (some 16) _ = _
    simp only [Act.put,zA,zB,zC,i64_w,i32_w]
    rfl
  refine one_ (i := 4) (N := some 17) #[true,true,true,true,true,false,false,false,false] rfl rfl (one_of HT_.out (by kernel_rfl)) (by decide) (fun K hK => ?_)
  refine goes_ Try.func19 (by kernel_rfl) rfl #[.agg #[.bool t164,.slice Ao16 t165.length co16]] (by rfl) rfl rfl (by (try simp only [List.map_toArray,List.map_cons,List.map_nil]);first | done | rfl | (simp only [List.length_drop,List.length_take];rfl)) ?_
  with_reducible refine (verdererref03_Big_Value.calls k t164 _ _ t165 t168 t169 _ ?side1 ?side2 A6.out).mono ?_
  (case side1 => repeat (first | exact (Kd.R_reads' HO167.out).2.2 | (with_reducible refine Kd.C_alloc ?_ _) | (with_reducible refine Kd.C_drewN ?_ _) | (with_reducible refine Kd.C_drew ?_)))
  (case side2 => exact (Kd.R_reads' HO167.out).2.1)
  rintro e w17 ⟨rfl,hb⟩
  refine ⟨_,rfl,?_⟩
  have n0_ := Aside0.mk (Kd.R_below (by (with_reducible repeat (first | apply Kd.R_alloc | apply Kd.R_drewN | apply Kd.R_drew));exact HO158.out) hb)
  have n1_ := Aside0.mk (Kd.R_below (by (with_reducible repeat (first | apply Kd.R_alloc | apply Kd.R_drewN | apply Kd.R_drew));exact HO163.out) hb)
  have n2_ := Aside0.mk (Kd.R_below (by (with_reducible repeat (first | apply Kd.R_alloc | apply Kd.R_drewN | apply Kd.R_drew));exact HO167.out) hb)
  have n3_ := Aside0.mk (blk_below (g := gb159) (o := .cells #[.bool (!t155),.slice Ao10 t156.length co10] 29 (0,0)) (by (with_reducible repeat (first | refine blk_drewN ?_ _ | refine blk_drew ?_ | refine blk_alloc ?_ _));exact BK159.out) hb)
  have n4_ := Aside0.mk (below_step (by repeat (first | (with_reducible first | exact HB.out | apply below_alloc | apply pw_below_drewN | apply below_drew1 | refine below_set ?_ GE159.out) | exact HB.out)) hb)
  clear HO158
  clear HO163
  clear HO167
  clear BK159
  clear HB
  have HO158 := n0_
  have HO163 := n1_
  have HO167 := n2_
  have BK159 := n3_
  have HB := n4_
  clear n0_ n1_ n2_ n3_ n4_
  (try clear hb)
  (try clear hb2)
  (try clear hk)
  (try clear hi)
  refine hK.out _ _ ⟨(blk_cell BK159.out 0).trans rfl,(blk_cell BK159.out 1).trans rfl⟩ (fun hHeld => ?_)
  clear hK K
  refine norm_ (a' := ?_) ?_ ?_
  rotate_left
  · show Act.put _ (some 17) _ = _
    simp only [Act.put,zA,zB,zC,i64_w,i32_w]
    rfl
  refine pure_ (i := 5) (N := some 18) (v := ?_) (a' := ?_) #[true,true,true,true,true,true,false,false,false] rfl rfl (any_of HT_.out (by kernel_rfl)) (fun _ _ _ h => h) (Or.inl ⟨by rfl,?_⟩) ?_ ?_
  rotate_left
  · intro w'
    go_simp
    with_reducible rfl
  rotate_left
  · simp only [Act.put,zA,zB,zC,i64_w,i32_w]
    rfl
  refine pure_ (i := 6) (N := some 19) (v := ?_) (a' := ?_) #[true,true,true,true,true,true,true,false,false] rfl rfl (any_of HT_.out (by kernel_rfl)) (fun _ _ _ h => h) (Or.inl ⟨by rfl,?_⟩) ?_ ?_
  rotate_left
  · intro w'
    go_simp
    with_reducible rfl
  rotate_left
  · simp only [Act.put,zA,zB,zC,i64_w,i32_w]
    rfl
  refine pure_ (i := 7) (N := some 4) (v := ?_) (a' := ?_) #[true,true,true,true,true,true,true,true,false] rfl rfl (any_of HT_.out (by kernel_rfl)) (fun _ _ _ h => h) (Or.inl ⟨by rfl,?_⟩) ?_ ?_
  rotate_left
  · intro w'
    go_simp
    with_reducible rfl
  rotate_left
  · simp only [Act.put,zA,zB,zC,i64_w,i32_w]
    rfl
  refine pure_ (i := 8) (N := some 5) (v := ?_) (a' := ?_) #[true,true,true,true,true,true,true,true,true] rfl rfl (any_of HT_.out (by kernel_rfl)) (fun _ _ _ h => h) (Or.inl ⟨by rfl,?_⟩) ?_ ?_
  rotate_left
  · intro w'
    go_simp
    with_reducible rfl
  rotate_left
  · simp only [Act.put,zA,zB,zC,i64_w,i32_w]
    rfl
  refine done_ (done_of HT_.out (by kernel_rfl)) ?_
  try go_wp2
  go_ret2
  exact ⟨by first | rfl | (simp [errW_none,errW_some] <;> rfl) | (simp [*,errW_none,errW_some] <;> rfl),by repeat (first | (with_reducible first | exact HB.out | apply below_alloc | apply pw_below_drewN | apply below_drew1 | refine below_set ?_ GE159.out) | exact HB.out)⟩
end Go.Proofs.Ytcenlehfbgnphaa.Z
end
section
namespace Go.Proofs.Ytcenlehfbgnphaa.Z
open Go.RowKit Go.Proofs.YtcenlehfbgnphaaW.PrintWords Go.Proofs.YtcenlehfbgnphaaW.PrintLast Go.Proofs.YtcenlehfbgnphaaW.PrintMore
attribute [local go_sem] max2_int min2_int max_two min_two max_three min_three max_four min_four
set_option linter.unusedVariables false
set_option linter.unusedSimpArgs false
def verdererref28_Room.f (k : Nat) (a0_0 : ByteArray) (a0_1 : ByteArray) (a0_2 : Int) (a0_3 : Int) : Option (Int × Int) := (verdererref03_Sub.f k a0_3 a0_2).bind fun bt371 => (some (bt371.1,bt371.2))
theorem verdererref28_Room.mono : ∀ a0 a1 a2 a3 k,LeO (verdererref28_Room.f k a0 a1 a2 a3) (verdererref28_Room.f (k + 1) a0 a1 a2 a3) := by
  intro a0 a1 a2 a3 k
  unfold verdererref28_Room.f
  repeat' first
      | (with_reducible exact verdererref03_Sub.mono _ _ _)
      | (with_reducible exact LeO.refl _)
      | (with_reducible exact LeO.none _)
      | (with_reducible refine LeO.ite ?_ ?_)
      | (with_reducible refine LeO.bind ?_ (fun _ => ?_))
      | exact verdererref03_Sub.mono _ _ _
      | exact LeO.none _
      | refine LeO.ite ?_ ?_
      | refine LeO.bind ?_ (fun _ => ?_)
set_option maxHeartbeats 8000000 in
set_option maxRecDepth 100000 in
theorem verdererref28_Room.calls (k : Nat) (a0_0 : ByteArray) (a0_1 : ByteArray) (a0_2 : Int) (a0_3 : Int) (r1 : Int) (r2 : Int) (w : World) (h : verdererref28_Room.f k a0_0 a0_1 a0_2 a0_3 = some (r1,r2)) :
    Calls Try.prog 52 #[.agg #[.string a0_0,.string a0_1,.int .i64 a0_2,.int .i64 a0_3]] w fun e w' => e = .returned (.tuple #[.int .i64 r1,.int .i64 r2]) ∧ Below w.heap.size w w' := by
  have hu45 := Try.underlying45
  have HB := Aside0.mk (Below.refl w.heap.size w)
  have H : ((verdererref03_Sub.f k a0_3 a0_2).bind fun bt371 => (some (bt371.1,bt371.2))) = some (r1,r2) := h
  clear h
  replace H := Option.bind_eq_some_iff.mp H
  obtain ⟨⟨t371,t372⟩,A20,H⟩ := H
  replace H : (some (t371,t372)) = some (r1,r2) := H
  have A2 := Aside0.mk A20
  clear A20
  simp only [Option.some.injEq,Prod.mk.injEq] at H
  obtain ⟨rfl,rfl⟩ := H
  go_enter Try.func52,Try.ntmps52
  go_wp2_with (first | ((with_reducible refine gate_dst (N := 1) rfl ?_);refine box_event ?hg (N := 1) ?hd (cs := #[.string a0_0,.string a0_1,.int .i64 a0_2,.int .i64 a0_3]) (t := 45) ?hr ?_;(case hd => rfl);(case hg => rfl);(case hr => first | (go_simp;done) | (go_simp;rfl));intro gb370 hg w3 hbox hb;have n0_ := Aside0.mk (below_step (by repeat (first | (with_reducible first | exact HB.out | apply below_alloc | apply pw_below_drewN | apply below_drew1) | exact HB.out)) hb);have n1_ := Aside0.mk (hbox);have n2_ := Aside0.mk ((by rw [hg];exact (below_size (by repeat (first | (with_reducible first | exact HB.out | apply below_alloc | apply pw_below_drewN | apply below_drew1) | exact HB.out))) : w.heap.size ≤ gb370));have n3_ := Aside0.mk ((by rw [hg];exact (below_size (by repeat (first | (with_reducible first | exact HB.out | apply below_alloc | apply pw_below_drewN | apply below_drew1) | exact HB.out))) : w.heap.size ≤ gb370));clear HB;have HB := n0_;have BK370 := n1_;have GW370 := n2_;have GE370 := n3_;clear n0_ n1_ n2_ n3_;clear hb hbox hg;have hcz4_0 : w3.cell? ⟨gb370,0,none⟩ = some (.string a0_0) := (blk_cell BK370.out 0).trans rfl;have hcz4_1 : w3.cell? ⟨gb370,1,none⟩ = some (.string a0_1) := (blk_cell BK370.out 1).trans rfl;have hcz4_2 : w3.cell? ⟨gb370,2,none⟩ = some (.int .i64 a0_2) := (blk_cell BK370.out 2).trans rfl;have hcz4_3 : w3.cell? ⟨gb370,3,none⟩ = some (.int .i64 a0_3) := (blk_cell BK370.out 3).trans rfl;have hfz4_0 := blk_frozen BK370.out 0;have hfz4_1 := blk_frozen BK370.out 1;have hfz4_2 := blk_frozen BK370.out 2;have hfz4_3 := blk_frozen BK370.out 3) | ((with_reducible refine gate_callee (f := 26) rfl ?_);refine goesL_ (some 8) rfl rfl Try.func26 (by kernel_rfl) rfl #[.int .i64 a0_3,.int .i64 a0_2] rfl (by (try simp only [List.map_toArray,List.map_cons,List.map_nil]);first | done | rfl | (simp only [List.length_drop,List.length_take];rfl)) ?_;(with_reducible refine (verdererref03_Sub.calls k a0_3 a0_2 t371 t372 _ A2.out).mono ?_);rintro e w5 ⟨rfl,hb⟩;refine ⟨_,rfl,?_⟩;have n0_ := Aside0.mk (blk_below (g := gb370) (o := .cells #[.string a0_0,.string a0_1,.int .i64 a0_2,.int .i64 a0_3] 45 (0,0)) (by (with_reducible repeat (first | refine blk_drewN ?_ _ | refine blk_drew ?_ | refine blk_alloc ?_ _));exact BK370.out) hb);have n1_ := Aside0.mk (below_step (by repeat (first | (with_reducible first | exact HB.out | apply below_alloc | apply pw_below_drewN | apply below_drew1 | refine below_set ?_ GE370.out) | exact HB.out)) hb);clear BK370;clear HB;have BK370 := n0_;have HB := n1_;clear n0_ n1_;(try clear hb);(try clear hb2);(try clear hk);(try clear hi)))
  go_ret2
  exact ⟨by first | rfl | (simp [errW_none,errW_some] <;> rfl) | (simp [*,errW_none,errW_some] <;> rfl),by repeat (first | (with_reducible first | exact HB.out | apply below_alloc | apply pw_below_drewN | apply below_drew1 | refine below_set ?_ GE370.out) | exact HB.out)⟩
end Go.Proofs.Ytcenlehfbgnphaa.Z
end
section
namespace Go.Proofs.Ytcenlehfbgnphaa.Z
open Go.RowKit Go.Proofs.YtcenlehfbgnphaaW.PrintWords Go.Proofs.YtcenlehfbgnphaaW.PrintLast Go.Proofs.YtcenlehfbgnphaaW.PrintMore
attribute [local go_sem] max2_int min2_int max_two min_two max_three min_three max_four min_four
set_option linter.unusedVariables false
set_option linter.unusedSimpArgs false
def verdererlaw28_u.f (a0 : Int) : Option ((List (S45))) := some (([(⟨(⟨#[113]⟩ : ByteArray),(⟨#[97]⟩ : ByteArray),a0,5⟩ : S45)] : List (S45)))
set_option maxHeartbeats 8000000 in
set_option maxRecDepth 100000 in
theorem verdererlaw28_u.calls (a0 : Int) (r : List (S45)) (w : World) (h : verdererlaw28_u.f a0 = some r) :
    Calls Try.prog 76 #[.int .i64 a0] w fun e w' => ∃ v0_ : Value,e = .returned (v0_) ∧ Kd.R k45 45 w' w.heap.size (fun _ => True) v0_ r ∧ Below w.heap.size w w' := by
  have hu45 := Try.underlying45
  have HB := Aside0.mk (Below.refl w.heap.size w)
  have H : (some (([(⟨(⟨#[113]⟩ : ByteArray),(⟨#[97]⟩ : ByteArray),a0,5⟩ : S45)] : List (S45)))) = some r := h
  clear h
  obtain ⟨y254,hy254⟩ : ∃ y_ : List (S45),y_ = (([(⟨(⟨#[113]⟩ : ByteArray),(⟨#[97]⟩ : ByteArray),a0,5⟩ : S45)] : List (S45))) := ⟨_,rfl⟩
  replace H : (some y254) = some r := by first | (rw [hy254];with_reducible exact H) | (have H2_ := (Option.bind_some _ _).symm.trans H;rw [hy254];with_reducible exact H2_) | (have H2_ := (Option.bind_some _ _).symm.trans H;with_reducible exact H2_) | with_reducible exact H | (rw [hy254];exact H) | exact H
  have Ny254 := Aside0.mk hy254
  clear hy254
  obtain rfl := Option.some.inj H
  go_enter Try.func76,Try.ntmps76
  go_wp2_with (first | ((with_reducible refine gate_dst (N := 5) rfl ?_);refine Kd.R_lit k45 _ 45 ?hg (N := 5) ?hd (xs := ([(⟨(⟨#[113]⟩ : ByteArray),(⟨#[97]⟩ : ByteArray),a0,5⟩ : S45)] : List (S45))) (inner := [.string (⟨#[113]⟩ : ByteArray),.string (⟨#[97]⟩ : ByteArray),.int .i64 a0,.int .i64 5]) (ok := fun _ => True) (okp := fun _ => True) ?hr ?hp (fun _ hk => hk) trivial (Below.refl _ _) (Nat.le_refl _) (by simp) ?_;(case hd => rfl);(case hg => rfl);(case hr => first | (go_simp;done) | (go_simp;rfl));(case hp => exact (Reps.c4 (show Kd.M k45 _ _ _ (⟨(⟨#[113]⟩ : ByteArray),(⟨#[97]⟩ : ByteArray),a0,5⟩ : S45) [.string (⟨#[113]⟩ : ByteArray),.string (⟨#[97]⟩ : ByteArray),.int .i64 a0,.int .i64 5] from (k45_mkM _ _ _ (⟨(⟨#[113]⟩ : ByteArray),(⟨#[97]⟩ : ByteArray),a0,5⟩ : S45) )) (Reps.none _ _)));intro v255 w2 ho3 hb hg_ hnew_;clear hg_ hnew_;(first | rw [← Ny254.out] at ho3 | (simp only [Int.reduceToNat] at ho3;rw [← Ny254.out] at ho3));have n0_ := Aside0.mk (Kd.R_lower ho3 (below_size (by repeat (first | (with_reducible first | exact HB.out | apply below_alloc | apply pw_below_drewN | apply below_drew1) | exact HB.out))));have n1_ := Aside0.mk (below_step (by repeat (first | (with_reducible first | exact HB.out | apply below_alloc | apply pw_below_drewN | apply below_drew1) | exact HB.out)) hb);clear HB;have HO256 := n0_;have HB := n1_;clear n0_ n1_;clear hb ho3))
  go_ret
  exact ⟨_,by first | rfl | (simp [errW_none,errW_some] <;> rfl) | (simp [*,errW_none,errW_some] <;> rfl),by (with_reducible repeat (first | apply Kd.R_alloc | apply Kd.R_drewN | apply Kd.R_drew));exact HO256.out,by repeat (first | (with_reducible first | exact HB.out | apply below_alloc | apply pw_below_drewN | apply below_drew1) | exact HB.out)⟩
end Go.Proofs.Ytcenlehfbgnphaa.Z
end
section
namespace Go.Proofs.Ytcenlehfbgnphaa.Z
open Go.RowKit Go.Proofs.YtcenlehfbgnphaaW.PrintWords Go.Proofs.YtcenlehfbgnphaaW.PrintLast Go.Proofs.YtcenlehfbgnphaaW.PrintMore
attribute [local go_sem] max2_int min2_int max_two min_two max_three min_three max_four min_four
set_option linter.unusedVariables false
set_option linter.unusedSimpArgs false
def verdererlaw28_known.f (k : Nat)  : Option (Bool) := (verdererlaw28_u.f 7).bind fun t257 => ((verdererlaw28_u.f 6).bind fun t260 => ((quota_Judge.f k t257 t260).bind fun bt263 => ((verdererlaw28_u.f 4).bind fun t269 => ((verdererlaw28_u.f 6).bind fun t272 => ((quota_Judge.f k t269 t272).bind fun bt275 => ((verdererlaw28_u.f 7).bind fun t281 => (if 0 < (t281.length : Int) then ((quota_Room.f ((rd_T45 t281 0).f0) ((rd_T45 t281 0).f1) ((rd_T45 t281 0).f2) ((rd_T45 t281 0).f3)).bind fun bt285 => ((verdererlaw28_u.f 4).bind fun t287 => ((verdererlaw28_u.f 9).bind fun t290 => (if t287.length + t290.length < 2932031007402 then ((quota_Worst.f k (t287 ++ t290)).bind fun bt296 => (if bt263.2.2.2.2 = 0 then (if bt275.2.2.2.2 = 16 then (if bt275.2.2.1 = 6 then (if bt285.1 = (-2) then (if bt285.2 = 0 then (if bt296.2.2.1 = 9 then (if bt296.2.2.2.2 = 0 then ((verdererlaw28_u.f 6).bind fun t302 => ((quota_Over.f k t302).bind fun t305 => (some ((t305.length : Int) == 1)))) else (none)) else (none)) else (none)) else (none)) else (none)) else (none)) else (none))) else (none))))) else (none))))))))
theorem verdererlaw28_known.mono : ∀ k,LeO (verdererlaw28_known.f k ) (verdererlaw28_known.f (k + 1) ) := by
  intro  k
  unfold verdererlaw28_known.f
  repeat' first
      | (with_reducible exact quota_Judge.mono _ _ _)
      | (with_reducible exact quota_Over.mono _ _)
      | (with_reducible exact quota_Worst.mono _ _)
      | (with_reducible exact LeO.refl _)
      | (with_reducible exact LeO.none _)
      | (with_reducible refine LeO.ite ?_ ?_)
      | (with_reducible refine LeO.bind ?_ (fun _ => ?_))
      | exact quota_Judge.mono _ _ _
      | exact quota_Over.mono _ _
      | exact quota_Worst.mono _ _
      | exact LeO.none _
      | refine LeO.ite ?_ ?_
      | refine LeO.bind ?_ (fun _ => ?_)
set_option maxHeartbeats 8000000 in
set_option maxRecDepth 100000 in
theorem verdererlaw28_known.calls (k : Nat)  (r : Bool) (w : World) (h : verdererlaw28_known.f k  = some r) :
    Calls Try.prog 44 #[] w fun e w' => e = .returned (.bool r) ∧ Below w.heap.size w w' := by
  have hu45 := Try.underlying45
  have HB := Aside0.mk (Below.refl w.heap.size w)
  have H : ((verdererlaw28_u.f 7).bind fun t257 => ((verdererlaw28_u.f 6).bind fun t260 => ((quota_Judge.f k t257 t260).bind fun bt263 => ((verdererlaw28_u.f 4).bind fun t269 => ((verdererlaw28_u.f 6).bind fun t272 => ((quota_Judge.f k t269 t272).bind fun bt275 => ((verdererlaw28_u.f 7).bind fun t281 => (if 0 < (t281.length : Int) then ((quota_Room.f ((rd_T45 t281 0).f0) ((rd_T45 t281 0).f1) ((rd_T45 t281 0).f2) ((rd_T45 t281 0).f3)).bind fun bt285 => ((verdererlaw28_u.f 4).bind fun t287 => ((verdererlaw28_u.f 9).bind fun t290 => (if t287.length + t290.length < 2932031007402 then ((quota_Worst.f k (t287 ++ t290)).bind fun bt296 => (if bt263.2.2.2.2 = 0 then (if bt275.2.2.2.2 = 16 then (if bt275.2.2.1 = 6 then (if bt285.1 = (-2) then (if bt285.2 = 0 then (if bt296.2.2.1 = 9 then (if bt296.2.2.2.2 = 0 then ((verdererlaw28_u.f 6).bind fun t302 => ((quota_Over.f k t302).bind fun t305 => (some ((t305.length : Int) == 1)))) else (none)) else (none)) else (none)) else (none)) else (none)) else (none)) else (none))) else (none))))) else (none))))))))) = some r := h
  clear h
  replace H := Option.bind_eq_some_iff.mp H
  obtain ⟨t257,A10,H⟩ := H
  replace H : ((verdererlaw28_u.f 6).bind fun t260 => ((quota_Judge.f k t257 t260).bind fun bt263 => ((verdererlaw28_u.f 4).bind fun t269 => ((verdererlaw28_u.f 6).bind fun t272 => ((quota_Judge.f k t269 t272).bind fun bt275 => ((verdererlaw28_u.f 7).bind fun t281 => (if 0 < (t281.length : Int) then ((quota_Room.f ((rd_T45 t281 0).f0) ((rd_T45 t281 0).f1) ((rd_T45 t281 0).f2) ((rd_T45 t281 0).f3)).bind fun bt285 => ((verdererlaw28_u.f 4).bind fun t287 => ((verdererlaw28_u.f 9).bind fun t290 => (if t287.length + t290.length < 2932031007402 then ((quota_Worst.f k (t287 ++ t290)).bind fun bt296 => (if bt263.2.2.2.2 = 0 then (if bt275.2.2.2.2 = 16 then (if bt275.2.2.1 = 6 then (if bt285.1 = (-2) then (if bt285.2 = 0 then (if bt296.2.2.1 = 9 then (if bt296.2.2.2.2 = 0 then ((verdererlaw28_u.f 6).bind fun t302 => ((quota_Over.f k t302).bind fun t305 => (some ((t305.length : Int) == 1)))) else (none)) else (none)) else (none)) else (none)) else (none)) else (none)) else (none))) else (none))))) else (none)))))))) = some r := H
  have A1 := Aside0.mk A10
  clear A10
  replace H := Option.bind_eq_some_iff.mp H
  obtain ⟨t260,A20,H⟩ := H
  replace H : ((quota_Judge.f k t257 t260).bind fun bt263 => ((verdererlaw28_u.f 4).bind fun t269 => ((verdererlaw28_u.f 6).bind fun t272 => ((quota_Judge.f k t269 t272).bind fun bt275 => ((verdererlaw28_u.f 7).bind fun t281 => (if 0 < (t281.length : Int) then ((quota_Room.f ((rd_T45 t281 0).f0) ((rd_T45 t281 0).f1) ((rd_T45 t281 0).f2) ((rd_T45 t281 0).f3)).bind fun bt285 => ((verdererlaw28_u.f 4).bind fun t287 => ((verdererlaw28_u.f 9).bind fun t290 => (if t287.length + t290.length < 2932031007402 then ((quota_Worst.f k (t287 ++ t290)).bind fun bt296 => (if bt263.2.2.2.2 = 0 then (if bt275.2.2.2.2 = 16 then (if bt275.2.2.1 = 6 then (if bt285.1 = (-2) then (if bt285.2 = 0 then (if bt296.2.2.1 = 9 then (if bt296.2.2.2.2 = 0 then ((verdererlaw28_u.f 6).bind fun t302 => ((quota_Over.f k t302).bind fun t305 => (some ((t305.length : Int) == 1)))) else (none)) else (none)) else (none)) else (none)) else (none)) else (none)) else (none))) else (none))))) else (none))))))) = some r := H
  have A2 := Aside0.mk A20
  clear A20
  replace H := Option.bind_eq_some_iff.mp H
  obtain ⟨⟨t263,t264,t265,t266,t267⟩,A30,H⟩ := H
  replace H : ((verdererlaw28_u.f 4).bind fun t269 => ((verdererlaw28_u.f 6).bind fun t272 => ((quota_Judge.f k t269 t272).bind fun bt275 => ((verdererlaw28_u.f 7).bind fun t281 => (if 0 < (t281.length : Int) then ((quota_Room.f ((rd_T45 t281 0).f0) ((rd_T45 t281 0).f1) ((rd_T45 t281 0).f2) ((rd_T45 t281 0).f3)).bind fun bt285 => ((verdererlaw28_u.f 4).bind fun t287 => ((verdererlaw28_u.f 9).bind fun t290 => (if t287.length + t290.length < 2932031007402 then ((quota_Worst.f k (t287 ++ t290)).bind fun bt296 => (if t267 = 0 then (if bt275.2.2.2.2 = 16 then (if bt275.2.2.1 = 6 then (if bt285.1 = (-2) then (if bt285.2 = 0 then (if bt296.2.2.1 = 9 then (if bt296.2.2.2.2 = 0 then ((verdererlaw28_u.f 6).bind fun t302 => ((quota_Over.f k t302).bind fun t305 => (some ((t305.length : Int) == 1)))) else (none)) else (none)) else (none)) else (none)) else (none)) else (none)) else (none))) else (none))))) else (none)))))) = some r := H
  have A3 := Aside0.mk A30
  clear A30
  replace H := Option.bind_eq_some_iff.mp H
  obtain ⟨t269,A40,H⟩ := H
  replace H : ((verdererlaw28_u.f 6).bind fun t272 => ((quota_Judge.f k t269 t272).bind fun bt275 => ((verdererlaw28_u.f 7).bind fun t281 => (if 0 < (t281.length : Int) then ((quota_Room.f ((rd_T45 t281 0).f0) ((rd_T45 t281 0).f1) ((rd_T45 t281 0).f2) ((rd_T45 t281 0).f3)).bind fun bt285 => ((verdererlaw28_u.f 4).bind fun t287 => ((verdererlaw28_u.f 9).bind fun t290 => (if t287.length + t290.length < 2932031007402 then ((quota_Worst.f k (t287 ++ t290)).bind fun bt296 => (if t267 = 0 then (if bt275.2.2.2.2 = 16 then (if bt275.2.2.1 = 6 then (if bt285.1 = (-2) then (if bt285.2 = 0 then (if bt296.2.2.1 = 9 then (if bt296.2.2.2.2 = 0 then ((verdererlaw28_u.f 6).bind fun t302 => ((quota_Over.f k t302).bind fun t305 => (some ((t305.length : Int) == 1)))) else (none)) else (none)) else (none)) else (none)) else (none)) else (none)) else (none))) else (none))))) else (none))))) = some r := H
  have A4 := Aside0.mk A40
  clear A40
  replace H := Option.bind_eq_some_iff.mp H
  obtain ⟨t272,A50,H⟩ := H
  replace H : ((quota_Judge.f k t269 t272).bind fun bt275 => ((verdererlaw28_u.f 7).bind fun t281 => (if 0 < (t281.length : Int) then ((quota_Room.f ((rd_T45 t281 0).f0) ((rd_T45 t281 0).f1) ((rd_T45 t281 0).f2) ((rd_T45 t281 0).f3)).bind fun bt285 => ((verdererlaw28_u.f 4).bind fun t287 => ((verdererlaw28_u.f 9).bind fun t290 => (if t287.length + t290.length < 2932031007402 then ((quota_Worst.f k (t287 ++ t290)).bind fun bt296 => (if t267 = 0 then (if bt275.2.2.2.2 = 16 then (if bt275.2.2.1 = 6 then (if bt285.1 = (-2) then (if bt285.2 = 0 then (if bt296.2.2.1 = 9 then (if bt296.2.2.2.2 = 0 then ((verdererlaw28_u.f 6).bind fun t302 => ((quota_Over.f k t302).bind fun t305 => (some ((t305.length : Int) == 1)))) else (none)) else (none)) else (none)) else (none)) else (none)) else (none)) else (none))) else (none))))) else (none)))) = some r := H
  have A5 := Aside0.mk A50
  clear A50
  replace H := Option.bind_eq_some_iff.mp H
  obtain ⟨⟨t275,t276,t277,t278,t279⟩,A60,H⟩ := H
  replace H : ((verdererlaw28_u.f 7).bind fun t281 => (if 0 < (t281.length : Int) then ((quota_Room.f ((rd_T45 t281 0).f0) ((rd_T45 t281 0).f1) ((rd_T45 t281 0).f2) ((rd_T45 t281 0).f3)).bind fun bt285 => ((verdererlaw28_u.f 4).bind fun t287 => ((verdererlaw28_u.f 9).bind fun t290 => (if t287.length + t290.length < 2932031007402 then ((quota_Worst.f k (t287 ++ t290)).bind fun bt296 => (if t267 = 0 then (if t279 = 16 then (if t277 = 6 then (if bt285.1 = (-2) then (if bt285.2 = 0 then (if bt296.2.2.1 = 9 then (if bt296.2.2.2.2 = 0 then ((verdererlaw28_u.f 6).bind fun t302 => ((quota_Over.f k t302).bind fun t305 => (some ((t305.length : Int) == 1)))) else (none)) else (none)) else (none)) else (none)) else (none)) else (none)) else (none))) else (none))))) else (none))) = some r := H
  have A6 := Aside0.mk A60
  clear A60
  replace H := Option.bind_eq_some_iff.mp H
  obtain ⟨t281,A70,H⟩ := H
  replace H : (if 0 < (t281.length : Int) then ((quota_Room.f ((rd_T45 t281 0).f0) ((rd_T45 t281 0).f1) ((rd_T45 t281 0).f2) ((rd_T45 t281 0).f3)).bind fun bt285 => ((verdererlaw28_u.f 4).bind fun t287 => ((verdererlaw28_u.f 9).bind fun t290 => (if t287.length + t290.length < 2932031007402 then ((quota_Worst.f k (t287 ++ t290)).bind fun bt296 => (if t267 = 0 then (if t279 = 16 then (if t277 = 6 then (if bt285.1 = (-2) then (if bt285.2 = 0 then (if bt296.2.2.1 = 9 then (if bt296.2.2.2.2 = 0 then ((verdererlaw28_u.f 6).bind fun t302 => ((quota_Over.f k t302).bind fun t305 => (some ((t305.length : Int) == 1)))) else (none)) else (none)) else (none)) else (none)) else (none)) else (none)) else (none))) else (none))))) else (none)) = some r := H
  have A7 := Aside0.mk A70
  clear A70
  by_cases c8 : 0 < (t281.length : Int)
  · rw [if_pos c8] at H
    have c8b0 : decide (0 < (t281.length : Int)) = true := decide_eq_true c8
    have c8b1 : decide (0 < t281.length) = true := decide_eq_true (by omega)
    clear c8
    replace H := Option.bind_eq_some_iff.mp H
    obtain ⟨⟨t285,t286⟩,A90,H⟩ := H
    replace H : ((verdererlaw28_u.f 4).bind fun t287 => ((verdererlaw28_u.f 9).bind fun t290 => (if t287.length + t290.length < 2932031007402 then ((quota_Worst.f k (t287 ++ t290)).bind fun bt296 => (if t267 = 0 then (if t279 = 16 then (if t277 = 6 then (if t285 = (-2) then (if t286 = 0 then (if bt296.2.2.1 = 9 then (if bt296.2.2.2.2 = 0 then ((verdererlaw28_u.f 6).bind fun t302 => ((quota_Over.f k t302).bind fun t305 => (some ((t305.length : Int) == 1)))) else (none)) else (none)) else (none)) else (none)) else (none)) else (none)) else (none))) else (none)))) = some r := H
    have A9 := Aside0.mk A90
    clear A90
    replace H := Option.bind_eq_some_iff.mp H
    obtain ⟨t287,A100,H⟩ := H
    replace H : ((verdererlaw28_u.f 9).bind fun t290 => (if t287.length + t290.length < 2932031007402 then ((quota_Worst.f k (t287 ++ t290)).bind fun bt296 => (if t267 = 0 then (if t279 = 16 then (if t277 = 6 then (if t285 = (-2) then (if t286 = 0 then (if bt296.2.2.1 = 9 then (if bt296.2.2.2.2 = 0 then ((verdererlaw28_u.f 6).bind fun t302 => ((quota_Over.f k t302).bind fun t305 => (some ((t305.length : Int) == 1)))) else (none)) else (none)) else (none)) else (none)) else (none)) else (none)) else (none))) else (none))) = some r := H
    have A10 := Aside0.mk A100
    clear A100
    replace H := Option.bind_eq_some_iff.mp H
    obtain ⟨t290,A110,H⟩ := H
    replace H : (if t287.length + t290.length < 2932031007402 then ((quota_Worst.f k (t287 ++ t290)).bind fun bt296 => (if t267 = 0 then (if t279 = 16 then (if t277 = 6 then (if t285 = (-2) then (if t286 = 0 then (if bt296.2.2.1 = 9 then (if bt296.2.2.2.2 = 0 then ((verdererlaw28_u.f 6).bind fun t302 => ((quota_Over.f k t302).bind fun t305 => (some ((t305.length : Int) == 1)))) else (none)) else (none)) else (none)) else (none)) else (none)) else (none)) else (none))) else (none)) = some r := H
    have A11 := Aside0.mk A110
    clear A110
    by_cases c12 : t287.length + t290.length < 2932031007402
    · rw [if_pos c12] at H
      have LMc12 := Aside0.mk c12
      clear c12
      obtain ⟨y293,hy293⟩ : ∃ y_ : List (S45),y_ = (t287 ++ t290) := ⟨_,rfl⟩
      replace H : ((quota_Worst.f k y293).bind fun bt296 => (if t267 = 0 then (if t279 = 16 then (if t277 = 6 then (if t285 = (-2) then (if t286 = 0 then (if bt296.2.2.1 = 9 then (if bt296.2.2.2.2 = 0 then ((verdererlaw28_u.f 6).bind fun t302 => ((quota_Over.f k t302).bind fun t305 => (some ((t305.length : Int) == 1)))) else (none)) else (none)) else (none)) else (none)) else (none)) else (none)) else (none))) = some r := by first | (rw [hy293];with_reducible exact H) | (have H2_ := (Option.bind_some _ _).symm.trans H;rw [hy293];with_reducible exact H2_) | (have H2_ := (Option.bind_some _ _).symm.trans H;with_reducible exact H2_) | with_reducible exact H | (rw [hy293];exact H) | exact H
      have Ny293 := Aside0.mk hy293
      clear hy293
      replace H := Option.bind_eq_some_iff.mp H
      obtain ⟨⟨t296,t297,t298,t299,t300⟩,A130,H⟩ := H
      replace H : (if t267 = 0 then (if t279 = 16 then (if t277 = 6 then (if t285 = (-2) then (if t286 = 0 then (if t298 = 9 then (if t300 = 0 then ((verdererlaw28_u.f 6).bind fun t302 => ((quota_Over.f k t302).bind fun t305 => (some ((t305.length : Int) == 1)))) else (none)) else (none)) else (none)) else (none)) else (none)) else (none)) else (none)) = some r := H
      have A13 := Aside0.mk A130
      clear A130
      by_cases c14 : t267 = 0
      · rw [if_pos c14] at H
        have c14b0 : (t267 == 0) = true := beq_iff_eq.mpr c14
        have c14b1 : (t267 != 0) = false := bne_eq_false_iff_eq.mpr c14
        clear c14
        by_cases c15 : t279 = 16
        · rw [if_pos c15] at H
          have c15b0 : (t279 == 16) = true := beq_iff_eq.mpr c15
          have c15b1 : (t279 != 16) = false := bne_eq_false_iff_eq.mpr c15
          clear c15
          by_cases c16 : t277 = 6
          · rw [if_pos c16] at H
            have c16b0 : (t277 == 6) = true := beq_iff_eq.mpr c16
            have c16b1 : (t277 != 6) = false := bne_eq_false_iff_eq.mpr c16
            clear c16
            by_cases c17 : t285 = (-2)
            · rw [if_pos c17] at H
              have c17b0 : (t285 == (-2)) = true := beq_iff_eq.mpr c17
              have c17b1 : (t285 != (-2)) = false := bne_eq_false_iff_eq.mpr c17
              clear c17
              by_cases c18 : t286 = 0
              · rw [if_pos c18] at H
                have c18b0 : (t286 == 0) = true := beq_iff_eq.mpr c18
                have c18b1 : (t286 != 0) = false := bne_eq_false_iff_eq.mpr c18
                clear c18
                by_cases c19 : t298 = 9
                · rw [if_pos c19] at H
                  have c19b0 : (t298 == 9) = true := beq_iff_eq.mpr c19
                  have c19b1 : (t298 != 9) = false := bne_eq_false_iff_eq.mpr c19
                  clear c19
                  by_cases c20 : t300 = 0
                  · rw [if_pos c20] at H
                    have c20b0 : (t300 == 0) = true := beq_iff_eq.mpr c20
                    have c20b1 : (t300 != 0) = false := bne_eq_false_iff_eq.mpr c20
                    clear c20
                    replace H := Option.bind_eq_some_iff.mp H
                    obtain ⟨t302,A210,H⟩ := H
                    replace H : ((quota_Over.f k t302).bind fun t305 => (some ((t305.length : Int) == 1))) = some r := H
                    have A21 := Aside0.mk A210
                    clear A210
                    replace H := Option.bind_eq_some_iff.mp H
                    obtain ⟨t305,A220,H⟩ := H
                    replace H : (some ((t305.length : Int) == 1)) = some r := H
                    have A22 := Aside0.mk A220
                    clear A220
                    obtain rfl := Option.some.inj H
                    go_enter Try.func44,Try.ntmps44
                    go_wp2_with (first | ((with_reducible refine gate_callee (f := 76) rfl ?_);refine goesL_ (some 10) rfl rfl Try.func76 (by kernel_rfl) rfl #[.int .i64 7] rfl (by (try simp only [List.map_toArray,List.map_cons,List.map_nil]);first | done | rfl | (simp only [List.length_drop,List.length_take];rfl)) ?_;(with_reducible refine (verdererlaw28_u.calls 7 t257 _ A1.out).mono ?_);rintro e w23 ⟨v258,rfl,ho0,hb⟩;refine ⟨_,rfl,?_⟩;have n0_ := Aside0.mk (Kd.R_lower ho0 (below_size (by repeat (first | (with_reducible first | exact HB.out | apply below_alloc | apply pw_below_drewN | apply below_drew1) | exact HB.out))));have n1_ := Aside0.mk (below_step (by repeat (first | (with_reducible first | exact HB.out | apply below_alloc | apply pw_below_drewN | apply below_drew1) | exact HB.out)) hb);clear HB;have HO259 := n0_;have HB := n1_;clear n0_ n1_;(try clear hb);(try clear hb2);(try clear hk);(try clear hi);(try clear ho0)) | ((with_reducible refine gate_callee (f := 76) rfl ?_);refine goesL_ (some 11) rfl rfl Try.func76 (by kernel_rfl) rfl #[.int .i64 6] rfl (by (try simp only [List.map_toArray,List.map_cons,List.map_nil]);first | done | rfl | (simp only [List.length_drop,List.length_take];rfl)) ?_;(with_reducible refine (verdererlaw28_u.calls 6 t260 _ A2.out).mono ?_);rintro e w24 ⟨v261,rfl,ho0,hb⟩;refine ⟨_,rfl,?_⟩;have n0_ := Aside0.mk (Kd.R_elder' (by (with_reducible repeat (first | apply Kd.R_alloc | apply Kd.R_drewN | apply Kd.R_drew));exact HO259.out) (Kd.R_base ho0) hb);have n1_ := Aside0.mk (Kd.R_lower (Kd.R_new' ho0 (Kd.R_lt (by (with_reducible repeat (first | apply Kd.R_alloc | apply Kd.R_drewN | apply Kd.R_drew));exact HO259.out))) (below_size (by repeat (first | (with_reducible first | exact HB.out | apply below_alloc | apply pw_below_drewN | apply below_drew1) | exact HB.out))));have n2_ := Aside0.mk (below_step (by repeat (first | (with_reducible first | exact HB.out | apply below_alloc | apply pw_below_drewN | apply below_drew1) | exact HB.out)) hb);clear HO259;clear HB;have HO259 := n0_;have HO262 := n1_;have HB := n2_;clear n0_ n1_ n2_;(try clear hb);(try clear hb2);(try clear hk);(try clear hi);(try clear ho0);obtain ⟨Ao25,co25,eo25⟩ := Kd.R_slice HO259.out;subst eo25;obtain ⟨Ao26,co26,eo26⟩ := Kd.R_slice HO262.out;subst eo26) | ((with_reducible refine gate_callee (f := 45) rfl ?_);refine goesL_ (some 12) rfl rfl Try.func45 (by kernel_rfl) rfl #[.slice Ao25 t257.length co25,.slice Ao26 t260.length co26] rfl (by (try simp only [List.map_toArray,List.map_cons,List.map_nil]);first | done | rfl | (simp only [List.length_drop,List.length_take];rfl)) ?_;(with_reducible refine (quota_Judge.calls k _ _ t257 _ _ t260 t263 t264 t265 t266 t267 _ ?side1 ?side2 ?side3 ?side4 A3.out).mono ?_);(case side1 => repeat (first | exact (Kd.R_reads' HO259.out).2.2 | (with_reducible refine Kd.C_alloc ?_ _) | (with_reducible refine Kd.C_drewN ?_ _) | (with_reducible refine Kd.C_drew ?_)));(case side2 => exact (Kd.R_reads' HO259.out).2.1);(case side3 => repeat (first | exact (Kd.R_reads' HO262.out).2.2 | (with_reducible refine Kd.C_alloc ?_ _) | (with_reducible refine Kd.C_drewN ?_ _) | (with_reducible refine Kd.C_drew ?_)));(case side4 => exact (Kd.R_reads' HO262.out).2.1);rintro e w27 ⟨rfl,hb⟩;refine ⟨_,rfl,?_⟩;have n0_ := Aside0.mk (Kd.R_below (by (with_reducible repeat (first | apply Kd.R_alloc | apply Kd.R_drewN | apply Kd.R_drew));exact HO259.out) hb);have n1_ := Aside0.mk (Kd.R_below (by (with_reducible repeat (first | apply Kd.R_alloc | apply Kd.R_drewN | apply Kd.R_drew));exact HO262.out) hb);have n2_ := Aside0.mk (below_step (by repeat (first | (with_reducible first | exact HB.out | apply below_alloc | apply pw_below_drewN | apply below_drew1) | exact HB.out)) hb);clear HO259;clear HO262;clear HB;have HO259 := n0_;have HO262 := n1_;have HB := n2_;clear n0_ n1_ n2_;(try clear hb);(try clear hb2);(try clear hk);(try clear hi)) | ((with_reducible refine gate_dst (N := 1) rfl ?_);(try (refine gate_guard (by rfl) ?_;dsimp only));refine box_event ?hg (N := 1) ?hd (cs := #[.string (⟨#[]⟩ : ByteArray),.string (⟨#[]⟩ : ByteArray),.int .i64 0,.int .i64 0]) (t := 45) ?hr ?_;(case hd => rfl);(case hg => rfl);(case hr => first | (go_simp;done) | (go_simp;rfl));intro gb268 hg w28 hbox hb;have n0_ := Aside0.mk (Kd.R_below (Kd.R_elderB (by (with_reducible repeat (first | apply Kd.R_alloc | apply Kd.R_drewN | apply Kd.R_drew));exact HO259.out) gb268 (Nat.le_of_eq hg.symm)) hb);have n1_ := Aside0.mk (Kd.R_below (Kd.R_elderB (by (with_reducible repeat (first | apply Kd.R_alloc | apply Kd.R_drewN | apply Kd.R_drew));exact HO262.out) gb268 (Nat.le_of_eq hg.symm)) hb);have n2_ := Aside0.mk (below_step (by repeat (first | (with_reducible first | exact HB.out | apply below_alloc | apply pw_below_drewN | apply below_drew1) | exact HB.out)) hb);have n3_ := Aside0.mk (hbox);have n4_ := Aside0.mk ((by rw [hg];exact (below_size (by repeat (first | (with_reducible first | exact HB.out | apply below_alloc | apply pw_below_drewN | apply below_drew1) | exact HB.out))) : w.heap.size ≤ gb268));have n5_ := Aside0.mk ((by rw [hg];exact (below_size (by repeat (first | (with_reducible first | exact HB.out | apply below_alloc | apply pw_below_drewN | apply below_drew1) | exact HB.out))) : w.heap.size ≤ gb268));clear HO259;clear HO262;clear HB;have HO259 := n0_;have HO262 := n1_;have HB := n2_;have BK268 := n3_;have GW268 := n4_;have GE268 := n5_;clear n0_ n1_ n2_ n3_ n4_ n5_;clear hb hbox hg;have hcz29_0 : w28.cell? ⟨gb268,0,none⟩ = some (.string (⟨#[]⟩ : ByteArray)) := (blk_cell BK268.out 0).trans rfl;have hcz29_1 : w28.cell? ⟨gb268,1,none⟩ = some (.string (⟨#[]⟩ : ByteArray)) := (blk_cell BK268.out 1).trans rfl;have hcz29_2 : w28.cell? ⟨gb268,2,none⟩ = some (.int .i64 0) := (blk_cell BK268.out 2).trans rfl;have hcz29_3 : w28.cell? ⟨gb268,3,none⟩ = some (.int .i64 0) := (blk_cell BK268.out 3).trans rfl;have hfz29_0 := blk_frozen BK268.out 0;have hfz29_1 := blk_frozen BK268.out 1;have hfz29_2 := blk_frozen BK268.out 2;have hfz29_3 := blk_frozen BK268.out 3) | ((with_reducible refine gate_callee (f := 76) rfl ?_);refine goesL_ (some 16) rfl rfl Try.func76 (by kernel_rfl) rfl #[.int .i64 4] rfl (by (try simp only [List.map_toArray,List.map_cons,List.map_nil]);first | done | rfl | (simp only [List.length_drop,List.length_take];rfl)) ?_;(with_reducible refine (verdererlaw28_u.calls 4 t269 _ A4.out).mono ?_);rintro e w30 ⟨v270,rfl,ho0,hb⟩;refine ⟨_,rfl,?_⟩;have n0_ := Aside0.mk (Kd.R_elder' (by (with_reducible repeat (first | apply Kd.R_alloc | apply Kd.R_drewN | apply Kd.R_drew));exact (Kd.R_mono (Kd.R_far (p := ⟨gb268,3,none⟩) (Kd.R_far (p := ⟨gb268,2,none⟩) (Kd.R_far (p := ⟨gb268,1,none⟩) (Kd.R_far (p := ⟨gb268,0,none⟩) (Kd.R_mono HO259.out (fun k_ hk => (⟨hk,hk.2⟩ : _ ∧ k_ ≠ gb268))) (fun _ hk => hk.2) (.string t263)) (fun _ hk => hk.2) (.string t264)) (fun _ hk => hk.2) (.int .i64 t265)) (fun _ hk => hk.2) (.int .i64 t266)) (fun _ h_ => h_.1))) (Kd.R_base ho0) hb);have n1_ := Aside0.mk (Kd.R_elder' (by (with_reducible repeat (first | apply Kd.R_alloc | apply Kd.R_drewN | apply Kd.R_drew));exact (Kd.R_mono (Kd.R_far (p := ⟨gb268,3,none⟩) (Kd.R_far (p := ⟨gb268,2,none⟩) (Kd.R_far (p := ⟨gb268,1,none⟩) (Kd.R_far (p := ⟨gb268,0,none⟩) (Kd.R_mono HO262.out (fun k_ hk => (⟨hk,hk.2⟩ : _ ∧ k_ ≠ gb268))) (fun _ hk => hk.2) (.string t263)) (fun _ hk => hk.2) (.string t264)) (fun _ hk => hk.2) (.int .i64 t265)) (fun _ hk => hk.2) (.int .i64 t266)) (fun _ h_ => h_.1))) (Kd.R_base ho0) hb);have n2_ := Aside0.mk (Kd.R_lower (Kd.R_newB (Kd.R_new' (Kd.R_new' ho0 (Kd.R_lt (by (with_reducible repeat (first | apply Kd.R_alloc | apply Kd.R_drewN | apply Kd.R_drew));exact (Kd.R_mono (Kd.R_far (p := ⟨gb268,3,none⟩) (Kd.R_far (p := ⟨gb268,2,none⟩) (Kd.R_far (p := ⟨gb268,1,none⟩) (Kd.R_far (p := ⟨gb268,0,none⟩) (Kd.R_mono HO259.out (fun k_ hk => (⟨hk,hk.2⟩ : _ ∧ k_ ≠ gb268))) (fun _ hk => hk.2) (.string t263)) (fun _ hk => hk.2) (.string t264)) (fun _ hk => hk.2) (.int .i64 t265)) (fun _ hk => hk.2) (.int .i64 t266)) (fun _ h_ => h_.1))))) (Kd.R_lt (by (with_reducible repeat (first | apply Kd.R_alloc | apply Kd.R_drewN | apply Kd.R_drew));exact (Kd.R_mono (Kd.R_far (p := ⟨gb268,3,none⟩) (Kd.R_far (p := ⟨gb268,2,none⟩) (Kd.R_far (p := ⟨gb268,1,none⟩) (Kd.R_far (p := ⟨gb268,0,none⟩) (Kd.R_mono HO262.out (fun k_ hk => (⟨hk,hk.2⟩ : _ ∧ k_ ≠ gb268))) (fun _ hk => hk.2) (.string t263)) (fun _ hk => hk.2) (.string t264)) (fun _ hk => hk.2) (.int .i64 t265)) (fun _ hk => hk.2) (.int .i64 t266)) (fun _ h_ => h_.1))))) (g := gb268) (o := .cells #[.string t263,.string t264,.int .i64 t265,.int .i64 t266] 45 (0,0)) (by (with_reducible repeat (first | refine blk_drewN ?_ _ | refine blk_drew ?_ | refine blk_alloc ?_ _));refine blk_put (cs := #[.string t263,.string t264,.int .i64 t265,.int .i64 0]) ?_ 3 _ rfl;(with_reducible repeat (first | refine blk_drewN ?_ _ | refine blk_drew ?_ | refine blk_alloc ?_ _));refine blk_put (cs := #[.string t263,.string t264,.int .i64 0,.int .i64 0]) ?_ 2 _ rfl;(with_reducible repeat (first | refine blk_drewN ?_ _ | refine blk_drew ?_ | refine blk_alloc ?_ _));refine blk_put (cs := #[.string t263,.string (⟨#[]⟩ : ByteArray),.int .i64 0,.int .i64 0]) ?_ 1 _ rfl;(with_reducible repeat (first | refine blk_drewN ?_ _ | refine blk_drew ?_ | refine blk_alloc ?_ _));refine blk_put (cs := #[.string (⟨#[]⟩ : ByteArray),.string (⟨#[]⟩ : ByteArray),.int .i64 0,.int .i64 0]) ?_ 0 _ rfl;(with_reducible repeat (first | refine blk_drewN ?_ _ | refine blk_drew ?_ | refine blk_alloc ?_ _));exact BK268.out)) (below_size (by repeat (first | (with_reducible first | exact HB.out | apply below_alloc | apply pw_below_drewN | apply below_drew1 | refine below_set ?_ GE268.out) | exact HB.out))));have n3_ := Aside0.mk (blk_below (g := gb268) (o := .cells #[.string t263,.string t264,.int .i64 t265,.int .i64 t266] 45 (0,0)) (by (with_reducible repeat (first | refine blk_drewN ?_ _ | refine blk_drew ?_ | refine blk_alloc ?_ _));refine blk_put (cs := #[.string t263,.string t264,.int .i64 t265,.int .i64 0]) ?_ 3 _ rfl;(with_reducible repeat (first | refine blk_drewN ?_ _ | refine blk_drew ?_ | refine blk_alloc ?_ _));refine blk_put (cs := #[.string t263,.string t264,.int .i64 0,.int .i64 0]) ?_ 2 _ rfl;(with_reducible repeat (first | refine blk_drewN ?_ _ | refine blk_drew ?_ | refine blk_alloc ?_ _));refine blk_put (cs := #[.string t263,.string (⟨#[]⟩ : ByteArray),.int .i64 0,.int .i64 0]) ?_ 1 _ rfl;(with_reducible repeat (first | refine blk_drewN ?_ _ | refine blk_drew ?_ | refine blk_alloc ?_ _));refine blk_put (cs := #[.string (⟨#[]⟩ : ByteArray),.string (⟨#[]⟩ : ByteArray),.int .i64 0,.int .i64 0]) ?_ 0 _ rfl;(with_reducible repeat (first | refine blk_drewN ?_ _ | refine blk_drew ?_ | refine blk_alloc ?_ _));exact BK268.out) hb);have n4_ := Aside0.mk (below_step (by repeat (first | (with_reducible first | exact HB.out | apply below_alloc | apply pw_below_drewN | apply below_drew1 | refine below_set ?_ GE268.out) | exact HB.out)) hb);clear HO259;clear HO262;clear BK268;clear HB;have HO259 := n0_;have HO262 := n1_;have HO271 := n2_;have BK268 := n3_;have HB := n4_;clear n0_ n1_ n2_ n3_ n4_;(try clear hb);(try clear hb2);(try clear hk);(try clear hi);(try clear ho0)) | ((with_reducible refine gate_callee (f := 76) rfl ?_);refine goesL_ (some 17) rfl rfl Try.func76 (by kernel_rfl) rfl #[.int .i64 6] rfl (by (try simp only [List.map_toArray,List.map_cons,List.map_nil]);first | done | rfl | (simp only [List.length_drop,List.length_take];rfl)) ?_;(with_reducible refine (verdererlaw28_u.calls 6 t272 _ A5.out).mono ?_);rintro e w31 ⟨v273,rfl,ho0,hb⟩;refine ⟨_,rfl,?_⟩;have n0_ := Aside0.mk (Kd.R_elder' (by (with_reducible repeat (first | apply Kd.R_alloc | apply Kd.R_drewN | apply Kd.R_drew));exact HO259.out) (Kd.R_base ho0) hb);have n1_ := Aside0.mk (Kd.R_elder' (by (with_reducible repeat (first | apply Kd.R_alloc | apply Kd.R_drewN | apply Kd.R_drew));exact HO262.out) (Kd.R_base ho0) hb);have n2_ := Aside0.mk (Kd.R_elder' (by (with_reducible repeat (first | apply Kd.R_alloc | apply Kd.R_drewN | apply Kd.R_drew));exact HO271.out) (Kd.R_base ho0) hb);have n3_ := Aside0.mk (Kd.R_lower (Kd.R_newB (Kd.R_new' (Kd.R_new' (Kd.R_new' ho0 (Kd.R_lt (by (with_reducible repeat (first | apply Kd.R_alloc | apply Kd.R_drewN | apply Kd.R_drew));exact HO259.out))) (Kd.R_lt (by (with_reducible repeat (first | apply Kd.R_alloc | apply Kd.R_drewN | apply Kd.R_drew));exact HO262.out))) (Kd.R_lt (by (with_reducible repeat (first | apply Kd.R_alloc | apply Kd.R_drewN | apply Kd.R_drew));exact HO271.out))) (g := gb268) (o := .cells #[.string t263,.string t264,.int .i64 t265,.int .i64 t266] 45 (0,0)) (by (with_reducible repeat (first | refine blk_drewN ?_ _ | refine blk_drew ?_ | refine blk_alloc ?_ _));exact BK268.out)) (below_size (by repeat (first | (with_reducible first | exact HB.out | apply below_alloc | apply pw_below_drewN | apply below_drew1 | refine below_set ?_ GE268.out) | exact HB.out))));have n4_ := Aside0.mk (blk_below (g := gb268) (o := .cells #[.string t263,.string t264,.int .i64 t265,.int .i64 t266] 45 (0,0)) (by (with_reducible repeat (first | refine blk_drewN ?_ _ | refine blk_drew ?_ | refine blk_alloc ?_ _));exact BK268.out) hb);have n5_ := Aside0.mk (below_step (by repeat (first | (with_reducible first | exact HB.out | apply below_alloc | apply pw_below_drewN | apply below_drew1 | refine below_set ?_ GE268.out) | exact HB.out)) hb);clear HO259;clear HO262;clear HO271;clear BK268;clear HB;have HO259 := n0_;have HO262 := n1_;have HO271 := n2_;have HO274 := n3_;have BK268 := n4_;have HB := n5_;clear n0_ n1_ n2_ n3_ n4_ n5_;(try clear hb);(try clear hb2);(try clear hk);(try clear hi);(try clear ho0);obtain ⟨Ao32,co32,eo32⟩ := Kd.R_slice HO271.out;subst eo32;obtain ⟨Ao33,co33,eo33⟩ := Kd.R_slice HO274.out;subst eo33) | ((with_reducible refine gate_callee (f := 45) rfl ?_);refine goesL_ (some 18) rfl rfl Try.func45 (by kernel_rfl) rfl #[.slice Ao32 t269.length co32,.slice Ao33 t272.length co33] rfl (by (try simp only [List.map_toArray,List.map_cons,List.map_nil]);first | done | rfl | (simp only [List.length_drop,List.length_take];rfl)) ?_;(with_reducible refine (quota_Judge.calls k _ _ t269 _ _ t272 t275 t276 t277 t278 t279 _ ?side1 ?side2 ?side3 ?side4 A6.out).mono ?_);(case side1 => repeat (first | exact (Kd.R_reads' HO271.out).2.2 | (with_reducible refine Kd.C_alloc ?_ _) | (with_reducible refine Kd.C_drewN ?_ _) | (with_reducible refine Kd.C_drew ?_)));(case side2 => exact (Kd.R_reads' HO271.out).2.1);(case side3 => repeat (first | exact (Kd.R_reads' HO274.out).2.2 | (with_reducible refine Kd.C_alloc ?_ _) | (with_reducible refine Kd.C_drewN ?_ _) | (with_reducible refine Kd.C_drew ?_)));(case side4 => exact (Kd.R_reads' HO274.out).2.1);rintro e w34 ⟨rfl,hb⟩;refine ⟨_,rfl,?_⟩;have n0_ := Aside0.mk (Kd.R_below (by (with_reducible repeat (first | apply Kd.R_alloc | apply Kd.R_drewN | apply Kd.R_drew));exact HO259.out) hb);have n1_ := Aside0.mk (Kd.R_below (by (with_reducible repeat (first | apply Kd.R_alloc | apply Kd.R_drewN | apply Kd.R_drew));exact HO262.out) hb);have n2_ := Aside0.mk (Kd.R_below (by (with_reducible repeat (first | apply Kd.R_alloc | apply Kd.R_drewN | apply Kd.R_drew));exact HO271.out) hb);have n3_ := Aside0.mk (Kd.R_below (by (with_reducible repeat (first | apply Kd.R_alloc | apply Kd.R_drewN | apply Kd.R_drew));exact HO274.out) hb);have n4_ := Aside0.mk (blk_below (g := gb268) (o := .cells #[.string t263,.string t264,.int .i64 t265,.int .i64 t266] 45 (0,0)) (by (with_reducible repeat (first | refine blk_drewN ?_ _ | refine blk_drew ?_ | refine blk_alloc ?_ _));exact BK268.out) hb);have n5_ := Aside0.mk (below_step (by repeat (first | (with_reducible first | exact HB.out | apply below_alloc | apply pw_below_drewN | apply below_drew1 | refine below_set ?_ GE268.out) | exact HB.out)) hb);clear HO259;clear HO262;clear HO271;clear HO274;clear BK268;clear HB;have HO259 := n0_;have HO262 := n1_;have HO271 := n2_;have HO274 := n3_;have BK268 := n4_;have HB := n5_;clear n0_ n1_ n2_ n3_ n4_ n5_;(try clear hb);(try clear hb2);(try clear hk);(try clear hi)) | ((with_reducible refine gate_dst (N := 3) rfl ?_);(try (refine gate_guard (by rfl) ?_;dsimp only));refine box_event ?hg (N := 3) ?hd (cs := #[.string (⟨#[]⟩ : ByteArray),.string (⟨#[]⟩ : ByteArray),.int .i64 0,.int .i64 0]) (t := 45) ?hr ?_;(case hd => rfl);(case hg => rfl);(case hr => first | (go_simp;done) | (go_simp;rfl));intro gb280 hg w35 hbox hb;have n0_ := Aside0.mk (Kd.R_below (Kd.R_elderB (by (with_reducible repeat (first | apply Kd.R_alloc | apply Kd.R_drewN | apply Kd.R_drew));exact HO259.out) gb280 (Nat.le_of_eq hg.symm)) hb);have n1_ := Aside0.mk (Kd.R_below (Kd.R_elderB (by (with_reducible repeat (first | apply Kd.R_alloc | apply Kd.R_drewN | apply Kd.R_drew));exact HO262.out) gb280 (Nat.le_of_eq hg.symm)) hb);have n2_ := Aside0.mk (Kd.R_below (Kd.R_elderB (by (with_reducible repeat (first | apply Kd.R_alloc | apply Kd.R_drewN | apply Kd.R_drew));exact HO271.out) gb280 (Nat.le_of_eq hg.symm)) hb);have n3_ := Aside0.mk (Kd.R_below (Kd.R_elderB (by (with_reducible repeat (first | apply Kd.R_alloc | apply Kd.R_drewN | apply Kd.R_drew));exact HO274.out) gb280 (Nat.le_of_eq hg.symm)) hb);have n4_ := Aside0.mk (blk_below (g := gb268) (o := .cells #[.string t263,.string t264,.int .i64 t265,.int .i64 t266] 45 (0,0)) (by (with_reducible repeat (first | refine blk_drewN ?_ _ | refine blk_drew ?_ | refine blk_alloc ?_ _));exact BK268.out) hb);have n5_ := Aside0.mk (below_step (by repeat (first | (with_reducible first | exact HB.out | apply below_alloc | apply pw_below_drewN | apply below_drew1 | refine below_set ?_ GE268.out) | exact HB.out)) hb);have n6_ := Aside0.mk (hbox);have n7_ := Aside0.mk ((by rw [hg];exact (below_size (by repeat (first | (with_reducible first | exact HB.out | apply below_alloc | apply pw_below_drewN | apply below_drew1 | refine below_set ?_ GE268.out) | exact HB.out))) : w.heap.size ≤ gb280));have n8_ := Aside0.mk ((by rw [hg];exact (below_size (by repeat (first | (with_reducible first | exact HB.out | apply below_alloc | apply pw_below_drewN | apply below_drew1 | refine below_set ?_ GE268.out) | exact HB.out))) : w.heap.size ≤ gb280));have n9_ := Aside0.mk ((by rw [hg];exact Nat.ne_of_lt (blk_lt (g := gb268) (o := .cells #[.string t263,.string t264,.int .i64 t265,.int .i64 t266] 45 (0,0)) (by (with_reducible repeat (first | refine blk_drewN ?_ _ | refine blk_drew ?_ | refine blk_alloc ?_ _));exact BK268.out)) : gb268 ≠ gb280));have n10_ := Aside0.mk ((by rw [hg];exact Nat.ne_of_gt (blk_lt (g := gb268) (o := .cells #[.string t263,.string t264,.int .i64 t265,.int .i64 t266] 45 (0,0)) (by (with_reducible repeat (first | refine blk_drewN ?_ _ | refine blk_drew ?_ | refine blk_alloc ?_ _));exact BK268.out)) : gb280 ≠ gb268));clear HO259;clear HO262;clear HO271;clear HO274;clear BK268;clear HB;have HO259 := n0_;have HO262 := n1_;have HO271 := n2_;have HO274 := n3_;have BK268 := n4_;have HB := n5_;have BK280 := n6_;have GW280 := n7_;have GE280 := n8_;have NB268_280 := n9_;have NB280_268 := n10_;clear n0_ n1_ n2_ n3_ n4_ n5_ n6_ n7_ n8_ n9_ n10_;clear hb hbox hg;have hnb36 := NB280_268.out;have hnc36 := NB268_280.out;have hcz37_0 : w35.cell? ⟨gb280,0,none⟩ = some (.string (⟨#[]⟩ : ByteArray)) := (blk_cell BK280.out 0).trans rfl;have hcz37_1 : w35.cell? ⟨gb280,1,none⟩ = some (.string (⟨#[]⟩ : ByteArray)) := (blk_cell BK280.out 1).trans rfl;have hcz37_2 : w35.cell? ⟨gb280,2,none⟩ = some (.int .i64 0) := (blk_cell BK280.out 2).trans rfl;have hcz37_3 : w35.cell? ⟨gb280,3,none⟩ = some (.int .i64 0) := (blk_cell BK280.out 3).trans rfl;have hfz37_0 := blk_frozen BK280.out 0;have hfz37_1 := blk_frozen BK280.out 1;have hfz37_2 := blk_frozen BK280.out 2;have hfz37_3 := blk_frozen BK280.out 3) | ((with_reducible refine gate_callee (f := 76) rfl ?_);refine goesL_ (some 22) rfl rfl Try.func76 (by kernel_rfl) rfl #[.int .i64 7] rfl (by (try simp only [List.map_toArray,List.map_cons,List.map_nil]);first | done | rfl | (simp only [List.length_drop,List.length_take];rfl)) ?_;(with_reducible refine (verdererlaw28_u.calls 7 t281 _ A7.out).mono ?_);rintro e w38 ⟨v282,rfl,ho0,hb⟩;refine ⟨_,rfl,?_⟩;have n0_ := Aside0.mk (Kd.R_elder' (by (with_reducible repeat (first | apply Kd.R_alloc | apply Kd.R_drewN | apply Kd.R_drew));exact (Kd.R_mono (Kd.R_far (p := ⟨gb280,3,none⟩) (Kd.R_far (p := ⟨gb280,2,none⟩) (Kd.R_far (p := ⟨gb280,1,none⟩) (Kd.R_far (p := ⟨gb280,0,none⟩) (Kd.R_mono HO259.out (fun k_ hk => (⟨hk,hk.2⟩ : _ ∧ k_ ≠ gb280))) (fun _ hk => hk.2) (.string t275)) (fun _ hk => hk.2) (.string t276)) (fun _ hk => hk.2) (.int .i64 t277)) (fun _ hk => hk.2) (.int .i64 t278)) (fun _ h_ => h_.1))) (Kd.R_base ho0) hb);have n1_ := Aside0.mk (Kd.R_elder' (by (with_reducible repeat (first | apply Kd.R_alloc | apply Kd.R_drewN | apply Kd.R_drew));exact (Kd.R_mono (Kd.R_far (p := ⟨gb280,3,none⟩) (Kd.R_far (p := ⟨gb280,2,none⟩) (Kd.R_far (p := ⟨gb280,1,none⟩) (Kd.R_far (p := ⟨gb280,0,none⟩) (Kd.R_mono HO262.out (fun k_ hk => (⟨hk,hk.2⟩ : _ ∧ k_ ≠ gb280))) (fun _ hk => hk.2) (.string t275)) (fun _ hk => hk.2) (.string t276)) (fun _ hk => hk.2) (.int .i64 t277)) (fun _ hk => hk.2) (.int .i64 t278)) (fun _ h_ => h_.1))) (Kd.R_base ho0) hb);have n2_ := Aside0.mk (Kd.R_elder' (by (with_reducible repeat (first | apply Kd.R_alloc | apply Kd.R_drewN | apply Kd.R_drew));exact (Kd.R_mono (Kd.R_far (p := ⟨gb280,3,none⟩) (Kd.R_far (p := ⟨gb280,2,none⟩) (Kd.R_far (p := ⟨gb280,1,none⟩) (Kd.R_far (p := ⟨gb280,0,none⟩) (Kd.R_mono HO271.out (fun k_ hk => (⟨hk,hk.2⟩ : _ ∧ k_ ≠ gb280))) (fun _ hk => hk.2) (.string t275)) (fun _ hk => hk.2) (.string t276)) (fun _ hk => hk.2) (.int .i64 t277)) (fun _ hk => hk.2) (.int .i64 t278)) (fun _ h_ => h_.1))) (Kd.R_base ho0) hb);have n3_ := Aside0.mk (Kd.R_elder' (by (with_reducible repeat (first | apply Kd.R_alloc | apply Kd.R_drewN | apply Kd.R_drew));exact (Kd.R_mono (Kd.R_far (p := ⟨gb280,3,none⟩) (Kd.R_far (p := ⟨gb280,2,none⟩) (Kd.R_far (p := ⟨gb280,1,none⟩) (Kd.R_far (p := ⟨gb280,0,none⟩) (Kd.R_mono HO274.out (fun k_ hk => (⟨hk,hk.2⟩ : _ ∧ k_ ≠ gb280))) (fun _ hk => hk.2) (.string t275)) (fun _ hk => hk.2) (.string t276)) (fun _ hk => hk.2) (.int .i64 t277)) (fun _ hk => hk.2) (.int .i64 t278)) (fun _ h_ => h_.1))) (Kd.R_base ho0) hb);have n4_ := Aside0.mk (Kd.R_lower (Kd.R_newB (Kd.R_newB (Kd.R_new' (Kd.R_new' (Kd.R_new' (Kd.R_new' ho0 (Kd.R_lt (by (with_reducible repeat (first | apply Kd.R_alloc | apply Kd.R_drewN | apply Kd.R_drew));exact (Kd.R_mono (Kd.R_far (p := ⟨gb280,3,none⟩) (Kd.R_far (p := ⟨gb280,2,none⟩) (Kd.R_far (p := ⟨gb280,1,none⟩) (Kd.R_far (p := ⟨gb280,0,none⟩) (Kd.R_mono HO259.out (fun k_ hk => (⟨hk,hk.2⟩ : _ ∧ k_ ≠ gb280))) (fun _ hk => hk.2) (.string t275)) (fun _ hk => hk.2) (.string t276)) (fun _ hk => hk.2) (.int .i64 t277)) (fun _ hk => hk.2) (.int .i64 t278)) (fun _ h_ => h_.1))))) (Kd.R_lt (by (with_reducible repeat (first | apply Kd.R_alloc | apply Kd.R_drewN | apply Kd.R_drew));exact (Kd.R_mono (Kd.R_far (p := ⟨gb280,3,none⟩) (Kd.R_far (p := ⟨gb280,2,none⟩) (Kd.R_far (p := ⟨gb280,1,none⟩) (Kd.R_far (p := ⟨gb280,0,none⟩) (Kd.R_mono HO262.out (fun k_ hk => (⟨hk,hk.2⟩ : _ ∧ k_ ≠ gb280))) (fun _ hk => hk.2) (.string t275)) (fun _ hk => hk.2) (.string t276)) (fun _ hk => hk.2) (.int .i64 t277)) (fun _ hk => hk.2) (.int .i64 t278)) (fun _ h_ => h_.1))))) (Kd.R_lt (by (with_reducible repeat (first | apply Kd.R_alloc | apply Kd.R_drewN | apply Kd.R_drew));exact (Kd.R_mono (Kd.R_far (p := ⟨gb280,3,none⟩) (Kd.R_far (p := ⟨gb280,2,none⟩) (Kd.R_far (p := ⟨gb280,1,none⟩) (Kd.R_far (p := ⟨gb280,0,none⟩) (Kd.R_mono HO271.out (fun k_ hk => (⟨hk,hk.2⟩ : _ ∧ k_ ≠ gb280))) (fun _ hk => hk.2) (.string t275)) (fun _ hk => hk.2) (.string t276)) (fun _ hk => hk.2) (.int .i64 t277)) (fun _ hk => hk.2) (.int .i64 t278)) (fun _ h_ => h_.1))))) (Kd.R_lt (by (with_reducible repeat (first | apply Kd.R_alloc | apply Kd.R_drewN | apply Kd.R_drew));exact (Kd.R_mono (Kd.R_far (p := ⟨gb280,3,none⟩) (Kd.R_far (p := ⟨gb280,2,none⟩) (Kd.R_far (p := ⟨gb280,1,none⟩) (Kd.R_far (p := ⟨gb280,0,none⟩) (Kd.R_mono HO274.out (fun k_ hk => (⟨hk,hk.2⟩ : _ ∧ k_ ≠ gb280))) (fun _ hk => hk.2) (.string t275)) (fun _ hk => hk.2) (.string t276)) (fun _ hk => hk.2) (.int .i64 t277)) (fun _ hk => hk.2) (.int .i64 t278)) (fun _ h_ => h_.1))))) (g := gb268) (o := .cells #[.string t263,.string t264,.int .i64 t265,.int .i64 t266] 45 (0,0)) (by (with_reducible repeat (first | refine blk_drewN ?_ _ | refine blk_drew ?_ | refine blk_alloc ?_ _));refine blk_far ?_ NB268_280.out _;(with_reducible repeat (first | refine blk_drewN ?_ _ | refine blk_drew ?_ | refine blk_alloc ?_ _));refine blk_far ?_ NB268_280.out _;(with_reducible repeat (first | refine blk_drewN ?_ _ | refine blk_drew ?_ | refine blk_alloc ?_ _));refine blk_far ?_ NB268_280.out _;(with_reducible repeat (first | refine blk_drewN ?_ _ | refine blk_drew ?_ | refine blk_alloc ?_ _));refine blk_far ?_ NB268_280.out _;(with_reducible repeat (first | refine blk_drewN ?_ _ | refine blk_drew ?_ | refine blk_alloc ?_ _));exact BK268.out)) (g := gb280) (o := .cells #[.string t275,.string t276,.int .i64 t277,.int .i64 t278] 45 (0,0)) (by (with_reducible repeat (first | refine blk_drewN ?_ _ | refine blk_drew ?_ | refine blk_alloc ?_ _));refine blk_put (cs := #[.string t275,.string t276,.int .i64 t277,.int .i64 0]) ?_ 3 _ rfl;(with_reducible repeat (first | refine blk_drewN ?_ _ | refine blk_drew ?_ | refine blk_alloc ?_ _));refine blk_put (cs := #[.string t275,.string t276,.int .i64 0,.int .i64 0]) ?_ 2 _ rfl;(with_reducible repeat (first | refine blk_drewN ?_ _ | refine blk_drew ?_ | refine blk_alloc ?_ _));refine blk_put (cs := #[.string t275,.string (⟨#[]⟩ : ByteArray),.int .i64 0,.int .i64 0]) ?_ 1 _ rfl;(with_reducible repeat (first | refine blk_drewN ?_ _ | refine blk_drew ?_ | refine blk_alloc ?_ _));refine blk_put (cs := #[.string (⟨#[]⟩ : ByteArray),.string (⟨#[]⟩ : ByteArray),.int .i64 0,.int .i64 0]) ?_ 0 _ rfl;(with_reducible repeat (first | refine blk_drewN ?_ _ | refine blk_drew ?_ | refine blk_alloc ?_ _));exact BK280.out)) (below_size (by repeat (first | (with_reducible first | exact HB.out | apply below_alloc | apply pw_below_drewN | apply below_drew1 | refine below_set ?_ GE268.out | refine below_set ?_ GE280.out) | exact HB.out))));have n5_ := Aside0.mk (blk_below (g := gb268) (o := .cells #[.string t263,.string t264,.int .i64 t265,.int .i64 t266] 45 (0,0)) (by (with_reducible repeat (first | refine blk_drewN ?_ _ | refine blk_drew ?_ | refine blk_alloc ?_ _));refine blk_far ?_ NB268_280.out _;(with_reducible repeat (first | refine blk_drewN ?_ _ | refine blk_drew ?_ | refine blk_alloc ?_ _));refine blk_far ?_ NB268_280.out _;(with_reducible repeat (first | refine blk_drewN ?_ _ | refine blk_drew ?_ | refine blk_alloc ?_ _));refine blk_far ?_ NB268_280.out _;(with_reducible repeat (first | refine blk_drewN ?_ _ | refine blk_drew ?_ | refine blk_alloc ?_ _));refine blk_far ?_ NB268_280.out _;(with_reducible repeat (first | refine blk_drewN ?_ _ | refine blk_drew ?_ | refine blk_alloc ?_ _));exact BK268.out) hb);have n6_ := Aside0.mk (blk_below (g := gb280) (o := .cells #[.string t275,.string t276,.int .i64 t277,.int .i64 t278] 45 (0,0)) (by (with_reducible repeat (first | refine blk_drewN ?_ _ | refine blk_drew ?_ | refine blk_alloc ?_ _));refine blk_put (cs := #[.string t275,.string t276,.int .i64 t277,.int .i64 0]) ?_ 3 _ rfl;(with_reducible repeat (first | refine blk_drewN ?_ _ | refine blk_drew ?_ | refine blk_alloc ?_ _));refine blk_put (cs := #[.string t275,.string t276,.int .i64 0,.int .i64 0]) ?_ 2 _ rfl;(with_reducible repeat (first | refine blk_drewN ?_ _ | refine blk_drew ?_ | refine blk_alloc ?_ _));refine blk_put (cs := #[.string t275,.string (⟨#[]⟩ : ByteArray),.int .i64 0,.int .i64 0]) ?_ 1 _ rfl;(with_reducible repeat (first | refine blk_drewN ?_ _ | refine blk_drew ?_ | refine blk_alloc ?_ _));refine blk_put (cs := #[.string (⟨#[]⟩ : ByteArray),.string (⟨#[]⟩ : ByteArray),.int .i64 0,.int .i64 0]) ?_ 0 _ rfl;(with_reducible repeat (first | refine blk_drewN ?_ _ | refine blk_drew ?_ | refine blk_alloc ?_ _));exact BK280.out) hb);have n7_ := Aside0.mk (below_step (by repeat (first | (with_reducible first | exact HB.out | apply below_alloc | apply pw_below_drewN | apply below_drew1 | refine below_set ?_ GE268.out | refine below_set ?_ GE280.out) | exact HB.out)) hb);clear HO259;clear HO262;clear HO271;clear HO274;clear BK268;clear BK280;clear HB;have HO259 := n0_;have HO262 := n1_;have HO271 := n2_;have HO274 := n3_;have HO283 := n4_;have BK268 := n5_;have BK280 := n6_;have HB := n7_;clear n0_ n1_ n2_ n3_ n4_ n5_ n6_ n7_;(try clear hb);(try clear hb2);(try clear hk);(try clear hi);(try clear ho0);obtain ⟨Ao39,co39,eo39⟩ := Kd.R_slice HO283.out;subst eo39;have p284 : 0 ≤ (0 : Int) := (by omega);have q284 : 0 < (t281.length : Int) := of_decide_eq_true (by first | (with_reducible assumption) | assumption);obtain ⟨ad284,e284,hx284_0,hx284_1,hx284_2,hx284_3⟩ := at_T45 (Kd.R_reads' HO283.out).2.2 0 p284 q284;cases e284;have qi284 : (0 < t281.length) = True := eq_true (by omega);(try rw [show ((0 : Int)).toNat = 0 from rfl] at hx284_0);(try rw [show 0 * 4 = 0 from rfl] at hx284_0);(try rw [Addr.add_zero'] at hx284_0);(try rw [show ((0 : Int)).toNat = 0 from rfl] at hx284_1);(try rw [show 0 * 4 = 0 from rfl] at hx284_1);(try rw [Addr.add_zero'] at hx284_1);(try rw [show ((0 : Int)).toNat = 0 from rfl] at hx284_2);(try rw [show 0 * 4 = 0 from rfl] at hx284_2);(try rw [Addr.add_zero'] at hx284_2);(try rw [show ((0 : Int)).toNat = 0 from rfl] at hx284_3);(try rw [show 0 * 4 = 0 from rfl] at hx284_3);(try rw [Addr.add_zero'] at hx284_3);replace p284 := eq_true p284;replace q284 := eq_true q284) | ((with_reducible refine gate_callee (f := 51) rfl ?_);refine goesL_ (some 25) rfl rfl Try.func51 (by kernel_rfl) rfl #[.agg #[.string ((rd_T45 t281 0).f0),.string ((rd_T45 t281 0).f1),.int .i64 ((rd_T45 t281 0).f2),.int .i64 ((rd_T45 t281 0).f3)]] rfl (by (try simp only [List.map_toArray,List.map_cons,List.map_nil]);first | done | rfl | (simp only [List.length_drop,List.length_take];rfl)) ?_;(with_reducible refine (quota_Room.calls ((rd_T45 t281 0).f0) ((rd_T45 t281 0).f1) ((rd_T45 t281 0).f2) ((rd_T45 t281 0).f3) t285 t286 _ A9.out).mono ?_);rintro e w40 ⟨rfl,hb⟩;refine ⟨_,rfl,?_⟩;have n0_ := Aside0.mk (Kd.R_below (by (with_reducible repeat (first | apply Kd.R_alloc | apply Kd.R_drewN | apply Kd.R_drew));exact HO259.out) hb);have n1_ := Aside0.mk (Kd.R_below (by (with_reducible repeat (first | apply Kd.R_alloc | apply Kd.R_drewN | apply Kd.R_drew));exact HO262.out) hb);have n2_ := Aside0.mk (Kd.R_below (by (with_reducible repeat (first | apply Kd.R_alloc | apply Kd.R_drewN | apply Kd.R_drew));exact HO271.out) hb);have n3_ := Aside0.mk (Kd.R_below (by (with_reducible repeat (first | apply Kd.R_alloc | apply Kd.R_drewN | apply Kd.R_drew));exact HO274.out) hb);have n4_ := Aside0.mk (Kd.R_below (by (with_reducible repeat (first | apply Kd.R_alloc | apply Kd.R_drewN | apply Kd.R_drew));exact HO283.out) hb);have n5_ := Aside0.mk (blk_below (g := gb268) (o := .cells #[.string t263,.string t264,.int .i64 t265,.int .i64 t266] 45 (0,0)) (by (with_reducible repeat (first | refine blk_drewN ?_ _ | refine blk_drew ?_ | refine blk_alloc ?_ _));exact BK268.out) hb);have n6_ := Aside0.mk (blk_below (g := gb280) (o := .cells #[.string t275,.string t276,.int .i64 t277,.int .i64 t278] 45 (0,0)) (by (with_reducible repeat (first | refine blk_drewN ?_ _ | refine blk_drew ?_ | refine blk_alloc ?_ _));exact BK280.out) hb);have n7_ := Aside0.mk (below_step (by repeat (first | (with_reducible first | exact HB.out | apply below_alloc | apply pw_below_drewN | apply below_drew1 | refine below_set ?_ GE268.out | refine below_set ?_ GE280.out) | exact HB.out)) hb);clear HO259;clear HO262;clear HO271;clear HO274;clear HO283;clear BK268;clear BK280;clear HB;have HO259 := n0_;have HO262 := n1_;have HO271 := n2_;have HO274 := n3_;have HO283 := n4_;have BK268 := n5_;have BK280 := n6_;have HB := n7_;clear n0_ n1_ n2_ n3_ n4_ n5_ n6_ n7_;(try clear hb);(try clear hb2);(try clear hk);(try clear hi)) | ((with_reducible refine gate_callee (f := 76) rfl ?_);refine goesL_ (some 29) rfl rfl Try.func76 (by kernel_rfl) rfl #[.int .i64 4] rfl (by (try simp only [List.map_toArray,List.map_cons,List.map_nil]);first | done | rfl | (simp only [List.length_drop,List.length_take];rfl)) ?_;(with_reducible refine (verdererlaw28_u.calls 4 t287 _ A10.out).mono ?_);rintro e w41 ⟨v288,rfl,ho0,hb⟩;refine ⟨_,rfl,?_⟩;have n0_ := Aside0.mk (Kd.R_elder' (by (with_reducible repeat (first | apply Kd.R_alloc | apply Kd.R_drewN | apply Kd.R_drew));exact HO259.out) (Kd.R_base ho0) hb);have n1_ := Aside0.mk (Kd.R_elder' (by (with_reducible repeat (first | apply Kd.R_alloc | apply Kd.R_drewN | apply Kd.R_drew));exact HO262.out) (Kd.R_base ho0) hb);have n2_ := Aside0.mk (Kd.R_elder' (by (with_reducible repeat (first | apply Kd.R_alloc | apply Kd.R_drewN | apply Kd.R_drew));exact HO271.out) (Kd.R_base ho0) hb);have n3_ := Aside0.mk (Kd.R_elder' (by (with_reducible repeat (first | apply Kd.R_alloc | apply Kd.R_drewN | apply Kd.R_drew));exact HO274.out) (Kd.R_base ho0) hb);have n4_ := Aside0.mk (Kd.R_elder' (by (with_reducible repeat (first | apply Kd.R_alloc | apply Kd.R_drewN | apply Kd.R_drew));exact HO283.out) (Kd.R_base ho0) hb);have n5_ := Aside0.mk (Kd.R_lower (Kd.R_newB (Kd.R_newB (Kd.R_new' (Kd.R_new' (Kd.R_new' (Kd.R_new' (Kd.R_new' ho0 (Kd.R_lt (by (with_reducible repeat (first | apply Kd.R_alloc | apply Kd.R_drewN | apply Kd.R_drew));exact HO259.out))) (Kd.R_lt (by (with_reducible repeat (first | apply Kd.R_alloc | apply Kd.R_drewN | apply Kd.R_drew));exact HO262.out))) (Kd.R_lt (by (with_reducible repeat (first | apply Kd.R_alloc | apply Kd.R_drewN | apply Kd.R_drew));exact HO271.out))) (Kd.R_lt (by (with_reducible repeat (first | apply Kd.R_alloc | apply Kd.R_drewN | apply Kd.R_drew));exact HO274.out))) (Kd.R_lt (by (with_reducible repeat (first | apply Kd.R_alloc | apply Kd.R_drewN | apply Kd.R_drew));exact HO283.out))) (g := gb268) (o := .cells #[.string t263,.string t264,.int .i64 t265,.int .i64 t266] 45 (0,0)) (by (with_reducible repeat (first | refine blk_drewN ?_ _ | refine blk_drew ?_ | refine blk_alloc ?_ _));exact BK268.out)) (g := gb280) (o := .cells #[.string t275,.string t276,.int .i64 t277,.int .i64 t278] 45 (0,0)) (by (with_reducible repeat (first | refine blk_drewN ?_ _ | refine blk_drew ?_ | refine blk_alloc ?_ _));exact BK280.out)) (below_size (by repeat (first | (with_reducible first | exact HB.out | apply below_alloc | apply pw_below_drewN | apply below_drew1 | refine below_set ?_ GE268.out | refine below_set ?_ GE280.out) | exact HB.out))));have n6_ := Aside0.mk (blk_below (g := gb268) (o := .cells #[.string t263,.string t264,.int .i64 t265,.int .i64 t266] 45 (0,0)) (by (with_reducible repeat (first | refine blk_drewN ?_ _ | refine blk_drew ?_ | refine blk_alloc ?_ _));exact BK268.out) hb);have n7_ := Aside0.mk (blk_below (g := gb280) (o := .cells #[.string t275,.string t276,.int .i64 t277,.int .i64 t278] 45 (0,0)) (by (with_reducible repeat (first | refine blk_drewN ?_ _ | refine blk_drew ?_ | refine blk_alloc ?_ _));exact BK280.out) hb);have n8_ := Aside0.mk (below_step (by repeat (first | (with_reducible first | exact HB.out | apply below_alloc | apply pw_below_drewN | apply below_drew1 | refine below_set ?_ GE268.out | refine below_set ?_ GE280.out) | exact HB.out)) hb);clear HO259;clear HO262;clear HO271;clear HO274;clear HO283;clear BK268;clear BK280;clear HB;have HO259 := n0_;have HO262 := n1_;have HO271 := n2_;have HO274 := n3_;have HO283 := n4_;have HO289 := n5_;have BK268 := n6_;have BK280 := n7_;have HB := n8_;clear n0_ n1_ n2_ n3_ n4_ n5_ n6_ n7_ n8_;(try clear hb);(try clear hb2);(try clear hk);(try clear hi);(try clear ho0)) | ((with_reducible refine gate_callee (f := 76) rfl ?_);refine goesL_ (some 30) rfl rfl Try.func76 (by kernel_rfl) rfl #[.int .i64 9] rfl (by (try simp only [List.map_toArray,List.map_cons,List.map_nil]);first | done | rfl | (simp only [List.length_drop,List.length_take];rfl)) ?_;(with_reducible refine (verdererlaw28_u.calls 9 t290 _ A11.out).mono ?_);rintro e w42 ⟨v291,rfl,ho0,hb⟩;refine ⟨_,rfl,?_⟩;have n0_ := Aside0.mk (Kd.R_elder' (by (with_reducible repeat (first | apply Kd.R_alloc | apply Kd.R_drewN | apply Kd.R_drew));exact HO259.out) (Kd.R_base ho0) hb);have n1_ := Aside0.mk (Kd.R_elder' (by (with_reducible repeat (first | apply Kd.R_alloc | apply Kd.R_drewN | apply Kd.R_drew));exact HO262.out) (Kd.R_base ho0) hb);have n2_ := Aside0.mk (Kd.R_elder' (by (with_reducible repeat (first | apply Kd.R_alloc | apply Kd.R_drewN | apply Kd.R_drew));exact HO271.out) (Kd.R_base ho0) hb);have n3_ := Aside0.mk (Kd.R_elder' (by (with_reducible repeat (first | apply Kd.R_alloc | apply Kd.R_drewN | apply Kd.R_drew));exact HO274.out) (Kd.R_base ho0) hb);have n4_ := Aside0.mk (Kd.R_elder' (by (with_reducible repeat (first | apply Kd.R_alloc | apply Kd.R_drewN | apply Kd.R_drew));exact HO283.out) (Kd.R_base ho0) hb);have n5_ := Aside0.mk (Kd.R_elder' (by (with_reducible repeat (first | apply Kd.R_alloc | apply Kd.R_drewN | apply Kd.R_drew));exact HO289.out) (Kd.R_base ho0) hb);have n6_ := Aside0.mk (Kd.R_lower (Kd.R_newB (Kd.R_newB (Kd.R_new' (Kd.R_new' (Kd.R_new' (Kd.R_new' (Kd.R_new' (Kd.R_new' ho0 (Kd.R_lt (by (with_reducible repeat (first | apply Kd.R_alloc | apply Kd.R_drewN | apply Kd.R_drew));exact HO259.out))) (Kd.R_lt (by (with_reducible repeat (first | apply Kd.R_alloc | apply Kd.R_drewN | apply Kd.R_drew));exact HO262.out))) (Kd.R_lt (by (with_reducible repeat (first | apply Kd.R_alloc | apply Kd.R_drewN | apply Kd.R_drew));exact HO271.out))) (Kd.R_lt (by (with_reducible repeat (first | apply Kd.R_alloc | apply Kd.R_drewN | apply Kd.R_drew));exact HO274.out))) (Kd.R_lt (by (with_reducible repeat (first | apply Kd.R_alloc | apply Kd.R_drewN | apply Kd.R_drew));exact HO283.out))) (Kd.R_lt (by (with_reducible repeat (first | apply Kd.R_alloc | apply Kd.R_drewN | apply Kd.R_drew));exact HO289.out))) (g := gb268) (o := .cells #[.string t263,.string t264,.int .i64 t265,.int .i64 t266] 45 (0,0)) (by (with_reducible repeat (first | refine blk_drewN ?_ _ | refine blk_drew ?_ | refine blk_alloc ?_ _));exact BK268.out)) (g := gb280) (o := .cells #[.string t275,.string t276,.int .i64 t277,.int .i64 t278] 45 (0,0)) (by (with_reducible repeat (first | refine blk_drewN ?_ _ | refine blk_drew ?_ | refine blk_alloc ?_ _));exact BK280.out)) (below_size (by repeat (first | (with_reducible first | exact HB.out | apply below_alloc | apply pw_below_drewN | apply below_drew1 | refine below_set ?_ GE268.out | refine below_set ?_ GE280.out) | exact HB.out))));have n7_ := Aside0.mk (blk_below (g := gb268) (o := .cells #[.string t263,.string t264,.int .i64 t265,.int .i64 t266] 45 (0,0)) (by (with_reducible repeat (first | refine blk_drewN ?_ _ | refine blk_drew ?_ | refine blk_alloc ?_ _));exact BK268.out) hb);have n8_ := Aside0.mk (blk_below (g := gb280) (o := .cells #[.string t275,.string t276,.int .i64 t277,.int .i64 t278] 45 (0,0)) (by (with_reducible repeat (first | refine blk_drewN ?_ _ | refine blk_drew ?_ | refine blk_alloc ?_ _));exact BK280.out) hb);have n9_ := Aside0.mk (below_step (by repeat (first | (with_reducible first | exact HB.out | apply below_alloc | apply pw_below_drewN | apply below_drew1 | refine below_set ?_ GE268.out | refine below_set ?_ GE280.out) | exact HB.out)) hb);clear HO259;clear HO262;clear HO271;clear HO274;clear HO283;clear HO289;clear BK268;clear BK280;clear HB;have HO259 := n0_;have HO262 := n1_;have HO271 := n2_;have HO274 := n3_;have HO283 := n4_;have HO289 := n5_;have HO292 := n6_;have BK268 := n7_;have BK280 := n8_;have HB := n9_;clear n0_ n1_ n2_ n3_ n4_ n5_ n6_ n7_ n8_ n9_;(try clear hb);(try clear hb2);(try clear hk);(try clear hi);(try clear ho0);obtain ⟨Ao44,co44,eo44⟩ := Kd.R_slice HO292.out;subst eo44) | ((with_reducible refine gate_builtin (b := .append) (xs := #[.tmp 29,.tmp 30]) rfl ?_);(try (refine gate_guard (by rfl) ?_;dsimp only));at_builtin;refine Kd.R_append_rows k45 (w0 := w) w.heap.size rfl (.tmp 29) (.tmp 30) 53 45 (.agg #[(.string ⟨#[]⟩),(.string ⟨#[]⟩),(.int .i64 0),(.int .i64 0)]) 48 rfl Try.underlying53 info45 rfl (by decide) (by omega) v288 t287 t290 _ _ _ (fun k_ => some k_ ≠ (.slice Ao25 t257.length co25 : Value).ownBlock ∧ some k_ ≠ (.slice Ao26 t260.length co26 : Value).ownBlock ∧ some k_ ≠ (.slice Ao32 t269.length co32 : Value).ownBlock ∧ some k_ ≠ (.slice Ao33 t272.length co33 : Value).ownBlock ∧ some k_ ≠ (.slice (some ad284) t281.length co39 : Value).ownBlock ∧ some k_ ≠ (.slice Ao44 t290.length co44 : Value).ownBlock ∧ k_ ≠ gb268 ∧ k_ ≠ gb280) (fun _ => False) rfl rfl ?aO ?aR (fun _ _ h => h) (fun _ h => h.elim) ?aF ?aB ?aS ?aL ?_;(case aR => repeat (first | exact (Kd.R_reads' HO292.out).2.2 | (with_reducible refine Kd.C_alloc ?_ _) | (with_reducible refine Kd.C_drewN ?_ _) | (with_reducible refine Kd.C_drew ?_)));(case aB => exact (by repeat (first | (with_reducible first | exact HB.out | apply below_alloc | apply pw_below_drewN | apply below_drew1 | refine below_set ?_ GE268.out | refine below_set ?_ GE280.out) | exact HB.out)));(case aF => exact (fun k_ hk => ⟨Kd.fresh' (Kd.R_lt (by (with_reducible repeat (first | apply Kd.R_alloc | apply Kd.R_drewN | apply Kd.R_drew));exact HO259.out)) k_ hk,Kd.fresh' (Kd.R_lt (by (with_reducible repeat (first | apply Kd.R_alloc | apply Kd.R_drewN | apply Kd.R_drew));exact HO262.out)) k_ hk,Kd.fresh' (Kd.R_lt (by (with_reducible repeat (first | apply Kd.R_alloc | apply Kd.R_drewN | apply Kd.R_drew));exact HO271.out)) k_ hk,Kd.fresh' (Kd.R_lt (by (with_reducible repeat (first | apply Kd.R_alloc | apply Kd.R_drewN | apply Kd.R_drew));exact HO274.out)) k_ hk,Kd.fresh' (Kd.R_lt (by (with_reducible repeat (first | apply Kd.R_alloc | apply Kd.R_drewN | apply Kd.R_drew));exact HO283.out)) k_ hk,Kd.fresh' (Kd.R_lt (by (with_reducible repeat (first | apply Kd.R_alloc | apply Kd.R_drewN | apply Kd.R_drew));exact HO292.out)) k_ hk,Kd.freshB (g := gb268) (o := .cells #[.string t263,.string t264,.int .i64 t265,.int .i64 t266] 45 (0,0)) (by (with_reducible repeat (first | refine blk_drewN ?_ _ | refine blk_drew ?_ | refine blk_alloc ?_ _));exact BK268.out) k_ hk,Kd.freshB (g := gb280) (o := .cells #[.string t275,.string t276,.int .i64 t277,.int .i64 t278] 45 (0,0)) (by (with_reducible repeat (first | refine blk_drewN ?_ _ | refine blk_drew ?_ | refine blk_alloc ?_ _));exact BK280.out) k_ hk⟩));(case aO => exact (by (with_reducible repeat (first | apply Kd.R_alloc | apply Kd.R_drewN | apply Kd.R_drew));exact Kd.R_mono HO289.out (fun _ hk => ⟨hk.1.1.1.1.1.1.1.2,⟨hk.1.1.1.1.1.1.2,⟨hk.1.1.1.1.1.2,⟨hk.1.1.1.1.2,⟨hk.1.1.1.2,⟨hk.2,⟨hk.1.1.2,hk.1.2⟩⟩⟩⟩⟩⟩⟩)));(case aS => exact (below_size (by repeat (first | (with_reducible first | exact HB.out | apply below_alloc | apply pw_below_drewN | apply below_drew1 | refine below_set ?_ GE268.out | refine below_set ?_ GE280.out) | exact HB.out))));(case aL => have := LMc12.out;omega);intro v294 w43 ho hb hg hat;rw [← Ny293.out] at ho;have n0_ := Aside0.mk (Kd.R_after (ok := (fun k_ => some k_ ≠ (.slice Ao26 t260.length co26 : Value).ownBlock ∧ some k_ ≠ (.slice Ao32 t269.length co32 : Value).ownBlock ∧ some k_ ≠ (.slice Ao33 t272.length co33 : Value).ownBlock ∧ some k_ ≠ (.slice (some ad284) t281.length co39 : Value).ownBlock ∧ some k_ ≠ (.slice Ao44 t290.length co44 : Value).ownBlock ∧ k_ ≠ gb268 ∧ k_ ≠ gb280)) (by (with_reducible repeat (first | apply Kd.R_alloc | apply Kd.R_drewN | apply Kd.R_drew));exact Kd.R_mono HO259.out (fun _ hk => ⟨⟨hk.1.1.1.1.1.1.1.2,⟨hk.1.1.1.1.1.2,⟨hk.1.1.1.1.2,⟨hk.1.1.2,⟨hk.2,⟨hk.1.1.1.1.1.1.2,hk.1.1.1.2⟩⟩⟩⟩⟩⟩,hk.1.2⟩)) hg hat);have n1_ := Aside0.mk (Kd.R_after (ok := (fun k_ => some k_ ≠ (.slice Ao25 t257.length co25 : Value).ownBlock ∧ some k_ ≠ (.slice Ao32 t269.length co32 : Value).ownBlock ∧ some k_ ≠ (.slice Ao33 t272.length co33 : Value).ownBlock ∧ some k_ ≠ (.slice (some ad284) t281.length co39 : Value).ownBlock ∧ some k_ ≠ (.slice Ao44 t290.length co44 : Value).ownBlock ∧ k_ ≠ gb268 ∧ k_ ≠ gb280)) (by (with_reducible repeat (first | apply Kd.R_alloc | apply Kd.R_drewN | apply Kd.R_drew));exact Kd.R_mono HO262.out (fun _ hk => ⟨⟨hk.1.1.1.1.1.1.1.2,⟨hk.1.1.1.1.1.2,⟨hk.1.1.1.1.2,⟨hk.1.1.2,⟨hk.2,⟨hk.1.1.1.1.1.1.2,hk.1.1.1.2⟩⟩⟩⟩⟩⟩,hk.1.2⟩)) hg hat);have n2_ := Aside0.mk (blk_grown (g := gb268) (o := .cells #[.string t263,.string t264,.int .i64 t265,.int .i64 t266] 45 (0,0)) (by (with_reducible repeat (first | refine blk_drewN ?_ _ | refine blk_drew ?_ | refine blk_alloc ?_ _));exact BK268.out) hg (Kd.R_away HO289.out (fun _ hk => hk.1.1.2)));have n3_ := Aside0.mk (Kd.R_after (ok := (fun k_ => some k_ ≠ (.slice Ao25 t257.length co25 : Value).ownBlock ∧ some k_ ≠ (.slice Ao26 t260.length co26 : Value).ownBlock ∧ some k_ ≠ (.slice Ao33 t272.length co33 : Value).ownBlock ∧ some k_ ≠ (.slice (some ad284) t281.length co39 : Value).ownBlock ∧ some k_ ≠ (.slice Ao44 t290.length co44 : Value).ownBlock ∧ k_ ≠ gb268 ∧ k_ ≠ gb280)) (by (with_reducible repeat (first | apply Kd.R_alloc | apply Kd.R_drewN | apply Kd.R_drew));exact Kd.R_mono HO271.out (fun _ hk => ⟨⟨hk.1.1.1.1.1.1.1.2,⟨hk.1.1.1.1.1.1.2,⟨hk.1.1.1.1.2,⟨hk.1.1.2,⟨hk.2,⟨hk.1.1.1.1.1.2,hk.1.1.1.2⟩⟩⟩⟩⟩⟩,hk.1.2⟩)) hg hat);have n4_ := Aside0.mk (Kd.R_after (ok := (fun k_ => some k_ ≠ (.slice Ao25 t257.length co25 : Value).ownBlock ∧ some k_ ≠ (.slice Ao26 t260.length co26 : Value).ownBlock ∧ some k_ ≠ (.slice Ao32 t269.length co32 : Value).ownBlock ∧ some k_ ≠ (.slice (some ad284) t281.length co39 : Value).ownBlock ∧ some k_ ≠ (.slice Ao44 t290.length co44 : Value).ownBlock ∧ k_ ≠ gb268 ∧ k_ ≠ gb280)) (by (with_reducible repeat (first | apply Kd.R_alloc | apply Kd.R_drewN | apply Kd.R_drew));exact Kd.R_mono HO274.out (fun _ hk => ⟨⟨hk.1.1.1.1.1.1.1.2,⟨hk.1.1.1.1.1.1.2,⟨hk.1.1.1.1.1.2,⟨hk.1.1.2,⟨hk.2,⟨hk.1.1.1.1.2,hk.1.1.1.2⟩⟩⟩⟩⟩⟩,hk.1.2⟩)) hg hat);have n5_ := Aside0.mk (blk_grown (g := gb280) (o := .cells #[.string t275,.string t276,.int .i64 t277,.int .i64 t278] 45 (0,0)) (by (with_reducible repeat (first | refine blk_drewN ?_ _ | refine blk_drew ?_ | refine blk_alloc ?_ _));exact BK280.out) hg (Kd.R_away HO289.out (fun _ hk => hk.1.2)));have n6_ := Aside0.mk (Kd.R_after (ok := (fun k_ => some k_ ≠ (.slice Ao25 t257.length co25 : Value).ownBlock ∧ some k_ ≠ (.slice Ao26 t260.length co26 : Value).ownBlock ∧ some k_ ≠ (.slice Ao32 t269.length co32 : Value).ownBlock ∧ some k_ ≠ (.slice Ao33 t272.length co33 : Value).ownBlock ∧ some k_ ≠ (.slice Ao44 t290.length co44 : Value).ownBlock ∧ k_ ≠ gb268 ∧ k_ ≠ gb280)) (by (with_reducible repeat (first | apply Kd.R_alloc | apply Kd.R_drewN | apply Kd.R_drew));exact Kd.R_mono HO283.out (fun _ hk => ⟨⟨hk.1.1.1.1.1.1.1.2,⟨hk.1.1.1.1.1.1.2,⟨hk.1.1.1.1.1.2,⟨hk.1.1.1.1.2,⟨hk.2,⟨hk.1.1.1.2,hk.1.1.2⟩⟩⟩⟩⟩⟩,hk.1.2⟩)) hg hat);have n7_ := Aside0.mk (Kd.R_after (ok := (fun k_ => some k_ ≠ (.slice Ao25 t257.length co25 : Value).ownBlock ∧ some k_ ≠ (.slice Ao26 t260.length co26 : Value).ownBlock ∧ some k_ ≠ (.slice Ao32 t269.length co32 : Value).ownBlock ∧ some k_ ≠ (.slice Ao33 t272.length co33 : Value).ownBlock ∧ some k_ ≠ (.slice (some ad284) t281.length co39 : Value).ownBlock ∧ k_ ≠ gb268 ∧ k_ ≠ gb280)) (by (with_reducible repeat (first | apply Kd.R_alloc | apply Kd.R_drewN | apply Kd.R_drew));exact Kd.R_mono HO292.out (fun _ hk => ⟨⟨hk.1.1.1.1.1.1.1.2,⟨hk.1.1.1.1.1.1.2,⟨hk.1.1.1.1.1.2,⟨hk.1.1.1.1.2,⟨hk.1.1.1.2,⟨hk.1.2,hk.2⟩⟩⟩⟩⟩⟩,hk.1.1.2⟩)) hg hat);have n8_ := Aside0.mk (hb);have n9_ := Aside0.mk (ho);clear HO259;clear HO262;clear BK268;clear HO271;clear HO274;clear BK280;clear HO283;clear HO292;clear HB;clear HO289;have HO259 := n0_;have HO262 := n1_;have BK268 := n2_;have HO271 := n3_;have HO274 := n4_;have BK280 := n5_;have HO283 := n6_;have HO292 := n7_;have HB := n8_;have HO295 := n9_;clear n0_ n1_ n2_ n3_ n4_ n5_ n6_ n7_ n8_ n9_;clear ho hb hg hat;obtain ⟨Ao45,co45,eo45⟩ := Kd.R_slice HO295.out;subst eo45) | ((with_reducible refine gate_callee (f := 47) rfl ?_);refine goesL_ (some 32) rfl rfl Try.func47 (by kernel_rfl) rfl #[.slice Ao45 y293.length co45] rfl (by (try simp only [List.map_toArray,List.map_cons,List.map_nil]);first | done | rfl | (simp only [List.length_drop,List.length_take];rfl)) ?_;(with_reducible refine (quota_Worst.calls k _ _ y293 t296 t297 t298 t299 t300 _ ?side1 ?side2 A13.out).mono ?_);(case side1 => repeat (first | exact (Kd.R_reads' HO295.out).2.2 | (with_reducible refine Kd.C_alloc ?_ _) | (with_reducible refine Kd.C_drewN ?_ _) | (with_reducible refine Kd.C_drew ?_)));(case side2 => exact (Kd.R_reads' HO295.out).2.1);rintro e w46 ⟨rfl,hb⟩;refine ⟨_,rfl,?_⟩;have n0_ := Aside0.mk (Kd.R_below (by (with_reducible repeat (first | apply Kd.R_alloc | apply Kd.R_drewN | apply Kd.R_drew));exact HO259.out) hb);have n1_ := Aside0.mk (Kd.R_below (by (with_reducible repeat (first | apply Kd.R_alloc | apply Kd.R_drewN | apply Kd.R_drew));exact HO262.out) hb);have n2_ := Aside0.mk (Kd.R_below (by (with_reducible repeat (first | apply Kd.R_alloc | apply Kd.R_drewN | apply Kd.R_drew));exact HO271.out) hb);have n3_ := Aside0.mk (Kd.R_below (by (with_reducible repeat (first | apply Kd.R_alloc | apply Kd.R_drewN | apply Kd.R_drew));exact HO274.out) hb);have n4_ := Aside0.mk (Kd.R_below (by (with_reducible repeat (first | apply Kd.R_alloc | apply Kd.R_drewN | apply Kd.R_drew));exact HO283.out) hb);have n5_ := Aside0.mk (Kd.R_below (by (with_reducible repeat (first | apply Kd.R_alloc | apply Kd.R_drewN | apply Kd.R_drew));exact HO292.out) hb);have n6_ := Aside0.mk (Kd.R_below (by (with_reducible repeat (first | apply Kd.R_alloc | apply Kd.R_drewN | apply Kd.R_drew));exact HO295.out) hb);have n7_ := Aside0.mk (blk_below (g := gb268) (o := .cells #[.string t263,.string t264,.int .i64 t265,.int .i64 t266] 45 (0,0)) (by (with_reducible repeat (first | refine blk_drewN ?_ _ | refine blk_drew ?_ | refine blk_alloc ?_ _));exact BK268.out) hb);have n8_ := Aside0.mk (blk_below (g := gb280) (o := .cells #[.string t275,.string t276,.int .i64 t277,.int .i64 t278] 45 (0,0)) (by (with_reducible repeat (first | refine blk_drewN ?_ _ | refine blk_drew ?_ | refine blk_alloc ?_ _));exact BK280.out) hb);have n9_ := Aside0.mk (below_step (by repeat (first | (with_reducible first | exact HB.out | apply below_alloc | apply pw_below_drewN | apply below_drew1 | refine below_set ?_ GE268.out | refine below_set ?_ GE280.out) | exact HB.out)) hb);clear HO259;clear HO262;clear HO271;clear HO274;clear HO283;clear HO292;clear HO295;clear BK268;clear BK280;clear HB;have HO259 := n0_;have HO262 := n1_;have HO271 := n2_;have HO274 := n3_;have HO283 := n4_;have HO292 := n5_;have HO295 := n6_;have BK268 := n7_;have BK280 := n8_;have HB := n9_;clear n0_ n1_ n2_ n3_ n4_ n5_ n6_ n7_ n8_ n9_;(try clear hb);(try clear hb2);(try clear hk);(try clear hi)) | ((with_reducible refine gate_dst (N := 7) rfl ?_);(try (refine gate_guard (by rfl) ?_;dsimp only));refine box_event ?hg (N := 7) ?hd (cs := #[.string (⟨#[]⟩ : ByteArray),.string (⟨#[]⟩ : ByteArray),.int .i64 0,.int .i64 0]) (t := 45) ?hr ?_;(case hd => rfl);(case hg => rfl);(case hr => first | (go_simp;done) | (go_simp;rfl));intro gb301 hg w47 hbox hb;have n0_ := Aside0.mk (Kd.R_below (Kd.R_elderB (by (with_reducible repeat (first | apply Kd.R_alloc | apply Kd.R_drewN | apply Kd.R_drew));exact HO259.out) gb301 (Nat.le_of_eq hg.symm)) hb);have n1_ := Aside0.mk (Kd.R_below (Kd.R_elderB (by (with_reducible repeat (first | apply Kd.R_alloc | apply Kd.R_drewN | apply Kd.R_drew));exact HO262.out) gb301 (Nat.le_of_eq hg.symm)) hb);have n2_ := Aside0.mk (Kd.R_below (Kd.R_elderB (by (with_reducible repeat (first | apply Kd.R_alloc | apply Kd.R_drewN | apply Kd.R_drew));exact HO271.out) gb301 (Nat.le_of_eq hg.symm)) hb);have n3_ := Aside0.mk (Kd.R_below (Kd.R_elderB (by (with_reducible repeat (first | apply Kd.R_alloc | apply Kd.R_drewN | apply Kd.R_drew));exact HO274.out) gb301 (Nat.le_of_eq hg.symm)) hb);have n4_ := Aside0.mk (Kd.R_below (Kd.R_elderB (by (with_reducible repeat (first | apply Kd.R_alloc | apply Kd.R_drewN | apply Kd.R_drew));exact HO283.out) gb301 (Nat.le_of_eq hg.symm)) hb);have n5_ := Aside0.mk (Kd.R_below (Kd.R_elderB (by (with_reducible repeat (first | apply Kd.R_alloc | apply Kd.R_drewN | apply Kd.R_drew));exact HO292.out) gb301 (Nat.le_of_eq hg.symm)) hb);have n6_ := Aside0.mk (Kd.R_below (Kd.R_elderB (by (with_reducible repeat (first | apply Kd.R_alloc | apply Kd.R_drewN | apply Kd.R_drew));exact HO295.out) gb301 (Nat.le_of_eq hg.symm)) hb);have n7_ := Aside0.mk (blk_below (g := gb268) (o := .cells #[.string t263,.string t264,.int .i64 t265,.int .i64 t266] 45 (0,0)) (by (with_reducible repeat (first | refine blk_drewN ?_ _ | refine blk_drew ?_ | refine blk_alloc ?_ _));exact BK268.out) hb);have n8_ := Aside0.mk (blk_below (g := gb280) (o := .cells #[.string t275,.string t276,.int .i64 t277,.int .i64 t278] 45 (0,0)) (by (with_reducible repeat (first | refine blk_drewN ?_ _ | refine blk_drew ?_ | refine blk_alloc ?_ _));exact BK280.out) hb);have n9_ := Aside0.mk (below_step (by repeat (first | (with_reducible first | exact HB.out | apply below_alloc | apply pw_below_drewN | apply below_drew1 | refine below_set ?_ GE268.out | refine below_set ?_ GE280.out) | exact HB.out)) hb);have n10_ := Aside0.mk (hbox);have n11_ := Aside0.mk ((by rw [hg];exact (below_size (by repeat (first | (with_reducible first | exact HB.out | apply below_alloc | apply pw_below_drewN | apply below_drew1 | refine below_set ?_ GE268.out | refine below_set ?_ GE280.out) | exact HB.out))) : w.heap.size ≤ gb301));have n12_ := Aside0.mk ((by rw [hg];exact (below_size (by repeat (first | (with_reducible first | exact HB.out | apply below_alloc | apply pw_below_drewN | apply below_drew1 | refine below_set ?_ GE268.out | refine below_set ?_ GE280.out) | exact HB.out))) : w.heap.size ≤ gb301));have n13_ := Aside0.mk ((by rw [hg];exact Nat.ne_of_lt (blk_lt (g := gb268) (o := .cells #[.string t263,.string t264,.int .i64 t265,.int .i64 t266] 45 (0,0)) (by (with_reducible repeat (first | refine blk_drewN ?_ _ | refine blk_drew ?_ | refine blk_alloc ?_ _));exact BK268.out)) : gb268 ≠ gb301));have n14_ := Aside0.mk ((by rw [hg];exact Nat.ne_of_gt (blk_lt (g := gb268) (o := .cells #[.string t263,.string t264,.int .i64 t265,.int .i64 t266] 45 (0,0)) (by (with_reducible repeat (first | refine blk_drewN ?_ _ | refine blk_drew ?_ | refine blk_alloc ?_ _));exact BK268.out)) : gb301 ≠ gb268));have n15_ := Aside0.mk ((by rw [hg];exact Nat.ne_of_lt (blk_lt (g := gb280) (o := .cells #[.string t275,.string t276,.int .i64 t277,.int .i64 t278] 45 (0,0)) (by (with_reducible repeat (first | refine blk_drewN ?_ _ | refine blk_drew ?_ | refine blk_alloc ?_ _));exact BK280.out)) : gb280 ≠ gb301));have n16_ := Aside0.mk ((by rw [hg];exact Nat.ne_of_gt (blk_lt (g := gb280) (o := .cells #[.string t275,.string t276,.int .i64 t277,.int .i64 t278] 45 (0,0)) (by (with_reducible repeat (first | refine blk_drewN ?_ _ | refine blk_drew ?_ | refine blk_alloc ?_ _));exact BK280.out)) : gb301 ≠ gb280));clear HO259;clear HO262;clear HO271;clear HO274;clear HO283;clear HO292;clear HO295;clear BK268;clear BK280;clear HB;have HO259 := n0_;have HO262 := n1_;have HO271 := n2_;have HO274 := n3_;have HO283 := n4_;have HO292 := n5_;have HO295 := n6_;have BK268 := n7_;have BK280 := n8_;have HB := n9_;have BK301 := n10_;have GW301 := n11_;have GE301 := n12_;have NB268_301 := n13_;have NB301_268 := n14_;have NB280_301 := n15_;have NB301_280 := n16_;clear n0_ n1_ n2_ n3_ n4_ n5_ n6_ n7_ n8_ n9_ n10_ n11_ n12_ n13_ n14_ n15_ n16_;clear hb hbox hg;have hnb48 := NB301_268.out;have hnc48 := NB268_301.out;have hnb49 := NB301_280.out;have hnc49 := NB280_301.out;have hcz50_0 : w47.cell? ⟨gb301,0,none⟩ = some (.string (⟨#[]⟩ : ByteArray)) := (blk_cell BK301.out 0).trans rfl;have hcz50_1 : w47.cell? ⟨gb301,1,none⟩ = some (.string (⟨#[]⟩ : ByteArray)) := (blk_cell BK301.out 1).trans rfl;have hcz50_2 : w47.cell? ⟨gb301,2,none⟩ = some (.int .i64 0) := (blk_cell BK301.out 2).trans rfl;have hcz50_3 : w47.cell? ⟨gb301,3,none⟩ = some (.int .i64 0) := (blk_cell BK301.out 3).trans rfl;have hfz50_0 := blk_frozen BK301.out 0;have hfz50_1 := blk_frozen BK301.out 1;have hfz50_2 := blk_frozen BK301.out 2;have hfz50_3 := blk_frozen BK301.out 3;have hcz51_0 : w47.cell? ⟨gb280,0,none⟩ = some (.string t275) := (blk_cell BK280.out 0).trans rfl;have hcz51_1 : w47.cell? ⟨gb280,1,none⟩ = some (.string t276) := (blk_cell BK280.out 1).trans rfl;have hcz51_2 : w47.cell? ⟨gb280,2,none⟩ = some (.int .i64 t277) := (blk_cell BK280.out 2).trans rfl;have hcz51_3 : w47.cell? ⟨gb280,3,none⟩ = some (.int .i64 t278) := (blk_cell BK280.out 3).trans rfl;have hfz51_0 := blk_frozen BK280.out 0;have hfz51_1 := blk_frozen BK280.out 1;have hfz51_2 := blk_frozen BK280.out 2;have hfz51_3 := blk_frozen BK280.out 3) | (go_at_call 76;(with_reducible refine (verdererlaw28_u.calls 6 t302 _ A21.out).mono ?_);rintro e w52 ⟨v303,rfl,ho0,hb⟩;have n0_ := Aside0.mk (Kd.R_elder' (by (with_reducible repeat (first | apply Kd.R_alloc | apply Kd.R_drewN | apply Kd.R_drew));exact (Kd.R_mono (Kd.R_far (p := ⟨gb301,3,none⟩) (Kd.R_far (p := ⟨gb301,2,none⟩) (Kd.R_far (p := ⟨gb301,1,none⟩) (Kd.R_far (p := ⟨gb301,0,none⟩) (Kd.R_mono HO259.out (fun k_ hk => (⟨hk,hk.2⟩ : _ ∧ k_ ≠ gb301))) (fun _ hk => hk.2) (.string t296)) (fun _ hk => hk.2) (.string t297)) (fun _ hk => hk.2) (.int .i64 t298)) (fun _ hk => hk.2) (.int .i64 t299)) (fun _ h_ => h_.1))) (Kd.R_base ho0) hb);have n1_ := Aside0.mk (Kd.R_elder' (by (with_reducible repeat (first | apply Kd.R_alloc | apply Kd.R_drewN | apply Kd.R_drew));exact (Kd.R_mono (Kd.R_far (p := ⟨gb301,3,none⟩) (Kd.R_far (p := ⟨gb301,2,none⟩) (Kd.R_far (p := ⟨gb301,1,none⟩) (Kd.R_far (p := ⟨gb301,0,none⟩) (Kd.R_mono HO262.out (fun k_ hk => (⟨hk,hk.2⟩ : _ ∧ k_ ≠ gb301))) (fun _ hk => hk.2) (.string t296)) (fun _ hk => hk.2) (.string t297)) (fun _ hk => hk.2) (.int .i64 t298)) (fun _ hk => hk.2) (.int .i64 t299)) (fun _ h_ => h_.1))) (Kd.R_base ho0) hb);have n2_ := Aside0.mk (Kd.R_elder' (by (with_reducible repeat (first | apply Kd.R_alloc | apply Kd.R_drewN | apply Kd.R_drew));exact (Kd.R_mono (Kd.R_far (p := ⟨gb301,3,none⟩) (Kd.R_far (p := ⟨gb301,2,none⟩) (Kd.R_far (p := ⟨gb301,1,none⟩) (Kd.R_far (p := ⟨gb301,0,none⟩) (Kd.R_mono HO271.out (fun k_ hk => (⟨hk,hk.2⟩ : _ ∧ k_ ≠ gb301))) (fun _ hk => hk.2) (.string t296)) (fun _ hk => hk.2) (.string t297)) (fun _ hk => hk.2) (.int .i64 t298)) (fun _ hk => hk.2) (.int .i64 t299)) (fun _ h_ => h_.1))) (Kd.R_base ho0) hb);have n3_ := Aside0.mk (Kd.R_elder' (by (with_reducible repeat (first | apply Kd.R_alloc | apply Kd.R_drewN | apply Kd.R_drew));exact (Kd.R_mono (Kd.R_far (p := ⟨gb301,3,none⟩) (Kd.R_far (p := ⟨gb301,2,none⟩) (Kd.R_far (p := ⟨gb301,1,none⟩) (Kd.R_far (p := ⟨gb301,0,none⟩) (Kd.R_mono HO274.out (fun k_ hk => (⟨hk,hk.2⟩ : _ ∧ k_ ≠ gb301))) (fun _ hk => hk.2) (.string t296)) (fun _ hk => hk.2) (.string t297)) (fun _ hk => hk.2) (.int .i64 t298)) (fun _ hk => hk.2) (.int .i64 t299)) (fun _ h_ => h_.1))) (Kd.R_base ho0) hb);have n4_ := Aside0.mk (Kd.R_elder' (by (with_reducible repeat (first | apply Kd.R_alloc | apply Kd.R_drewN | apply Kd.R_drew));exact (Kd.R_mono (Kd.R_far (p := ⟨gb301,3,none⟩) (Kd.R_far (p := ⟨gb301,2,none⟩) (Kd.R_far (p := ⟨gb301,1,none⟩) (Kd.R_far (p := ⟨gb301,0,none⟩) (Kd.R_mono HO283.out (fun k_ hk => (⟨hk,hk.2⟩ : _ ∧ k_ ≠ gb301))) (fun _ hk => hk.2) (.string t296)) (fun _ hk => hk.2) (.string t297)) (fun _ hk => hk.2) (.int .i64 t298)) (fun _ hk => hk.2) (.int .i64 t299)) (fun _ h_ => h_.1))) (Kd.R_base ho0) hb);have n5_ := Aside0.mk (Kd.R_elder' (by (with_reducible repeat (first | apply Kd.R_alloc | apply Kd.R_drewN | apply Kd.R_drew));exact (Kd.R_mono (Kd.R_far (p := ⟨gb301,3,none⟩) (Kd.R_far (p := ⟨gb301,2,none⟩) (Kd.R_far (p := ⟨gb301,1,none⟩) (Kd.R_far (p := ⟨gb301,0,none⟩) (Kd.R_mono HO292.out (fun k_ hk => (⟨hk,hk.2⟩ : _ ∧ k_ ≠ gb301))) (fun _ hk => hk.2) (.string t296)) (fun _ hk => hk.2) (.string t297)) (fun _ hk => hk.2) (.int .i64 t298)) (fun _ hk => hk.2) (.int .i64 t299)) (fun _ h_ => h_.1))) (Kd.R_base ho0) hb);have n6_ := Aside0.mk (Kd.R_elder' (by (with_reducible repeat (first | apply Kd.R_alloc | apply Kd.R_drewN | apply Kd.R_drew));exact (Kd.R_mono (Kd.R_far (p := ⟨gb301,3,none⟩) (Kd.R_far (p := ⟨gb301,2,none⟩) (Kd.R_far (p := ⟨gb301,1,none⟩) (Kd.R_far (p := ⟨gb301,0,none⟩) (Kd.R_mono HO295.out (fun k_ hk => (⟨hk,hk.2⟩ : _ ∧ k_ ≠ gb301))) (fun _ hk => hk.2) (.string t296)) (fun _ hk => hk.2) (.string t297)) (fun _ hk => hk.2) (.int .i64 t298)) (fun _ hk => hk.2) (.int .i64 t299)) (fun _ h_ => h_.1))) (Kd.R_base ho0) hb);have n7_ := Aside0.mk (Kd.R_lower (Kd.R_newB (Kd.R_newB (Kd.R_newB (Kd.R_new' (Kd.R_new' (Kd.R_new' (Kd.R_new' (Kd.R_new' (Kd.R_new' (Kd.R_new' ho0 (Kd.R_lt (by (with_reducible repeat (first | apply Kd.R_alloc | apply Kd.R_drewN | apply Kd.R_drew));exact (Kd.R_mono (Kd.R_far (p := ⟨gb301,3,none⟩) (Kd.R_far (p := ⟨gb301,2,none⟩) (Kd.R_far (p := ⟨gb301,1,none⟩) (Kd.R_far (p := ⟨gb301,0,none⟩) (Kd.R_mono HO259.out (fun k_ hk => (⟨hk,hk.2⟩ : _ ∧ k_ ≠ gb301))) (fun _ hk => hk.2) (.string t296)) (fun _ hk => hk.2) (.string t297)) (fun _ hk => hk.2) (.int .i64 t298)) (fun _ hk => hk.2) (.int .i64 t299)) (fun _ h_ => h_.1))))) (Kd.R_lt (by (with_reducible repeat (first | apply Kd.R_alloc | apply Kd.R_drewN | apply Kd.R_drew));exact (Kd.R_mono (Kd.R_far (p := ⟨gb301,3,none⟩) (Kd.R_far (p := ⟨gb301,2,none⟩) (Kd.R_far (p := ⟨gb301,1,none⟩) (Kd.R_far (p := ⟨gb301,0,none⟩) (Kd.R_mono HO262.out (fun k_ hk => (⟨hk,hk.2⟩ : _ ∧ k_ ≠ gb301))) (fun _ hk => hk.2) (.string t296)) (fun _ hk => hk.2) (.string t297)) (fun _ hk => hk.2) (.int .i64 t298)) (fun _ hk => hk.2) (.int .i64 t299)) (fun _ h_ => h_.1))))) (Kd.R_lt (by (with_reducible repeat (first | apply Kd.R_alloc | apply Kd.R_drewN | apply Kd.R_drew));exact (Kd.R_mono (Kd.R_far (p := ⟨gb301,3,none⟩) (Kd.R_far (p := ⟨gb301,2,none⟩) (Kd.R_far (p := ⟨gb301,1,none⟩) (Kd.R_far (p := ⟨gb301,0,none⟩) (Kd.R_mono HO271.out (fun k_ hk => (⟨hk,hk.2⟩ : _ ∧ k_ ≠ gb301))) (fun _ hk => hk.2) (.string t296)) (fun _ hk => hk.2) (.string t297)) (fun _ hk => hk.2) (.int .i64 t298)) (fun _ hk => hk.2) (.int .i64 t299)) (fun _ h_ => h_.1))))) (Kd.R_lt (by (with_reducible repeat (first | apply Kd.R_alloc | apply Kd.R_drewN | apply Kd.R_drew));exact (Kd.R_mono (Kd.R_far (p := ⟨gb301,3,none⟩) (Kd.R_far (p := ⟨gb301,2,none⟩) (Kd.R_far (p := ⟨gb301,1,none⟩) (Kd.R_far (p := ⟨gb301,0,none⟩) (Kd.R_mono HO274.out (fun k_ hk => (⟨hk,hk.2⟩ : _ ∧ k_ ≠ gb301))) (fun _ hk => hk.2) (.string t296)) (fun _ hk => hk.2) (.string t297)) (fun _ hk => hk.2) (.int .i64 t298)) (fun _ hk => hk.2) (.int .i64 t299)) (fun _ h_ => h_.1))))) (Kd.R_lt (by (with_reducible repeat (first | apply Kd.R_alloc | apply Kd.R_drewN | apply Kd.R_drew));exact (Kd.R_mono (Kd.R_far (p := ⟨gb301,3,none⟩) (Kd.R_far (p := ⟨gb301,2,none⟩) (Kd.R_far (p := ⟨gb301,1,none⟩) (Kd.R_far (p := ⟨gb301,0,none⟩) (Kd.R_mono HO283.out (fun k_ hk => (⟨hk,hk.2⟩ : _ ∧ k_ ≠ gb301))) (fun _ hk => hk.2) (.string t296)) (fun _ hk => hk.2) (.string t297)) (fun _ hk => hk.2) (.int .i64 t298)) (fun _ hk => hk.2) (.int .i64 t299)) (fun _ h_ => h_.1))))) (Kd.R_lt (by (with_reducible repeat (first | apply Kd.R_alloc | apply Kd.R_drewN | apply Kd.R_drew));exact (Kd.R_mono (Kd.R_far (p := ⟨gb301,3,none⟩) (Kd.R_far (p := ⟨gb301,2,none⟩) (Kd.R_far (p := ⟨gb301,1,none⟩) (Kd.R_far (p := ⟨gb301,0,none⟩) (Kd.R_mono HO292.out (fun k_ hk => (⟨hk,hk.2⟩ : _ ∧ k_ ≠ gb301))) (fun _ hk => hk.2) (.string t296)) (fun _ hk => hk.2) (.string t297)) (fun _ hk => hk.2) (.int .i64 t298)) (fun _ hk => hk.2) (.int .i64 t299)) (fun _ h_ => h_.1))))) (Kd.R_lt (by (with_reducible repeat (first | apply Kd.R_alloc | apply Kd.R_drewN | apply Kd.R_drew));exact (Kd.R_mono (Kd.R_far (p := ⟨gb301,3,none⟩) (Kd.R_far (p := ⟨gb301,2,none⟩) (Kd.R_far (p := ⟨gb301,1,none⟩) (Kd.R_far (p := ⟨gb301,0,none⟩) (Kd.R_mono HO295.out (fun k_ hk => (⟨hk,hk.2⟩ : _ ∧ k_ ≠ gb301))) (fun _ hk => hk.2) (.string t296)) (fun _ hk => hk.2) (.string t297)) (fun _ hk => hk.2) (.int .i64 t298)) (fun _ hk => hk.2) (.int .i64 t299)) (fun _ h_ => h_.1))))) (g := gb268) (o := .cells #[.string t263,.string t264,.int .i64 t265,.int .i64 t266] 45 (0,0)) (by (with_reducible repeat (first | refine blk_drewN ?_ _ | refine blk_drew ?_ | refine blk_alloc ?_ _));refine blk_far ?_ NB268_301.out _;(with_reducible repeat (first | refine blk_drewN ?_ _ | refine blk_drew ?_ | refine blk_alloc ?_ _));refine blk_far ?_ NB268_301.out _;(with_reducible repeat (first | refine blk_drewN ?_ _ | refine blk_drew ?_ | refine blk_alloc ?_ _));refine blk_far ?_ NB268_301.out _;(with_reducible repeat (first | refine blk_drewN ?_ _ | refine blk_drew ?_ | refine blk_alloc ?_ _));refine blk_far ?_ NB268_301.out _;(with_reducible repeat (first | refine blk_drewN ?_ _ | refine blk_drew ?_ | refine blk_alloc ?_ _));exact BK268.out)) (g := gb280) (o := .cells #[.string t275,.string t276,.int .i64 t277,.int .i64 t278] 45 (0,0)) (by (with_reducible repeat (first | refine blk_drewN ?_ _ | refine blk_drew ?_ | refine blk_alloc ?_ _));refine blk_far ?_ NB280_301.out _;(with_reducible repeat (first | refine blk_drewN ?_ _ | refine blk_drew ?_ | refine blk_alloc ?_ _));refine blk_far ?_ NB280_301.out _;(with_reducible repeat (first | refine blk_drewN ?_ _ | refine blk_drew ?_ | refine blk_alloc ?_ _));refine blk_far ?_ NB280_301.out _;(with_reducible repeat (first | refine blk_drewN ?_ _ | refine blk_drew ?_ | refine blk_alloc ?_ _));refine blk_far ?_ NB280_301.out _;(with_reducible repeat (first | refine blk_drewN ?_ _ | refine blk_drew ?_ | refine blk_alloc ?_ _));exact BK280.out)) (g := gb301) (o := .cells #[.string t296,.string t297,.int .i64 t298,.int .i64 t299] 45 (0,0)) (by (with_reducible repeat (first | refine blk_drewN ?_ _ | refine blk_drew ?_ | refine blk_alloc ?_ _));refine blk_put (cs := #[.string t296,.string t297,.int .i64 t298,.int .i64 0]) ?_ 3 _ rfl;(with_reducible repeat (first | refine blk_drewN ?_ _ | refine blk_drew ?_ | refine blk_alloc ?_ _));refine blk_put (cs := #[.string t296,.string t297,.int .i64 0,.int .i64 0]) ?_ 2 _ rfl;(with_reducible repeat (first | refine blk_drewN ?_ _ | refine blk_drew ?_ | refine blk_alloc ?_ _));refine blk_put (cs := #[.string t296,.string (⟨#[]⟩ : ByteArray),.int .i64 0,.int .i64 0]) ?_ 1 _ rfl;(with_reducible repeat (first | refine blk_drewN ?_ _ | refine blk_drew ?_ | refine blk_alloc ?_ _));refine blk_put (cs := #[.string (⟨#[]⟩ : ByteArray),.string (⟨#[]⟩ : ByteArray),.int .i64 0,.int .i64 0]) ?_ 0 _ rfl;(with_reducible repeat (first | refine blk_drewN ?_ _ | refine blk_drew ?_ | refine blk_alloc ?_ _));exact BK301.out)) (below_size (by repeat (first | (with_reducible first | exact HB.out | apply below_alloc | apply pw_below_drewN | apply below_drew1 | refine below_set ?_ GE268.out | refine below_set ?_ GE280.out | refine below_set ?_ GE301.out) | exact HB.out))));have n8_ := Aside0.mk (blk_below (g := gb268) (o := .cells #[.string t263,.string t264,.int .i64 t265,.int .i64 t266] 45 (0,0)) (by (with_reducible repeat (first | refine blk_drewN ?_ _ | refine blk_drew ?_ | refine blk_alloc ?_ _));refine blk_far ?_ NB268_301.out _;(with_reducible repeat (first | refine blk_drewN ?_ _ | refine blk_drew ?_ | refine blk_alloc ?_ _));refine blk_far ?_ NB268_301.out _;(with_reducible repeat (first | refine blk_drewN ?_ _ | refine blk_drew ?_ | refine blk_alloc ?_ _));refine blk_far ?_ NB268_301.out _;(with_reducible repeat (first | refine blk_drewN ?_ _ | refine blk_drew ?_ | refine blk_alloc ?_ _));refine blk_far ?_ NB268_301.out _;(with_reducible repeat (first | refine blk_drewN ?_ _ | refine blk_drew ?_ | refine blk_alloc ?_ _));exact BK268.out) hb);have n9_ := Aside0.mk (blk_below (g := gb280) (o := .cells #[.string t275,.string t276,.int .i64 t277,.int .i64 t278] 45 (0,0)) (by (with_reducible repeat (first | refine blk_drewN ?_ _ | refine blk_drew ?_ | refine blk_alloc ?_ _));refine blk_far ?_ NB280_301.out _;(with_reducible repeat (first | refine blk_drewN ?_ _ | refine blk_drew ?_ | refine blk_alloc ?_ _));refine blk_far ?_ NB280_301.out _;(with_reducible repeat (first | refine blk_drewN ?_ _ | refine blk_drew ?_ | refine blk_alloc ?_ _));refine blk_far ?_ NB280_301.out _;(with_reducible repeat (first | refine blk_drewN ?_ _ | refine blk_drew ?_ | refine blk_alloc ?_ _));refine blk_far ?_ NB280_301.out _;(with_reducible repeat (first | refine blk_drewN ?_ _ | refine blk_drew ?_ | refine blk_alloc ?_ _));exact BK280.out) hb);have n10_ := Aside0.mk (blk_below (g := gb301) (o := .cells #[.string t296,.string t297,.int .i64 t298,.int .i64 t299] 45 (0,0)) (by (with_reducible repeat (first | refine blk_drewN ?_ _ | refine blk_drew ?_ | refine blk_alloc ?_ _));refine blk_put (cs := #[.string t296,.string t297,.int .i64 t298,.int .i64 0]) ?_ 3 _ rfl;(with_reducible repeat (first | refine blk_drewN ?_ _ | refine blk_drew ?_ | refine blk_alloc ?_ _));refine blk_put (cs := #[.string t296,.string t297,.int .i64 0,.int .i64 0]) ?_ 2 _ rfl;(with_reducible repeat (first | refine blk_drewN ?_ _ | refine blk_drew ?_ | refine blk_alloc ?_ _));refine blk_put (cs := #[.string t296,.string (⟨#[]⟩ : ByteArray),.int .i64 0,.int .i64 0]) ?_ 1 _ rfl;(with_reducible repeat (first | refine blk_drewN ?_ _ | refine blk_drew ?_ | refine blk_alloc ?_ _));refine blk_put (cs := #[.string (⟨#[]⟩ : ByteArray),.string (⟨#[]⟩ : ByteArray),.int .i64 0,.int .i64 0]) ?_ 0 _ rfl;(with_reducible repeat (first | refine blk_drewN ?_ _ | refine blk_drew ?_ | refine blk_alloc ?_ _));exact BK301.out) hb);have n11_ := Aside0.mk (below_step (by repeat (first | (with_reducible first | exact HB.out | apply below_alloc | apply pw_below_drewN | apply below_drew1 | refine below_set ?_ GE268.out | refine below_set ?_ GE280.out | refine below_set ?_ GE301.out) | exact HB.out)) hb);clear HO259;clear HO262;clear HO271;clear HO274;clear HO283;clear HO292;clear HO295;clear BK268;clear BK280;clear BK301;clear HB;have HO259 := n0_;have HO262 := n1_;have HO271 := n2_;have HO274 := n3_;have HO283 := n4_;have HO292 := n5_;have HO295 := n6_;have HO304 := n7_;have BK268 := n8_;have BK280 := n9_;have BK301 := n10_;have HB := n11_;clear n0_ n1_ n2_ n3_ n4_ n5_ n6_ n7_ n8_ n9_ n10_ n11_;(try clear hb);(try clear hb2);(try clear hk);(try clear hi);(try clear ho0);obtain ⟨Ao53,co53,eo53⟩ := Kd.R_slice HO304.out;subst eo53) | (go_at_call 49;(with_reducible refine (quota_Over.calls k _ _ t302 t305 _ ?side1 ?side2 A22.out).mono ?_);(case side1 => repeat (first | exact (Kd.R_reads' HO304.out).2.2 | (with_reducible refine Kd.C_alloc ?_ _) | (with_reducible refine Kd.C_drewN ?_ _) | (with_reducible refine Kd.C_drew ?_)));(case side2 => exact (Kd.R_reads' HO304.out).2.1);rintro e w54 ⟨v306,rfl,ho0,hb⟩;have n0_ := Aside0.mk (Kd.R_elder' (by (with_reducible repeat (first | apply Kd.R_alloc | apply Kd.R_drewN | apply Kd.R_drew));exact HO259.out) (Kd.R_base ho0) hb);have n1_ := Aside0.mk (Kd.R_elder' (by (with_reducible repeat (first | apply Kd.R_alloc | apply Kd.R_drewN | apply Kd.R_drew));exact HO262.out) (Kd.R_base ho0) hb);have n2_ := Aside0.mk (Kd.R_elder' (by (with_reducible repeat (first | apply Kd.R_alloc | apply Kd.R_drewN | apply Kd.R_drew));exact HO271.out) (Kd.R_base ho0) hb);have n3_ := Aside0.mk (Kd.R_elder' (by (with_reducible repeat (first | apply Kd.R_alloc | apply Kd.R_drewN | apply Kd.R_drew));exact HO274.out) (Kd.R_base ho0) hb);have n4_ := Aside0.mk (Kd.R_elder' (by (with_reducible repeat (first | apply Kd.R_alloc | apply Kd.R_drewN | apply Kd.R_drew));exact HO283.out) (Kd.R_base ho0) hb);have n5_ := Aside0.mk (Kd.R_elder' (by (with_reducible repeat (first | apply Kd.R_alloc | apply Kd.R_drewN | apply Kd.R_drew));exact HO292.out) (Kd.R_base ho0) hb);have n6_ := Aside0.mk (Kd.R_elder' (by (with_reducible repeat (first | apply Kd.R_alloc | apply Kd.R_drewN | apply Kd.R_drew));exact HO295.out) (Kd.R_base ho0) hb);have n7_ := Aside0.mk (Kd.R_elder' (by (with_reducible repeat (first | apply Kd.R_alloc | apply Kd.R_drewN | apply Kd.R_drew));exact HO304.out) (Kd.R_base ho0) hb);have n8_ := Aside0.mk (Kd.R_lower (Kd.R_newB (Kd.R_newB (Kd.R_newB (Kd.R_new' (Kd.R_new' (Kd.R_new' (Kd.R_new' (Kd.R_new' (Kd.R_new' (Kd.R_new' (Kd.R_new' ho0 (Kd.R_lt (by (with_reducible repeat (first | apply Kd.R_alloc | apply Kd.R_drewN | apply Kd.R_drew));exact HO259.out))) (Kd.R_lt (by (with_reducible repeat (first | apply Kd.R_alloc | apply Kd.R_drewN | apply Kd.R_drew));exact HO262.out))) (Kd.R_lt (by (with_reducible repeat (first | apply Kd.R_alloc | apply Kd.R_drewN | apply Kd.R_drew));exact HO271.out))) (Kd.R_lt (by (with_reducible repeat (first | apply Kd.R_alloc | apply Kd.R_drewN | apply Kd.R_drew));exact HO274.out))) (Kd.R_lt (by (with_reducible repeat (first | apply Kd.R_alloc | apply Kd.R_drewN | apply Kd.R_drew));exact HO283.out))) (Kd.R_lt (by (with_reducible repeat (first | apply Kd.R_alloc | apply Kd.R_drewN | apply Kd.R_drew));exact HO292.out))) (Kd.R_lt (by (with_reducible repeat (first | apply Kd.R_alloc | apply Kd.R_drewN | apply Kd.R_drew));exact HO295.out))) (Kd.R_lt (by (with_reducible repeat (first | apply Kd.R_alloc | apply Kd.R_drewN | apply Kd.R_drew));exact HO304.out))) (g := gb268) (o := .cells #[.string t263,.string t264,.int .i64 t265,.int .i64 t266] 45 (0,0)) (by (with_reducible repeat (first | refine blk_drewN ?_ _ | refine blk_drew ?_ | refine blk_alloc ?_ _));exact BK268.out)) (g := gb280) (o := .cells #[.string t275,.string t276,.int .i64 t277,.int .i64 t278] 45 (0,0)) (by (with_reducible repeat (first | refine blk_drewN ?_ _ | refine blk_drew ?_ | refine blk_alloc ?_ _));exact BK280.out)) (g := gb301) (o := .cells #[.string t296,.string t297,.int .i64 t298,.int .i64 t299] 45 (0,0)) (by (with_reducible repeat (first | refine blk_drewN ?_ _ | refine blk_drew ?_ | refine blk_alloc ?_ _));exact BK301.out)) (below_size (by repeat (first | (with_reducible first | exact HB.out | apply below_alloc | apply pw_below_drewN | apply below_drew1 | refine below_set ?_ GE268.out | refine below_set ?_ GE280.out | refine below_set ?_ GE301.out) | exact HB.out))));have n9_ := Aside0.mk (blk_below (g := gb268) (o := .cells #[.string t263,.string t264,.int .i64 t265,.int .i64 t266] 45 (0,0)) (by (with_reducible repeat (first | refine blk_drewN ?_ _ | refine blk_drew ?_ | refine blk_alloc ?_ _));exact BK268.out) hb);have n10_ := Aside0.mk (blk_below (g := gb280) (o := .cells #[.string t275,.string t276,.int .i64 t277,.int .i64 t278] 45 (0,0)) (by (with_reducible repeat (first | refine blk_drewN ?_ _ | refine blk_drew ?_ | refine blk_alloc ?_ _));exact BK280.out) hb);have n11_ := Aside0.mk (blk_below (g := gb301) (o := .cells #[.string t296,.string t297,.int .i64 t298,.int .i64 t299] 45 (0,0)) (by (with_reducible repeat (first | refine blk_drewN ?_ _ | refine blk_drew ?_ | refine blk_alloc ?_ _));exact BK301.out) hb);have n12_ := Aside0.mk (below_step (by repeat (first | (with_reducible first | exact HB.out | apply below_alloc | apply pw_below_drewN | apply below_drew1 | refine below_set ?_ GE268.out | refine below_set ?_ GE280.out | refine below_set ?_ GE301.out) | exact HB.out)) hb);clear HO259;clear HO262;clear HO271;clear HO274;clear HO283;clear HO292;clear HO295;clear HO304;clear BK268;clear BK280;clear BK301;clear HB;have HO259 := n0_;have HO262 := n1_;have HO271 := n2_;have HO274 := n3_;have HO283 := n4_;have HO292 := n5_;have HO295 := n6_;have HO304 := n7_;have HO307 := n8_;have BK268 := n9_;have BK280 := n10_;have BK301 := n11_;have HB := n12_;clear n0_ n1_ n2_ n3_ n4_ n5_ n6_ n7_ n8_ n9_ n10_ n11_ n12_;(try clear hb);(try clear hb2);(try clear hk);(try clear hi);(try clear ho0);obtain ⟨Ao55,co55,eo55⟩ := Kd.R_slice HO307.out;subst eo55))
                    go_ret
                    exact ⟨by first | rfl | (simp [errW_none,errW_some] <;> rfl) | (simp [*,errW_none,errW_some] <;> rfl),by repeat (first | (with_reducible first | exact HB.out | apply below_alloc | apply pw_below_drewN | apply below_drew1 | refine below_set ?_ GE268.out | refine below_set ?_ GE280.out | refine below_set ?_ GE301.out) | exact HB.out)⟩
                  · rw [if_neg c20] at H
                    exact absurd H (by simp)
                · rw [if_neg c19] at H
                  exact absurd H (by simp)
              · rw [if_neg c18] at H
                exact absurd H (by simp)
            · rw [if_neg c17] at H
              exact absurd H (by simp)
          · rw [if_neg c16] at H
            exact absurd H (by simp)
        · rw [if_neg c15] at H
          exact absurd H (by simp)
      · rw [if_neg c14] at H
        exact absurd H (by simp)
    · rw [if_neg c12] at H
      exact absurd H (by simp)
  · rw [if_neg c8] at H
    exact absurd H (by simp)
end Go.Proofs.Ytcenlehfbgnphaa.Z
end
section
namespace Go.Proofs.Ytcenlehfbgnphaa.Z
open Go.RowKit Go.Proofs.YtcenlehfbgnphaaW.PrintWords Go.Proofs.YtcenlehfbgnphaaW.PrintLast Go.Proofs.YtcenlehfbgnphaaW.PrintMore
attribute [local go_sem] max2_int min2_int max_two min_two max_three min_three max_four min_four
set_option linter.unusedVariables false
set_option linter.unusedSimpArgs false
def verdererref03_Mul.f (k : Nat) (a0 : Int) (a1 : Int) : Option (Int × Int) := (verdererref03_Times.f k a0 a1).bind fun bt201 => ((verdererref03_Big_Value.f k bt201.1 bt201.2).bind fun bt205 => (some (bt205.1,bt205.2)))
theorem verdererref03_Mul.mono : ∀ a0 a1 k,LeO (verdererref03_Mul.f k a0 a1) (verdererref03_Mul.f (k + 1) a0 a1) := by
  intro a0 a1 k
  unfold verdererref03_Mul.f
  repeat' first
      | (with_reducible exact verdererref03_Big_Value.mono _ _ _)
      | (with_reducible exact verdererref03_Times.mono _ _ _)
      | (with_reducible exact LeO.refl _)
      | (with_reducible exact LeO.none _)
      | (with_reducible refine LeO.ite ?_ ?_)
      | (with_reducible refine LeO.bind ?_ (fun _ => ?_))
      | exact verdererref03_Big_Value.mono _ _ _
      | exact verdererref03_Times.mono _ _ _
      | exact LeO.none _
      | refine LeO.ite ?_ ?_
      | refine LeO.bind ?_ (fun _ => ?_)
set_option maxHeartbeats 8000000 in
set_option maxRecDepth 100000 in
theorem verdererref03_Mul.calls (k : Nat) (a0 : Int) (a1 : Int) (r1 : Int) (r2 : Int) (w : World) (h : verdererref03_Mul.f k a0 a1 = some (r1,r2)) :
    Calls Try.prog 28 #[.int .i64 a0,.int .i64 a1] w fun e w' => e = .returned (.tuple #[.int .i64 r1,.int .i64 r2]) ∧ Below w.heap.size w w' := by
  have HB := Aside0.mk (Below.refl w.heap.size w)
  have H : ((verdererref03_Times.f k a0 a1).bind fun bt201 => ((verdererref03_Big_Value.f k bt201.1 bt201.2).bind fun bt205 => (some (bt205.1,bt205.2)))) = some (r1,r2) := h
  clear h
  replace H := Option.bind_eq_some_iff.mp H
  obtain ⟨⟨t201,t202⟩,A30,H⟩ := H
  replace H : ((verdererref03_Big_Value.f k t201 t202).bind fun bt205 => (some (bt205.1,bt205.2))) = some (r1,r2) := H
  have A3 := Aside0.mk A30
  clear A30
  replace H := Option.bind_eq_some_iff.mp H
  obtain ⟨⟨t205,t206⟩,A40,H⟩ := H
  replace H : (some (t205,t206)) = some (r1,r2) := H
  have A4 := Aside0.mk A40
  clear A40
  simp only [Option.some.injEq,Prod.mk.injEq] at H
  obtain ⟨rfl,rfl⟩ := H
  go_enter Try.func28,Try.ntmps28
  go_wp2_with (first | ((with_reducible refine gate_callee (f := 17) rfl ?_);refine goesL_ (some 8) rfl rfl Try.func17 (by kernel_rfl) rfl #[.int .i64 a0,.int .i64 a1] rfl (by (try simp only [List.map_toArray,List.map_cons,List.map_nil]);first | done | rfl | (simp only [List.length_drop,List.length_take];rfl)) ?_;(with_reducible refine (verdererref03_Times.calls k a0 a1 t201 t202 _ A3.out).mono ?_);rintro e w5 ⟨v203,rfl,ho0,hb⟩;refine ⟨_,rfl,?_⟩;have n0_ := Aside0.mk (Kd.R_lower ho0 (below_size (by repeat (first | (with_reducible first | exact HB.out | apply below_alloc | apply pw_below_drewN | apply below_drew1) | exact HB.out))));have n1_ := Aside0.mk (below_step (by repeat (first | (with_reducible first | exact HB.out | apply below_alloc | apply pw_below_drewN | apply below_drew1) | exact HB.out)) hb);clear HB;have HO204 := n0_;have HB := n1_;clear n0_ n1_;(try clear hb);(try clear hb2);(try clear hk);(try clear hi);(try clear ho0);obtain ⟨Ao6,co6,eo6⟩ := Kd.R_slice HO204.out;subst eo6) | ((with_reducible refine gate_callee (f := 19) rfl ?_);refine goesL_ (some 9) rfl rfl Try.func19 (by kernel_rfl) rfl #[.agg #[.bool t201,.slice Ao6 t202.length co6]] rfl (by (try simp only [List.map_toArray,List.map_cons,List.map_nil]);first | done | rfl | (simp only [List.length_drop,List.length_take];rfl)) ?_;(with_reducible refine (verdererref03_Big_Value.calls k t201 _ _ t202 t205 t206 _ ?side1 ?side2 A4.out).mono ?_);(case side1 => repeat (first | exact (Kd.R_reads' HO204.out).2.2 | (with_reducible refine Kd.C_alloc ?_ _) | (with_reducible refine Kd.C_drewN ?_ _) | (with_reducible refine Kd.C_drew ?_)));(case side2 => exact (Kd.R_reads' HO204.out).2.1);rintro e w7 ⟨rfl,hb⟩;refine ⟨_,rfl,?_⟩;have n0_ := Aside0.mk (Kd.R_below (by (with_reducible repeat (first | apply Kd.R_alloc | apply Kd.R_drewN | apply Kd.R_drew));exact HO204.out) hb);have n1_ := Aside0.mk (below_step (by repeat (first | (with_reducible first | exact HB.out | apply below_alloc | apply pw_below_drewN | apply below_drew1) | exact HB.out)) hb);clear HO204;clear HB;have HO204 := n0_;have HB := n1_;clear n0_ n1_;(try clear hb);(try clear hb2);(try clear hk);(try clear hi)))
  go_ret2
  exact ⟨by first | rfl | (simp [errW_none,errW_some] <;> rfl) | (simp [*,errW_none,errW_some] <;> rfl),by repeat (first | (with_reducible first | exact HB.out | apply below_alloc | apply pw_below_drewN | apply below_drew1) | exact HB.out)⟩
end Go.Proofs.Ytcenlehfbgnphaa.Z
end
section
namespace Go.Proofs.Ytcenlehfbgnphaa.Z
open Go.RowKit Go.Proofs.YtcenlehfbgnphaaW.PrintWords Go.Proofs.YtcenlehfbgnphaaW.PrintLast Go.Proofs.YtcenlehfbgnphaaW.PrintMore
attribute [local go_sem] max2_int min2_int max_two min_two max_three min_three max_four min_four
set_option linter.unusedVariables false
set_option linter.unusedSimpArgs false
def bits_Mul64.f (a0 : Int) (a1 : Int) : Option (Int × Int) := some (IntKind.u64.wrap ((IntKind.u64.wrap ((IntKind.u64.wrap ((a0 / 4294967296) * (a1 / 4294967296))) + ((IntKind.u64.wrap ((IntKind.u64.wrap ((a0 / 4294967296) * (Go.bits .and .u64 a1 4294967295))) + ((IntKind.u64.wrap ((Go.bits .and .u64 a0 4294967295) * (Go.bits .and .u64 a1 4294967295))) / 4294967296))) / 4294967296))) + ((IntKind.u64.wrap ((Go.bits .and .u64 (IntKind.u64.wrap ((IntKind.u64.wrap ((a0 / 4294967296) * (Go.bits .and .u64 a1 4294967295))) + ((IntKind.u64.wrap ((Go.bits .and .u64 a0 4294967295) * (Go.bits .and .u64 a1 4294967295))) / 4294967296))) 4294967295) + (IntKind.u64.wrap ((Go.bits .and .u64 a0 4294967295) * (a1 / 4294967296))))) / 4294967296)),IntKind.u64.wrap (a0 * a1))
set_option maxHeartbeats 8000000 in
set_option maxRecDepth 100000 in
theorem bits_Mul64.calls (a0 : Int) (a1 : Int) (r1 : Int) (r2 : Int) (w : World) (h : bits_Mul64.f a0 a1 = some (r1,r2)) :
    Calls Try.prog 63 #[.int .u64 a0,.int .u64 a1] w fun e w' => e = .returned (.tuple #[.int .u64 r1,.int .u64 r2]) ∧ Drawn0 w w' := by
  have H : (some (IntKind.u64.wrap ((IntKind.u64.wrap ((IntKind.u64.wrap ((a0 / 4294967296) * (a1 / 4294967296))) + ((IntKind.u64.wrap ((IntKind.u64.wrap ((a0 / 4294967296) * (Go.bits .and .u64 a1 4294967295))) + ((IntKind.u64.wrap ((Go.bits .and .u64 a0 4294967295) * (Go.bits .and .u64 a1 4294967295))) / 4294967296))) / 4294967296))) + ((IntKind.u64.wrap ((Go.bits .and .u64 (IntKind.u64.wrap ((IntKind.u64.wrap ((a0 / 4294967296) * (Go.bits .and .u64 a1 4294967295))) + ((IntKind.u64.wrap ((Go.bits .and .u64 a0 4294967295) * (Go.bits .and .u64 a1 4294967295))) / 4294967296))) 4294967295) + (IntKind.u64.wrap ((Go.bits .and .u64 a0 4294967295) * (a1 / 4294967296))))) / 4294967296)),IntKind.u64.wrap (a0 * a1))) = some (r1,r2) := h
  clear h
  simp only [Option.some.injEq,Prod.mk.injEq] at H
  obtain ⟨rfl,rfl⟩ := H
  go_enter Try.func63,Try.ntmps63
  go_wp2
  go_ret2
  exact ⟨by first | rfl | (simp;done) | (simp [*];done),by repeat (first | exact Drawn0.refl _ | apply Drawn0.step)⟩
end Go.Proofs.Ytcenlehfbgnphaa.Z
end
section
namespace Go.Proofs.Ytcenlehfbgnphaa.Z
open Go.RowKit Go.Proofs.YtcenlehfbgnphaaW.PrintWords Go.Proofs.YtcenlehfbgnphaaW.PrintLast Go.Proofs.YtcenlehfbgnphaaW.PrintMore
attribute [local go_sem] max2_int min2_int max_two min_two max_three min_three max_four min_four
set_option linter.unusedVariables false
set_option linter.unusedSimpArgs false
def safe_size.f (a0 : Int) : Option (Int) := if a0 < 0 then (some (IntKind.u64.wrap (-(IntKind.u64.wrap (a0))))) else (some (IntKind.u64.wrap (a0)))
set_option maxHeartbeats 8000000 in
set_option maxRecDepth 100000 in
theorem safe_size.calls (a0 : Int) (r : Int) (w : World) (h : safe_size.f a0 = some r) :
    Calls Try.prog 64 #[.int .i64 a0] w fun e w' => e = .returned (.int .u64 r) ∧ Drawn0 w w' := by
  have H : (if a0 < 0 then (some (IntKind.u64.wrap (-(IntKind.u64.wrap (a0))))) else (some (IntKind.u64.wrap (a0)))) = some r := h
  clear h
  by_cases c2 : a0 < 0
  · rw [if_pos c2] at H
    have c2b0 : decide (a0 < 0) = true := decide_eq_true c2
    clear c2
    obtain rfl := Option.some.inj H
    go_enter Try.func64,Try.ntmps64
    go_wp2
    go_ret
    exact ⟨by first | rfl | (simp;done) | (simp [*];done),by repeat (first | exact Drawn0.refl _ | apply Drawn0.step)⟩
  · rw [if_neg c2] at H
    have c2b0 : decide (a0 < 0) = false := decide_eq_false c2
    clear c2
    obtain rfl := Option.some.inj H
    go_enter Try.func64,Try.ntmps64
    go_wp2
    go_ret
    exact ⟨by first | rfl | (simp;done) | (simp [*];done),by repeat (first | exact Drawn0.refl _ | apply Drawn0.step)⟩
end Go.Proofs.Ytcenlehfbgnphaa.Z
end
section
namespace Go.Proofs.Ytcenlehfbgnphaa.Z
open Go.RowKit Go.Proofs.YtcenlehfbgnphaaW.PrintWords Go.Proofs.YtcenlehfbgnphaaW.PrintLast Go.Proofs.YtcenlehfbgnphaaW.PrintMore
attribute [local go_sem] max2_int min2_int max_two min_two max_three min_three max_four min_four
set_option linter.unusedVariables false
set_option linter.unusedSimpArgs false
def safe_Mul.f (a0 : Int) (a1 : Int) : Option (Int × Int) := (safe_size.f a0).bind fun t170 => ((safe_size.f a1).bind fun t171 => ((bits_Mul64.f t170 t171).bind fun bt172 => (if ((decide (a0 < 0)) != (decide (a1 < 0))) = true then (if bt172.1 = 0 then ((safe_fits.f (wrap64 (IntKind.u64.wrap (-bt172.2))) (decide (bt172.2 ≤ 9223372036854775808))).bind fun bt174 => (some (bt174.1,bt174.2))) else ((safe_fits.f (wrap64 (IntKind.u64.wrap (-bt172.2))) false).bind fun bt176 => (some (bt176.1,bt176.2)))) else (if bt172.1 = 0 then ((safe_fits.f (wrap64 (bt172.2)) (decide (bt172.2 < 9223372036854775808))).bind fun bt178 => (some (bt178.1,bt178.2))) else ((safe_fits.f (wrap64 (bt172.2)) false).bind fun bt180 => (some (bt180.1,bt180.2)))))))
set_option maxHeartbeats 8000000 in
set_option maxRecDepth 100000 in
theorem safe_Mul.calls (a0 : Int) (a1 : Int) (r1 : Int) (r2 : Int) (w : World) (h : safe_Mul.f a0 a1 = some (r1,r2)) :
    Calls Try.prog 27 #[.int .i64 a0,.int .i64 a1] w fun e w' => e = .returned (.tuple #[.int .i64 r1,.int .i64 r2]) ∧ Drawn0 w w' := by
  have H : ((safe_size.f a0).bind fun t170 => ((safe_size.f a1).bind fun t171 => ((bits_Mul64.f t170 t171).bind fun bt172 => (if ((decide (a0 < 0)) != (decide (a1 < 0))) = true then (if bt172.1 = 0 then ((safe_fits.f (wrap64 (IntKind.u64.wrap (-bt172.2))) (decide (bt172.2 ≤ 9223372036854775808))).bind fun bt174 => (some (bt174.1,bt174.2))) else ((safe_fits.f (wrap64 (IntKind.u64.wrap (-bt172.2))) false).bind fun bt176 => (some (bt176.1,bt176.2)))) else (if bt172.1 = 0 then ((safe_fits.f (wrap64 (bt172.2)) (decide (bt172.2 < 9223372036854775808))).bind fun bt178 => (some (bt178.1,bt178.2))) else ((safe_fits.f (wrap64 (bt172.2)) false).bind fun bt180 => (some (bt180.1,bt180.2)))))))) = some (r1,r2) := h
  clear h
  replace H := Option.bind_eq_some_iff.mp H
  obtain ⟨t170,A30,H⟩ := H
  replace H : ((safe_size.f a1).bind fun t171 => ((bits_Mul64.f t170 t171).bind fun bt172 => (if ((decide (a0 < 0)) != (decide (a1 < 0))) = true then (if bt172.1 = 0 then ((safe_fits.f (wrap64 (IntKind.u64.wrap (-bt172.2))) (decide (bt172.2 ≤ 9223372036854775808))).bind fun bt174 => (some (bt174.1,bt174.2))) else ((safe_fits.f (wrap64 (IntKind.u64.wrap (-bt172.2))) false).bind fun bt176 => (some (bt176.1,bt176.2)))) else (if bt172.1 = 0 then ((safe_fits.f (wrap64 (bt172.2)) (decide (bt172.2 < 9223372036854775808))).bind fun bt178 => (some (bt178.1,bt178.2))) else ((safe_fits.f (wrap64 (bt172.2)) false).bind fun bt180 => (some (bt180.1,bt180.2))))))) = some (r1,r2) := H
  have A3 := Aside0.mk A30
  clear A30
  replace H := Option.bind_eq_some_iff.mp H
  obtain ⟨t171,A40,H⟩ := H
  replace H : ((bits_Mul64.f t170 t171).bind fun bt172 => (if ((decide (a0 < 0)) != (decide (a1 < 0))) = true then (if bt172.1 = 0 then ((safe_fits.f (wrap64 (IntKind.u64.wrap (-bt172.2))) (decide (bt172.2 ≤ 9223372036854775808))).bind fun bt174 => (some (bt174.1,bt174.2))) else ((safe_fits.f (wrap64 (IntKind.u64.wrap (-bt172.2))) false).bind fun bt176 => (some (bt176.1,bt176.2)))) else (if bt172.1 = 0 then ((safe_fits.f (wrap64 (bt172.2)) (decide (bt172.2 < 9223372036854775808))).bind fun bt178 => (some (bt178.1,bt178.2))) else ((safe_fits.f (wrap64 (bt172.2)) false).bind fun bt180 => (some (bt180.1,bt180.2)))))) = some (r1,r2) := H
  have A4 := Aside0.mk A40
  clear A40
  replace H := Option.bind_eq_some_iff.mp H
  obtain ⟨⟨t172,t173⟩,A50,H⟩ := H
  replace H : (if ((decide (a0 < 0)) != (decide (a1 < 0))) = true then (if t172 = 0 then ((safe_fits.f (wrap64 (IntKind.u64.wrap (-t173))) (decide (t173 ≤ 9223372036854775808))).bind fun bt174 => (some (bt174.1,bt174.2))) else ((safe_fits.f (wrap64 (IntKind.u64.wrap (-t173))) false).bind fun bt176 => (some (bt176.1,bt176.2)))) else (if t172 = 0 then ((safe_fits.f (wrap64 (t173)) (decide (t173 < 9223372036854775808))).bind fun bt178 => (some (bt178.1,bt178.2))) else ((safe_fits.f (wrap64 (t173)) false).bind fun bt180 => (some (bt180.1,bt180.2))))) = some (r1,r2) := H
  have A5 := Aside0.mk A50
  clear A50
  by_cases c6 : ((decide (a0 < 0)) != (decide (a1 < 0))) = true
  · rw [if_pos c6] at H
    have c6b0 : ((decide (a0 < 0)) != (decide (a1 < 0))) = true := c6
    (try (have c6b1 : decide ((decide (a0 < 0)) = (decide (a1 < 0))) = false := by simpa using c6))
    (try (have c6b2 : ((decide (a0 < 0)) == (decide (a1 < 0))) = false := by simpa using c6))
    (try (have c6b3 : ¬ ((decide (a0 < 0)) = (decide (a1 < 0))) := by simpa using c6))
    clear c6
    by_cases c7 : t172 = 0
    · rw [if_pos c7] at H
      have c7b0 : (t172 == 0) = true := beq_iff_eq.mpr c7
      have c7b1 : (t172 != 0) = false := bne_eq_false_iff_eq.mpr c7
      clear c7
      replace H := Option.bind_eq_some_iff.mp H
      obtain ⟨⟨t174,t175⟩,A80,H⟩ := H
      replace H : (some (t174,t175)) = some (r1,r2) := H
      have A8 := Aside0.mk A80
      clear A80
      simp only [Option.some.injEq,Prod.mk.injEq] at H
      obtain ⟨rfl,rfl⟩ := H
      go_enter Try.func27,Try.ntmps27
      go_wp2_with (first | ((with_reducible refine gate_callee (f := 64) rfl ?_);refine goesL_ (some 10) rfl rfl Try.func64 (by kernel_rfl) rfl #[.int .i64 a0] rfl (by (try simp only [List.map_toArray,List.map_cons,List.map_nil]);first | done | rfl | (simp only [List.length_drop,List.length_take];rfl)) ?_;(with_reducible refine (safe_size.calls a0 t170 _ A3.out).mono ?_);rintro e w' ⟨rfl,⟨nd,rfl⟩⟩;refine ⟨_,rfl,?_⟩) | ((with_reducible refine gate_callee (f := 64) rfl ?_);refine goesL_ (some 12) rfl rfl Try.func64 (by kernel_rfl) rfl #[.int .i64 a1] rfl (by (try simp only [List.map_toArray,List.map_cons,List.map_nil]);first | done | rfl | (simp only [List.length_drop,List.length_take];rfl)) ?_;(with_reducible refine (safe_size.calls a1 t171 _ A4.out).mono ?_);rintro e w' ⟨rfl,⟨nd,rfl⟩⟩;refine ⟨_,rfl,?_⟩) | ((with_reducible refine gate_callee (f := 63) rfl ?_);refine goesL_ (some 13) rfl rfl Try.func63 (by kernel_rfl) rfl #[.int .u64 t170,.int .u64 t171] rfl (by (try simp only [List.map_toArray,List.map_cons,List.map_nil]);first | done | rfl | (simp only [List.length_drop,List.length_take];rfl)) ?_;(with_reducible refine (bits_Mul64.calls t170 t171 t172 t173 _ A5.out).mono ?_);rintro e w' ⟨rfl,⟨nd,rfl⟩⟩;refine ⟨_,rfl,?_⟩) | ((with_reducible refine gate_callee (f := 62) rfl ?_);refine goesL_ (some 30) rfl rfl Try.func62 (by kernel_rfl) rfl #[.int .i64 (wrap64 (IntKind.u64.wrap (-t173))),.bool (decide (t173 ≤ 9223372036854775808))] rfl (by (try simp only [List.map_toArray,List.map_cons,List.map_nil]);first | done | rfl | (simp only [List.length_drop,List.length_take];rfl)) ?_;(with_reducible refine (safe_fits.calls (wrap64 (IntKind.u64.wrap (-t173))) (decide (t173 ≤ 9223372036854775808)) t174 t175 _ A8.out).mono ?_);rintro e w' ⟨rfl,⟨nd,rfl⟩⟩;refine ⟨_,rfl,?_⟩))
      go_ret2
      exact ⟨by first | rfl | (simp;done) | (simp [*];done),by repeat (first | exact Drawn0.refl _ | apply Drawn0.step)⟩
    · rw [if_neg c7] at H
      have c7b0 : (t172 == 0) = false := beq_eq_false_iff_ne.mpr c7
      have c7b1 : (t172 != 0) = true := bne_iff_ne.mpr c7
      replace H := Option.bind_eq_some_iff.mp H
      obtain ⟨⟨t176,t177⟩,A90,H⟩ := H
      replace H : (some (t176,t177)) = some (r1,r2) := H
      have A9 := Aside0.mk A90
      clear A90
      simp only [Option.some.injEq,Prod.mk.injEq] at H
      obtain ⟨rfl,rfl⟩ := H
      go_enter Try.func27,Try.ntmps27
      go_wp2_with (first | ((with_reducible refine gate_callee (f := 64) rfl ?_);refine goesL_ (some 10) rfl rfl Try.func64 (by kernel_rfl) rfl #[.int .i64 a0] rfl (by (try simp only [List.map_toArray,List.map_cons,List.map_nil]);first | done | rfl | (simp only [List.length_drop,List.length_take];rfl)) ?_;(with_reducible refine (safe_size.calls a0 t170 _ A3.out).mono ?_);rintro e w' ⟨rfl,⟨nd,rfl⟩⟩;refine ⟨_,rfl,?_⟩) | ((with_reducible refine gate_callee (f := 64) rfl ?_);refine goesL_ (some 12) rfl rfl Try.func64 (by kernel_rfl) rfl #[.int .i64 a1] rfl (by (try simp only [List.map_toArray,List.map_cons,List.map_nil]);first | done | rfl | (simp only [List.length_drop,List.length_take];rfl)) ?_;(with_reducible refine (safe_size.calls a1 t171 _ A4.out).mono ?_);rintro e w' ⟨rfl,⟨nd,rfl⟩⟩;refine ⟨_,rfl,?_⟩) | ((with_reducible refine gate_callee (f := 63) rfl ?_);refine goesL_ (some 13) rfl rfl Try.func63 (by kernel_rfl) rfl #[.int .u64 t170,.int .u64 t171] rfl (by (try simp only [List.map_toArray,List.map_cons,List.map_nil]);first | done | rfl | (simp only [List.length_drop,List.length_take];rfl)) ?_;(with_reducible refine (bits_Mul64.calls t170 t171 t172 t173 _ A5.out).mono ?_);rintro e w' ⟨rfl,⟨nd,rfl⟩⟩;refine ⟨_,rfl,?_⟩) | ((with_reducible refine gate_callee (f := 62) rfl ?_);refine goesL_ (some 30) rfl rfl Try.func62 (by kernel_rfl) rfl #[.int .i64 (wrap64 (IntKind.u64.wrap (-t173))),.bool false] rfl (by (try simp only [List.map_toArray,List.map_cons,List.map_nil]);first | done | rfl | (simp only [List.length_drop,List.length_take];rfl)) ?_;(with_reducible refine (safe_fits.calls (wrap64 (IntKind.u64.wrap (-t173))) false t176 t177 _ A9.out).mono ?_);rintro e w' ⟨rfl,⟨nd,rfl⟩⟩;refine ⟨_,rfl,?_⟩))
      go_ret2
      exact ⟨by first | rfl | (simp;done) | (simp [*];done),by repeat (first | exact Drawn0.refl _ | apply Drawn0.step)⟩
  · rw [if_neg c6] at H
    have c6b0 : ((decide (a0 < 0)) != (decide (a1 < 0))) = false := by simpa using c6
    (try (have c6b1 : decide ((decide (a0 < 0)) = (decide (a1 < 0))) = true := by simpa using c6))
    (try (have c6b2 : ((decide (a0 < 0)) == (decide (a1 < 0))) = true := by simpa using c6))
    clear c6
    by_cases c10 : t172 = 0
    · rw [if_pos c10] at H
      have c10b0 : (t172 == 0) = true := beq_iff_eq.mpr c10
      have c10b1 : (t172 != 0) = false := bne_eq_false_iff_eq.mpr c10
      clear c10
      replace H := Option.bind_eq_some_iff.mp H
      obtain ⟨⟨t178,t179⟩,A110,H⟩ := H
      replace H : (some (t178,t179)) = some (r1,r2) := H
      have A11 := Aside0.mk A110
      clear A110
      simp only [Option.some.injEq,Prod.mk.injEq] at H
      obtain ⟨rfl,rfl⟩ := H
      go_enter Try.func27,Try.ntmps27
      go_wp2_with (first | ((with_reducible refine gate_callee (f := 64) rfl ?_);refine goesL_ (some 10) rfl rfl Try.func64 (by kernel_rfl) rfl #[.int .i64 a0] rfl (by (try simp only [List.map_toArray,List.map_cons,List.map_nil]);first | done | rfl | (simp only [List.length_drop,List.length_take];rfl)) ?_;(with_reducible refine (safe_size.calls a0 t170 _ A3.out).mono ?_);rintro e w' ⟨rfl,⟨nd,rfl⟩⟩;refine ⟨_,rfl,?_⟩) | ((with_reducible refine gate_callee (f := 64) rfl ?_);refine goesL_ (some 12) rfl rfl Try.func64 (by kernel_rfl) rfl #[.int .i64 a1] rfl (by (try simp only [List.map_toArray,List.map_cons,List.map_nil]);first | done | rfl | (simp only [List.length_drop,List.length_take];rfl)) ?_;(with_reducible refine (safe_size.calls a1 t171 _ A4.out).mono ?_);rintro e w' ⟨rfl,⟨nd,rfl⟩⟩;refine ⟨_,rfl,?_⟩) | ((with_reducible refine gate_callee (f := 63) rfl ?_);refine goesL_ (some 13) rfl rfl Try.func63 (by kernel_rfl) rfl #[.int .u64 t170,.int .u64 t171] rfl (by (try simp only [List.map_toArray,List.map_cons,List.map_nil]);first | done | rfl | (simp only [List.length_drop,List.length_take];rfl)) ?_;(with_reducible refine (bits_Mul64.calls t170 t171 t172 t173 _ A5.out).mono ?_);rintro e w' ⟨rfl,⟨nd,rfl⟩⟩;refine ⟨_,rfl,?_⟩) | ((with_reducible refine gate_callee (f := 62) rfl ?_);refine goesL_ (some 41) rfl rfl Try.func62 (by kernel_rfl) rfl #[.int .i64 (wrap64 (t173)),.bool (decide (t173 < 9223372036854775808))] rfl (by (try simp only [List.map_toArray,List.map_cons,List.map_nil]);first | done | rfl | (simp only [List.length_drop,List.length_take];rfl)) ?_;(with_reducible refine (safe_fits.calls (wrap64 (t173)) (decide (t173 < 9223372036854775808)) t178 t179 _ A11.out).mono ?_);rintro e w' ⟨rfl,⟨nd,rfl⟩⟩;refine ⟨_,rfl,?_⟩))
      go_ret2
      exact ⟨by first | rfl | (simp;done) | (simp [*];done),by repeat (first | exact Drawn0.refl _ | apply Drawn0.step)⟩
    · rw [if_neg c10] at H
      have c10b0 : (t172 == 0) = false := beq_eq_false_iff_ne.mpr c10
      have c10b1 : (t172 != 0) = true := bne_iff_ne.mpr c10
      replace H := Option.bind_eq_some_iff.mp H
      obtain ⟨⟨t180,t181⟩,A120,H⟩ := H
      replace H : (some (t180,t181)) = some (r1,r2) := H
      have A12 := Aside0.mk A120
      clear A120
      simp only [Option.some.injEq,Prod.mk.injEq] at H
      obtain ⟨rfl,rfl⟩ := H
      go_enter Try.func27,Try.ntmps27
      go_wp2_with (first | ((with_reducible refine gate_callee (f := 64) rfl ?_);refine goesL_ (some 10) rfl rfl Try.func64 (by kernel_rfl) rfl #[.int .i64 a0] rfl (by (try simp only [List.map_toArray,List.map_cons,List.map_nil]);first | done | rfl | (simp only [List.length_drop,List.length_take];rfl)) ?_;(with_reducible refine (safe_size.calls a0 t170 _ A3.out).mono ?_);rintro e w' ⟨rfl,⟨nd,rfl⟩⟩;refine ⟨_,rfl,?_⟩) | ((with_reducible refine gate_callee (f := 64) rfl ?_);refine goesL_ (some 12) rfl rfl Try.func64 (by kernel_rfl) rfl #[.int .i64 a1] rfl (by (try simp only [List.map_toArray,List.map_cons,List.map_nil]);first | done | rfl | (simp only [List.length_drop,List.length_take];rfl)) ?_;(with_reducible refine (safe_size.calls a1 t171 _ A4.out).mono ?_);rintro e w' ⟨rfl,⟨nd,rfl⟩⟩;refine ⟨_,rfl,?_⟩) | ((with_reducible refine gate_callee (f := 63) rfl ?_);refine goesL_ (some 13) rfl rfl Try.func63 (by kernel_rfl) rfl #[.int .u64 t170,.int .u64 t171] rfl (by (try simp only [List.map_toArray,List.map_cons,List.map_nil]);first | done | rfl | (simp only [List.length_drop,List.length_take];rfl)) ?_;(with_reducible refine (bits_Mul64.calls t170 t171 t172 t173 _ A5.out).mono ?_);rintro e w' ⟨rfl,⟨nd,rfl⟩⟩;refine ⟨_,rfl,?_⟩) | ((with_reducible refine gate_callee (f := 62) rfl ?_);refine goesL_ (some 41) rfl rfl Try.func62 (by kernel_rfl) rfl #[.int .i64 (wrap64 (t173)),.bool false] rfl (by (try simp only [List.map_toArray,List.map_cons,List.map_nil]);first | done | rfl | (simp only [List.length_drop,List.length_take];rfl)) ?_;(with_reducible refine (safe_fits.calls (wrap64 (t173)) false t180 t181 _ A12.out).mono ?_);rintro e w' ⟨rfl,⟨nd,rfl⟩⟩;refine ⟨_,rfl,?_⟩))
      go_ret2
      exact ⟨by first | rfl | (simp;done) | (simp [*];done),by repeat (first | exact Drawn0.refl _ | apply Drawn0.step)⟩
end Go.Proofs.Ytcenlehfbgnphaa.Z
end
section
namespace Go.Proofs.Ytcenlehfbgnphaa.Z
open Go.RowKit Go.Proofs.YtcenlehfbgnphaaW.PrintWords Go.Proofs.YtcenlehfbgnphaaW.PrintLast Go.Proofs.YtcenlehfbgnphaaW.PrintMore
attribute [local go_sem] max2_int min2_int max_two min_two max_three min_three max_four min_four
set_option linter.unusedVariables false
set_option linter.unusedSimpArgs false
def verdererref03_Add.f (k : Nat) (a0 : Int) (a1 : Int) : Option (Int × Int) := (verdererref03_big.f k a0).bind fun bt139 => ((verdererref03_big.f k a1).bind fun bt143 => ((verdererref03_Plus.f k bt139.1 bt139.2 bt143.1 bt143.2).bind fun bt147 => ((verdererref03_Big_Value.f k bt147.1 bt147.2).bind fun bt151 => (some (bt151.1,bt151.2)))))
theorem verdererref03_Add.mono : ∀ a0 a1 k,LeO (verdererref03_Add.f k a0 a1) (verdererref03_Add.f (k + 1) a0 a1) := by
  intro a0 a1 k
  unfold verdererref03_Add.f
  repeat' first
      | (with_reducible exact verdererref03_Big_Value.mono _ _ _)
      | (with_reducible exact verdererref03_Plus.mono _ _ _ _ _)
      | (with_reducible exact verdererref03_big.mono _ _)
      | (with_reducible exact LeO.refl _)
      | (with_reducible exact LeO.none _)
      | (with_reducible refine LeO.ite ?_ ?_)
      | (with_reducible refine LeO.bind ?_ (fun _ => ?_))
      | exact verdererref03_Big_Value.mono _ _ _
      | exact verdererref03_Plus.mono _ _ _ _ _
      | exact verdererref03_big.mono _ _
      | exact LeO.none _
      | refine LeO.ite ?_ ?_
      | refine LeO.bind ?_ (fun _ => ?_)
set_option maxHeartbeats 8000000 in
set_option maxRecDepth 100000 in
theorem verdererref03_Add.calls (k : Nat) (a0 : Int) (a1 : Int) (r1 : Int) (r2 : Int) (w : World) (h : verdererref03_Add.f k a0 a1 = some (r1,r2)) :
    Calls Try.prog 24 #[.int .i64 a0,.int .i64 a1] w fun e w' => e = .returned (.tuple #[.int .i64 r1,.int .i64 r2]) ∧ Below w.heap.size w w' := by
  have HB := Aside0.mk (Below.refl w.heap.size w)
  have H : ((verdererref03_big.f k a0).bind fun bt139 => ((verdererref03_big.f k a1).bind fun bt143 => ((verdererref03_Plus.f k bt139.1 bt139.2 bt143.1 bt143.2).bind fun bt147 => ((verdererref03_Big_Value.f k bt147.1 bt147.2).bind fun bt151 => (some (bt151.1,bt151.2)))))) = some (r1,r2) := h
  clear h
  replace H := Option.bind_eq_some_iff.mp H
  obtain ⟨⟨t139,t140⟩,A30,H⟩ := H
  replace H : ((verdererref03_big.f k a1).bind fun bt143 => ((verdererref03_Plus.f k t139 t140 bt143.1 bt143.2).bind fun bt147 => ((verdererref03_Big_Value.f k bt147.1 bt147.2).bind fun bt151 => (some (bt151.1,bt151.2))))) = some (r1,r2) := H
  have A3 := Aside0.mk A30
  clear A30
  replace H := Option.bind_eq_some_iff.mp H
  obtain ⟨⟨t143,t144⟩,A40,H⟩ := H
  replace H : ((verdererref03_Plus.f k t139 t140 t143 t144).bind fun bt147 => ((verdererref03_Big_Value.f k bt147.1 bt147.2).bind fun bt151 => (some (bt151.1,bt151.2)))) = some (r1,r2) := H
  have A4 := Aside0.mk A40
  clear A40
  replace H := Option.bind_eq_some_iff.mp H
  obtain ⟨⟨t147,t148⟩,A50,H⟩ := H
  replace H : ((verdererref03_Big_Value.f k t147 t148).bind fun bt151 => (some (bt151.1,bt151.2))) = some (r1,r2) := H
  have A5 := Aside0.mk A50
  clear A50
  replace H := Option.bind_eq_some_iff.mp H
  obtain ⟨⟨t151,t152⟩,A60,H⟩ := H
  replace H : (some (t151,t152)) = some (r1,r2) := H
  have A6 := Aside0.mk A60
  clear A60
  simp only [Option.some.injEq,Prod.mk.injEq] at H
  obtain ⟨rfl,rfl⟩ := H
  go_enter Try.func24,Try.ntmps24
  go_wp2_with (first | ((with_reducible refine gate_callee (f := 61) rfl ?_);refine goesL_ (some 7) rfl rfl Try.func61 (by kernel_rfl) rfl #[.int .i64 a0] rfl (by (try simp only [List.map_toArray,List.map_cons,List.map_nil]);first | done | rfl | (simp only [List.length_drop,List.length_take];rfl)) ?_;(with_reducible refine (verdererref03_big.calls k a0 t139 t140 _ A3.out).mono ?_);rintro e w7 ⟨v141,rfl,ho0,hb⟩;refine ⟨_,rfl,?_⟩;have n0_ := Aside0.mk (Kd.R_lower ho0 (below_size (by repeat (first | (with_reducible first | exact HB.out | apply below_alloc | apply pw_below_drewN | apply below_drew1) | exact HB.out))));have n1_ := Aside0.mk (below_step (by repeat (first | (with_reducible first | exact HB.out | apply below_alloc | apply pw_below_drewN | apply below_drew1) | exact HB.out)) hb);clear HB;have HO142 := n0_;have HB := n1_;clear n0_ n1_;(try clear hb);(try clear hb2);(try clear hk);(try clear hi);(try clear ho0)) | ((with_reducible refine gate_callee (f := 61) rfl ?_);refine goesL_ (some 9) rfl rfl Try.func61 (by kernel_rfl) rfl #[.int .i64 a1] rfl (by (try simp only [List.map_toArray,List.map_cons,List.map_nil]);first | done | rfl | (simp only [List.length_drop,List.length_take];rfl)) ?_;(with_reducible refine (verdererref03_big.calls k a1 t143 t144 _ A4.out).mono ?_);rintro e w8 ⟨v145,rfl,ho0,hb⟩;refine ⟨_,rfl,?_⟩;have n0_ := Aside0.mk (Kd.R_elder' (by (with_reducible repeat (first | apply Kd.R_alloc | apply Kd.R_drewN | apply Kd.R_drew));exact HO142.out) (Kd.R_base ho0) hb);have n1_ := Aside0.mk (Kd.R_lower (Kd.R_new' ho0 (Kd.R_lt (by (with_reducible repeat (first | apply Kd.R_alloc | apply Kd.R_drewN | apply Kd.R_drew));exact HO142.out))) (below_size (by repeat (first | (with_reducible first | exact HB.out | apply below_alloc | apply pw_below_drewN | apply below_drew1) | exact HB.out))));have n2_ := Aside0.mk (below_step (by repeat (first | (with_reducible first | exact HB.out | apply below_alloc | apply pw_below_drewN | apply below_drew1) | exact HB.out)) hb);clear HO142;clear HB;have HO142 := n0_;have HO146 := n1_;have HB := n2_;clear n0_ n1_ n2_;(try clear hb);(try clear hb2);(try clear hk);(try clear hi);(try clear ho0);obtain ⟨Ao9,co9,eo9⟩ := Kd.R_slice HO142.out;subst eo9;obtain ⟨Ao10,co10,eo10⟩ := Kd.R_slice HO146.out;subst eo10) | ((with_reducible refine gate_callee (f := 16) rfl ?_);refine goesL_ (some 10) rfl rfl Try.func16 (by kernel_rfl) rfl #[.agg #[.bool t139,.slice Ao9 t140.length co9],.agg #[.bool t143,.slice Ao10 t144.length co10]] rfl (by (try simp only [List.map_toArray,List.map_cons,List.map_nil]);first | done | rfl | (simp only [List.length_drop,List.length_take];rfl)) ?_;(with_reducible refine (verdererref03_Plus.calls k t139 _ _ t140 t143 _ _ t144 t147 t148 _ ?side1 ?side2 ?side3 ?side4 A5.out).mono ?_);(case side1 => repeat (first | exact (Kd.R_reads' HO142.out).2.2 | (with_reducible refine Kd.C_alloc ?_ _) | (with_reducible refine Kd.C_drewN ?_ _) | (with_reducible refine Kd.C_drew ?_)));(case side2 => exact (Kd.R_reads' HO142.out).2.1);(case side3 => repeat (first | exact (Kd.R_reads' HO146.out).2.2 | (with_reducible refine Kd.C_alloc ?_ _) | (with_reducible refine Kd.C_drewN ?_ _) | (with_reducible refine Kd.C_drew ?_)));(case side4 => exact (Kd.R_reads' HO146.out).2.1);rintro e w11 ⟨v149,rfl,ho0,hb⟩;refine ⟨_,rfl,?_⟩;have n0_ := Aside0.mk (Kd.R_elder' (by (with_reducible repeat (first | apply Kd.R_alloc | apply Kd.R_drewN | apply Kd.R_drew));exact HO142.out) (Kd.R_base ho0) hb);have n1_ := Aside0.mk (Kd.R_elder' (by (with_reducible repeat (first | apply Kd.R_alloc | apply Kd.R_drewN | apply Kd.R_drew));exact HO146.out) (Kd.R_base ho0) hb);have n2_ := Aside0.mk (Kd.R_lower (Kd.R_new' (Kd.R_new' ho0 (Kd.R_lt (by (with_reducible repeat (first | apply Kd.R_alloc | apply Kd.R_drewN | apply Kd.R_drew));exact HO142.out))) (Kd.R_lt (by (with_reducible repeat (first | apply Kd.R_alloc | apply Kd.R_drewN | apply Kd.R_drew));exact HO146.out))) (below_size (by repeat (first | (with_reducible first | exact HB.out | apply below_alloc | apply pw_below_drewN | apply below_drew1) | exact HB.out))));have n3_ := Aside0.mk (below_step (by repeat (first | (with_reducible first | exact HB.out | apply below_alloc | apply pw_below_drewN | apply below_drew1) | exact HB.out)) hb);clear HO142;clear HO146;clear HB;have HO142 := n0_;have HO146 := n1_;have HO150 := n2_;have HB := n3_;clear n0_ n1_ n2_ n3_;(try clear hb);(try clear hb2);(try clear hk);(try clear hi);(try clear ho0);obtain ⟨Ao12,co12,eo12⟩ := Kd.R_slice HO150.out;subst eo12) | ((with_reducible refine gate_callee (f := 19) rfl ?_);refine goesL_ (some 11) rfl rfl Try.func19 (by kernel_rfl) rfl #[.agg #[.bool t147,.slice Ao12 t148.length co12]] rfl (by (try simp only [List.map_toArray,List.map_cons,List.map_nil]);first | done | rfl | (simp only [List.length_drop,List.length_take];rfl)) ?_;(with_reducible refine (verdererref03_Big_Value.calls k t147 _ _ t148 t151 t152 _ ?side1 ?side2 A6.out).mono ?_);(case side1 => repeat (first | exact (Kd.R_reads' HO150.out).2.2 | (with_reducible refine Kd.C_alloc ?_ _) | (with_reducible refine Kd.C_drewN ?_ _) | (with_reducible refine Kd.C_drew ?_)));(case side2 => exact (Kd.R_reads' HO150.out).2.1);rintro e w13 ⟨rfl,hb⟩;refine ⟨_,rfl,?_⟩;have n0_ := Aside0.mk (Kd.R_below (by (with_reducible repeat (first | apply Kd.R_alloc | apply Kd.R_drewN | apply Kd.R_drew));exact HO142.out) hb);have n1_ := Aside0.mk (Kd.R_below (by (with_reducible repeat (first | apply Kd.R_alloc | apply Kd.R_drewN | apply Kd.R_drew));exact HO146.out) hb);have n2_ := Aside0.mk (Kd.R_below (by (with_reducible repeat (first | apply Kd.R_alloc | apply Kd.R_drewN | apply Kd.R_drew));exact HO150.out) hb);have n3_ := Aside0.mk (below_step (by repeat (first | (with_reducible first | exact HB.out | apply below_alloc | apply pw_below_drewN | apply below_drew1) | exact HB.out)) hb);clear HO142;clear HO146;clear HO150;clear HB;have HO142 := n0_;have HO146 := n1_;have HO150 := n2_;have HB := n3_;clear n0_ n1_ n2_ n3_;(try clear hb);(try clear hb2);(try clear hk);(try clear hi)))
  go_ret2
  exact ⟨by first | rfl | (simp [errW_none,errW_some] <;> rfl) | (simp [*,errW_none,errW_some] <;> rfl),by repeat (first | (with_reducible first | exact HB.out | apply below_alloc | apply pw_below_drewN | apply below_drew1) | exact HB.out)⟩
end Go.Proofs.Ytcenlehfbgnphaa.Z
end
section
namespace Go.Proofs.Ytcenlehfbgnphaa.Z
open Go.RowKit Go.Proofs.YtcenlehfbgnphaaW.PrintWords Go.Proofs.YtcenlehfbgnphaaW.PrintLast Go.Proofs.YtcenlehfbgnphaaW.PrintMore
theorem wrap_id1 {x : Int} (h0 : -9223372036854775808 ≤ x) (h1 : x ≤ 9223372036854775807) : wrap64 x = x := by unfold wrap64;omega
def dg (l : List Int) (i : Nat) : Int := l.getD i 0
theorem at_f (b : Bool) (l : List Int) (_hl : l.length ≤ 1000) (i : Nat) : verdererref03_Big_at.f b l (i : Int) = some (dg l i) := by
  unfold verdererref03_Big_at.f dg
  by_cases h : i < l.length
  · rw [if_pos (by omega),if_pos (by omega)];rfl
  · rw [if_neg (by omega)];simp [List.getD,List.getElem?_eq_none (show l.length ≤ i by omega)]
def Dg (l : List Int) : Prop := ∀ i,0 ≤ dg l i ∧ dg l i < 65536
def val : List Int → Int
  | [] => 0
  | d :: ds => d + 65536 * val ds
def from_ (l : List Int) : Nat → Nat → Int
  | _,0 => 0
  | i,n + 1 => dg l i + 65536 * from_ l (i + 1) n
theorem big4 (u : Int) (h0 : 0 ≤ u) (h1 : u < 18446744073709551616) (s : Bool) (k : Nat) : verdererref03_big.l0 (k + 5) u 0 s [] = some (s,[u % 65536,u / 65536 % 65536,u / 4294967296 % 65536,u / 281474976710656]) := by
  have e (n : Nat) (x : Int) (i : Int) (l : List Int) (g0 : 0 ≤ x) (g1 : x < 18446744073709551616) (g2 : i < 4) (g3 : 0 ≤ i) (gl : l.length ≤ 10) : verdererref03_big.l0 (n + 1) x i s l = verdererref03_big.l0 n (x / 65536) (i + 1) s (l ++ [x % 65536]) := by
    simp only [verdererref03_big.l0]
    rw [if_pos g2,if_pos (by omega),wrap_id1 (by omega) (by omega),Int.tdiv_eq_ediv_of_nonneg g0,Int.tmod_eq_emod_of_nonneg g0,Go.IntKind.wrap_u64,show x / 65536 % 18446744073709551616 = x / 65536 by omega]
  rw [e (k + 4) u 0 _ h0 h1 (by decide) (by decide) (by simp),e (k + 3) (u / 65536) _ _ (by omega) (by omega) (by decide) (by decide) (by simp),e (k + 2) (u / 65536 / 65536) _ _ (by omega) (by omega) (by decide) (by decide) (by simp),e (k + 1) (u / 65536 / 65536 / 65536) _ _ (by omega) (by omega) (by decide) (by decide) (by simp)]
  simp only [verdererref03_big.l0]
  rw [if_neg (by decide)]
  simp only [List.nil_append,List.cons_append,Option.some.injEq,Prod.mk.injEq,true_and,List.cons.injEq,and_true]
  refine ⟨?_,?_⟩ <;> omega
def four (a : Int) : List Int := let u : Int := if a < 0 then -a else a;[u % 65536,u / 65536 % 65536,u / 4294967296 % 65536,u / 281474976710656]
theorem big_f {a : Int} (ha : In64 a) (k : Nat) : verdererref03_big.f (k + 6) a = some (decide (a < 0),four a) := by
  unfold verdererref03_big.f four In64 at *
  by_cases h : a < 0
  · rw [if_pos h]
    simp only [verdererref03_big.j0]
    have e : IntKind.u64.wrap (-(IntKind.u64.wrap a)) = -a := by rw [Go.IntKind.wrap_u64,Go.IntKind.wrap_u64];omega
    rw [e,big4 (-a) (by omega) (by omega)]
    simp [h]
  · rw [if_neg h]
    simp only [verdererref03_big.j0]
    have e : IntKind.u64.wrap a = a := by rw [Go.IntKind.wrap_u64];omega
    rw [e,big4 a (by omega) (by omega)]
    simp [h]
def addD (a b : List Int) : Nat → Int → Nat → List Int
  | _,_,0 => []
  | i,c,m + 1 => ((dg a i + dg b i + c) % 65536) :: addD a b (i + 1) ((dg a i + dg b i + c) / 65536) m
theorem plus_l1 (a b : List Int) (na nb s : Bool) (ha : Dg a) (hb : Dg b) (la : a.length ≤ 1000) (lb : b.length ≤ 1000) : ∀ m (i : Nat) (c : Int) (out : List Int) k,i + m = 20 → out.length = i → 0 ≤ c → c ≤ 1 → m < k → verdererref03_Plus.l1 k c (i : Int) na a nb b s out = some (s,out ++ addD a b i c m) := by
  intro m
  induction m with
  | zero =>
    intro i c out k hi ho h0 h1 hk
    obtain ⟨k,rfl⟩ : ∃ m,k = m + 1 := ⟨k - 1,by omega⟩
    simp only [verdererref03_Plus.l1]
    rw [if_neg (by omega)]
    simp [addD]
  | succ m ih =>
    intro i c out k hi ho h0 h1 hk
    obtain ⟨k,rfl⟩ : ∃ m,k = m + 1 := ⟨k - 1,by omega⟩
    obtain ⟨a0,a1⟩ := ha i
    obtain ⟨b0,b1⟩ := hb i
    simp only [verdererref03_Plus.l1]
    have e : IntKind.u64.wrap (IntKind.u64.wrap (dg a i + dg b i) + c) = dg a i + dg b i + c := by rw [Go.IntKind.wrap_u64,Go.IntKind.wrap_u64];omega
    rw [if_pos (by omega),at_f _ _ la,at_f _ _ lb,Option.bind_some,Option.bind_some,if_pos (by omega),e,wrap_id1 (by omega) (by omega),Int.tdiv_eq_ediv_of_nonneg (by omega),Int.tmod_eq_emod_of_nonneg (by omega),Go.IntKind.wrap_u64,show (dg a i + dg b i + c) / 65536 % 18446744073709551616 = (dg a i + dg b i + c) / 65536 by omega,show ((i : Int) + 1) = ((i + 1 : Nat) : Int) by omega]
    rw [ih (i + 1) _ _ k (by omega) (by simp [ho]) (by omega) (by omega) (by omega)]
    simp [addD]
theorem addD_val (a b : List Int) (ha : Dg a) (hb : Dg b) : ∀ m (i : Nat) (c : Int),0 ≤ c → c ≤ 1 → ∃ c',0 ≤ c' ∧ c' ≤ 1 ∧ val (addD a b i c m) + 65536 ^ m * c' = from_ a i m + from_ b i m + c := by
  intro m
  induction m with
  | zero => intro i c h0 h1;exact ⟨c,h0,h1,by simp [addD,val,from_]⟩
  | succ m ih =>
    intro i c h0 h1
    obtain ⟨a0,a1⟩ := ha i
    obtain ⟨b0,b1⟩ := hb i
    obtain ⟨c',g0,g1,g⟩ := ih (i + 1) ((dg a i + dg b i + c) / 65536) (by omega) (by omega)
    refine ⟨c',g0,g1,?_⟩
    simp only [addD,val,from_,Int.pow_succ]
    rw [Int.mul_comm (65536 ^ m) 65536,Int.mul_assoc]
    generalize 65536 ^ m * c' = z at *
    omega
theorem addD_dg (a b : List Int) : ∀ m (i : Nat) (c : Int),(addD a b i c m).length = m ∧ ∀ x ∈ addD a b i c m,0 ≤ x ∧ x < 65536 := by
  intro m
  induction m with
  | zero => intro i c;exact ⟨rfl,fun x hx => by cases hx⟩
  | succ m ih =>
    intro i c
    obtain ⟨h1,h2⟩ := ih (i + 1) ((dg a i + dg b i + c) / 65536)
    refine ⟨by simp [addD,h1],fun x hx => ?_⟩
    simp only [addD,List.mem_cons] at hx
    rcases hx with rfl | hx
    · omega
    · exact h2 x hx
end Go.Proofs.Ytcenlehfbgnphaa.Z
end
section
namespace Go.Proofs.Ytcenlehfbgnphaa.Z
set_option linter.unusedVariables false
open Go.RowKit Go.Proofs.YtcenlehfbgnphaaW.PrintWords Go.Proofs.YtcenlehfbgnphaaW.PrintLast Go.Proofs.YtcenlehfbgnphaaW.PrintMore
theorem pw_pos (n : Nat) : (0 : Int) < 65536 ^ n := Int.pow_pos (by decide)
theorem from_top (l : List Int) : ∀ n i,from_ l i (n + 1) = from_ l i n + 65536 ^ n * dg l (i + n) := by
  intro n
  induction n with
  | zero => intro i;simp [from_]
  | succ n ih =>
    intro i
    rw [from_,ih (i + 1),from_,Int.pow_succ,show i + 1 + n = i + (n + 1) by omega,Int.mul_add,Int.mul_comm (65536 ^ n) 65536,Int.mul_assoc]
    omega
theorem from_lt {l : List Int} (h : Dg l) : ∀ n i,0 ≤ from_ l i n ∧ from_ l i n < 65536 ^ n := by
  intro n
  induction n with
  | zero => intro i;simp [from_]
  | succ n ih =>
    intro i
    obtain ⟨h0,h1⟩ := ih (i + 1)
    obtain ⟨g0,g1⟩ := h i
    rw [from_,Int.pow_succ,Int.mul_comm (65536 ^ n)]
    omega
theorem from_add (l : List Int) : ∀ m n i,from_ l i (m + n) = from_ l i m + 65536 ^ m * from_ l (i + m) n := by
  intro m
  induction m with
  | zero => intro n i;simp [from_]
  | succ m ih =>
    intro n i
    rw [show m + 1 + n = (m + n) + 1 by omega,from_,ih n (i + 1),from_,Int.pow_succ,show i + 1 + m = i + (m + 1) by omega,Int.mul_add,Int.mul_comm (65536 ^ m) 65536,Int.mul_assoc]
    omega
theorem val_from : ∀ (l : List Int) (p : List Int),from_ (p ++ l) p.length l.length = val l := by
  intro l
  induction l with
  | nil => intro p;rfl
  | cons d ds ih =>
    intro p
    have h := ih (p ++ [d])
    rw [List.append_assoc,List.length_append] at h
    simp only [List.length_cons,from_,val]
    have e : dg (p ++ d :: ds) p.length = d := by simp [dg]
    rw [e]
    simp only [List.length_cons,List.length_nil,List.cons_append,List.nil_append] at h
    rw [show p.length + 1 = p.length + (0 + 1) by omega,h]
theorem val_whole (l : List Int) : from_ l 0 l.length = val l := val_from l []
theorem top_lt {p x y d e : Int} (hp : 0 < p) (hx : x < p) (hy : 0 ≤ y) (h : d < e) : x + p * d < y + p * e := by
  have h1 : p * (d + 1) ≤ p * e := Int.mul_le_mul_of_nonneg_left (by omega) (by omega)
  rw [Int.mul_add,Int.mul_one] at h1
  omega
theorem less_l0 (a b : List Int) (na nb : Bool) (ha : Dg a) (hb : Dg b) (la : a.length ≤ 1000) (lb : b.length ≤ 1000) : ∀ n k,n ≤ 20 → n < k → verdererref03_less.l0 k ((n : Int) - 1) na a nb b = some (decide (from_ a 0 n < from_ b 0 n)) := by
  intro n
  induction n with
  | zero =>
    intro k _ hk
    obtain ⟨k,rfl⟩ : ∃ m,k = m + 1 := ⟨k - 1,by omega⟩
    simp only [verdererref03_less.l0]
    rw [if_neg (by omega)]
    simp [from_]
  | succ n ih =>
    intro k hn hk
    obtain ⟨k,rfl⟩ : ∃ m,k = m + 1 := ⟨k - 1,by omega⟩
    simp only [verdererref03_less.l0]
    rw [show ((n + 1 : Nat) : Int) - 1 = (n : Int) by omega,if_pos (by omega),at_f _ _ la,at_f _ _ lb]
    simp only [Option.bind_some]
    rw [from_top,from_top,Nat.zero_add]
    obtain ⟨a0,a1⟩ := from_lt ha n 0
    obtain ⟨b0,b1⟩ := from_lt hb n 0
    have hp := pw_pos n
    by_cases h : dg a n = dg b n
    · rw [if_pos h,wrap_id1 (by omega) (by omega),ih k (by omega) (by omega),h]
      congr 1
      rw [decide_eq_decide]
      omega
    · rw [if_neg h]
      congr 1
      rw [decide_eq_decide]
      rcases Int.lt_or_gt_of_ne h with h1 | h1
      · have := top_lt hp a1 b0 h1
        omega
      · have := top_lt hp b1 a0 h1
        omega
theorem less_f (a b : List Int) (na nb : Bool) (ha : Dg a) (hb : Dg b) (la : a.length ≤ 1000) (lb : b.length ≤ 1000) (k : Nat) (hk : 20 < k) : verdererref03_less.f k na a nb b = some (decide (from_ a 0 20 < from_ b 0 20)) := less_l0 a b na nb ha hb la lb 20 k (by omega) hk
def subD (a b : List Int) : Nat → Int → Nat → List Int
  | _,_,0 => []
  | i,c,m + 1 => ((dg a i + 65536 - dg b i - c) % 65536) :: subD a b (i + 1) (1 - (dg a i + 65536 - dg b i - c) / 65536) m
theorem plus_l0 (a b : List Int) (na nb s : Bool) (ha : Dg a) (hb : Dg b) (la : a.length ≤ 1000) (lb : b.length ≤ 1000) : ∀ m (i : Nat) (c : Int) (out : List Int) k,i + m = 20 → out.length = i → 0 ≤ c → c ≤ 1 → m < k → verdererref03_Plus.l0 k c (i : Int) na a nb b s out = some (s,out ++ subD a b i c m) := by
  intro m
  induction m with
  | zero =>
    intro i c out k hi ho h0 h1 hk
    obtain ⟨k,rfl⟩ : ∃ m,k = m + 1 := ⟨k - 1,by omega⟩
    simp only [verdererref03_Plus.l0]
    rw [if_neg (by omega)]
    simp [subD]
  | succ m ih =>
    intro i c out k hi ho h0 h1 hk
    obtain ⟨k,rfl⟩ : ∃ m,k = m + 1 := ⟨k - 1,by omega⟩
    obtain ⟨a0,a1⟩ := ha i
    obtain ⟨b0,b1⟩ := hb i
    simp only [verdererref03_Plus.l0]
    have e : IntKind.u64.wrap (IntKind.u64.wrap (IntKind.u64.wrap (dg a i + 65536) - dg b i) - c) = dg a i + 65536 - dg b i - c := by rw [Go.IntKind.wrap_u64,Go.IntKind.wrap_u64,Go.IntKind.wrap_u64];omega
    rw [if_pos (by omega),at_f _ _ la,at_f _ _ lb,Option.bind_some,Option.bind_some,if_pos (by omega),e,wrap_id1 (by omega) (by omega),Int.tdiv_eq_ediv_of_nonneg (by omega),Int.tmod_eq_emod_of_nonneg (by omega)]
    have e2 : IntKind.u64.wrap (1 - IntKind.u64.wrap ((dg a i + 65536 - dg b i - c) / 65536)) = 1 - (dg a i + 65536 - dg b i - c) / 65536 := by rw [Go.IntKind.wrap_u64,Go.IntKind.wrap_u64];omega
    rw [e2,show ((i : Int) + 1) = ((i + 1 : Nat) : Int) by omega]
    rw [ih (i + 1) _ _ k (by omega) (by simp [ho]) (by omega) (by omega) (by omega)]
    simp [subD]
theorem subD_val (a b : List Int) (ha : Dg a) (hb : Dg b) : ∀ m (i : Nat) (c : Int),0 ≤ c → c ≤ 1 → ∃ c',0 ≤ c' ∧ c' ≤ 1 ∧ val (subD a b i c m) - 65536 ^ m * c' = from_ a i m - from_ b i m - c := by
  intro m
  induction m with
  | zero => intro i c h0 h1;exact ⟨c,h0,h1,by simp [subD,val,from_]⟩
  | succ m ih =>
    intro i c h0 h1
    obtain ⟨a0,a1⟩ := ha i
    obtain ⟨b0,b1⟩ := hb i
    obtain ⟨c',g0,g1,g⟩ := ih (i + 1) (1 - (dg a i + 65536 - dg b i - c) / 65536) (by omega) (by omega)
    refine ⟨c',g0,g1,?_⟩
    simp only [subD,val,from_,Int.pow_succ]
    rw [Int.mul_comm (65536 ^ m) 65536,Int.mul_assoc]
    generalize 65536 ^ m * c' = z at *
    omega
theorem subD_dg (a b : List Int) : ∀ m (i : Nat) (c : Int),(subD a b i c m).length = m ∧ ∀ x ∈ subD a b i c m,0 ≤ x ∧ x < 65536 := by
  intro m
  induction m with
  | zero => intro i c;exact ⟨rfl,fun x hx => by cases hx⟩
  | succ m ih =>
    intro i c
    obtain ⟨h1,h2⟩ := ih (i + 1) (1 - (dg a i + 65536 - dg b i - c) / 65536)
    refine ⟨by simp [subD,h1],fun x hx => ?_⟩
    simp only [subD,List.mem_cons] at hx
    rcases hx with rfl | hx
    · omega
    · exact h2 x hx
theorem dg_of {l : List Int} (h : ∀ x ∈ l,0 ≤ x ∧ x < 65536) : Dg l := by
  intro i
  unfold dg
  by_cases hi : i < l.length
  · have := h _ (List.getElem_mem hi)
    simpa [List.getD,List.getElem?_eq_getElem hi] using this
  · simp [List.getD,List.getElem?_eq_none (show l.length ≤ i by omega)]
def sg (s : Bool) (v : Int) : Int := if s then -v else v
theorem plus_f (a b : List Int) (na nb : Bool) (ha : Dg a) (hb : Dg b) (la : a.length ≤ 1000) (lb : b.length ≤ 1000) (hs : from_ a 0 20 + from_ b 0 20 < 65536 ^ 20) (k : Nat) (hk : 23 < k) :
    ∃ s l,verdererref03_Plus.f k na a nb b = some (s,l) ∧ l.length = 20 ∧ Dg l ∧ sg s (from_ l 0 20) = sg na (from_ a 0 20) + sg nb (from_ b 0 20) := by
  have sub (a b : List Int) (na nb : Bool) (ha : Dg a) (hb : Dg b) (la : a.length ≤ 1000) (lb : b.length ≤ 1000) (hab : from_ b 0 20 ≤ from_ a 0 20) (k : Nat) (hk : 20 < k) : ∃ l,verdererref03_Plus.l0 k 0 0 na a nb b na [] = some (na,l) ∧ l.length = 20 ∧ Dg l ∧ from_ l 0 20 = from_ a 0 20 - from_ b 0 20 := by
    have h := plus_l0 a b na nb na ha hb la lb 20 0 0 [] k (by omega) rfl (by omega) (by omega) hk
    obtain ⟨c,c0,c1,hc⟩ := subD_val a b ha hb 20 0 0 (by omega) (by omega)
    obtain ⟨h1,h2⟩ := subD_dg a b 20 0 0
    have hd := dg_of h2
    have hv := val_whole (subD a b 0 0 20)
    rw [h1] at hv
    obtain ⟨v0,v1⟩ := from_lt hd 20 0
    refine ⟨_,h,h1,hd,?_⟩
    rw [List.nil_append,hv]
    rw [hv] at v0 v1
    have hp := pw_pos 20
    generalize (65536 : Int) ^ 20 = p at *
    have : c = 0 := by
      rcases (show c = 0 ∨ c = 1 by omega) with e | e
      · exact e
      · rw [e] at hc;omega
    rw [this] at hc
    omega
  obtain ⟨k,rfl⟩ : ∃ m,k = m + 1 := ⟨k - 1,by omega⟩
  rw [verdererref03_Plus.f]
  by_cases hn : (na != nb) = true
  · rw [if_pos hn,less_f a b na nb ha hb la lb k (by omega),Option.bind_some]
    by_cases hlt : from_ a 0 20 < from_ b 0 20
    · rw [if_pos (decide_eq_true hlt)]
      obtain ⟨k,rfl⟩ : ∃ m,k = m + 1 := ⟨k - 1,by omega⟩
      rw [verdererref03_Plus.f,if_pos (by cases na <;> cases nb <;> simp_all),less_f b a nb na hb ha lb la k (by omega),Option.bind_some,if_neg (by rw [decide_eq_true_eq];omega)]
      obtain ⟨l,e,h1,h2,h3⟩ := sub b a nb na hb ha lb la (by omega) k (by omega)
      refine ⟨nb,l,by rw [e];rfl,h1,h2,?_⟩
      rw [h3]
      unfold sg
      cases na <;> cases nb <;> simp_all <;> omega
    · rw [if_neg (by rw [decide_eq_true_eq];omega)]
      obtain ⟨l,e,h1,h2,h3⟩ := sub a b na nb ha hb la lb (by omega) k (by omega)
      refine ⟨na,l,e,h1,h2,?_⟩
      rw [h3]
      unfold sg
      cases na <;> cases nb <;> simp_all <;> omega
  · rw [if_neg hn]
    have h := plus_l1 a b na nb na ha hb la lb 20 0 0 [] k (by omega) rfl (by omega) (by omega) (by omega)
    obtain ⟨c,c0,c1,hc⟩ := addD_val a b ha hb 20 0 0 (by omega) (by omega)
    obtain ⟨h1,h2⟩ := addD_dg a b 20 0 0
    have hd := dg_of h2
    have hv := val_whole (addD a b 0 0 20)
    rw [h1] at hv
    obtain ⟨v0,v1⟩ := from_lt hd 20 0
    refine ⟨na,_,h,h1,hd,?_⟩
    rw [List.nil_append,hv]
    rw [hv] at v0 v1
    generalize (65536 : Int) ^ 20 = p at *
    have : c = 0 := by
      rcases (show c = 0 ∨ c = 1 by omega) with e | e
      · exact e
      · rw [e] at hc;omega
    rw [this] at hc
    unfold sg
    cases na <;> cases nb <;> simp_all <;> omega
end Go.Proofs.Ytcenlehfbgnphaa.Z
end
section
namespace Go.Proofs.Ytcenlehfbgnphaa.Z
set_option linter.unusedVariables false
open Go.RowKit Go.Proofs.YtcenlehfbgnphaaW.PrintWords Go.Proofs.YtcenlehfbgnphaaW.PrintLast Go.Proofs.YtcenlehfbgnphaaW.PrintMore
theorem value_hi (l : List Int) (s : Bool) (hd : Dg l) (hl : l.length ≤ 1000) : ∀ n k,n ≤ 16 → verdererref03_Big_Value.l0 (k + 2 * n) 0 ((n : Int) + 3) s l = if from_ l 4 n > 0 then some (0,10) else verdererref03_Big_Value.l0 k 0 3 s l := by
  intro n
  induction n with
  | zero => intro k _;simp [from_]
  | succ n ih =>
    intro k hn
    obtain ⟨d0,d1⟩ := hd (n + 4)
    obtain ⟨f0,f1⟩ := from_lt hd n 4
    have hp := pw_pos n
    rw [show k + 2 * (n + 1) = k + 2 * n + 1 + 1 by omega,show ((n + 1 : Nat) : Int) + 3 = ((n + 4 : Nat) : Int) by omega,from_top,show 4 + n = n + 4 by omega]
    simp only [verdererref03_Big_Value.l0]
    rw [if_pos (by omega),if_pos (by omega),at_f _ _ hl,Option.bind_some]
    simp only [verdererref03_Big_Value.j1]
    by_cases h : dg l (n + 4) > 0
    · have := Int.mul_pos hp h
      rw [if_pos (decide_eq_true h),if_pos (by omega)]
    · have e : dg l (n + 4) = 0 := by omega
      rw [if_neg (by rw [decide_eq_true_eq];exact h),if_neg (by omega),wrap_id1 (by omega) (by omega),show ((n + 4 : Nat) : Int) - 1 = (n : Int) + 3 by omega,ih k (by omega),e]
      simp
theorem value_f (l : List Int) (s : Bool) (hd : Dg l) (hl : l.length ≤ 1000) (k : Nat) (hk : 60 ≤ k) : verdererref03_Big_Value.f k s l = some (fitF (sg s (from_ l 0 20))) := by
  unfold verdererref03_Big_Value.f
  obtain ⟨k,rfl⟩ : ∃ m,k = (m + 10) + 2 * 16 := ⟨k - 42,by omega⟩
  have h := value_hi l s hd hl 16 (k + 10) (by omega)
  rw [show ((16 : Nat) : Int) + 3 = 19 from rfl] at h
  rw [h,show (20 : Nat) = 4 + 16 from rfl,from_add,show (65536 : Int) ^ 4 = 18446744073709551616 from rfl]
  obtain ⟨f0,f1⟩ := from_lt hd 4 0
  obtain ⟨g0,g1⟩ := from_lt hd 16 4
  rw [show (65536 : Int) ^ 4 = 18446744073709551616 from rfl] at f1
  rw [show 0 + 4 = 4 from rfl]
  clear h
  generalize from_ l 4 16 = H at *
  by_cases hH : H > 0
  · rw [if_pos hH]
    unfold fitF sg
    congr 1
    cases s
    · simp only [Bool.false_eq_true,if_false];rw [if_neg (by omega)]
    · simp only [if_true];rw [if_neg (by omega)]
  · rw [if_neg hH,show H = 0 by omega,Int.mul_zero,Int.add_zero]
    have e (n : Nat) (x : Int) (i : Nat) (hx : 0 ≤ x) (hx1 : x < 281474976710656) (hi : i ≤ 3) : verdererref03_Big_Value.l0 (n + 1 + 1) x (i : Int) s l = verdererref03_Big_Value.l0 n (x * 65536 + dg l i) ((i : Int) - 1) s l := by
      obtain ⟨d0,d1⟩ := hd i
      simp only [verdererref03_Big_Value.l0]
      rw [if_pos (by omega),if_neg (by omega)]
      simp only [verdererref03_Big_Value.j1,Bool.false_eq_true,if_false]
      rw [if_pos (by omega),at_f _ _ hl,Option.bind_some,wrap_id1 (by omega) (by omega),Go.IntKind.wrap_u64,Go.IntKind.wrap_u64,show (x * 65536 % 18446744073709551616 + dg l i) % 18446744073709551616 = x * 65536 + dg l i by omega]
    obtain ⟨a0,a1⟩ := hd 0
    obtain ⟨b0,b1⟩ := hd 1
    obtain ⟨c0,c1⟩ := hd 2
    obtain ⟨d0,d1⟩ := hd 3
    have e3 := e (k + 8) 0 3 (by omega) (by omega) (by omega)
    have e2 := e (k + 6) (0 * 65536 + dg l 3) 2 (by omega) (by omega) (by omega)
    have e1 := e (k + 4) ((0 * 65536 + dg l 3) * 65536 + dg l 2) 1 (by omega) (by omega) (by omega)
    have e0 := e (k + 2) (((0 * 65536 + dg l 3) * 65536 + dg l 2) * 65536 + dg l 1) 0 (by omega) (by omega) (by omega)
    have hv : from_ l 0 4 = (((0 * 65536 + dg l 3) * 65536 + dg l 2) * 65536 + dg l 1) * 65536 + dg l 0 := by
      simp only [from_,Nat.zero_add,Nat.reduceAdd]
      omega
    rw [show ((3 : Nat) : Int) = 3 from rfl,show (3 : Int) - 1 = ((2 : Nat) : Int) from rfl] at e3
    rw [show ((2 : Nat) : Int) - 1 = ((1 : Nat) : Int) from rfl] at e2
    rw [show ((1 : Nat) : Int) - 1 = ((0 : Nat) : Int) from rfl] at e1
    rw [show ((0 : Nat) : Int) - 1 = -1 from rfl] at e0
    rw [e3,e2,e1,e0,← hv]
    clear e e0 e1 e2 e3 hv
    generalize from_ l 0 4 = V at *
    simp only [verdererref03_Big_Value.l0]
    rw [if_neg (by decide)]
    unfold fitF sg
    cases s
    · simp only [Bool.false_eq_true,if_false,verdererref03_Big_Value.j2]
      by_cases hV : V < 9223372036854775808
      · rw [if_pos hV,if_pos (by omega),wrap_id1 (by omega) (by omega)]
      · rw [if_neg hV,if_neg (by omega)]
    · simp only [if_true,verdererref03_Big_Value.j2]
      by_cases hV : V ≤ 9223372036854775808
      · rw [if_pos (decide_eq_true hV),if_pos (by omega),Go.IntKind.wrap_u64]
        have : wrap64 (-V % 18446744073709551616) = -V := by unfold wrap64;omega
        rw [this]
      · rw [if_neg (by rw [decide_eq_true_eq];exact hV),if_neg (by omega)]
theorem four_dg (a : Int) (ha : In64 a) : Dg (four a) := by
  apply dg_of
  unfold In64 at ha
  intro x hx
  simp only [four,List.mem_cons,List.not_mem_nil,or_false] at hx
  rcases hx with rfl | rfl | rfl | rfl <;> split <;> omega
theorem four_hi (a : Int) (n : Nat) (h : 4 ≤ n) : dg (four a) n = 0 := by
  unfold dg
  simp [List.getD,List.getElem?_eq_none (show (four a).length ≤ n by simpa [four] using h)]
theorem from_zero {l : List Int} : ∀ m i,(∀ n,i ≤ n → dg l n = 0) → from_ l i m = 0 := by
  intro m
  induction m with
  | zero => intro i _;rfl
  | succ m ih => intro i h;rw [from_,h i (Nat.le_refl _),ih (i + 1) (fun n hn => h n (by omega))];rfl
theorem four_from (a : Int) (ha : In64 a) (m : Nat) : from_ (four a) 0 (4 + m) = (if a < 0 then -a else a) := by
  rw [from_add,from_zero m (0 + 4) (fun n hn => four_hi a n (by omega)),Int.mul_zero,Int.add_zero]
  have e : from_ (four a) 0 4 = val (four a) := val_whole (four a)
  rw [e]
  unfold four In64 at *
  simp only [val]
  split <;> omega
end Go.Proofs.Ytcenlehfbgnphaa.Z
end
section
namespace Go.Proofs.Ytcenlehfbgnphaa.Z
set_option linter.unusedVariables false
set_option linter.unusedSimpArgs false
set_option maxHeartbeats 1000000
open Go.RowKit Go.Proofs.YtcenlehfbgnphaaW.PrintWords Go.Proofs.YtcenlehfbgnphaaW.PrintLast Go.Proofs.YtcenlehfbgnphaaW.PrintMore
theorem dg_set (l : List Int) (p : Nat) (d : Int) (h : p < l.length) (n : Nat) : dg (l.set p d) n = if n = p then d else dg l n := by
  unfold dg
  by_cases e : n = p
  · subst e;simp [List.getD,h]
  · rw [if_neg e];simp [List.getD,List.getElem?_set_ne (fun q => e q.symm)]
theorem from_set (l : List Int) (p : Nat) (d : Int) (h : p < l.length) : ∀ n,from_ (l.set p d) 0 n = from_ l 0 n + (if p < n then 65536 ^ p * (d - dg l p) else 0) := by
  intro n
  induction n with
  | zero => simp [from_]
  | succ n ih =>
    rw [from_top,from_top,ih,Nat.zero_add,dg_set l p d h]
    rcases Nat.lt_trichotomy p n with g | g | g
    · rw [if_pos g,if_neg (show ¬ n = p by omega),if_pos (show p < n + 1 by omega)];omega
    · subst g
      rw [if_neg (show ¬ p < p by omega),if_pos rfl,if_pos (show p < p + 1 by omega),Int.mul_sub];omega
    · rw [if_neg (show ¬ p < n by omega),if_neg (show ¬ n = p by omega),if_neg (show ¬ p < n + 1 by omega)];omega
theorem step_sum {p a b F c o : Int} : p * ((o + a * b + c) % 65536 - o) + p * 65536 * ((o + a * b + c) / 65536 + a * F) = p * (c + a * (b + 65536 * F)) := by
  rw [Int.mul_assoc,← Int.mul_add]
  congr 1
  have e : a * (b + 65536 * F) = a * b + 65536 * (a * F) := by rw [Int.mul_add,Int.mul_left_comm]
  rw [e]
  omega
theorem pw_mono {m n : Nat} (h : m ≤ n) : (65536 : Int) ^ m ≤ 65536 ^ n := by
  obtain ⟨d,rfl⟩ : ∃ d,n = m + d := ⟨n - m,by omega⟩
  rw [Int.pow_add]
  have h1 := Int.mul_le_mul_of_nonneg_left (show (1 : Int) ≤ 65536 ^ d from pw_pos d) (Int.le_of_lt (pw_pos m))
  omega
theorem prod_lt {a b A B : Int} (a0 : 0 ≤ a) (b0 : 0 ≤ b) (h1 : a ≤ A) (h2 : b ≤ B) : 0 ≤ a * b ∧ a * b ≤ A * B := ⟨Int.mul_nonneg a0 b0,Int.mul_le_mul h1 h2 b0 (by omega)⟩
theorem from_succ (l : List Int) (i n : Nat) : from_ l i (n + 1) = dg l i + 65536 * from_ l (i + 1) n := rfl
theorem times_eq (p A B F c o V : Int) : V + p * ((o + A * B + c) % 65536 - o) + p * 65536 * ((o + A * B + c) / 65536 + A * F) = V + p * (c + A * (B + 65536 * F)) := by
  have h := @step_sum p A B F c o
  rw [Int.add_assoc,h]
theorem times_fin {a b F c o X Y Z q Fb : Int} (n : Nat) {n' : Nat} (hs : Z = Y + (if n < n' then 65536 ^ n * ((o + a * b + c) % 65536 - o) else 0)) (hn : n < n') (hF : Fb = b + 65536 * F) (r : X + q = Z + 65536 ^ (n + 1) * ((o + a * b + c) / 65536 + a * F)) : X + q = Y + 65536 ^ n * (c + a * Fb) := by
  rw [if_pos hn] at hs
  rw [r,hs,hF,Int.pow_succ]
  generalize (65536 : Int) ^ n = P
  exact times_eq P a b F c o Y
theorem wrap_sum {m n : Nat} (h : m + n ≤ 1000) : wrap64 ((m : Int) + (n : Int)) = ((m + n : Nat) : Int) := by unfold wrap64;omega
theorem wrap_step {o q c : Int} (o0 : 0 ≤ o) (o1 : o < 65536) (q0 : 0 ≤ q) (q1 : q ≤ 65535 * 65535) (h0 : 0 ≤ c) (h1 : c ≤ 65535) : IntKind.u64.wrap (IntKind.u64.wrap (o + IntKind.u64.wrap q) + c) = o + q + c := by
  rw [Go.IntKind.wrap_u64,Go.IntKind.wrap_u64,Go.IntKind.wrap_u64];omega
theorem times_l1 (a b : List Int) (na nb s : Bool) (ha : Dg a) (hb : Dg b) (la : a.length ≤ 1000) (lb : b.length ≤ 1000) (i : Nat) (hi : i < 4) : ∀ m (j : Nat) (c : Int) (out : List Int) k,j + m = 12 → out.length = 20 → Dg out → 0 ≤ c → c ≤ 65535 →
    ∃ out' c',out'.length = 20 ∧ Dg out' ∧ 0 ≤ c' ∧ c' ≤ 65535 ∧ from_ out' 0 20 + 65536 ^ (i + 12) * c' = from_ out 0 20 + 65536 ^ (i + j) * (c + dg a i * from_ b j m) ∧ verdererref03_Times.l1 (k + m + 1) (i : Int) c (j : Int) na a nb b s out = verdererref03_Times.l0 k ((i + 1 : Nat) : Int) na a nb b s out' := by
  intro m
  induction m with
  | zero =>
    intro j c out k hj ho hd h0 h1
    refine ⟨out,c,ho,hd,h0,h1,?_,?_⟩
    · obtain rfl : j = 12 := by omega
      have e : from_ b 12 0 = 0 := rfl
      rw [e,Int.mul_zero,Int.add_zero]
    · simp only [Nat.add_zero,verdererref03_Times.l1]
      rw [if_neg (by omega),wrap_id1 (by omega) (by omega)]
      rfl
  | succ m ih =>
    intro j c out k hj ho hd h0 h1
    obtain ⟨a0,a1⟩ := ha i
    obtain ⟨b0,b1⟩ := hb j
    obtain ⟨o0,o1⟩ := hd (i + j)
    obtain ⟨q0,q1⟩ := prod_lt a0 b0 (show dg a i ≤ 65535 by omega) (show dg b j ≤ 65535 by omega)
    have hlt : i + j < out.length := by omega
    have ed : 0 ≤ dg out (i + j) + dg a i * dg b j + c := by omega
    have h20 : i + j < 20 := by omega
    have k1 : k + (m + 1) + 1 = (k + m + 1) + 1 := by omega
    have k2 : (j : Int) < 12 := by omega
    have k3 : 0 ≤ ((i + j : Nat) : Int) := by omega
    have k4 : ((i + j : Nat) : Int) < (out.length : Int) := by omega
    have k5 : (dg out (i + j) + dg a i * dg b j + c) / 65536 % 18446744073709551616 = (dg out (i + j) + dg a i * dg b j + c) / 65536 := by omega
    have k7 : j + 1 + m = 12 := by omega
    have k8 : 0 ≤ (dg out (i + j) + dg a i * dg b j + c) / 65536 := by omega
    have k9 : (dg out (i + j) + dg a i * dg b j + c) / 65536 ≤ 65535 := by omega
    have kd : Dg (out.set (i + j) ((dg out (i + j) + dg a i * dg b j + c) % 65536)) := by
      intro n
      rw [dg_set _ _ _ hlt]
      split
      · omega
      · exact hd n
    have kl : (out.set (i + j) ((dg out (i + j) + dg a i * dg b j + c) % 65536)).length = 20 := by simpa using ho
    have h12 : j + 1 ≤ 1000 := by omega
    have ei : wrap64 ((i : Int) + (j : Int)) = ((i + j : Nat) : Int) := wrap_sum (by omega)
    have er : rd out ((i + j : Nat) : Int) = dg out (i + j) := rfl
    have e : IntKind.u64.wrap (IntKind.u64.wrap (dg out (i + j) + IntKind.u64.wrap (dg a i * dg b j)) + c) = dg out (i + j) + dg a i * dg b j + c := wrap_step o0 o1 q0 q1 h0 h1
    have k6 : wrap64 ((j : Int) + 1) = ((j + 1 : Nat) : Int) := wrap_sum (n := 1) h12
    have fs := from_set out (i + j) ((dg out (i + j) + dg a i * dg b j + c) % 65536) hlt 20
    have fb := from_succ b j m
    obtain ⟨out',c',r1,r2,r3,r4,r5,r6⟩ := ih (j + 1) _ _ k k7 kl kd k8 k9
    refine ⟨out',c',r1,r2,r3,r4,?_,?_⟩
    · exact times_fin (i + j) fs h20 fb r5
    · rw [k1,verdererref03_Times.l1,if_pos k2,ei,if_pos k3,if_pos k4,at_f _ _ la,at_f _ _ lb,Option.bind_some,Option.bind_some,er,e,Int.tdiv_eq_ediv_of_nonneg ed,Int.tmod_eq_emod_of_nonneg ed,Go.IntKind.wrap_u64,k5,k6,show ((i + j : Nat) : Int).toNat = i + j from rfl]
      exact r6
theorem times_l0 (a b : List Int) (na nb s : Bool) (ha : Dg a) (hb : Dg b) (la : a.length ≤ 1000) (lb : b.length ≤ 1000) (hB : from_ b 0 12 < 65536 ^ 4) : ∀ m (i : Nat) (out : List Int) k,i + m = 4 → out.length = 20 → Dg out → from_ out 0 20 = from_ a 0 i * from_ b 0 12 →
    ∃ out',out'.length = 20 ∧ Dg out' ∧ from_ out' 0 20 = from_ a 0 4 * from_ b 0 12 ∧ verdererref03_Times.l0 (k + 14 * m + 1) (i : Int) na a nb b s out = some (s,out') := by
  intro m
  induction m with
  | zero =>
    intro i out k hi ho hd hv
    refine ⟨out,ho,hd,by rw [hv,show i = 4 by omega],?_⟩
    simp only [Nat.mul_zero,Nat.add_zero,verdererref03_Times.l0]
    rw [if_neg (by omega)]
  | succ m ih =>
    intro i out k hi ho hd hv
    obtain ⟨out',c',r1,r2,r3,r4,r5,r6⟩ := times_l1 a b na nb s ha hb la lb i (by omega) 12 0 0 out (k + 14 * m + 1) (by omega) ho hd (by omega) (by omega)
    have hv' : from_ a 0 (i + 1) * from_ b 0 12 = from_ out 0 20 + 65536 ^ (i + 0) * (0 + dg a i * from_ b 0 12) := by
      rw [from_top,Nat.zero_add,hv,Nat.add_zero,Int.zero_add,Int.add_mul,Int.mul_assoc]
    rw [← hv'] at r5
    obtain ⟨A0,A1⟩ := from_lt ha (i + 1) 0
    obtain ⟨B0,B1⟩ := from_lt hb 12 0
    obtain ⟨o0,o1⟩ := from_lt r2 20 0
    have hp := pw_pos i
    have hA : from_ a 0 (i + 1) ≤ 65536 ^ 4 := by
      have : (65536 : Int) ^ (i + 1) ≤ 65536 ^ 4 := pw_mono (by omega)
      omega
    obtain ⟨P0,P1⟩ := prod_lt A0 B0 hA (Int.le_of_lt hB)
    have hz : c' = 0 := by
      rcases (show c' = 0 ∨ 1 ≤ c' by omega) with e | e
      · exact e
      · exfalso
        have h1 : (65536 : Int) ^ 12 ≤ 65536 ^ (i + 12) := pw_mono (by omega)
        have h2 : (65536 : Int) ^ (i + 12) * 1 ≤ 65536 ^ (i + 12) * c' := Int.mul_le_mul_of_nonneg_left e (Int.le_of_lt (pw_pos _))
        have h3 : (65536 : Int) ^ 4 * 65536 ^ 4 < 65536 ^ 12 := by decide +kernel
        generalize (65536 : Int) ^ (i + 12) = p at *
        generalize (65536 : Int) ^ 12 = q at *
        generalize (65536 : Int) ^ 4 * 65536 ^ 4 = r at *
        omega
    rw [hz,Int.mul_zero,Int.add_zero] at r5
    obtain ⟨out2,s1,s2,s3,s4⟩ := ih (i + 1) out' k (by omega) r1 r2 r5
    refine ⟨out2,s1,s2,s3,?_⟩
    rw [show k + 14 * (m + 1) + 1 = (k + 14 * m + 1) + 12 + 1 + 1 by omega]
    rw [verdererref03_Times.l0,if_pos (by omega)]
    rw [show ((0 : Nat) : Int) = 0 from rfl] at r6
    rw [r6]
    exact s4
theorem four_lt (b : Int) (hb : In64 b) : from_ (four b) 0 12 < 65536 ^ 4 := by
  have fb := four_from b hb 8
  have e : from_ (four b) 0 12 = (if b < 0 then -b else b) := fb
  rw [e,show (65536 : Int) ^ 4 = 18446744073709551616 by decide +kernel]
  unfold In64 at hb
  split <;> omega
theorem zeros_from : from_ (List.replicate 20 (0 : Int)) 0 20 = 0 := by decide +kernel
theorem zeros_dg : Dg (List.replicate 20 (0 : Int)) := dg_of (fun x hx => by rw [List.eq_of_mem_replicate hx];omega)
theorem four_len (a : Int) : (four a).length ≤ 1000 := by simp [four]
theorem times_f {a b : Int} (ha : In64 a) (hb : In64 b) (k : Nat) (hk : 100 ≤ k) : ∃ l,l.length = 20 ∧ Dg l ∧ sg (decide (a < 0) != decide (b < 0)) (from_ l 0 20) = a * b ∧ verdererref03_Times.f k a b = some (decide (a < 0) != decide (b < 0),l) := by
  obtain ⟨k,rfl⟩ : ∃ m,k = m + 14 * 4 + 1 := ⟨k - 57,by omega⟩
  obtain ⟨l,h1,h2,h3,h4⟩ := times_l0 (four a) (four b) (decide (a < 0)) (decide (b < 0)) (decide (a < 0) != decide (b < 0)) (four_dg a ha) (four_dg b hb) (four_len a) (four_len b) (four_lt b hb) 4 0 (List.replicate 20 0) k (by omega) List.length_replicate zeros_dg (by rw [zeros_from,show from_ (four a) 0 0 = 0 from rfl,Int.zero_mul])
  rw [show ((0 : Nat) : Int) = 0 from rfl] at h4
  refine ⟨l,h1,h2,?_,?_⟩
  · have fa : from_ (four a) 0 4 = (if a < 0 then -a else a) := four_from a ha 0
    have fb : from_ (four b) 0 12 = (if b < 0 then -b else b) := four_from b hb 8
    rw [h3,fa,fb]
    unfold sg
    by_cases h : a < 0 <;> by_cases g : b < 0 <;> simp [h,g,Int.neg_mul,Int.mul_neg]
  · have e1 : k + 14 * 4 + 1 = (k + 51) + 6 := rfl
    unfold verdererref03_Times.f
    rw [e1] at h4 ⊢
    rw [big_f ha,big_f hb,Option.bind_some,Option.bind_some,if_pos (by decide)]
    exact h4
end Go.Proofs.Ytcenlehfbgnphaa.Z
end
section
namespace Go.Proofs.Ytcenlehfbgnphaa.Z
set_option linter.unusedVariables false
set_option linter.unusedSimpArgs false
open Go.RowKit Go.Proofs.YtcenlehfbgnphaaW.PrintWords Go.Proofs.YtcenlehfbgnphaaW.PrintLast Go.Proofs.YtcenlehfbgnphaaW.PrintMore
theorem sign_l0 (l : List Int) (s : Bool) (hd : Dg l) (hl : l.length ≤ 1000) : ∀ m (i : Nat) k,i + m = 20 → m < k → verdererref03_Big_Sign.l0 k (i : Int) s l = some (if 0 < from_ l i m then (if s then -1 else 1) else 0) := by
  intro m
  induction m with
  | zero =>
    intro i k hi hk
    obtain ⟨k,rfl⟩ : ∃ m,k = m + 1 := ⟨k - 1,by omega⟩
    simp only [verdererref03_Big_Sign.l0]
    rw [if_neg (by omega)]
    rfl
  | succ m ih =>
    intro i k hi hk
    obtain ⟨k,rfl⟩ : ∃ m,k = m + 1 := ⟨k - 1,by omega⟩
    obtain ⟨d0,d1⟩ := hd i
    obtain ⟨f0,f1⟩ := from_lt hd m (i + 1)
    simp only [verdererref03_Big_Sign.l0]
    clear f1
    rw [if_pos (by omega),at_f _ _ hl,Option.bind_some,from_succ]
    by_cases c : dg l i > 0
    · rw [if_pos c]
      have hp : 0 < dg l i + 65536 * from_ l (i + 1) m := by omega
      cases s <;> simp [hp]
    · rw [if_neg c,wrap_nx (show i < 20 by omega) (by omega),ih (i + 1) k (by omega) (by omega)]
      have : (0 < from_ l (i + 1) m) = (0 < dg l i + 65536 * from_ l (i + 1) m) := by rw [eq_iff_iff];omega
      simp only [this]
theorem sign_f (l : List Int) (s : Bool) (hd : Dg l) (hl : l.length ≤ 1000) (k : Nat) (hk : 20 < k) : verdererref03_Big_Sign.f k s l = some (sgnF (sg s (from_ l 0 20))) := by
  unfold verdererref03_Big_Sign.f
  have := sign_l0 l s hd hl 20 0 k (by omega) hk
  rw [show ((0 : Nat) : Int) = 0 from rfl] at this
  rw [this]
  obtain ⟨f0,f1⟩ := from_lt hd 20 0
  clear this f1
  generalize from_ l 0 20 = V at *
  unfold sgnF sg
  cases s
  · simp only [Bool.false_eq_true,if_false]
    congr 1
    split <;> split <;> (try split) <;> omega
  · simp only [if_true]
    congr 1
    split <;> split <;> (try split) <;> omega
theorem sg_abs {s : Bool} {v : Int} (h : 0 ≤ v) : v = if sg s v < 0 then -sg s v else sg s v := by
  unfold sg
  cases s
  · simp only [Bool.false_eq_true,if_false];split <;> omega
  · simp only [if_true];split <;> omega
theorem p20 : (65536 : Int) ^ 20 = 2135987035920910082395021706169552114602704522356652769947041607822219725780640550022962086936576 := by decide +kernel
end Go.Proofs.Ytcenlehfbgnphaa.Z
end
section
namespace Go.Proofs.Ytcenlehfbgnphaa.Z
set_option linter.unusedVariables false
set_option linter.unusedSimpArgs false
open Go.RowKit Go.Proofs.YtcenlehfbgnphaaW.PrintWords Go.Proofs.YtcenlehfbgnphaaW.PrintLast Go.Proofs.YtcenlehfbgnphaaW.PrintMore
structure BigV (w : World) (base : Nat) (s : Bool) (v : Value) (S : Int) : Prop where
  out : ∃ l : List Int,Kd.R (Kd.int .u64) 96 w base (fun k => base ≤ k) v l ∧ l.length ≤ 1000 ∧ Dg l ∧ sg s (from_ l 0 20) = S
theorem BigV.zero (w : World) (base : Nat) : BigV w base false (.slice none 0 0) 0 := ⟨[],Kd.R_nil _ _ _ _ _,by simp,fun i => by simp [dg],by decide +kernel⟩
theorem BigV.step {w w1 : World} {base : Nat} {s : Bool} {v : Value} {S : Int} (h : BigV w base s v S) (hm : ∀ k,base ≤ k → k < w.heap.size → w1.heap[k]? = w.heap[k]?) : BigV w1 base s v S := by
  obtain ⟨l,h1,h2⟩ := h.out
  exact ⟨l,Kd.R_step h1 hm,h2⟩
theorem BigV.below {w w1 : World} {base : Nat} {s : Bool} {v : Value} {S : Int} (h : BigV w base s v S) (hb : Below w.heap.size w w1) : BigV w1 base s v S := h.step (fun k _ hk => hb.block k hk)
theorem BigV.only {w w1 : World} {base g : Nat} {s : Bool} {v : Value} {S : Int} (h : BigV w base s v S) (hg : w.grownBy w1 (some g)) (hlt : g < base) : BigV w1 base s v S :=
  h.step (fun k hk hs => hg.block k hs (by intro e;injection e with e;omega))
theorem BigV.far {w : World} {base g j : Nat} {s : Bool} {v u : Value} {S : Int} (h : BigV w base s v S) (hlt : g < base) : BigV (w.setCell ⟨g,j,none⟩ u) base s v S :=
  h.step (fun k hk _ => Below.heap_setCell w ⟨g,j,none⟩ u k (by show k ≠ g;omega))
theorem bigV_new {w w' : World} {base : Nat} {s : Bool} {v : Value} {l : List Int} {S : Int} (h : Kd.R (Kd.int .u64) 96 w' w.heap.size (fun _ => True) v l) (hb : base ≤ w.heap.size) (h1 : l.length ≤ 1000) (h2 : Dg l) (h3 : sg s (from_ l 0 20) = S) : BigV w' base s v S :=
  ⟨l,Kd.R_lower (Kd.R_mono (Kd.R_bound h) (fun k hk => by have := hk.2.1;omega)) hb,h1,h2,h3⟩
theorem times_big (a b : Int) (ha : In64 a) (hb : In64 b) (base : Nat) (w : World) (hB : base ≤ w.heap.size) :
    Calls Try.prog 17 #[.int .i64 a,.int .i64 b] w fun e w' => ∃ (s : Bool) (v : Value),e = .returned (.agg #[.bool s,v]) ∧ BigV w' base s v (a * b) ∧ Below w.heap.size w w' := by
  obtain ⟨l,h1,h2,h3,h4⟩ := times_f ha hb 100 (by decide)
  refine (verdererref03_Times.calls 100 a b _ _ w h4).mono ?_
  rintro e w' ⟨v,he,hr,hb⟩
  exact ⟨_,v,he,bigV_new hr hB (by omega) h2 h3,hb⟩
theorem abs_of {S : Int} {s : Bool} {l : List Int} (hd : Dg l) (h : sg s (from_ l 0 20) = S) (hs : SumOk S) : from_ l 0 20 ≤ 1267650600228229401496703205376 := by
  obtain ⟨f0,f1⟩ := from_lt hd 20 0
  clear f1
  obtain ⟨s0,s1⟩ := hs
  have := sg_abs (s := s) f0
  rw [h] at this
  split at this <;> omega
theorem plus_big (s1 s2 : Bool) (v1 v2 : Value) (S1 S2 : Int) (base : Nat) (w : World) (h1 : BigV w base s1 v1 S1) (h2 : BigV w base s2 v2 S2) (o1 : SumOk S1) (o2 : SumOk S2) (hB : base ≤ w.heap.size) :
    Calls Try.prog 16 #[.agg #[.bool s1,v1],.agg #[.bool s2,v2]] w fun e w' => ∃ (s : Bool) (v : Value),e = .returned (.agg #[.bool s,v]) ∧ BigV w' base s v (S1 + S2) ∧ Below w.heap.size w w' := by
  obtain ⟨l1,r1,n1,d1,e1⟩ := h1.out
  obtain ⟨l2,r2,n2,d2,e2⟩ := h2.out
  have a1 := abs_of d1 e1 o1
  have a2 := abs_of d2 e2 o2
  obtain ⟨s,l,e,g1,g2,g3⟩ := plus_f l1 l2 s1 s2 d1 d2 n1 n2 (by rw [p20];omega) 30 (by decide)
  obtain ⟨A1,c1,rfl,k1,C1⟩ := Kd.R_reads r1
  obtain ⟨A2,c2,rfl,k2,C2⟩ := Kd.R_reads r2
  refine (verdererref03_Plus.calls 30 s1 A1 c1 l1 s2 A2 c2 l2 s l w C1 k1 C2 k2 e).mono ?_
  rintro e w' ⟨v,he,hr,hb⟩
  exact ⟨s,v,he,bigV_new hr hB (by omega) g2 (by rw [g3,e1,e2]),hb⟩
theorem value_big (s : Bool) (v : Value) (S : Int) (base : Nat) (w : World) (h : BigV w base s v S) :
    Calls Try.prog 19 #[.agg #[.bool s,v]] w fun e w' => e = .returned (.tuple #[.int .i64 (fitF S).1,.int .i64 (fitF S).2]) ∧ Below w.heap.size w w' := by
  obtain ⟨l,r,n,d,e⟩ := h.out
  obtain ⟨A,c,rfl,k,C⟩ := Kd.R_reads r
  have := value_f l s d n 60 (by decide)
  rw [e] at this
  exact verdererref03_Big_Value.calls 60 s A c l _ _ w C k this
theorem sign_big (s : Bool) (v : Value) (S : Int) (base : Nat) (w : World) (h : BigV w base s v S) :
    Calls Try.prog 21 #[.agg #[.bool s,v]] w fun e w' => e = .returned (.int .i64 (sgnF S)) ∧ Below w.heap.size w w' := by
  obtain ⟨l,r,n,d,e⟩ := h.out
  obtain ⟨A,c,rfl,k,C⟩ := Kd.R_reads r
  have := sign_f l s d n 60 (by decide)
  rw [e] at this
  exact verdererref03_Big_Sign.calls 60 s A c l _ w C k this
end Go.Proofs.Ytcenlehfbgnphaa.Z
end
