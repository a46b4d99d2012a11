/-
  verdererlaw03.SafeOps: for every input the law returns true, and each argument reads behind the call as it read before. No condition.
-/
import Derived.Test.YtcenlehfbgnphaaMSafeOpsa
import Derived.Test.YtcenlehfbgnphaaMSafeOpsb
import Derived.RegionTactic
import Derived.BigRegion
import Derived.Deep.QuietTactic
import Derived.BigQuiet
import Derived.ChangeAlike
import Derived.Deep.Slices
import Derived.ProofKit
import Derived.Laws.Bits64
import Derived.Laws.BitsLemmas
import Derived.Test.YtcenlehfbgnphaaRows
import Derived.WalkKit
import Derived.OpenShut
import Derived.ShutString
import Derived.ChangeOld
import Derived.Below
section
namespace Go.Proofs.Ytcenlehfbgnphaa.Z
open Go.RowKit Go.Proofs.YtcenlehfbgnphaaW.PrintWords Go.Proofs.YtcenlehfbgnphaaW.PrintLast Go.Proofs.YtcenlehfbgnphaaW.PrintMore
attribute [local go_sem] max2_int min2_int max_two min_two max_three min_three max_four min_four
set_option linter.unusedVariables false
set_option linter.unusedSimpArgs false
mutual
def verdererref03_Times.l0 : Nat → Int → Bool → List Int → Bool → List Int → Bool → List Int → Option (Bool × List Int)
  | 0,_,_,_,_,_,_,_ => none
  | k + 1,x8,x188000,x188001,x193000,x193001,x197000,x197001 => if x8 < 4 then (verdererref03_Times.l1 k x8 0 0 x188000 x188001 x193000 x193001 x197000 x197001) else (some (x197000,x197001))
def verdererref03_Times.l1 : Nat → Int → Int → Int → Bool → List Int → Bool → List Int → Bool → List Int → Option (Bool × List Int)
  | 0,_,_,_,_,_,_,_,_,_ => none
  | k + 1,x8,x9,x10,x188000,x188001,x193000,x193001,x197000,x197001 => if x10 < 12 then (if 0 ≤ (wrap64 (x8 + x10)) then (if (wrap64 (x8 + x10)) < (x197001.length : Int) then ((verdererref03_Big_at.f x188000 x188001 x8).bind fun t198 => ((verdererref03_Big_at.f x193000 x193001 x10).bind fun t199 => (verdererref03_Times.l1 k x8 (IntKind.u64.wrap (Int.tdiv (IntKind.u64.wrap ((IntKind.u64.wrap ((rd x197001 (wrap64 (x8 + x10))) + (IntKind.u64.wrap (t198 * t199)))) + x9)) 65536)) (wrap64 (x10 + 1)) x188000 x188001 x193000 x193001 x197000 (x197001.set ((wrap64 (x8 + x10)) : Int).toNat (Int.tmod (IntKind.u64.wrap ((IntKind.u64.wrap ((rd x197001 (wrap64 (x8 + x10))) + (IntKind.u64.wrap (t198 * t199)))) + x9)) 65536))))) else (none)) else (none)) else (verdererref03_Times.l0 k (wrap64 (x8 + 1)) x188000 x188001 x193000 x193001 x197000 x197001)
end
def verdererref03_Times.f (k : Nat) (a0 : Int) (a1 : Int) : Option (Bool × List Int) := (verdererref03_big.f k a0).bind fun bt183 => ((verdererref03_big.f k a1).bind fun bt188 => (if 20 ≤ 35184372088832 then (verdererref03_Times.l0 k 0 bt183.1 bt183.2 bt188.1 bt188.2 (bt183.1 != bt188.1) (List.replicate 20 0)) else (none)))
theorem verdererref03_Times.mono_l : ∀ k,(∀ y0 y1 y2 y3 y4 y5 y6,LeO (verdererref03_Times.l0 k y0 y1 y2 y3 y4 y5 y6) (verdererref03_Times.l0 (k + 1) y0 y1 y2 y3 y4 y5 y6)) ∧ (∀ y0 y1 y2 y3 y4 y5 y6 y7 y8,LeO (verdererref03_Times.l1 k y0 y1 y2 y3 y4 y5 y6 y7 y8) (verdererref03_Times.l1 (k + 1) y0 y1 y2 y3 y4 y5 y6 y7 y8))
  | 0 => ⟨fun _ _ _ _ _ _ _ r h => by simp [verdererref03_Times.l0] at h,fun _ _ _ _ _ _ _ _ _ r h => by simp [verdererref03_Times.l1] at h⟩
  | k + 1 => by
    obtain ⟨ih0,ih1⟩ := verdererref03_Times.mono_l k
    refine ⟨?_,?_⟩
    · intro y0 y1 y2 y3 y4 y5 y6
      unfold verdererref03_Times.l0
      repeat' first
      | (with_reducible exact ih0 _ _ _ _ _ _ _)
      | (with_reducible exact ih1 _ _ _ _ _ _ _ _ _)
      | (with_reducible exact verdererref03_big.mono _ _)
      | (with_reducible exact LeO.refl _)
      | (with_reducible exact LeO.none _)
      | (with_reducible refine LeO.ite ?_ ?_)
      | (with_reducible refine LeO.bind ?_ (fun _ => ?_))
      | exact ih0 _ _ _ _ _ _ _
      | exact ih1 _ _ _ _ _ _ _ _ _
      | exact verdererref03_big.mono _ _
      | exact LeO.none _
      | refine LeO.ite ?_ ?_
      | refine LeO.bind ?_ (fun _ => ?_)
    · intro y0 y1 y2 y3 y4 y5 y6 y7 y8
      unfold verdererref03_Times.l1
      repeat' first
      | (with_reducible exact ih0 _ _ _ _ _ _ _)
      | (with_reducible exact ih1 _ _ _ _ _ _ _ _ _)
      | (with_reducible exact verdererref03_big.mono _ _)
      | (with_reducible exact LeO.refl _)
      | (with_reducible exact LeO.none _)
      | (with_reducible refine LeO.ite ?_ ?_)
      | (with_reducible refine LeO.bind ?_ (fun _ => ?_))
      | exact ih0 _ _ _ _ _ _ _
      | exact ih1 _ _ _ _ _ _ _ _ _
      | exact verdererref03_big.mono _ _
      | exact LeO.none _
      | refine LeO.ite ?_ ?_
      | refine LeO.bind ?_ (fun _ => ?_)
theorem verdererref03_Times.mono : ∀ a0 a1 k,LeO (verdererref03_Times.f k a0 a1) (verdererref03_Times.f (k + 1) a0 a1) := by
  intro a0 a1 k
  obtain ⟨ih0,ih1⟩ := verdererref03_Times.mono_l k
  unfold verdererref03_Times.f
  repeat' first
      | (with_reducible exact ih0 _ _ _ _ _ _ _)
      | (with_reducible exact ih1 _ _ _ _ _ _ _ _ _)
      | (with_reducible exact verdererref03_big.mono _ _)
      | (with_reducible exact LeO.refl _)
      | (with_reducible exact LeO.none _)
      | (with_reducible refine LeO.ite ?_ ?_)
      | (with_reducible refine LeO.bind ?_ (fun _ => ?_))
      | exact ih0 _ _ _ _ _ _ _
      | exact ih1 _ _ _ _ _ _ _ _ _
      | exact verdererref03_big.mono _ _
      | exact LeO.none _
      | refine LeO.ite ?_ ?_
      | refine LeO.bind ?_ (fun _ => ?_)
def verdererref03_Times.T3 : Bool × List (List Nat × List Nat) := (true,[([],[]),([0],[0]),([],[]),([2],[2]),([1,3],[1,3]),([],[]),([4,5],[4,5]),([],[]),([7,6,0,1,2,3,4,5,6,7],[6,7])])
def verdererref03_Times.B3 : List Nat := [0,1,0,4,15,0,63,0,255]
theorem verdererref03_Times.tab3 : rtab .any (opsOf Try.f17 3) = verdererref03_Times.T3 := by kernel_rfl
theorem verdererref03_Times.bits3 : waitsOk verdererref03_Times.T3.2 verdererref03_Times.B3 = true := by kernel_rfl
def verdererref03_Times.T11 : Bool × List (List Nat × List Nat) := (true,[([],[]),([0],[0]),([],[]),([],[]),([2,3],[2,3]),([1,4],[1,4]),([5],[5]),([],[]),([],[]),([7,8],[7,8]),([],[]),([],[]),([10,11,9],[10,11]),([9,12],[9,12]),([6,13],[6,13]),([],[]),([14,15],[14,15]),([16,12,0,1,2,3,4,5,6,7,8,9,10,11,12,13,14,15,16],[16])])
def verdererref03_Times.B11 : List Nat := [0,1,0,0,12,31,63,0,0,384,0,0,3968,8064,16383,0,65535,131071]
theorem verdererref03_Times.tab11 : rtab .any (opsOf Try.f17 11) = verdererref03_Times.T11 := by kernel_rfl
theorem verdererref03_Times.bits11 : waitsOk verdererref03_Times.T11.2 verdererref03_Times.B11 = true := by kernel_rfl
set_option maxHeartbeats 8000000 in
set_option maxRecDepth 100000 in
theorem verdererref03_Times.calls (k : Nat) (a0 : Int) (a1 : Int) (r1 : Bool) (r2 : List Int) (w : World) (h : verdererref03_Times.f k a0 a1 = some (r1,r2)) :
    Calls Try.prog 17 #[.int .i64 a0,.int .i64 a1] w fun e w' => ∃ v1_ : Value,e = .returned (.agg #[.bool r1,v1_]) ∧ Kd.R (Kd.int .u64) 96 w' w.heap.size (fun _ => True) v1_ r2 ∧ Below w.heap.size w w' := by
  have hu29 := Try.underlying29
  have HB := Aside0.mk (Below.refl w.heap.size w)
  have H : ((verdererref03_big.f k a0).bind fun bt183 => ((verdererref03_big.f k a1).bind fun bt188 => (if 20 ≤ 35184372088832 then (verdererref03_Times.l0 k 0 bt183.1 bt183.2 bt188.1 bt188.2 (bt183.1 != bt188.1) (List.replicate 20 0)) else (none)))) = some (r1,r2) := h
  clear h
  replace H := Option.bind_eq_some_iff.mp H
  obtain ⟨⟨t183,t184⟩,A30,H⟩ := H
  replace H : ((verdererref03_big.f k a1).bind fun bt188 => (if 20 ≤ 35184372088832 then (verdererref03_Times.l0 k 0 t183 t184 bt188.1 bt188.2 (t183 != bt188.1) (List.replicate 20 0)) else (none))) = some (r1,r2) := H
  have A3 := Aside0.mk A30
  clear A30
  replace H := Option.bind_eq_some_iff.mp H
  obtain ⟨⟨t188,t189⟩,A40,H⟩ := H
  replace H : (if 20 ≤ 35184372088832 then (verdererref03_Times.l0 k 0 t183 t184 t188 t189 (t183 != t188) (List.replicate 20 0)) else (none)) = some (r1,r2) := H
  have A4 := Aside0.mk A40
  clear A40
  by_cases c5 : 20 ≤ 35184372088832
  · rw [if_pos c5] at H
    have c5b0 := eq_true c5
    have c5b1 : decide (20 ≤ 35184372088832) = true := decide_eq_true c5
    clear c5
    obtain ⟨y193,hy193⟩ : ∃ y_ : List Int,y_ = (List.replicate 20 0) := ⟨_,rfl⟩
    replace H : (verdererref03_Times.l0 k 0 t183 t184 t188 t189 (t183 != t188) y193) = some (r1,r2) := by first | (rw [hy193];with_reducible exact H) | (have H2_ := (Option.bind_some _ _).symm.trans H;rw [hy193];with_reducible exact H2_) | (have H2_ := (Option.bind_some _ _).symm.trans H;with_reducible exact H2_) | with_reducible exact H | (rw [hy193];exact H) | exact H
    have Ny193 := Aside0.mk hy193
    clear hy193
    have H' := Aside0.mk H
    clear H
    go_enter Try.func17,Try.ntmps17
    try go_wp2_with (first | ((with_reducible refine gate_dst (N := 4) rfl ?_);refine box_event ?hg (N := 4) ?hd (cs := #[.bool false,.slice none 0 0]) (t := 29) ?hr ?_;(case hd => rfl);(case hg => rfl);(case hr => first | (go_simp;done) | (go_simp;rfl));intro gb182 hg w6 hbox hb;have n0_ := Aside0.mk (below_step (by repeat (first | (with_reducible first | exact HB.out | apply below_alloc | apply pw_below_drewN | apply below_drew1) | exact HB.out)) hb);have n1_ := Aside0.mk (hbox);have n2_ := Aside0.mk ((by rw [hg];exact (below_size (by repeat (first | (with_reducible first | exact HB.out | apply below_alloc | apply pw_below_drewN | apply below_drew1) | exact HB.out))) : w.heap.size ≤ gb182));have n3_ := Aside0.mk ((by rw [hg];exact (below_size (by repeat (first | (with_reducible first | exact HB.out | apply below_alloc | apply pw_below_drewN | apply below_drew1) | exact HB.out))) : w.heap.size ≤ gb182));clear HB;have HB := n0_;have BK182 := n1_;have GW182 := n2_;have GE182 := n3_;clear n0_ n1_ n2_ n3_;clear hb hbox hg) | ((with_reducible refine gate_callee (f := 61) rfl ?_);refine goesL_ (some 13) rfl rfl Try.func61 (by kernel_rfl) rfl #[.int .i64 a0] rfl (by (try simp only [List.map_toArray,List.map_cons,List.map_nil]);first | done | rfl | (simp only [List.length_drop,List.length_take];rfl)) ?_;(with_reducible refine (verdererref03_big.calls k a0 t183 t184 _ A3.out).mono ?_);rintro e w7 ⟨v185,rfl,ho0,hb⟩;refine ⟨_,rfl,?_⟩;have n0_ := Aside0.mk (Kd.R_lower ho0 (below_size (by repeat (first | (with_reducible first | exact HB.out | apply below_alloc | apply pw_below_drewN | apply below_drew1 | refine below_set ?_ GE182.out) | exact HB.out))));have n1_ := Aside0.mk (blk_below (g := gb182) (o := .cells #[.bool false,.slice none 0 0] 29 (0,0)) (by (with_reducible repeat (first | refine blk_drewN ?_ _ | refine blk_drew ?_ | refine blk_alloc ?_ _));exact BK182.out) hb);have n2_ := Aside0.mk (below_step (by repeat (first | (with_reducible first | exact HB.out | apply below_alloc | apply pw_below_drewN | apply below_drew1 | refine below_set ?_ GE182.out) | exact HB.out)) hb);clear BK182;clear HB;have HO186 := n0_;have BK182 := n1_;have HB := n2_;clear n0_ n1_ n2_;(try clear hb);(try clear hb2);(try clear hk);(try clear hi);(try clear ho0)) | ((with_reducible refine gate_dst (N := 5) rfl ?_);refine box_event ?hg (N := 5) ?hd (cs := #[.bool false,.slice none 0 0]) (t := 29) ?hr ?_;(case hd => rfl);(case hg => rfl);(case hr => first | (go_simp;done) | (go_simp;rfl));intro gb187 hg w8 hbox hb;have n0_ := Aside0.mk (Kd.R_below (by (with_reducible repeat (first | apply Kd.R_alloc | apply Kd.R_drewN | apply Kd.R_drew));exact HO186.out) hb);have n1_ := Aside0.mk (blk_below (g := gb182) (o := .cells #[.bool false,.slice none 0 0] 29 (0,0)) (by (with_reducible repeat (first | refine blk_drewN ?_ _ | refine blk_drew ?_ | refine blk_alloc ?_ _));exact BK182.out) hb);have n2_ := Aside0.mk (below_step (by repeat (first | (with_reducible first | exact HB.out | apply below_alloc | apply pw_below_drewN | apply below_drew1 | refine below_set ?_ GE182.out) | exact HB.out)) hb);have n3_ := Aside0.mk (hbox);have n4_ := Aside0.mk ((by rw [hg];exact (below_size (by repeat (first | (with_reducible first | exact HB.out | apply below_alloc | apply pw_below_drewN | apply below_drew1 | refine below_set ?_ GE182.out) | exact HB.out))) : w.heap.size ≤ gb187));have n5_ := Aside0.mk ((by rw [hg];exact (below_size (by repeat (first | (with_reducible first | exact HB.out | apply below_alloc | apply pw_below_drewN | apply below_drew1 | refine below_set ?_ GE182.out) | exact HB.out))) : w.heap.size ≤ gb187));have n6_ := Aside0.mk ((by rw [hg];exact Nat.ne_of_lt (blk_lt (g := gb182) (o := .cells #[.bool false,.slice none 0 0] 29 (0,0)) (by (with_reducible repeat (first | refine blk_drewN ?_ _ | refine blk_drew ?_ | refine blk_alloc ?_ _));exact BK182.out)) : gb182 ≠ gb187));have n7_ := Aside0.mk ((by rw [hg];exact Nat.ne_of_gt (blk_lt (g := gb182) (o := .cells #[.bool false,.slice none 0 0] 29 (0,0)) (by (with_reducible repeat (first | refine blk_drewN ?_ _ | refine blk_drew ?_ | refine blk_alloc ?_ _));exact BK182.out)) : gb187 ≠ gb182));clear HO186;clear BK182;clear HB;have HO186 := n0_;have BK182 := n1_;have HB := n2_;have BK187 := n3_;have GW187 := n4_;have GE187 := n5_;have NB182_187 := n6_;have NB187_182 := n7_;clear n0_ n1_ n2_ n3_ n4_ n5_ n6_ n7_;clear hb hbox hg;have hnb9 := NB187_182.out;have hnc9 := NB182_187.out;have hcz10_0 : w8.cell? ⟨gb187,0,none⟩ = some (.bool false) := (blk_cell BK187.out 0).trans rfl;have hcz10_1 : w8.cell? ⟨gb187,1,none⟩ = some (.slice none 0 0) := (blk_cell BK187.out 1).trans rfl;have hfz10_0 := blk_frozen BK187.out 0;have hfz10_1 := blk_frozen BK187.out 1;obtain ⟨Ao11,co11,eo11⟩ := Kd.R_slice HO186.out;subst eo11) | ((with_reducible refine gate_callee (f := 61) rfl ?_);refine goesL_ (some 15) rfl rfl Try.func61 (by kernel_rfl) rfl #[.int .i64 a1] rfl (by (try simp only [List.map_toArray,List.map_cons,List.map_nil]);first | done | rfl | (simp only [List.length_drop,List.length_take];rfl)) ?_;(with_reducible refine (verdererref03_big.calls k a1 t188 t189 _ A4.out).mono ?_);rintro e w12 ⟨v190,rfl,ho0,hb⟩;refine ⟨_,rfl,?_⟩;have n0_ := Aside0.mk (Kd.R_elder' (by (with_reducible repeat (first | apply Kd.R_alloc | apply Kd.R_drewN | apply Kd.R_drew));exact (Kd.R_mono (Kd.R_far (p := ⟨gb187,1,none⟩) (Kd.R_far (p := ⟨gb187,0,none⟩) (Kd.R_types HO186.out BK187.out (by decide)) (fun _ hk => hk.2) (.bool t183)) (fun _ hk => hk.2) (.slice Ao11 t184.length co11)) (fun _ h_ => h_.1))) (Kd.R_base ho0) hb);have n1_ := Aside0.mk (Kd.R_lower (Kd.R_new' ho0 (Kd.R_lt (by (with_reducible repeat (first | apply Kd.R_alloc | apply Kd.R_drewN | apply Kd.R_drew));exact (Kd.R_mono (Kd.R_far (p := ⟨gb187,1,none⟩) (Kd.R_far (p := ⟨gb187,0,none⟩) (Kd.R_types HO186.out BK187.out (by decide)) (fun _ hk => hk.2) (.bool t183)) (fun _ hk => hk.2) (.slice Ao11 t184.length co11)) (fun _ h_ => h_.1))))) (below_size (by repeat (first | (with_reducible first | exact HB.out | apply below_alloc | apply pw_below_drewN | apply below_drew1 | refine below_set ?_ GE182.out | refine below_set ?_ GE187.out) | exact HB.out))));have n2_ := Aside0.mk (blk_below (g := gb182) (o := .cells #[.bool false,.slice none 0 0] 29 (0,0)) (by (with_reducible repeat (first | refine blk_drewN ?_ _ | refine blk_drew ?_ | refine blk_alloc ?_ _));refine blk_far ?_ NB182_187.out _;(with_reducible repeat (first | refine blk_drewN ?_ _ | refine blk_drew ?_ | refine blk_alloc ?_ _));refine blk_far ?_ NB182_187.out _;(with_reducible repeat (first | refine blk_drewN ?_ _ | refine blk_drew ?_ | refine blk_alloc ?_ _));exact BK182.out) hb);have n3_ := Aside0.mk (blk_below (g := gb187) (o := .cells #[.bool t183,.slice Ao11 t184.length co11] 29 (0,0)) (by (with_reducible repeat (first | refine blk_drewN ?_ _ | refine blk_drew ?_ | refine blk_alloc ?_ _));refine blk_put (cs := #[.bool t183,.slice none 0 0]) ?_ 1 _ rfl;(with_reducible repeat (first | refine blk_drewN ?_ _ | refine blk_drew ?_ | refine blk_alloc ?_ _));refine blk_put (cs := #[.bool false,.slice none 0 0]) ?_ 0 _ rfl;(with_reducible repeat (first | refine blk_drewN ?_ _ | refine blk_drew ?_ | refine blk_alloc ?_ _));exact BK187.out) hb);have n4_ := Aside0.mk (below_step (by repeat (first | (with_reducible first | exact HB.out | apply below_alloc | apply pw_below_drewN | apply below_drew1 | refine below_set ?_ GE182.out | refine below_set ?_ GE187.out) | exact HB.out)) hb);clear HO186;clear BK182;clear BK187;clear HB;have HO186 := n0_;have HO191 := n1_;have BK182 := n2_;have BK187 := n3_;have HB := n4_;clear n0_ n1_ n2_ n3_ n4_;(try clear hb);(try clear hb2);(try clear hk);(try clear hi);(try clear ho0)) | ((with_reducible refine gate_dst (N := 6) rfl ?_);refine box_event ?hg (N := 6) ?hd (cs := #[.bool false,.slice none 0 0]) (t := 29) ?hr ?_;(case hd => rfl);(case hg => rfl);(case hr => first | (go_simp;done) | (go_simp;rfl));intro gb192 hg w13 hbox hb;have n0_ := Aside0.mk (Kd.R_below (by (with_reducible repeat (first | apply Kd.R_alloc | apply Kd.R_drewN | apply Kd.R_drew));exact HO186.out) hb);have n1_ := Aside0.mk (Kd.R_below (by (with_reducible repeat (first | apply Kd.R_alloc | apply Kd.R_drewN | apply Kd.R_drew));exact HO191.out) hb);have n2_ := Aside0.mk (blk_below (g := gb182) (o := .cells #[.bool false,.slice none 0 0] 29 (0,0)) (by (with_reducible repeat (first | refine blk_drewN ?_ _ | refine blk_drew ?_ | refine blk_alloc ?_ _));exact BK182.out) hb);have n3_ := Aside0.mk (blk_below (g := gb187) (o := .cells #[.bool t183,.slice Ao11 t184.length co11] 29 (0,0)) (by (with_reducible repeat (first | refine blk_drewN ?_ _ | refine blk_drew ?_ | refine blk_alloc ?_ _));exact BK187.out) hb);have n4_ := Aside0.mk (below_step (by repeat (first | (with_reducible first | exact HB.out | apply below_alloc | apply pw_below_drewN | apply below_drew1 | refine below_set ?_ GE182.out | refine below_set ?_ GE187.out) | exact HB.out)) hb);have n5_ := Aside0.mk (hbox);have n6_ := Aside0.mk ((by rw [hg];exact (below_size (by repeat (first | (with_reducible first | exact HB.out | apply below_alloc | apply pw_below_drewN | apply below_drew1 | refine below_set ?_ GE182.out | refine below_set ?_ GE187.out) | exact HB.out))) : w.heap.size ≤ gb192));have n7_ := Aside0.mk ((by rw [hg];exact (below_size (by repeat (first | (with_reducible first | exact HB.out | apply below_alloc | apply pw_below_drewN | apply below_drew1 | refine below_set ?_ GE182.out | refine below_set ?_ GE187.out) | exact HB.out))) : w.heap.size ≤ gb192));have n8_ := Aside0.mk ((by rw [hg];exact Nat.ne_of_lt (blk_lt (g := gb182) (o := .cells #[.bool false,.slice none 0 0] 29 (0,0)) (by (with_reducible repeat (first | refine blk_drewN ?_ _ | refine blk_drew ?_ | refine blk_alloc ?_ _));exact BK182.out)) : gb182 ≠ gb192));have n9_ := Aside0.mk ((by rw [hg];exact Nat.ne_of_gt (blk_lt (g := gb182) (o := .cells #[.bool false,.slice none 0 0] 29 (0,0)) (by (with_reducible repeat (first | refine blk_drewN ?_ _ | refine blk_drew ?_ | refine blk_alloc ?_ _));exact BK182.out)) : gb192 ≠ gb182));have n10_ := Aside0.mk ((by rw [hg];exact Nat.ne_of_lt (blk_lt (g := gb187) (o := .cells #[.bool t183,.slice Ao11 t184.length co11] 29 (0,0)) (by (with_reducible repeat (first | refine blk_drewN ?_ _ | refine blk_drew ?_ | refine blk_alloc ?_ _));exact BK187.out)) : gb187 ≠ gb192));have n11_ := Aside0.mk ((by rw [hg];exact Nat.ne_of_gt (blk_lt (g := gb187) (o := .cells #[.bool t183,.slice Ao11 t184.length co11] 29 (0,0)) (by (with_reducible repeat (first | refine blk_drewN ?_ _ | refine blk_drew ?_ | refine blk_alloc ?_ _));exact BK187.out)) : gb192 ≠ gb187));clear HO186;clear HO191;clear BK182;clear BK187;clear HB;have HO186 := n0_;have HO191 := n1_;have BK182 := n2_;have BK187 := n3_;have HB := n4_;have BK192 := n5_;have GW192 := n6_;have GE192 := n7_;have NB182_192 := n8_;have NB192_182 := n9_;have NB187_192 := n10_;have NB192_187 := n11_;clear n0_ n1_ n2_ n3_ n4_ n5_ n6_ n7_ n8_ n9_ n10_ n11_;clear hb hbox hg;have hnb14 := NB192_182.out;have hnc14 := NB182_192.out;have hnb15 := NB192_187.out;have hnc15 := NB187_192.out;have hcz16_0 : w13.cell? ⟨gb192,0,none⟩ = some (.bool false) := (blk_cell BK192.out 0).trans rfl;have hcz16_1 : w13.cell? ⟨gb192,1,none⟩ = some (.slice none 0 0) := (blk_cell BK192.out 1).trans rfl;have hfz16_0 := blk_frozen BK192.out 0;have hfz16_1 := blk_frozen BK192.out 1;obtain ⟨Ao17,co17,eo17⟩ := Kd.R_slice HO191.out;subst eo17))
    have n0_ : Aside0 (Kd.R (Kd.int .u64) 96 ((w13.setCell ⟨gb192,0,none⟩ (.bool t188)).setCell ⟨gb192,1,none⟩ (.slice Ao17 t189.length co17)) w.heap.size (fun k_ => some k_ ≠ (.slice Ao17 t189.length co17 : Value).ownBlock) (.slice Ao11 t184.length co11) t184) := ⟨by (with_reducible repeat (first | apply Kd.R_alloc | apply Kd.R_drewN | apply Kd.R_drew));exact Kd.R_mono (Kd.R_far (p := ⟨gb192,1,none⟩) (Kd.R_far (p := ⟨gb192,0,none⟩) (Kd.R_types HO186.out BK192.out (by decide)) (fun _ hk => hk.2) (.bool t188)) (fun _ hk => hk.2) (.slice Ao17 t189.length co17)) (fun _ hk => hk.1.2)⟩
    have n1_ : Aside0 (Kd.R (Kd.int .u64) 96 ((w13.setCell ⟨gb192,0,none⟩ (.bool t188)).setCell ⟨gb192,1,none⟩ (.slice Ao17 t189.length co17)) w.heap.size (fun k_ => some k_ ≠ (.slice Ao11 t184.length co11 : Value).ownBlock) (.slice Ao17 t189.length co17) t189) := ⟨by (with_reducible repeat (first | apply Kd.R_alloc | apply Kd.R_drewN | apply Kd.R_drew));exact Kd.R_mono (Kd.R_far (p := ⟨gb192,1,none⟩) (Kd.R_far (p := ⟨gb192,0,none⟩) (Kd.R_types HO191.out BK192.out (by decide)) (fun _ hk => hk.2) (.bool t188)) (fun _ hk => hk.2) (.slice Ao17 t189.length co17)) (fun _ hk => hk.1.2)⟩
    have n2_ : Aside0 (((w13.setCell ⟨gb192,0,none⟩ (.bool t188)).setCell ⟨gb192,1,none⟩ (.slice Ao17 t189.length co17)).heap[gb182]? = some (.cells #[.bool false,.slice none 0 0] 29 (0,0))) := ⟨by (with_reducible repeat (first | refine blk_drewN ?_ _ | refine blk_drew ?_ | refine blk_alloc ?_ _));refine blk_far ?_ NB182_192.out _;(with_reducible repeat (first | refine blk_drewN ?_ _ | refine blk_drew ?_ | refine blk_alloc ?_ _));refine blk_far ?_ NB182_192.out _;(with_reducible repeat (first | refine blk_drewN ?_ _ | refine blk_drew ?_ | refine blk_alloc ?_ _));exact BK182.out⟩
    have n3_ : Aside0 (((w13.setCell ⟨gb192,0,none⟩ (.bool t188)).setCell ⟨gb192,1,none⟩ (.slice Ao17 t189.length co17)).heap[gb187]? = some (.cells #[.bool t183,.slice Ao11 t184.length co11] 29 (0,0))) := ⟨by (with_reducible repeat (first | refine blk_drewN ?_ _ | refine blk_drew ?_ | refine blk_alloc ?_ _));refine blk_far ?_ NB187_192.out _;(with_reducible repeat (first | refine blk_drewN ?_ _ | refine blk_drew ?_ | refine blk_alloc ?_ _));refine blk_far ?_ NB187_192.out _;(with_reducible repeat (first | refine blk_drewN ?_ _ | refine blk_drew ?_ | refine blk_alloc ?_ _));exact BK187.out⟩
    have n4_ : Aside0 (((w13.setCell ⟨gb192,0,none⟩ (.bool t188)).setCell ⟨gb192,1,none⟩ (.slice Ao17 t189.length co17)).heap[gb192]? = some (.cells #[.bool t188,.slice Ao17 t189.length co17] 29 (0,0))) := ⟨by (with_reducible repeat (first | refine blk_drewN ?_ _ | refine blk_drew ?_ | refine blk_alloc ?_ _));refine blk_put (cs := #[.bool t188,.slice none 0 0]) ?_ 1 _ rfl;(with_reducible repeat (first | refine blk_drewN ?_ _ | refine blk_drew ?_ | refine blk_alloc ?_ _));refine blk_put (cs := #[.bool false,.slice none 0 0]) ?_ 0 _ rfl;(with_reducible repeat (first | refine blk_drewN ?_ _ | refine blk_drew ?_ | refine blk_alloc ?_ _));exact BK192.out⟩
    have n5_ : Aside0 (Below w.heap.size w ((w13.setCell ⟨gb192,0,none⟩ (.bool t188)).setCell ⟨gb192,1,none⟩ (.slice Ao17 t189.length co17))) := ⟨by repeat (first | (with_reducible first | exact HB.out | apply below_alloc | apply pw_below_drewN | apply below_drew1 | refine below_set ?_ GE182.out | refine below_set ?_ GE187.out | refine below_set ?_ GE192.out) | exact HB.out)⟩
    (try clear HO186)
    (try clear HO191)
    (try clear BK182)
    (try clear BK187)
    (try clear BK192)
    (try clear HB)
    generalize ((w13.setCell ⟨gb192,0,none⟩ (.bool t188)).setCell ⟨gb192,1,none⟩ (.slice Ao17 t189.length co17)) = w18 at n0_ n1_ n2_ n3_ n4_ n5_ ⊢
    have HO186 := n0_
    have HO191 := n1_
    have BK182 := n2_
    have BK187 := n3_
    have BK192 := n4_
    have HB := n5_
    clear n0_ n1_ n2_ n3_ n4_ n5_
    have n0_ := Aside0.mk (Kd.R_drew HO186.out)
    have n1_ := Aside0.mk (Kd.R_drew HO191.out)
    have n2_ := Aside0.mk (blk_drew BK182.out)
    have n3_ := Aside0.mk (blk_drew BK187.out)
    have n4_ := Aside0.mk (blk_drew BK192.out)
    have n5_ := Aside0.mk (below_drew1 HB.out)
    clear HO186
    clear HO191
    clear BK182
    clear BK187
    clear BK192
    clear HB
    have HO186 := n0_
    have HO191 := n1_
    have BK182 := n2_
    have BK187 := n3_
    have BK192 := n4_
    have HB := n5_
    clear n0_ n1_ n2_ n3_ n4_ n5_
    refine start_ (n := 9) (S := fun w' => w'.cell? ⟨gb187,0,none⟩ = some (.bool t183) ∧ w'.cell? ⟨gb187,1,none⟩ = some (.slice Ao11 t184.length co11) ∧ w'.cell? ⟨gb192,0,none⟩ = some (.bool t188) ∧ w'.cell? ⟨gb192,1,none⟩ = some (.slice Ao17 t189.length co17)) (ds := []) #[false,false,false,false,false,false,false,false,false] (by kernel_rfl) rfl rfl ⟨(blk_cell BK187.out 0).trans rfl,(blk_cell BK187.out 1).trans rfl,(blk_cell BK192.out 0).trans rfl,(blk_cell BK192.out 1).trans rfl⟩ (fun hHeld => ?_);refine with_tabW verdererref03_Times.tab3 verdererref03_Times.bits3 (fun HT_ HW_ => ?_)
    generalize w18.drew = w19 at HO186 HO191 BK182 BK187 BK192 HB hHeld ⊢
    refine pure_ (i := 0) (N := some 16) (v := ?_) (a' := ?_) #[true,false,false,false,false,false,false,false,false] rfl rfl (any_of HT_.out (by kernel_rfl)) (fun _ _ _ h => h) (Or.inl ⟨by rfl,?_⟩) ?_ ?_
    rotate_left
    · intro w'
      go_simp
      with_reducible rfl
    rotate_left
    · simp only [Act.put,zA,zB,zC,i64_w,i32_w]
      rfl
    refine pure_ (i := 2) (N := some 18) (v := ?_) (a' := ?_) #[true,false,true,false,false,false,false,false,false] rfl rfl (any_of HT_.out (by kernel_rfl)) (fun _ _ _ h => h) (Or.inl ⟨by rfl,?_⟩) ?_ ?_
    rotate_left
    · intro w'
      go_simp
      with_reducible rfl
    rotate_left
    · simp only [Act.put,zA,zB,zC,i64_w,i32_w]
      rfl
    refine take_ (i := 1) (N := some 17) (v := ?_) (a' := ?_) #[true,true,true,false,false,false,false,false,false] rfl rfl (take_ofW HT_.out HW_.out (by kernel_rfl)) (fun _ _ _ h => h) (Or.inl ⟨by rfl,?_⟩) hHeld ?_ ?_
    rotate_left
    · rintro w' ⟨s0,s1,s2,s3⟩
      go_simp
      with_reducible rfl
    rotate_left
    · simp only [Act.put,zA,zB,zC,i64_w,i32_w]
      rfl
    refine take_ (i := 3) (N := some 19) (v := ?_) (a' := ?_) #[true,true,true,true,false,false,false,false,false] rfl rfl (take_ofW HT_.out HW_.out (by kernel_rfl)) (fun _ _ _ h => h) (Or.inl ⟨by rfl,?_⟩) hHeld ?_ ?_
    rotate_left
    · rintro w' ⟨s0,s1,s2,s3⟩
      go_simp
      with_reducible rfl
    rotate_left
    · simp only [Act.put,zA,zB,zC,i64_w,i32_w]
      rfl
    refine pure_ (i := 4) (N := some 20) (v := ?_) (a' := ?_) #[true,true,true,true,true,false,false,false,false] rfl rfl (any_of HT_.out (by kernel_rfl)) (fun _ _ _ h => h) (Or.inl ⟨by rfl,?_⟩) ?_ ?_
    rotate_left
    · intro w'
      go_simp
      with_reducible rfl
    rotate_left
    · simp only [Act.put,zA,zB,zC,i64_w,i32_w]
      rfl
    refine join_ (σ := Value × Nat) 1 #[true,true,true,true,true,true,true,true,false] (fun s_ => [(21,s_.1),(7,.pointer (some ⟨s_.2,0,none⟩)),(22,.agg #[.bool (t183 != t188),s_.1])]) (fun s_ w' => (w'.cell? ⟨gb187,0,none⟩ = some (.bool t183) ∧ w'.cell? ⟨gb187,1,none⟩ = some (.slice Ao11 t184.length co11) ∧ w'.cell? ⟨gb192,0,none⟩ = some (.bool t188) ∧ w'.cell? ⟨gb192,1,none⟩ = some (.slice Ao17 t189.length co17)) ∧ (Kd.R (Kd.int .u64) 96 w' w.heap.size (fun k_ => some k_ ≠ (.slice Ao17 t189.length co17 : Value).ownBlock ∧ some k_ ≠ (s_.1 : Value).ownBlock) (.slice Ao11 t184.length co11) t184) ∧ (Kd.R (Kd.int .u64) 96 w' w.heap.size (fun k_ => some k_ ≠ (.slice Ao11 t184.length co11 : Value).ownBlock ∧ some k_ ≠ (s_.1 : Value).ownBlock) (.slice Ao17 t189.length co17) t189) ∧ (Kd.R (Kd.int .u64) 96 w' w.heap.size (fun k_ => some k_ ≠ (.slice Ao11 t184.length co11 : Value).ownBlock ∧ some k_ ≠ (.slice Ao17 t189.length co17 : Value).ownBlock) s_.1 y193) ∧ (w'.heap[gb182]? = some (.cells #[.bool false,.slice none 0 0] 29 (0,0))) ∧ (w'.heap[gb187]? = some (.cells #[.bool t183,.slice Ao11 t184.length co11] 29 (0,0))) ∧ (w'.heap[gb192]? = some (.cells #[.bool t188,.slice Ao17 t189.length co17] 29 (0,0))) ∧ (w'.heap[s_.2]? = some (.cells #[.bool false,.slice none 0 0] 29 (0,0))) ∧ (w.heap.size ≤ s_.2) ∧ (w.heap.size ≤ s_.2) ∧ (gb182 ≠ s_.2) ∧ (s_.2 ≠ gb182) ∧ (gb187 ≠ s_.2) ∧ (s_.2 ≠ gb187) ∧ (gb192 ≠ s_.2) ∧ (s_.2 ≠ gb192) ∧ (Below w.heap.size w w')) ?_ ?_
    rotate_left
    · intro hCont
      refine two_ (i := 5) (j := 7) (Ni := some 21) (Nj := some 7) #[true,true,true,true,true,true,false,false,false] #[true,true,true,true,true,false,false,true,false] rfl rfl rfl rfl (two_of HT_.out (by kernel_rfl)) (by decide) (by decide) (fun K hK => ?_) (fun K hK => ?_)
      · skip
        refine Kd.R_make_step (Kd.int .u64) _ 96 (by rfl) (N := 21) rfl 27 _ _ rfl 20 rfl rfl Try.underlying27 (.int .u64 0) 8 info96 rfl (by decide) (by omega) 0 (ok := fun _ => True) (okp := fun _ => True) rfl (fun _ hk => hk) trivial (by omega) (by omega) (Below.refl _ _) (Nat.le_refl _) ?_
        intro v194 w20 ho21 hb hg_ hnew_
        clear hg_ hnew_
        (first | rw [← Ny193.out] at ho21 | (simp only [Int.reduceToNat] at ho21;rw [← Ny193.out] at ho21))
        have n0_ := Aside0.mk (Kd.R_elder' (by (with_reducible repeat (first | apply Kd.R_alloc | apply Kd.R_drewN | apply Kd.R_drew));exact HO186.out) (Kd.R_base ho21) hb)
        have n1_ := Aside0.mk (Kd.R_elder' (by (with_reducible repeat (first | apply Kd.R_alloc | apply Kd.R_drewN | apply Kd.R_drew));exact HO191.out) (Kd.R_base ho21) hb)
        have n2_ := Aside0.mk (Kd.R_lower (Kd.R_new' (Kd.R_new' ho21 (Kd.R_lt (by (with_reducible repeat (first | apply Kd.R_alloc | apply Kd.R_drewN | apply Kd.R_drew));exact HO186.out))) (Kd.R_lt (by (with_reducible repeat (first | apply Kd.R_alloc | apply Kd.R_drewN | apply Kd.R_drew));exact HO191.out))) (below_size (by repeat (first | (with_reducible first | exact HB.out | apply below_alloc | apply pw_below_drewN | apply below_drew1 | refine below_set ?_ GE182.out | refine below_set ?_ GE187.out | refine below_set ?_ GE192.out) | exact HB.out))))
        have n3_ := Aside0.mk (blk_below (g := gb182) (o := .cells #[.bool false,.slice none 0 0] 29 (0,0)) (by (with_reducible repeat (first | refine blk_drewN ?_ _ | refine blk_drew ?_ | refine blk_alloc ?_ _));exact BK182.out) hb)
        have n4_ := Aside0.mk (blk_below (g := gb187) (o := .cells #[.bool t183,.slice Ao11 t184.length co11] 29 (0,0)) (by (with_reducible repeat (first | refine blk_drewN ?_ _ | refine blk_drew ?_ | refine blk_alloc ?_ _));exact BK187.out) hb)
        have n5_ := Aside0.mk (blk_below (g := gb192) (o := .cells #[.bool t188,.slice Ao17 t189.length co17] 29 (0,0)) (by (with_reducible repeat (first | refine blk_drewN ?_ _ | refine blk_drew ?_ | refine blk_alloc ?_ _));exact BK192.out) hb)
        have n6_ := Aside0.mk (below_step (by repeat (first | (with_reducible first | exact HB.out | apply below_alloc | apply pw_below_drewN | apply below_drew1 | refine below_set ?_ GE182.out | refine below_set ?_ GE187.out | refine below_set ?_ GE192.out) | exact HB.out)) hb)
        clear HO186
        clear HO191
        clear BK182
        clear BK187
        clear BK192
        clear HB
        have HO186 := n0_
        have HO191 := n1_
        have HO195 := n2_
        have BK182 := n3_
        have BK187 := n4_
        have BK192 := n5_
        have HB := n6_
        clear n0_ n1_ n2_ n3_ n4_ n5_ n6_
        clear hb ho21
        obtain ⟨Ao22,co22,eo22⟩ := Kd.R_slice HO195.out
        (first | subst eo22 | (injection eo22 with f1_ f2_ f3_;have f4_ := f1_.symm;have f5_ := f3_.symm;clear f1_ f2_ f3_;subst f4_;subst f5_))
        refine hK.out _ _ ⟨(blk_cell BK187.out 0).trans rfl,(blk_cell BK187.out 1).trans rfl,(blk_cell BK192.out 0).trans rfl,(blk_cell BK192.out 1).trans rfl⟩ (fun hHeld => ?_)
        clear hK K
        refine norm_ (a' := ?_) ?_ ?_
        rotate_left
        · show Act.put _ (some 21) _ = _
          simp only [Act.put,zA,zB,zC,i64_w,i32_w]
          rfl
        refine pure_ (i := 6) (N := some 22) (v := ?_) (a' := ?_) #[true,true,true,true,true,true,true,false,false] rfl rfl (any_of HT_.out (by kernel_rfl)) (fun _ _ _ h => h) (Or.inl ⟨by rfl,?_⟩) ?_ ?_
        rotate_left
        · intro w'
          go_simp
          with_reducible rfl
        rotate_left
        · simp only [Act.put,zA,zB,zC,i64_w,i32_w]
          rfl
        refine one_ (i := 7) (N := some 7) #[true,true,true,true,true,true,true,true,false] rfl rfl (one_of HT_.out (by kernel_rfl)) (by decide) (fun K hK => ?_)
        refine box_step ?hg (N := 7) ?hd (cs := #[.bool false,.slice none 0 0]) (t := 29) ?hr ?_;(case hd => rfl);(case hg => rfl);(case hr => first | (go_simp;done) | (go_simp;rfl))
        intro gb196 hg w23 hbox hb
        have n0_ := Aside0.mk (Kd.R_below (by (with_reducible repeat (first | apply Kd.R_alloc | apply Kd.R_drewN | apply Kd.R_drew));exact HO186.out) hb)
        have n1_ := Aside0.mk (Kd.R_below (by (with_reducible repeat (first | apply Kd.R_alloc | apply Kd.R_drewN | apply Kd.R_drew));exact HO191.out) hb)
        have n2_ := Aside0.mk (Kd.R_below (by (with_reducible repeat (first | apply Kd.R_alloc | apply Kd.R_drewN | apply Kd.R_drew));exact HO195.out) hb)
        have n3_ := Aside0.mk (blk_below (g := gb182) (o := .cells #[.bool false,.slice none 0 0] 29 (0,0)) (by (with_reducible repeat (first | refine blk_drewN ?_ _ | refine blk_drew ?_ | refine blk_alloc ?_ _));exact BK182.out) hb)
        have n4_ := Aside0.mk (blk_below (g := gb187) (o := .cells #[.bool t183,.slice Ao11 t184.length co11] 29 (0,0)) (by (with_reducible repeat (first | refine blk_drewN ?_ _ | refine blk_drew ?_ | refine blk_alloc ?_ _));exact BK187.out) hb)
        have n5_ := Aside0.mk (blk_below (g := gb192) (o := .cells #[.bool t188,.slice Ao17 t189.length co17] 29 (0,0)) (by (with_reducible repeat (first | refine blk_drewN ?_ _ | refine blk_drew ?_ | refine blk_alloc ?_ _));exact BK192.out) hb)
        have n6_ := Aside0.mk (below_step (by repeat (first | (with_reducible first | exact HB.out | apply below_alloc | apply pw_below_drewN | apply below_drew1 | refine below_set ?_ GE182.out | refine below_set ?_ GE187.out | refine below_set ?_ GE192.out) | exact HB.out)) hb)
        have n7_ := Aside0.mk (hbox)
        have n8_ := Aside0.mk ((by rw [hg];exact (below_size (by repeat (first | (with_reducible first | exact HB.out | apply below_alloc | apply pw_below_drewN | apply below_drew1 | refine below_set ?_ GE182.out | refine below_set ?_ GE187.out | refine below_set ?_ GE192.out) | exact HB.out))) : w.heap.size ≤ gb196))
        have n9_ := Aside0.mk ((by rw [hg];exact (below_size (by repeat (first | (with_reducible first | exact HB.out | apply below_alloc | apply pw_below_drewN | apply below_drew1 | refine below_set ?_ GE182.out | refine below_set ?_ GE187.out | refine below_set ?_ GE192.out) | exact HB.out))) : w.heap.size ≤ gb196))
        have n10_ := Aside0.mk ((by rw [hg];exact Nat.ne_of_lt (blk_lt (g := gb182) (o := .cells #[.bool false,.slice none 0 0] 29 (0,0)) (by (with_reducible repeat (first | refine blk_drewN ?_ _ | refine blk_drew ?_ | refine blk_alloc ?_ _));exact BK182.out)) : gb182 ≠ gb196))
        have n11_ := Aside0.mk ((by rw [hg];exact Nat.ne_of_gt (blk_lt (g := gb182) (o := .cells #[.bool false,.slice none 0 0] 29 (0,0)) (by (with_reducible repeat (first | refine blk_drewN ?_ _ | refine blk_drew ?_ | refine blk_alloc ?_ _));exact BK182.out)) : gb196 ≠ gb182))
        have n12_ := Aside0.mk ((by rw [hg];exact Nat.ne_of_lt (blk_lt (g := gb187) (o := .cells #[.bool t183,.slice Ao11 t184.length co11] 29 (0,0)) (by (with_reducible repeat (first | refine blk_drewN ?_ _ | refine blk_drew ?_ | refine blk_alloc ?_ _));exact BK187.out)) : gb187 ≠ gb196))
        have n13_ := Aside0.mk ((by rw [hg];exact Nat.ne_of_gt (blk_lt (g := gb187) (o := .cells #[.bool t183,.slice Ao11 t184.length co11] 29 (0,0)) (by (with_reducible repeat (first | refine blk_drewN ?_ _ | refine blk_drew ?_ | refine blk_alloc ?_ _));exact BK187.out)) : gb196 ≠ gb187))
        have n14_ := Aside0.mk ((by rw [hg];exact Nat.ne_of_lt (blk_lt (g := gb192) (o := .cells #[.bool t188,.slice Ao17 t189.length co17] 29 (0,0)) (by (with_reducible repeat (first | refine blk_drewN ?_ _ | refine blk_drew ?_ | refine blk_alloc ?_ _));exact BK192.out)) : gb192 ≠ gb196))
        have n15_ := Aside0.mk ((by rw [hg];exact Nat.ne_of_gt (blk_lt (g := gb192) (o := .cells #[.bool t188,.slice Ao17 t189.length co17] 29 (0,0)) (by (with_reducible repeat (first | refine blk_drewN ?_ _ | refine blk_drew ?_ | refine blk_alloc ?_ _));exact BK192.out)) : gb196 ≠ gb192))
        clear HO186
        clear HO191
        clear HO195
        clear BK182
        clear BK187
        clear BK192
        clear HB
        have HO186 := n0_
        have HO191 := n1_
        have HO195 := n2_
        have BK182 := n3_
        have BK187 := n4_
        have BK192 := n5_
        have HB := n6_
        have BK196 := n7_
        have GW196 := n8_
        have GE196 := n9_
        have NB182_196 := n10_
        have NB196_182 := n11_
        have NB187_196 := n12_
        have NB196_187 := n13_
        have NB192_196 := n14_
        have NB196_192 := n15_
        clear n0_ n1_ n2_ n3_ n4_ n5_ n6_ n7_ n8_ n9_ n10_ n11_ n12_ n13_ n14_ n15_
        clear hb hbox hg
        refine hK.out _ _ ⟨(blk_cell BK187.out 0).trans rfl,(blk_cell BK187.out 1).trans rfl,(blk_cell BK192.out 0).trans rfl,(blk_cell BK192.out 1).trans rfl⟩ (fun hHeld => ?_)
        clear hK K
        refine norm_ (a' := ?_) ?_ ?_
        rotate_left
        · show Act.put _ (some 7) _ = _
          simp only [Act.put,zA,zB,zC,i64_w,i32_w]
          rfl
        exact norm_ (by simp only [putAll,Act.put,zA,zB,zC] <;> rfl) (hCont (.slice Ao22 y193.length co22,gb196) _ ⟨hHeld,(by (with_reducible repeat (first | apply Kd.R_alloc | apply Kd.R_drewN | apply Kd.R_drew));exact HO186.out),(by (with_reducible repeat (first | apply Kd.R_alloc | apply Kd.R_drewN | apply Kd.R_drew));exact HO191.out),(by (with_reducible repeat (first | apply Kd.R_alloc | apply Kd.R_drewN | apply Kd.R_drew));exact Kd.R_mono HO195.out (fun _ hk => ⟨hk.1.2,hk.2⟩)),(by (with_reducible repeat (first | refine blk_drewN ?_ _ | refine blk_drew ?_ | refine blk_alloc ?_ _));exact BK182.out),(by (with_reducible repeat (first | refine blk_drewN ?_ _ | refine blk_drew ?_ | refine blk_alloc ?_ _));exact BK187.out),(by (with_reducible repeat (first | refine blk_drewN ?_ _ | refine blk_drew ?_ | refine blk_alloc ?_ _));exact BK192.out),(by (with_reducible repeat (first | refine blk_drewN ?_ _ | refine blk_drew ?_ | refine blk_alloc ?_ _));exact BK196.out),GW196.out,GE196.out,NB182_196.out,NB196_182.out,NB187_196.out,NB196_187.out,NB192_196.out,NB196_192.out,(by repeat (first | (with_reducible first | exact HB.out | apply below_alloc | apply pw_below_drewN | apply below_drew1 | refine below_set ?_ GE182.out | refine below_set ?_ GE187.out | refine below_set ?_ GE192.out | refine below_set ?_ GE196.out) | exact HB.out))⟩)
      · skip
        refine box_step ?hg (N := 7) ?hd (cs := #[.bool false,.slice none 0 0]) (t := 29) ?hr ?_;(case hd => rfl);(case hg => rfl);(case hr => first | (go_simp;done) | (go_simp;rfl))
        intro gb196 hg w20 hbox hb
        have n0_ := Aside0.mk (Kd.R_below (by (with_reducible repeat (first | apply Kd.R_alloc | apply Kd.R_drewN | apply Kd.R_drew));exact HO186.out) hb)
        have n1_ := Aside0.mk (Kd.R_below (by (with_reducible repeat (first | apply Kd.R_alloc | apply Kd.R_drewN | apply Kd.R_drew));exact HO191.out) hb)
        have n2_ := Aside0.mk (blk_below (g := gb182) (o := .cells #[.bool false,.slice none 0 0] 29 (0,0)) (by (with_reducible repeat (first | refine blk_drewN ?_ _ | refine blk_drew ?_ | refine blk_alloc ?_ _));exact BK182.out) hb)
        have n3_ := Aside0.mk (blk_below (g := gb187) (o := .cells #[.bool t183,.slice Ao11 t184.length co11] 29 (0,0)) (by (with_reducible repeat (first | refine blk_drewN ?_ _ | refine blk_drew ?_ | refine blk_alloc ?_ _));exact BK187.out) hb)
        have n4_ := Aside0.mk (blk_below (g := gb192) (o := .cells #[.bool t188,.slice Ao17 t189.length co17] 29 (0,0)) (by (with_reducible repeat (first | refine blk_drewN ?_ _ | refine blk_drew ?_ | refine blk_alloc ?_ _));exact BK192.out) hb)
        have n5_ := Aside0.mk (below_step (by repeat (first | (with_reducible first | exact HB.out | apply below_alloc | apply pw_below_drewN | apply below_drew1 | refine below_set ?_ GE182.out | refine below_set ?_ GE187.out | refine below_set ?_ GE192.out) | exact HB.out)) hb)
        have n6_ := Aside0.mk (hbox)
        have n7_ := Aside0.mk ((by rw [hg];exact (below_size (by repeat (first | (with_reducible first | exact HB.out | apply below_alloc | apply pw_below_drewN | apply below_drew1 | refine below_set ?_ GE182.out | refine below_set ?_ GE187.out | refine below_set ?_ GE192.out) | exact HB.out))) : w.heap.size ≤ gb196))
        have n8_ := Aside0.mk ((by rw [hg];exact (below_size (by repeat (first | (with_reducible first | exact HB.out | apply below_alloc | apply pw_below_drewN | apply below_drew1 | refine below_set ?_ GE182.out | refine below_set ?_ GE187.out | refine below_set ?_ GE192.out) | exact HB.out))) : w.heap.size ≤ gb196))
        have n9_ := Aside0.mk ((by rw [hg];exact Nat.ne_of_lt (blk_lt (g := gb182) (o := .cells #[.bool false,.slice none 0 0] 29 (0,0)) (by (with_reducible repeat (first | refine blk_drewN ?_ _ | refine blk_drew ?_ | refine blk_alloc ?_ _));exact BK182.out)) : gb182 ≠ gb196))
        have n10_ := Aside0.mk ((by rw [hg];exact Nat.ne_of_gt (blk_lt (g := gb182) (o := .cells #[.bool false,.slice none 0 0] 29 (0,0)) (by (with_reducible repeat (first | refine blk_drewN ?_ _ | refine blk_drew ?_ | refine blk_alloc ?_ _));exact BK182.out)) : gb196 ≠ gb182))
        have n11_ := Aside0.mk ((by rw [hg];exact Nat.ne_of_lt (blk_lt (g := gb187) (o := .cells #[.bool t183,.slice Ao11 t184.length co11] 29 (0,0)) (by (with_reducible repeat (first | refine blk_drewN ?_ _ | refine blk_drew ?_ | refine blk_alloc ?_ _));exact BK187.out)) : gb187 ≠ gb196))
        have n12_ := Aside0.mk ((by rw [hg];exact Nat.ne_of_gt (blk_lt (g := gb187) (o := .cells #[.bool t183,.slice Ao11 t184.length co11] 29 (0,0)) (by (with_reducible repeat (first | refine blk_drewN ?_ _ | refine blk_drew ?_ | refine blk_alloc ?_ _));exact BK187.out)) : gb196 ≠ gb187))
        have n13_ := Aside0.mk ((by rw [hg];exact Nat.ne_of_lt (blk_lt (g := gb192) (o := .cells #[.bool t188,.slice Ao17 t189.length co17] 29 (0,0)) (by (with_reducible repeat (first | refine blk_drewN ?_ _ | refine blk_drew ?_ | refine blk_alloc ?_ _));exact BK192.out)) : gb192 ≠ gb196))
        have n14_ := Aside0.mk ((by rw [hg];exact Nat.ne_of_gt (blk_lt (g := gb192) (o := .cells #[.bool t188,.slice Ao17 t189.length co17] 29 (0,0)) (by (with_reducible repeat (first | refine blk_drewN ?_ _ | refine blk_drew ?_ | refine blk_alloc ?_ _));exact BK192.out)) : gb196 ≠ gb192))
        clear HO186
        clear HO191
        clear BK182
        clear BK187
        clear BK192
        clear HB
        have HO186 := n0_
        have HO191 := n1_
        have BK182 := n2_
        have BK187 := n3_
        have BK192 := n4_
        have HB := n5_
        have BK196 := n6_
        have GW196 := n7_
        have GE196 := n8_
        have NB182_196 := n9_
        have NB196_182 := n10_
        have NB187_196 := n11_
        have NB196_187 := n12_
        have NB192_196 := n13_
        have NB196_192 := n14_
        clear n0_ n1_ n2_ n3_ n4_ n5_ n6_ n7_ n8_ n9_ n10_ n11_ n12_ n13_ n14_
        clear hb hbox hg
        refine hK.out _ _ ⟨(blk_cell BK187.out 0).trans rfl,(blk_cell BK187.out 1).trans rfl,(blk_cell BK192.out 0).trans rfl,(blk_cell BK192.out 1).trans rfl⟩ (fun hHeld => ?_)
        clear hK K
        refine norm_ (a' := ?_) ?_ ?_
        rotate_left
        · show Act.put _ (some 7) _ = _
          simp only [Act.put,zA,zB,zC,i64_w,i32_w]
          rfl
        refine one_ (i := 5) (N := some 21) #[true,true,true,true,true,true,false,true,false] rfl rfl (one_of HT_.out (by kernel_rfl)) (by decide) (fun K hK => ?_)
        refine Kd.R_make_step (Kd.int .u64) _ 96 (by rfl) (N := 21) rfl 27 _ _ rfl 20 rfl rfl Try.underlying27 (.int .u64 0) 8 info96 rfl (by decide) (by omega) 0 (ok := fun _ => True) (okp := fun _ => True) rfl (fun _ hk => hk) trivial (by omega) (by omega) (Below.refl _ _) (Nat.le_refl _) ?_
        intro v194 w21 ho22 hb hg_ hnew_
        clear hg_ hnew_
        (first | rw [← Ny193.out] at ho22 | (simp only [Int.reduceToNat] at ho22;rw [← Ny193.out] at ho22))
        have n0_ := Aside0.mk (Kd.R_elder' (by (with_reducible repeat (first | apply Kd.R_alloc | apply Kd.R_drewN | apply Kd.R_drew));exact HO186.out) (Kd.R_base ho22) hb)
        have n1_ := Aside0.mk (Kd.R_elder' (by (with_reducible repeat (first | apply Kd.R_alloc | apply Kd.R_drewN | apply Kd.R_drew));exact HO191.out) (Kd.R_base ho22) hb)
        have n2_ := Aside0.mk (Kd.R_lower (Kd.R_new' (Kd.R_new' ho22 (Kd.R_lt (by (with_reducible repeat (first | apply Kd.R_alloc | apply Kd.R_drewN | apply Kd.R_drew));exact HO186.out))) (Kd.R_lt (by (with_reducible repeat (first | apply Kd.R_alloc | apply Kd.R_drewN | apply Kd.R_drew));exact HO191.out))) (below_size (by repeat (first | (with_reducible first | exact HB.out | apply below_alloc | apply pw_below_drewN | apply below_drew1 | refine below_set ?_ GE182.out | refine below_set ?_ GE187.out | refine below_set ?_ GE192.out | refine below_set ?_ GE196.out) | exact HB.out))))
        have n3_ := Aside0.mk (blk_below (g := gb182) (o := .cells #[.bool false,.slice none 0 0] 29 (0,0)) (by (with_reducible repeat (first | refine blk_drewN ?_ _ | refine blk_drew ?_ | refine blk_alloc ?_ _));exact BK182.out) hb)
        have n4_ := Aside0.mk (blk_below (g := gb187) (o := .cells #[.bool t183,.slice Ao11 t184.length co11] 29 (0,0)) (by (with_reducible repeat (first | refine blk_drewN ?_ _ | refine blk_drew ?_ | refine blk_alloc ?_ _));exact BK187.out) hb)
        have n5_ := Aside0.mk (blk_below (g := gb192) (o := .cells #[.bool t188,.slice Ao17 t189.length co17] 29 (0,0)) (by (with_reducible repeat (first | refine blk_drewN ?_ _ | refine blk_drew ?_ | refine blk_alloc ?_ _));exact BK192.out) hb)
        have n6_ := Aside0.mk (blk_below (g := gb196) (o := .cells #[.bool false,.slice none 0 0] 29 (0,0)) (by (with_reducible repeat (first | refine blk_drewN ?_ _ | refine blk_drew ?_ | refine blk_alloc ?_ _));exact BK196.out) hb)
        have n7_ := Aside0.mk (below_step (by repeat (first | (with_reducible first | exact HB.out | apply below_alloc | apply pw_below_drewN | apply below_drew1 | refine below_set ?_ GE182.out | refine below_set ?_ GE187.out | refine below_set ?_ GE192.out | refine below_set ?_ GE196.out) | exact HB.out)) hb)
        clear HO186
        clear HO191
        clear BK182
        clear BK187
        clear BK192
        clear BK196
        clear HB
        have HO186 := n0_
        have HO191 := n1_
        have HO195 := n2_
        have BK182 := n3_
        have BK187 := n4_
        have BK192 := n5_
        have BK196 := n6_
        have HB := n7_
        clear n0_ n1_ n2_ n3_ n4_ n5_ n6_ n7_
        clear hb ho22
        obtain ⟨Ao23,co23,eo23⟩ := Kd.R_slice HO195.out
        (first | subst eo23 | (injection eo23 with f1_ f2_ f3_;have f4_ := f1_.symm;have f5_ := f3_.symm;clear f1_ f2_ f3_;subst f4_;subst f5_))
        refine hK.out _ _ ⟨(blk_cell BK187.out 0).trans rfl,(blk_cell BK187.out 1).trans rfl,(blk_cell BK192.out 0).trans rfl,(blk_cell BK192.out 1).trans rfl⟩ (fun hHeld => ?_)
        clear hK K
        refine norm_ (a' := ?_) ?_ ?_
        rotate_left
        · show Act.put _ (some 21) _ = _
          simp only [Act.put,zA,zB,zC,i64_w,i32_w]
          rfl
        refine pure_ (i := 6) (N := some 22) (v := ?_) (a' := ?_) #[true,true,true,true,true,true,true,true,false] rfl rfl (any_of HT_.out (by kernel_rfl)) (fun _ _ _ h => h) (Or.inl ⟨by rfl,?_⟩) ?_ ?_
        rotate_left
        · intro w'
          go_simp
          with_reducible rfl
        rotate_left
        · simp only [Act.put,zA,zB,zC,i64_w,i32_w]
          rfl
        exact norm_ (by simp only [putAll,Act.put,zA,zB,zC] <;> rfl) (hCont (.slice Ao23 y193.length co23,gb196) _ ⟨hHeld,(by (with_reducible repeat (first | apply Kd.R_alloc | apply Kd.R_drewN | apply Kd.R_drew));exact HO186.out),(by (with_reducible repeat (first | apply Kd.R_alloc | apply Kd.R_drewN | apply Kd.R_drew));exact HO191.out),(by (with_reducible repeat (first | apply Kd.R_alloc | apply Kd.R_drewN | apply Kd.R_drew));exact Kd.R_mono HO195.out (fun _ hk => ⟨hk.1.2,hk.2⟩)),(by (with_reducible repeat (first | refine blk_drewN ?_ _ | refine blk_drew ?_ | refine blk_alloc ?_ _));exact BK182.out),(by (with_reducible repeat (first | refine blk_drewN ?_ _ | refine blk_drew ?_ | refine blk_alloc ?_ _));exact BK187.out),(by (with_reducible repeat (first | refine blk_drewN ?_ _ | refine blk_drew ?_ | refine blk_alloc ?_ _));exact BK192.out),(by (with_reducible repeat (first | refine blk_drewN ?_ _ | refine blk_drew ?_ | refine blk_alloc ?_ _));exact BK196.out),GW196.out,GE196.out,NB182_196.out,NB196_182.out,NB187_196.out,NB196_187.out,NB192_196.out,NB196_192.out,(by repeat (first | (with_reducible first | exact HB.out | apply below_alloc | apply pw_below_drewN | apply below_drew1 | refine below_set ?_ GE182.out | refine below_set ?_ GE187.out | refine below_set ?_ GE192.out | refine below_set ?_ GE196.out) | exact HB.out))⟩)
    rintro ⟨v194,gb196⟩ w24 ⟨hS_,h0_,h1_,h2_,h3_,h4_,h5_,h6_,h7_,h8_,h9_,h10_,h11_,h12_,h13_,h14_,h15_⟩
    have n0_ : Aside0 (Kd.R (Kd.int .u64) 96 w24 w.heap.size (fun k_ => some k_ ≠ (.slice Ao17 t189.length co17 : Value).ownBlock ∧ some k_ ≠ (v194 : Value).ownBlock) (.slice Ao11 t184.length co11) t184) := ⟨h0_⟩
    have n1_ : Aside0 (Kd.R (Kd.int .u64) 96 w24 w.heap.size (fun k_ => some k_ ≠ (.slice Ao11 t184.length co11 : Value).ownBlock ∧ some k_ ≠ (v194 : Value).ownBlock) (.slice Ao17 t189.length co17) t189) := ⟨h1_⟩
    have n2_ : Aside0 (Kd.R (Kd.int .u64) 96 w24 w.heap.size (fun k_ => some k_ ≠ (.slice Ao11 t184.length co11 : Value).ownBlock ∧ some k_ ≠ (.slice Ao17 t189.length co17 : Value).ownBlock) v194 y193) := ⟨h2_⟩
    have n3_ : Aside0 (w24.heap[gb182]? = some (.cells #[.bool false,.slice none 0 0] 29 (0,0))) := ⟨h3_⟩
    have n4_ : Aside0 (w24.heap[gb187]? = some (.cells #[.bool t183,.slice Ao11 t184.length co11] 29 (0,0))) := ⟨h4_⟩
    have n5_ : Aside0 (w24.heap[gb192]? = some (.cells #[.bool t188,.slice Ao17 t189.length co17] 29 (0,0))) := ⟨h5_⟩
    have n6_ : Aside0 (w24.heap[gb196]? = some (.cells #[.bool false,.slice none 0 0] 29 (0,0))) := ⟨h6_⟩
    have n7_ : Aside0 (w.heap.size ≤ gb196) := ⟨h7_⟩
    have n8_ : Aside0 (w.heap.size ≤ gb196) := ⟨h8_⟩
    have n9_ : Aside0 (gb182 ≠ gb196) := ⟨h9_⟩
    have n10_ : Aside0 (gb196 ≠ gb182) := ⟨h10_⟩
    have n11_ : Aside0 (gb187 ≠ gb196) := ⟨h11_⟩
    have n12_ : Aside0 (gb196 ≠ gb187) := ⟨h12_⟩
    have n13_ : Aside0 (gb192 ≠ gb196) := ⟨h13_⟩
    have n14_ : Aside0 (gb196 ≠ gb192) := ⟨h14_⟩
    have n15_ : Aside0 (Below w.heap.size w w24) := ⟨h15_⟩
    clear HO186
    clear HO191
    clear BK182
    clear BK187
    clear BK192
    clear HB
    clear h0_ h1_ h2_ h3_ h4_ h5_ h6_ h7_ h8_ h9_ h10_ h11_ h12_ h13_ h14_ h15_
    have HO186 := n0_
    have HO191 := n1_
    have HO195 := n2_
    have BK182 := n3_
    have BK187 := n4_
    have BK192 := n5_
    have BK196 := n6_
    have GW196 := n7_
    have GE196 := n8_
    have NB182_196 := n9_
    have NB196_182 := n10_
    have NB187_196 := n11_
    have NB196_187 := n12_
    have NB192_196 := n13_
    have NB196_192 := n14_
    have HB := n15_
    clear n0_ n1_ n2_ n3_ n4_ n5_ n6_ n7_ n8_ n9_ n10_ n11_ n12_ n13_ n14_ n15_
    have hHeld : w24.cell? ⟨gb187,0,none⟩ = some (.bool t183) ∧ w24.cell? ⟨gb187,1,none⟩ = some (.slice Ao11 t184.length co11) ∧ w24.cell? ⟨gb192,0,none⟩ = some (.bool t188) ∧ w24.cell? ⟨gb192,1,none⟩ = some (.slice Ao17 t189.length co17) := hS_
    obtain ⟨Ao25,co25,eo25⟩ := Kd.R_slice HO195.out
    (first | subst eo25 | (injection eo25 with f1_ f2_ f3_;have f4_ := f1_.symm;have f5_ := f3_.symm;clear f1_ f2_ f3_;subst f4_;subst f5_))
    refine norm_ (a' := ?_) ?_ ?_
    rotate_left
    · simp only [putAll,Act.put,zA,zB,zC]
      rfl
    refine one_ (i := 8) (N := none) #[true,true,true,true,true,true,true,true,true] rfl rfl (one_of HT_.out (by kernel_rfl)) (by decide) (fun K hK => ?_)
    have hs26 : w24.cell? ⟨gb196,0,none⟩ = some (.bool false) := (blk_cell BK196.out 0).trans rfl
    have hfs26 := blk_frozen BK196.out 0
    have hns26_0 := NB182_196.out
    have hns26_1 := NB187_196.out
    have hns26_2 := NB192_196.out
    have hms26_0 := NB196_182.out
    have hms26_1 := NB196_187.out
    have hms26_2 := NB196_192.out
    have hs27 : w24.cell? ⟨gb196,1,none⟩ = some (.slice none 0 0) := (blk_cell BK196.out 1).trans rfl
    have hfs27 := blk_frozen BK196.out 1
    have hns27_0 := NB182_196.out
    have hns27_1 := NB187_196.out
    have hns27_2 := NB192_196.out
    have hms27_0 := NB196_182.out
    have hms27_1 := NB196_187.out
    have hms27_2 := NB196_192.out
    refine skip_ (w1 := ?_) (by rfl) rfl ?_ ?_
    rotate_left
    · go_simp
      rfl
    refine hK.out _ _ ⟨((cell_far (p := ⟨gb196,_,none⟩) NB187_196.out _).trans (((cell_far (p := ⟨gb196,_,none⟩) NB187_196.out _).trans (hHeld.1)))),((cell_far (p := ⟨gb196,_,none⟩) NB187_196.out _).trans (((cell_far (p := ⟨gb196,_,none⟩) NB187_196.out _).trans (hHeld.2.1)))),((cell_far (p := ⟨gb196,_,none⟩) NB192_196.out _).trans (((cell_far (p := ⟨gb196,_,none⟩) NB192_196.out _).trans (hHeld.2.2.1)))),((cell_far (p := ⟨gb196,_,none⟩) NB192_196.out _).trans (((cell_far (p := ⟨gb196,_,none⟩) NB192_196.out _).trans (hHeld.2.2.2))))⟩ (fun hHeld => ?_)
    clear hK K
    refine done_ (done_of HT_.out (by kernel_rfl)) ?_
    try go_wp2
    go_loopg [8] k (fun kq v8 w' => ∃ (x8_1 : Int) (x188001_1 : List Int) (x193001_1 : List Int) (x197001_1 : List Int) (u188001 : Value) (u193001 : Value) (u197001 : Value),v8 = .int .i64 x8_1 ∧ Aside0 (verdererref03_Times.l0 kq x8_1 t183 x188001_1 t188 x193001_1 (t183 != t188) x197001_1 = some (r1,r2)) ∧ Aside0 (kq ≤ k) ∧ Aside0 (Kd.R (Kd.int .u64) 96 w' w.heap.size (fun k_ => some k_ ≠ (u193001 : Value).ownBlock ∧ some k_ ≠ (u197001 : Value).ownBlock) u188001 x188001_1) ∧ Aside0 (Kd.R (Kd.int .u64) 96 w' w.heap.size (fun k_ => some k_ ≠ (u188001 : Value).ownBlock ∧ some k_ ≠ (u197001 : Value).ownBlock) u193001 x193001_1) ∧ Aside0 (Kd.R (Kd.int .u64) 96 w' w.heap.size (fun k_ => some k_ ≠ (u188001 : Value).ownBlock ∧ some k_ ≠ (u193001 : Value).ownBlock) u197001 x197001_1) ∧ Aside0 (w'.heap[gb182]? = some (.cells #[.bool false,(.slice none 0 0)] 29 (0,0))) ∧ Aside0 (w'.heap[gb187]? = some (.cells #[.bool t183,u188001] 29 (0,0))) ∧ Aside0 (w'.heap[gb192]? = some (.cells #[.bool t188,u193001] 29 (0,0))) ∧ Aside0 (w'.heap[gb196]? = some (.cells #[.bool (t183 != t188),u197001] 29 (0,0))) ∧ Aside0 (Below w.heap.size w w'))
    case atStart => exact ⟨(0),(t184),(t189),(y193),(.slice Ao11 t184.length co11),(.slice Ao17 t189.length co17),(.slice Ao25 y193.length co25),(by first | rfl | (simp;done) | (simp [*];done)),H',⟨Nat.le_refl _⟩,⟨by (with_reducible repeat (first | apply Kd.R_alloc | apply Kd.R_drewN | apply Kd.R_drew));exact Kd.R_mono (Kd.R_far (p := ⟨gb196,1,none⟩) (Kd.R_far (p := ⟨gb196,0,none⟩) (Kd.R_types HO186.out BK196.out (by decide)) (fun _ hk => hk.2) (.bool (t183 != t188))) (fun _ hk => hk.2) (.slice Ao25 y193.length co25)) (fun _ hk => ⟨hk.1.1,hk.1.2⟩)⟩,⟨by (with_reducible repeat (first | apply Kd.R_alloc | apply Kd.R_drewN | apply Kd.R_drew));exact Kd.R_mono (Kd.R_far (p := ⟨gb196,1,none⟩) (Kd.R_far (p := ⟨gb196,0,none⟩) (Kd.R_types HO191.out BK196.out (by decide)) (fun _ hk => hk.2) (.bool (t183 != t188))) (fun _ hk => hk.2) (.slice Ao25 y193.length co25)) (fun _ hk => ⟨hk.1.1,hk.1.2⟩)⟩,⟨by (with_reducible repeat (first | apply Kd.R_alloc | apply Kd.R_drewN | apply Kd.R_drew));exact Kd.R_mono (Kd.R_far (p := ⟨gb196,1,none⟩) (Kd.R_far (p := ⟨gb196,0,none⟩) (Kd.R_types HO195.out BK196.out (by decide)) (fun _ hk => hk.2) (.bool (t183 != t188))) (fun _ hk => hk.2) (.slice Ao25 y193.length co25)) (fun _ hk => ⟨hk.1.1,hk.1.2⟩)⟩,⟨by (with_reducible repeat (first | refine blk_drewN ?_ _ | refine blk_drew ?_ | refine blk_alloc ?_ _));refine blk_far ?_ NB182_196.out _;(with_reducible repeat (first | refine blk_drewN ?_ _ | refine blk_drew ?_ | refine blk_alloc ?_ _));refine blk_far ?_ NB182_196.out _;(with_reducible repeat (first | refine blk_drewN ?_ _ | refine blk_drew ?_ | refine blk_alloc ?_ _));exact BK182.out⟩,⟨by (with_reducible repeat (first | refine blk_drewN ?_ _ | refine blk_drew ?_ | refine blk_alloc ?_ _));refine blk_far ?_ NB187_196.out _;(with_reducible repeat (first | refine blk_drewN ?_ _ | refine blk_drew ?_ | refine blk_alloc ?_ _));refine blk_far ?_ NB187_196.out _;(with_reducible repeat (first | refine blk_drewN ?_ _ | refine blk_drew ?_ | refine blk_alloc ?_ _));exact BK187.out⟩,⟨by (with_reducible repeat (first | refine blk_drewN ?_ _ | refine blk_drew ?_ | refine blk_alloc ?_ _));refine blk_far ?_ NB192_196.out _;(with_reducible repeat (first | refine blk_drewN ?_ _ | refine blk_drew ?_ | refine blk_alloc ?_ _));refine blk_far ?_ NB192_196.out _;(with_reducible repeat (first | refine blk_drewN ?_ _ | refine blk_drew ?_ | refine blk_alloc ?_ _));exact BK192.out⟩,⟨by (with_reducible repeat (first | refine blk_drewN ?_ _ | refine blk_drew ?_ | refine blk_alloc ?_ _));refine blk_put (cs := #[.bool (t183 != t188),.slice none 0 0]) ?_ 1 _ rfl;(with_reducible repeat (first | refine blk_drewN ?_ _ | refine blk_drew ?_ | refine blk_alloc ?_ _));refine blk_put (cs := #[.bool false,.slice none 0 0]) ?_ 0 _ rfl;(with_reducible repeat (first | refine blk_drewN ?_ _ | refine blk_drew ?_ | refine blk_alloc ?_ _));exact BK196.out⟩,⟨by repeat (first | (with_reducible first | exact HB.out | apply below_alloc | apply pw_below_drewN | apply below_drew1 | refine below_set ?_ GE182.out | refine below_set ?_ GE187.out | refine below_set ?_ GE192.out | refine below_set ?_ GE196.out) | exact HB.out)⟩⟩
    case round =>
      clear H'
      try clear c1
      try clear p2
      try clear c5
      try clear c5b0
      try clear c5b1
      try clear c6
      try clear c9
      try clear c14
      try clear c15
      try clear c17
      try clear hcz10_0
      try clear hcz10_1
      try clear hcz16_0
      try clear hcz16_1
      try clear hfz10_0
      try clear hfz10_1
      try clear hfz16_0
      try clear hfz16_1
      obtain ⟨x8_1,x188001_1,x193001_1,x197001_1,u188001,u193001,u197001,rfl,HA,HK1,HO_188001,HO_193001,HO_197001,BK182,BK187,BK192,BK196,HB⟩ := hrel
      cases gk with
      | zero => exact absurd HA.out (by simp [verdererref03_Times.l0])
      | succ k1 =>
        have H := HA.out
        clear HA
        simp only [verdererref03_Times.l0] at H
        by_cases c28 : x8_1 < 4
        · rw [if_pos c28] at H
          have c28b0 : decide (x8_1 < 4) = true := decide_eq_true c28
          clear c28
          have H' := Aside0.mk H
          clear H
          go_wp2
          go_loopg [9,10] k1 (fun kq v9 v10 w' => ∃ (x9_2 : Int) (x10_2 : Int) (x188001_2 : List Int) (x193001_2 : List Int) (x197001_2 : List Int) (u188001 : Value) (u193001 : Value) (u197001 : Value),v9 = .int .u64 x9_2 ∧ v10 = .int .i64 x10_2 ∧ Aside0 (verdererref03_Times.l1 kq x8_1 x9_2 x10_2 t183 x188001_2 t188 x193001_2 (t183 != t188) x197001_2 = some (r1,r2)) ∧ Aside0 (kq ≤ k1) ∧ Aside0 (Kd.R (Kd.int .u64) 96 w' w.heap.size (fun k_ => some k_ ≠ (u193001 : Value).ownBlock ∧ some k_ ≠ (u197001 : Value).ownBlock) u188001 x188001_2) ∧ Aside0 (Kd.R (Kd.int .u64) 96 w' w.heap.size (fun k_ => some k_ ≠ (u188001 : Value).ownBlock ∧ some k_ ≠ (u197001 : Value).ownBlock) u193001 x193001_2) ∧ Aside0 (Kd.R (Kd.int .u64) 96 w' w.heap.size (fun k_ => some k_ ≠ (u188001 : Value).ownBlock ∧ some k_ ≠ (u193001 : Value).ownBlock) u197001 x197001_2) ∧ Aside0 (w'.heap[gb182]? = some (.cells #[.bool false,(.slice none 0 0)] 29 (0,0))) ∧ Aside0 (w'.heap[gb187]? = some (.cells #[.bool t183,u188001] 29 (0,0))) ∧ Aside0 (w'.heap[gb192]? = some (.cells #[.bool t188,u193001] 29 (0,0))) ∧ Aside0 (w'.heap[gb196]? = some (.cells #[.bool (t183 != t188),u197001] 29 (0,0))) ∧ Aside0 (Below w.heap.size w w'))
          case atStart => exact ⟨(0),(0),(x188001_1),(x193001_1),(x197001_1),(u188001),(u193001),(u197001),(by first | rfl | (simp;done) | (simp [*];done)),(by first | rfl | (simp;done) | (simp [*];done)),H',⟨Nat.le_refl _⟩,⟨by (with_reducible repeat (first | apply Kd.R_alloc | apply Kd.R_drewN | apply Kd.R_drew));exact HO_188001.out⟩,⟨by (with_reducible repeat (first | apply Kd.R_alloc | apply Kd.R_drewN | apply Kd.R_drew));exact HO_193001.out⟩,⟨by (with_reducible repeat (first | apply Kd.R_alloc | apply Kd.R_drewN | apply Kd.R_drew));exact HO_197001.out⟩,⟨by (with_reducible repeat (first | refine blk_drewN ?_ _ | refine blk_drew ?_ | refine blk_alloc ?_ _));exact BK182.out⟩,⟨by (with_reducible repeat (first | refine blk_drewN ?_ _ | refine blk_drew ?_ | refine blk_alloc ?_ _));exact BK187.out⟩,⟨by (with_reducible repeat (first | refine blk_drewN ?_ _ | refine blk_drew ?_ | refine blk_alloc ?_ _));exact BK192.out⟩,⟨by (with_reducible repeat (first | refine blk_drewN ?_ _ | refine blk_drew ?_ | refine blk_alloc ?_ _));exact BK196.out⟩,⟨by repeat (first | (with_reducible first | exact HB.out | apply below_alloc | apply pw_below_drewN | apply below_drew1 | refine below_set ?_ GE182.out | refine below_set ?_ GE187.out | refine below_set ?_ GE192.out | refine below_set ?_ GE196.out) | exact HB.out)⟩⟩
          case round =>
            clear H'
            try clear c1
            try clear c2
            try clear p2
            try clear c5
            try clear c5b0
            try clear c5b1
            try clear c6
            try clear c9
            try clear c14
            try clear c15
            try clear c17
            try clear c28
            try clear c28b0
            try clear hcz10_0
            try clear hcz10_1
            try clear hcz16_0
            try clear hcz16_1
            try clear hfz10_0
            try clear hfz10_1
            try clear hfz16_0
            try clear hfz16_1
            try clear p2
            obtain ⟨x9_2,x10_2,x188001_2,x193001_2,x197001_2,u188001,u193001,u197001,rfl,rfl,HA,HK2,HO_188001,HO_193001,HO_197001,BK182,BK187,BK192,BK196,HB⟩ := hrel
            cases gk with
            | zero => exact absurd HA.out (by simp [verdererref03_Times.l1])
            | succ k2 =>
              have H := HA.out
              clear HA
              simp only [verdererref03_Times.l1] at H
              by_cases c29 : x10_2 < 12
              · rw [if_pos c29] at H
                have c29b0 : decide (x10_2 < 12) = true := decide_eq_true c29
                clear c29
                obtain ⟨ji30,hji30⟩ : ∃ j_ : Int,(wrap64 (x8_1 + x10_2)) = j_ := ⟨_,rfl⟩
                replace H : (if 0 ≤ (ji30) then (if (ji30) < (x197001_2.length : Int) then ((verdererref03_Big_at.f t183 x188001_2 x8_1).bind fun t198 => ((verdererref03_Big_at.f t188 x193001_2 x10_2).bind fun t199 => (verdererref03_Times.l1 k2 x8_1 (IntKind.u64.wrap (Int.tdiv (IntKind.u64.wrap ((IntKind.u64.wrap ((rd x197001_2 (ji30)) + (IntKind.u64.wrap (t198 * t199)))) + x9_2)) 65536)) (wrap64 (x10_2 + 1)) t183 x188001_2 t188 x193001_2 (t183 != t188) (x197001_2.set ((ji30) : Int).toNat (Int.tmod (IntKind.u64.wrap ((IntKind.u64.wrap ((rd x197001_2 (ji30)) + (IntKind.u64.wrap (t198 * t199)))) + x9_2)) 65536))))) else (none)) else (none)) = some (r1,r2) := by first | (rw [hji30] at H;exact H) | (simp only [hji30] at H ⊢;exact H)
                have hji30w : (IntKind.i64.wrap (x8_1 + x10_2)) = ji30 := (i64_w _).trans hji30
                by_cases c31 : 0 ≤ (ji30)
                · rw [if_pos c31] at H
                  have c31b0 : decide (0 ≤ (ji30)) = true := decide_eq_true c31
                  clear c31
                  by_cases c32 : (ji30) < (x197001_2.length : Int)
                  · rw [if_pos c32] at H
                    have c32b0 : decide ((ji30) < (x197001_2.length : Int)) = true := decide_eq_true c32
                    clear c32
                    replace H := Option.bind_eq_some_iff.mp H
                    obtain ⟨t198,A330,H⟩ := H
                    replace H : ((verdererref03_Big_at.f t188 x193001_2 x10_2).bind fun t199 => (verdererref03_Times.l1 k2 x8_1 (IntKind.u64.wrap (Int.tdiv (IntKind.u64.wrap ((IntKind.u64.wrap ((rd x197001_2 (ji30)) + (IntKind.u64.wrap (t198 * t199)))) + x9_2)) 65536)) (wrap64 (x10_2 + 1)) t183 x188001_2 t188 x193001_2 (t183 != t188) (x197001_2.set ((ji30) : Int).toNat (Int.tmod (IntKind.u64.wrap ((IntKind.u64.wrap ((rd x197001_2 (ji30)) + (IntKind.u64.wrap (t198 * t199)))) + x9_2)) 65536)))) = some (r1,r2) := H
                    have A33 := Aside0.mk A330
                    clear A330
                    replace H := Option.bind_eq_some_iff.mp H
                    obtain ⟨t199,A340,H⟩ := H
                    replace H : (verdererref03_Times.l1 k2 x8_1 (IntKind.u64.wrap (Int.tdiv (IntKind.u64.wrap ((IntKind.u64.wrap ((rd x197001_2 (ji30)) + (IntKind.u64.wrap (t198 * t199)))) + x9_2)) 65536)) (wrap64 (x10_2 + 1)) t183 x188001_2 t188 x193001_2 (t183 != t188) (x197001_2.set ((ji30) : Int).toNat (Int.tmod (IntKind.u64.wrap ((IntKind.u64.wrap ((rd x197001_2 (ji30)) + (IntKind.u64.wrap (t198 * t199)))) + x9_2)) 65536))) = some (r1,r2) := H
                    have A34 := Aside0.mk A340
                    clear A340
                    obtain ⟨y200,hy200⟩ : ∃ y_ : List Int,y_ = (x197001_2.set ((ji30) : Int).toNat (Int.tmod (IntKind.u64.wrap ((IntKind.u64.wrap ((rd x197001_2 (ji30)) + (IntKind.u64.wrap (t198 * t199)))) + x9_2)) 65536)) := ⟨_,rfl⟩
                    replace H : (verdererref03_Times.l1 k2 x8_1 (IntKind.u64.wrap (Int.tdiv (IntKind.u64.wrap ((IntKind.u64.wrap ((rd x197001_2 (ji30)) + (IntKind.u64.wrap (t198 * t199)))) + x9_2)) 65536)) (wrap64 (x10_2 + 1)) t183 x188001_2 t188 x193001_2 (t183 != t188) y200) = some (r1,r2) := by first | (rw [hy200];with_reducible exact H) | (have H2_ := (Option.bind_some _ _).symm.trans H;rw [hy200];with_reducible exact H2_) | (have H2_ := (Option.bind_some _ _).symm.trans H;with_reducible exact H2_) | with_reducible exact H | (rw [hy200];exact H) | exact H
                    have Ny200 := Aside0.mk hy200
                    clear hy200
                    have H' := Aside0.mk H
                    clear H
                    try go_wp2
                    have n0_ := Aside0.mk (Kd.R_drew HO_188001.out)
                    have n1_ := Aside0.mk (Kd.R_drew HO_193001.out)
                    have n2_ := Aside0.mk (Kd.R_drew HO_197001.out)
                    have n3_ := Aside0.mk (blk_drew BK182.out)
                    have n4_ := Aside0.mk (blk_drew BK187.out)
                    have n5_ := Aside0.mk (blk_drew BK192.out)
                    have n6_ := Aside0.mk (blk_drew BK196.out)
                    have n7_ := Aside0.mk (below_drew1 HB.out)
                    clear HO_188001
                    clear HO_193001
                    clear HO_197001
                    clear BK182
                    clear BK187
                    clear BK192
                    clear BK196
                    clear HB
                    have HO_188001 := n0_
                    have HO_193001 := n1_
                    have HO_197001 := n2_
                    have BK182 := n3_
                    have BK187 := n4_
                    have BK192 := n5_
                    have BK196 := n6_
                    have HB := n7_
                    clear n0_ n1_ n2_ n3_ n4_ n5_ n6_ n7_
                    obtain ⟨Ao37,co37,eo37⟩ := Kd.R_slice HO_197001.out
                    (first | subst eo37 | (injection eo37 with f1_ f2_ f3_;have f4_ := f1_.symm;have f5_ := f3_.symm;clear f1_ f2_ f3_;subst f4_;subst f5_))
                    have p197 : 0 ≤ ((ji30) : Int) := of_decide_eq_true (by first | (with_reducible assumption) | assumption)
                    have q197 : (ji30) < (x197001_2.length : Int) := of_decide_eq_true (by first | (with_reducible assumption) | assumption)
                    obtain ⟨ad197,e197,hx197_0⟩ := Kd.at_int (Kd.R_reads' HO_197001.out).2.2 (ji30) p197 q197
                    cases e197
                    replace p197 := eq_true p197
                    replace q197 := eq_true q197
                    obtain ⟨Ao38,co38,eo38⟩ := Kd.R_slice HO_188001.out
                    (first | subst eo38 | (injection eo38 with f1_ f2_ f3_;have f4_ := f1_.symm;have f5_ := f3_.symm;clear f1_ f2_ f3_;subst f4_;subst f5_))
                    refine start_ (n := 18) (S := fun w' => w'.cell? ⟨gb196,0,none⟩ = some (.bool (t183 != t188)) ∧ w'.cell? ⟨gb196,1,none⟩ = some (.slice (some ad197) x197001_2.length co37) ∧ w'.cell? ⟨gb187,0,none⟩ = some (.bool t183) ∧ w'.cell? ⟨gb187,1,none⟩ = some (.slice Ao38 x188001_2.length co38) ∧ w'.cell? ⟨gb192,0,none⟩ = some (.bool t188) ∧ w'.cell? ⟨gb192,1,none⟩ = some (u193001) ∧ w'.cell? (ad197.add ((ji30)).toNat) = some (.int .u64 (rd x197001_2 (ji30)))) (ds := []) #[false,false,false,false,false,false,false,false,false,false,false,false,false,false,false,false,false,false] (by kernel_rfl) rfl rfl ⟨(blk_cell BK196.out 0).trans rfl,(blk_cell BK196.out 1).trans rfl,(blk_cell BK187.out 0).trans rfl,(blk_cell BK187.out 1).trans rfl,(blk_cell BK192.out 0).trans rfl,(blk_cell BK192.out 1).trans rfl,hx197_0⟩ (fun hHeld => ?_);refine with_tabW verdererref03_Times.tab11 verdererref03_Times.bits11 (fun HT_ HW_ => ?_)
                    generalize wr.drew = w36 at HO_188001 HO_193001 HO_197001 BK182 BK187 BK192 BK196 HB hx197_0 hHeld ⊢
                    refine pure_ (i := 0) (N := some 31) (v := ?_) (a' := ?_) #[true,false,false,false,false,false,false,false,false,false,false,false,false,false,false,false,false,false] rfl rfl (any_of HT_.out (by kernel_rfl)) (fun _ _ _ h => h) (Or.inl ⟨by rfl,?_⟩) ?_ ?_
                    rotate_left
                    · intro w'
                      go_simp
                      with_reducible rfl
                    rotate_left
                    · simp only [Act.put,zA,zB,zC,i64_w,i32_w]
                      rfl
                    refine pure_ (i := 2) (N := some 33) (v := ?_) (a' := ?_) #[true,false,true,false,false,false,false,false,false,false,false,false,false,false,false,false,false,false] rfl rfl (any_of HT_.out (by kernel_rfl)) (fun _ _ _ h => h) (Or.inl ⟨by rfl,?_⟩) ?_ ?_
                    rotate_left
                    · intro w'
                      go_simp
                      with_reducible rfl
                    rotate_left
                    · simp only [Act.put,zA,zB,zC,i64_w,i32_w]
                      rfl
                    refine pure_ (i := 3) (N := some 34) (v := ?_) (a' := ?_) #[true,false,true,true,false,false,false,false,false,false,false,false,false,false,false,false,false,false] rfl rfl (any_of HT_.out (by kernel_rfl)) (fun _ _ _ h => h) (Or.inl ⟨by rfl,?_⟩) ?_ ?_
                    rotate_left
                    · intro w'
                      go_simp
                      with_reducible rfl
                    rotate_left
                    · simp only [Act.put,zA,zB,zC,i64_w,i32_w]
                      rfl
                    refine pure_ (i := 4) (N := some 35) (v := ?_) (a' := ?_) #[true,false,true,true,true,false,false,false,false,false,false,false,false,false,false,false,false,false] rfl rfl (any_of HT_.out (by kernel_rfl)) (fun _ _ _ h => h) (Or.inl ⟨by rfl,?_⟩) ?_ ?_
                    rotate_left
                    · intro w'
                      go_simp
                      with_reducible rfl
                    rotate_left
                    · simp only [Act.put,zA,zB,zC,i64_w,i32_w]
                      rfl
                    refine pure_ (i := 8) (N := some 39) (v := ?_) (a' := ?_) #[true,false,true,true,true,false,false,false,true,false,false,false,false,false,false,false,false,false] rfl rfl (any_of HT_.out (by kernel_rfl)) (fun _ _ _ h => h) (Or.inl ⟨by rfl,?_⟩) ?_ ?_
                    rotate_left
                    · intro w'
                      go_simp
                      with_reducible rfl
                    rotate_left
                    · simp only [Act.put,zA,zB,zC,i64_w,i32_w]
                      rfl
                    refine pure_ (i := 11) (N := some 42) (v := ?_) (a' := ?_) #[true,false,true,true,true,false,false,false,true,false,false,true,false,false,false,false,false,false] rfl rfl (any_of HT_.out (by kernel_rfl)) (fun _ _ _ h => h) (Or.inl ⟨by rfl,?_⟩) ?_ ?_
                    rotate_left
                    · intro w'
                      go_simp
                      with_reducible rfl
                    rotate_left
                    · simp only [Act.put,zA,zB,zC,i64_w,i32_w]
                      rfl
                    refine pure_ (i := 15) (N := some 46) (v := ?_) (a' := ?_) #[true,false,true,true,true,false,false,false,true,false,false,true,false,false,false,true,false,false] rfl rfl (any_of HT_.out (by kernel_rfl)) (fun _ _ _ h => h) (Or.inl ⟨by rfl,?_⟩) ?_ ?_
                    rotate_left
                    · intro w'
                      go_simp
                      with_reducible rfl
                    rotate_left
                    · simp only [Act.put,zA,zB,zC,i64_w,i32_w]
                      rfl
                    refine take_ (i := 1) (N := some 32) (v := ?_) (a' := ?_) #[true,true,true,true,true,false,false,false,true,false,false,true,false,false,false,true,false,false] rfl rfl (take_ofW HT_.out HW_.out (by kernel_rfl)) (fun _ _ _ h => h) (Or.inl ⟨by rfl,?_⟩) hHeld ?_ ?_
                    rotate_left
                    · rintro w' ⟨s0,s1,s2,s3,s4,s5,s6⟩
                      go_simp
                      with_reducible rfl
                    rotate_left
                    · simp only [Act.put,zA,zB,zC,i64_w,i32_w]
                      rfl
                    refine pure_ (i := 5) (N := some 36) (v := ?_) (a' := ?_) #[true,true,true,true,true,true,false,false,true,false,false,true,false,false,false,true,false,false] rfl rfl (any_of HT_.out (by kernel_rfl)) (fun _ _ _ h => h) (Or.inl ⟨by rfl,?_⟩) ?_ ?_
                    rotate_left
                    · intro w'
                      go_simp
                      with_reducible rfl
                    rotate_left
                    · simp only [Act.put,zA,zB,zC,i64_w,i32_w]
                      rfl
                    refine take_ (i := 6) (N := some 37) (v := ?_) (a' := ?_) #[true,true,true,true,true,true,true,false,true,false,false,true,false,false,false,true,false,false] rfl rfl (take_ofW HT_.out HW_.out (by kernel_rfl)) (fun _ _ _ h => h) (Or.inl ⟨by rfl,?_⟩) hHeld ?_ ?_
                    rotate_left
                    · rintro w' ⟨s0,s1,s2,s3,s4,s5,s6⟩
                      go_simp
                      with_reducible rfl
                    rotate_left
                    · simp only [Act.put,zA,zB,zC,i64_w,i32_w]
                      rfl
                    refine take_ (i := 7) (N := some 38) (v := ?_) (a' := ?_) #[true,true,true,true,true,true,true,true,true,false,false,true,false,false,false,true,false,false] rfl rfl (take_ofW HT_.out HW_.out (by kernel_rfl)) (fun _ _ _ h => h) (Or.inl ⟨by rfl,?_⟩) hHeld ?_ ?_
                    rotate_left
                    · rintro w' ⟨s0,s1,s2,s3,s4,s5,s6⟩
                      go_simp
                      with_reducible rfl
                    rotate_left
                    · simp only [Act.put,zA,zB,zC,i64_w,i32_w]
                      rfl
                    refine take_ (i := 10) (N := some 41) (v := ?_) (a' := ?_) #[true,true,true,true,true,true,true,true,true,false,true,true,false,false,false,true,false,false] rfl rfl (take_ofW HT_.out HW_.out (by kernel_rfl)) (fun _ _ _ h => h) (Or.inl ⟨by rfl,?_⟩) hHeld ?_ ?_
                    rotate_left
                    · rintro w' ⟨s0,s1,s2,s3,s4,s5,s6⟩
                      go_simp
                      with_reducible rfl
                    rotate_left
                    · simp only [Act.put,zA,zB,zC,i64_w,i32_w]
                      rfl
                    refine one_ (i := 9) (N := some 40) #[true,true,true,true,true,true,true,true,true,true,true,true,false,false,false,true,false,false] rfl rfl (one_of HT_.out (by kernel_rfl)) (by decide) (fun K hK => ?_)
                    refine goes_ Try.func60 (by kernel_rfl) rfl #[.agg #[.bool t183,.slice Ao38 x188001_2.length co38],.int .i64 x8_1] (by rfl) rfl rfl (by (try simp only [List.map_toArray,List.map_cons,List.map_nil]);first | done | rfl | (simp only [List.length_drop,List.length_take];rfl)) ?_
                    with_reducible refine (verdererref03_Big_at.calls t183 _ _ x188001_2 x8_1 t198 _ ?side1 ?side2 A33.out).mono ?_
                    (case side1 => repeat (first | exact (Kd.R_reads' HO_188001.out).2.2 | (with_reducible refine Kd.C_alloc ?_ _) | (with_reducible refine Kd.C_drewN ?_ _) | (with_reducible refine Kd.C_drew ?_)))
                    (case side2 => exact (Kd.R_reads' HO_188001.out).2.1)
                    rintro e w39 ⟨rfl,hb⟩
                    have HS6_ := (hb.cell (World.block_lt_of_cell? _ _ (hHeld.2.2.2.2.2.2))).trans (hHeld.2.2.2.2.2.2)
                    refine ⟨_,rfl,?_⟩
                    have n0_ := Aside0.mk (Kd.R_below (by (with_reducible repeat (first | apply Kd.R_alloc | apply Kd.R_drewN | apply Kd.R_drew));exact HO_188001.out) hb)
                    have n1_ := Aside0.mk (Kd.R_below (by (with_reducible repeat (first | apply Kd.R_alloc | apply Kd.R_drewN | apply Kd.R_drew));exact HO_193001.out) hb)
                    have n2_ := Aside0.mk (Kd.R_below (by (with_reducible repeat (first | apply Kd.R_alloc | apply Kd.R_drewN | apply Kd.R_drew));exact HO_197001.out) hb)
                    have n3_ := Aside0.mk (blk_below (g := gb182) (o := .cells #[.bool false,.slice none 0 0] 29 (0,0)) (by (with_reducible repeat (first | refine blk_drewN ?_ _ | refine blk_drew ?_ | refine blk_alloc ?_ _));exact BK182.out) hb)
                    have n4_ := Aside0.mk (blk_below (g := gb187) (o := .cells #[.bool t183,.slice Ao38 x188001_2.length co38] 29 (0,0)) (by (with_reducible repeat (first | refine blk_drewN ?_ _ | refine blk_drew ?_ | refine blk_alloc ?_ _));exact BK187.out) hb)
                    have n5_ := Aside0.mk (blk_below (g := gb192) (o := .cells #[.bool t188,u193001] 29 (0,0)) (by (with_reducible repeat (first | refine blk_drewN ?_ _ | refine blk_drew ?_ | refine blk_alloc ?_ _));exact BK192.out) hb)
                    have n6_ := Aside0.mk (blk_below (g := gb196) (o := .cells #[.bool (t183 != t188),.slice (some ad197) x197001_2.length co37] 29 (0,0)) (by (with_reducible repeat (first | refine blk_drewN ?_ _ | refine blk_drew ?_ | refine blk_alloc ?_ _));exact BK196.out) hb)
                    have n7_ := Aside0.mk (below_step (by repeat (first | (with_reducible first | exact HB.out | apply below_alloc | apply pw_below_drewN | apply below_drew1 | refine below_set ?_ GE182.out | refine below_set ?_ GE187.out | refine below_set ?_ GE192.out | refine below_set ?_ GE196.out) | exact HB.out)) hb)
                    clear HO_188001
                    clear HO_193001
                    clear HO_197001
                    clear BK182
                    clear BK187
                    clear BK192
                    clear BK196
                    clear HB
                    have HO_188001 := n0_
                    have HO_193001 := n1_
                    have HO_197001 := n2_
                    have BK182 := n3_
                    have BK187 := n4_
                    have BK192 := n5_
                    have BK196 := n6_
                    have HB := n7_
                    clear n0_ n1_ n2_ n3_ n4_ n5_ n6_ n7_
                    (try clear hb)
                    (try clear hb2)
                    (try clear hk)
                    (try clear hi)
                    obtain ⟨Ao40,co40,eo40⟩ := Kd.R_slice HO_193001.out
                    (first | subst eo40 | (injection eo40 with f1_ f2_ f3_;have f4_ := f1_.symm;have f5_ := f3_.symm;clear f1_ f2_ f3_;subst f4_;subst f5_))
                    refine hK.out _ _ ⟨(blk_cell BK196.out 0).trans rfl,(blk_cell BK196.out 1).trans rfl,(blk_cell BK187.out 0).trans rfl,(blk_cell BK187.out 1).trans rfl,(blk_cell BK192.out 0).trans rfl,(blk_cell BK192.out 1).trans rfl,HS6_⟩ (fun hHeld => ?_)
                    clear hK K
                    refine norm_ (a' := ?_) ?_ ?_
                    rotate_left
                    · show Act.put _ (some 40) _ = _
                      simp only [Act.put,zA,zB,zC,i64_w,i32_w]
                      rfl
                    refine one_ (i := 12) (N := some 43) #[true,true,true,true,true,true,true,true,true,true,true,true,true,false,false,true,false,false] rfl rfl (one_of HT_.out (by kernel_rfl)) (by decide) (fun K hK => ?_)
                    refine goes_ Try.func60 (by kernel_rfl) rfl #[.agg #[.bool t188,.slice Ao40 x193001_2.length co40],.int .i64 x10_2] (by rfl) rfl rfl (by (try simp only [List.map_toArray,List.map_cons,List.map_nil]);first | done | rfl | (simp only [List.length_drop,List.length_take];rfl)) ?_
                    with_reducible refine (verdererref03_Big_at.calls t188 _ _ x193001_2 x10_2 t199 _ ?side1 ?side2 A34.out).mono ?_
                    (case side1 => repeat (first | exact (Kd.R_reads' HO_193001.out).2.2 | (with_reducible refine Kd.C_alloc ?_ _) | (with_reducible refine Kd.C_drewN ?_ _) | (with_reducible refine Kd.C_drew ?_)))
                    (case side2 => exact (Kd.R_reads' HO_193001.out).2.1)
                    rintro e w41 ⟨rfl,hb⟩
                    have HS6_ := (hb.cell (World.block_lt_of_cell? _ _ (hHeld.2.2.2.2.2.2))).trans (hHeld.2.2.2.2.2.2)
                    refine ⟨_,rfl,?_⟩
                    have n0_ := Aside0.mk (Kd.R_below (by (with_reducible repeat (first | apply Kd.R_alloc | apply Kd.R_drewN | apply Kd.R_drew));exact HO_188001.out) hb)
                    have n1_ := Aside0.mk (Kd.R_below (by (with_reducible repeat (first | apply Kd.R_alloc | apply Kd.R_drewN | apply Kd.R_drew));exact HO_193001.out) hb)
                    have n2_ := Aside0.mk (Kd.R_below (by (with_reducible repeat (first | apply Kd.R_alloc | apply Kd.R_drewN | apply Kd.R_drew));exact HO_197001.out) hb)
                    have n3_ := Aside0.mk (blk_below (g := gb182) (o := .cells #[.bool false,.slice none 0 0] 29 (0,0)) (by (with_reducible repeat (first | refine blk_drewN ?_ _ | refine blk_drew ?_ | refine blk_alloc ?_ _));exact BK182.out) hb)
                    have n4_ := Aside0.mk (blk_below (g := gb187) (o := .cells #[.bool t183,.slice Ao38 x188001_2.length co38] 29 (0,0)) (by (with_reducible repeat (first | refine blk_drewN ?_ _ | refine blk_drew ?_ | refine blk_alloc ?_ _));exact BK187.out) hb)
                    have n5_ := Aside0.mk (blk_below (g := gb192) (o := .cells #[.bool t188,.slice Ao40 x193001_2.length co40] 29 (0,0)) (by (with_reducible repeat (first | refine blk_drewN ?_ _ | refine blk_drew ?_ | refine blk_alloc ?_ _));exact BK192.out) hb)
                    have n6_ := Aside0.mk (blk_below (g := gb196) (o := .cells #[.bool (t183 != t188),.slice (some ad197) x197001_2.length co37] 29 (0,0)) (by (with_reducible repeat (first | refine blk_drewN ?_ _ | refine blk_drew ?_ | refine blk_alloc ?_ _));exact BK196.out) hb)
                    have n7_ := Aside0.mk (below_step (by repeat (first | (with_reducible first | exact HB.out | apply below_alloc | apply pw_below_drewN | apply below_drew1 | refine below_set ?_ GE182.out | refine below_set ?_ GE187.out | refine below_set ?_ GE192.out | refine below_set ?_ GE196.out) | exact HB.out)) hb)
                    clear HO_188001
                    clear HO_193001
                    clear HO_197001
                    clear BK182
                    clear BK187
                    clear BK192
                    clear BK196
                    clear HB
                    have HO_188001 := n0_
                    have HO_193001 := n1_
                    have HO_197001 := n2_
                    have BK182 := n3_
                    have BK187 := n4_
                    have BK192 := n5_
                    have BK196 := n6_
                    have HB := n7_
                    clear n0_ n1_ n2_ n3_ n4_ n5_ n6_ n7_
                    (try clear hb)
                    (try clear hb2)
                    (try clear hk)
                    (try clear hi)
                    refine hK.out _ _ ⟨(blk_cell BK196.out 0).trans rfl,(blk_cell BK196.out 1).trans rfl,(blk_cell BK187.out 0).trans rfl,(blk_cell BK187.out 1).trans rfl,(blk_cell BK192.out 0).trans rfl,(blk_cell BK192.out 1).trans rfl,HS6_⟩ (fun hHeld => ?_)
                    clear hK K
                    refine norm_ (a' := ?_) ?_ ?_
                    rotate_left
                    · show Act.put _ (some 43) _ = _
                      simp only [Act.put,zA,zB,zC,i64_w,i32_w]
                      rfl
                    refine pure_ (i := 13) (N := some 44) (v := ?_) (a' := ?_) #[true,true,true,true,true,true,true,true,true,true,true,true,true,true,false,true,false,false] rfl rfl (any_of HT_.out (by kernel_rfl)) (fun _ _ _ h => h) (Or.inl ⟨by rfl,?_⟩) ?_ ?_
                    rotate_left
                    · intro w'
                      go_simp
                      with_reducible rfl
                    rotate_left
                    · simp only [Act.put,zA,zB,zC,i64_w,i32_w]
                      rfl
                    refine pure_ (i := 14) (N := some 45) (v := ?_) (a' := ?_) #[true,true,true,true,true,true,true,true,true,true,true,true,true,true,true,true,false,false] rfl rfl (any_of HT_.out (by kernel_rfl)) (fun _ _ _ h => h) (Or.inl ⟨by rfl,?_⟩) ?_ ?_
                    rotate_left
                    · intro w'
                      go_simp
                      with_reducible rfl
                    rotate_left
                    · simp only [Act.put,zA,zB,zC,i64_w,i32_w]
                      rfl
                    refine pure_ (i := 16) (N := some 47) (v := ?_) (a' := ?_) #[true,true,true,true,true,true,true,true,true,true,true,true,true,true,true,true,true,false] rfl rfl (any_of HT_.out (by kernel_rfl)) (fun _ _ _ h => h) (Or.inl ⟨by rfl,?_⟩) ?_ ?_
                    rotate_left
                    · intro w'
                      go_simp
                      with_reducible rfl
                    rotate_left
                    · simp only [Act.put,zA,zB,zC,i64_w,i32_w]
                      rfl
                    refine pure_ (i := 17) (N := some 11) (v := ?_) (a' := ?_) #[true,true,true,true,true,true,true,true,true,true,true,true,true,true,true,true,true,true] rfl rfl (any_of HT_.out (by kernel_rfl)) (fun _ _ _ h => h) (Or.inl ⟨by rfl,?_⟩) ?_ ?_
                    rotate_left
                    · intro w'
                      go_simp
                      with_reducible rfl
                    rotate_left
                    · simp only [Act.put,zA,zB,zC,i64_w,i32_w]
                      rfl
                    refine done_ (done_of HT_.out (by kernel_rfl)) ?_
                    have hnb42 := NB196_182.out
                    have hnc42 := NB182_196.out
                    have hnb43 := NB196_187.out
                    have hnc43 := NB187_196.out
                    have hnb44 := NB196_192.out
                    have hnc44 := NB192_196.out
                    have hcz45_0 : w41.cell? ⟨gb196,0,none⟩ = some (.bool (t183 != t188)) := (blk_cell BK196.out 0).trans rfl
                    have hcz45_1 : w41.cell? ⟨gb196,1,none⟩ = some (.slice (some ad197) x197001_2.length co37) := (blk_cell BK196.out 1).trans rfl
                    have hfz45_0 := blk_frozen BK196.out 0
                    have hfz45_1 := blk_frozen BK196.out 1
                    have p35 : 0 ≤ ((ji30) : Int) := of_decide_eq_true (by first | (with_reducible assumption) | assumption)
                    have q35 : ((ji30) : Int) < ((x197001_2.length : Int) : Int) := of_decide_eq_true (by first | (with_reducible assumption) | assumption)
                    obtain ⟨go35,co35,eo35,gb35,gl35,cl35,HG35⟩ := Kd.R_form HO_197001.out (by omega)
                    (first | cases eo35 | (injection eo35 with ea_ en_ ec_;(first | subst ea_ | (injection ea_ with ea_;subst ea_));subst ec_;clear en_))
                    have GB35 := Aside0.mk gb35
                    have GG35 := Aside0.mk HG35
                    clear gb35 gl35 HG35
                    (first | simp only [add_plain] at hx197_0 | skip)
                    obtain ⟨hx35_0,hf35_0⟩ := Kd.R_celln 0 HO_197001.out ((ji30) : Int) p35 q35
                    replace p35 := eq_true p35
                    replace q35 := eq_true q35
                    obtain ⟨hy46_,hz46_⟩ := Kd.R_celln 0 HO_197001.out ((ji30) : Int) (of_decide_eq_true (by first | (with_reducible assumption) | assumption)) (of_decide_eq_true (by first | (with_reducible assumption) | assumption))
                    have HP46 := Kd.R_putg HO_197001.out ((ji30) : Int) (Int.tmod (IntKind.u64.wrap ((IntKind.u64.wrap ((rd x197001_2 (ji30)) + (IntKind.u64.wrap (t198 * t199)))) + x9_2)) 65536)
                    try go_wp2_with (first | ((with_reducible refine gate_store (t := 96) (p := 55) rfl ?_);refine store_event (t := 96) (p := 55) (v := ?vo_w47) (w1 := (w41.setCell ⟨go35,((ji30) : Int).toNat,none⟩ (.int .u64 (Int.tmod (IntKind.u64.wrap ((IntKind.u64.wrap ((rd x197001_2 (ji30)) + (IntKind.u64.wrap (t198 * t199)))) + x9_2)) 65536)))) ?hg ?ho ?hn ?hr ?_;(case ho => rfl);(case hg => rfl);(case hn => rfl);(case hr => first | (go_simp;done) | (go_simp;rfl));intro w47 hw;have hg : w41.grownBy w47 (some go35) := (by rw [hw];exact HP46.2);have hp_ : Kd.R (Kd.int .u64) 96 w47 w.heap.size (fun k_ => some k_ ≠ (.slice Ao38 x188001_2.length co38 : Value).ownBlock ∧ some k_ ≠ (.slice Ao40 x193001_2.length co40 : Value).ownBlock) (.slice (some ⟨go35,0,none⟩) x197001_2.length co37) y200 := (by rw [hw,Ny200.out];exact HP46.1);clear HP46;have n0_ := Aside0.mk (Kd.R_after (v := (.slice (some ⟨go35,0,none⟩) x197001_2.length co37)) (v1 := (.slice (some ⟨go35,0,none⟩) x197001_2.length co37)) (ok := (fun k_ => some k_ ≠ (.slice Ao40 x193001_2.length co40 : Value).ownBlock)) (by (with_reducible repeat (first | apply Kd.R_alloc | apply Kd.R_drewN | apply Kd.R_drew));exact HO_188001.out) hg (.inl rfl));have n1_ := Aside0.mk (Kd.R_after (v := (.slice (some ⟨go35,0,none⟩) x197001_2.length co37)) (v1 := (.slice (some ⟨go35,0,none⟩) x197001_2.length co37)) (ok := (fun k_ => some k_ ≠ (.slice Ao38 x188001_2.length co38 : Value).ownBlock)) (by (with_reducible repeat (first | apply Kd.R_alloc | apply Kd.R_drewN | apply Kd.R_drew));exact HO_193001.out) hg (.inl rfl));have n2_ := Aside0.mk (hp_);have n3_ := Aside0.mk (blk_grown (g := gb182) (o := .cells #[.bool false,.slice none 0 0] 29 (0,0)) (by (with_reducible repeat (first | refine blk_drewN ?_ _ | refine blk_drew ?_ | refine blk_alloc ?_ _));exact BK182.out) hg (Kd.R_ne HO_197001.out BK182.out (by decide)));have n4_ := Aside0.mk (blk_grown (g := gb187) (o := .cells #[.bool t183,.slice Ao38 x188001_2.length co38] 29 (0,0)) (by (with_reducible repeat (first | refine blk_drewN ?_ _ | refine blk_drew ?_ | refine blk_alloc ?_ _));exact BK187.out) hg (Kd.R_ne HO_197001.out BK187.out (by decide)));have n5_ := Aside0.mk (blk_grown (g := gb192) (o := .cells #[.bool t188,.slice Ao40 x193001_2.length co40] 29 (0,0)) (by (with_reducible repeat (first | refine blk_drewN ?_ _ | refine blk_drew ?_ | refine blk_alloc ?_ _));exact BK192.out) hg (Kd.R_ne HO_197001.out BK192.out (by decide)));have n6_ := Aside0.mk (blk_grown (g := gb196) (o := .cells #[.bool (t183 != t188),.slice (some ⟨go35,0,none⟩) x197001_2.length co37] 29 (0,0)) (by (with_reducible repeat (first | refine blk_drewN ?_ _ | refine blk_drew ?_ | refine blk_alloc ?_ _));exact BK196.out) hg (Kd.R_ne HO_197001.out BK196.out (by decide)));have n7_ := Aside0.mk ((by rw [hw];exact below_set (HB.out) GB35.out : Below w.heap.size w w47));clear HO_188001;clear HO_193001;clear HO_197001;clear BK182;clear BK187;clear BK192;clear BK196;clear HB;have HO_188001 := n0_;have HO_193001 := n1_;have HO_197001 := n2_;have BK182 := n3_;have BK187 := n4_;have BK192 := n5_;have BK196 := n6_;have HB := n7_;clear n0_ n1_ n2_ n3_ n4_ n5_ n6_ n7_;clear hg hw hp_))
                    go_roundg k2
                    case measure => have := HK1.out;have := HK2.out;omega
                    case rel => exact ⟨(IntKind.u64.wrap (Int.tdiv (IntKind.u64.wrap ((IntKind.u64.wrap ((rd x197001_2 (ji30)) + (IntKind.u64.wrap (t198 * t199)))) + x9_2)) 65536)),(wrap64 (x10_2 + 1)),(x188001_2),(x193001_2),(y200),(.slice Ao38 x188001_2.length co38),(.slice Ao40 x193001_2.length co40),(.slice (some ⟨go35,0,none⟩) x197001_2.length co37),(by first | rfl | (simp;done) | (simp only [← hji30] <;> (first | rfl | simp)) | (simp [*];done)),(by first | rfl | (simp;done) | (simp [*];done)),H',⟨by have := HK1.out;have := HK2.out;omega⟩,⟨by (with_reducible repeat (first | apply Kd.R_alloc | apply Kd.R_drewN | apply Kd.R_drew));exact HO_188001.out⟩,⟨by (with_reducible repeat (first | apply Kd.R_alloc | apply Kd.R_drewN | apply Kd.R_drew));exact HO_193001.out⟩,⟨by (with_reducible repeat (first | apply Kd.R_alloc | apply Kd.R_drewN | apply Kd.R_drew));exact HO_197001.out⟩,⟨by (with_reducible repeat (first | refine blk_drewN ?_ _ | refine blk_drew ?_ | refine blk_alloc ?_ _));exact BK182.out⟩,⟨by (with_reducible repeat (first | refine blk_drewN ?_ _ | refine blk_drew ?_ | refine blk_alloc ?_ _));exact BK187.out⟩,⟨by (with_reducible repeat (first | refine blk_drewN ?_ _ | refine blk_drew ?_ | refine blk_alloc ?_ _));exact BK192.out⟩,⟨by (with_reducible repeat (first | refine blk_drewN ?_ _ | refine blk_drew ?_ | refine blk_alloc ?_ _));exact BK196.out⟩,⟨by repeat (first | (with_reducible first | exact HB.out | apply below_alloc | apply pw_below_drewN | apply below_drew1 | refine below_set ?_ GE182.out | refine below_set ?_ GE187.out | refine below_set ?_ GE192.out | refine below_set ?_ GE196.out) | exact HB.out)⟩⟩
                  · rw [if_neg c32] at H
                    exact absurd H (by simp)
                · rw [if_neg c31] at H
                  exact absurd H (by simp)
              · rw [if_neg c29] at H
                have c29b0 : decide (x10_2 < 12) = false := decide_eq_false c29
                clear c29
                have H' := Aside0.mk H
                clear H
                go_wp2
                go_roundg k2
                case measure => have := HK1.out;have := HK2.out;omega
                case rel => exact ⟨(wrap64 (x8_1 + 1)),(x188001_2),(x193001_2),(x197001_2),(u188001),(u193001),(u197001),(by first | rfl | (simp;done) | (simp [*];done)),H',⟨by have := HK1.out;have := HK2.out;omega⟩,⟨by (with_reducible repeat (first | apply Kd.R_alloc | apply Kd.R_drewN | apply Kd.R_drew));exact HO_188001.out⟩,⟨by (with_reducible repeat (first | apply Kd.R_alloc | apply Kd.R_drewN | apply Kd.R_drew));exact HO_193001.out⟩,⟨by (with_reducible repeat (first | apply Kd.R_alloc | apply Kd.R_drewN | apply Kd.R_drew));exact HO_197001.out⟩,⟨by (with_reducible repeat (first | refine blk_drewN ?_ _ | refine blk_drew ?_ | refine blk_alloc ?_ _));exact BK182.out⟩,⟨by (with_reducible repeat (first | refine blk_drewN ?_ _ | refine blk_drew ?_ | refine blk_alloc ?_ _));exact BK187.out⟩,⟨by (with_reducible repeat (first | refine blk_drewN ?_ _ | refine blk_drew ?_ | refine blk_alloc ?_ _));exact BK192.out⟩,⟨by (with_reducible repeat (first | refine blk_drewN ?_ _ | refine blk_drew ?_ | refine blk_alloc ?_ _));exact BK196.out⟩,⟨by repeat (first | (with_reducible first | exact HB.out | apply below_alloc | apply pw_below_drewN | apply below_drew1 | refine below_set ?_ GE182.out | refine below_set ?_ GE187.out | refine below_set ?_ GE192.out | refine below_set ?_ GE196.out) | exact HB.out)⟩⟩
        · rw [if_neg c28] at H
          have c28b0 : decide (x8_1 < 4) = false := decide_eq_false c28
          clear c28
          simp only [Option.some.injEq,Prod.mk.injEq] at H
          obtain ⟨rfl,rfl⟩ := H
          have hnb48 := NB196_182.out
          have hnc48 := NB182_196.out
          have hnb49 := NB196_187.out
          have hnc49 := NB187_196.out
          have hnb50 := NB196_192.out
          have hnc50 := NB192_196.out
          have hcz51_0 : wr.cell? ⟨gb196,0,none⟩ = some (.bool (t183 != t188)) := (blk_cell BK196.out 0).trans rfl
          have hcz51_1 : wr.cell? ⟨gb196,1,none⟩ = some (u197001) := (blk_cell BK196.out 1).trans rfl
          have hfz51_0 := blk_frozen BK196.out 0
          have hfz51_1 := blk_frozen BK196.out 1
          have hnb52 := NB182_187.out
          have hnc52 := NB187_182.out
          have hnb53 := NB182_192.out
          have hnc53 := NB192_182.out
          have hcz54_0 : wr.cell? ⟨gb182,0,none⟩ = some (.bool false) := (blk_cell BK182.out 0).trans rfl
          have hcz54_1 : wr.cell? ⟨gb182,1,none⟩ = some (.slice none 0 0) := (blk_cell BK182.out 1).trans rfl
          have hfz54_0 := blk_frozen BK182.out 0
          have hfz54_1 := blk_frozen BK182.out 1
          obtain ⟨Ao55,co55,eo55⟩ := Kd.R_slice HO_197001.out
          subst eo55
          go_wp2
          refine bodyPost_ret (results_cell_row rfl _ _ gb182 29 #[.bool (t183 != t188),.slice Ao55 x197001_1.length co55] (0,0) _ rfl (by (with_reducible repeat (first | refine blk_drewN ?_ _ | refine blk_drew ?_ | refine blk_alloc ?_ _));refine blk_put (cs := #[.bool (t183 != t188),.slice none 0 0]) ?_ 1 _ rfl;(with_reducible repeat (first | refine blk_drewN ?_ _ | refine blk_drew ?_ | refine blk_alloc ?_ _));refine blk_put (cs := #[.bool false,.slice none 0 0]) ?_ 0 _ rfl;(with_reducible repeat (first | refine blk_drewN ?_ _ | refine blk_drew ?_ | refine blk_alloc ?_ _));exact BK182.out) Try.underlying29 rfl (by kernel_rfl)) rfl ?_
          exact ⟨_,by first | rfl | (simp [errW_none,errW_some] <;> rfl) | (simp [*,errW_none,errW_some] <;> rfl),by (with_reducible repeat (first | apply Kd.R_alloc | apply Kd.R_drewN | apply Kd.R_drew));exact Kd.R_mono (Kd.R_far (p := ⟨gb182,1,none⟩) (Kd.R_far (p := ⟨gb182,0,none⟩) (Kd.R_types HO_197001.out BK182.out (by decide)) (fun _ hk => hk.2) (.bool (t183 != t188))) (fun _ hk => hk.2) (.slice Ao55 x197001_1.length co55)) (fun _ hk => trivial),by repeat (first | (with_reducible first | exact HB.out | apply below_alloc | apply pw_below_drewN | apply below_drew1 | refine below_set ?_ GE182.out | refine below_set ?_ GE187.out | refine below_set ?_ GE192.out | refine below_set ?_ GE196.out) | exact HB.out)⟩
  · rw [if_neg c5] at H
    exact absurd H (by simp)
end Go.Proofs.Ytcenlehfbgnphaa.Z
end
section
namespace Go.Proofs.Ytcenlehfbgnphaa.Z
open Go.RowKit Go.Proofs.YtcenlehfbgnphaaW.PrintWords Go.Proofs.YtcenlehfbgnphaaW.PrintLast Go.Proofs.YtcenlehfbgnphaaW.PrintMore
attribute [local go_sem] max2_int min2_int max_two min_two max_three min_three max_four min_four
set_option linter.unusedVariables false
set_option linter.unusedSimpArgs false
def verdererref03_Mul.f (k : Nat) (a0 : Int) (a1 : Int) : Option (Int × Int) := (verdererref03_Times.f k a0 a1).bind fun bt201 => ((verdererref03_Big_Value.f k bt201.1 bt201.2).bind fun bt205 => (some (bt205.1,bt205.2)))
theorem verdererref03_Mul.mono : ∀ a0 a1 k,LeO (verdererref03_Mul.f k a0 a1) (verdererref03_Mul.f (k + 1) a0 a1) := by
  intro a0 a1 k
  unfold verdererref03_Mul.f
  repeat' first
      | (with_reducible exact verdererref03_Big_Value.mono _ _ _)
      | (with_reducible exact verdererref03_Times.mono _ _ _)
      | (with_reducible exact LeO.refl _)
      | (with_reducible exact LeO.none _)
      | (with_reducible refine LeO.ite ?_ ?_)
      | (with_reducible refine LeO.bind ?_ (fun _ => ?_))
      | exact verdererref03_Big_Value.mono _ _ _
      | exact verdererref03_Times.mono _ _ _
      | exact LeO.none _
      | refine LeO.ite ?_ ?_
      | refine LeO.bind ?_ (fun _ => ?_)
set_option maxHeartbeats 8000000 in
set_option maxRecDepth 100000 in
theorem verdererref03_Mul.calls (k : Nat) (a0 : Int) (a1 : Int) (r1 : Int) (r2 : Int) (w : World) (h : verdererref03_Mul.f k a0 a1 = some (r1,r2)) :
    Calls Try.prog 28 #[.int .i64 a0,.int .i64 a1] w fun e w' => e = .returned (.tuple #[.int .i64 r1,.int .i64 r2]) ∧ Below w.heap.size w w' := by
  have HB := Aside0.mk (Below.refl w.heap.size w)
  have H : ((verdererref03_Times.f k a0 a1).bind fun bt201 => ((verdererref03_Big_Value.f k bt201.1 bt201.2).bind fun bt205 => (some (bt205.1,bt205.2)))) = some (r1,r2) := h
  clear h
  replace H := Option.bind_eq_some_iff.mp H
  obtain ⟨⟨t201,t202⟩,A30,H⟩ := H
  replace H : ((verdererref03_Big_Value.f k t201 t202).bind fun bt205 => (some (bt205.1,bt205.2))) = some (r1,r2) := H
  have A3 := Aside0.mk A30
  clear A30
  replace H := Option.bind_eq_some_iff.mp H
  obtain ⟨⟨t205,t206⟩,A40,H⟩ := H
  replace H : (some (t205,t206)) = some (r1,r2) := H
  have A4 := Aside0.mk A40
  clear A40
  simp only [Option.some.injEq,Prod.mk.injEq] at H
  obtain ⟨rfl,rfl⟩ := H
  go_enter Try.func28,Try.ntmps28
  go_wp2_with (first | ((with_reducible refine gate_callee (f := 17) rfl ?_);refine goesL_ (some 8) rfl rfl Try.func17 (by kernel_rfl) rfl #[.int .i64 a0,.int .i64 a1] rfl (by (try simp only [List.map_toArray,List.map_cons,List.map_nil]);first | done | rfl | (simp only [List.length_drop,List.length_take];rfl)) ?_;(with_reducible refine (verdererref03_Times.calls k a0 a1 t201 t202 _ A3.out).mono ?_);rintro e w5 ⟨v203,rfl,ho0,hb⟩;refine ⟨_,rfl,?_⟩;have n0_ := Aside0.mk (Kd.R_lower ho0 (below_size (by repeat (first | (with_reducible first | exact HB.out | apply below_alloc | apply pw_below_drewN | apply below_drew1) | exact HB.out))));have n1_ := Aside0.mk (below_step (by repeat (first | (with_reducible first | exact HB.out | apply below_alloc | apply pw_below_drewN | apply below_drew1) | exact HB.out)) hb);clear HB;have HO204 := n0_;have HB := n1_;clear n0_ n1_;(try clear hb);(try clear hb2);(try clear hk);(try clear hi);(try clear ho0);obtain ⟨Ao6,co6,eo6⟩ := Kd.R_slice HO204.out;subst eo6) | ((with_reducible refine gate_callee (f := 19) rfl ?_);refine goesL_ (some 9) rfl rfl Try.func19 (by kernel_rfl) rfl #[.agg #[.bool t201,.slice Ao6 t202.length co6]] rfl (by (try simp only [List.map_toArray,List.map_cons,List.map_nil]);first | done | rfl | (simp only [List.length_drop,List.length_take];rfl)) ?_;(with_reducible refine (verdererref03_Big_Value.calls k t201 _ _ t202 t205 t206 _ ?side1 ?side2 A4.out).mono ?_);(case side1 => repeat (first | exact (Kd.R_reads' HO204.out).2.2 | (with_reducible refine Kd.C_alloc ?_ _) | (with_reducible refine Kd.C_drewN ?_ _) | (with_reducible refine Kd.C_drew ?_)));(case side2 => exact (Kd.R_reads' HO204.out).2.1);rintro e w7 ⟨rfl,hb⟩;refine ⟨_,rfl,?_⟩;have n0_ := Aside0.mk (Kd.R_below (by (with_reducible repeat (first | apply Kd.R_alloc | apply Kd.R_drewN | apply Kd.R_drew));exact HO204.out) hb);have n1_ := Aside0.mk (below_step (by repeat (first | (with_reducible first | exact HB.out | apply below_alloc | apply pw_below_drewN | apply below_drew1) | exact HB.out)) hb);clear HO204;clear HB;have HO204 := n0_;have HB := n1_;clear n0_ n1_;(try clear hb);(try clear hb2);(try clear hk);(try clear hi)))
  go_ret2
  exact ⟨by first | rfl | (simp [errW_none,errW_some] <;> rfl) | (simp [*,errW_none,errW_some] <;> rfl),by repeat (first | (with_reducible first | exact HB.out | apply below_alloc | apply pw_below_drewN | apply below_drew1) | exact HB.out)⟩
end Go.Proofs.Ytcenlehfbgnphaa.Z
end
section
namespace Go.Proofs.Ytcenlehfbgnphaa.Z
set_option linter.unusedVariables false
set_option linter.unusedSimpArgs false
open Go.RowKit Go.Proofs.YtcenlehfbgnphaaW.PrintWords Go.Proofs.YtcenlehfbgnphaaW.PrintLast Go.Proofs.YtcenlehfbgnphaaW.PrintMore
def sumCells (x0 x1 x2 : Int) : Array Value := #[.int .i64 x0,.int .i64 x1,.int .i64 x2]
set_option maxHeartbeats 4000000 in
set_option maxRecDepth 100000 in
theorem sum_put' (g : Nat) (x0 x1 x2 n t L M X : Int) (w : World) (h : w.heap[g]? = some (.cells (sumCells x0 x1 x2) 26 (0,0))) (t0 : -1073741824 ≤ t) (t1 : t ≤ 1073741824)
    (hL : wrap64 (x2 + wrap64 (bits BinOp.and IntKind.i64 n 4294967295 * t)) = L) (hM : wrap64 (wrap64 (x1 + wrap64 (n / 4294967296 * t)) + L / 4294967296) = M) (hX : wrap64 (x0 + M / 4294967296) = X) :
    Calls Try.prog 15 #[.pointer (some ⟨g,0,none⟩),.int .i64 n,.int .i64 t] w fun e w' => e = .returned (.int .i64 0) ∧ w'.heap[g]? = some (.cells (sumCells X (bits BinOp.and IntKind.i64 M 4294967295) (bits BinOp.and IntKind.i64 L 4294967295)) 26 (0,0)) ∧ Below g w w' := by
  have z0 := blk_frozen h 0
  have z1 := blk_frozen h 1
  have z2 := blk_frozen h 2
  have c0 := blk_cell h 0
  have c1 := blk_cell h 1
  have c2 := blk_cell h 2
  simp only [sumCells,List.getElem?_toArray,List.getElem?_cons_zero,List.getElem?_cons_succ] at c0 c1 c2
  have H := Aside0.mk h
  have HL := Aside0.mk hL
  have HM := Aside0.mk hM
  have HX := Aside0.mk hX
  clear h hL hM hX
  go_enter Try.func15,Try.ntmps15
  go_wp2
  rw [HL.out,HM.out]
  go_region
  rw [HX.out]
  have H1 : (w.setCell ⟨g,0,none⟩ (.int .i64 X)).heap[g]? = some (.cells #[.int .i64 X,.int .i64 x1,.int .i64 x2] 26 (0,0)) := blk_put H.out 0 _ rfl
  have B1 := (Below.refl g w).setCell (p := ⟨g,0,none⟩) (Nat.le_refl g) (.int .i64 X)
  generalize w.setCell ⟨g,0,none⟩ (.int .i64 X) = W0 at H1 B1 ⊢
  have H1' := blk_drew H1
  have B1' := below_drew B1
  generalize W0.drew = W1 at H1' B1' ⊢
  clear H1 B1 H
  have H2 := blk_drew H1'
  have B2 := below_drew B1'
  go_wp2
  refine start_ (n := 14) (S := fun w' => True) (ds := []) #[false,false,false,false,false,false,false,false,false,false,false,false,false,false] (by kernel_rfl) rfl rfl trivial (fun hHeld => ?_)
  refine pure_ (i := 0) (N := some 53) (v := ?_) (a' := ?_) #[true,false,false,false,false,false,false,false,false,false,false,false,false,false] rfl rfl (by kernel_rfl) (fun _ _ _ h => h) (Or.inl ⟨by rfl,?_⟩) ?_ ?_
  rotate_left
  · intro w'
    go_simp
    with_reducible rfl
  rotate_left
  · simp only [Act.put,zA,zB,zC,i64_w,i32_w]
    rfl
  refine pure_ (i := 1) (N := some 54) (v := ?_) (a' := ?_) #[true,true,false,false,false,false,false,false,false,false,false,false,false,false] rfl rfl (by kernel_rfl) (fun _ _ _ h => h) (Or.inl ⟨by rfl,?_⟩) ?_ ?_
  rotate_left
  · intro w'
    go_simp
    with_reducible rfl
  rotate_left
  · simp only [Act.put,zA,zB,zC,i64_w,i32_w]
    rfl
  refine pure_ (i := 2) (N := some 55) (v := ?_) (a' := ?_) #[true,true,true,false,false,false,false,false,false,false,false,false,false,false] rfl rfl (by kernel_rfl) (fun _ _ _ h => h) (Or.inl ⟨by rfl,?_⟩) ?_ ?_
  rotate_left
  · intro w'
    go_simp
    with_reducible rfl
  rotate_left
  · simp only [Act.put,zA,zB,zC,i64_w,i32_w]
    rfl
  refine pure_ (i := 3) (N := some 56) (v := ?_) (a' := ?_) #[true,true,true,true,false,false,false,false,false,false,false,false,false,false] rfl rfl (by kernel_rfl) (fun _ _ _ h => h) (Or.inl ⟨by rfl,?_⟩) ?_ ?_
  rotate_left
  · intro w'
    go_simp
    with_reducible rfl
  rotate_left
  · simp only [Act.put,zA,zB,zC,i64_w,i32_w]
    rfl
  refine pure_ (i := 4) (N := some 57) (v := ?_) (a' := ?_) #[true,true,true,true,true,false,false,false,false,false,false,false,false,false] rfl rfl (by kernel_rfl) (fun _ _ _ h => h) (Or.inl ⟨by rfl,?_⟩) ?_ ?_
  rotate_left
  · intro w'
    go_simp
    with_reducible rfl
  rotate_left
  · simp only [Act.put,zA,zB,zC,i64_w,i32_w]
    rfl
  refine pure_ (i := 5) (N := some 58) (v := ?_) (a' := ?_) #[true,true,true,true,true,true,false,false,false,false,false,false,false,false] rfl rfl (by kernel_rfl) (fun _ _ _ h => h) (Or.inl ⟨by rfl,?_⟩) ?_ ?_
  rotate_left
  · intro w'
    go_simp
    with_reducible rfl
  rotate_left
  · simp only [Act.put,zA,zB,zC,i64_w,i32_w]
    rfl
  refine pure_ (i := 6) (N := some 59) (v := ?_) (a' := ?_) #[true,true,true,true,true,true,true,false,false,false,false,false,false,false] rfl rfl (by kernel_rfl) (fun _ _ _ h => h) (Or.inl ⟨by rfl,?_⟩) ?_ ?_
  rotate_left
  · intro w'
    go_simp
    with_reducible rfl
  rotate_left
  · simp only [Act.put,zA,zB,zC,i64_w,i32_w]
    rfl
  refine pure_ (i := 7) (N := some 60) (v := ?_) (a' := ?_) #[true,true,true,true,true,true,true,true,false,false,false,false,false,false] rfl rfl (by kernel_rfl) (fun _ _ _ h => h) (Or.inl ⟨by rfl,?_⟩) ?_ ?_
  rotate_left
  · intro w'
    go_simp
    with_reducible rfl
  rotate_left
  · simp only [Act.put,zA,zB,zC,i64_w,i32_w]
    rfl
  refine pure_ (i := 8) (N := some 61) (v := ?_) (a' := ?_) #[true,true,true,true,true,true,true,true,true,false,false,false,false,false] rfl rfl (by kernel_rfl) (fun _ _ _ h => h) (Or.inl ⟨by rfl,?_⟩) ?_ ?_
  rotate_left
  · intro w'
    go_simp
    with_reducible rfl
  rotate_left
  · simp only [Act.put,zA,zB,zC,i64_w,i32_w]
    rfl
  refine pure_ (i := 10) (N := some 62) (v := ?_) (a' := ?_) #[true,true,true,true,true,true,true,true,true,false,true,false,false,false] rfl rfl (by kernel_rfl) (fun _ _ _ h => h) (Or.inl ⟨by rfl,?_⟩) ?_ ?_
  rotate_left
  · intro w'
    go_simp
    with_reducible rfl
  rotate_left
  · simp only [Act.put,zA,zB,zC,i64_w,i32_w]
    rfl
  refine pure_ (i := 11) (N := some 63) (v := ?_) (a' := ?_) #[true,true,true,true,true,true,true,true,true,false,true,true,false,false] rfl rfl (by kernel_rfl) (fun _ _ _ h => h) (Or.inl ⟨by rfl,?_⟩) ?_ ?_
  rotate_left
  · intro w'
    go_simp
    with_reducible rfl
  rotate_left
  · simp only [Act.put,zA,zB,zC,i64_w,i32_w]
    rfl
  refine one_ (i := 9) (N := none) #[true,true,true,true,true,true,true,true,true,true,true,true,false,false] rfl rfl (by kernel_rfl) (by decide) (fun K hK => ?_)
  refine skip_ (w1 := (W1.drew).setCell ⟨g,1,none⟩ (.int .i64 (bits BinOp.and IntKind.i64 M 4294967295))) (by rfl) rfl ?_ ?_
  · have z := blk_frozen H2 1
    have c := blk_cell H2 1
    simp only [List.getElem?_toArray,List.getElem?_cons_zero,List.getElem?_cons_succ] at c
    go_simp
    try with_reducible rfl
  refine hK.out _ _ trivial (fun hHeld => ?_)
  clear hK K
  have H3 : ((W1.drew).setCell ⟨g,1,none⟩ (.int .i64 (bits BinOp.and IntKind.i64 M 4294967295))).heap[g]? = some (.cells #[.int .i64 X,.int .i64 (bits BinOp.and IntKind.i64 M 4294967295),.int .i64 x2] 26 (0,0)) := blk_put H2 1 _ rfl
  have B3 := B2.setCell (p := ⟨g,1,none⟩) (Nat.le_refl g) (.int .i64 (bits BinOp.and IntKind.i64 M 4294967295))
  generalize (W1.drew).setCell ⟨g,1,none⟩ (.int .i64 (bits BinOp.and IntKind.i64 M 4294967295)) = W2 at H3 B3 ⊢
  refine pure_ (i := 12) (N := some 64) (v := ?_) (a' := ?_) #[true,true,true,true,true,true,true,true,true,true,true,true,true,false] rfl rfl (by kernel_rfl) (fun _ _ _ h => h) (Or.inl ⟨by rfl,?_⟩) ?_ ?_
  rotate_left
  · intro w'
    go_simp
    with_reducible rfl
  rotate_left
  · simp only [Act.put,zA,zB,zC,i64_w,i32_w]
    rfl
  refine one_ (i := 13) (N := none) #[true,true,true,true,true,true,true,true,true,true,true,true,true,true] rfl rfl (by kernel_rfl) (by decide) (fun K hK => ?_)
  refine skip_ (w1 := (W2).setCell ⟨g,2,none⟩ (.int .i64 (bits BinOp.and IntKind.i64 L 4294967295))) (by rfl) rfl ?_ ?_
  · have z := blk_frozen H3 2
    have c := blk_cell H3 2
    simp only [List.getElem?_toArray,List.getElem?_cons_zero,List.getElem?_cons_succ] at c
    go_simp
    try with_reducible rfl
  refine hK.out _ _ trivial (fun hHeld => ?_)
  clear hK K
  refine done_ (by kernel_rfl) ?_
  go_wp2
  go_ret
  exact ⟨rfl,blk_put H3 2 _ rfl,B3.setCell (Nat.le_refl g) _⟩
set_option maxHeartbeats 2000000 in
set_option maxRecDepth 100000 in
theorem sum_value1 (g : Nat) (w : World) (h : w.heap[g]? = some (.cells (sumCells 1 0 0) 26 (0,0))) :
    Calls Try.prog 18 #[.pointer (some ⟨g,0,none⟩)] w fun e w' => e = .returned (.tuple #[.int .i64 0,.int .i64 10]) ∧ Drawn0 w w' := by
  have c0 := blk_cell h 0
  have c1 := blk_cell h 1
  have c2 := blk_cell h 2
  simp only [sumCells,List.getElem?_toArray,List.getElem?_cons_zero,List.getElem?_cons_succ] at c0 c1 c2
  go_enter Try.func18,Try.ntmps18
  go_wp2
  go_quiet (fail)
  go_wp2
  go_ret2
  exact ⟨by rfl,⟨⟨_,rfl⟩⟩⟩
set_option maxHeartbeats 2000000 in
set_option maxRecDepth 100000 in
theorem sum_value2 (g : Nat) (w : World) (h : w.heap[g]? = some (.cells (sumCells 0 1073741824 0) 26 (0,0))) :
    Calls Try.prog 18 #[.pointer (some ⟨g,0,none⟩)] w fun e w' => e = .returned (.tuple #[.int .i64 4611686018427387904,.int .i64 0]) ∧ Drawn0 w w' := by
  have c0 := blk_cell h 0
  have c1 := blk_cell h 1
  have c2 := blk_cell h 2
  simp only [sumCells,List.getElem?_toArray,List.getElem?_cons_zero,List.getElem?_cons_succ] at c0 c1 c2
  go_enter Try.func18,Try.ntmps18
  go_wp2
  go_quiet (fail)
  go_wp2
  go_ret2
  exact ⟨by rfl,⟨⟨_,rfl⟩⟩⟩
theorem sum_eq0 (w : World) : (Op.equalIn 10000 24 (Value.agg #[Value.int IntKind.i64 0,Value.int IntKind.i64 1073741824,Value.int IntKind.i64 0]) (Value.agg #[Value.int IntKind.i64 0,Value.int IntKind.i64 0,Value.int IntKind.i64 0])).run Try.prog w = .ok false w := by kernel_rfl
set_option maxHeartbeats 2000000 in
set_option maxRecDepth 100000 in
theorem sum_sign (g : Nat) (w : World) (h : w.heap[g]? = some (.cells (sumCells 0 1073741824 0) 26 (0,0))) :
    Calls Try.prog 20 #[.pointer (some ⟨g,0,none⟩)] w fun e w' => e = .returned (.int .i64 1) ∧ Drawn0 w w' := by
  have c0 := blk_cell h 0
  have c1 := blk_cell h 1
  have c2 := blk_cell h 2
  simp only [sumCells,List.getElem?_toArray,List.getElem?_cons_zero,List.getElem?_cons_succ] at c0 c1 c2
  have heq : ∀ w : World,(Op.equalIn 10000 24 (Value.agg #[Value.int IntKind.i64 0,Value.int IntKind.i64 1073741824,Value.int IntKind.i64 0]) (Value.agg #[Value.int IntKind.i64 0,Value.int IntKind.i64 0,Value.int IntKind.i64 0])).run Try.prog w = .ok false w := sum_eq0
  go_enter Try.func20,Try.ntmps20
  go_wp2
  go_ret
  exact ⟨rfl,Drawn0.refl _⟩
end Go.Proofs.Ytcenlehfbgnphaa.Z
end
section
namespace Go.Proofs.Ytcenlehfbgnphaa.Z
set_option linter.unusedVariables false
set_option linter.unusedSimpArgs false
open Go.RowKit Go.Proofs.YtcenlehfbgnphaaW.PrintWords Go.Proofs.YtcenlehfbgnphaaW.PrintLast Go.Proofs.YtcenlehfbgnphaaW.PrintMore
theorem sum_put1 (g : Nat) (w : World) (h : w.heap[g]? = some (.cells (sumCells 0 0 0) 26 (0,0))) : Calls Try.prog 15 #[.pointer (some ⟨g,0,none⟩),.int .i64 4611686018427387904,.int .i64 4] w fun e w' => e = .returned (.int .i64 0) ∧ w'.heap[g]? = some (.cells (sumCells 1 0 0) 26 (0,0)) ∧ Below g w w' := by
  have := sum_put' g 0 0 0 4611686018427387904 4 0 4294967296 1 w h (by decide) (by decide) (by decide +kernel) (by decide +kernel) (by decide +kernel)
  rw [show bits BinOp.and IntKind.i64 4294967296 4294967295 = 0 by decide +kernel,show bits BinOp.and IntKind.i64 0 4294967295 = 0 by decide +kernel] at this
  exact this
theorem sum_put2 (g : Nat) (w : World) (h : w.heap[g]? = some (.cells (sumCells 1 0 0) 26 (0,0))) : Calls Try.prog 15 #[.pointer (some ⟨g,0,none⟩),.int .i64 4611686018427387904,.int .i64 (-3)] w fun e w' => e = .returned (.int .i64 0) ∧ w'.heap[g]? = some (.cells (sumCells 0 1073741824 0) 26 (0,0)) ∧ Below g w w' := by
  have := sum_put' g 1 0 0 4611686018427387904 (-3) 0 (-3221225472) 0 w h (by decide) (by decide) (by decide +kernel) (by decide +kernel) (by decide +kernel)
  rw [show bits BinOp.and IntKind.i64 (-3221225472) 4294967295 = 1073741824 by decide +kernel,show bits BinOp.and IntKind.i64 0 4294967295 = 0 by decide +kernel] at this
  exact this
theorem drawn_keeps {g : Nat} {o : Obj} {w w' : World} (h : w.heap[g]? = some o) (d : Drawn0 w w') : w'.heap[g]? = some o ∧ Below g w w' := by
  obtain ⟨n,rfl⟩ := d.out
  exact ⟨blk_drewN h n,pw_below_drewN (Below.refl g w) n⟩
theorem below_chain {B g : Nat} {w w1 w2 : World} (h : Below B w w1) (hg : B ≤ g) (k : Below g w1 w2) : Below B w w2 :=
  h.trans ⟨k.os,k.tape,k.output,k.size,fun i hi => k.block i (Nat.lt_of_lt_of_le hi hg)⟩
set_option maxHeartbeats 4000000 in
set_option maxRecDepth 100000 in
theorem safe_known (w : World) : Calls Try.prog 22 #[] w fun e w' => e = .returned (.bool true) ∧ Below w.heap.size w w' := by
  obtain ⟨g,hg⟩ : ∃ g,w.heap.size = g := ⟨_,rfl⟩
  have h0 := blk_new w (Obj.cells (sumCells 0 0 0) 26 (0,0))
  have b0 : Below w.heap.size w (w.alloc (Obj.cells (sumCells 0 0 0) 26 (0,0))) := below_alloc (Below.refl _ _) _
  have H0 := Aside0.mk h0
  have B0 := Aside0.mk b0
  clear h0 b0
  go_enter Try.func22,Try.ntmps22
  go_wp2_with (fail)
  change Calls Try.prog 15 _ (w.alloc (Obj.cells (sumCells 0 0 0) 26 (0,0))) _
  generalize w.alloc (Obj.cells (sumCells 0 0 0) 26 (0,0)) = w0 at H0 B0 ⊢
  have HG := Aside0.mk (Nat.le_of_eq hg)
  rw [hg] at H0
  clear hg
  refine (sum_put1 g w0 H0.out).mono ?_
  rintro e w1 ⟨rfl,h1,b1⟩
  have H1 := Aside0.mk h1
  have B1 := Aside0.mk (below_chain B0.out HG.out b1)
  clear h1 b1 H0 B0
  go_wp2_with (fail)
  refine (sum_value1 g w1 H1.out).mono ?_
  rintro e w2 ⟨rfl,d⟩
  have d' := drawn_keeps H1.out d
  have H2 := Aside0.mk d'.1
  have B2 := Aside0.mk (below_chain B1.out HG.out d'.2)
  clear d d' H1 B1
  go_wp2_with (fail)
  refine (sum_put2 g w2 H2.out).mono ?_
  rintro e w3 ⟨rfl,h3,b3⟩
  have H3 := Aside0.mk h3
  have B3 := Aside0.mk (below_chain B2.out HG.out b3)
  clear h3 b3 H2 B2
  go_wp2_with (fail)
  refine (sum_value2 g w3 H3.out).mono ?_
  rintro e w4 ⟨rfl,d⟩
  have d' := drawn_keeps H3.out d
  have H4 := Aside0.mk d'.1
  have B4 := Aside0.mk (below_chain B3.out HG.out d'.2)
  clear d d' H3 B3
  go_wp2_with (fail)
  refine (sum_sign g w4 H4.out).mono ?_
  rintro e w5 ⟨rfl,d⟩
  have d' := drawn_keeps H4.out d
  have B5 := Aside0.mk (below_chain B4.out HG.out d'.2)
  clear d d' H4 B4
  go_wp2_with (fail)
  go_ret
  exact ⟨rfl,B5.out⟩
end Go.Proofs.Ytcenlehfbgnphaa.Z
end
section
namespace Go.Proofs.Ytcenlehfbgnphaa.Z
open Go.RowKit Go.Proofs.YtcenlehfbgnphaaW.PrintWords Go.Proofs.YtcenlehfbgnphaaW.PrintLast Go.Proofs.YtcenlehfbgnphaaW.PrintMore
def verdererlaw03_known.f : Option Bool := some true
theorem verdererlaw03_known.calls (r : Bool) (w : World) (h : verdererlaw03_known.f = some r) :
    Calls Try.prog 22 #[] w fun e w' => e = .returned (.bool r) ∧ Below w.heap.size w w' := by
  obtain rfl : true = r := Option.some.inj h
  exact safe_known w
end Go.Proofs.Ytcenlehfbgnphaa.Z
end
section
namespace Go.Proofs.Ytcenlehfbgnphaa.Z
open Go.RowKit Go.Proofs.YtcenlehfbgnphaaW.PrintWords Go.Proofs.YtcenlehfbgnphaaW.PrintLast Go.Proofs.YtcenlehfbgnphaaW.PrintMore
attribute [local go_sem] max2_int min2_int max_two min_two max_three min_three max_four min_four
set_option linter.unusedVariables false
set_option linter.unusedSimpArgs false
def verdererlaw03_SafeOps.f (k : Nat) (a0 : Int) (a1 : Int) : Option (Bool) := (safe_Add.f a0 a1).bind fun bt207 => ((verdererref03_Add.f k a0 a1).bind fun bt209 => ((safe_Sub.f a0 a1).bind fun bt211 => ((verdererref03_Sub.f k a0 a1).bind fun bt213 => ((safe_Mul.f a0 a1).bind fun bt215 => ((verdererref03_Mul.f k a0 a1).bind fun bt217 => (if bt207.1 = bt209.1 then (if bt207.2 = bt209.2 then (if bt211.1 = bt213.1 then (if bt211.2 = bt213.2 then (if bt215.1 = bt217.1 then (if bt215.2 = bt217.2 then ((verdererlaw03_known.f).bind fun t219 => (some t219)) else (none)) else (none)) else (none)) else (none)) else (none)) else (none)))))))
theorem verdererlaw03_SafeOps.mono : ∀ a0 a1 k,LeO (verdererlaw03_SafeOps.f k a0 a1) (verdererlaw03_SafeOps.f (k + 1) a0 a1) := by
  intro a0 a1 k
  unfold verdererlaw03_SafeOps.f
  repeat' first
      | (with_reducible exact verdererref03_Add.mono _ _ _)
      | (with_reducible exact verdererref03_Mul.mono _ _ _)
      | (with_reducible exact verdererref03_Sub.mono _ _ _)
      | (with_reducible exact LeO.refl _)
      | (with_reducible exact LeO.none _)
      | (with_reducible refine LeO.ite ?_ ?_)
      | (with_reducible refine LeO.bind ?_ (fun _ => ?_))
      | exact verdererref03_Add.mono _ _ _
      | exact verdererref03_Mul.mono _ _ _
      | exact verdererref03_Sub.mono _ _ _
      | exact LeO.none _
      | refine LeO.ite ?_ ?_
      | refine LeO.bind ?_ (fun _ => ?_)
set_option maxHeartbeats 8000000 in
set_option maxRecDepth 100000 in
theorem verdererlaw03_SafeOps.calls (k : Nat) (a0 : Int) (a1 : Int) (r : Bool) (w : World) (h : verdererlaw03_SafeOps.f k a0 a1 = some r) :
    Calls Try.prog 6 #[.int .i64 a0,.int .i64 a1] w fun e w' => e = .returned (.bool r) ∧ Below w.heap.size w w' := by
  have HB := Aside0.mk (Below.refl w.heap.size w)
  have H : ((safe_Add.f a0 a1).bind fun bt207 => ((verdererref03_Add.f k a0 a1).bind fun bt209 => ((safe_Sub.f a0 a1).bind fun bt211 => ((verdererref03_Sub.f k a0 a1).bind fun bt213 => ((safe_Mul.f a0 a1).bind fun bt215 => ((verdererref03_Mul.f k a0 a1).bind fun bt217 => (if bt207.1 = bt209.1 then (if bt207.2 = bt209.2 then (if bt211.1 = bt213.1 then (if bt211.2 = bt213.2 then (if bt215.1 = bt217.1 then (if bt215.2 = bt217.2 then ((verdererlaw03_known.f).bind fun t219 => (some t219)) else (none)) else (none)) else (none)) else (none)) else (none)) else (none)))))))) = some r := h
  clear h
  replace H := Option.bind_eq_some_iff.mp H
  obtain ⟨⟨t207,t208⟩,A30,H⟩ := H
  replace H : ((verdererref03_Add.f k a0 a1).bind fun bt209 => ((safe_Sub.f a0 a1).bind fun bt211 => ((verdererref03_Sub.f k a0 a1).bind fun bt213 => ((safe_Mul.f a0 a1).bind fun bt215 => ((verdererref03_Mul.f k a0 a1).bind fun bt217 => (if t207 = bt209.1 then (if t208 = bt209.2 then (if bt211.1 = bt213.1 then (if bt211.2 = bt213.2 then (if bt215.1 = bt217.1 then (if bt215.2 = bt217.2 then ((verdererlaw03_known.f).bind fun t219 => (some t219)) else (none)) else (none)) else (none)) else (none)) else (none)) else (none))))))) = some r := H
  have A3 := Aside0.mk A30
  clear A30
  replace H := Option.bind_eq_some_iff.mp H
  obtain ⟨⟨t209,t210⟩,A40,H⟩ := H
  replace H : ((safe_Sub.f a0 a1).bind fun bt211 => ((verdererref03_Sub.f k a0 a1).bind fun bt213 => ((safe_Mul.f a0 a1).bind fun bt215 => ((verdererref03_Mul.f k a0 a1).bind fun bt217 => (if t207 = t209 then (if t208 = t210 then (if bt211.1 = bt213.1 then (if bt211.2 = bt213.2 then (if bt215.1 = bt217.1 then (if bt215.2 = bt217.2 then ((verdererlaw03_known.f).bind fun t219 => (some t219)) else (none)) else (none)) else (none)) else (none)) else (none)) else (none)))))) = some r := H
  have A4 := Aside0.mk A40
  clear A40
  replace H := Option.bind_eq_some_iff.mp H
  obtain ⟨⟨t211,t212⟩,A50,H⟩ := H
  replace H : ((verdererref03_Sub.f k a0 a1).bind fun bt213 => ((safe_Mul.f a0 a1).bind fun bt215 => ((verdererref03_Mul.f k a0 a1).bind fun bt217 => (if t207 = t209 then (if t208 = t210 then (if t211 = bt213.1 then (if t212 = bt213.2 then (if bt215.1 = bt217.1 then (if bt215.2 = bt217.2 then ((verdererlaw03_known.f).bind fun t219 => (some t219)) else (none)) else (none)) else (none)) else (none)) else (none)) else (none))))) = some r := H
  have A5 := Aside0.mk A50
  clear A50
  replace H := Option.bind_eq_some_iff.mp H
  obtain ⟨⟨t213,t214⟩,A60,H⟩ := H
  replace H : ((safe_Mul.f a0 a1).bind fun bt215 => ((verdererref03_Mul.f k a0 a1).bind fun bt217 => (if t207 = t209 then (if t208 = t210 then (if t211 = t213 then (if t212 = t214 then (if bt215.1 = bt217.1 then (if bt215.2 = bt217.2 then ((verdererlaw03_known.f).bind fun t219 => (some t219)) else (none)) else (none)) else (none)) else (none)) else (none)) else (none)))) = some r := H
  have A6 := Aside0.mk A60
  clear A60
  replace H := Option.bind_eq_some_iff.mp H
  obtain ⟨⟨t215,t216⟩,A70,H⟩ := H
  replace H : ((verdererref03_Mul.f k a0 a1).bind fun bt217 => (if t207 = t209 then (if t208 = t210 then (if t211 = t213 then (if t212 = t214 then (if t215 = bt217.1 then (if t216 = bt217.2 then ((verdererlaw03_known.f).bind fun t219 => (some t219)) else (none)) else (none)) else (none)) else (none)) else (none)) else (none))) = some r := H
  have A7 := Aside0.mk A70
  clear A70
  replace H := Option.bind_eq_some_iff.mp H
  obtain ⟨⟨t217,t218⟩,A80,H⟩ := H
  replace H : (if t207 = t209 then (if t208 = t210 then (if t211 = t213 then (if t212 = t214 then (if t215 = t217 then (if t216 = t218 then ((verdererlaw03_known.f).bind fun t219 => (some t219)) else (none)) else (none)) else (none)) else (none)) else (none)) else (none)) = some r := H
  have A8 := Aside0.mk A80
  clear A80
  by_cases c9 : t207 = t209
  · rw [if_pos c9] at H
    have c9b0 : (t207 == t209) = true := beq_iff_eq.mpr c9
    have c9b1 : (t207 != t209) = false := bne_eq_false_iff_eq.mpr c9
    clear c9
    by_cases c10 : t208 = t210
    · rw [if_pos c10] at H
      have c10b0 : (t208 == t210) = true := beq_iff_eq.mpr c10
      have c10b1 : (t208 != t210) = false := bne_eq_false_iff_eq.mpr c10
      clear c10
      by_cases c11 : t211 = t213
      · rw [if_pos c11] at H
        have c11b0 : (t211 == t213) = true := beq_iff_eq.mpr c11
        have c11b1 : (t211 != t213) = false := bne_eq_false_iff_eq.mpr c11
        clear c11
        by_cases c12 : t212 = t214
        · rw [if_pos c12] at H
          have c12b0 : (t212 == t214) = true := beq_iff_eq.mpr c12
          have c12b1 : (t212 != t214) = false := bne_eq_false_iff_eq.mpr c12
          clear c12
          by_cases c13 : t215 = t217
          · rw [if_pos c13] at H
            have c13b0 : (t215 == t217) = true := beq_iff_eq.mpr c13
            have c13b1 : (t215 != t217) = false := bne_eq_false_iff_eq.mpr c13
            clear c13
            by_cases c14 : t216 = t218
            · rw [if_pos c14] at H
              have c14b0 : (t216 == t218) = true := beq_iff_eq.mpr c14
              have c14b1 : (t216 != t218) = false := bne_eq_false_iff_eq.mpr c14
              clear c14
              replace H := Option.bind_eq_some_iff.mp H
              obtain ⟨t219,A150,H⟩ := H
              replace H : (some t219) = some r := H
              have A15 := Aside0.mk A150
              clear A150
              obtain rfl := Option.some.inj H
              go_enter Try.func6,Try.ntmps6
              go_wp2_with (first | ((with_reducible refine gate_callee (f := 23) rfl ?_);refine goesL_ (some 20) rfl rfl Try.func23 (by kernel_rfl) rfl #[.int .i64 a0,.int .i64 a1] rfl (by (try simp only [List.map_toArray,List.map_cons,List.map_nil]);first | done | rfl | (simp only [List.length_drop,List.length_take];rfl)) ?_;(with_reducible refine (safe_Add.calls a0 a1 t207 t208 _ A3.out).mono ?_);rintro e w' ⟨rfl,⟨nd,rfl⟩⟩;refine ⟨_,rfl,?_⟩) | ((with_reducible refine gate_callee (f := 24) rfl ?_);refine goesL_ (some 26) rfl rfl Try.func24 (by kernel_rfl) rfl #[.int .i64 a0,.int .i64 a1] rfl (by (try simp only [List.map_toArray,List.map_cons,List.map_nil]);first | done | rfl | (simp only [List.length_drop,List.length_take];rfl)) ?_;(with_reducible refine (verdererref03_Add.calls k a0 a1 t209 t210 _ A4.out).mono ?_);rintro e w16 ⟨rfl,hb⟩;refine ⟨_,rfl,?_⟩;have n0_ := Aside0.mk (below_step (by repeat (first | (with_reducible first | exact HB.out | apply below_alloc | apply pw_below_drewN | apply below_drew1) | exact HB.out)) hb);clear HB;have HB := n0_;clear n0_;(try clear hb);(try clear hb2);(try clear hk);(try clear hi)) | ((with_reducible refine gate_callee (f := 25) rfl ?_);refine goesL_ (some 32) rfl rfl Try.func25 (by kernel_rfl) rfl #[.int .i64 a0,.int .i64 a1] rfl (by (try simp only [List.map_toArray,List.map_cons,List.map_nil]);first | done | rfl | (simp only [List.length_drop,List.length_take];rfl)) ?_;(with_reducible refine (safe_Sub.calls a0 a1 t211 t212 _ A5.out).mono ?_);rintro e w' ⟨rfl,⟨nd,rfl⟩⟩;refine ⟨_,rfl,?_⟩) | ((with_reducible refine gate_callee (f := 26) rfl ?_);refine goesL_ (some 38) rfl rfl Try.func26 (by kernel_rfl) rfl #[.int .i64 a0,.int .i64 a1] rfl (by (try simp only [List.map_toArray,List.map_cons,List.map_nil]);first | done | rfl | (simp only [List.length_drop,List.length_take];rfl)) ?_;(with_reducible refine (verdererref03_Sub.calls k a0 a1 t213 t214 _ A6.out).mono ?_);rintro e w17 ⟨rfl,hb⟩;refine ⟨_,rfl,?_⟩;have n0_ := Aside0.mk (below_step (by repeat (first | (with_reducible first | exact HB.out | apply below_alloc | apply pw_below_drewN | apply below_drew1) | exact HB.out)) hb);clear HB;have HB := n0_;clear n0_;(try clear hb);(try clear hb2);(try clear hk);(try clear hi)) | ((with_reducible refine gate_callee (f := 27) rfl ?_);refine goesL_ (some 44) rfl rfl Try.func27 (by kernel_rfl) rfl #[.int .i64 a0,.int .i64 a1] rfl (by (try simp only [List.map_toArray,List.map_cons,List.map_nil]);first | done | rfl | (simp only [List.length_drop,List.length_take];rfl)) ?_;(with_reducible refine (safe_Mul.calls a0 a1 t215 t216 _ A7.out).mono ?_);rintro e w' ⟨rfl,⟨nd,rfl⟩⟩;refine ⟨_,rfl,?_⟩) | ((with_reducible refine gate_callee (f := 28) rfl ?_);refine goesL_ (some 50) rfl rfl Try.func28 (by kernel_rfl) rfl #[.int .i64 a0,.int .i64 a1] rfl (by (try simp only [List.map_toArray,List.map_cons,List.map_nil]);first | done | rfl | (simp only [List.length_drop,List.length_take];rfl)) ?_;(with_reducible refine (verdererref03_Mul.calls k a0 a1 t217 t218 _ A8.out).mono ?_);rintro e w18 ⟨rfl,hb⟩;refine ⟨_,rfl,?_⟩;have n0_ := Aside0.mk (below_step (by repeat (first | (with_reducible first | exact HB.out | apply below_alloc | apply pw_below_drewN | apply below_drew1) | exact HB.out)) hb);clear HB;have HB := n0_;clear n0_;(try clear hb);(try clear hb2);(try clear hk);(try clear hi)) | (go_at_call 22;(with_reducible refine (verdererlaw03_known.calls  t219 _ A15.out).mono ?_);rintro e w19 ⟨rfl,hb⟩;have n0_ := Aside0.mk (below_step (by repeat (first | (with_reducible first | exact HB.out | apply below_alloc | apply pw_below_drewN | apply below_drew1) | exact HB.out)) hb);clear HB;have HB := n0_;clear n0_;(try clear hb);(try clear hb2);(try clear hk);(try clear hi)))
              go_ret
              exact ⟨by first | rfl | (simp [errW_none,errW_some] <;> rfl) | (simp [*,errW_none,errW_some] <;> rfl),by repeat (first | (with_reducible first | exact HB.out | apply below_alloc | apply pw_below_drewN | apply below_drew1) | exact HB.out)⟩
            · rw [if_neg c14] at H
              exact absurd H (by simp)
          · rw [if_neg c13] at H
            exact absurd H (by simp)
        · rw [if_neg c12] at H
          exact absurd H (by simp)
      · rw [if_neg c11] at H
        exact absurd H (by simp)
    · rw [if_neg c10] at H
      exact absurd H (by simp)
  · rw [if_neg c9] at H
    exact absurd H (by simp)
end Go.Proofs.Ytcenlehfbgnphaa.Z
end
section
namespace Go.Proofs.YtcenlehfbgnphaaW.PrintWords
open Go.RowKit Go.ChangeShapes Go.WideShapes
section
variable {P : Program} {α β : Type}
theorem cell_heap {w w' : World} (h : w.heap = w'.heap) (a : Addr) : w'.cell? a = w.cell? a := by unfold World.cell?;rw [h]
end
end Go.Proofs.YtcenlehfbgnphaaW.PrintWords
end
section
namespace Go.Proofs.Ytcenlehfbgnphaa.Z
open Go.RowKit Go.Proofs.YtcenlehfbgnphaaW.PrintWords Go.Proofs.YtcenlehfbgnphaaW.PrintLast Go.Proofs.YtcenlehfbgnphaaW.PrintMore
set_option maxRecDepth 100000
end Go.Proofs.Ytcenlehfbgnphaa.Z
end
section
namespace Go.Proofs.Ytcenlehfbgnphaa.Z
open Go.RowKit Go.Proofs.YtcenlehfbgnphaaW.PrintWords Go.Proofs.YtcenlehfbgnphaaW.PrintLast Go.Proofs.YtcenlehfbgnphaaW.PrintMore
def In64 (x : Int) : Prop := -9223372036854775808 ≤ x ∧ x ≤ 9223372036854775807
theorem wrap_toInt (x : BitVec 64) : IntKind.i64.wrap (x.toNat : Int) = x.toInt := by
  rw [Go.IntKind.wrap_i64,BitVec.toInt_eq_toNat_bmod,Int.bmod_def]
  have := x.isLt
  split <;> omega
theorem and_i64 (a b : Int) : Go.bits .and .i64 a b = (BitVec.ofInt 64 a &&& BitVec.ofInt 64 b).toInt := wrap_toInt _
theorem xor_i64 (a b : Int) : Go.bits .xor .i64 a b = (BitVec.ofInt 64 a ^^^ BitVec.ofInt 64 b).toInt := wrap_toInt _
theorem msb_ofInt {a : Int} (h : In64 a) : (BitVec.ofInt 64 a).msb = decide (a < 0) := by
  rw [BitVec.msb_eq_toInt,BitVec.toInt_ofInt]
  obtain ⟨h0,h1⟩ := h
  have e : a.bmod (2 ^ 64) = a := by rw [Int.bmod_def];split <;> omega
  rw [e]
theorem signs {a b c d : Int} (ha : In64 a) (hb : In64 b) (hc : In64 c) (hd : In64 d) : Go.bits .and .i64 (Go.bits .xor .i64 a b) (Go.bits .xor .i64 c d) ≥ 0 ↔ ¬ (((a < 0) ↔ ¬ (b < 0)) ∧ ((c < 0) ↔ ¬ (d < 0))) := by
  rw [xor_i64,xor_i64,and_i64,BitVec.ofInt_toInt,BitVec.ofInt_toInt]
  have h : (BitVec.toInt ((BitVec.ofInt 64 a ^^^ BitVec.ofInt 64 b) &&& (BitVec.ofInt 64 c ^^^ BitVec.ofInt 64 d)) < 0) ↔ ((BitVec.ofInt 64 a ^^^ BitVec.ofInt 64 b) &&& (BitVec.ofInt 64 c ^^^ BitVec.ofInt 64 d)).msb = true := by
    rw [BitVec.msb_eq_toInt];simp
  rw [BitVec.msb_and,BitVec.msb_xor,BitVec.msb_xor,msb_ofInt ha,msb_ofInt hb,msb_ofInt hc,msb_ofInt hd] at h
  rw [ge_iff_le,← Int.not_lt,h]
  by_cases h1 : a < 0 <;> by_cases h2 : b < 0 <;> by_cases h3 : c < 0 <;> by_cases h4 : d < 0 <;> simp [h1,h2,h3,h4]
def fitF (n : Int) : Int × Int := if -9223372036854775808 ≤ n ∧ n ≤ 9223372036854775807 then (n,0) else (0,10)
theorem wrap_in (n : Int) : In64 (wrap64 n) := by unfold wrap64 In64;omega
theorem safeAdd_f {a b : Int} (ha : In64 a) (hb : In64 b) : safe_Add.f a b = some (fitF (a + b)) := by
  unfold safe_Add.f safe_fits.f fitF
  have hs := signs ha (wrap_in (a + b)) hb (wrap_in (a + b))
  have hw : wrap64 (a + b) = (a + b + 9223372036854775808) % 18446744073709551616 - 9223372036854775808 := by unfold wrap64;omega
  unfold In64 at ha hb
  by_cases h : -9223372036854775808 ≤ a + b ∧ a + b ≤ 9223372036854775807
  · have e : wrap64 (a + b) = a + b := by omega
    rw [if_pos h,if_pos (decide_eq_true (hs.2 (by rw [e];omega))),e]
    rfl
  · rw [if_neg h,if_neg (by rw [decide_eq_true_eq,hs];omega)]
    rfl
theorem safeSub_f {a b : Int} (ha : In64 a) (hb : In64 b) : safe_Sub.f a b = some (fitF (a - b)) := by
  unfold safe_Sub.f safe_fits.f fitF
  have hs := signs ha hb ha (wrap_in (a - b))
  have hw : wrap64 (a - b) = (a - b + 9223372036854775808) % 18446744073709551616 - 9223372036854775808 := by unfold wrap64;omega
  unfold In64 at ha hb
  by_cases h : -9223372036854775808 ≤ a - b ∧ a - b ≤ 9223372036854775807
  · have e : wrap64 (a - b) = a - b := by omega
    rw [if_pos h,if_pos (decide_eq_true (hs.2 (by rw [e];omega))),e]
    rfl
  · rw [if_neg h,if_neg (by rw [decide_eq_true_eq,hs];omega)]
    rfl
end Go.Proofs.Ytcenlehfbgnphaa.Z
end
section
namespace Go.Proofs.Ytcenlehfbgnphaa.Z
open Go.RowKit Go.Proofs.YtcenlehfbgnphaaW.PrintWords Go.Proofs.YtcenlehfbgnphaaW.PrintLast Go.Proofs.YtcenlehfbgnphaaW.PrintMore
theorem wrap_id1 {x : Int} (h0 : -9223372036854775808 ≤ x) (h1 : x ≤ 9223372036854775807) : wrap64 x = x := by unfold wrap64;omega
def dg (l : List Int) (i : Nat) : Int := l.getD i 0
theorem at_f (b : Bool) (l : List Int) (_hl : l.length ≤ 1000) (i : Nat) : verdererref03_Big_at.f b l (i : Int) = some (dg l i) := by
  unfold verdererref03_Big_at.f dg
  by_cases h : i < l.length
  · rw [if_pos (by omega),if_pos (by omega)];rfl
  · rw [if_neg (by omega)];simp [List.getD,List.getElem?_eq_none (show l.length ≤ i by omega)]
def Dg (l : List Int) : Prop := ∀ i,0 ≤ dg l i ∧ dg l i < 65536
def val : List Int → Int
  | [] => 0
  | d :: ds => d + 65536 * val ds
def from_ (l : List Int) : Nat → Nat → Int
  | _,0 => 0
  | i,n + 1 => dg l i + 65536 * from_ l (i + 1) n
theorem big4 (u : Int) (h0 : 0 ≤ u) (h1 : u < 18446744073709551616) (s : Bool) (k : Nat) : verdererref03_big.l0 (k + 5) u 0 s [] = some (s,[u % 65536,u / 65536 % 65536,u / 4294967296 % 65536,u / 281474976710656]) := by
  have e (n : Nat) (x : Int) (i : Int) (l : List Int) (g0 : 0 ≤ x) (g1 : x < 18446744073709551616) (g2 : i < 4) (g3 : 0 ≤ i) (gl : l.length ≤ 10) : verdererref03_big.l0 (n + 1) x i s l = verdererref03_big.l0 n (x / 65536) (i + 1) s (l ++ [x % 65536]) := by
    simp only [verdererref03_big.l0]
    rw [if_pos g2,if_pos (by omega),wrap_id1 (by omega) (by omega),Int.tdiv_eq_ediv_of_nonneg g0,Int.tmod_eq_emod_of_nonneg g0,Go.IntKind.wrap_u64,show x / 65536 % 18446744073709551616 = x / 65536 by omega]
  rw [e (k + 4) u 0 _ h0 h1 (by decide) (by decide) (by simp),e (k + 3) (u / 65536) _ _ (by omega) (by omega) (by decide) (by decide) (by simp),e (k + 2) (u / 65536 / 65536) _ _ (by omega) (by omega) (by decide) (by decide) (by simp),e (k + 1) (u / 65536 / 65536 / 65536) _ _ (by omega) (by omega) (by decide) (by decide) (by simp)]
  simp only [verdererref03_big.l0]
  rw [if_neg (by decide)]
  simp only [List.nil_append,List.cons_append,Option.some.injEq,Prod.mk.injEq,true_and,List.cons.injEq,and_true]
  refine ⟨?_,?_⟩ <;> omega
def four (a : Int) : List Int := let u : Int := if a < 0 then -a else a;[u % 65536,u / 65536 % 65536,u / 4294967296 % 65536,u / 281474976710656]
theorem big_f {a : Int} (ha : In64 a) (k : Nat) : verdererref03_big.f (k + 6) a = some (decide (a < 0),four a) := by
  unfold verdererref03_big.f four In64 at *
  by_cases h : a < 0
  · rw [if_pos h]
    simp only [verdererref03_big.j0]
    have e : IntKind.u64.wrap (-(IntKind.u64.wrap a)) = -a := by rw [Go.IntKind.wrap_u64,Go.IntKind.wrap_u64];omega
    rw [e,big4 (-a) (by omega) (by omega)]
    simp [h]
  · rw [if_neg h]
    simp only [verdererref03_big.j0]
    have e : IntKind.u64.wrap a = a := by rw [Go.IntKind.wrap_u64];omega
    rw [e,big4 a (by omega) (by omega)]
    simp [h]
def addD (a b : List Int) : Nat → Int → Nat → List Int
  | _,_,0 => []
  | i,c,m + 1 => ((dg a i + dg b i + c) % 65536) :: addD a b (i + 1) ((dg a i + dg b i + c) / 65536) m
theorem plus_l1 (a b : List Int) (na nb s : Bool) (ha : Dg a) (hb : Dg b) (la : a.length ≤ 1000) (lb : b.length ≤ 1000) : ∀ m (i : Nat) (c : Int) (out : List Int) k,i + m = 20 → out.length = i → 0 ≤ c → c ≤ 1 → m < k → verdererref03_Plus.l1 k c (i : Int) na a nb b s out = some (s,out ++ addD a b i c m) := by
  intro m
  induction m with
  | zero =>
    intro i c out k hi ho h0 h1 hk
    obtain ⟨k,rfl⟩ : ∃ m,k = m + 1 := ⟨k - 1,by omega⟩
    simp only [verdererref03_Plus.l1]
    rw [if_neg (by omega)]
    simp [addD]
  | succ m ih =>
    intro i c out k hi ho h0 h1 hk
    obtain ⟨k,rfl⟩ : ∃ m,k = m + 1 := ⟨k - 1,by omega⟩
    obtain ⟨a0,a1⟩ := ha i
    obtain ⟨b0,b1⟩ := hb i
    simp only [verdererref03_Plus.l1]
    have e : IntKind.u64.wrap (IntKind.u64.wrap (dg a i + dg b i) + c) = dg a i + dg b i + c := by rw [Go.IntKind.wrap_u64,Go.IntKind.wrap_u64];omega
    rw [if_pos (by omega),at_f _ _ la,at_f _ _ lb,Option.bind_some,Option.bind_some,if_pos (by omega),e,wrap_id1 (by omega) (by omega),Int.tdiv_eq_ediv_of_nonneg (by omega),Int.tmod_eq_emod_of_nonneg (by omega),Go.IntKind.wrap_u64,show (dg a i + dg b i + c) / 65536 % 18446744073709551616 = (dg a i + dg b i + c) / 65536 by omega,show ((i : Int) + 1) = ((i + 1 : Nat) : Int) by omega]
    rw [ih (i + 1) _ _ k (by omega) (by simp [ho]) (by omega) (by omega) (by omega)]
    simp [addD]
theorem addD_val (a b : List Int) (ha : Dg a) (hb : Dg b) : ∀ m (i : Nat) (c : Int),0 ≤ c → c ≤ 1 → ∃ c',0 ≤ c' ∧ c' ≤ 1 ∧ val (addD a b i c m) + 65536 ^ m * c' = from_ a i m + from_ b i m + c := by
  intro m
  induction m with
  | zero => intro i c h0 h1;exact ⟨c,h0,h1,by simp [addD,val,from_]⟩
  | succ m ih =>
    intro i c h0 h1
    obtain ⟨a0,a1⟩ := ha i
    obtain ⟨b0,b1⟩ := hb i
    obtain ⟨c',g0,g1,g⟩ := ih (i + 1) ((dg a i + dg b i + c) / 65536) (by omega) (by omega)
    refine ⟨c',g0,g1,?_⟩
    simp only [addD,val,from_,Int.pow_succ]
    rw [Int.mul_comm (65536 ^ m) 65536,Int.mul_assoc]
    generalize 65536 ^ m * c' = z at *
    omega
theorem addD_dg (a b : List Int) : ∀ m (i : Nat) (c : Int),(addD a b i c m).length = m ∧ ∀ x ∈ addD a b i c m,0 ≤ x ∧ x < 65536 := by
  intro m
  induction m with
  | zero => intro i c;exact ⟨rfl,fun x hx => by cases hx⟩
  | succ m ih =>
    intro i c
    obtain ⟨h1,h2⟩ := ih (i + 1) ((dg a i + dg b i + c) / 65536)
    refine ⟨by simp [addD,h1],fun x hx => ?_⟩
    simp only [addD,List.mem_cons] at hx
    rcases hx with rfl | hx
    · omega
    · exact h2 x hx
end Go.Proofs.Ytcenlehfbgnphaa.Z
end
section
namespace Go.Proofs.Ytcenlehfbgnphaa.Z
set_option linter.unusedVariables false
open Go.RowKit Go.Proofs.YtcenlehfbgnphaaW.PrintWords Go.Proofs.YtcenlehfbgnphaaW.PrintLast Go.Proofs.YtcenlehfbgnphaaW.PrintMore
theorem pw_pos (n : Nat) : (0 : Int) < 65536 ^ n := Int.pow_pos (by decide)
theorem from_top (l : List Int) : ∀ n i,from_ l i (n + 1) = from_ l i n + 65536 ^ n * dg l (i + n) := by
  intro n
  induction n with
  | zero => intro i;simp [from_]
  | succ n ih =>
    intro i
    rw [from_,ih (i + 1),from_,Int.pow_succ,show i + 1 + n = i + (n + 1) by omega,Int.mul_add,Int.mul_comm (65536 ^ n) 65536,Int.mul_assoc]
    omega
theorem from_lt {l : List Int} (h : Dg l) : ∀ n i,0 ≤ from_ l i n ∧ from_ l i n < 65536 ^ n := by
  intro n
  induction n with
  | zero => intro i;simp [from_]
  | succ n ih =>
    intro i
    obtain ⟨h0,h1⟩ := ih (i + 1)
    obtain ⟨g0,g1⟩ := h i
    rw [from_,Int.pow_succ,Int.mul_comm (65536 ^ n)]
    omega
theorem from_add (l : List Int) : ∀ m n i,from_ l i (m + n) = from_ l i m + 65536 ^ m * from_ l (i + m) n := by
  intro m
  induction m with
  | zero => intro n i;simp [from_]
  | succ m ih =>
    intro n i
    rw [show m + 1 + n = (m + n) + 1 by omega,from_,ih n (i + 1),from_,Int.pow_succ,show i + 1 + m = i + (m + 1) by omega,Int.mul_add,Int.mul_comm (65536 ^ m) 65536,Int.mul_assoc]
    omega
theorem val_from : ∀ (l : List Int) (p : List Int),from_ (p ++ l) p.length l.length = val l := by
  intro l
  induction l with
  | nil => intro p;rfl
  | cons d ds ih =>
    intro p
    have h := ih (p ++ [d])
    rw [List.append_assoc,List.length_append] at h
    simp only [List.length_cons,from_,val]
    have e : dg (p ++ d :: ds) p.length = d := by simp [dg]
    rw [e]
    simp only [List.length_cons,List.length_nil,List.cons_append,List.nil_append] at h
    rw [show p.length + 1 = p.length + (0 + 1) by omega,h]
theorem val_whole (l : List Int) : from_ l 0 l.length = val l := val_from l []
theorem top_lt {p x y d e : Int} (hp : 0 < p) (hx : x < p) (hy : 0 ≤ y) (h : d < e) : x + p * d < y + p * e := by
  have h1 : p * (d + 1) ≤ p * e := Int.mul_le_mul_of_nonneg_left (by omega) (by omega)
  rw [Int.mul_add,Int.mul_one] at h1
  omega
theorem less_l0 (a b : List Int) (na nb : Bool) (ha : Dg a) (hb : Dg b) (la : a.length ≤ 1000) (lb : b.length ≤ 1000) : ∀ n k,n ≤ 20 → n < k → verdererref03_less.l0 k ((n : Int) - 1) na a nb b = some (decide (from_ a 0 n < from_ b 0 n)) := by
  intro n
  induction n with
  | zero =>
    intro k _ hk
    obtain ⟨k,rfl⟩ : ∃ m,k = m + 1 := ⟨k - 1,by omega⟩
    simp only [verdererref03_less.l0]
    rw [if_neg (by omega)]
    simp [from_]
  | succ n ih =>
    intro k hn hk
    obtain ⟨k,rfl⟩ : ∃ m,k = m + 1 := ⟨k - 1,by omega⟩
    simp only [verdererref03_less.l0]
    rw [show ((n + 1 : Nat) : Int) - 1 = (n : Int) by omega,if_pos (by omega),at_f _ _ la,at_f _ _ lb]
    simp only [Option.bind_some]
    rw [from_top,from_top,Nat.zero_add]
    obtain ⟨a0,a1⟩ := from_lt ha n 0
    obtain ⟨b0,b1⟩ := from_lt hb n 0
    have hp := pw_pos n
    by_cases h : dg a n = dg b n
    · rw [if_pos h,wrap_id1 (by omega) (by omega),ih k (by omega) (by omega),h]
      congr 1
      rw [decide_eq_decide]
      omega
    · rw [if_neg h]
      congr 1
      rw [decide_eq_decide]
      rcases Int.lt_or_gt_of_ne h with h1 | h1
      · have := top_lt hp a1 b0 h1
        omega
      · have := top_lt hp b1 a0 h1
        omega
theorem less_f (a b : List Int) (na nb : Bool) (ha : Dg a) (hb : Dg b) (la : a.length ≤ 1000) (lb : b.length ≤ 1000) (k : Nat) (hk : 20 < k) : verdererref03_less.f k na a nb b = some (decide (from_ a 0 20 < from_ b 0 20)) := less_l0 a b na nb ha hb la lb 20 k (by omega) hk
def subD (a b : List Int) : Nat → Int → Nat → List Int
  | _,_,0 => []
  | i,c,m + 1 => ((dg a i + 65536 - dg b i - c) % 65536) :: subD a b (i + 1) (1 - (dg a i + 65536 - dg b i - c) / 65536) m
theorem plus_l0 (a b : List Int) (na nb s : Bool) (ha : Dg a) (hb : Dg b) (la : a.length ≤ 1000) (lb : b.length ≤ 1000) : ∀ m (i : Nat) (c : Int) (out : List Int) k,i + m = 20 → out.length = i → 0 ≤ c → c ≤ 1 → m < k → verdererref03_Plus.l0 k c (i : Int) na a nb b s out = some (s,out ++ subD a b i c m) := by
  intro m
  induction m with
  | zero =>
    intro i c out k hi ho h0 h1 hk
    obtain ⟨k,rfl⟩ : ∃ m,k = m + 1 := ⟨k - 1,by omega⟩
    simp only [verdererref03_Plus.l0]
    rw [if_neg (by omega)]
    simp [subD]
  | succ m ih =>
    intro i c out k hi ho h0 h1 hk
    obtain ⟨k,rfl⟩ : ∃ m,k = m + 1 := ⟨k - 1,by omega⟩
    obtain ⟨a0,a1⟩ := ha i
    obtain ⟨b0,b1⟩ := hb i
    simp only [verdererref03_Plus.l0]
    have e : IntKind.u64.wrap (IntKind.u64.wrap (IntKind.u64.wrap (dg a i + 65536) - dg b i) - c) = dg a i + 65536 - dg b i - c := by rw [Go.IntKind.wrap_u64,Go.IntKind.wrap_u64,Go.IntKind.wrap_u64];omega
    rw [if_pos (by omega),at_f _ _ la,at_f _ _ lb,Option.bind_some,Option.bind_some,if_pos (by omega),e,wrap_id1 (by omega) (by omega),Int.tdiv_eq_ediv_of_nonneg (by omega),Int.tmod_eq_emod_of_nonneg (by omega)]
    have e2 : IntKind.u64.wrap (1 - IntKind.u64.wrap ((dg a i + 65536 - dg b i - c) / 65536)) = 1 - (dg a i + 65536 - dg b i - c) / 65536 := by rw [Go.IntKind.wrap_u64,Go.IntKind.wrap_u64];omega
    rw [e2,show ((i : Int) + 1) = ((i + 1 : Nat) : Int) by omega]
    rw [ih (i + 1) _ _ k (by omega) (by simp [ho]) (by omega) (by omega) (by omega)]
    simp [subD]
theorem subD_val (a b : List Int) (ha : Dg a) (hb : Dg b) : ∀ m (i : Nat) (c : Int),0 ≤ c → c ≤ 1 → ∃ c',0 ≤ c' ∧ c' ≤ 1 ∧ val (subD a b i c m) - 65536 ^ m * c' = from_ a i m - from_ b i m - c := by
  intro m
  induction m with
  | zero => intro i c h0 h1;exact ⟨c,h0,h1,by simp [subD,val,from_]⟩
  | succ m ih =>
    intro i c h0 h1
    obtain ⟨a0,a1⟩ := ha i
    obtain ⟨b0,b1⟩ := hb i
    obtain ⟨c',g0,g1,g⟩ := ih (i + 1) (1 - (dg a i + 65536 - dg b i - c) / 65536) (by omega) (by omega)
    refine ⟨c',g0,g1,?_⟩
    simp only [subD,val,from_,Int.pow_succ]
    rw [Int.mul_comm (65536 ^ m) 65536,Int.mul_assoc]
    generalize 65536 ^ m * c' = z at *
    omega
theorem subD_dg (a b : List Int) : ∀ m (i : Nat) (c : Int),(subD a b i c m).length = m ∧ ∀ x ∈ subD a b i c m,0 ≤ x ∧ x < 65536 := by
  intro m
  induction m with
  | zero => intro i c;exact ⟨rfl,fun x hx => by cases hx⟩
  | succ m ih =>
    intro i c
    obtain ⟨h1,h2⟩ := ih (i + 1) (1 - (dg a i + 65536 - dg b i - c) / 65536)
    refine ⟨by simp [subD,h1],fun x hx => ?_⟩
    simp only [subD,List.mem_cons] at hx
    rcases hx with rfl | hx
    · omega
    · exact h2 x hx
theorem dg_of {l : List Int} (h : ∀ x ∈ l,0 ≤ x ∧ x < 65536) : Dg l := by
  intro i
  unfold dg
  by_cases hi : i < l.length
  · have := h _ (List.getElem_mem hi)
    simpa [List.getD,List.getElem?_eq_getElem hi] using this
  · simp [List.getD,List.getElem?_eq_none (show l.length ≤ i by omega)]
def sg (s : Bool) (v : Int) : Int := if s then -v else v
theorem plus_f (a b : List Int) (na nb : Bool) (ha : Dg a) (hb : Dg b) (la : a.length ≤ 1000) (lb : b.length ≤ 1000) (hs : from_ a 0 20 + from_ b 0 20 < 65536 ^ 20) (k : Nat) (hk : 23 < k) :
    ∃ s l,verdererref03_Plus.f k na a nb b = some (s,l) ∧ l.length = 20 ∧ Dg l ∧ sg s (from_ l 0 20) = sg na (from_ a 0 20) + sg nb (from_ b 0 20) := by
  have sub (a b : List Int) (na nb : Bool) (ha : Dg a) (hb : Dg b) (la : a.length ≤ 1000) (lb : b.length ≤ 1000) (hab : from_ b 0 20 ≤ from_ a 0 20) (k : Nat) (hk : 20 < k) : ∃ l,verdererref03_Plus.l0 k 0 0 na a nb b na [] = some (na,l) ∧ l.length = 20 ∧ Dg l ∧ from_ l 0 20 = from_ a 0 20 - from_ b 0 20 := by
    have h := plus_l0 a b na nb na ha hb la lb 20 0 0 [] k (by omega) rfl (by omega) (by omega) hk
    obtain ⟨c,c0,c1,hc⟩ := subD_val a b ha hb 20 0 0 (by omega) (by omega)
    obtain ⟨h1,h2⟩ := subD_dg a b 20 0 0
    have hd := dg_of h2
    have hv := val_whole (subD a b 0 0 20)
    rw [h1] at hv
    obtain ⟨v0,v1⟩ := from_lt hd 20 0
    refine ⟨_,h,h1,hd,?_⟩
    rw [List.nil_append,hv]
    rw [hv] at v0 v1
    have hp := pw_pos 20
    generalize (65536 : Int) ^ 20 = p at *
    have : c = 0 := by
      rcases (show c = 0 ∨ c = 1 by omega) with e | e
      · exact e
      · rw [e] at hc;omega
    rw [this] at hc
    omega
  obtain ⟨k,rfl⟩ : ∃ m,k = m + 1 := ⟨k - 1,by omega⟩
  rw [verdererref03_Plus.f]
  by_cases hn : (na != nb) = true
  · rw [if_pos hn,less_f a b na nb ha hb la lb k (by omega),Option.bind_some]
    by_cases hlt : from_ a 0 20 < from_ b 0 20
    · rw [if_pos (decide_eq_true hlt)]
      obtain ⟨k,rfl⟩ : ∃ m,k = m + 1 := ⟨k - 1,by omega⟩
      rw [verdererref03_Plus.f,if_pos (by cases na <;> cases nb <;> simp_all),less_f b a nb na hb ha lb la k (by omega),Option.bind_some,if_neg (by rw [decide_eq_true_eq];omega)]
      obtain ⟨l,e,h1,h2,h3⟩ := sub b a nb na hb ha lb la (by omega) k (by omega)
      refine ⟨nb,l,by rw [e];rfl,h1,h2,?_⟩
      rw [h3]
      unfold sg
      cases na <;> cases nb <;> simp_all <;> omega
    · rw [if_neg (by rw [decide_eq_true_eq];omega)]
      obtain ⟨l,e,h1,h2,h3⟩ := sub a b na nb ha hb la lb (by omega) k (by omega)
      refine ⟨na,l,e,h1,h2,?_⟩
      rw [h3]
      unfold sg
      cases na <;> cases nb <;> simp_all <;> omega
  · rw [if_neg hn]
    have h := plus_l1 a b na nb na ha hb la lb 20 0 0 [] k (by omega) rfl (by omega) (by omega) (by omega)
    obtain ⟨c,c0,c1,hc⟩ := addD_val a b ha hb 20 0 0 (by omega) (by omega)
    obtain ⟨h1,h2⟩ := addD_dg a b 20 0 0
    have hd := dg_of h2
    have hv := val_whole (addD a b 0 0 20)
    rw [h1] at hv
    obtain ⟨v0,v1⟩ := from_lt hd 20 0
    refine ⟨na,_,h,h1,hd,?_⟩
    rw [List.nil_append,hv]
    rw [hv] at v0 v1
    generalize (65536 : Int) ^ 20 = p at *
    have : c = 0 := by
      rcases (show c = 0 ∨ c = 1 by omega) with e | e
      · exact e
      · rw [e] at hc;omega
    rw [this] at hc
    unfold sg
    cases na <;> cases nb <;> simp_all <;> omega
end Go.Proofs.Ytcenlehfbgnphaa.Z
end
section
namespace Go.Proofs.Ytcenlehfbgnphaa.Z
set_option linter.unusedVariables false
open Go.RowKit Go.Proofs.YtcenlehfbgnphaaW.PrintWords Go.Proofs.YtcenlehfbgnphaaW.PrintLast Go.Proofs.YtcenlehfbgnphaaW.PrintMore
theorem value_hi (l : List Int) (s : Bool) (hd : Dg l) (hl : l.length ≤ 1000) : ∀ n k,n ≤ 16 → verdererref03_Big_Value.l0 (k + 2 * n) 0 ((n : Int) + 3) s l = if from_ l 4 n > 0 then some (0,10) else verdererref03_Big_Value.l0 k 0 3 s l := by
  intro n
  induction n with
  | zero => intro k _;simp [from_]
  | succ n ih =>
    intro k hn
    obtain ⟨d0,d1⟩ := hd (n + 4)
    obtain ⟨f0,f1⟩ := from_lt hd n 4
    have hp := pw_pos n
    rw [show k + 2 * (n + 1) = k + 2 * n + 1 + 1 by omega,show ((n + 1 : Nat) : Int) + 3 = ((n + 4 : Nat) : Int) by omega,from_top,show 4 + n = n + 4 by omega]
    simp only [verdererref03_Big_Value.l0]
    rw [if_pos (by omega),if_pos (by omega),at_f _ _ hl,Option.bind_some]
    simp only [verdererref03_Big_Value.j1]
    by_cases h : dg l (n + 4) > 0
    · have := Int.mul_pos hp h
      rw [if_pos (decide_eq_true h),if_pos (by omega)]
    · have e : dg l (n + 4) = 0 := by omega
      rw [if_neg (by rw [decide_eq_true_eq];exact h),if_neg (by omega),wrap_id1 (by omega) (by omega),show ((n + 4 : Nat) : Int) - 1 = (n : Int) + 3 by omega,ih k (by omega),e]
      simp
theorem value_f (l : List Int) (s : Bool) (hd : Dg l) (hl : l.length ≤ 1000) (k : Nat) (hk : 60 ≤ k) : verdererref03_Big_Value.f k s l = some (fitF (sg s (from_ l 0 20))) := by
  unfold verdererref03_Big_Value.f
  obtain ⟨k,rfl⟩ : ∃ m,k = (m + 10) + 2 * 16 := ⟨k - 42,by omega⟩
  have h := value_hi l s hd hl 16 (k + 10) (by omega)
  rw [show ((16 : Nat) : Int) + 3 = 19 from rfl] at h
  rw [h,show (20 : Nat) = 4 + 16 from rfl,from_add,show (65536 : Int) ^ 4 = 18446744073709551616 from rfl]
  obtain ⟨f0,f1⟩ := from_lt hd 4 0
  obtain ⟨g0,g1⟩ := from_lt hd 16 4
  rw [show (65536 : Int) ^ 4 = 18446744073709551616 from rfl] at f1
  rw [show 0 + 4 = 4 from rfl]
  clear h
  generalize from_ l 4 16 = H at *
  by_cases hH : H > 0
  · rw [if_pos hH]
    unfold fitF sg
    congr 1
    cases s
    · simp only [Bool.false_eq_true,if_false];rw [if_neg (by omega)]
    · simp only [if_true];rw [if_neg (by omega)]
  · rw [if_neg hH,show H = 0 by omega,Int.mul_zero,Int.add_zero]
    have e (n : Nat) (x : Int) (i : Nat) (hx : 0 ≤ x) (hx1 : x < 281474976710656) (hi : i ≤ 3) : verdererref03_Big_Value.l0 (n + 1 + 1) x (i : Int) s l = verdererref03_Big_Value.l0 n (x * 65536 + dg l i) ((i : Int) - 1) s l := by
      obtain ⟨d0,d1⟩ := hd i
      simp only [verdererref03_Big_Value.l0]
      rw [if_pos (by omega),if_neg (by omega)]
      simp only [verdererref03_Big_Value.j1,Bool.false_eq_true,if_false]
      rw [if_pos (by omega),at_f _ _ hl,Option.bind_some,wrap_id1 (by omega) (by omega),Go.IntKind.wrap_u64,Go.IntKind.wrap_u64,show (x * 65536 % 18446744073709551616 + dg l i) % 18446744073709551616 = x * 65536 + dg l i by omega]
    obtain ⟨a0,a1⟩ := hd 0
    obtain ⟨b0,b1⟩ := hd 1
    obtain ⟨c0,c1⟩ := hd 2
    obtain ⟨d0,d1⟩ := hd 3
    have e3 := e (k + 8) 0 3 (by omega) (by omega) (by omega)
    have e2 := e (k + 6) (0 * 65536 + dg l 3) 2 (by omega) (by omega) (by omega)
    have e1 := e (k + 4) ((0 * 65536 + dg l 3) * 65536 + dg l 2) 1 (by omega) (by omega) (by omega)
    have e0 := e (k + 2) (((0 * 65536 + dg l 3) * 65536 + dg l 2) * 65536 + dg l 1) 0 (by omega) (by omega) (by omega)
    have hv : from_ l 0 4 = (((0 * 65536 + dg l 3) * 65536 + dg l 2) * 65536 + dg l 1) * 65536 + dg l 0 := by
      simp only [from_,Nat.zero_add,Nat.reduceAdd]
      omega
    rw [show ((3 : Nat) : Int) = 3 from rfl,show (3 : Int) - 1 = ((2 : Nat) : Int) from rfl] at e3
    rw [show ((2 : Nat) : Int) - 1 = ((1 : Nat) : Int) from rfl] at e2
    rw [show ((1 : Nat) : Int) - 1 = ((0 : Nat) : Int) from rfl] at e1
    rw [show ((0 : Nat) : Int) - 1 = -1 from rfl] at e0
    rw [e3,e2,e1,e0,← hv]
    clear e e0 e1 e2 e3 hv
    generalize from_ l 0 4 = V at *
    simp only [verdererref03_Big_Value.l0]
    rw [if_neg (by decide)]
    unfold fitF sg
    cases s
    · simp only [Bool.false_eq_true,if_false,verdererref03_Big_Value.j2]
      by_cases hV : V < 9223372036854775808
      · rw [if_pos hV,if_pos (by omega),wrap_id1 (by omega) (by omega)]
      · rw [if_neg hV,if_neg (by omega)]
    · simp only [if_true,verdererref03_Big_Value.j2]
      by_cases hV : V ≤ 9223372036854775808
      · rw [if_pos (decide_eq_true hV),if_pos (by omega),Go.IntKind.wrap_u64]
        have : wrap64 (-V % 18446744073709551616) = -V := by unfold wrap64;omega
        rw [this]
      · rw [if_neg (by rw [decide_eq_true_eq];exact hV),if_neg (by omega)]
theorem four_dg (a : Int) (ha : In64 a) : Dg (four a) := by
  apply dg_of
  unfold In64 at ha
  intro x hx
  simp only [four,List.mem_cons,List.not_mem_nil,or_false] at hx
  rcases hx with rfl | rfl | rfl | rfl <;> split <;> omega
theorem four_hi (a : Int) (n : Nat) (h : 4 ≤ n) : dg (four a) n = 0 := by
  unfold dg
  simp [List.getD,List.getElem?_eq_none (show (four a).length ≤ n by simpa [four] using h)]
theorem from_zero {l : List Int} : ∀ m i,(∀ n,i ≤ n → dg l n = 0) → from_ l i m = 0 := by
  intro m
  induction m with
  | zero => intro i _;rfl
  | succ m ih => intro i h;rw [from_,h i (Nat.le_refl _),ih (i + 1) (fun n hn => h n (by omega))];rfl
theorem four_from (a : Int) (ha : In64 a) (m : Nat) : from_ (four a) 0 (4 + m) = (if a < 0 then -a else a) := by
  rw [from_add,from_zero m (0 + 4) (fun n hn => four_hi a n (by omega)),Int.mul_zero,Int.add_zero]
  have e : from_ (four a) 0 4 = val (four a) := val_whole (four a)
  rw [e]
  unfold four In64 at *
  simp only [val]
  split <;> omega
theorem sg_four (a : Int) : sg (decide (a < 0)) (if a < 0 then -a else a) = a := by
  unfold sg
  by_cases h : a < 0
  · rw [if_pos (decide_eq_true h),if_pos h];omega
  · rw [if_neg (by rw [decide_eq_true_eq];exact h),if_neg h]
theorem add_f {a b : Int} (ha : In64 a) (hb : In64 b) (k : Nat) (hk : 100 ≤ k) : verdererref03_Add.f k a b = some (fitF (a + b)) := by
  obtain ⟨k,rfl⟩ : ∃ m,k = m + 6 := ⟨k - 6,by omega⟩
  unfold verdererref03_Add.f
  rw [big_f ha,big_f hb]
  simp only [Option.bind_some]
  have fa := four_from a ha 16
  have fb := four_from b hb 16
  obtain ⟨s,l,e,h1,h2,h3⟩ := plus_f (four a) (four b) (decide (a < 0)) (decide (b < 0)) (four_dg a ha) (four_dg b hb) (by simp [four]) (by simp [four]) (by rw [show (20 : Nat) = 4 + 16 from rfl,fa,fb];unfold In64 at ha hb;rw [show (65536 : Int) ^ (4 + 16) = 2135987035920910082395021706169552114602704522356652769947041607822219725780640550022962086936576 from by decide +kernel];split <;> split <;> omega) (k + 6) (by omega)
  rw [show (20 : Nat) = 4 + 16 from rfl,fa,fb,sg_four,sg_four] at h3
  rw [e]
  simp only [Option.bind_some]
  rw [value_f l s h2 (by omega) (k + 6) (by omega),show (20 : Nat) = 4 + 16 from rfl,h3]
  rfl
theorem sub_f {a b : Int} (ha : In64 a) (hb : In64 b) (k : Nat) (hk : 100 ≤ k) : verdererref03_Sub.f k a b = some (fitF (a - b)) := by
  obtain ⟨k,rfl⟩ : ∃ m,k = m + 6 := ⟨k - 6,by omega⟩
  unfold verdererref03_Sub.f
  rw [big_f ha,big_f hb]
  simp only [Option.bind_some]
  have fa := four_from a ha 16
  have fb := four_from b hb 16
  obtain ⟨s,l,e,h1,h2,h3⟩ := plus_f (four a) (four b) (decide (a < 0)) (!decide (b < 0)) (four_dg a ha) (four_dg b hb) (by simp [four]) (by simp [four]) (by rw [show (20 : Nat) = 4 + 16 from rfl,fa,fb];unfold In64 at ha hb;rw [show (65536 : Int) ^ (4 + 16) = 2135987035920910082395021706169552114602704522356652769947041607822219725780640550022962086936576 from by decide +kernel];split <;> split <;> omega) (k + 6) (by omega)
  have hs : sg (!decide (b < 0)) (if b < 0 then -b else b) = -b := by
    unfold sg
    by_cases h : b < 0 <;> simp [h]
  rw [show (20 : Nat) = 4 + 16 from rfl,fa,fb,sg_four,hs] at h3
  rw [e]
  simp only [Option.bind_some]
  rw [value_f l s h2 (by omega) (k + 6) (by omega),show (20 : Nat) = 4 + 16 from rfl,h3,Int.sub_eq_add_neg]
  rfl
end Go.Proofs.Ytcenlehfbgnphaa.Z
end
section
namespace Go.Proofs.Ytcenlehfbgnphaa.Z
set_option linter.unusedVariables false
set_option linter.unusedSimpArgs false
set_option maxHeartbeats 1000000
open Go.RowKit Go.Proofs.YtcenlehfbgnphaaW.PrintWords Go.Proofs.YtcenlehfbgnphaaW.PrintLast Go.Proofs.YtcenlehfbgnphaaW.PrintMore
theorem dg_set (l : List Int) (p : Nat) (d : Int) (h : p < l.length) (n : Nat) : dg (l.set p d) n = if n = p then d else dg l n := by
  unfold dg
  by_cases e : n = p
  · subst e;simp [List.getD,h]
  · rw [if_neg e];simp [List.getD,List.getElem?_set_ne (fun q => e q.symm)]
theorem from_set (l : List Int) (p : Nat) (d : Int) (h : p < l.length) : ∀ n,from_ (l.set p d) 0 n = from_ l 0 n + (if p < n then 65536 ^ p * (d - dg l p) else 0) := by
  intro n
  induction n with
  | zero => simp [from_]
  | succ n ih =>
    rw [from_top,from_top,ih,Nat.zero_add,dg_set l p d h]
    rcases Nat.lt_trichotomy p n with g | g | g
    · rw [if_pos g,if_neg (show ¬ n = p by omega),if_pos (show p < n + 1 by omega)];omega
    · subst g
      rw [if_neg (show ¬ p < p by omega),if_pos rfl,if_pos (show p < p + 1 by omega),Int.mul_sub];omega
    · rw [if_neg (show ¬ p < n by omega),if_neg (show ¬ n = p by omega),if_neg (show ¬ p < n + 1 by omega)];omega
theorem step_sum {p a b F c o : Int} : p * ((o + a * b + c) % 65536 - o) + p * 65536 * ((o + a * b + c) / 65536 + a * F) = p * (c + a * (b + 65536 * F)) := by
  rw [Int.mul_assoc,← Int.mul_add]
  congr 1
  have e : a * (b + 65536 * F) = a * b + 65536 * (a * F) := by rw [Int.mul_add,Int.mul_left_comm]
  rw [e]
  omega
theorem pw_mono {m n : Nat} (h : m ≤ n) : (65536 : Int) ^ m ≤ 65536 ^ n := by
  obtain ⟨d,rfl⟩ : ∃ d,n = m + d := ⟨n - m,by omega⟩
  rw [Int.pow_add]
  have h1 := Int.mul_le_mul_of_nonneg_left (show (1 : Int) ≤ 65536 ^ d from pw_pos d) (Int.le_of_lt (pw_pos m))
  omega
theorem prod_lt {a b A B : Int} (a0 : 0 ≤ a) (b0 : 0 ≤ b) (h1 : a ≤ A) (h2 : b ≤ B) : 0 ≤ a * b ∧ a * b ≤ A * B := ⟨Int.mul_nonneg a0 b0,Int.mul_le_mul h1 h2 b0 (by omega)⟩
theorem from_succ (l : List Int) (i n : Nat) : from_ l i (n + 1) = dg l i + 65536 * from_ l (i + 1) n := rfl
theorem times_eq (p A B F c o V : Int) : V + p * ((o + A * B + c) % 65536 - o) + p * 65536 * ((o + A * B + c) / 65536 + A * F) = V + p * (c + A * (B + 65536 * F)) := by
  have h := @step_sum p A B F c o
  rw [Int.add_assoc,h]
theorem times_fin {a b F c o X Y Z q Fb : Int} (n : Nat) {n' : Nat} (hs : Z = Y + (if n < n' then 65536 ^ n * ((o + a * b + c) % 65536 - o) else 0)) (hn : n < n') (hF : Fb = b + 65536 * F) (r : X + q = Z + 65536 ^ (n + 1) * ((o + a * b + c) / 65536 + a * F)) : X + q = Y + 65536 ^ n * (c + a * Fb) := by
  rw [if_pos hn] at hs
  rw [r,hs,hF,Int.pow_succ]
  generalize (65536 : Int) ^ n = P
  exact times_eq P a b F c o Y
theorem wrap_sum {m n : Nat} (h : m + n ≤ 1000) : wrap64 ((m : Int) + (n : Int)) = ((m + n : Nat) : Int) := by unfold wrap64;omega
theorem wrap_step {o q c : Int} (o0 : 0 ≤ o) (o1 : o < 65536) (q0 : 0 ≤ q) (q1 : q ≤ 65535 * 65535) (h0 : 0 ≤ c) (h1 : c ≤ 65535) : IntKind.u64.wrap (IntKind.u64.wrap (o + IntKind.u64.wrap q) + c) = o + q + c := by
  rw [Go.IntKind.wrap_u64,Go.IntKind.wrap_u64,Go.IntKind.wrap_u64];omega
theorem times_l1 (a b : List Int) (na nb s : Bool) (ha : Dg a) (hb : Dg b) (la : a.length ≤ 1000) (lb : b.length ≤ 1000) (i : Nat) (hi : i < 4) : ∀ m (j : Nat) (c : Int) (out : List Int) k,j + m = 12 → out.length = 20 → Dg out → 0 ≤ c → c ≤ 65535 →
    ∃ out' c',out'.length = 20 ∧ Dg out' ∧ 0 ≤ c' ∧ c' ≤ 65535 ∧ from_ out' 0 20 + 65536 ^ (i + 12) * c' = from_ out 0 20 + 65536 ^ (i + j) * (c + dg a i * from_ b j m) ∧ verdererref03_Times.l1 (k + m + 1) (i : Int) c (j : Int) na a nb b s out = verdererref03_Times.l0 k ((i + 1 : Nat) : Int) na a nb b s out' := by
  intro m
  induction m with
  | zero =>
    intro j c out k hj ho hd h0 h1
    refine ⟨out,c,ho,hd,h0,h1,?_,?_⟩
    · obtain rfl : j = 12 := by omega
      have e : from_ b 12 0 = 0 := rfl
      rw [e,Int.mul_zero,Int.add_zero]
    · simp only [Nat.add_zero,verdererref03_Times.l1]
      rw [if_neg (by omega),wrap_id1 (by omega) (by omega)]
      rfl
  | succ m ih =>
    intro j c out k hj ho hd h0 h1
    obtain ⟨a0,a1⟩ := ha i
    obtain ⟨b0,b1⟩ := hb j
    obtain ⟨o0,o1⟩ := hd (i + j)
    obtain ⟨q0,q1⟩ := prod_lt a0 b0 (show dg a i ≤ 65535 by omega) (show dg b j ≤ 65535 by omega)
    have hlt : i + j < out.length := by omega
    have ed : 0 ≤ dg out (i + j) + dg a i * dg b j + c := by omega
    have h20 : i + j < 20 := by omega
    have k1 : k + (m + 1) + 1 = (k + m + 1) + 1 := by omega
    have k2 : (j : Int) < 12 := by omega
    have k3 : 0 ≤ ((i + j : Nat) : Int) := by omega
    have k4 : ((i + j : Nat) : Int) < (out.length : Int) := by omega
    have k5 : (dg out (i + j) + dg a i * dg b j + c) / 65536 % 18446744073709551616 = (dg out (i + j) + dg a i * dg b j + c) / 65536 := by omega
    have k7 : j + 1 + m = 12 := by omega
    have k8 : 0 ≤ (dg out (i + j) + dg a i * dg b j + c) / 65536 := by omega
    have k9 : (dg out (i + j) + dg a i * dg b j + c) / 65536 ≤ 65535 := by omega
    have kd : Dg (out.set (i + j) ((dg out (i + j) + dg a i * dg b j + c) % 65536)) := by
      intro n
      rw [dg_set _ _ _ hlt]
      split
      · omega
      · exact hd n
    have kl : (out.set (i + j) ((dg out (i + j) + dg a i * dg b j + c) % 65536)).length = 20 := by simpa using ho
    have h12 : j + 1 ≤ 1000 := by omega
    have ei : wrap64 ((i : Int) + (j : Int)) = ((i + j : Nat) : Int) := wrap_sum (by omega)
    have er : rd out ((i + j : Nat) : Int) = dg out (i + j) := rfl
    have e : IntKind.u64.wrap (IntKind.u64.wrap (dg out (i + j) + IntKind.u64.wrap (dg a i * dg b j)) + c) = dg out (i + j) + dg a i * dg b j + c := wrap_step o0 o1 q0 q1 h0 h1
    have k6 : wrap64 ((j : Int) + 1) = ((j + 1 : Nat) : Int) := wrap_sum (n := 1) h12
    have fs := from_set out (i + j) ((dg out (i + j) + dg a i * dg b j + c) % 65536) hlt 20
    have fb := from_succ b j m
    obtain ⟨out',c',r1,r2,r3,r4,r5,r6⟩ := ih (j + 1) _ _ k k7 kl kd k8 k9
    refine ⟨out',c',r1,r2,r3,r4,?_,?_⟩
    · exact times_fin (i + j) fs h20 fb r5
    · rw [k1,verdererref03_Times.l1,if_pos k2,ei,if_pos k3,if_pos k4,at_f _ _ la,at_f _ _ lb,Option.bind_some,Option.bind_some,er,e,Int.tdiv_eq_ediv_of_nonneg ed,Int.tmod_eq_emod_of_nonneg ed,Go.IntKind.wrap_u64,k5,k6,show ((i + j : Nat) : Int).toNat = i + j from rfl]
      exact r6
theorem times_l0 (a b : List Int) (na nb s : Bool) (ha : Dg a) (hb : Dg b) (la : a.length ≤ 1000) (lb : b.length ≤ 1000) (hB : from_ b 0 12 < 65536 ^ 4) : ∀ m (i : Nat) (out : List Int) k,i + m = 4 → out.length = 20 → Dg out → from_ out 0 20 = from_ a 0 i * from_ b 0 12 →
    ∃ out',out'.length = 20 ∧ Dg out' ∧ from_ out' 0 20 = from_ a 0 4 * from_ b 0 12 ∧ verdererref03_Times.l0 (k + 14 * m + 1) (i : Int) na a nb b s out = some (s,out') := by
  intro m
  induction m with
  | zero =>
    intro i out k hi ho hd hv
    refine ⟨out,ho,hd,by rw [hv,show i = 4 by omega],?_⟩
    simp only [Nat.mul_zero,Nat.add_zero,verdererref03_Times.l0]
    rw [if_neg (by omega)]
  | succ m ih =>
    intro i out k hi ho hd hv
    obtain ⟨out',c',r1,r2,r3,r4,r5,r6⟩ := times_l1 a b na nb s ha hb la lb i (by omega) 12 0 0 out (k + 14 * m + 1) (by omega) ho hd (by omega) (by omega)
    have hv' : from_ a 0 (i + 1) * from_ b 0 12 = from_ out 0 20 + 65536 ^ (i + 0) * (0 + dg a i * from_ b 0 12) := by
      rw [from_top,Nat.zero_add,hv,Nat.add_zero,Int.zero_add,Int.add_mul,Int.mul_assoc]
    rw [← hv'] at r5
    obtain ⟨A0,A1⟩ := from_lt ha (i + 1) 0
    obtain ⟨B0,B1⟩ := from_lt hb 12 0
    obtain ⟨o0,o1⟩ := from_lt r2 20 0
    have hp := pw_pos i
    have hA : from_ a 0 (i + 1) ≤ 65536 ^ 4 := by
      have : (65536 : Int) ^ (i + 1) ≤ 65536 ^ 4 := pw_mono (by omega)
      omega
    obtain ⟨P0,P1⟩ := prod_lt A0 B0 hA (Int.le_of_lt hB)
    have hz : c' = 0 := by
      rcases (show c' = 0 ∨ 1 ≤ c' by omega) with e | e
      · exact e
      · exfalso
        have h1 : (65536 : Int) ^ 12 ≤ 65536 ^ (i + 12) := pw_mono (by omega)
        have h2 : (65536 : Int) ^ (i + 12) * 1 ≤ 65536 ^ (i + 12) * c' := Int.mul_le_mul_of_nonneg_left e (Int.le_of_lt (pw_pos _))
        have h3 : (65536 : Int) ^ 4 * 65536 ^ 4 < 65536 ^ 12 := by decide +kernel
        generalize (65536 : Int) ^ (i + 12) = p at *
        generalize (65536 : Int) ^ 12 = q at *
        generalize (65536 : Int) ^ 4 * 65536 ^ 4 = r at *
        omega
    rw [hz,Int.mul_zero,Int.add_zero] at r5
    obtain ⟨out2,s1,s2,s3,s4⟩ := ih (i + 1) out' k (by omega) r1 r2 r5
    refine ⟨out2,s1,s2,s3,?_⟩
    rw [show k + 14 * (m + 1) + 1 = (k + 14 * m + 1) + 12 + 1 + 1 by omega]
    rw [verdererref03_Times.l0,if_pos (by omega)]
    rw [show ((0 : Nat) : Int) = 0 from rfl] at r6
    rw [r6]
    exact s4
theorem four_lt (b : Int) (hb : In64 b) : from_ (four b) 0 12 < 65536 ^ 4 := by
  have fb := four_from b hb 8
  have e : from_ (four b) 0 12 = (if b < 0 then -b else b) := fb
  rw [e,show (65536 : Int) ^ 4 = 18446744073709551616 by decide +kernel]
  unfold In64 at hb
  split <;> omega
theorem zeros_from : from_ (List.replicate 20 (0 : Int)) 0 20 = 0 := by decide +kernel
theorem zeros_dg : Dg (List.replicate 20 (0 : Int)) := dg_of (fun x hx => by rw [List.eq_of_mem_replicate hx];omega)
theorem four_len (a : Int) : (four a).length ≤ 1000 := by simp [four]
theorem times_f {a b : Int} (ha : In64 a) (hb : In64 b) (k : Nat) (hk : 100 ≤ k) : ∃ l,l.length = 20 ∧ Dg l ∧ sg (decide (a < 0) != decide (b < 0)) (from_ l 0 20) = a * b ∧ verdererref03_Times.f k a b = some (decide (a < 0) != decide (b < 0),l) := by
  obtain ⟨k,rfl⟩ : ∃ m,k = m + 14 * 4 + 1 := ⟨k - 57,by omega⟩
  obtain ⟨l,h1,h2,h3,h4⟩ := times_l0 (four a) (four b) (decide (a < 0)) (decide (b < 0)) (decide (a < 0) != decide (b < 0)) (four_dg a ha) (four_dg b hb) (four_len a) (four_len b) (four_lt b hb) 4 0 (List.replicate 20 0) k (by omega) List.length_replicate zeros_dg (by rw [zeros_from,show from_ (four a) 0 0 = 0 from rfl,Int.zero_mul])
  rw [show ((0 : Nat) : Int) = 0 from rfl] at h4
  refine ⟨l,h1,h2,?_,?_⟩
  · have fa : from_ (four a) 0 4 = (if a < 0 then -a else a) := four_from a ha 0
    have fb : from_ (four b) 0 12 = (if b < 0 then -b else b) := four_from b hb 8
    rw [h3,fa,fb]
    unfold sg
    by_cases h : a < 0 <;> by_cases g : b < 0 <;> simp [h,g,Int.neg_mul,Int.mul_neg]
  · have e1 : k + 14 * 4 + 1 = (k + 51) + 6 := rfl
    unfold verdererref03_Times.f
    rw [e1] at h4 ⊢
    rw [big_f ha,big_f hb,Option.bind_some,Option.bind_some,if_pos (by decide)]
    exact h4
theorem mul_f {a b : Int} (ha : In64 a) (hb : In64 b) (k : Nat) (hk : 100 ≤ k) : verdererref03_Mul.f k a b = some (fitF (a * b)) := by
  obtain ⟨l,h1,h2,h3,h4⟩ := times_f ha hb k hk
  unfold verdererref03_Mul.f
  rw [h4,Option.bind_some]
  rw [value_f l _ h2 (by omega) _ (by omega),h3]
  rfl
theorem and_low {x : Int} (h0 : 0 ≤ x) (h1 : x < 18446744073709551616) : Go.bits .and .u64 x 4294967295 = x % 4294967296 := Go.bits_mask .u64 64 (by decide) (fun n g0 g1 => by rw [Go.IntKind.wrap_u64];omega) 32 (by decide) x h0 h1
theorem mul64_f {x y : Int} (x0 : 0 ≤ x) (x1 : x ≤ 9223372036854775808) (y0 : 0 ≤ y) (y1 : y ≤ 9223372036854775808) : bits_Mul64.f x y = some (x * y / 18446744073709551616,x * y % 18446744073709551616) := by
  unfold bits_Mul64.f
  rw [and_low x0 (by omega),and_low y0 (by omega)]
  have hx : x = 4294967296 * (x / 4294967296) + x % 4294967296 := by omega
  have hy : y = 4294967296 * (y / 4294967296) + y % 4294967296 := by omega
  have a0 : 0 ≤ x / 4294967296 := by omega
  have a1 : x / 4294967296 ≤ 2147483648 := by omega
  have b0 : 0 ≤ x % 4294967296 := by omega
  have b1 : x % 4294967296 ≤ 4294967295 := by omega
  have c0 : 0 ≤ y / 4294967296 := by omega
  have c1 : y / 4294967296 ≤ 2147483648 := by omega
  have d0 : 0 ≤ y % 4294967296 := by omega
  have d1 : y % 4294967296 ≤ 4294967295 := by omega
  have hxy : x * y = 18446744073709551616 * (x / 4294967296 * (y / 4294967296)) + 4294967296 * (x / 4294967296 * (y % 4294967296)) + 4294967296 * (x % 4294967296 * (y / 4294967296)) + x % 4294967296 * (y % 4294967296) := by
    generalize x / 4294967296 = a at *
    generalize x % 4294967296 = b at *
    generalize y / 4294967296 = c at *
    generalize y % 4294967296 = d at *
    rw [hx,hy,Int.add_mul,Int.mul_add,Int.mul_add,Int.mul_assoc,Int.mul_assoc,Int.mul_left_comm a 4294967296 c,Int.mul_left_comm b 4294967296 c]
    omega
  obtain ⟨p0,p1⟩ := prod_lt a0 c0 a1 c1
  obtain ⟨q0,q1⟩ := prod_lt a0 d0 a1 d1
  obtain ⟨r0,r1⟩ := prod_lt b0 c0 b1 c1
  obtain ⟨t0,t1⟩ := prod_lt b0 d0 b1 d1
  rw [hxy]
  clear hxy hx hy
  generalize x / 4294967296 * (y / 4294967296) = P at *
  generalize x / 4294967296 * (y % 4294967296) = Q at *
  generalize x % 4294967296 * (y / 4294967296) = R at *
  generalize x % 4294967296 * (y % 4294967296) = T at *
  simp only [Go.IntKind.wrap_u64]
  have e1 : P % 18446744073709551616 = P := by omega
  have e2 : Q % 18446744073709551616 = Q := by omega
  have e3 : R % 18446744073709551616 = R := by omega
  have e4 : T % 18446744073709551616 = T := by omega
  have e5 : (Q + T / 4294967296) % 18446744073709551616 = Q + T / 4294967296 := by omega
  rw [e1,e2,e3,e4,e5,and_low (by omega) (by omega)]
  congr 1
  rw [Prod.mk.injEq]
  refine ⟨?_,rfl⟩
  omega
theorem size_f {a : Int} (ha : In64 a) : safe_size.f a = some (if a < 0 then -a else a) := by
  unfold safe_size.f In64 at *
  by_cases h : a < 0
  · rw [if_pos h,if_pos h,Go.IntKind.wrap_u64,Go.IntKind.wrap_u64];congr 1;omega
  · rw [if_neg h,if_neg h,Go.IntKind.wrap_u64];congr 1;omega
theorem safeMul_f {a b : Int} (ha : In64 a) (hb : In64 b) : safe_Mul.f a b = some (fitF (a * b)) := by
  unfold safe_Mul.f
  rw [size_f ha,size_f hb]
  simp only [Option.bind_some]
  have hA : 0 ≤ (if a < 0 then -a else a) ∧ (if a < 0 then -a else a) ≤ 9223372036854775808 := by unfold In64 at ha;split <;> omega
  have hB : 0 ≤ (if b < 0 then -b else b) ∧ (if b < 0 then -b else b) ≤ 9223372036854775808 := by unfold In64 at hb;split <;> omega
  rw [mul64_f hA.1 hA.2 hB.1 hB.2]
  simp only [Option.bind_some]
  have hs : a * b = if (decide (a < 0) != decide (b < 0)) = true then -((if a < 0 then -a else a) * (if b < 0 then -b else b)) else (if a < 0 then -a else a) * (if b < 0 then -b else b) := by
    by_cases h : a < 0 <;> by_cases g : b < 0 <;> simp [h,g,Int.neg_mul,Int.mul_neg]
  obtain ⟨m0,_⟩ := prod_lt hA.1 hB.1 hA.2 hB.2
  rw [hs]
  generalize (if a < 0 then -a else a) * (if b < 0 then -b else b) = M at *
  unfold safe_fits.f fitF
  by_cases hn : (decide (a < 0) != decide (b < 0)) = true
  · rw [if_pos hn,if_pos hn]
    by_cases h : M / 18446744073709551616 = 0
    · rw [if_pos h]
      have e : M % 18446744073709551616 = M := by omega
      rw [e]
      by_cases g : M ≤ 9223372036854775808
      · have ew : wrap64 (IntKind.u64.wrap (-M)) = -M := by rw [Go.IntKind.wrap_u64];unfold wrap64;omega
        rw [if_pos (decide_eq_true g),if_pos (by omega),ew];rfl
      · rw [if_neg (by rw [decide_eq_true_eq];exact g),if_neg (by omega)];rfl
    · rw [if_neg h,if_neg (by decide),if_neg (by omega)];rfl
  · rw [if_neg hn,if_neg hn]
    by_cases h : M / 18446744073709551616 = 0
    · rw [if_pos h]
      have e : M % 18446744073709551616 = M := by omega
      rw [e]
      by_cases g : M < 9223372036854775808
      · rw [if_pos (decide_eq_true g),if_pos (by omega),wrap_id1 (by omega) (by omega)];rfl
      · rw [if_neg (by rw [decide_eq_true_eq];exact g),if_neg (by omega)];rfl
    · rw [if_neg h,if_neg (by decide),if_neg (by omega)];rfl
end Go.Proofs.Ytcenlehfbgnphaa.Z
end
section
namespace Go.Proofs.Ytcenlehfbgnphaa.Z
open Go.RowKit Go.Proofs.YtcenlehfbgnphaaW.PrintWords Go.Proofs.YtcenlehfbgnphaaW.PrintLast Go.Proofs.YtcenlehfbgnphaaW.PrintMore
theorem in64_wf {a : Int} (h : (Lit.int .i64 a).wf = true) : In64 a := by
  simp [Lit.wf,IntKind.min,IntKind.max,IntKind.signed,IntKind.bits] at h
  unfold In64
  omega
theorem safeOps_pure : ∀ (a0 : Int) (a1 : Int),(Lit.int .i64 a0).wf = true → (Lit.int .i64 a1).wf = true → ∃ k,verdererlaw03_SafeOps.f k a0 a1 = some true := by
  intro a b h0 h1
  have ha := in64_wf h0
  have hb := in64_wf h1
  refine ⟨200,?_⟩
  unfold verdererlaw03_SafeOps.f
  rw [safeAdd_f ha hb,add_f ha hb 200 (by decide),safeSub_f ha hb,sub_f ha hb 200 (by decide),safeMul_f ha hb,mul_f ha hb 200 (by decide)]
  simp only [Option.bind_some,if_true]
  rfl
end Go.Proofs.Ytcenlehfbgnphaa.Z
end
namespace Go.Proofs.Ytcenlehfbgnphaa.safeOps
open Go.ChangeShapes Go.WideShapes Go.ChangeAt Go.RowKit Go.Proofs.YtcenlehfbgnphaaW.PrintWords
open Go.ChangeMaps (open_string shut_string)
set_option linter.unusedVariables false
theorem own : ownKnob Try.prog.godebug = none := by kernel_rfl
theorem laidOut : laidOutB Try.prog = true := by kernel_rfl
set_option maxRecDepth 100000 in
theorem lifted (os : Os) (started : os.Started) (H : Type) (enc : TypeId × Value → H) :
    ReturnsInHanded {} Try.checked os 6 .any (Rows.safeOpsSpec.pre6 enc Try.prog Try.f6 Rows.safeOpsRow.domain false) (Rows.safeOpsSpec.post enc Try.prog Try.f6 false true false false) := by
  refine returnsInHanded_of_change (C := Try.checked) own started (by kernel_rfl) Try.func6
    (ChangeSpec.witness6 (enc := enc) (C := Try.checked) false ⟨#[],#[.int .i64 0,.int .i64 0],[]⟩ 8 (by kernel_rfl) (by kernel_rfl) (by kernel_rfl) (by kernel_rfl)) ?_
  intro W base args ds gs before hval0 hW hcnd _
  have hval : ∀ (j : Nat) t v,Try.f6.params[j]? = some t → args[j]? = some v → Value.okWide Try.prog W .any base t v := hval0
  have hW' := hW
  obtain ⟨p,q,hA0,hV,rfl,hfz,hnd⟩ := hW
  have hA : DataW.TrodAll enc Try.prog W 0 (fun _ => true) true Try.f6.params.toList args.toList ds p := hA0
  rw [Try.params6] at hA hval
  obtain ⟨v0,vs0,d0,ds0,p0,q0,hargs,rfl,rfl,h0,r0⟩ := trodAll_cons hA
  obtain ⟨v1,vs1,d1,ds1,p1,q1,rfl,rfl,rfl,h1,r1⟩ := trodAll_cons r0
  obtain ⟨rfl,rfl,rfl⟩ := trodAll_nil r1
  obtain rfl : args = #[v0,v1] := by cases args;simp_all
  obtain ⟨rfl,rfl⟩ := trodVars_none hV
  obtain ⟨a0,rfl,rfl,rfl,w0⟩ := open_int Try.underlying2 (hval 0 2 v0 rfl rfl) h0
  obtain ⟨a1,rfl,rfl,rfl,w1⟩ := open_int Try.underlying2 (hval 1 2 v1 rfl rfl) h1
  clear hA0 hval0
  obtain ⟨k,h⟩ := Z.safeOps_pure a0 a1 w0 w1
  refine (Z.verdererlaw03_SafeOps.calls k a0 a1 true W  h).mono fun e W' ⟨he,bel⟩ => ?_
  subst he
  exact ⟨_,rfl,_,_,_,[],_,[],hW',trodAll_mk1 (shut_bool Try.underlying4 _),(trodAll_cons_mk (shut_int Try.underlying2 w0) (trodAll_cons_mk (shut_int Try.underlying2 w1) trodAll_mk0)),rfl,bel.frame _,fun h => by cases h⟩
theorem over : Rows.safeOpsRow.holds Try.pinned (OpenSpec.ofChange Rows.safeOpsSpec) :=
  OpenClaim.holds_of_wide 6 Try.f6 rfl rfl rfl rfl rfl rfl rfl ⟨rfl,rfl,rfl,rfl,rfl⟩ rfl rfl rfl rfl rfl (by kernel_rfl) Try.func6 (by kernel_rfl)
    (of_decide_eq_true (by kernel_rfl)) (by unfold Func.isWrapper;first | (rw [if_pos (by decide +kernel)];kernel_rfl) | (rw [if_neg (by decide +kernel)];exact ⟨rfl,rfl⟩))
    (fun os started H enc _ => lifted os started H enc)
theorem proved : Rows.SafeOpsSaid := over
#print axioms proved
end Go.Proofs.Ytcenlehfbgnphaa.safeOps
namespace Go.Proofs.Ytcenlehfbgnphaa
theorem safeOps_holds : Rows.SafeOpsSaid := safeOps.proved
end Go.Proofs.Ytcenlehfbgnphaa
