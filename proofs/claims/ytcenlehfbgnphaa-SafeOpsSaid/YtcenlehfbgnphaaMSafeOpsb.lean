/- Parts of the proof of SafeOps: what its functions answer. -/
import Derived.Test.YtcenlehfbgnphaaMSafeOpsa
section
namespace Go.Proofs.Ytcenlehfbgnphaa.Z
open Go.RowKit Go.Proofs.YtcenlehfbgnphaaW.PrintWords Go.Proofs.YtcenlehfbgnphaaW.PrintLast Go.Proofs.YtcenlehfbgnphaaW.PrintMore
attribute [local go_sem] max2_int min2_int max_two min_two max_three min_three max_four min_four
set_option linter.unusedVariables false
set_option linter.unusedSimpArgs false
mutual
def verdererref03_Plus.l0 : Nat → Int → Int → Bool → List Int → Bool → List Int → Bool → List Int → Option (Bool × List Int)
  | 0,_,_,_,_,_,_,_,_ => none
  | k + 1,x6,x7,x112000,x112001,x113000,x113001,x120000,x120001 => if x7 < 20 then ((verdererref03_Big_at.f x112000 x112001 x7).bind fun t120 => ((verdererref03_Big_at.f x113000 x113001 x7).bind fun t121 => (if x120001.length < 17592186044416 then (verdererref03_Plus.l0 k (IntKind.u64.wrap (1 - (IntKind.u64.wrap (Int.tdiv (IntKind.u64.wrap ((IntKind.u64.wrap ((IntKind.u64.wrap (t120 + 65536)) - t121)) - x6)) 65536)))) (wrap64 (x7 + 1)) x112000 x112001 x113000 x113001 x120000 (x120001 ++ [Int.tmod (IntKind.u64.wrap ((IntKind.u64.wrap ((IntKind.u64.wrap (t120 + 65536)) - t121)) - x6)) 65536])) else (none)))) else (some (x120000,x120001))
def verdererref03_Plus.l1 : Nat → Int → Int → Bool → List Int → Bool → List Int → Bool → List Int → Option (Bool × List Int)
  | 0,_,_,_,_,_,_,_,_ => none
  | k + 1,x10,x11,x112000,x112001,x113000,x113001,x126000,x126001 => if x11 < 20 then ((verdererref03_Big_at.f x112000 x112001 x11).bind fun t126 => ((verdererref03_Big_at.f x113000 x113001 x11).bind fun t127 => (if x126001.length < 17592186044416 then (verdererref03_Plus.l1 k (IntKind.u64.wrap (Int.tdiv (IntKind.u64.wrap ((IntKind.u64.wrap (t126 + t127)) + x10)) 65536)) (wrap64 (x11 + 1)) x112000 x112001 x113000 x113001 x126000 (x126001 ++ [Int.tmod (IntKind.u64.wrap ((IntKind.u64.wrap (t126 + t127)) + x10)) 65536])) else (none)))) else (some (x126000,x126001))
def verdererref03_Plus.f : Nat → Bool → List Int → Bool → List Int → Option (Bool × List Int)
  | 0,_,_,_,_ => none
  | k + 1,a0_0,l0_1,a1_0,l1_1 => if (a0_0 != a1_0) = true then ((verdererref03_less.f k a0_0 l0_1 a1_0 l1_1).bind fun t114 => (if t114 = true then ((verdererref03_Plus.f k a1_0 l1_1 a0_0 l0_1).bind fun bt115 => (some (bt115.1,bt115.2))) else (verdererref03_Plus.l0 k 0 0 a0_0 l0_1 a1_0 l1_1 a0_0 ([] : List Int)))) else (verdererref03_Plus.l1 k 0 0 a0_0 l0_1 a1_0 l1_1 a0_0 ([] : List Int))
end
theorem verdererref03_Plus.mono_l : ∀ k,(∀ y0 y1 y2 y3,LeO (verdererref03_Plus.f k y0 y1 y2 y3) (verdererref03_Plus.f (k + 1) y0 y1 y2 y3)) ∧ (∀ y0 y1 y2 y3 y4 y5 y6 y7,LeO (verdererref03_Plus.l0 k y0 y1 y2 y3 y4 y5 y6 y7) (verdererref03_Plus.l0 (k + 1) y0 y1 y2 y3 y4 y5 y6 y7)) ∧ (∀ y0 y1 y2 y3 y4 y5 y6 y7,LeO (verdererref03_Plus.l1 k y0 y1 y2 y3 y4 y5 y6 y7) (verdererref03_Plus.l1 (k + 1) y0 y1 y2 y3 y4 y5 y6 y7))
  | 0 => ⟨fun _ _ _ _ r h => by simp [verdererref03_Plus.f] at h,fun _ _ _ _ _ _ _ _ r h => by simp [verdererref03_Plus.l0] at h,fun _ _ _ _ _ _ _ _ r h => by simp [verdererref03_Plus.l1] at h⟩
  | k + 1 => by
    obtain ⟨ih0,ih1,ih2⟩ := verdererref03_Plus.mono_l k
    refine ⟨?_,?_,?_⟩
    · intro y0 y1 y2 y3
      unfold verdererref03_Plus.f
      repeat' first
      | (with_reducible exact ih0 _ _ _ _)
      | (with_reducible exact ih1 _ _ _ _ _ _ _ _)
      | (with_reducible exact ih2 _ _ _ _ _ _ _ _)
      | (with_reducible exact verdererref03_less.mono _ _ _ _ _)
      | (with_reducible exact LeO.refl _)
      | (with_reducible exact LeO.none _)
      | (with_reducible refine LeO.ite ?_ ?_)
      | (with_reducible refine LeO.bind ?_ (fun _ => ?_))
      | exact ih0 _ _ _ _
      | exact ih1 _ _ _ _ _ _ _ _
      | exact ih2 _ _ _ _ _ _ _ _
      | exact verdererref03_less.mono _ _ _ _ _
      | exact LeO.none _
      | refine LeO.ite ?_ ?_
      | refine LeO.bind ?_ (fun _ => ?_)
    · intro y0 y1 y2 y3 y4 y5 y6 y7
      unfold verdererref03_Plus.l0
      repeat' first
      | (with_reducible exact ih0 _ _ _ _)
      | (with_reducible exact ih1 _ _ _ _ _ _ _ _)
      | (with_reducible exact ih2 _ _ _ _ _ _ _ _)
      | (with_reducible exact verdererref03_less.mono _ _ _ _ _)
      | (with_reducible exact LeO.refl _)
      | (with_reducible exact LeO.none _)
      | (with_reducible refine LeO.ite ?_ ?_)
      | (with_reducible refine LeO.bind ?_ (fun _ => ?_))
      | exact ih0 _ _ _ _
      | exact ih1 _ _ _ _ _ _ _ _
      | exact ih2 _ _ _ _ _ _ _ _
      | exact verdererref03_less.mono _ _ _ _ _
      | exact LeO.none _
      | refine LeO.ite ?_ ?_
      | refine LeO.bind ?_ (fun _ => ?_)
    · intro y0 y1 y2 y3 y4 y5 y6 y7
      unfold verdererref03_Plus.l1
      repeat' first
      | (with_reducible exact ih0 _ _ _ _)
      | (with_reducible exact ih1 _ _ _ _ _ _ _ _)
      | (with_reducible exact ih2 _ _ _ _ _ _ _ _)
      | (with_reducible exact verdererref03_less.mono _ _ _ _ _)
      | (with_reducible exact LeO.refl _)
      | (with_reducible exact LeO.none _)
      | (with_reducible refine LeO.ite ?_ ?_)
      | (with_reducible refine LeO.bind ?_ (fun _ => ?_))
      | exact ih0 _ _ _ _
      | exact ih1 _ _ _ _ _ _ _ _
      | exact ih2 _ _ _ _ _ _ _ _
      | exact verdererref03_less.mono _ _ _ _ _
      | exact LeO.none _
      | refine LeO.ite ?_ ?_
      | refine LeO.bind ?_ (fun _ => ?_)
theorem verdererref03_Plus.mono : ∀ a0 a1 a2 a3 k,LeO (verdererref03_Plus.f k a0 a1 a2 a3) (verdererref03_Plus.f (k + 1) a0 a1 a2 a3) := by
  intro a0 a1 a2 a3 k
  obtain ⟨ih0,ih1,ih2⟩ := verdererref03_Plus.mono_l k
  exact ih0 a0 a1 a2 a3
def verdererref03_Plus.T9 : Bool × List (List Nat × List Nat) := (true,[([],[]),([],[]),([0,1],[0,1]),([2],[2]),([],[]),([],[]),([4,5,2],[4,5]),([3,6],[3,6]),([],[]),([7,8],[7,8]),([9,6,0,1,2,3,4,5,6,7,8,9],[9])])
def verdererref03_Plus.B9 : List Nat := [0,0,3,7,0,0,55,127,0,511,1023]
theorem verdererref03_Plus.tab9 : rtab .any (opsOf Try.f16 9) = verdererref03_Plus.T9 := by kernel_rfl
theorem verdererref03_Plus.bits9 : waitsOk verdererref03_Plus.T9.2 verdererref03_Plus.B9 = true := by kernel_rfl
def verdererref03_Plus.T18 : Bool × List (List Nat × List Nat) := (true,[([],[]),([],[]),([0,1],[0,1]),([],[]),([],[]),([3,4,2],[3,4]),([2,5],[2,5]),([],[]),([6,7],[6,7]),([8,5,0,1,2,3,4,5,6,7,8],[8])])
def verdererref03_Plus.B18 : List Nat := [0,0,3,0,0,31,63,0,255,511]
theorem verdererref03_Plus.tab18 : rtab .any (opsOf Try.f16 18) = verdererref03_Plus.T18 := by kernel_rfl
theorem verdererref03_Plus.bits18 : waitsOk verdererref03_Plus.T18.2 verdererref03_Plus.B18 = true := by kernel_rfl
set_option maxHeartbeats 8000000 in
set_option maxRecDepth 100000 in
theorem verdererref03_Plus.calls (k : Nat) : ∀ (a0_0 : Bool) (A0_1 : Option Addr) (c0_1 : Nat) (l0_1 : List Int) (a1_0 : Bool) (A1_1 : Option Addr) (c1_1 : Nat) (l1_1 : List Int) (r1 : Bool) (r2 : List Int) (w : World) (hr0_1 : Kd.C (Kd.int .u64) w A0_1 l0_1.length l0_1) (hc0_1 : l0_1.length ≤ c0_1) (hr1_1 : Kd.C (Kd.int .u64) w A1_1 l1_1.length l1_1) (hc1_1 : l1_1.length ≤ c1_1) (h : verdererref03_Plus.f k a0_0 l0_1 a1_0 l1_1 = some (r1,r2)),
    Calls Try.prog 16 #[.agg #[.bool a0_0,.slice A0_1 l0_1.length c0_1],.agg #[.bool a1_0,.slice A1_1 l1_1.length c1_1]] w fun e w' => ∃ v1_ : Value,e = .returned (.agg #[.bool r1,v1_]) ∧ Kd.R (Kd.int .u64) 96 w' w.heap.size (fun _ => True) v1_ r2 ∧ Below w.heap.size w w' := by
  induction k using Nat.strongRecOn with
  | _ k ih =>
  intro a0_0 A0_1 c0_1 l0_1 a1_0 A1_1 c1_1 l1_1 r1 r2 w hr0_1 hc0_1 hr1_1 hc1_1 h
  cases k with
  | zero => exact absurd h (by simp [verdererref03_Plus.f])
  | succ k =>
  simp only [verdererref03_Plus.f] at h
  have hu29 := Try.underlying29
  have HR0_1 := Aside0.mk hr0_1
  have HC0_1 := Aside0.mk hc0_1
  clear hr0_1 hc0_1
  have HR1_1 := Aside0.mk hr1_1
  have HC1_1 := Aside0.mk hc1_1
  clear hr1_1 hc1_1
  have HB := Aside0.mk (Below.refl w.heap.size w)
  have H : (if (a0_0 != a1_0) = true then ((verdererref03_less.f k a0_0 l0_1 a1_0 l1_1).bind fun t114 => (if t114 = true then ((verdererref03_Plus.f k a1_0 l1_1 a0_0 l0_1).bind fun bt115 => (some (bt115.1,bt115.2))) else (verdererref03_Plus.l0 k 0 0 a0_0 l0_1 a1_0 l1_1 a0_0 ([] : List Int)))) else (verdererref03_Plus.l1 k 0 0 a0_0 l0_1 a1_0 l1_1 a0_0 ([] : List Int))) = some (r1,r2) := h
  clear h
  by_cases c3 : (a0_0 != a1_0) = true
  · rw [if_pos c3] at H
    have c3b0 : (a0_0 != a1_0) = true := c3
    (try (have c3b1 : decide (a0_0 = a1_0) = false := by simpa using c3))
    (try (have c3b2 : (a0_0 == a1_0) = false := by simpa using c3))
    (try (have c3b3 : ¬ (a0_0 = a1_0) := by simpa using c3))
    clear c3
    replace H := Option.bind_eq_some_iff.mp H
    obtain ⟨t114,A40,H⟩ := H
    replace H : (if t114 = true then ((verdererref03_Plus.f k a1_0 l1_1 a0_0 l0_1).bind fun bt115 => (some (bt115.1,bt115.2))) else (verdererref03_Plus.l0 k 0 0 a0_0 l0_1 a1_0 l1_1 a0_0 ([] : List Int))) = some (r1,r2) := H
    have A4 := Aside0.mk A40
    clear A40
    by_cases c5 : t114 = true
    · subst c5
      have H1 : ((verdererref03_Plus.f k a1_0 l1_1 a0_0 l0_1).bind fun bt115 => (some (bt115.1,bt115.2))) = some (r1,r2) := by rw [if_pos rfl] at H;exact H
      clear H
      have H := H1
      clear H1
      replace H := Option.bind_eq_some_iff.mp H
      obtain ⟨⟨t115,t116⟩,A60,H⟩ := H
      replace H : (some (t115,t116)) = some (r1,r2) := H
      have A6 := Aside0.mk A60
      clear A60
      simp only [Option.some.injEq,Prod.mk.injEq] at H
      obtain ⟨rfl,rfl⟩ := H
      go_enter Try.func16,Try.ntmps16
      go_wp2_with (first | ((with_reducible refine gate_dst (N := 2) rfl ?_);refine box_event ?hg (N := 2) ?hd (cs := #[.bool a0_0,.slice A0_1 l0_1.length c0_1]) (t := 29) ?hr ?_;(case hd => rfl);(case hg => rfl);(case hr => first | (go_simp;done) | (go_simp;rfl));intro gb111 hg w7 hbox hb;have n0_ := Aside0.mk (below_step (by repeat (first | (with_reducible first | exact HB.out | apply below_alloc | apply pw_below_drewN | apply below_drew1) | exact HB.out)) hb);have n1_ := Aside0.mk (hbox);have n2_ := Aside0.mk ((by rw [hg];exact (below_size (by repeat (first | (with_reducible first | exact HB.out | apply below_alloc | apply pw_below_drewN | apply below_drew1) | exact HB.out))) : w.heap.size ≤ gb111));have n3_ := Aside0.mk ((by rw [hg];exact (below_size (by repeat (first | (with_reducible first | exact HB.out | apply below_alloc | apply pw_below_drewN | apply below_drew1) | exact HB.out))) : w.heap.size ≤ gb111));clear HB;have HB := n0_;have BK111 := n1_;have GW111 := n2_;have GE111 := n3_;clear n0_ n1_ n2_ n3_;clear hb hbox hg) | ((with_reducible refine gate_dst (N := 3) rfl ?_);refine box_event ?hg (N := 3) ?hd (cs := #[.bool a1_0,.slice A1_1 l1_1.length c1_1]) (t := 29) ?hr ?_;(case hd => rfl);(case hg => rfl);(case hr => first | (go_simp;done) | (go_simp;rfl));intro gb112 hg w8 hbox hb;have n0_ := Aside0.mk (blk_below (g := gb111) (o := .cells #[.bool a0_0,.slice A0_1 l0_1.length c0_1] 29 (0,0)) (by (with_reducible repeat (first | refine blk_drewN ?_ _ | refine blk_drew ?_ | refine blk_alloc ?_ _));exact BK111.out) hb);have n1_ := Aside0.mk (below_step (by repeat (first | (with_reducible first | exact HB.out | apply below_alloc | apply pw_below_drewN | apply below_drew1 | refine below_set ?_ GE111.out) | exact HB.out)) hb);have n2_ := Aside0.mk (hbox);have n3_ := Aside0.mk ((by rw [hg];exact (below_size (by repeat (first | (with_reducible first | exact HB.out | apply below_alloc | apply pw_below_drewN | apply below_drew1 | refine below_set ?_ GE111.out) | exact HB.out))) : w.heap.size ≤ gb112));have n4_ := Aside0.mk ((by rw [hg];exact (below_size (by repeat (first | (with_reducible first | exact HB.out | apply below_alloc | apply pw_below_drewN | apply below_drew1 | refine below_set ?_ GE111.out) | exact HB.out))) : w.heap.size ≤ gb112));have n5_ := Aside0.mk ((by rw [hg];exact Nat.ne_of_lt (blk_lt (g := gb111) (o := .cells #[.bool a0_0,.slice A0_1 l0_1.length c0_1] 29 (0,0)) (by (with_reducible repeat (first | refine blk_drewN ?_ _ | refine blk_drew ?_ | refine blk_alloc ?_ _));exact BK111.out)) : gb111 ≠ gb112));have n6_ := Aside0.mk ((by rw [hg];exact Nat.ne_of_gt (blk_lt (g := gb111) (o := .cells #[.bool a0_0,.slice A0_1 l0_1.length c0_1] 29 (0,0)) (by (with_reducible repeat (first | refine blk_drewN ?_ _ | refine blk_drew ?_ | refine blk_alloc ?_ _));exact BK111.out)) : gb112 ≠ gb111));clear BK111;clear HB;have BK111 := n0_;have HB := n1_;have BK112 := n2_;have GW112 := n3_;have GE112 := n4_;have NB111_112 := n5_;have NB112_111 := n6_;clear n0_ n1_ n2_ n3_ n4_ n5_ n6_;clear hb hbox hg) | ((with_reducible refine gate_dst (N := 4) rfl ?_);refine box_event ?hg (N := 4) ?hd (cs := #[.bool false,.slice none 0 0]) (t := 29) ?hr ?_;(case hd => rfl);(case hg => rfl);(case hr => first | (go_simp;done) | (go_simp;rfl));intro gb113 hg w9 hbox hb;have n0_ := Aside0.mk (blk_below (g := gb111) (o := .cells #[.bool a0_0,.slice A0_1 l0_1.length c0_1] 29 (0,0)) (by (with_reducible repeat (first | refine blk_drewN ?_ _ | refine blk_drew ?_ | refine blk_alloc ?_ _));exact BK111.out) hb);have n1_ := Aside0.mk (blk_below (g := gb112) (o := .cells #[.bool a1_0,.slice A1_1 l1_1.length c1_1] 29 (0,0)) (by (with_reducible repeat (first | refine blk_drewN ?_ _ | refine blk_drew ?_ | refine blk_alloc ?_ _));exact BK112.out) hb);have n2_ := Aside0.mk (below_step (by repeat (first | (with_reducible first | exact HB.out | apply below_alloc | apply pw_below_drewN | apply below_drew1 | refine below_set ?_ GE111.out | refine below_set ?_ GE112.out) | exact HB.out)) hb);have n3_ := Aside0.mk (hbox);have n4_ := Aside0.mk ((by rw [hg];exact (below_size (by repeat (first | (with_reducible first | exact HB.out | apply below_alloc | apply pw_below_drewN | apply below_drew1 | refine below_set ?_ GE111.out | refine below_set ?_ GE112.out) | exact HB.out))) : w.heap.size ≤ gb113));have n5_ := Aside0.mk ((by rw [hg];exact (below_size (by repeat (first | (with_reducible first | exact HB.out | apply below_alloc | apply pw_below_drewN | apply below_drew1 | refine below_set ?_ GE111.out | refine below_set ?_ GE112.out) | exact HB.out))) : w.heap.size ≤ gb113));have n6_ := Aside0.mk ((by rw [hg];exact Nat.ne_of_lt (blk_lt (g := gb111) (o := .cells #[.bool a0_0,.slice A0_1 l0_1.length c0_1] 29 (0,0)) (by (with_reducible repeat (first | refine blk_drewN ?_ _ | refine blk_drew ?_ | refine blk_alloc ?_ _));exact BK111.out)) : gb111 ≠ gb113));have n7_ := Aside0.mk ((by rw [hg];exact Nat.ne_of_gt (blk_lt (g := gb111) (o := .cells #[.bool a0_0,.slice A0_1 l0_1.length c0_1] 29 (0,0)) (by (with_reducible repeat (first | refine blk_drewN ?_ _ | refine blk_drew ?_ | refine blk_alloc ?_ _));exact BK111.out)) : gb113 ≠ gb111));have n8_ := Aside0.mk ((by rw [hg];exact Nat.ne_of_lt (blk_lt (g := gb112) (o := .cells #[.bool a1_0,.slice A1_1 l1_1.length c1_1] 29 (0,0)) (by (with_reducible repeat (first | refine blk_drewN ?_ _ | refine blk_drew ?_ | refine blk_alloc ?_ _));exact BK112.out)) : gb112 ≠ gb113));have n9_ := Aside0.mk ((by rw [hg];exact Nat.ne_of_gt (blk_lt (g := gb112) (o := .cells #[.bool a1_0,.slice A1_1 l1_1.length c1_1] 29 (0,0)) (by (with_reducible repeat (first | refine blk_drewN ?_ _ | refine blk_drew ?_ | refine blk_alloc ?_ _));exact BK112.out)) : gb113 ≠ gb112));clear BK111;clear BK112;clear HB;have BK111 := n0_;have BK112 := n1_;have HB := n2_;have BK113 := n3_;have GW113 := n4_;have GE113 := n5_;have NB111_113 := n6_;have NB113_111 := n7_;have NB112_113 := n8_;have NB113_112 := n9_;clear n0_ n1_ n2_ n3_ n4_ n5_ n6_ n7_ n8_ n9_;clear hb hbox hg;have hnb10 := NB111_112.out;have hnc10 := NB112_111.out;have hnb11 := NB111_113.out;have hnc11 := NB113_111.out;have hcz12_0 : w9.cell? ⟨gb111,0,none⟩ = some (.bool a0_0) := (blk_cell BK111.out 0).trans rfl;have hcz12_1 : w9.cell? ⟨gb111,1,none⟩ = some (.slice A0_1 l0_1.length c0_1) := (blk_cell BK111.out 1).trans rfl;have hfz12_0 := blk_frozen BK111.out 0;have hfz12_1 := blk_frozen BK111.out 1;have hnb13 := NB112_113.out;have hnc13 := NB113_112.out;have hcz14_0 : w9.cell? ⟨gb112,0,none⟩ = some (.bool a1_0) := (blk_cell BK112.out 0).trans rfl;have hcz14_1 : w9.cell? ⟨gb112,1,none⟩ = some (.slice A1_1 l1_1.length c1_1) := (blk_cell BK112.out 1).trans rfl;have hfz14_0 := blk_frozen BK112.out 0;have hfz14_1 := blk_frozen BK112.out 1) | ((with_reducible refine gate_callee (f := 59) rfl ?_);refine goesL_ (some 20) rfl rfl Try.func59 (by kernel_rfl) rfl #[.agg #[.bool a0_0,.slice A0_1 l0_1.length c0_1],.agg #[.bool a1_0,.slice A1_1 l1_1.length c1_1]] rfl (by (try simp only [List.map_toArray,List.map_cons,List.map_nil]);first | done | rfl | (simp only [List.length_drop,List.length_take];rfl)) ?_;(with_reducible refine (verdererref03_less.calls k a0_0 _ _ l0_1 a1_0 _ _ l1_1 true _ ?side1 ?side2 ?side3 ?side4 A4.out).mono ?_);(case side1 => repeat (first | exact (Kd.C_below HR0_1.out HB.out) | (with_reducible refine Kd.C_alloc ?_ _) | (with_reducible refine Kd.C_drewN ?_ _) | (with_reducible refine Kd.C_drew ?_)));(case side2 => exact HC0_1.out);(case side3 => repeat (first | exact (Kd.C_below HR1_1.out HB.out) | (with_reducible refine Kd.C_alloc ?_ _) | (with_reducible refine Kd.C_drewN ?_ _) | (with_reducible refine Kd.C_drew ?_)));(case side4 => exact HC1_1.out);rintro e w15 ⟨rfl,hb⟩;refine ⟨_,rfl,?_⟩;have n0_ := Aside0.mk (blk_below (g := gb111) (o := .cells #[.bool a0_0,.slice A0_1 l0_1.length c0_1] 29 (0,0)) (by (with_reducible repeat (first | refine blk_drewN ?_ _ | refine blk_drew ?_ | refine blk_alloc ?_ _));exact BK111.out) hb);have n1_ := Aside0.mk (blk_below (g := gb112) (o := .cells #[.bool a1_0,.slice A1_1 l1_1.length c1_1] 29 (0,0)) (by (with_reducible repeat (first | refine blk_drewN ?_ _ | refine blk_drew ?_ | refine blk_alloc ?_ _));exact BK112.out) hb);have n2_ := Aside0.mk (blk_below (g := gb113) (o := .cells #[.bool false,.slice none 0 0] 29 (0,0)) (by (with_reducible repeat (first | refine blk_drewN ?_ _ | refine blk_drew ?_ | refine blk_alloc ?_ _));exact BK113.out) hb);have n3_ := Aside0.mk (below_step (by repeat (first | (with_reducible first | exact HB.out | apply below_alloc | apply pw_below_drewN | apply below_drew1 | refine below_set ?_ GE111.out | refine below_set ?_ GE112.out | refine below_set ?_ GE113.out) | exact HB.out)) hb);clear BK111;clear BK112;clear BK113;clear HB;have BK111 := n0_;have BK112 := n1_;have BK113 := n2_;have HB := n3_;clear n0_ n1_ n2_ n3_;(try clear hb);(try clear hb2);(try clear hk);(try clear hi);have hcz16_0 : w15.cell? ⟨gb112,0,none⟩ = some (.bool a1_0) := (blk_cell BK112.out 0).trans rfl;have hcz16_1 : w15.cell? ⟨gb112,1,none⟩ = some (.slice A1_1 l1_1.length c1_1) := (blk_cell BK112.out 1).trans rfl;have hfz16_0 := blk_frozen BK112.out 0;have hfz16_1 := blk_frozen BK112.out 1;have hcz17_0 : w15.cell? ⟨gb111,0,none⟩ = some (.bool a0_0) := (blk_cell BK111.out 0).trans rfl;have hcz17_1 : w15.cell? ⟨gb111,1,none⟩ = some (.slice A0_1 l0_1.length c0_1) := (blk_cell BK111.out 1).trans rfl;have hfz17_0 := blk_frozen BK111.out 0;have hfz17_1 := blk_frozen BK111.out 1) | ((with_reducible refine gate_callee (f := 16) rfl ?_);refine goesL_ (some 23) rfl rfl Try.func16 (by kernel_rfl) rfl #[.agg #[.bool a1_0,.slice A1_1 l1_1.length c1_1],.agg #[.bool a0_0,.slice A0_1 l0_1.length c0_1]] rfl (by (try simp only [List.map_toArray,List.map_cons,List.map_nil]);first | done | rfl | (simp only [List.length_drop,List.length_take];rfl)) ?_;(with_reducible refine (ih k (by omega) a1_0 _ _ l1_1 a0_0 _ _ l0_1 t115 t116 _ ?side1 ?side2 ?side3 ?side4 A6.out).mono ?_);(case side1 => repeat (first | exact (Kd.C_below HR1_1.out HB.out) | (with_reducible refine Kd.C_alloc ?_ _) | (with_reducible refine Kd.C_drewN ?_ _) | (with_reducible refine Kd.C_drew ?_)));(case side2 => exact HC1_1.out);(case side3 => repeat (first | exact (Kd.C_below HR0_1.out HB.out) | (with_reducible refine Kd.C_alloc ?_ _) | (with_reducible refine Kd.C_drewN ?_ _) | (with_reducible refine Kd.C_drew ?_)));(case side4 => exact HC0_1.out);rintro e w18 ⟨v117,rfl,ho0,hb⟩;refine ⟨_,rfl,?_⟩;have n0_ := Aside0.mk (Kd.R_lower ho0 (below_size (by repeat (first | (with_reducible first | exact HB.out | apply below_alloc | apply pw_below_drewN | apply below_drew1 | refine below_set ?_ GE111.out | refine below_set ?_ GE112.out | refine below_set ?_ GE113.out) | exact HB.out))));have n1_ := Aside0.mk (blk_below (g := gb111) (o := .cells #[.bool a0_0,.slice A0_1 l0_1.length c0_1] 29 (0,0)) (by (with_reducible repeat (first | refine blk_drewN ?_ _ | refine blk_drew ?_ | refine blk_alloc ?_ _));exact BK111.out) hb);have n2_ := Aside0.mk (blk_below (g := gb112) (o := .cells #[.bool a1_0,.slice A1_1 l1_1.length c1_1] 29 (0,0)) (by (with_reducible repeat (first | refine blk_drewN ?_ _ | refine blk_drew ?_ | refine blk_alloc ?_ _));exact BK112.out) hb);have n3_ := Aside0.mk (blk_below (g := gb113) (o := .cells #[.bool false,.slice none 0 0] 29 (0,0)) (by (with_reducible repeat (first | refine blk_drewN ?_ _ | refine blk_drew ?_ | refine blk_alloc ?_ _));exact BK113.out) hb);have n4_ := Aside0.mk (below_step (by repeat (first | (with_reducible first | exact HB.out | apply below_alloc | apply pw_below_drewN | apply below_drew1 | refine below_set ?_ GE111.out | refine below_set ?_ GE112.out | refine below_set ?_ GE113.out) | exact HB.out)) hb);clear BK111;clear BK112;clear BK113;clear HB;have HO118 := n0_;have BK111 := n1_;have BK112 := n2_;have BK113 := n3_;have HB := n4_;clear n0_ n1_ n2_ n3_ n4_;(try clear hb);(try clear hb2);(try clear hk);(try clear hi);(try clear ho0);have hcz19_0 : w18.cell? ⟨gb113,0,none⟩ = some (.bool false) := (blk_cell BK113.out 0).trans rfl;have hcz19_1 : w18.cell? ⟨gb113,1,none⟩ = some (.slice none 0 0) := (blk_cell BK113.out 1).trans rfl;have hfz19_0 := blk_frozen BK113.out 0;have hfz19_1 := blk_frozen BK113.out 1;obtain ⟨Ao20,co20,eo20⟩ := Kd.R_slice HO118.out;subst eo20))
      refine bodyPost_ret (results_cell_row rfl _ _ gb113 29 #[.bool t115,.slice Ao20 t116.length co20] (0,0) _ rfl (by (with_reducible repeat (first | refine blk_drewN ?_ _ | refine blk_drew ?_ | refine blk_alloc ?_ _));refine blk_put (cs := #[.bool t115,.slice none 0 0]) ?_ 1 _ rfl;(with_reducible repeat (first | refine blk_drewN ?_ _ | refine blk_drew ?_ | refine blk_alloc ?_ _));refine blk_put (cs := #[.bool false,.slice none 0 0]) ?_ 0 _ rfl;(with_reducible repeat (first | refine blk_drewN ?_ _ | refine blk_drew ?_ | refine blk_alloc ?_ _));exact BK113.out) Try.underlying29 rfl (by kernel_rfl)) rfl ?_
      exact ⟨_,by first | rfl | (simp [errW_none,errW_some] <;> rfl) | (simp [*,errW_none,errW_some] <;> rfl),by (with_reducible repeat (first | apply Kd.R_alloc | apply Kd.R_drewN | apply Kd.R_drew));exact Kd.R_mono (Kd.R_far (p := ⟨gb113,1,none⟩) (Kd.R_far (p := ⟨gb113,0,none⟩) (Kd.R_types HO118.out BK113.out (by decide)) (fun _ hk => hk.2) (.bool t115)) (fun _ hk => hk.2) (.slice Ao20 t116.length co20)) (fun _ hk => trivial),by repeat (first | (with_reducible first | exact HB.out | apply below_alloc | apply pw_below_drewN | apply below_drew1 | refine below_set ?_ GE111.out | refine below_set ?_ GE112.out | refine below_set ?_ GE113.out) | exact HB.out)⟩
    · replace c5 := Bool.eq_false_iff.mpr c5
      subst c5
      have H1 : (verdererref03_Plus.l0 k 0 0 a0_0 l0_1 a1_0 l1_1 a0_0 ([] : List Int)) = some (r1,r2) := by rw [if_neg (show ¬ (false = true) by decide)] at H;exact H
      clear H
      have H := H1
      clear H1
      have H' := Aside0.mk H
      clear H
      go_enter Try.func16,Try.ntmps16
      go_wp2_with (first | ((with_reducible refine gate_dst (N := 2) rfl ?_);refine box_event ?hg (N := 2) ?hd (cs := #[.bool a0_0,.slice A0_1 l0_1.length c0_1]) (t := 29) ?hr ?_;(case hd => rfl);(case hg => rfl);(case hr => first | (go_simp;done) | (go_simp;rfl));intro gb111 hg w21 hbox hb;have n0_ := Aside0.mk (below_step (by repeat (first | (with_reducible first | exact HB.out | apply below_alloc | apply pw_below_drewN | apply below_drew1) | exact HB.out)) hb);have n1_ := Aside0.mk (hbox);have n2_ := Aside0.mk ((by rw [hg];exact (below_size (by repeat (first | (with_reducible first | exact HB.out | apply below_alloc | apply pw_below_drewN | apply below_drew1) | exact HB.out))) : w.heap.size ≤ gb111));have n3_ := Aside0.mk ((by rw [hg];exact (below_size (by repeat (first | (with_reducible first | exact HB.out | apply below_alloc | apply pw_below_drewN | apply below_drew1) | exact HB.out))) : w.heap.size ≤ gb111));clear HB;have HB := n0_;have BK111 := n1_;have GW111 := n2_;have GE111 := n3_;clear n0_ n1_ n2_ n3_;clear hb hbox hg) | ((with_reducible refine gate_dst (N := 3) rfl ?_);refine box_event ?hg (N := 3) ?hd (cs := #[.bool a1_0,.slice A1_1 l1_1.length c1_1]) (t := 29) ?hr ?_;(case hd => rfl);(case hg => rfl);(case hr => first | (go_simp;done) | (go_simp;rfl));intro gb112 hg w22 hbox hb;have n0_ := Aside0.mk (blk_below (g := gb111) (o := .cells #[.bool a0_0,.slice A0_1 l0_1.length c0_1] 29 (0,0)) (by (with_reducible repeat (first | refine blk_drewN ?_ _ | refine blk_drew ?_ | refine blk_alloc ?_ _));exact BK111.out) hb);have n1_ := Aside0.mk (below_step (by repeat (first | (with_reducible first | exact HB.out | apply below_alloc | apply pw_below_drewN | apply below_drew1 | refine below_set ?_ GE111.out) | exact HB.out)) hb);have n2_ := Aside0.mk (hbox);have n3_ := Aside0.mk ((by rw [hg];exact (below_size (by repeat (first | (with_reducible first | exact HB.out | apply below_alloc | apply pw_below_drewN | apply below_drew1 | refine below_set ?_ GE111.out) | exact HB.out))) : w.heap.size ≤ gb112));have n4_ := Aside0.mk ((by rw [hg];exact (below_size (by repeat (first | (with_reducible first | exact HB.out | apply below_alloc | apply pw_below_drewN | apply below_drew1 | refine below_set ?_ GE111.out) | exact HB.out))) : w.heap.size ≤ gb112));have n5_ := Aside0.mk ((by rw [hg];exact Nat.ne_of_lt (blk_lt (g := gb111) (o := .cells #[.bool a0_0,.slice A0_1 l0_1.length c0_1] 29 (0,0)) (by (with_reducible repeat (first | refine blk_drewN ?_ _ | refine blk_drew ?_ | refine blk_alloc ?_ _));exact BK111.out)) : gb111 ≠ gb112));have n6_ := Aside0.mk ((by rw [hg];exact Nat.ne_of_gt (blk_lt (g := gb111) (o := .cells #[.bool a0_0,.slice A0_1 l0_1.length c0_1] 29 (0,0)) (by (with_reducible repeat (first | refine blk_drewN ?_ _ | refine blk_drew ?_ | refine blk_alloc ?_ _));exact BK111.out)) : gb112 ≠ gb111));clear BK111;clear HB;have BK111 := n0_;have HB := n1_;have BK112 := n2_;have GW112 := n3_;have GE112 := n4_;have NB111_112 := n5_;have NB112_111 := n6_;clear n0_ n1_ n2_ n3_ n4_ n5_ n6_;clear hb hbox hg) | ((with_reducible refine gate_dst (N := 4) rfl ?_);refine box_event ?hg (N := 4) ?hd (cs := #[.bool false,.slice none 0 0]) (t := 29) ?hr ?_;(case hd => rfl);(case hg => rfl);(case hr => first | (go_simp;done) | (go_simp;rfl));intro gb113 hg w23 hbox hb;have n0_ := Aside0.mk (blk_below (g := gb111) (o := .cells #[.bool a0_0,.slice A0_1 l0_1.length c0_1] 29 (0,0)) (by (with_reducible repeat (first | refine blk_drewN ?_ _ | refine blk_drew ?_ | refine blk_alloc ?_ _));exact BK111.out) hb);have n1_ := Aside0.mk (blk_below (g := gb112) (o := .cells #[.bool a1_0,.slice A1_1 l1_1.length c1_1] 29 (0,0)) (by (with_reducible repeat (first | refine blk_drewN ?_ _ | refine blk_drew ?_ | refine blk_alloc ?_ _));exact BK112.out) hb);have n2_ := Aside0.mk (below_step (by repeat (first | (with_reducible first | exact HB.out | apply below_alloc | apply pw_below_drewN | apply below_drew1 | refine below_set ?_ GE111.out | refine below_set ?_ GE112.out) | exact HB.out)) hb);have n3_ := Aside0.mk (hbox);have n4_ := Aside0.mk ((by rw [hg];exact (below_size (by repeat (first | (with_reducible first | exact HB.out | apply below_alloc | apply pw_below_drewN | apply below_drew1 | refine below_set ?_ GE111.out | refine below_set ?_ GE112.out) | exact HB.out))) : w.heap.size ≤ gb113));have n5_ := Aside0.mk ((by rw [hg];exact (below_size (by repeat (first | (with_reducible first | exact HB.out | apply below_alloc | apply pw_below_drewN | apply below_drew1 | refine below_set ?_ GE111.out | refine below_set ?_ GE112.out) | exact HB.out))) : w.heap.size ≤ gb113));have n6_ := Aside0.mk ((by rw [hg];exact Nat.ne_of_lt (blk_lt (g := gb111) (o := .cells #[.bool a0_0,.slice A0_1 l0_1.length c0_1] 29 (0,0)) (by (with_reducible repeat (first | refine blk_drewN ?_ _ | refine blk_drew ?_ | refine blk_alloc ?_ _));exact BK111.out)) : gb111 ≠ gb113));have n7_ := Aside0.mk ((by rw [hg];exact Nat.ne_of_gt (blk_lt (g := gb111) (o := .cells #[.bool a0_0,.slice A0_1 l0_1.length c0_1] 29 (0,0)) (by (with_reducible repeat (first | refine blk_drewN ?_ _ | refine blk_drew ?_ | refine blk_alloc ?_ _));exact BK111.out)) : gb113 ≠ gb111));have n8_ := Aside0.mk ((by rw [hg];exact Nat.ne_of_lt (blk_lt (g := gb112) (o := .cells #[.bool a1_0,.slice A1_1 l1_1.length c1_1] 29 (0,0)) (by (with_reducible repeat (first | refine blk_drewN ?_ _ | refine blk_drew ?_ | refine blk_alloc ?_ _));exact BK112.out)) : gb112 ≠ gb113));have n9_ := Aside0.mk ((by rw [hg];exact Nat.ne_of_gt (blk_lt (g := gb112) (o := .cells #[.bool a1_0,.slice A1_1 l1_1.length c1_1] 29 (0,0)) (by (with_reducible repeat (first | refine blk_drewN ?_ _ | refine blk_drew ?_ | refine blk_alloc ?_ _));exact BK112.out)) : gb113 ≠ gb112));clear BK111;clear BK112;clear HB;have BK111 := n0_;have BK112 := n1_;have HB := n2_;have BK113 := n3_;have GW113 := n4_;have GE113 := n5_;have NB111_113 := n6_;have NB113_111 := n7_;have NB112_113 := n8_;have NB113_112 := n9_;clear n0_ n1_ n2_ n3_ n4_ n5_ n6_ n7_ n8_ n9_;clear hb hbox hg;have hnb24 := NB111_112.out;have hnc24 := NB112_111.out;have hnb25 := NB111_113.out;have hnc25 := NB113_111.out;have hcz26_0 : w23.cell? ⟨gb111,0,none⟩ = some (.bool a0_0) := (blk_cell BK111.out 0).trans rfl;have hcz26_1 : w23.cell? ⟨gb111,1,none⟩ = some (.slice A0_1 l0_1.length c0_1) := (blk_cell BK111.out 1).trans rfl;have hfz26_0 := blk_frozen BK111.out 0;have hfz26_1 := blk_frozen BK111.out 1;have hnb27 := NB112_113.out;have hnc27 := NB113_112.out;have hcz28_0 : w23.cell? ⟨gb112,0,none⟩ = some (.bool a1_0) := (blk_cell BK112.out 0).trans rfl;have hcz28_1 : w23.cell? ⟨gb112,1,none⟩ = some (.slice A1_1 l1_1.length c1_1) := (blk_cell BK112.out 1).trans rfl;have hfz28_0 := blk_frozen BK112.out 0;have hfz28_1 := blk_frozen BK112.out 1) | ((with_reducible refine gate_callee (f := 59) rfl ?_);refine goesL_ (some 20) rfl rfl Try.func59 (by kernel_rfl) rfl #[.agg #[.bool a0_0,.slice A0_1 l0_1.length c0_1],.agg #[.bool a1_0,.slice A1_1 l1_1.length c1_1]] rfl (by (try simp only [List.map_toArray,List.map_cons,List.map_nil]);first | done | rfl | (simp only [List.length_drop,List.length_take];rfl)) ?_;(with_reducible refine (verdererref03_less.calls k a0_0 _ _ l0_1 a1_0 _ _ l1_1 false _ ?side1 ?side2 ?side3 ?side4 A4.out).mono ?_);(case side1 => repeat (first | exact (Kd.C_below HR0_1.out HB.out) | (with_reducible refine Kd.C_alloc ?_ _) | (with_reducible refine Kd.C_drewN ?_ _) | (with_reducible refine Kd.C_drew ?_)));(case side2 => exact HC0_1.out);(case side3 => repeat (first | exact (Kd.C_below HR1_1.out HB.out) | (with_reducible refine Kd.C_alloc ?_ _) | (with_reducible refine Kd.C_drewN ?_ _) | (with_reducible refine Kd.C_drew ?_)));(case side4 => exact HC1_1.out);rintro e w29 ⟨rfl,hb⟩;refine ⟨_,rfl,?_⟩;have n0_ := Aside0.mk (blk_below (g := gb111) (o := .cells #[.bool a0_0,.slice A0_1 l0_1.length c0_1] 29 (0,0)) (by (with_reducible repeat (first | refine blk_drewN ?_ _ | refine blk_drew ?_ | refine blk_alloc ?_ _));exact BK111.out) hb);have n1_ := Aside0.mk (blk_below (g := gb112) (o := .cells #[.bool a1_0,.slice A1_1 l1_1.length c1_1] 29 (0,0)) (by (with_reducible repeat (first | refine blk_drewN ?_ _ | refine blk_drew ?_ | refine blk_alloc ?_ _));exact BK112.out) hb);have n2_ := Aside0.mk (blk_below (g := gb113) (o := .cells #[.bool false,.slice none 0 0] 29 (0,0)) (by (with_reducible repeat (first | refine blk_drewN ?_ _ | refine blk_drew ?_ | refine blk_alloc ?_ _));exact BK113.out) hb);have n3_ := Aside0.mk (below_step (by repeat (first | (with_reducible first | exact HB.out | apply below_alloc | apply pw_below_drewN | apply below_drew1 | refine below_set ?_ GE111.out | refine below_set ?_ GE112.out | refine below_set ?_ GE113.out) | exact HB.out)) hb);clear BK111;clear BK112;clear BK113;clear HB;have BK111 := n0_;have BK112 := n1_;have BK113 := n2_;have HB := n3_;clear n0_ n1_ n2_ n3_;(try clear hb);(try clear hb2);(try clear hk);(try clear hi);have hcz30_0 : w29.cell? ⟨gb111,0,none⟩ = some (.bool a0_0) := (blk_cell BK111.out 0).trans rfl;have hcz30_1 : w29.cell? ⟨gb111,1,none⟩ = some (.slice A0_1 l0_1.length c0_1) := (blk_cell BK111.out 1).trans rfl;have hfz30_0 := blk_frozen BK111.out 0;have hfz30_1 := blk_frozen BK111.out 1) | ((with_reducible refine gate_dst (N := 5) rfl ?_);refine box_event ?hg (N := 5) ?hd (cs := #[.bool false,.slice none 0 0]) (t := 29) ?hr ?_;(case hd => rfl);(case hg => rfl);(case hr => first | (go_simp;done) | (go_simp;rfl));intro gb119 hg w31 hbox hb;have n0_ := Aside0.mk (blk_below (g := gb111) (o := .cells #[.bool a0_0,.slice A0_1 l0_1.length c0_1] 29 (0,0)) (by (with_reducible repeat (first | refine blk_drewN ?_ _ | refine blk_drew ?_ | refine blk_alloc ?_ _));exact BK111.out) hb);have n1_ := Aside0.mk (blk_below (g := gb112) (o := .cells #[.bool a1_0,.slice A1_1 l1_1.length c1_1] 29 (0,0)) (by (with_reducible repeat (first | refine blk_drewN ?_ _ | refine blk_drew ?_ | refine blk_alloc ?_ _));exact BK112.out) hb);have n2_ := Aside0.mk (blk_below (g := gb113) (o := .cells #[.bool false,.slice none 0 0] 29 (0,0)) (by (with_reducible repeat (first | refine blk_drewN ?_ _ | refine blk_drew ?_ | refine blk_alloc ?_ _));exact BK113.out) hb);have n3_ := Aside0.mk (below_step (by repeat (first | (with_reducible first | exact HB.out | apply below_alloc | apply pw_below_drewN | apply below_drew1 | refine below_set ?_ GE111.out | refine below_set ?_ GE112.out | refine below_set ?_ GE113.out) | exact HB.out)) hb);have n4_ := Aside0.mk (hbox);have n5_ := Aside0.mk ((by rw [hg];exact (below_size (by repeat (first | (with_reducible first | exact HB.out | apply below_alloc | apply pw_below_drewN | apply below_drew1 | refine below_set ?_ GE111.out | refine below_set ?_ GE112.out | refine below_set ?_ GE113.out) | exact HB.out))) : w.heap.size ≤ gb119));have n6_ := Aside0.mk ((by rw [hg];exact (below_size (by repeat (first | (with_reducible first | exact HB.out | apply below_alloc | apply pw_below_drewN | apply below_drew1 | refine below_set ?_ GE111.out | refine below_set ?_ GE112.out | refine below_set ?_ GE113.out) | exact HB.out))) : w.heap.size ≤ gb119));have n7_ := Aside0.mk ((by rw [hg];exact Nat.ne_of_lt (blk_lt (g := gb111) (o := .cells #[.bool a0_0,.slice A0_1 l0_1.length c0_1] 29 (0,0)) (by (with_reducible repeat (first | refine blk_drewN ?_ _ | refine blk_drew ?_ | refine blk_alloc ?_ _));exact BK111.out)) : gb111 ≠ gb119));have n8_ := Aside0.mk ((by rw [hg];exact Nat.ne_of_gt (blk_lt (g := gb111) (o := .cells #[.bool a0_0,.slice A0_1 l0_1.length c0_1] 29 (0,0)) (by (with_reducible repeat (first | refine blk_drewN ?_ _ | refine blk_drew ?_ | refine blk_alloc ?_ _));exact BK111.out)) : gb119 ≠ gb111));have n9_ := Aside0.mk ((by rw [hg];exact Nat.ne_of_lt (blk_lt (g := gb112) (o := .cells #[.bool a1_0,.slice A1_1 l1_1.length c1_1] 29 (0,0)) (by (with_reducible repeat (first | refine blk_drewN ?_ _ | refine blk_drew ?_ | refine blk_alloc ?_ _));exact BK112.out)) : gb112 ≠ gb119));have n10_ := Aside0.mk ((by rw [hg];exact Nat.ne_of_gt (blk_lt (g := gb112) (o := .cells #[.bool a1_0,.slice A1_1 l1_1.length c1_1] 29 (0,0)) (by (with_reducible repeat (first | refine blk_drewN ?_ _ | refine blk_drew ?_ | refine blk_alloc ?_ _));exact BK112.out)) : gb119 ≠ gb112));have n11_ := Aside0.mk ((by rw [hg];exact Nat.ne_of_lt (blk_lt (g := gb113) (o := .cells #[.bool false,.slice none 0 0] 29 (0,0)) (by (with_reducible repeat (first | refine blk_drewN ?_ _ | refine blk_drew ?_ | refine blk_alloc ?_ _));exact BK113.out)) : gb113 ≠ gb119));have n12_ := Aside0.mk ((by rw [hg];exact Nat.ne_of_gt (blk_lt (g := gb113) (o := .cells #[.bool false,.slice none 0 0] 29 (0,0)) (by (with_reducible repeat (first | refine blk_drewN ?_ _ | refine blk_drew ?_ | refine blk_alloc ?_ _));exact BK113.out)) : gb119 ≠ gb113));clear BK111;clear BK112;clear BK113;clear HB;have BK111 := n0_;have BK112 := n1_;have BK113 := n2_;have HB := n3_;have BK119 := n4_;have GW119 := n5_;have GE119 := n6_;have NB111_119 := n7_;have NB119_111 := n8_;have NB112_119 := n9_;have NB119_112 := n10_;have NB113_119 := n11_;have NB119_113 := n12_;clear n0_ n1_ n2_ n3_ n4_ n5_ n6_ n7_ n8_ n9_ n10_ n11_ n12_;clear hb hbox hg;have hnb32 := NB119_111.out;have hnc32 := NB111_119.out;have hnb33 := NB119_112.out;have hnc33 := NB112_119.out;have hnb34 := NB119_113.out;have hnc34 := NB113_119.out;have hcz35_0 : w31.cell? ⟨gb119,0,none⟩ = some (.bool false) := (blk_cell BK119.out 0).trans rfl;have hcz35_1 : w31.cell? ⟨gb119,1,none⟩ = some (.slice none 0 0) := (blk_cell BK119.out 1).trans rfl;have hfz35_0 := blk_frozen BK119.out 0;have hfz35_1 := blk_frozen BK119.out 1))
      go_loopg [6,7] k (fun kq v6 v7 w' => ∃ (x6_1 : Int) (x7_1 : Int) (x120001_1 : List Int) (u120001 : Value),v6 = .int .u64 x6_1 ∧ v7 = .int .i64 x7_1 ∧ Aside0 (verdererref03_Plus.l0 kq x6_1 x7_1 a0_0 l0_1 a1_0 l1_1 a0_0 x120001_1 = some (r1,r2)) ∧ Aside0 (kq ≤ k) ∧ Aside0 (Kd.R (Kd.int .u64) 96 w' w.heap.size (fun _ => True) u120001 x120001_1) ∧ Aside0 (w'.heap[gb111]? = some (.cells #[.bool a0_0,(.slice A0_1 l0_1.length c0_1)] 29 (0,0))) ∧ Aside0 (w'.heap[gb112]? = some (.cells #[.bool a1_0,(.slice A1_1 l1_1.length c1_1)] 29 (0,0))) ∧ Aside0 (w'.heap[gb113]? = some (.cells #[.bool false,(.slice none 0 0)] 29 (0,0))) ∧ Aside0 (w'.heap[gb119]? = some (.cells #[.bool a0_0,u120001] 29 (0,0))) ∧ Aside0 (Below w.heap.size w w'))
      case atStart => exact ⟨(0),(0),(([] : List Int)),(.slice none 0 0),(by first | rfl | (simp;done) | (simp [*];done)),(by first | rfl | (simp;done) | (simp [*];done)),H',⟨Nat.le_refl _⟩,⟨by first | exact Kd.R_nil _ _ _ _ _ | exact Kd.N_nil _ _ _ _ _ | exact Kd.V_nil _ _ _ _ _ | exact Kd.Q_nil _ _ _ _ _ | exact Kd.S_nil _ _ _ _ _⟩,⟨by (with_reducible repeat (first | refine blk_drewN ?_ _ | refine blk_drew ?_ | refine blk_alloc ?_ _));refine blk_far ?_ NB111_119.out _;(with_reducible repeat (first | refine blk_drewN ?_ _ | refine blk_drew ?_ | refine blk_alloc ?_ _));refine blk_far ?_ NB111_119.out _;(with_reducible repeat (first | refine blk_drewN ?_ _ | refine blk_drew ?_ | refine blk_alloc ?_ _));exact BK111.out⟩,⟨by (with_reducible repeat (first | refine blk_drewN ?_ _ | refine blk_drew ?_ | refine blk_alloc ?_ _));refine blk_far ?_ NB112_119.out _;(with_reducible repeat (first | refine blk_drewN ?_ _ | refine blk_drew ?_ | refine blk_alloc ?_ _));refine blk_far ?_ NB112_119.out _;(with_reducible repeat (first | refine blk_drewN ?_ _ | refine blk_drew ?_ | refine blk_alloc ?_ _));exact BK112.out⟩,⟨by (with_reducible repeat (first | refine blk_drewN ?_ _ | refine blk_drew ?_ | refine blk_alloc ?_ _));refine blk_far ?_ NB113_119.out _;(with_reducible repeat (first | refine blk_drewN ?_ _ | refine blk_drew ?_ | refine blk_alloc ?_ _));refine blk_far ?_ NB113_119.out _;(with_reducible repeat (first | refine blk_drewN ?_ _ | refine blk_drew ?_ | refine blk_alloc ?_ _));exact BK113.out⟩,⟨by (with_reducible repeat (first | refine blk_drewN ?_ _ | refine blk_drew ?_ | refine blk_alloc ?_ _));refine blk_put (cs := #[.bool a0_0,.slice none 0 0]) ?_ 1 _ rfl;(with_reducible repeat (first | refine blk_drewN ?_ _ | refine blk_drew ?_ | refine blk_alloc ?_ _));refine blk_put (cs := #[.bool false,.slice none 0 0]) ?_ 0 _ rfl;(with_reducible repeat (first | refine blk_drewN ?_ _ | refine blk_drew ?_ | refine blk_alloc ?_ _));exact BK119.out⟩,⟨by repeat (first | (with_reducible first | exact HB.out | apply below_alloc | apply pw_below_drewN | apply below_drew1 | refine below_set ?_ GE111.out | refine below_set ?_ GE112.out | refine below_set ?_ GE113.out | refine below_set ?_ GE119.out) | exact HB.out)⟩⟩
      case round =>
        clear H'
        try clear c1
        try clear c2
        try clear p2
        try clear c3
        try clear c3b0
        try clear c3b1
        try clear c3b2
        try clear c5
        try clear c10
        try clear c11
        try clear c13
        try clear c16
        try clear c24
        try clear c25
        try clear c27
        try clear c32
        try clear c33
        try clear c34
        try clear hcz12_0
        try clear hcz12_1
        try clear hcz14_0
        try clear hcz14_1
        try clear hcz16_0
        try clear hcz16_1
        try clear hcz17_0
        try clear hcz17_1
        try clear hcz19_0
        try clear hcz19_1
        try clear hcz26_0
        try clear hcz26_1
        try clear hcz28_0
        try clear hcz28_1
        try clear hcz30_0
        try clear hcz30_1
        try clear hcz35_0
        try clear hcz35_1
        try clear hfz12_0
        try clear hfz12_1
        try clear hfz14_0
        try clear hfz14_1
        try clear hfz16_0
        try clear hfz16_1
        try clear hfz17_0
        try clear hfz17_1
        try clear hfz19_0
        try clear hfz19_1
        try clear hfz26_0
        try clear hfz26_1
        try clear hfz28_0
        try clear hfz28_1
        try clear hfz30_0
        try clear hfz30_1
        try clear hfz35_0
        try clear hfz35_1
        obtain ⟨x6_1,x7_1,x120001_1,u120001,rfl,rfl,HA,HK1,HO_120001,BK111,BK112,BK113,BK119,HB⟩ := hrel
        cases gk with
        | zero => exact absurd HA.out (by simp [verdererref03_Plus.l0])
        | succ k1 =>
          have H := HA.out
          clear HA
          simp only [verdererref03_Plus.l0] at H
          by_cases c36 : x7_1 < 20
          · rw [if_pos c36] at H
            have c36b0 : decide (x7_1 < 20) = true := decide_eq_true c36
            clear c36
            replace H := Option.bind_eq_some_iff.mp H
            obtain ⟨t120,A370,H⟩ := H
            replace H : ((verdererref03_Big_at.f a1_0 l1_1 x7_1).bind fun t121 => (if x120001_1.length < 17592186044416 then (verdererref03_Plus.l0 k1 (IntKind.u64.wrap (1 - (IntKind.u64.wrap (Int.tdiv (IntKind.u64.wrap ((IntKind.u64.wrap ((IntKind.u64.wrap (t120 + 65536)) - t121)) - x6_1)) 65536)))) (wrap64 (x7_1 + 1)) a0_0 l0_1 a1_0 l1_1 a0_0 (x120001_1 ++ [Int.tmod (IntKind.u64.wrap ((IntKind.u64.wrap ((IntKind.u64.wrap (t120 + 65536)) - t121)) - x6_1)) 65536])) else (none))) = some (r1,r2) := H
            have A37 := Aside0.mk A370
            clear A370
            replace H := Option.bind_eq_some_iff.mp H
            obtain ⟨t121,A380,H⟩ := H
            replace H : (if x120001_1.length < 17592186044416 then (verdererref03_Plus.l0 k1 (IntKind.u64.wrap (1 - (IntKind.u64.wrap (Int.tdiv (IntKind.u64.wrap ((IntKind.u64.wrap ((IntKind.u64.wrap (t120 + 65536)) - t121)) - x6_1)) 65536)))) (wrap64 (x7_1 + 1)) a0_0 l0_1 a1_0 l1_1 a0_0 (x120001_1 ++ [Int.tmod (IntKind.u64.wrap ((IntKind.u64.wrap ((IntKind.u64.wrap (t120 + 65536)) - t121)) - x6_1)) 65536])) else (none)) = some (r1,r2) := H
            have A38 := Aside0.mk A380
            clear A380
            by_cases c39 : x120001_1.length < 17592186044416
            · rw [if_pos c39] at H
              have LMc39 := Aside0.mk c39
              clear c39
              obtain ⟨y122,hy122⟩ : ∃ y_ : List Int,y_ = (x120001_1 ++ [Int.tmod (IntKind.u64.wrap ((IntKind.u64.wrap ((IntKind.u64.wrap (t120 + 65536)) - t121)) - x6_1)) 65536]) := ⟨_,rfl⟩
              replace H : (verdererref03_Plus.l0 k1 (IntKind.u64.wrap (1 - (IntKind.u64.wrap (Int.tdiv (IntKind.u64.wrap ((IntKind.u64.wrap ((IntKind.u64.wrap (t120 + 65536)) - t121)) - x6_1)) 65536)))) (wrap64 (x7_1 + 1)) a0_0 l0_1 a1_0 l1_1 a0_0 y122) = some (r1,r2) := by first | (rw [hy122];with_reducible exact H) | (have H2_ := (Option.bind_some _ _).symm.trans H;rw [hy122];with_reducible exact H2_) | (have H2_ := (Option.bind_some _ _).symm.trans H;with_reducible exact H2_) | with_reducible exact H | (rw [hy122];exact H) | exact H
              have Ny122 := Aside0.mk hy122
              clear hy122
              have H' := Aside0.mk H
              clear H
              try go_wp2
              have n0_ := Aside0.mk (Kd.R_drew HO_120001.out)
              have n1_ := Aside0.mk (blk_drew BK111.out)
              have n2_ := Aside0.mk (blk_drew BK112.out)
              have n3_ := Aside0.mk (blk_drew BK113.out)
              have n4_ := Aside0.mk (blk_drew BK119.out)
              have n5_ := Aside0.mk (below_drew1 HB.out)
              clear HO_120001
              clear BK111
              clear BK112
              clear BK113
              clear BK119
              clear HB
              have HO_120001 := n0_
              have BK111 := n1_
              have BK112 := n2_
              have BK113 := n3_
              have BK119 := n4_
              have HB := n5_
              clear n0_ n1_ n2_ n3_ n4_ n5_
              refine start_ (n := 11) (S := fun w' => w'.cell? ⟨gb111,0,none⟩ = some (.bool a0_0) ∧ w'.cell? ⟨gb111,1,none⟩ = some (.slice A0_1 l0_1.length c0_1) ∧ w'.cell? ⟨gb112,0,none⟩ = some (.bool a1_0) ∧ w'.cell? ⟨gb112,1,none⟩ = some (.slice A1_1 l1_1.length c1_1)) (ds := []) #[false,false,false,false,false,false,false,false,false,false,false] (by kernel_rfl) rfl rfl ⟨(blk_cell BK111.out 0).trans rfl,(blk_cell BK111.out 1).trans rfl,(blk_cell BK112.out 0).trans rfl,(blk_cell BK112.out 1).trans rfl⟩ (fun hHeld => ?_);refine with_tabW verdererref03_Plus.tab9 verdererref03_Plus.bits9 (fun HT_ HW_ => ?_)
              generalize wr.drew = w40 at HO_120001 BK111 BK112 BK113 BK119 HB hHeld ⊢
              refine pure_ (i := 1) (N := some 32) (v := ?_) (a' := ?_) #[false,true,false,false,false,false,false,false,false,false,false] rfl rfl (any_of HT_.out (by kernel_rfl)) (fun _ _ _ h => h) (Or.inl ⟨by rfl,?_⟩) ?_ ?_
              rotate_left
              · intro w'
                go_simp
                with_reducible rfl
              rotate_left
              · simp only [Act.put,zA,zB,zC,i64_w,i32_w]
                rfl
              refine pure_ (i := 5) (N := some 36) (v := ?_) (a' := ?_) #[false,true,false,false,false,true,false,false,false,false,false] rfl rfl (any_of HT_.out (by kernel_rfl)) (fun _ _ _ h => h) (Or.inl ⟨by rfl,?_⟩) ?_ ?_
              rotate_left
              · intro w'
                go_simp
                with_reducible rfl
              rotate_left
              · simp only [Act.put,zA,zB,zC,i64_w,i32_w]
                rfl
              refine pure_ (i := 8) (N := some 39) (v := ?_) (a' := ?_) #[false,true,false,false,false,true,false,false,true,false,false] rfl rfl (any_of HT_.out (by kernel_rfl)) (fun _ _ _ h => h) (Or.inl ⟨by rfl,?_⟩) ?_ ?_
              rotate_left
              · intro w'
                go_simp
                with_reducible rfl
              rotate_left
              · simp only [Act.put,zA,zB,zC,i64_w,i32_w]
                rfl
              refine take_ (i := 0) (N := some 31) (v := ?_) (a' := ?_) #[true,true,false,false,false,true,false,false,true,false,false] rfl rfl (take_ofW HT_.out HW_.out (by kernel_rfl)) (fun _ _ _ h => h) (Or.inl ⟨by rfl,?_⟩) hHeld ?_ ?_
              rotate_left
              · rintro w' ⟨s0,s1,s2,s3⟩
                go_simp
                with_reducible rfl
              rotate_left
              · simp only [Act.put,zA,zB,zC,i64_w,i32_w]
                rfl
              refine take_ (i := 4) (N := some 35) (v := ?_) (a' := ?_) #[true,true,false,false,true,true,false,false,true,false,false] rfl rfl (take_ofW HT_.out HW_.out (by kernel_rfl)) (fun _ _ _ h => h) (Or.inl ⟨by rfl,?_⟩) hHeld ?_ ?_
              rotate_left
              · rintro w' ⟨s0,s1,s2,s3⟩
                go_simp
                with_reducible rfl
              rotate_left
              · simp only [Act.put,zA,zB,zC,i64_w,i32_w]
                rfl
              refine one_ (i := 2) (N := some 33) #[true,true,true,false,true,true,false,false,true,false,false] rfl rfl (one_of HT_.out (by kernel_rfl)) (by decide) (fun K hK => ?_)
              refine goes_ Try.func60 (by kernel_rfl) rfl #[.agg #[.bool a0_0,.slice A0_1 l0_1.length c0_1],.int .i64 x7_1] (by rfl) rfl rfl (by (try simp only [List.map_toArray,List.map_cons,List.map_nil]);first | done | rfl | (simp only [List.length_drop,List.length_take];rfl)) ?_
              with_reducible refine (verdererref03_Big_at.calls a0_0 _ _ l0_1 x7_1 t120 _ ?side1 ?side2 A37.out).mono ?_
              (case side1 => repeat (first | exact (Kd.C_below HR0_1.out HB.out) | (with_reducible refine Kd.C_alloc ?_ _) | (with_reducible refine Kd.C_drewN ?_ _) | (with_reducible refine Kd.C_drew ?_)))
              (case side2 => exact HC0_1.out)
              rintro e w41 ⟨rfl,hb⟩
              refine ⟨_,rfl,?_⟩
              have n0_ := Aside0.mk (Kd.R_below (by (with_reducible repeat (first | apply Kd.R_alloc | apply Kd.R_drewN | apply Kd.R_drew));exact HO_120001.out) hb)
              have n1_ := Aside0.mk (blk_below (g := gb111) (o := .cells #[.bool a0_0,.slice A0_1 l0_1.length c0_1] 29 (0,0)) (by (with_reducible repeat (first | refine blk_drewN ?_ _ | refine blk_drew ?_ | refine blk_alloc ?_ _));exact BK111.out) hb)
              have n2_ := Aside0.mk (blk_below (g := gb112) (o := .cells #[.bool a1_0,.slice A1_1 l1_1.length c1_1] 29 (0,0)) (by (with_reducible repeat (first | refine blk_drewN ?_ _ | refine blk_drew ?_ | refine blk_alloc ?_ _));exact BK112.out) hb)
              have n3_ := Aside0.mk (blk_below (g := gb113) (o := .cells #[.bool false,.slice none 0 0] 29 (0,0)) (by (with_reducible repeat (first | refine blk_drewN ?_ _ | refine blk_drew ?_ | refine blk_alloc ?_ _));exact BK113.out) hb)
              have n4_ := Aside0.mk (blk_below (g := gb119) (o := .cells #[.bool a0_0,u120001] 29 (0,0)) (by (with_reducible repeat (first | refine blk_drewN ?_ _ | refine blk_drew ?_ | refine blk_alloc ?_ _));exact BK119.out) hb)
              have n5_ := Aside0.mk (below_step (by repeat (first | (with_reducible first | exact HB.out | apply below_alloc | apply pw_below_drewN | apply below_drew1 | refine below_set ?_ GE111.out | refine below_set ?_ GE112.out | refine below_set ?_ GE113.out | refine below_set ?_ GE119.out) | exact HB.out)) hb)
              clear HO_120001
              clear BK111
              clear BK112
              clear BK113
              clear BK119
              clear HB
              have HO_120001 := n0_
              have BK111 := n1_
              have BK112 := n2_
              have BK113 := n3_
              have BK119 := n4_
              have HB := n5_
              clear n0_ n1_ n2_ n3_ n4_ n5_
              (try clear hb)
              (try clear hb2)
              (try clear hk)
              (try clear hi)
              refine hK.out _ _ ⟨(blk_cell BK111.out 0).trans rfl,(blk_cell BK111.out 1).trans rfl,(blk_cell BK112.out 0).trans rfl,(blk_cell BK112.out 1).trans rfl⟩ (fun hHeld => ?_)
              clear hK K
              refine norm_ (a' := ?_) ?_ ?_
              rotate_left
              · show Act.put _ (some 33) _ = _
                simp only [Act.put,zA,zB,zC,i64_w,i32_w]
                rfl
              refine pure_ (i := 3) (N := some 34) (v := ?_) (a' := ?_) #[true,true,true,true,true,true,false,false,true,false,false] rfl rfl (any_of HT_.out (by kernel_rfl)) (fun _ _ _ h => h) (Or.inl ⟨by rfl,?_⟩) ?_ ?_
              rotate_left
              · intro w'
                go_simp
                with_reducible rfl
              rotate_left
              · simp only [Act.put,zA,zB,zC,i64_w,i32_w]
                rfl
              refine one_ (i := 6) (N := some 37) #[true,true,true,true,true,true,true,false,true,false,false] rfl rfl (one_of HT_.out (by kernel_rfl)) (by decide) (fun K hK => ?_)
              refine goes_ Try.func60 (by kernel_rfl) rfl #[.agg #[.bool a1_0,.slice A1_1 l1_1.length c1_1],.int .i64 x7_1] (by rfl) rfl rfl (by (try simp only [List.map_toArray,List.map_cons,List.map_nil]);first | done | rfl | (simp only [List.length_drop,List.length_take];rfl)) ?_
              with_reducible refine (verdererref03_Big_at.calls a1_0 _ _ l1_1 x7_1 t121 _ ?side1 ?side2 A38.out).mono ?_
              (case side1 => repeat (first | exact (Kd.C_below HR1_1.out HB.out) | (with_reducible refine Kd.C_alloc ?_ _) | (with_reducible refine Kd.C_drewN ?_ _) | (with_reducible refine Kd.C_drew ?_)))
              (case side2 => exact HC1_1.out)
              rintro e w42 ⟨rfl,hb⟩
              refine ⟨_,rfl,?_⟩
              have n0_ := Aside0.mk (Kd.R_below (by (with_reducible repeat (first | apply Kd.R_alloc | apply Kd.R_drewN | apply Kd.R_drew));exact HO_120001.out) hb)
              have n1_ := Aside0.mk (blk_below (g := gb111) (o := .cells #[.bool a0_0,.slice A0_1 l0_1.length c0_1] 29 (0,0)) (by (with_reducible repeat (first | refine blk_drewN ?_ _ | refine blk_drew ?_ | refine blk_alloc ?_ _));exact BK111.out) hb)
              have n2_ := Aside0.mk (blk_below (g := gb112) (o := .cells #[.bool a1_0,.slice A1_1 l1_1.length c1_1] 29 (0,0)) (by (with_reducible repeat (first | refine blk_drewN ?_ _ | refine blk_drew ?_ | refine blk_alloc ?_ _));exact BK112.out) hb)
              have n3_ := Aside0.mk (blk_below (g := gb113) (o := .cells #[.bool false,.slice none 0 0] 29 (0,0)) (by (with_reducible repeat (first | refine blk_drewN ?_ _ | refine blk_drew ?_ | refine blk_alloc ?_ _));exact BK113.out) hb)
              have n4_ := Aside0.mk (blk_below (g := gb119) (o := .cells #[.bool a0_0,u120001] 29 (0,0)) (by (with_reducible repeat (first | refine blk_drewN ?_ _ | refine blk_drew ?_ | refine blk_alloc ?_ _));exact BK119.out) hb)
              have n5_ := Aside0.mk (below_step (by repeat (first | (with_reducible first | exact HB.out | apply below_alloc | apply pw_below_drewN | apply below_drew1 | refine below_set ?_ GE111.out | refine below_set ?_ GE112.out | refine below_set ?_ GE113.out | refine below_set ?_ GE119.out) | exact HB.out)) hb)
              clear HO_120001
              clear BK111
              clear BK112
              clear BK113
              clear BK119
              clear HB
              have HO_120001 := n0_
              have BK111 := n1_
              have BK112 := n2_
              have BK113 := n3_
              have BK119 := n4_
              have HB := n5_
              clear n0_ n1_ n2_ n3_ n4_ n5_
              (try clear hb)
              (try clear hb2)
              (try clear hk)
              (try clear hi)
              refine hK.out _ _ ⟨(blk_cell BK111.out 0).trans rfl,(blk_cell BK111.out 1).trans rfl,(blk_cell BK112.out 0).trans rfl,(blk_cell BK112.out 1).trans rfl⟩ (fun hHeld => ?_)
              clear hK K
              refine norm_ (a' := ?_) ?_ ?_
              rotate_left
              · show Act.put _ (some 37) _ = _
                simp only [Act.put,zA,zB,zC,i64_w,i32_w]
                rfl
              refine pure_ (i := 7) (N := some 38) (v := ?_) (a' := ?_) #[true,true,true,true,true,true,true,true,true,false,false] rfl rfl (any_of HT_.out (by kernel_rfl)) (fun _ _ _ h => h) (Or.inl ⟨by rfl,?_⟩) ?_ ?_
              rotate_left
              · intro w'
                go_simp
                with_reducible rfl
              rotate_left
              · simp only [Act.put,zA,zB,zC,i64_w,i32_w]
                rfl
              refine pure_ (i := 9) (N := some 40) (v := ?_) (a' := ?_) #[true,true,true,true,true,true,true,true,true,true,false] rfl rfl (any_of HT_.out (by kernel_rfl)) (fun _ _ _ h => h) (Or.inl ⟨by rfl,?_⟩) ?_ ?_
              rotate_left
              · intro w'
                go_simp
                with_reducible rfl
              rotate_left
              · simp only [Act.put,zA,zB,zC,i64_w,i32_w]
                rfl
              refine pure_ (i := 10) (N := some 8) (v := ?_) (a' := ?_) #[true,true,true,true,true,true,true,true,true,true,true] rfl rfl (any_of HT_.out (by kernel_rfl)) (fun _ _ _ h => h) (Or.inl ⟨by rfl,?_⟩) ?_ ?_
              rotate_left
              · intro w'
                go_simp
                with_reducible rfl
              rotate_left
              · simp only [Act.put,zA,zB,zC,i64_w,i32_w]
                rfl
              refine done_ (done_of HT_.out (by kernel_rfl)) ?_
              have hnb43 := NB119_111.out
              have hnc43 := NB111_119.out
              have hnb44 := NB119_112.out
              have hnc44 := NB112_119.out
              have hnb45 := NB119_113.out
              have hnc45 := NB113_119.out
              have hcz46_0 : w42.cell? ⟨gb119,0,none⟩ = some (.bool a0_0) := (blk_cell BK119.out 0).trans rfl
              have hcz46_1 : w42.cell? ⟨gb119,1,none⟩ = some (u120001) := (blk_cell BK119.out 1).trans rfl
              have hfz46_0 := blk_frozen BK119.out 0
              have hfz46_1 := blk_frozen BK119.out 1
              try go_wp2_with (first | ((with_reducible refine gate_builtin (b := .append) (xs := #[.tmp 42,.tmp 45]) rfl ?_);at_builtin;refine Kd.R_append (Kd.int .u64) (w0 := w) w.heap.size rfl (.tmp 42) (.tmp 45) 27 96 (.int .u64 0) 8 rfl Try.underlying27 info96 rfl (by decide) (by omega) u120001 x120001_1 (Int.tmod (IntKind.u64.wrap ((IntKind.u64.wrap ((IntKind.u64.wrap (t120 + 65536)) - t121)) - x6_1)) 65536) [.int .u64 (Int.tmod (IntKind.u64.wrap ((IntKind.u64.wrap ((IntKind.u64.wrap (t120 + 65536)) - t121)) - x6_1)) 65536)] (fun _ => True) (fun _ => False) rfl rfl ?aP (fun _ hk => hk.elim) ?aF ?aO ?aB ?aS ?aL ?_;(case aP => exact rfl);(case aB => exact (by repeat (first | (with_reducible first | exact HB.out | apply below_alloc | apply pw_below_drewN | apply below_drew1 | refine below_set ?_ GE111.out | refine below_set ?_ GE112.out | refine below_set ?_ GE113.out | refine below_set ?_ GE119.out) | exact HB.out)));(case aF => exact (fun _ _ => trivial));(case aO => exact (by (with_reducible repeat (first | apply Kd.R_alloc | apply Kd.R_drewN | apply Kd.R_drew));exact HO_120001.out));(case aS => exact (below_size (by repeat (first | (with_reducible first | exact HB.out | apply below_alloc | apply pw_below_drewN | apply below_drew1 | refine below_set ?_ GE111.out | refine below_set ?_ GE112.out | refine below_set ?_ GE113.out | refine below_set ?_ GE119.out) | exact HB.out))));(case aL => have := LMc39.out;omega);intro v123 w47 ho hb hg hat;rw [← Ny122.out] at ho;have n0_ := Aside0.mk (blk_grown (g := gb111) (o := .cells #[.bool a0_0,.slice A0_1 l0_1.length c0_1] 29 (0,0)) (by (with_reducible repeat (first | refine blk_drewN ?_ _ | refine blk_drew ?_ | refine blk_alloc ?_ _));exact BK111.out) hg (Kd.R_ne HO_120001.out BK111.out (by decide)));have n1_ := Aside0.mk (blk_grown (g := gb112) (o := .cells #[.bool a1_0,.slice A1_1 l1_1.length c1_1] 29 (0,0)) (by (with_reducible repeat (first | refine blk_drewN ?_ _ | refine blk_drew ?_ | refine blk_alloc ?_ _));exact BK112.out) hg (Kd.R_ne HO_120001.out BK112.out (by decide)));have n2_ := Aside0.mk (blk_grown (g := gb113) (o := .cells #[.bool false,.slice none 0 0] 29 (0,0)) (by (with_reducible repeat (first | refine blk_drewN ?_ _ | refine blk_drew ?_ | refine blk_alloc ?_ _));exact BK113.out) hg (Kd.R_ne HO_120001.out BK113.out (by decide)));have n3_ := Aside0.mk (blk_grown (g := gb119) (o := .cells #[.bool a0_0,u120001] 29 (0,0)) (by (with_reducible repeat (first | refine blk_drewN ?_ _ | refine blk_drew ?_ | refine blk_alloc ?_ _));exact BK119.out) hg (Kd.R_ne HO_120001.out BK119.out (by decide)));have n4_ := Aside0.mk (hb);have n5_ := Aside0.mk (ho);clear BK111;clear BK112;clear BK113;clear BK119;clear HB;clear HO_120001;have BK111 := n0_;have BK112 := n1_;have BK113 := n2_;have BK119 := n3_;have HB := n4_;have HO124 := n5_;clear n0_ n1_ n2_ n3_ n4_ n5_;clear ho hb hg hat;obtain ⟨Ao48,co48,eo48⟩ := Kd.R_slice HO124.out;subst eo48;have hcz49_0 : w47.cell? ⟨gb119,0,none⟩ = some (.bool a0_0) := (blk_cell BK119.out 0).trans rfl;have hcz49_1 : w47.cell? ⟨gb119,1,none⟩ = some (u120001) := (blk_cell BK119.out 1).trans rfl;have hfz49_0 := blk_frozen BK119.out 0;have hfz49_1 := blk_frozen BK119.out 1))
              go_roundg k1
              case measure => have := HK1.out;omega
              case rel => exact ⟨(IntKind.u64.wrap (1 - (IntKind.u64.wrap (Int.tdiv (IntKind.u64.wrap ((IntKind.u64.wrap ((IntKind.u64.wrap (t120 + 65536)) - t121)) - x6_1)) 65536)))),(wrap64 (x7_1 + 1)),(y122),(.slice Ao48 y122.length co48),(by first | rfl | (simp;done) | (simp [*];done)),(by first | rfl | (simp;done) | (simp [*];done)),H',⟨by have := HK1.out;omega⟩,⟨by (with_reducible repeat (first | apply Kd.R_alloc | apply Kd.R_drewN | apply Kd.R_drew));exact Kd.R_mono (Kd.R_far (p := ⟨gb119,1,none⟩) (Kd.R_types HO124.out BK119.out (by decide)) (fun _ hk => hk.2) (.slice Ao48 y122.length co48)) (fun _ hk => trivial)⟩,⟨by (with_reducible repeat (first | refine blk_drewN ?_ _ | refine blk_drew ?_ | refine blk_alloc ?_ _));refine blk_far ?_ NB111_119.out _;(with_reducible repeat (first | refine blk_drewN ?_ _ | refine blk_drew ?_ | refine blk_alloc ?_ _));exact BK111.out⟩,⟨by (with_reducible repeat (first | refine blk_drewN ?_ _ | refine blk_drew ?_ | refine blk_alloc ?_ _));refine blk_far ?_ NB112_119.out _;(with_reducible repeat (first | refine blk_drewN ?_ _ | refine blk_drew ?_ | refine blk_alloc ?_ _));exact BK112.out⟩,⟨by (with_reducible repeat (first | refine blk_drewN ?_ _ | refine blk_drew ?_ | refine blk_alloc ?_ _));refine blk_far ?_ NB113_119.out _;(with_reducible repeat (first | refine blk_drewN ?_ _ | refine blk_drew ?_ | refine blk_alloc ?_ _));exact BK113.out⟩,⟨by (with_reducible repeat (first | refine blk_drewN ?_ _ | refine blk_drew ?_ | refine blk_alloc ?_ _));refine blk_put (cs := #[.bool a0_0,u120001]) ?_ 1 _ rfl;(with_reducible repeat (first | refine blk_drewN ?_ _ | refine blk_drew ?_ | refine blk_alloc ?_ _));exact BK119.out⟩,⟨by repeat (first | (with_reducible first | exact HB.out | apply below_alloc | apply pw_below_drewN | apply below_drew1 | refine below_set ?_ GE111.out | refine below_set ?_ GE112.out | refine below_set ?_ GE113.out | refine below_set ?_ GE119.out) | exact HB.out)⟩⟩
            · rw [if_neg c39] at H
              exact absurd H (by simp)
          · rw [if_neg c36] at H
            have c36b0 : decide (x7_1 < 20) = false := decide_eq_false c36
            clear c36
            simp only [Option.some.injEq,Prod.mk.injEq] at H
            obtain ⟨rfl,rfl⟩ := H
            have hnb50 := NB119_111.out
            have hnc50 := NB111_119.out
            have hnb51 := NB119_112.out
            have hnc51 := NB112_119.out
            have hnb52 := NB119_113.out
            have hnc52 := NB113_119.out
            have hcz53_0 : wr.cell? ⟨gb119,0,none⟩ = some (.bool a0_0) := (blk_cell BK119.out 0).trans rfl
            have hcz53_1 : wr.cell? ⟨gb119,1,none⟩ = some (u120001) := (blk_cell BK119.out 1).trans rfl
            have hfz53_0 := blk_frozen BK119.out 0
            have hfz53_1 := blk_frozen BK119.out 1
            have hnb54 := NB113_111.out
            have hnc54 := NB111_113.out
            have hnb55 := NB113_112.out
            have hnc55 := NB112_113.out
            have hcz56_0 : wr.cell? ⟨gb113,0,none⟩ = some (.bool false) := (blk_cell BK113.out 0).trans rfl
            have hcz56_1 : wr.cell? ⟨gb113,1,none⟩ = some (.slice none 0 0) := (blk_cell BK113.out 1).trans rfl
            have hfz56_0 := blk_frozen BK113.out 0
            have hfz56_1 := blk_frozen BK113.out 1
            obtain ⟨Ao57,co57,eo57⟩ := Kd.R_slice HO_120001.out
            subst eo57
            go_wp2
            refine bodyPost_ret (results_cell_row rfl _ _ gb113 29 #[.bool a0_0,.slice Ao57 x120001_1.length co57] (0,0) _ rfl (by (with_reducible repeat (first | refine blk_drewN ?_ _ | refine blk_drew ?_ | refine blk_alloc ?_ _));refine blk_put (cs := #[.bool a0_0,.slice none 0 0]) ?_ 1 _ rfl;(with_reducible repeat (first | refine blk_drewN ?_ _ | refine blk_drew ?_ | refine blk_alloc ?_ _));refine blk_put (cs := #[.bool false,.slice none 0 0]) ?_ 0 _ rfl;(with_reducible repeat (first | refine blk_drewN ?_ _ | refine blk_drew ?_ | refine blk_alloc ?_ _));exact BK113.out) Try.underlying29 rfl (by kernel_rfl)) rfl ?_
            exact ⟨_,by first | rfl | (simp [errW_none,errW_some] <;> rfl) | (simp [*,errW_none,errW_some] <;> rfl),by (with_reducible repeat (first | apply Kd.R_alloc | apply Kd.R_drewN | apply Kd.R_drew));exact Kd.R_mono (Kd.R_far (p := ⟨gb113,1,none⟩) (Kd.R_far (p := ⟨gb113,0,none⟩) (Kd.R_types HO_120001.out BK113.out (by decide)) (fun _ hk => hk.2) (.bool a0_0)) (fun _ hk => hk.2) (.slice Ao57 x120001_1.length co57)) (fun _ hk => trivial),by repeat (first | (with_reducible first | exact HB.out | apply below_alloc | apply pw_below_drewN | apply below_drew1 | refine below_set ?_ GE111.out | refine below_set ?_ GE112.out | refine below_set ?_ GE113.out | refine below_set ?_ GE119.out) | exact HB.out)⟩
  · rw [if_neg c3] at H
    have c3b0 : (a0_0 != a1_0) = false := by simpa using c3
    (try (have c3b1 : decide (a0_0 = a1_0) = true := by simpa using c3))
    (try (have c3b2 : (a0_0 == a1_0) = true := by simpa using c3))
    clear c3
    have H' := Aside0.mk H
    clear H
    go_enter Try.func16,Try.ntmps16
    go_wp2_with (first | ((with_reducible refine gate_dst (N := 2) rfl ?_);refine box_event ?hg (N := 2) ?hd (cs := #[.bool a0_0,.slice A0_1 l0_1.length c0_1]) (t := 29) ?hr ?_;(case hd => rfl);(case hg => rfl);(case hr => first | (go_simp;done) | (go_simp;rfl));intro gb111 hg w58 hbox hb;have n0_ := Aside0.mk (below_step (by repeat (first | (with_reducible first | exact HB.out | apply below_alloc | apply pw_below_drewN | apply below_drew1) | exact HB.out)) hb);have n1_ := Aside0.mk (hbox);have n2_ := Aside0.mk ((by rw [hg];exact (below_size (by repeat (first | (with_reducible first | exact HB.out | apply below_alloc | apply pw_below_drewN | apply below_drew1) | exact HB.out))) : w.heap.size ≤ gb111));have n3_ := Aside0.mk ((by rw [hg];exact (below_size (by repeat (first | (with_reducible first | exact HB.out | apply below_alloc | apply pw_below_drewN | apply below_drew1) | exact HB.out))) : w.heap.size ≤ gb111));clear HB;have HB := n0_;have BK111 := n1_;have GW111 := n2_;have GE111 := n3_;clear n0_ n1_ n2_ n3_;clear hb hbox hg) | ((with_reducible refine gate_dst (N := 3) rfl ?_);refine box_event ?hg (N := 3) ?hd (cs := #[.bool a1_0,.slice A1_1 l1_1.length c1_1]) (t := 29) ?hr ?_;(case hd => rfl);(case hg => rfl);(case hr => first | (go_simp;done) | (go_simp;rfl));intro gb112 hg w59 hbox hb;have n0_ := Aside0.mk (blk_below (g := gb111) (o := .cells #[.bool a0_0,.slice A0_1 l0_1.length c0_1] 29 (0,0)) (by (with_reducible repeat (first | refine blk_drewN ?_ _ | refine blk_drew ?_ | refine blk_alloc ?_ _));exact BK111.out) hb);have n1_ := Aside0.mk (below_step (by repeat (first | (with_reducible first | exact HB.out | apply below_alloc | apply pw_below_drewN | apply below_drew1 | refine below_set ?_ GE111.out) | exact HB.out)) hb);have n2_ := Aside0.mk (hbox);have n3_ := Aside0.mk ((by rw [hg];exact (below_size (by repeat (first | (with_reducible first | exact HB.out | apply below_alloc | apply pw_below_drewN | apply below_drew1 | refine below_set ?_ GE111.out) | exact HB.out))) : w.heap.size ≤ gb112));have n4_ := Aside0.mk ((by rw [hg];exact (below_size (by repeat (first | (with_reducible first | exact HB.out | apply below_alloc | apply pw_below_drewN | apply below_drew1 | refine below_set ?_ GE111.out) | exact HB.out))) : w.heap.size ≤ gb112));have n5_ := Aside0.mk ((by rw [hg];exact Nat.ne_of_lt (blk_lt (g := gb111) (o := .cells #[.bool a0_0,.slice A0_1 l0_1.length c0_1] 29 (0,0)) (by (with_reducible repeat (first | refine blk_drewN ?_ _ | refine blk_drew ?_ | refine blk_alloc ?_ _));exact BK111.out)) : gb111 ≠ gb112));have n6_ := Aside0.mk ((by rw [hg];exact Nat.ne_of_gt (blk_lt (g := gb111) (o := .cells #[.bool a0_0,.slice A0_1 l0_1.length c0_1] 29 (0,0)) (by (with_reducible repeat (first | refine blk_drewN ?_ _ | refine blk_drew ?_ | refine blk_alloc ?_ _));exact BK111.out)) : gb112 ≠ gb111));clear BK111;clear HB;have BK111 := n0_;have HB := n1_;have BK112 := n2_;have GW112 := n3_;have GE112 := n4_;have NB111_112 := n5_;have NB112_111 := n6_;clear n0_ n1_ n2_ n3_ n4_ n5_ n6_;clear hb hbox hg) | ((with_reducible refine gate_dst (N := 4) rfl ?_);refine box_event ?hg (N := 4) ?hd (cs := #[.bool false,.slice none 0 0]) (t := 29) ?hr ?_;(case hd => rfl);(case hg => rfl);(case hr => first | (go_simp;done) | (go_simp;rfl));intro gb113 hg w60 hbox hb;have n0_ := Aside0.mk (blk_below (g := gb111) (o := .cells #[.bool a0_0,.slice A0_1 l0_1.length c0_1] 29 (0,0)) (by (with_reducible repeat (first | refine blk_drewN ?_ _ | refine blk_drew ?_ | refine blk_alloc ?_ _));exact BK111.out) hb);have n1_ := Aside0.mk (blk_below (g := gb112) (o := .cells #[.bool a1_0,.slice A1_1 l1_1.length c1_1] 29 (0,0)) (by (with_reducible repeat (first | refine blk_drewN ?_ _ | refine blk_drew ?_ | refine blk_alloc ?_ _));exact BK112.out) hb);have n2_ := Aside0.mk (below_step (by repeat (first | (with_reducible first | exact HB.out | apply below_alloc | apply pw_below_drewN | apply below_drew1 | refine below_set ?_ GE111.out | refine below_set ?_ GE112.out) | exact HB.out)) hb);have n3_ := Aside0.mk (hbox);have n4_ := Aside0.mk ((by rw [hg];exact (below_size (by repeat (first | (with_reducible first | exact HB.out | apply below_alloc | apply pw_below_drewN | apply below_drew1 | refine below_set ?_ GE111.out | refine below_set ?_ GE112.out) | exact HB.out))) : w.heap.size ≤ gb113));have n5_ := Aside0.mk ((by rw [hg];exact (below_size (by repeat (first | (with_reducible first | exact HB.out | apply below_alloc | apply pw_below_drewN | apply below_drew1 | refine below_set ?_ GE111.out | refine below_set ?_ GE112.out) | exact HB.out))) : w.heap.size ≤ gb113));have n6_ := Aside0.mk ((by rw [hg];exact Nat.ne_of_lt (blk_lt (g := gb111) (o := .cells #[.bool a0_0,.slice A0_1 l0_1.length c0_1] 29 (0,0)) (by (with_reducible repeat (first | refine blk_drewN ?_ _ | refine blk_drew ?_ | refine blk_alloc ?_ _));exact BK111.out)) : gb111 ≠ gb113));have n7_ := Aside0.mk ((by rw [hg];exact Nat.ne_of_gt (blk_lt (g := gb111) (o := .cells #[.bool a0_0,.slice A0_1 l0_1.length c0_1] 29 (0,0)) (by (with_reducible repeat (first | refine blk_drewN ?_ _ | refine blk_drew ?_ | refine blk_alloc ?_ _));exact BK111.out)) : gb113 ≠ gb111));have n8_ := Aside0.mk ((by rw [hg];exact Nat.ne_of_lt (blk_lt (g := gb112) (o := .cells #[.bool a1_0,.slice A1_1 l1_1.length c1_1] 29 (0,0)) (by (with_reducible repeat (first | refine blk_drewN ?_ _ | refine blk_drew ?_ | refine blk_alloc ?_ _));exact BK112.out)) : gb112 ≠ gb113));have n9_ := Aside0.mk ((by rw [hg];exact Nat.ne_of_gt (blk_lt (g := gb112) (o := .cells #[.bool a1_0,.slice A1_1 l1_1.length c1_1] 29 (0,0)) (by (with_reducible repeat (first | refine blk_drewN ?_ _ | refine blk_drew ?_ | refine blk_alloc ?_ _));exact BK112.out)) : gb113 ≠ gb112));clear BK111;clear BK112;clear HB;have BK111 := n0_;have BK112 := n1_;have HB := n2_;have BK113 := n3_;have GW113 := n4_;have GE113 := n5_;have NB111_113 := n6_;have NB113_111 := n7_;have NB112_113 := n8_;have NB113_112 := n9_;clear n0_ n1_ n2_ n3_ n4_ n5_ n6_ n7_ n8_ n9_;clear hb hbox hg;have hnb61 := NB111_112.out;have hnc61 := NB112_111.out;have hnb62 := NB111_113.out;have hnc62 := NB113_111.out;have hcz63_0 : w60.cell? ⟨gb111,0,none⟩ = some (.bool a0_0) := (blk_cell BK111.out 0).trans rfl;have hcz63_1 : w60.cell? ⟨gb111,1,none⟩ = some (.slice A0_1 l0_1.length c0_1) := (blk_cell BK111.out 1).trans rfl;have hfz63_0 := blk_frozen BK111.out 0;have hfz63_1 := blk_frozen BK111.out 1;have hnb64 := NB112_113.out;have hnc64 := NB113_112.out;have hcz65_0 : w60.cell? ⟨gb112,0,none⟩ = some (.bool a1_0) := (blk_cell BK112.out 0).trans rfl;have hcz65_1 : w60.cell? ⟨gb112,1,none⟩ = some (.slice A1_1 l1_1.length c1_1) := (blk_cell BK112.out 1).trans rfl;have hfz65_0 := blk_frozen BK112.out 0;have hfz65_1 := blk_frozen BK112.out 1) | ((with_reducible refine gate_dst (N := 9) rfl ?_);refine box_event ?hg (N := 9) ?hd (cs := #[.bool false,.slice none 0 0]) (t := 29) ?hr ?_;(case hd => rfl);(case hg => rfl);(case hr => first | (go_simp;done) | (go_simp;rfl));intro gb125 hg w66 hbox hb;have n0_ := Aside0.mk (blk_below (g := gb111) (o := .cells #[.bool a0_0,.slice A0_1 l0_1.length c0_1] 29 (0,0)) (by (with_reducible repeat (first | refine blk_drewN ?_ _ | refine blk_drew ?_ | refine blk_alloc ?_ _));exact BK111.out) hb);have n1_ := Aside0.mk (blk_below (g := gb112) (o := .cells #[.bool a1_0,.slice A1_1 l1_1.length c1_1] 29 (0,0)) (by (with_reducible repeat (first | refine blk_drewN ?_ _ | refine blk_drew ?_ | refine blk_alloc ?_ _));exact BK112.out) hb);have n2_ := Aside0.mk (blk_below (g := gb113) (o := .cells #[.bool false,.slice none 0 0] 29 (0,0)) (by (with_reducible repeat (first | refine blk_drewN ?_ _ | refine blk_drew ?_ | refine blk_alloc ?_ _));exact BK113.out) hb);have n3_ := Aside0.mk (below_step (by repeat (first | (with_reducible first | exact HB.out | apply below_alloc | apply pw_below_drewN | apply below_drew1 | refine below_set ?_ GE111.out | refine below_set ?_ GE112.out | refine below_set ?_ GE113.out) | exact HB.out)) hb);have n4_ := Aside0.mk (hbox);have n5_ := Aside0.mk ((by rw [hg];exact (below_size (by repeat (first | (with_reducible first | exact HB.out | apply below_alloc | apply pw_below_drewN | apply below_drew1 | refine below_set ?_ GE111.out | refine below_set ?_ GE112.out | refine below_set ?_ GE113.out) | exact HB.out))) : w.heap.size ≤ gb125));have n6_ := Aside0.mk ((by rw [hg];exact (below_size (by repeat (first | (with_reducible first | exact HB.out | apply below_alloc | apply pw_below_drewN | apply below_drew1 | refine below_set ?_ GE111.out | refine below_set ?_ GE112.out | refine below_set ?_ GE113.out) | exact HB.out))) : w.heap.size ≤ gb125));have n7_ := Aside0.mk ((by rw [hg];exact Nat.ne_of_lt (blk_lt (g := gb111) (o := .cells #[.bool a0_0,.slice A0_1 l0_1.length c0_1] 29 (0,0)) (by (with_reducible repeat (first | refine blk_drewN ?_ _ | refine blk_drew ?_ | refine blk_alloc ?_ _));exact BK111.out)) : gb111 ≠ gb125));have n8_ := Aside0.mk ((by rw [hg];exact Nat.ne_of_gt (blk_lt (g := gb111) (o := .cells #[.bool a0_0,.slice A0_1 l0_1.length c0_1] 29 (0,0)) (by (with_reducible repeat (first | refine blk_drewN ?_ _ | refine blk_drew ?_ | refine blk_alloc ?_ _));exact BK111.out)) : gb125 ≠ gb111));have n9_ := Aside0.mk ((by rw [hg];exact Nat.ne_of_lt (blk_lt (g := gb112) (o := .cells #[.bool a1_0,.slice A1_1 l1_1.length c1_1] 29 (0,0)) (by (with_reducible repeat (first | refine blk_drewN ?_ _ | refine blk_drew ?_ | refine blk_alloc ?_ _));exact BK112.out)) : gb112 ≠ gb125));have n10_ := Aside0.mk ((by rw [hg];exact Nat.ne_of_gt (blk_lt (g := gb112) (o := .cells #[.bool a1_0,.slice A1_1 l1_1.length c1_1] 29 (0,0)) (by (with_reducible repeat (first | refine blk_drewN ?_ _ | refine blk_drew ?_ | refine blk_alloc ?_ _));exact BK112.out)) : gb125 ≠ gb112));have n11_ := Aside0.mk ((by rw [hg];exact Nat.ne_of_lt (blk_lt (g := gb113) (o := .cells #[.bool false,.slice none 0 0] 29 (0,0)) (by (with_reducible repeat (first | refine blk_drewN ?_ _ | refine blk_drew ?_ | refine blk_alloc ?_ _));exact BK113.out)) : gb113 ≠ gb125));have n12_ := Aside0.mk ((by rw [hg];exact Nat.ne_of_gt (blk_lt (g := gb113) (o := .cells #[.bool false,.slice none 0 0] 29 (0,0)) (by (with_reducible repeat (first | refine blk_drewN ?_ _ | refine blk_drew ?_ | refine blk_alloc ?_ _));exact BK113.out)) : gb125 ≠ gb113));clear BK111;clear BK112;clear BK113;clear HB;have BK111 := n0_;have BK112 := n1_;have BK113 := n2_;have HB := n3_;have BK125 := n4_;have GW125 := n5_;have GE125 := n6_;have NB111_125 := n7_;have NB125_111 := n8_;have NB112_125 := n9_;have NB125_112 := n10_;have NB113_125 := n11_;have NB125_113 := n12_;clear n0_ n1_ n2_ n3_ n4_ n5_ n6_ n7_ n8_ n9_ n10_ n11_ n12_;clear hb hbox hg;have hnb67 := NB125_111.out;have hnc67 := NB111_125.out;have hnb68 := NB125_112.out;have hnc68 := NB112_125.out;have hnb69 := NB125_113.out;have hnc69 := NB113_125.out;have hcz70_0 : w66.cell? ⟨gb125,0,none⟩ = some (.bool false) := (blk_cell BK125.out 0).trans rfl;have hcz70_1 : w66.cell? ⟨gb125,1,none⟩ = some (.slice none 0 0) := (blk_cell BK125.out 1).trans rfl;have hfz70_0 := blk_frozen BK125.out 0;have hfz70_1 := blk_frozen BK125.out 1))
    go_loopg [10,11] k (fun kq v10 v11 w' => ∃ (x10_1 : Int) (x11_1 : Int) (x126001_1 : List Int) (u126001 : Value),v10 = .int .u64 x10_1 ∧ v11 = .int .i64 x11_1 ∧ Aside0 (verdererref03_Plus.l1 kq x10_1 x11_1 a0_0 l0_1 a1_0 l1_1 a0_0 x126001_1 = some (r1,r2)) ∧ Aside0 (kq ≤ k) ∧ Aside0 (Kd.R (Kd.int .u64) 96 w' w.heap.size (fun _ => True) u126001 x126001_1) ∧ Aside0 (w'.heap[gb111]? = some (.cells #[.bool a0_0,(.slice A0_1 l0_1.length c0_1)] 29 (0,0))) ∧ Aside0 (w'.heap[gb112]? = some (.cells #[.bool a1_0,(.slice A1_1 l1_1.length c1_1)] 29 (0,0))) ∧ Aside0 (w'.heap[gb113]? = some (.cells #[.bool false,(.slice none 0 0)] 29 (0,0))) ∧ Aside0 (w'.heap[gb125]? = some (.cells #[.bool a0_0,u126001] 29 (0,0))) ∧ Aside0 (Below w.heap.size w w'))
    case atStart => exact ⟨(0),(0),(([] : List Int)),(.slice none 0 0),(by first | rfl | (simp;done) | (simp [*];done)),(by first | rfl | (simp;done) | (simp [*];done)),H',⟨Nat.le_refl _⟩,⟨by first | exact Kd.R_nil _ _ _ _ _ | exact Kd.N_nil _ _ _ _ _ | exact Kd.V_nil _ _ _ _ _ | exact Kd.Q_nil _ _ _ _ _ | exact Kd.S_nil _ _ _ _ _⟩,⟨by (with_reducible repeat (first | refine blk_drewN ?_ _ | refine blk_drew ?_ | refine blk_alloc ?_ _));refine blk_far ?_ NB111_125.out _;(with_reducible repeat (first | refine blk_drewN ?_ _ | refine blk_drew ?_ | refine blk_alloc ?_ _));refine blk_far ?_ NB111_125.out _;(with_reducible repeat (first | refine blk_drewN ?_ _ | refine blk_drew ?_ | refine blk_alloc ?_ _));exact BK111.out⟩,⟨by (with_reducible repeat (first | refine blk_drewN ?_ _ | refine blk_drew ?_ | refine blk_alloc ?_ _));refine blk_far ?_ NB112_125.out _;(with_reducible repeat (first | refine blk_drewN ?_ _ | refine blk_drew ?_ | refine blk_alloc ?_ _));refine blk_far ?_ NB112_125.out _;(with_reducible repeat (first | refine blk_drewN ?_ _ | refine blk_drew ?_ | refine blk_alloc ?_ _));exact BK112.out⟩,⟨by (with_reducible repeat (first | refine blk_drewN ?_ _ | refine blk_drew ?_ | refine blk_alloc ?_ _));refine blk_far ?_ NB113_125.out _;(with_reducible repeat (first | refine blk_drewN ?_ _ | refine blk_drew ?_ | refine blk_alloc ?_ _));refine blk_far ?_ NB113_125.out _;(with_reducible repeat (first | refine blk_drewN ?_ _ | refine blk_drew ?_ | refine blk_alloc ?_ _));exact BK113.out⟩,⟨by (with_reducible repeat (first | refine blk_drewN ?_ _ | refine blk_drew ?_ | refine blk_alloc ?_ _));refine blk_put (cs := #[.bool a0_0,.slice none 0 0]) ?_ 1 _ rfl;(with_reducible repeat (first | refine blk_drewN ?_ _ | refine blk_drew ?_ | refine blk_alloc ?_ _));refine blk_put (cs := #[.bool false,.slice none 0 0]) ?_ 0 _ rfl;(with_reducible repeat (first | refine blk_drewN ?_ _ | refine blk_drew ?_ | refine blk_alloc ?_ _));exact BK125.out⟩,⟨by repeat (first | (with_reducible first | exact HB.out | apply below_alloc | apply pw_below_drewN | apply below_drew1 | refine below_set ?_ GE111.out | refine below_set ?_ GE112.out | refine below_set ?_ GE113.out | refine below_set ?_ GE125.out) | exact HB.out)⟩⟩
    case round =>
      clear H'
      try clear c1
      try clear c2
      try clear p2
      try clear c3
      try clear c3b0
      try clear c3b1
      try clear c3b2
      try clear c4
      try clear c5
      try clear c6
      try clear p6
      try clear c10
      try clear c11
      try clear c13
      try clear c16
      try clear c24
      try clear c25
      try clear c27
      try clear c32
      try clear c33
      try clear c34
      try clear c36
      try clear c36b0
      try clear c39
      try clear c43
      try clear c44
      try clear c45
      try clear c50
      try clear c51
      try clear c52
      try clear c54
      try clear c55
      try clear c59
      try clear c60
      try clear c61
      try clear c62
      try clear c64
      try clear p64
      try clear c67
      try clear c68
      try clear c69
      try clear hcz12_0
      try clear hcz12_1
      try clear hcz14_0
      try clear hcz14_1
      try clear hcz16_0
      try clear hcz16_1
      try clear hcz17_0
      try clear hcz17_1
      try clear hcz19_0
      try clear hcz19_1
      try clear hcz26_0
      try clear hcz26_1
      try clear hcz28_0
      try clear hcz28_1
      try clear hcz30_0
      try clear hcz30_1
      try clear hcz35_0
      try clear hcz35_1
      try clear hcz46_0
      try clear hcz46_1
      try clear hcz49_0
      try clear hcz49_1
      try clear hcz53_0
      try clear hcz53_1
      try clear hcz56_0
      try clear hcz56_1
      try clear hcz63_0
      try clear hcz63_1
      try clear hcz65_0
      try clear hcz65_1
      try clear hcz70_0
      try clear hcz70_1
      try clear hfz12_0
      try clear hfz12_1
      try clear hfz14_0
      try clear hfz14_1
      try clear hfz16_0
      try clear hfz16_1
      try clear hfz17_0
      try clear hfz17_1
      try clear hfz19_0
      try clear hfz19_1
      try clear hfz26_0
      try clear hfz26_1
      try clear hfz28_0
      try clear hfz28_1
      try clear hfz30_0
      try clear hfz30_1
      try clear hfz35_0
      try clear hfz35_1
      try clear hfz46_0
      try clear hfz46_1
      try clear hfz49_0
      try clear hfz49_1
      try clear hfz53_0
      try clear hfz53_1
      try clear hfz56_0
      try clear hfz56_1
      try clear hfz63_0
      try clear hfz63_1
      try clear hfz65_0
      try clear hfz65_1
      try clear hfz70_0
      try clear hfz70_1
      try clear p2
      obtain ⟨x10_1,x11_1,x126001_1,u126001,rfl,rfl,HA,HK1,HO_126001,BK111,BK112,BK113,BK125,HB⟩ := hrel
      cases gk with
      | zero => exact absurd HA.out (by simp [verdererref03_Plus.l1])
      | succ k1 =>
        have H := HA.out
        clear HA
        simp only [verdererref03_Plus.l1] at H
        by_cases c71 : x11_1 < 20
        · rw [if_pos c71] at H
          have c71b0 : decide (x11_1 < 20) = true := decide_eq_true c71
          clear c71
          replace H := Option.bind_eq_some_iff.mp H
          obtain ⟨t126,A720,H⟩ := H
          replace H : ((verdererref03_Big_at.f a1_0 l1_1 x11_1).bind fun t127 => (if x126001_1.length < 17592186044416 then (verdererref03_Plus.l1 k1 (IntKind.u64.wrap (Int.tdiv (IntKind.u64.wrap ((IntKind.u64.wrap (t126 + t127)) + x10_1)) 65536)) (wrap64 (x11_1 + 1)) a0_0 l0_1 a1_0 l1_1 a0_0 (x126001_1 ++ [Int.tmod (IntKind.u64.wrap ((IntKind.u64.wrap (t126 + t127)) + x10_1)) 65536])) else (none))) = some (r1,r2) := H
          have A72 := Aside0.mk A720
          clear A720
          replace H := Option.bind_eq_some_iff.mp H
          obtain ⟨t127,A730,H⟩ := H
          replace H : (if x126001_1.length < 17592186044416 then (verdererref03_Plus.l1 k1 (IntKind.u64.wrap (Int.tdiv (IntKind.u64.wrap ((IntKind.u64.wrap (t126 + t127)) + x10_1)) 65536)) (wrap64 (x11_1 + 1)) a0_0 l0_1 a1_0 l1_1 a0_0 (x126001_1 ++ [Int.tmod (IntKind.u64.wrap ((IntKind.u64.wrap (t126 + t127)) + x10_1)) 65536])) else (none)) = some (r1,r2) := H
          have A73 := Aside0.mk A730
          clear A730
          by_cases c74 : x126001_1.length < 17592186044416
          · rw [if_pos c74] at H
            have LMc74 := Aside0.mk c74
            clear c74
            obtain ⟨y128,hy128⟩ : ∃ y_ : List Int,y_ = (x126001_1 ++ [Int.tmod (IntKind.u64.wrap ((IntKind.u64.wrap (t126 + t127)) + x10_1)) 65536]) := ⟨_,rfl⟩
            replace H : (verdererref03_Plus.l1 k1 (IntKind.u64.wrap (Int.tdiv (IntKind.u64.wrap ((IntKind.u64.wrap (t126 + t127)) + x10_1)) 65536)) (wrap64 (x11_1 + 1)) a0_0 l0_1 a1_0 l1_1 a0_0 y128) = some (r1,r2) := by first | (rw [hy128];with_reducible exact H) | (have H2_ := (Option.bind_some _ _).symm.trans H;rw [hy128];with_reducible exact H2_) | (have H2_ := (Option.bind_some _ _).symm.trans H;with_reducible exact H2_) | with_reducible exact H | (rw [hy128];exact H) | exact H
            have Ny128 := Aside0.mk hy128
            clear hy128
            have H' := Aside0.mk H
            clear H
            try go_wp2
            have n0_ := Aside0.mk (Kd.R_drew HO_126001.out)
            have n1_ := Aside0.mk (blk_drew BK111.out)
            have n2_ := Aside0.mk (blk_drew BK112.out)
            have n3_ := Aside0.mk (blk_drew BK113.out)
            have n4_ := Aside0.mk (blk_drew BK125.out)
            have n5_ := Aside0.mk (below_drew1 HB.out)
            clear HO_126001
            clear BK111
            clear BK112
            clear BK113
            clear BK125
            clear HB
            have HO_126001 := n0_
            have BK111 := n1_
            have BK112 := n2_
            have BK113 := n3_
            have BK125 := n4_
            have HB := n5_
            clear n0_ n1_ n2_ n3_ n4_ n5_
            refine start_ (n := 10) (S := fun w' => w'.cell? ⟨gb111,0,none⟩ = some (.bool a0_0) ∧ w'.cell? ⟨gb111,1,none⟩ = some (.slice A0_1 l0_1.length c0_1) ∧ w'.cell? ⟨gb112,0,none⟩ = some (.bool a1_0) ∧ w'.cell? ⟨gb112,1,none⟩ = some (.slice A1_1 l1_1.length c1_1)) (ds := []) #[false,false,false,false,false,false,false,false,false,false] (by kernel_rfl) rfl rfl ⟨(blk_cell BK111.out 0).trans rfl,(blk_cell BK111.out 1).trans rfl,(blk_cell BK112.out 0).trans rfl,(blk_cell BK112.out 1).trans rfl⟩ (fun hHeld => ?_);refine with_tabW verdererref03_Plus.tab18 verdererref03_Plus.bits18 (fun HT_ HW_ => ?_)
            generalize wr.drew = w75 at HO_126001 BK111 BK112 BK113 BK125 HB hHeld ⊢
            refine pure_ (i := 1) (N := some 60) (v := ?_) (a' := ?_) #[false,true,false,false,false,false,false,false,false,false] rfl rfl (any_of HT_.out (by kernel_rfl)) (fun _ _ _ h => h) (Or.inl ⟨by rfl,?_⟩) ?_ ?_
            rotate_left
            · intro w'
              go_simp
              with_reducible rfl
            rotate_left
            · simp only [Act.put,zA,zB,zC,i64_w,i32_w]
              rfl
            refine pure_ (i := 4) (N := some 63) (v := ?_) (a' := ?_) #[false,true,false,false,true,false,false,false,false,false] rfl rfl (any_of HT_.out (by kernel_rfl)) (fun _ _ _ h => h) (Or.inl ⟨by rfl,?_⟩) ?_ ?_
            rotate_left
            · intro w'
              go_simp
              with_reducible rfl
            rotate_left
            · simp only [Act.put,zA,zB,zC,i64_w,i32_w]
              rfl
            refine pure_ (i := 7) (N := some 66) (v := ?_) (a' := ?_) #[false,true,false,false,true,false,false,true,false,false] rfl rfl (any_of HT_.out (by kernel_rfl)) (fun _ _ _ h => h) (Or.inl ⟨by rfl,?_⟩) ?_ ?_
            rotate_left
            · intro w'
              go_simp
              with_reducible rfl
            rotate_left
            · simp only [Act.put,zA,zB,zC,i64_w,i32_w]
              rfl
            refine take_ (i := 0) (N := some 59) (v := ?_) (a' := ?_) #[true,true,false,false,true,false,false,true,false,false] rfl rfl (take_ofW HT_.out HW_.out (by kernel_rfl)) (fun _ _ _ h => h) (Or.inl ⟨by rfl,?_⟩) hHeld ?_ ?_
            rotate_left
            · rintro w' ⟨s0,s1,s2,s3⟩
              go_simp
              with_reducible rfl
            rotate_left
            · simp only [Act.put,zA,zB,zC,i64_w,i32_w]
              rfl
            refine take_ (i := 3) (N := some 62) (v := ?_) (a' := ?_) #[true,true,false,true,true,false,false,true,false,false] rfl rfl (take_ofW HT_.out HW_.out (by kernel_rfl)) (fun _ _ _ h => h) (Or.inl ⟨by rfl,?_⟩) hHeld ?_ ?_
            rotate_left
            · rintro w' ⟨s0,s1,s2,s3⟩
              go_simp
              with_reducible rfl
            rotate_left
            · simp only [Act.put,zA,zB,zC,i64_w,i32_w]
              rfl
            refine one_ (i := 2) (N := some 61) #[true,true,true,true,true,false,false,true,false,false] rfl rfl (one_of HT_.out (by kernel_rfl)) (by decide) (fun K hK => ?_)
            refine goes_ Try.func60 (by kernel_rfl) rfl #[.agg #[.bool a0_0,.slice A0_1 l0_1.length c0_1],.int .i64 x11_1] (by rfl) rfl rfl (by (try simp only [List.map_toArray,List.map_cons,List.map_nil]);first | done | rfl | (simp only [List.length_drop,List.length_take];rfl)) ?_
            with_reducible refine (verdererref03_Big_at.calls a0_0 _ _ l0_1 x11_1 t126 _ ?side1 ?side2 A72.out).mono ?_
            (case side1 => repeat (first | exact (Kd.C_below HR0_1.out HB.out) | (with_reducible refine Kd.C_alloc ?_ _) | (with_reducible refine Kd.C_drewN ?_ _) | (with_reducible refine Kd.C_drew ?_)))
            (case side2 => exact HC0_1.out)
            rintro e w76 ⟨rfl,hb⟩
            refine ⟨_,rfl,?_⟩
            have n0_ := Aside0.mk (Kd.R_below (by (with_reducible repeat (first | apply Kd.R_alloc | apply Kd.R_drewN | apply Kd.R_drew));exact HO_126001.out) hb)
            have n1_ := Aside0.mk (blk_below (g := gb111) (o := .cells #[.bool a0_0,.slice A0_1 l0_1.length c0_1] 29 (0,0)) (by (with_reducible repeat (first | refine blk_drewN ?_ _ | refine blk_drew ?_ | refine blk_alloc ?_ _));exact BK111.out) hb)
            have n2_ := Aside0.mk (blk_below (g := gb112) (o := .cells #[.bool a1_0,.slice A1_1 l1_1.length c1_1] 29 (0,0)) (by (with_reducible repeat (first | refine blk_drewN ?_ _ | refine blk_drew ?_ | refine blk_alloc ?_ _));exact BK112.out) hb)
            have n3_ := Aside0.mk (blk_below (g := gb113) (o := .cells #[.bool false,.slice none 0 0] 29 (0,0)) (by (with_reducible repeat (first | refine blk_drewN ?_ _ | refine blk_drew ?_ | refine blk_alloc ?_ _));exact BK113.out) hb)
            have n4_ := Aside0.mk (blk_below (g := gb125) (o := .cells #[.bool a0_0,u126001] 29 (0,0)) (by (with_reducible repeat (first | refine blk_drewN ?_ _ | refine blk_drew ?_ | refine blk_alloc ?_ _));exact BK125.out) hb)
            have n5_ := Aside0.mk (below_step (by repeat (first | (with_reducible first | exact HB.out | apply below_alloc | apply pw_below_drewN | apply below_drew1 | refine below_set ?_ GE111.out | refine below_set ?_ GE112.out | refine below_set ?_ GE113.out | refine below_set ?_ GE125.out) | exact HB.out)) hb)
            clear HO_126001
            clear BK111
            clear BK112
            clear BK113
            clear BK125
            clear HB
            have HO_126001 := n0_
            have BK111 := n1_
            have BK112 := n2_
            have BK113 := n3_
            have BK125 := n4_
            have HB := n5_
            clear n0_ n1_ n2_ n3_ n4_ n5_
            (try clear hb)
            (try clear hb2)
            (try clear hk)
            (try clear hi)
            refine hK.out _ _ ⟨(blk_cell BK111.out 0).trans rfl,(blk_cell BK111.out 1).trans rfl,(blk_cell BK112.out 0).trans rfl,(blk_cell BK112.out 1).trans rfl⟩ (fun hHeld => ?_)
            clear hK K
            refine norm_ (a' := ?_) ?_ ?_
            rotate_left
            · show Act.put _ (some 61) _ = _
              simp only [Act.put,zA,zB,zC,i64_w,i32_w]
              rfl
            refine one_ (i := 5) (N := some 64) #[true,true,true,true,true,true,false,true,false,false] rfl rfl (one_of HT_.out (by kernel_rfl)) (by decide) (fun K hK => ?_)
            refine goes_ Try.func60 (by kernel_rfl) rfl #[.agg #[.bool a1_0,.slice A1_1 l1_1.length c1_1],.int .i64 x11_1] (by rfl) rfl rfl (by (try simp only [List.map_toArray,List.map_cons,List.map_nil]);first | done | rfl | (simp only [List.length_drop,List.length_take];rfl)) ?_
            with_reducible refine (verdererref03_Big_at.calls a1_0 _ _ l1_1 x11_1 t127 _ ?side1 ?side2 A73.out).mono ?_
            (case side1 => repeat (first | exact (Kd.C_below HR1_1.out HB.out) | (with_reducible refine Kd.C_alloc ?_ _) | (with_reducible refine Kd.C_drewN ?_ _) | (with_reducible refine Kd.C_drew ?_)))
            (case side2 => exact HC1_1.out)
            rintro e w77 ⟨rfl,hb⟩
            refine ⟨_,rfl,?_⟩
            have n0_ := Aside0.mk (Kd.R_below (by (with_reducible repeat (first | apply Kd.R_alloc | apply Kd.R_drewN | apply Kd.R_drew));exact HO_126001.out) hb)
            have n1_ := Aside0.mk (blk_below (g := gb111) (o := .cells #[.bool a0_0,.slice A0_1 l0_1.length c0_1] 29 (0,0)) (by (with_reducible repeat (first | refine blk_drewN ?_ _ | refine blk_drew ?_ | refine blk_alloc ?_ _));exact BK111.out) hb)
            have n2_ := Aside0.mk (blk_below (g := gb112) (o := .cells #[.bool a1_0,.slice A1_1 l1_1.length c1_1] 29 (0,0)) (by (with_reducible repeat (first | refine blk_drewN ?_ _ | refine blk_drew ?_ | refine blk_alloc ?_ _));exact BK112.out) hb)
            have n3_ := Aside0.mk (blk_below (g := gb113) (o := .cells #[.bool false,.slice none 0 0] 29 (0,0)) (by (with_reducible repeat (first | refine blk_drewN ?_ _ | refine blk_drew ?_ | refine blk_alloc ?_ _));exact BK113.out) hb)
            have n4_ := Aside0.mk (blk_below (g := gb125) (o := .cells #[.bool a0_0,u126001] 29 (0,0)) (by (with_reducible repeat (first | refine blk_drewN ?_ _ | refine blk_drew ?_ | refine blk_alloc ?_ _));exact BK125.out) hb)
            have n5_ := Aside0.mk (below_step (by repeat (first | (with_reducible first | exact HB.out | apply below_alloc | apply pw_below_drewN | apply below_drew1 | refine below_set ?_ GE111.out | refine below_set ?_ GE112.out | refine below_set ?_ GE113.out | refine below_set ?_ GE125.out) | exact HB.out)) hb)
            clear HO_126001
            clear BK111
            clear BK112
            clear BK113
            clear BK125
            clear HB
            have HO_126001 := n0_
            have BK111 := n1_
            have BK112 := n2_
            have BK113 := n3_
            have BK125 := n4_
            have HB := n5_
            clear n0_ n1_ n2_ n3_ n4_ n5_
            (try clear hb)
            (try clear hb2)
            (try clear hk)
            (try clear hi)
            refine hK.out _ _ ⟨(blk_cell BK111.out 0).trans rfl,(blk_cell BK111.out 1).trans rfl,(blk_cell BK112.out 0).trans rfl,(blk_cell BK112.out 1).trans rfl⟩ (fun hHeld => ?_)
            clear hK K
            refine norm_ (a' := ?_) ?_ ?_
            rotate_left
            · show Act.put _ (some 64) _ = _
              simp only [Act.put,zA,zB,zC,i64_w,i32_w]
              rfl
            refine pure_ (i := 6) (N := some 65) (v := ?_) (a' := ?_) #[true,true,true,true,true,true,true,true,false,false] rfl rfl (any_of HT_.out (by kernel_rfl)) (fun _ _ _ h => h) (Or.inl ⟨by rfl,?_⟩) ?_ ?_
            rotate_left
            · intro w'
              go_simp
              with_reducible rfl
            rotate_left
            · simp only [Act.put,zA,zB,zC,i64_w,i32_w]
              rfl
            refine pure_ (i := 8) (N := some 67) (v := ?_) (a' := ?_) #[true,true,true,true,true,true,true,true,true,false] rfl rfl (any_of HT_.out (by kernel_rfl)) (fun _ _ _ h => h) (Or.inl ⟨by rfl,?_⟩) ?_ ?_
            rotate_left
            · intro w'
              go_simp
              with_reducible rfl
            rotate_left
            · simp only [Act.put,zA,zB,zC,i64_w,i32_w]
              rfl
            refine pure_ (i := 9) (N := some 12) (v := ?_) (a' := ?_) #[true,true,true,true,true,true,true,true,true,true] rfl rfl (any_of HT_.out (by kernel_rfl)) (fun _ _ _ h => h) (Or.inl ⟨by rfl,?_⟩) ?_ ?_
            rotate_left
            · intro w'
              go_simp
              with_reducible rfl
            rotate_left
            · simp only [Act.put,zA,zB,zC,i64_w,i32_w]
              rfl
            refine done_ (done_of HT_.out (by kernel_rfl)) ?_
            have hnb78 := NB125_111.out
            have hnc78 := NB111_125.out
            have hnb79 := NB125_112.out
            have hnc79 := NB112_125.out
            have hnb80 := NB125_113.out
            have hnc80 := NB113_125.out
            have hcz81_0 : w77.cell? ⟨gb125,0,none⟩ = some (.bool a0_0) := (blk_cell BK125.out 0).trans rfl
            have hcz81_1 : w77.cell? ⟨gb125,1,none⟩ = some (u126001) := (blk_cell BK125.out 1).trans rfl
            have hfz81_0 := blk_frozen BK125.out 0
            have hfz81_1 := blk_frozen BK125.out 1
            try go_wp2_with (first | ((with_reducible refine gate_builtin (b := .append) (xs := #[.tmp 69,.tmp 72]) rfl ?_);at_builtin;refine Kd.R_append (Kd.int .u64) (w0 := w) w.heap.size rfl (.tmp 69) (.tmp 72) 27 96 (.int .u64 0) 8 rfl Try.underlying27 info96 rfl (by decide) (by omega) u126001 x126001_1 (Int.tmod (IntKind.u64.wrap ((IntKind.u64.wrap (t126 + t127)) + x10_1)) 65536) [.int .u64 (Int.tmod (IntKind.u64.wrap ((IntKind.u64.wrap (t126 + t127)) + x10_1)) 65536)] (fun _ => True) (fun _ => False) rfl rfl ?aP (fun _ hk => hk.elim) ?aF ?aO ?aB ?aS ?aL ?_;(case aP => exact rfl);(case aB => exact (by repeat (first | (with_reducible first | exact HB.out | apply below_alloc | apply pw_below_drewN | apply below_drew1 | refine below_set ?_ GE111.out | refine below_set ?_ GE112.out | refine below_set ?_ GE113.out | refine below_set ?_ GE125.out) | exact HB.out)));(case aF => exact (fun _ _ => trivial));(case aO => exact (by (with_reducible repeat (first | apply Kd.R_alloc | apply Kd.R_drewN | apply Kd.R_drew));exact HO_126001.out));(case aS => exact (below_size (by repeat (first | (with_reducible first | exact HB.out | apply below_alloc | apply pw_below_drewN | apply below_drew1 | refine below_set ?_ GE111.out | refine below_set ?_ GE112.out | refine below_set ?_ GE113.out | refine below_set ?_ GE125.out) | exact HB.out))));(case aL => have := LMc74.out;omega);intro v129 w82 ho hb hg hat;rw [← Ny128.out] at ho;have n0_ := Aside0.mk (blk_grown (g := gb111) (o := .cells #[.bool a0_0,.slice A0_1 l0_1.length c0_1] 29 (0,0)) (by (with_reducible repeat (first | refine blk_drewN ?_ _ | refine blk_drew ?_ | refine blk_alloc ?_ _));exact BK111.out) hg (Kd.R_ne HO_126001.out BK111.out (by decide)));have n1_ := Aside0.mk (blk_grown (g := gb112) (o := .cells #[.bool a1_0,.slice A1_1 l1_1.length c1_1] 29 (0,0)) (by (with_reducible repeat (first | refine blk_drewN ?_ _ | refine blk_drew ?_ | refine blk_alloc ?_ _));exact BK112.out) hg (Kd.R_ne HO_126001.out BK112.out (by decide)));have n2_ := Aside0.mk (blk_grown (g := gb113) (o := .cells #[.bool false,.slice none 0 0] 29 (0,0)) (by (with_reducible repeat (first | refine blk_drewN ?_ _ | refine blk_drew ?_ | refine blk_alloc ?_ _));exact BK113.out) hg (Kd.R_ne HO_126001.out BK113.out (by decide)));have n3_ := Aside0.mk (blk_grown (g := gb125) (o := .cells #[.bool a0_0,u126001] 29 (0,0)) (by (with_reducible repeat (first | refine blk_drewN ?_ _ | refine blk_drew ?_ | refine blk_alloc ?_ _));exact BK125.out) hg (Kd.R_ne HO_126001.out BK125.out (by decide)));have n4_ := Aside0.mk (hb);have n5_ := Aside0.mk (ho);clear BK111;clear BK112;clear BK113;clear BK125;clear HB;clear HO_126001;have BK111 := n0_;have BK112 := n1_;have BK113 := n2_;have BK125 := n3_;have HB := n4_;have HO130 := n5_;clear n0_ n1_ n2_ n3_ n4_ n5_;clear ho hb hg hat;obtain ⟨Ao83,co83,eo83⟩ := Kd.R_slice HO130.out;subst eo83;have hcz84_0 : w82.cell? ⟨gb125,0,none⟩ = some (.bool a0_0) := (blk_cell BK125.out 0).trans rfl;have hcz84_1 : w82.cell? ⟨gb125,1,none⟩ = some (u126001) := (blk_cell BK125.out 1).trans rfl;have hfz84_0 := blk_frozen BK125.out 0;have hfz84_1 := blk_frozen BK125.out 1))
            go_roundg k1
            case measure => have := HK1.out;omega
            case rel => exact ⟨(IntKind.u64.wrap (Int.tdiv (IntKind.u64.wrap ((IntKind.u64.wrap (t126 + t127)) + x10_1)) 65536)),(wrap64 (x11_1 + 1)),(y128),(.slice Ao83 y128.length co83),(by first | rfl | (simp;done) | (simp [*];done)),(by first | rfl | (simp;done) | (simp [*];done)),H',⟨by have := HK1.out;omega⟩,⟨by (with_reducible repeat (first | apply Kd.R_alloc | apply Kd.R_drewN | apply Kd.R_drew));exact Kd.R_mono (Kd.R_far (p := ⟨gb125,1,none⟩) (Kd.R_types HO130.out BK125.out (by decide)) (fun _ hk => hk.2) (.slice Ao83 y128.length co83)) (fun _ hk => trivial)⟩,⟨by (with_reducible repeat (first | refine blk_drewN ?_ _ | refine blk_drew ?_ | refine blk_alloc ?_ _));refine blk_far ?_ NB111_125.out _;(with_reducible repeat (first | refine blk_drewN ?_ _ | refine blk_drew ?_ | refine blk_alloc ?_ _));exact BK111.out⟩,⟨by (with_reducible repeat (first | refine blk_drewN ?_ _ | refine blk_drew ?_ | refine blk_alloc ?_ _));refine blk_far ?_ NB112_125.out _;(with_reducible repeat (first | refine blk_drewN ?_ _ | refine blk_drew ?_ | refine blk_alloc ?_ _));exact BK112.out⟩,⟨by (with_reducible repeat (first | refine blk_drewN ?_ _ | refine blk_drew ?_ | refine blk_alloc ?_ _));refine blk_far ?_ NB113_125.out _;(with_reducible repeat (first | refine blk_drewN ?_ _ | refine blk_drew ?_ | refine blk_alloc ?_ _));exact BK113.out⟩,⟨by (with_reducible repeat (first | refine blk_drewN ?_ _ | refine blk_drew ?_ | refine blk_alloc ?_ _));refine blk_put (cs := #[.bool a0_0,u126001]) ?_ 1 _ rfl;(with_reducible repeat (first | refine blk_drewN ?_ _ | refine blk_drew ?_ | refine blk_alloc ?_ _));exact BK125.out⟩,⟨by repeat (first | (with_reducible first | exact HB.out | apply below_alloc | apply pw_below_drewN | apply below_drew1 | refine below_set ?_ GE111.out | refine below_set ?_ GE112.out | refine below_set ?_ GE113.out | refine below_set ?_ GE125.out) | exact HB.out)⟩⟩
          · rw [if_neg c74] at H
            exact absurd H (by simp)
        · rw [if_neg c71] at H
          have c71b0 : decide (x11_1 < 20) = false := decide_eq_false c71
          clear c71
          simp only [Option.some.injEq,Prod.mk.injEq] at H
          obtain ⟨rfl,rfl⟩ := H
          have hnb85 := NB125_111.out
          have hnc85 := NB111_125.out
          have hnb86 := NB125_112.out
          have hnc86 := NB112_125.out
          have hnb87 := NB125_113.out
          have hnc87 := NB113_125.out
          have hcz88_0 : wr.cell? ⟨gb125,0,none⟩ = some (.bool a0_0) := (blk_cell BK125.out 0).trans rfl
          have hcz88_1 : wr.cell? ⟨gb125,1,none⟩ = some (u126001) := (blk_cell BK125.out 1).trans rfl
          have hfz88_0 := blk_frozen BK125.out 0
          have hfz88_1 := blk_frozen BK125.out 1
          have hnb89 := NB113_111.out
          have hnc89 := NB111_113.out
          have hnb90 := NB113_112.out
          have hnc90 := NB112_113.out
          have hcz91_0 : wr.cell? ⟨gb113,0,none⟩ = some (.bool false) := (blk_cell BK113.out 0).trans rfl
          have hcz91_1 : wr.cell? ⟨gb113,1,none⟩ = some (.slice none 0 0) := (blk_cell BK113.out 1).trans rfl
          have hfz91_0 := blk_frozen BK113.out 0
          have hfz91_1 := blk_frozen BK113.out 1
          obtain ⟨Ao92,co92,eo92⟩ := Kd.R_slice HO_126001.out
          subst eo92
          go_wp2
          refine bodyPost_ret (results_cell_row rfl _ _ gb113 29 #[.bool a0_0,.slice Ao92 x126001_1.length co92] (0,0) _ rfl (by (with_reducible repeat (first | refine blk_drewN ?_ _ | refine blk_drew ?_ | refine blk_alloc ?_ _));refine blk_put (cs := #[.bool a0_0,.slice none 0 0]) ?_ 1 _ rfl;(with_reducible repeat (first | refine blk_drewN ?_ _ | refine blk_drew ?_ | refine blk_alloc ?_ _));refine blk_put (cs := #[.bool false,.slice none 0 0]) ?_ 0 _ rfl;(with_reducible repeat (first | refine blk_drewN ?_ _ | refine blk_drew ?_ | refine blk_alloc ?_ _));exact BK113.out) Try.underlying29 rfl (by kernel_rfl)) rfl ?_
          exact ⟨_,by first | rfl | (simp [errW_none,errW_some] <;> rfl) | (simp [*,errW_none,errW_some] <;> rfl),by (with_reducible repeat (first | apply Kd.R_alloc | apply Kd.R_drewN | apply Kd.R_drew));exact Kd.R_mono (Kd.R_far (p := ⟨gb113,1,none⟩) (Kd.R_far (p := ⟨gb113,0,none⟩) (Kd.R_types HO_126001.out BK113.out (by decide)) (fun _ hk => hk.2) (.bool a0_0)) (fun _ hk => hk.2) (.slice Ao92 x126001_1.length co92)) (fun _ hk => trivial),by repeat (first | (with_reducible first | exact HB.out | apply below_alloc | apply pw_below_drewN | apply below_drew1 | refine below_set ?_ GE111.out | refine below_set ?_ GE112.out | refine below_set ?_ GE113.out | refine below_set ?_ GE125.out) | exact HB.out)⟩
end Go.Proofs.Ytcenlehfbgnphaa.Z
end
section
namespace Go.Proofs.Ytcenlehfbgnphaa.Z
open Go.RowKit Go.Proofs.YtcenlehfbgnphaaW.PrintWords Go.Proofs.YtcenlehfbgnphaaW.PrintLast Go.Proofs.YtcenlehfbgnphaaW.PrintMore
attribute [local go_sem] max2_int min2_int max_two min_two max_three min_three max_four min_four
set_option linter.unusedVariables false
set_option linter.unusedSimpArgs false
mutual
def verdererref03_Big_Value.l0 : Nat → Int → Int → Bool → List Int → Option (Int × Int)
  | 0,_,_,_,_ => none
  | k + 1,x4,x5,x132000,x132001 => if x5 ≥ 0 then (if x5 > 3 then ((verdererref03_Big_at.f x132000 x132001 x5).bind fun t132 => (verdererref03_Big_Value.j1 k x4 x5 (decide (t132 > 0)) x132000 x132001)) else (verdererref03_Big_Value.j1 k x4 x5 false x132000 x132001)) else (if x132000 = true then (verdererref03_Big_Value.j2 k x4 (decide (x4 ≤ 9223372036854775808)) x132000 x132001) else (verdererref03_Big_Value.j2 k x4 false x132000 x132001))
def verdererref03_Big_Value.j1 : Nat → Int → Int → Bool → Bool → List Int → Option (Int × Int)
  | 0,_,_,_,_,_ => none
  | k + 1,x4,x5,x17,x132000,x132001 => if x17 = true then (some (0,10)) else (if x5 ≤ 3 then ((verdererref03_Big_at.f x132000 x132001 x5).bind fun t133 => (verdererref03_Big_Value.l0 k (IntKind.u64.wrap ((IntKind.u64.wrap (x4 * 65536)) + t133)) (wrap64 (x5 - 1)) x132000 x132001)) else (verdererref03_Big_Value.l0 k x4 (wrap64 (x5 - 1)) x132000 x132001))
def verdererref03_Big_Value.j2 : Nat → Int → Bool → Bool → List Int → Option (Int × Int)
  | 0,_,_,_,_ => none
  | k + 1,x4,x31,x132000,x132001 => if x31 = true then (some (wrap64 (IntKind.u64.wrap (-x4)),0)) else (if x132000 = true then (some (0,10)) else (if x4 < 9223372036854775808 then (some (wrap64 (x4),0)) else (some (0,10))))
end
def verdererref03_Big_Value.f (k : Nat) (a0_0 : Bool) (l0_1 : List Int) : Option (Int × Int) := verdererref03_Big_Value.l0 k 0 19 a0_0 l0_1
theorem verdererref03_Big_Value.mono_l : ∀ k,(∀ y0 y1 y2 y3,LeO (verdererref03_Big_Value.l0 k y0 y1 y2 y3) (verdererref03_Big_Value.l0 (k + 1) y0 y1 y2 y3)) ∧ (∀ y0 y1 y2 y3 y4,LeO (verdererref03_Big_Value.j1 k y0 y1 y2 y3 y4) (verdererref03_Big_Value.j1 (k + 1) y0 y1 y2 y3 y4)) ∧ (∀ y0 y1 y2 y3,LeO (verdererref03_Big_Value.j2 k y0 y1 y2 y3) (verdererref03_Big_Value.j2 (k + 1) y0 y1 y2 y3))
  | 0 => ⟨fun _ _ _ _ r h => by simp [verdererref03_Big_Value.l0] at h,fun _ _ _ _ _ r h => by simp [verdererref03_Big_Value.j1] at h,fun _ _ _ _ r h => by simp [verdererref03_Big_Value.j2] at h⟩
  | k + 1 => by
    obtain ⟨ih0,ih1,ih2⟩ := verdererref03_Big_Value.mono_l k
    refine ⟨?_,?_,?_⟩
    · intro y0 y1 y2 y3
      unfold verdererref03_Big_Value.l0
      repeat' first
      | (with_reducible exact ih0 _ _ _ _)
      | (with_reducible exact ih1 _ _ _ _ _)
      | (with_reducible exact ih2 _ _ _ _)
      | (with_reducible exact LeO.refl _)
      | (with_reducible exact LeO.none _)
      | (with_reducible refine LeO.ite ?_ ?_)
      | (with_reducible refine LeO.bind ?_ (fun _ => ?_))
      | exact ih0 _ _ _ _
      | exact ih1 _ _ _ _ _
      | exact ih2 _ _ _ _
      | exact LeO.none _
      | refine LeO.ite ?_ ?_
      | refine LeO.bind ?_ (fun _ => ?_)
    · intro y0 y1 y2 y3 y4
      unfold verdererref03_Big_Value.j1
      repeat' first
      | (with_reducible exact ih0 _ _ _ _)
      | (with_reducible exact ih1 _ _ _ _ _)
      | (with_reducible exact ih2 _ _ _ _)
      | (with_reducible exact LeO.refl _)
      | (with_reducible exact LeO.none _)
      | (with_reducible refine LeO.ite ?_ ?_)
      | (with_reducible refine LeO.bind ?_ (fun _ => ?_))
      | exact ih0 _ _ _ _
      | exact ih1 _ _ _ _ _
      | exact ih2 _ _ _ _
      | exact LeO.none _
      | refine LeO.ite ?_ ?_
      | refine LeO.bind ?_ (fun _ => ?_)
    · intro y0 y1 y2 y3
      unfold verdererref03_Big_Value.j2
      repeat' first
      | (with_reducible exact ih0 _ _ _ _)
      | (with_reducible exact ih1 _ _ _ _ _)
      | (with_reducible exact ih2 _ _ _ _)
      | (with_reducible exact LeO.refl _)
      | (with_reducible exact LeO.none _)
      | (with_reducible refine LeO.ite ?_ ?_)
      | (with_reducible refine LeO.bind ?_ (fun _ => ?_))
      | exact ih0 _ _ _ _
      | exact ih1 _ _ _ _ _
      | exact ih2 _ _ _ _
      | exact LeO.none _
      | refine LeO.ite ?_ ?_
      | refine LeO.bind ?_ (fun _ => ?_)
theorem verdererref03_Big_Value.mono : ∀ a0 a1 k,LeO (verdererref03_Big_Value.f k a0 a1) (verdererref03_Big_Value.f (k + 1) a0 a1) := by
  intro a0 a1 k
  obtain ⟨ih0,ih1,ih2⟩ := verdererref03_Big_Value.mono_l k
  unfold verdererref03_Big_Value.f
  repeat' first
      | (with_reducible exact ih0 _ _ _ _)
      | (with_reducible exact ih1 _ _ _ _ _)
      | (with_reducible exact ih2 _ _ _ _)
      | (with_reducible exact LeO.refl _)
      | (with_reducible exact LeO.none _)
      | (with_reducible refine LeO.ite ?_ ?_)
      | (with_reducible refine LeO.bind ?_ (fun _ => ?_))
      | exact ih0 _ _ _ _
      | exact ih1 _ _ _ _ _
      | exact ih2 _ _ _ _
      | exact LeO.none _
      | refine LeO.ite ?_ ?_
      | refine LeO.bind ?_ (fun _ => ?_)
set_option maxHeartbeats 8000000 in
set_option maxRecDepth 100000 in
theorem verdererref03_Big_Value.calls (k : Nat) (a0_0 : Bool) (A0_1 : Option Addr) (c0_1 : Nat) (l0_1 : List Int) (r1 : Int) (r2 : Int) (w : World) (hr0_1 : Kd.C (Kd.int .u64) w A0_1 l0_1.length l0_1) (hc0_1 : l0_1.length ≤ c0_1) (h : verdererref03_Big_Value.f k a0_0 l0_1 = some (r1,r2)) :
    Calls Try.prog 19 #[.agg #[.bool a0_0,.slice A0_1 l0_1.length c0_1]] w fun e w' => e = .returned (.tuple #[.int .i64 r1,.int .i64 r2]) ∧ Below w.heap.size w w' := by
  have hu29 := Try.underlying29
  have HR0_1 := Aside0.mk hr0_1
  have HC0_1 := Aside0.mk hc0_1
  clear hr0_1 hc0_1
  have HB := Aside0.mk (Below.refl w.heap.size w)
  have H : (verdererref03_Big_Value.l0 k 0 19 a0_0 l0_1) = some (r1,r2) := h
  clear h
  have H' := Aside0.mk H
  clear H
  go_enter Try.func19,Try.ntmps19
  go_wp2_with (first | ((with_reducible refine gate_dst (N := 1) rfl ?_);refine box_event ?hg (N := 1) ?hd (cs := #[.bool a0_0,.slice A0_1 l0_1.length c0_1]) (t := 29) ?hr ?_;(case hd => rfl);(case hg => rfl);(case hr => first | (go_simp;done) | (go_simp;rfl));intro gb131 hg w2 hbox hb;have n0_ := Aside0.mk (below_step (by repeat (first | (with_reducible first | exact HB.out | apply below_alloc | apply pw_below_drewN | apply below_drew1) | exact HB.out)) hb);have n1_ := Aside0.mk (hbox);have n2_ := Aside0.mk ((by rw [hg];exact (below_size (by repeat (first | (with_reducible first | exact HB.out | apply below_alloc | apply pw_below_drewN | apply below_drew1) | exact HB.out))) : w.heap.size ≤ gb131));have n3_ := Aside0.mk ((by rw [hg];exact (below_size (by repeat (first | (with_reducible first | exact HB.out | apply below_alloc | apply pw_below_drewN | apply below_drew1) | exact HB.out))) : w.heap.size ≤ gb131));clear HB;have HB := n0_;have BK131 := n1_;have GW131 := n2_;have GE131 := n3_;clear n0_ n1_ n2_ n3_;clear hb hbox hg))
  go_loopg [4,5] k (fun kq v4 v5 w' => ∃ (x4_1 : Int) (x5_1 : Int),v4 = .int .u64 x4_1 ∧ v5 = .int .i64 x5_1 ∧ Aside0 (verdererref03_Big_Value.l0 kq x4_1 x5_1 a0_0 l0_1 = some (r1,r2)) ∧ Aside0 (kq ≤ k) ∧ Aside0 (w'.heap[gb131]? = some (.cells #[.bool a0_0,(.slice A0_1 l0_1.length c0_1)] 29 (0,0))) ∧ Aside0 (Below w.heap.size w w'))
  case atStart => exact ⟨(0),(19),(by first | rfl | (simp;done) | (simp [*];done)),(by first | rfl | (simp;done) | (simp [*];done)),H',⟨Nat.le_refl _⟩,⟨by (with_reducible repeat (first | refine blk_drewN ?_ _ | refine blk_drew ?_ | refine blk_alloc ?_ _));exact BK131.out⟩,⟨by repeat (first | (with_reducible first | exact HB.out | apply below_alloc | apply pw_below_drewN | apply below_drew1 | refine below_set ?_ GE131.out) | exact HB.out)⟩⟩
  case round =>
    clear H'
    try clear c1
    try clear p2
    obtain ⟨x4_1,x5_1,rfl,rfl,HA,HK1,BK131,HB⟩ := hrel
    cases gk with
    | zero => exact absurd HA.out (by simp [verdererref03_Big_Value.l0])
    | succ k1 =>
      have H := HA.out
      clear HA
      simp only [verdererref03_Big_Value.l0] at H
      by_cases c3 : x5_1 ≥ 0
      · rw [if_pos c3] at H
        have c3b0 : decide (0 ≤ x5_1) = true := decide_eq_true c3
        clear c3
        have HC4 := Aside0.mk H
        clear H
        go_upto_region 5 with (fail)
        go_cut [17] (fun v17 wc => ∃ (kq : Nat) (x17_3 : Bool),v17 = .bool x17_3 ∧ Aside0 (verdererref03_Big_Value.j1 kq x4_1 x5_1 x17_3 a0_0 l0_1 = some (r1,r2)) ∧ Aside0 (kq ≤ k1) ∧ Aside0 (wc.heap[gb131]? = some (.cells #[.bool a0_0,(.slice A0_1 l0_1.length c0_1)] 29 (0,0))) ∧ Aside0 (Below w.heap.size w wc))
        case first =>
          have H := HC4.out
          clear HC4
          by_cases c5 : x5_1 > 3
          · rw [if_pos c5] at H
            have c5b0 : decide (3 < x5_1) = true := decide_eq_true c5
            clear c5
            (first | rw [c5b0] | (simp only [i64_w,i32_w];rw [c5b0]) | skip)
            replace H := Option.bind_eq_some_iff.mp H
            obtain ⟨t132,A60,H⟩ := H
            replace H : (verdererref03_Big_Value.j1 k1 x4_1 x5_1 (decide (t132 > 0)) a0_0 l0_1) = some (r1,r2) := H
            have A6 := Aside0.mk A60
            clear A60
            have H' := Aside0.mk H
            clear H
            have hcz7_0 : wr.cell? ⟨gb131,0,none⟩ = some (.bool a0_0) := (blk_cell BK131.out 0).trans rfl
            have hcz7_1 : wr.cell? ⟨gb131,1,none⟩ = some (.slice A0_1 l0_1.length c0_1) := (blk_cell BK131.out 1).trans rfl
            have hfz7_0 := blk_frozen BK131.out 0
            have hfz7_1 := blk_frozen BK131.out 1
            go_wp2_with (first | (go_at_call 60;(with_reducible refine (verdererref03_Big_at.calls a0_0 _ _ l0_1 x5_1 t132 _ ?side1 ?side2 A6.out).mono ?_);(case side1 => repeat (first | exact (Kd.C_below HR0_1.out HB.out) | (with_reducible refine Kd.C_alloc ?_ _) | (with_reducible refine Kd.C_drewN ?_ _) | (with_reducible refine Kd.C_drew ?_)));(case side2 => exact HC0_1.out);rintro e w8 ⟨rfl,hb⟩;have n0_ := Aside0.mk (blk_below (g := gb131) (o := .cells #[.bool a0_0,.slice A0_1 l0_1.length c0_1] 29 (0,0)) (by (with_reducible repeat (first | refine blk_drewN ?_ _ | refine blk_drew ?_ | refine blk_alloc ?_ _));exact BK131.out) hb);have n1_ := Aside0.mk (below_step (by repeat (first | (with_reducible first | exact HB.out | apply below_alloc | apply pw_below_drewN | apply below_drew1 | refine below_set ?_ GE131.out) | exact HB.out)) hb);clear BK131;clear HB;have BK131 := n0_;have HB := n1_;clear n0_ n1_;(try clear hb);(try clear hb2);(try clear hk);(try clear hi)))
            go_meet
            case rel => exact ⟨_,(decide (t132 > 0)),(by first | rfl | (simp;done) | (simp [*];done)),H',⟨by have := HK1.out;first | omega | exact Nat.le_refl _⟩,⟨by (with_reducible repeat (first | refine blk_drewN ?_ _ | refine blk_drew ?_ | refine blk_alloc ?_ _));exact BK131.out⟩,⟨by repeat (first | (with_reducible first | exact HB.out | apply below_alloc | apply pw_below_drewN | apply below_drew1 | refine below_set ?_ GE131.out) | exact HB.out)⟩⟩
          · rw [if_neg c5] at H
            have c5b0 : decide (3 < x5_1) = false := decide_eq_false c5
            clear c5
            (first | rw [c5b0] | (simp only [i64_w,i32_w];rw [c5b0]) | skip)
            have H' := Aside0.mk H
            clear H
            go_wp2
            go_meet
            case rel => exact ⟨_,(false),(by first | rfl | (simp;done) | (simp [*];done)),H',⟨by have := HK1.out;first | omega | exact Nat.le_refl _⟩,⟨by (with_reducible repeat (first | refine blk_drewN ?_ _ | refine blk_drew ?_ | refine blk_alloc ?_ _));exact BK131.out⟩,⟨by repeat (first | (with_reducible first | exact HB.out | apply below_alloc | apply pw_below_drewN | apply below_drew1 | refine below_set ?_ GE131.out) | exact HB.out)⟩⟩
        case rest =>
          clear HC4
          try clear c1
          try clear p2
          try clear c3
          try clear c3b0
          try clear c5
          try clear c5b0
          try clear hcz7_0
          try clear hcz7_1
          try clear hfz7_0
          try clear hfz7_1
          try clear p2
          obtain ⟨kq,x17_3,rfl,HA,HJ3,BK131,HB⟩ := hcut
          cases kq with
          | zero => exact absurd HA.out (by simp [verdererref03_Big_Value.j1])
          | succ kj3 =>
            have H := HA.out
            clear HA
            simp only [verdererref03_Big_Value.j1] at H
            by_cases c9 : x17_3 = true
            · subst c9
              have H1 : (some (0,10)) = some (r1,r2) := by rw [if_pos rfl] at H;exact H
              clear H
              have H := H1
              clear H1
              simp only [Option.some.injEq,Prod.mk.injEq] at H
              obtain ⟨rfl,rfl⟩ := H
              go_wp2
              go_ret2
              exact ⟨by first | rfl | (simp [errW_none,errW_some] <;> rfl) | (simp [*,errW_none,errW_some] <;> rfl),by repeat (first | (with_reducible first | exact HB.out | apply below_alloc | apply pw_below_drewN | apply below_drew1 | refine below_set ?_ GE131.out) | exact HB.out)⟩
            · replace c9 := Bool.eq_false_iff.mpr c9
              subst c9
              have H1 : (if x5_1 ≤ 3 then ((verdererref03_Big_at.f a0_0 l0_1 x5_1).bind fun t133 => (verdererref03_Big_Value.l0 kj3 (IntKind.u64.wrap ((IntKind.u64.wrap (x4_1 * 65536)) + t133)) (wrap64 (x5_1 - 1)) a0_0 l0_1)) else (verdererref03_Big_Value.l0 kj3 x4_1 (wrap64 (x5_1 - 1)) a0_0 l0_1)) = some (r1,r2) := by rw [if_neg (show ¬ (false = true) by decide)] at H;exact H
              clear H
              have H := H1
              clear H1
              by_cases c10 : x5_1 ≤ 3
              · rw [if_pos c10] at H
                have c10b0 : decide (x5_1 ≤ 3) = true := decide_eq_true c10
                clear c10
                replace H := Option.bind_eq_some_iff.mp H
                obtain ⟨t133,A110,H⟩ := H
                replace H : (verdererref03_Big_Value.l0 kj3 (IntKind.u64.wrap ((IntKind.u64.wrap (x4_1 * 65536)) + t133)) (wrap64 (x5_1 - 1)) a0_0 l0_1) = some (r1,r2) := H
                have A11 := Aside0.mk A110
                clear A110
                have H' := Aside0.mk H
                clear H
                have hcz12_0 : wc.cell? ⟨gb131,0,none⟩ = some (.bool a0_0) := (blk_cell BK131.out 0).trans rfl
                have hcz12_1 : wc.cell? ⟨gb131,1,none⟩ = some (.slice A0_1 l0_1.length c0_1) := (blk_cell BK131.out 1).trans rfl
                have hfz12_0 := blk_frozen BK131.out 0
                have hfz12_1 := blk_frozen BK131.out 1
                go_wp2_with (first | ((with_reducible refine gate_callee (f := 60) rfl ?_);refine goesL_ (some 24) rfl rfl Try.func60 (by kernel_rfl) rfl #[.agg #[.bool a0_0,.slice A0_1 l0_1.length c0_1],.int .i64 x5_1] rfl (by (try simp only [List.map_toArray,List.map_cons,List.map_nil]);first | done | rfl | (simp only [List.length_drop,List.length_take];rfl)) ?_;(with_reducible refine (verdererref03_Big_at.calls a0_0 _ _ l0_1 x5_1 t133 _ ?side1 ?side2 A11.out).mono ?_);(case side1 => repeat (first | exact (Kd.C_below HR0_1.out HB.out) | (with_reducible refine Kd.C_alloc ?_ _) | (with_reducible refine Kd.C_drewN ?_ _) | (with_reducible refine Kd.C_drew ?_)));(case side2 => exact HC0_1.out);rintro e w13 ⟨rfl,hb⟩;refine ⟨_,rfl,?_⟩;have n0_ := Aside0.mk (blk_below (g := gb131) (o := .cells #[.bool a0_0,.slice A0_1 l0_1.length c0_1] 29 (0,0)) (by (with_reducible repeat (first | refine blk_drewN ?_ _ | refine blk_drew ?_ | refine blk_alloc ?_ _));exact BK131.out) hb);have n1_ := Aside0.mk (below_step (by repeat (first | (with_reducible first | exact HB.out | apply below_alloc | apply pw_below_drewN | apply below_drew1 | refine below_set ?_ GE131.out) | exact HB.out)) hb);clear BK131;clear HB;have BK131 := n0_;have HB := n1_;clear n0_ n1_;(try clear hb);(try clear hb2);(try clear hk);(try clear hi)))
                go_roundg kj3
                case measure => have := HK1.out;have := HJ3.out;omega
                case rel => exact ⟨(IntKind.u64.wrap ((IntKind.u64.wrap (x4_1 * 65536)) + t133)),(wrap64 (x5_1 - 1)),(by first | rfl | (simp;done) | (simp [*];done)),(by first | rfl | (simp;done) | (simp [*];done)),H',⟨by have := HK1.out;have := HJ3.out;omega⟩,⟨by (with_reducible repeat (first | refine blk_drewN ?_ _ | refine blk_drew ?_ | refine blk_alloc ?_ _));exact BK131.out⟩,⟨by repeat (first | (with_reducible first | exact HB.out | apply below_alloc | apply pw_below_drewN | apply below_drew1 | refine below_set ?_ GE131.out) | exact HB.out)⟩⟩
              · rw [if_neg c10] at H
                have c10b0 : decide (x5_1 ≤ 3) = false := decide_eq_false c10
                clear c10
                have H' := Aside0.mk H
                clear H
                go_wp2
                go_roundg kj3
                case measure => have := HK1.out;have := HJ3.out;omega
                case rel => exact ⟨(x4_1),(wrap64 (x5_1 - 1)),(by first | rfl | (simp;done) | (simp [*];done)),(by first | rfl | (simp;done) | (simp [*];done)),H',⟨by have := HK1.out;have := HJ3.out;omega⟩,⟨by (with_reducible repeat (first | refine blk_drewN ?_ _ | refine blk_drew ?_ | refine blk_alloc ?_ _));exact BK131.out⟩,⟨by repeat (first | (with_reducible first | exact HB.out | apply below_alloc | apply pw_below_drewN | apply below_drew1 | refine below_set ?_ GE131.out) | exact HB.out)⟩⟩
      · rw [if_neg c3] at H
        have c3b0 : decide (0 ≤ x5_1) = false := decide_eq_false c3
        clear c3
        have HC14 := Aside0.mk H
        clear H
        go_upto_region 9 with (fail)
        go_cut [31] (fun v31 wc => ∃ (kq : Nat) (x31_13 : Bool),v31 = .bool x31_13 ∧ Aside0 (verdererref03_Big_Value.j2 kq x4_1 x31_13 a0_0 l0_1 = some (r1,r2)) ∧ Aside0 (kq ≤ k1) ∧ Aside0 (wc.heap[gb131]? = some (.cells #[.bool a0_0,(.slice A0_1 l0_1.length c0_1)] 29 (0,0))) ∧ Aside0 (Below w.heap.size w wc))
        case first =>
          have H := HC14.out
          clear HC14
          by_cases c15 : a0_0 = true
          · subst c15
            have H1 : (verdererref03_Big_Value.j2 k1 x4_1 (decide (x4_1 ≤ 9223372036854775808)) true l0_1) = some (r1,r2) := by rw [if_pos rfl] at H;exact H
            clear H
            have H := H1
            clear H1
            have H' := Aside0.mk H
            clear H
            have hcz16_0 : wr.cell? ⟨gb131,0,none⟩ = some (.bool true) := (blk_cell BK131.out 0).trans rfl
            have hcz16_1 : wr.cell? ⟨gb131,1,none⟩ = some (.slice A0_1 l0_1.length c0_1) := (blk_cell BK131.out 1).trans rfl
            have hfz16_0 := blk_frozen BK131.out 0
            have hfz16_1 := blk_frozen BK131.out 1
            go_wp2
            go_meet
            case rel => exact ⟨_,(decide (x4_1 ≤ 9223372036854775808)),(by first | rfl | (simp;done) | (simp [*];done)),H',⟨by have := HK1.out;first | omega | exact Nat.le_refl _⟩,⟨by (with_reducible repeat (first | refine blk_drewN ?_ _ | refine blk_drew ?_ | refine blk_alloc ?_ _));exact BK131.out⟩,⟨by repeat (first | (with_reducible first | exact HB.out | apply below_alloc | apply pw_below_drewN | apply below_drew1 | refine below_set ?_ GE131.out) | exact HB.out)⟩⟩
          · replace c15 := Bool.eq_false_iff.mpr c15
            subst c15
            have H1 : (verdererref03_Big_Value.j2 k1 x4_1 false false l0_1) = some (r1,r2) := by rw [if_neg (show ¬ (false = true) by decide)] at H;exact H
            clear H
            have H := H1
            clear H1
            have H' := Aside0.mk H
            clear H
            have hcz17_0 : wr.cell? ⟨gb131,0,none⟩ = some (.bool false) := (blk_cell BK131.out 0).trans rfl
            have hcz17_1 : wr.cell? ⟨gb131,1,none⟩ = some (.slice A0_1 l0_1.length c0_1) := (blk_cell BK131.out 1).trans rfl
            have hfz17_0 := blk_frozen BK131.out 0
            have hfz17_1 := blk_frozen BK131.out 1
            go_wp2
            go_meet
            case rel => exact ⟨_,(false),(by first | rfl | (simp;done) | (simp [*];done)),H',⟨by have := HK1.out;first | omega | exact Nat.le_refl _⟩,⟨by (with_reducible repeat (first | refine blk_drewN ?_ _ | refine blk_drew ?_ | refine blk_alloc ?_ _));exact BK131.out⟩,⟨by repeat (first | (with_reducible first | exact HB.out | apply below_alloc | apply pw_below_drewN | apply below_drew1 | refine below_set ?_ GE131.out) | exact HB.out)⟩⟩
        case rest =>
          clear HC14
          try clear c1
          try clear p2
          try clear c3
          try clear c3b0
          try clear c5
          try clear c5b0
          try clear c6
          try clear p6
          try clear c9
          try clear c10
          try clear c10b0
          try clear c15
          try clear hcz12_0
          try clear hcz12_1
          try clear hcz16_0
          try clear hcz16_1
          try clear hcz17_0
          try clear hcz17_1
          try clear hcz7_0
          try clear hcz7_1
          try clear hfz12_0
          try clear hfz12_1
          try clear hfz16_0
          try clear hfz16_1
          try clear hfz17_0
          try clear hfz17_1
          try clear hfz7_0
          try clear hfz7_1
          try clear p2
          obtain ⟨kq,x31_13,rfl,HA,HJ13,BK131,HB⟩ := hcut
          cases kq with
          | zero => exact absurd HA.out (by simp [verdererref03_Big_Value.j2])
          | succ kj13 =>
            have H := HA.out
            clear HA
            simp only [verdererref03_Big_Value.j2] at H
            by_cases c18 : x31_13 = true
            · subst c18
              have H1 : (some (wrap64 (IntKind.u64.wrap (-x4_1)),0)) = some (r1,r2) := by rw [if_pos rfl] at H;exact H
              clear H
              have H := H1
              clear H1
              simp only [Option.some.injEq,Prod.mk.injEq] at H
              obtain ⟨rfl,rfl⟩ := H
              go_wp2
              go_ret2
              exact ⟨by first | rfl | (simp [errW_none,errW_some] <;> rfl) | (simp [*,errW_none,errW_some] <;> rfl),by repeat (first | (with_reducible first | exact HB.out | apply below_alloc | apply pw_below_drewN | apply below_drew1 | refine below_set ?_ GE131.out) | exact HB.out)⟩
            · replace c18 := Bool.eq_false_iff.mpr c18
              subst c18
              have H1 : (if a0_0 = true then (some (0,10)) else (if x4_1 < 9223372036854775808 then (some (wrap64 (x4_1),0)) else (some (0,10)))) = some (r1,r2) := by rw [if_neg (show ¬ (false = true) by decide)] at H;exact H
              clear H
              have H := H1
              clear H1
              by_cases c19 : a0_0 = true
              · subst c19
                have H1 : (some (0,10)) = some (r1,r2) := by rw [if_pos rfl] at H;exact H
                clear H
                have H := H1
                clear H1
                simp only [Option.some.injEq,Prod.mk.injEq] at H
                obtain ⟨rfl,rfl⟩ := H
                have hcz20_0 : wc.cell? ⟨gb131,0,none⟩ = some (.bool true) := (blk_cell BK131.out 0).trans rfl
                have hcz20_1 : wc.cell? ⟨gb131,1,none⟩ = some (.slice A0_1 l0_1.length c0_1) := (blk_cell BK131.out 1).trans rfl
                have hfz20_0 := blk_frozen BK131.out 0
                have hfz20_1 := blk_frozen BK131.out 1
                go_wp2
                go_ret2
                exact ⟨by first | rfl | (simp [errW_none,errW_some] <;> rfl) | (simp [*,errW_none,errW_some] <;> rfl),by repeat (first | (with_reducible first | exact HB.out | apply below_alloc | apply pw_below_drewN | apply below_drew1 | refine below_set ?_ GE131.out) | exact HB.out)⟩
              · replace c19 := Bool.eq_false_iff.mpr c19
                subst c19
                have H1 : (if x4_1 < 9223372036854775808 then (some (wrap64 (x4_1),0)) else (some (0,10))) = some (r1,r2) := by rw [if_neg (show ¬ (false = true) by decide)] at H;exact H
                clear H
                have H := H1
                clear H1
                by_cases c21 : x4_1 < 9223372036854775808
                · rw [if_pos c21] at H
                  have c21b0 : decide (x4_1 < 9223372036854775808) = true := decide_eq_true c21
                  clear c21
                  simp only [Option.some.injEq,Prod.mk.injEq] at H
                  obtain ⟨rfl,rfl⟩ := H
                  have hcz22_0 : wc.cell? ⟨gb131,0,none⟩ = some (.bool false) := (blk_cell BK131.out 0).trans rfl
                  have hcz22_1 : wc.cell? ⟨gb131,1,none⟩ = some (.slice A0_1 l0_1.length c0_1) := (blk_cell BK131.out 1).trans rfl
                  have hfz22_0 := blk_frozen BK131.out 0
                  have hfz22_1 := blk_frozen BK131.out 1
                  go_wp2
                  go_ret2
                  exact ⟨by first | rfl | (simp [errW_none,errW_some] <;> rfl) | (simp [*,errW_none,errW_some] <;> rfl),by repeat (first | (with_reducible first | exact HB.out | apply below_alloc | apply pw_below_drewN | apply below_drew1 | refine below_set ?_ GE131.out) | exact HB.out)⟩
                · rw [if_neg c21] at H
                  have c21b0 : decide (x4_1 < 9223372036854775808) = false := decide_eq_false c21
                  clear c21
                  simp only [Option.some.injEq,Prod.mk.injEq] at H
                  obtain ⟨rfl,rfl⟩ := H
                  have hcz23_0 : wc.cell? ⟨gb131,0,none⟩ = some (.bool false) := (blk_cell BK131.out 0).trans rfl
                  have hcz23_1 : wc.cell? ⟨gb131,1,none⟩ = some (.slice A0_1 l0_1.length c0_1) := (blk_cell BK131.out 1).trans rfl
                  have hfz23_0 := blk_frozen BK131.out 0
                  have hfz23_1 := blk_frozen BK131.out 1
                  go_wp2
                  go_ret2
                  exact ⟨by first | rfl | (simp [errW_none,errW_some] <;> rfl) | (simp [*,errW_none,errW_some] <;> rfl),by repeat (first | (with_reducible first | exact HB.out | apply below_alloc | apply pw_below_drewN | apply below_drew1 | refine below_set ?_ GE131.out) | exact HB.out)⟩
end Go.Proofs.Ytcenlehfbgnphaa.Z
end
section
namespace Go.Proofs.Ytcenlehfbgnphaa.Z
open Go.RowKit Go.Proofs.YtcenlehfbgnphaaW.PrintWords Go.Proofs.YtcenlehfbgnphaaW.PrintLast Go.Proofs.YtcenlehfbgnphaaW.PrintMore
attribute [local go_sem] max2_int min2_int max_two min_two max_three min_three max_four min_four
set_option linter.unusedVariables false
set_option linter.unusedSimpArgs false
mutual
def verdererref03_big.j0 : Nat → Int → Int → Option (Bool × List Int)
  | 0,_,_ => none
  | k + 1,x0,x3 => verdererref03_big.l0 k x3 0 (decide (x0 < 0)) ([] : List Int)
def verdererref03_big.l0 : Nat → Int → Int → Bool → List Int → Option (Bool × List Int)
  | 0,_,_,_,_ => none
  | k + 1,x3,x5,x136000,x136001 => if x5 < 4 then (if x136001.length < 17592186044416 then (verdererref03_big.l0 k (IntKind.u64.wrap (Int.tdiv x3 65536)) (wrap64 (x5 + 1)) x136000 (x136001 ++ [Int.tmod x3 65536])) else (none)) else (some (x136000,x136001))
end
def verdererref03_big.f (k : Nat) (a0 : Int) : Option (Bool × List Int) := if a0 < 0 then (verdererref03_big.j0 k a0 (IntKind.u64.wrap (-(IntKind.u64.wrap (a0))))) else (verdererref03_big.j0 k a0 (IntKind.u64.wrap (a0)))
theorem verdererref03_big.mono_l : ∀ k,(∀ y0 y1,LeO (verdererref03_big.j0 k y0 y1) (verdererref03_big.j0 (k + 1) y0 y1)) ∧ (∀ y0 y1 y2 y3,LeO (verdererref03_big.l0 k y0 y1 y2 y3) (verdererref03_big.l0 (k + 1) y0 y1 y2 y3))
  | 0 => ⟨fun _ _ r h => by simp [verdererref03_big.j0] at h,fun _ _ _ _ r h => by simp [verdererref03_big.l0] at h⟩
  | k + 1 => by
    obtain ⟨ih0,ih1⟩ := verdererref03_big.mono_l k
    refine ⟨?_,?_⟩
    · intro y0 y1
      unfold verdererref03_big.j0
      repeat' first
      | (with_reducible exact ih0 _ _)
      | (with_reducible exact ih1 _ _ _ _)
      | (with_reducible exact LeO.refl _)
      | (with_reducible exact LeO.none _)
      | (with_reducible refine LeO.ite ?_ ?_)
      | (with_reducible refine LeO.bind ?_ (fun _ => ?_))
      | exact ih0 _ _
      | exact ih1 _ _ _ _
      | exact LeO.none _
      | refine LeO.ite ?_ ?_
      | refine LeO.bind ?_ (fun _ => ?_)
    · intro y0 y1 y2 y3
      unfold verdererref03_big.l0
      repeat' first
      | (with_reducible exact ih0 _ _)
      | (with_reducible exact ih1 _ _ _ _)
      | (with_reducible exact LeO.refl _)
      | (with_reducible exact LeO.none _)
      | (with_reducible refine LeO.ite ?_ ?_)
      | (with_reducible refine LeO.bind ?_ (fun _ => ?_))
      | exact ih0 _ _
      | exact ih1 _ _ _ _
      | exact LeO.none _
      | refine LeO.ite ?_ ?_
      | refine LeO.bind ?_ (fun _ => ?_)
theorem verdererref03_big.mono : ∀ a0 k,LeO (verdererref03_big.f k a0) (verdererref03_big.f (k + 1) a0) := by
  intro a0 k
  obtain ⟨ih0,ih1⟩ := verdererref03_big.mono_l k
  unfold verdererref03_big.f
  repeat' first
      | (with_reducible exact ih0 _ _)
      | (with_reducible exact ih1 _ _ _ _)
      | (with_reducible exact LeO.refl _)
      | (with_reducible exact LeO.none _)
      | (with_reducible refine LeO.ite ?_ ?_)
      | (with_reducible refine LeO.bind ?_ (fun _ => ?_))
      | exact ih0 _ _
      | exact ih1 _ _ _ _
      | exact LeO.none _
      | refine LeO.ite ?_ ?_
      | refine LeO.bind ?_ (fun _ => ?_)
set_option maxHeartbeats 8000000 in
set_option maxRecDepth 100000 in
theorem verdererref03_big.calls (k : Nat) (a0 : Int) (r1 : Bool) (r2 : List Int) (w : World) (h : verdererref03_big.f k a0 = some (r1,r2)) :
    Calls Try.prog 61 #[.int .i64 a0] w fun e w' => ∃ v1_ : Value,e = .returned (.agg #[.bool r1,v1_]) ∧ Kd.R (Kd.int .u64) 96 w' w.heap.size (fun _ => True) v1_ r2 ∧ Below w.heap.size w w' := by
  have hu29 := Try.underlying29
  have HB := Aside0.mk (Below.refl w.heap.size w)
  have H : (if a0 < 0 then (verdererref03_big.j0 k a0 (IntKind.u64.wrap (-(IntKind.u64.wrap (a0))))) else (verdererref03_big.j0 k a0 (IntKind.u64.wrap (a0)))) = some (r1,r2) := h
  clear h
  have HC2 := Aside0.mk H
  clear H
  go_enter Try.func61,Try.ntmps61
  go_upto_if 9 with (first | ((with_reducible refine gate_dst (N := 2) rfl ?_);refine box_event ?hg (N := 2) ?hd (cs := #[.bool false,.slice none 0 0]) (t := 29) ?hr ?_;(case hd => rfl);(case hg => rfl);(case hr => first | (go_simp;done) | (go_simp;rfl));intro gb134 hg w3 hbox hb;have n0_ := Aside0.mk (below_step (by repeat (first | (with_reducible first | exact HB.out | apply below_alloc | apply pw_below_drewN | apply below_drew1) | exact HB.out)) hb);have n1_ := Aside0.mk (hbox);have n2_ := Aside0.mk ((by rw [hg];exact (below_size (by repeat (first | (with_reducible first | exact HB.out | apply below_alloc | apply pw_below_drewN | apply below_drew1) | exact HB.out))) : w.heap.size ≤ gb134));have n3_ := Aside0.mk ((by rw [hg];exact (below_size (by repeat (first | (with_reducible first | exact HB.out | apply below_alloc | apply pw_below_drewN | apply below_drew1) | exact HB.out))) : w.heap.size ≤ gb134));clear HB;have HB := n0_;have BK134 := n1_;have GW134 := n2_;have GE134 := n3_;clear n0_ n1_ n2_ n3_;clear hb hbox hg))
  (try simp only [Act.put,zA,zB,zC])
  go_cut [3] (fun v3 wc => ∃ (kq : Nat) (x3_1 : Int),v3 = .int .u64 x3_1 ∧ Aside0 (verdererref03_big.j0 kq a0 x3_1 = some (r1,r2)) ∧ Aside0 (kq ≤ k) ∧ Aside0 (wc.heap[gb134]? = some (.cells #[.bool false,(.slice none 0 0)] 29 (0,0))) ∧ Aside0 (Below w.heap.size w wc))
  case first =>
    have H := HC2.out
    clear HC2
    by_cases c4 : a0 < 0
    · rw [if_pos c4] at H
      have c4b0 : decide (a0 < 0) = true := decide_eq_true c4
      clear c4
      (first | rw [c4b0] | (simp only [i64_w,i32_w];rw [c4b0]) | skip)
      have H' := Aside0.mk H
      clear H
      go_wp2
      go_meet
      case rel => exact ⟨_,(IntKind.u64.wrap (-(IntKind.u64.wrap (a0)))),(by first | rfl | (simp;done) | (simp [*];done)),H',⟨by first | omega | exact Nat.le_refl _⟩,⟨by (with_reducible repeat (first | refine blk_drewN ?_ _ | refine blk_drew ?_ | refine blk_alloc ?_ _));exact BK134.out⟩,⟨by repeat (first | (with_reducible first | exact HB.out | apply below_alloc | apply pw_below_drewN | apply below_drew1 | refine below_set ?_ GE134.out) | exact HB.out)⟩⟩
    · rw [if_neg c4] at H
      have c4b0 : decide (a0 < 0) = false := decide_eq_false c4
      clear c4
      (first | rw [c4b0] | (simp only [i64_w,i32_w];rw [c4b0]) | skip)
      have H' := Aside0.mk H
      clear H
      go_wp2
      go_meet
      case rel => exact ⟨_,(IntKind.u64.wrap (a0)),(by first | rfl | (simp;done) | (simp [*];done)),H',⟨by first | omega | exact Nat.le_refl _⟩,⟨by (with_reducible repeat (first | refine blk_drewN ?_ _ | refine blk_drew ?_ | refine blk_alloc ?_ _));exact BK134.out⟩,⟨by repeat (first | (with_reducible first | exact HB.out | apply below_alloc | apply pw_below_drewN | apply below_drew1 | refine below_set ?_ GE134.out) | exact HB.out)⟩⟩
  case rest =>
    clear HC2
    try clear p2
    try clear c4
    try clear c4b0
    obtain ⟨kq,x3_1,rfl,HA,HJ1,BK134,HB⟩ := hcut
    cases kq with
    | zero => exact absurd HA.out (by simp [verdererref03_big.j0])
    | succ kj1 =>
      have H := HA.out
      clear HA
      simp only [verdererref03_big.j0] at H
      have H' := Aside0.mk H
      clear H
      go_wp2_with (first | ((with_reducible refine gate_dst (N := 4) rfl ?_);refine box_event ?hg (N := 4) ?hd (cs := #[.bool false,.slice none 0 0]) (t := 29) ?hr ?_;(case hd => rfl);(case hg => rfl);(case hr => first | (go_simp;done) | (go_simp;rfl));intro gb135 hg w5 hbox hb;have n0_ := Aside0.mk (blk_below (g := gb134) (o := .cells #[.bool false,.slice none 0 0] 29 (0,0)) (by (with_reducible repeat (first | refine blk_drewN ?_ _ | refine blk_drew ?_ | refine blk_alloc ?_ _));exact BK134.out) hb);have n1_ := Aside0.mk (below_step (by repeat (first | (with_reducible first | exact HB.out | apply below_alloc | apply pw_below_drewN | apply below_drew1 | refine below_set ?_ GE134.out) | exact HB.out)) hb);have n2_ := Aside0.mk (hbox);have n3_ := Aside0.mk ((by rw [hg];exact (below_size (by repeat (first | (with_reducible first | exact HB.out | apply below_alloc | apply pw_below_drewN | apply below_drew1 | refine below_set ?_ GE134.out) | exact HB.out))) : w.heap.size ≤ gb135));have n4_ := Aside0.mk ((by rw [hg];exact (below_size (by repeat (first | (with_reducible first | exact HB.out | apply below_alloc | apply pw_below_drewN | apply below_drew1 | refine below_set ?_ GE134.out) | exact HB.out))) : w.heap.size ≤ gb135));have n5_ := Aside0.mk ((by rw [hg];exact Nat.ne_of_lt (blk_lt (g := gb134) (o := .cells #[.bool false,.slice none 0 0] 29 (0,0)) (by (with_reducible repeat (first | refine blk_drewN ?_ _ | refine blk_drew ?_ | refine blk_alloc ?_ _));exact BK134.out)) : gb134 ≠ gb135));have n6_ := Aside0.mk ((by rw [hg];exact Nat.ne_of_gt (blk_lt (g := gb134) (o := .cells #[.bool false,.slice none 0 0] 29 (0,0)) (by (with_reducible repeat (first | refine blk_drewN ?_ _ | refine blk_drew ?_ | refine blk_alloc ?_ _));exact BK134.out)) : gb135 ≠ gb134));clear BK134;clear HB;have BK134 := n0_;have HB := n1_;have BK135 := n2_;have GW135 := n3_;have GE135 := n4_;have NB134_135 := n5_;have NB135_134 := n6_;clear n0_ n1_ n2_ n3_ n4_ n5_ n6_;clear hb hbox hg;have hnb6 := NB135_134.out;have hnc6 := NB134_135.out;have hcz7_0 : w5.cell? ⟨gb135,0,none⟩ = some (.bool false) := (blk_cell BK135.out 0).trans rfl;have hcz7_1 : w5.cell? ⟨gb135,1,none⟩ = some (.slice none 0 0) := (blk_cell BK135.out 1).trans rfl;have hfz7_0 := blk_frozen BK135.out 0;have hfz7_1 := blk_frozen BK135.out 1))
      go_loopg [3,5] kj1 (fun kq v3 v5 w' => ∃ (x3_2 : Int) (x5_2 : Int) (x136001_2 : List Int) (u136001 : Value),v3 = .int .u64 x3_2 ∧ v5 = .int .i64 x5_2 ∧ Aside0 (verdererref03_big.l0 kq x3_2 x5_2 (decide (a0 < 0)) x136001_2 = some (r1,r2)) ∧ Aside0 (kq ≤ kj1) ∧ Aside0 (Kd.R (Kd.int .u64) 96 w' w.heap.size (fun _ => True) u136001 x136001_2) ∧ Aside0 (w'.heap[gb134]? = some (.cells #[.bool false,(.slice none 0 0)] 29 (0,0))) ∧ Aside0 (w'.heap[gb135]? = some (.cells #[.bool (decide (a0 < 0)),u136001] 29 (0,0))) ∧ Aside0 (Below w.heap.size w w'))
      case atStart => exact ⟨(x3_1),(0),(([] : List Int)),(.slice none 0 0),(by first | rfl | (simp;done) | (simp [*];done)),(by first | rfl | (simp;done) | (simp [*];done)),H',⟨Nat.le_refl _⟩,⟨by first | exact Kd.R_nil _ _ _ _ _ | exact Kd.N_nil _ _ _ _ _ | exact Kd.V_nil _ _ _ _ _ | exact Kd.Q_nil _ _ _ _ _ | exact Kd.S_nil _ _ _ _ _⟩,⟨by (with_reducible repeat (first | refine blk_drewN ?_ _ | refine blk_drew ?_ | refine blk_alloc ?_ _));refine blk_far ?_ NB134_135.out _;(with_reducible repeat (first | refine blk_drewN ?_ _ | refine blk_drew ?_ | refine blk_alloc ?_ _));refine blk_far ?_ NB134_135.out _;(with_reducible repeat (first | refine blk_drewN ?_ _ | refine blk_drew ?_ | refine blk_alloc ?_ _));exact BK134.out⟩,⟨by (with_reducible repeat (first | refine blk_drewN ?_ _ | refine blk_drew ?_ | refine blk_alloc ?_ _));refine blk_put (cs := #[.bool (decide (a0 < 0)),.slice none 0 0]) ?_ 1 _ rfl;(with_reducible repeat (first | refine blk_drewN ?_ _ | refine blk_drew ?_ | refine blk_alloc ?_ _));refine blk_put (cs := #[.bool false,.slice none 0 0]) ?_ 0 _ rfl;(with_reducible repeat (first | refine blk_drewN ?_ _ | refine blk_drew ?_ | refine blk_alloc ?_ _));exact BK135.out⟩,⟨by repeat (first | (with_reducible first | exact HB.out | apply below_alloc | apply pw_below_drewN | apply below_drew1 | refine below_set ?_ GE134.out | refine below_set ?_ GE135.out) | exact HB.out)⟩⟩
      case round =>
        clear H'
        try clear p2
        try clear c4
        try clear c4b0
        try clear c6
        try clear hcz7_0
        try clear hcz7_1
        try clear hfz7_0
        try clear hfz7_1
        try clear p2
        obtain ⟨x3_2,x5_2,x136001_2,u136001,rfl,rfl,HA,HK2,HO_136001,BK134,BK135,HB⟩ := hrel
        cases gk with
        | zero => exact absurd HA.out (by simp [verdererref03_big.l0])
        | succ k2 =>
          have H := HA.out
          clear HA
          simp only [verdererref03_big.l0] at H
          by_cases c8 : x5_2 < 4
          · rw [if_pos c8] at H
            have c8b0 : decide (x5_2 < 4) = true := decide_eq_true c8
            clear c8
            by_cases c9 : x136001_2.length < 17592186044416
            · rw [if_pos c9] at H
              have LMc9 := Aside0.mk c9
              clear c9
              obtain ⟨y136,hy136⟩ : ∃ y_ : List Int,y_ = (x136001_2 ++ [Int.tmod x3_2 65536]) := ⟨_,rfl⟩
              replace H : (verdererref03_big.l0 k2 (IntKind.u64.wrap (Int.tdiv x3_2 65536)) (wrap64 (x5_2 + 1)) (decide (a0 < 0)) y136) = some (r1,r2) := by first | (rw [hy136];with_reducible exact H) | (have H2_ := (Option.bind_some _ _).symm.trans H;rw [hy136];with_reducible exact H2_) | (have H2_ := (Option.bind_some _ _).symm.trans H;with_reducible exact H2_) | with_reducible exact H | (rw [hy136];exact H) | exact H
              have Ny136 := Aside0.mk hy136
              clear hy136
              have H' := Aside0.mk H
              clear H
              have hnb10 := NB135_134.out
              have hnc10 := NB134_135.out
              have hcz11_0 : wr.cell? ⟨gb135,0,none⟩ = some (.bool (decide (a0 < 0))) := (blk_cell BK135.out 0).trans rfl
              have hcz11_1 : wr.cell? ⟨gb135,1,none⟩ = some (u136001) := (blk_cell BK135.out 1).trans rfl
              have hfz11_0 := blk_frozen BK135.out 0
              have hfz11_1 := blk_frozen BK135.out 1
              go_wp2_with (first | ((with_reducible refine gate_builtin (b := .append) (xs := #[.tmp 20,.tmp 23]) rfl ?_);at_builtin;refine Kd.R_append (Kd.int .u64) (w0 := w) w.heap.size rfl (.tmp 20) (.tmp 23) 27 96 (.int .u64 0) 8 rfl Try.underlying27 info96 rfl (by decide) (by omega) u136001 x136001_2 (Int.tmod x3_2 65536) [.int .u64 (Int.tmod x3_2 65536)] (fun _ => True) (fun _ => False) rfl rfl ?aP (fun _ hk => hk.elim) ?aF ?aO ?aB ?aS ?aL ?_;(case aP => exact rfl);(case aB => exact (by repeat (first | (with_reducible first | exact HB.out | apply below_alloc | apply pw_below_drewN | apply below_drew1 | refine below_set ?_ GE134.out | refine below_set ?_ GE135.out) | exact HB.out)));(case aF => exact (fun _ _ => trivial));(case aO => exact (by (with_reducible repeat (first | apply Kd.R_alloc | apply Kd.R_drewN | apply Kd.R_drew));exact HO_136001.out));(case aS => exact (below_size (by repeat (first | (with_reducible first | exact HB.out | apply below_alloc | apply pw_below_drewN | apply below_drew1 | refine below_set ?_ GE134.out | refine below_set ?_ GE135.out) | exact HB.out))));(case aL => have := LMc9.out;omega);intro v137 w12 ho hb hg hat;rw [← Ny136.out] at ho;have n0_ := Aside0.mk (blk_grown (g := gb134) (o := .cells #[.bool false,.slice none 0 0] 29 (0,0)) (by (with_reducible repeat (first | refine blk_drewN ?_ _ | refine blk_drew ?_ | refine blk_alloc ?_ _));exact BK134.out) hg (Kd.R_ne HO_136001.out BK134.out (by decide)));have n1_ := Aside0.mk (blk_grown (g := gb135) (o := .cells #[.bool (decide (a0 < 0)),u136001] 29 (0,0)) (by (with_reducible repeat (first | refine blk_drewN ?_ _ | refine blk_drew ?_ | refine blk_alloc ?_ _));exact BK135.out) hg (Kd.R_ne HO_136001.out BK135.out (by decide)));have n2_ := Aside0.mk (hb);have n3_ := Aside0.mk (ho);clear BK134;clear BK135;clear HB;clear HO_136001;have BK134 := n0_;have BK135 := n1_;have HB := n2_;have HO138 := n3_;clear n0_ n1_ n2_ n3_;clear ho hb hg hat;obtain ⟨Ao13,co13,eo13⟩ := Kd.R_slice HO138.out;subst eo13;have hcz14_0 : w12.cell? ⟨gb135,0,none⟩ = some (.bool (decide (a0 < 0))) := (blk_cell BK135.out 0).trans rfl;have hcz14_1 : w12.cell? ⟨gb135,1,none⟩ = some (u136001) := (blk_cell BK135.out 1).trans rfl;have hfz14_0 := blk_frozen BK135.out 0;have hfz14_1 := blk_frozen BK135.out 1))
              go_roundg k2
              case measure => have := HJ1.out;have := HK2.out;omega
              case rel => exact ⟨(IntKind.u64.wrap (Int.tdiv x3_2 65536)),(wrap64 (x5_2 + 1)),(y136),(.slice Ao13 y136.length co13),(by first | rfl | (simp;done) | (simp [*];done)),(by first | rfl | (simp;done) | (simp [*];done)),H',⟨by have := HJ1.out;have := HK2.out;omega⟩,⟨by (with_reducible repeat (first | apply Kd.R_alloc | apply Kd.R_drewN | apply Kd.R_drew));exact Kd.R_mono (Kd.R_far (p := ⟨gb135,1,none⟩) (Kd.R_types HO138.out BK135.out (by decide)) (fun _ hk => hk.2) (.slice Ao13 y136.length co13)) (fun _ hk => trivial)⟩,⟨by (with_reducible repeat (first | refine blk_drewN ?_ _ | refine blk_drew ?_ | refine blk_alloc ?_ _));refine blk_far ?_ NB134_135.out _;(with_reducible repeat (first | refine blk_drewN ?_ _ | refine blk_drew ?_ | refine blk_alloc ?_ _));exact BK134.out⟩,⟨by (with_reducible repeat (first | refine blk_drewN ?_ _ | refine blk_drew ?_ | refine blk_alloc ?_ _));refine blk_put (cs := #[.bool (decide (a0 < 0)),u136001]) ?_ 1 _ rfl;(with_reducible repeat (first | refine blk_drewN ?_ _ | refine blk_drew ?_ | refine blk_alloc ?_ _));exact BK135.out⟩,⟨by repeat (first | (with_reducible first | exact HB.out | apply below_alloc | apply pw_below_drewN | apply below_drew1 | refine below_set ?_ GE134.out | refine below_set ?_ GE135.out) | exact HB.out)⟩⟩
            · rw [if_neg c9] at H
              exact absurd H (by simp)
          · rw [if_neg c8] at H
            have c8b0 : decide (x5_2 < 4) = false := decide_eq_false c8
            clear c8
            simp only [Option.some.injEq,Prod.mk.injEq] at H
            obtain ⟨rfl,rfl⟩ := H
            have hnb15 := NB135_134.out
            have hnc15 := NB134_135.out
            have hcz16_0 : wr.cell? ⟨gb135,0,none⟩ = some (.bool (decide (a0 < 0))) := (blk_cell BK135.out 0).trans rfl
            have hcz16_1 : wr.cell? ⟨gb135,1,none⟩ = some (u136001) := (blk_cell BK135.out 1).trans rfl
            have hfz16_0 := blk_frozen BK135.out 0
            have hfz16_1 := blk_frozen BK135.out 1
            have hcz17_0 : wr.cell? ⟨gb134,0,none⟩ = some (.bool false) := (blk_cell BK134.out 0).trans rfl
            have hcz17_1 : wr.cell? ⟨gb134,1,none⟩ = some (.slice none 0 0) := (blk_cell BK134.out 1).trans rfl
            have hfz17_0 := blk_frozen BK134.out 0
            have hfz17_1 := blk_frozen BK134.out 1
            obtain ⟨Ao18,co18,eo18⟩ := Kd.R_slice HO_136001.out
            subst eo18
            go_wp2
            refine bodyPost_ret (results_cell_row rfl _ _ gb134 29 #[.bool (decide (a0 < 0)),.slice Ao18 x136001_2.length co18] (0,0) _ rfl (by (with_reducible repeat (first | refine blk_drewN ?_ _ | refine blk_drew ?_ | refine blk_alloc ?_ _));refine blk_put (cs := #[.bool (decide (a0 < 0)),.slice none 0 0]) ?_ 1 _ rfl;(with_reducible repeat (first | refine blk_drewN ?_ _ | refine blk_drew ?_ | refine blk_alloc ?_ _));refine blk_put (cs := #[.bool false,.slice none 0 0]) ?_ 0 _ rfl;(with_reducible repeat (first | refine blk_drewN ?_ _ | refine blk_drew ?_ | refine blk_alloc ?_ _));exact BK134.out) Try.underlying29 rfl (by kernel_rfl)) rfl ?_
            exact ⟨_,by first | rfl | (simp [errW_none,errW_some] <;> rfl) | (simp [*,errW_none,errW_some] <;> rfl),by (with_reducible repeat (first | apply Kd.R_alloc | apply Kd.R_drewN | apply Kd.R_drew));exact Kd.R_mono (Kd.R_far (p := ⟨gb134,1,none⟩) (Kd.R_far (p := ⟨gb134,0,none⟩) (Kd.R_types HO_136001.out BK134.out (by decide)) (fun _ hk => hk.2) (.bool (decide (a0 < 0)))) (fun _ hk => hk.2) (.slice Ao18 x136001_2.length co18)) (fun _ hk => trivial),by repeat (first | (with_reducible first | exact HB.out | apply below_alloc | apply pw_below_drewN | apply below_drew1 | refine below_set ?_ GE134.out | refine below_set ?_ GE135.out) | exact HB.out)⟩
end Go.Proofs.Ytcenlehfbgnphaa.Z
end
section
namespace Go.Proofs.Ytcenlehfbgnphaa.Z
open Go.RowKit Go.Proofs.YtcenlehfbgnphaaW.PrintWords Go.Proofs.YtcenlehfbgnphaaW.PrintLast Go.Proofs.YtcenlehfbgnphaaW.PrintMore
attribute [local go_sem] max2_int min2_int max_two min_two max_three min_three max_four min_four
set_option linter.unusedVariables false
set_option linter.unusedSimpArgs false
def verdererref03_Add.f (k : Nat) (a0 : Int) (a1 : Int) : Option (Int × Int) := (verdererref03_big.f k a0).bind fun bt139 => ((verdererref03_big.f k a1).bind fun bt143 => ((verdererref03_Plus.f k bt139.1 bt139.2 bt143.1 bt143.2).bind fun bt147 => ((verdererref03_Big_Value.f k bt147.1 bt147.2).bind fun bt151 => (some (bt151.1,bt151.2)))))
theorem verdererref03_Add.mono : ∀ a0 a1 k,LeO (verdererref03_Add.f k a0 a1) (verdererref03_Add.f (k + 1) a0 a1) := by
  intro a0 a1 k
  unfold verdererref03_Add.f
  repeat' first
      | (with_reducible exact verdererref03_Big_Value.mono _ _ _)
      | (with_reducible exact verdererref03_Plus.mono _ _ _ _ _)
      | (with_reducible exact verdererref03_big.mono _ _)
      | (with_reducible exact LeO.refl _)
      | (with_reducible exact LeO.none _)
      | (with_reducible refine LeO.ite ?_ ?_)
      | (with_reducible refine LeO.bind ?_ (fun _ => ?_))
      | exact verdererref03_Big_Value.mono _ _ _
      | exact verdererref03_Plus.mono _ _ _ _ _
      | exact verdererref03_big.mono _ _
      | exact LeO.none _
      | refine LeO.ite ?_ ?_
      | refine LeO.bind ?_ (fun _ => ?_)
set_option maxHeartbeats 8000000 in
set_option maxRecDepth 100000 in
theorem verdererref03_Add.calls (k : Nat) (a0 : Int) (a1 : Int) (r1 : Int) (r2 : Int) (w : World) (h : verdererref03_Add.f k a0 a1 = some (r1,r2)) :
    Calls Try.prog 24 #[.int .i64 a0,.int .i64 a1] w fun e w' => e = .returned (.tuple #[.int .i64 r1,.int .i64 r2]) ∧ Below w.heap.size w w' := by
  have HB := Aside0.mk (Below.refl w.heap.size w)
  have H : ((verdererref03_big.f k a0).bind fun bt139 => ((verdererref03_big.f k a1).bind fun bt143 => ((verdererref03_Plus.f k bt139.1 bt139.2 bt143.1 bt143.2).bind fun bt147 => ((verdererref03_Big_Value.f k bt147.1 bt147.2).bind fun bt151 => (some (bt151.1,bt151.2)))))) = some (r1,r2) := h
  clear h
  replace H := Option.bind_eq_some_iff.mp H
  obtain ⟨⟨t139,t140⟩,A30,H⟩ := H
  replace H : ((verdererref03_big.f k a1).bind fun bt143 => ((verdererref03_Plus.f k t139 t140 bt143.1 bt143.2).bind fun bt147 => ((verdererref03_Big_Value.f k bt147.1 bt147.2).bind fun bt151 => (some (bt151.1,bt151.2))))) = some (r1,r2) := H
  have A3 := Aside0.mk A30
  clear A30
  replace H := Option.bind_eq_some_iff.mp H
  obtain ⟨⟨t143,t144⟩,A40,H⟩ := H
  replace H : ((verdererref03_Plus.f k t139 t140 t143 t144).bind fun bt147 => ((verdererref03_Big_Value.f k bt147.1 bt147.2).bind fun bt151 => (some (bt151.1,bt151.2)))) = some (r1,r2) := H
  have A4 := Aside0.mk A40
  clear A40
  replace H := Option.bind_eq_some_iff.mp H
  obtain ⟨⟨t147,t148⟩,A50,H⟩ := H
  replace H : ((verdererref03_Big_Value.f k t147 t148).bind fun bt151 => (some (bt151.1,bt151.2))) = some (r1,r2) := H
  have A5 := Aside0.mk A50
  clear A50
  replace H := Option.bind_eq_some_iff.mp H
  obtain ⟨⟨t151,t152⟩,A60,H⟩ := H
  replace H : (some (t151,t152)) = some (r1,r2) := H
  have A6 := Aside0.mk A60
  clear A60
  simp only [Option.some.injEq,Prod.mk.injEq] at H
  obtain ⟨rfl,rfl⟩ := H
  go_enter Try.func24,Try.ntmps24
  go_wp2_with (first | ((with_reducible refine gate_callee (f := 61) rfl ?_);refine goesL_ (some 7) rfl rfl Try.func61 (by kernel_rfl) rfl #[.int .i64 a0] rfl (by (try simp only [List.map_toArray,List.map_cons,List.map_nil]);first | done | rfl | (simp only [List.length_drop,List.length_take];rfl)) ?_;(with_reducible refine (verdererref03_big.calls k a0 t139 t140 _ A3.out).mono ?_);rintro e w7 ⟨v141,rfl,ho0,hb⟩;refine ⟨_,rfl,?_⟩;have n0_ := Aside0.mk (Kd.R_lower ho0 (below_size (by repeat (first | (with_reducible first | exact HB.out | apply below_alloc | apply pw_below_drewN | apply below_drew1) | exact HB.out))));have n1_ := Aside0.mk (below_step (by repeat (first | (with_reducible first | exact HB.out | apply below_alloc | apply pw_below_drewN | apply below_drew1) | exact HB.out)) hb);clear HB;have HO142 := n0_;have HB := n1_;clear n0_ n1_;(try clear hb);(try clear hb2);(try clear hk);(try clear hi);(try clear ho0)) | ((with_reducible refine gate_callee (f := 61) rfl ?_);refine goesL_ (some 9) rfl rfl Try.func61 (by kernel_rfl) rfl #[.int .i64 a1] rfl (by (try simp only [List.map_toArray,List.map_cons,List.map_nil]);first | done | rfl | (simp only [List.length_drop,List.length_take];rfl)) ?_;(with_reducible refine (verdererref03_big.calls k a1 t143 t144 _ A4.out).mono ?_);rintro e w8 ⟨v145,rfl,ho0,hb⟩;refine ⟨_,rfl,?_⟩;have n0_ := Aside0.mk (Kd.R_elder' (by (with_reducible repeat (first | apply Kd.R_alloc | apply Kd.R_drewN | apply Kd.R_drew));exact HO142.out) (Kd.R_base ho0) hb);have n1_ := Aside0.mk (Kd.R_lower (Kd.R_new' ho0 (Kd.R_lt (by (with_reducible repeat (first | apply Kd.R_alloc | apply Kd.R_drewN | apply Kd.R_drew));exact HO142.out))) (below_size (by repeat (first | (with_reducible first | exact HB.out | apply below_alloc | apply pw_below_drewN | apply below_drew1) | exact HB.out))));have n2_ := Aside0.mk (below_step (by repeat (first | (with_reducible first | exact HB.out | apply below_alloc | apply pw_below_drewN | apply below_drew1) | exact HB.out)) hb);clear HO142;clear HB;have HO142 := n0_;have HO146 := n1_;have HB := n2_;clear n0_ n1_ n2_;(try clear hb);(try clear hb2);(try clear hk);(try clear hi);(try clear ho0);obtain ⟨Ao9,co9,eo9⟩ := Kd.R_slice HO142.out;subst eo9;obtain ⟨Ao10,co10,eo10⟩ := Kd.R_slice HO146.out;subst eo10) | ((with_reducible refine gate_callee (f := 16) rfl ?_);refine goesL_ (some 10) rfl rfl Try.func16 (by kernel_rfl) rfl #[.agg #[.bool t139,.slice Ao9 t140.length co9],.agg #[.bool t143,.slice Ao10 t144.length co10]] rfl (by (try simp only [List.map_toArray,List.map_cons,List.map_nil]);first | done | rfl | (simp only [List.length_drop,List.length_take];rfl)) ?_;(with_reducible refine (verdererref03_Plus.calls k t139 _ _ t140 t143 _ _ t144 t147 t148 _ ?side1 ?side2 ?side3 ?side4 A5.out).mono ?_);(case side1 => repeat (first | exact (Kd.R_reads' HO142.out).2.2 | (with_reducible refine Kd.C_alloc ?_ _) | (with_reducible refine Kd.C_drewN ?_ _) | (with_reducible refine Kd.C_drew ?_)));(case side2 => exact (Kd.R_reads' HO142.out).2.1);(case side3 => repeat (first | exact (Kd.R_reads' HO146.out).2.2 | (with_reducible refine Kd.C_alloc ?_ _) | (with_reducible refine Kd.C_drewN ?_ _) | (with_reducible refine Kd.C_drew ?_)));(case side4 => exact (Kd.R_reads' HO146.out).2.1);rintro e w11 ⟨v149,rfl,ho0,hb⟩;refine ⟨_,rfl,?_⟩;have n0_ := Aside0.mk (Kd.R_elder' (by (with_reducible repeat (first | apply Kd.R_alloc | apply Kd.R_drewN | apply Kd.R_drew));exact HO142.out) (Kd.R_base ho0) hb);have n1_ := Aside0.mk (Kd.R_elder' (by (with_reducible repeat (first | apply Kd.R_alloc | apply Kd.R_drewN | apply Kd.R_drew));exact HO146.out) (Kd.R_base ho0) hb);have n2_ := Aside0.mk (Kd.R_lower (Kd.R_new' (Kd.R_new' ho0 (Kd.R_lt (by (with_reducible repeat (first | apply Kd.R_alloc | apply Kd.R_drewN | apply Kd.R_drew));exact HO142.out))) (Kd.R_lt (by (with_reducible repeat (first | apply Kd.R_alloc | apply Kd.R_drewN | apply Kd.R_drew));exact HO146.out))) (below_size (by repeat (first | (with_reducible first | exact HB.out | apply below_alloc | apply pw_below_drewN | apply below_drew1) | exact HB.out))));have n3_ := Aside0.mk (below_step (by repeat (first | (with_reducible first | exact HB.out | apply below_alloc | apply pw_below_drewN | apply below_drew1) | exact HB.out)) hb);clear HO142;clear HO146;clear HB;have HO142 := n0_;have HO146 := n1_;have HO150 := n2_;have HB := n3_;clear n0_ n1_ n2_ n3_;(try clear hb);(try clear hb2);(try clear hk);(try clear hi);(try clear ho0);obtain ⟨Ao12,co12,eo12⟩ := Kd.R_slice HO150.out;subst eo12) | ((with_reducible refine gate_callee (f := 19) rfl ?_);refine goesL_ (some 11) rfl rfl Try.func19 (by kernel_rfl) rfl #[.agg #[.bool t147,.slice Ao12 t148.length co12]] rfl (by (try simp only [List.map_toArray,List.map_cons,List.map_nil]);first | done | rfl | (simp only [List.length_drop,List.length_take];rfl)) ?_;(with_reducible refine (verdererref03_Big_Value.calls k t147 _ _ t148 t151 t152 _ ?side1 ?side2 A6.out).mono ?_);(case side1 => repeat (first | exact (Kd.R_reads' HO150.out).2.2 | (with_reducible refine Kd.C_alloc ?_ _) | (with_reducible refine Kd.C_drewN ?_ _) | (with_reducible refine Kd.C_drew ?_)));(case side2 => exact (Kd.R_reads' HO150.out).2.1);rintro e w13 ⟨rfl,hb⟩;refine ⟨_,rfl,?_⟩;have n0_ := Aside0.mk (Kd.R_below (by (with_reducible repeat (first | apply Kd.R_alloc | apply Kd.R_drewN | apply Kd.R_drew));exact HO142.out) hb);have n1_ := Aside0.mk (Kd.R_below (by (with_reducible repeat (first | apply Kd.R_alloc | apply Kd.R_drewN | apply Kd.R_drew));exact HO146.out) hb);have n2_ := Aside0.mk (Kd.R_below (by (with_reducible repeat (first | apply Kd.R_alloc | apply Kd.R_drewN | apply Kd.R_drew));exact HO150.out) hb);have n3_ := Aside0.mk (below_step (by repeat (first | (with_reducible first | exact HB.out | apply below_alloc | apply pw_below_drewN | apply below_drew1) | exact HB.out)) hb);clear HO142;clear HO146;clear HO150;clear HB;have HO142 := n0_;have HO146 := n1_;have HO150 := n2_;have HB := n3_;clear n0_ n1_ n2_ n3_;(try clear hb);(try clear hb2);(try clear hk);(try clear hi)))
  go_ret2
  exact ⟨by first | rfl | (simp [errW_none,errW_some] <;> rfl) | (simp [*,errW_none,errW_some] <;> rfl),by repeat (first | (with_reducible first | exact HB.out | apply below_alloc | apply pw_below_drewN | apply below_drew1) | exact HB.out)⟩
end Go.Proofs.Ytcenlehfbgnphaa.Z
end
section
namespace Go.Proofs.Ytcenlehfbgnphaa.Z
open Go.RowKit Go.Proofs.YtcenlehfbgnphaaW.PrintWords Go.Proofs.YtcenlehfbgnphaaW.PrintLast Go.Proofs.YtcenlehfbgnphaaW.PrintMore
attribute [local go_sem] max2_int min2_int max_two min_two max_three min_three max_four min_four
set_option linter.unusedVariables false
set_option linter.unusedSimpArgs false
def safe_Sub.f (a0 : Int) (a1 : Int) : Option (Int × Int) := (safe_fits.f (wrap64 (a0 - a1)) (decide ((Go.bits .and .i64 (Go.bits .xor .i64 a0 a1) (Go.bits .xor .i64 a0 (wrap64 (a0 - a1)))) ≥ 0))).bind fun bt153 => (some (bt153.1,bt153.2))
set_option maxHeartbeats 8000000 in
set_option maxRecDepth 100000 in
theorem safe_Sub.calls (a0 : Int) (a1 : Int) (r1 : Int) (r2 : Int) (w : World) (h : safe_Sub.f a0 a1 = some (r1,r2)) :
    Calls Try.prog 25 #[.int .i64 a0,.int .i64 a1] w fun e w' => e = .returned (.tuple #[.int .i64 r1,.int .i64 r2]) ∧ Drawn0 w w' := by
  have H : ((safe_fits.f (wrap64 (a0 - a1)) (decide ((Go.bits .and .i64 (Go.bits .xor .i64 a0 a1) (Go.bits .xor .i64 a0 (wrap64 (a0 - a1)))) ≥ 0))).bind fun bt153 => (some (bt153.1,bt153.2))) = some (r1,r2) := h
  clear h
  replace H := Option.bind_eq_some_iff.mp H
  obtain ⟨⟨t153,t154⟩,A30,H⟩ := H
  replace H : (some (t153,t154)) = some (r1,r2) := H
  have A3 := Aside0.mk A30
  clear A30
  simp only [Option.some.injEq,Prod.mk.injEq] at H
  obtain ⟨rfl,rfl⟩ := H
  go_enter Try.func25,Try.ntmps25
  go_wp2_with (first | ((with_reducible refine gate_callee (f := 62) rfl ?_);refine goesL_ (some 19) rfl rfl Try.func62 (by kernel_rfl) rfl #[.int .i64 (wrap64 (a0 - a1)),.bool (decide ((Go.bits .and .i64 (Go.bits .xor .i64 a0 a1) (Go.bits .xor .i64 a0 (wrap64 (a0 - a1)))) ≥ 0))] rfl (by (try simp only [List.map_toArray,List.map_cons,List.map_nil]);first | done | rfl | (simp only [List.length_drop,List.length_take];rfl)) ?_;(with_reducible refine (safe_fits.calls (wrap64 (a0 - a1)) (decide ((Go.bits .and .i64 (Go.bits .xor .i64 a0 a1) (Go.bits .xor .i64 a0 (wrap64 (a0 - a1)))) ≥ 0)) t153 t154 _ A3.out).mono ?_);rintro e w' ⟨rfl,⟨nd,rfl⟩⟩;refine ⟨_,rfl,?_⟩))
  go_ret2
  exact ⟨by first | rfl | (simp;done) | (simp [*];done),by repeat (first | exact Drawn0.refl _ | apply Drawn0.step)⟩
end Go.Proofs.Ytcenlehfbgnphaa.Z
end
section
namespace Go.Proofs.Ytcenlehfbgnphaa.Z
open Go.RowKit Go.Proofs.YtcenlehfbgnphaaW.PrintWords Go.Proofs.YtcenlehfbgnphaaW.PrintLast Go.Proofs.YtcenlehfbgnphaaW.PrintMore
attribute [local go_sem] max2_int min2_int max_two min_two max_three min_three max_four min_four
set_option linter.unusedVariables false
set_option linter.unusedSimpArgs false
def verdererref03_Sub.f (k : Nat) (a0 : Int) (a1 : Int) : Option (Int × Int) := (verdererref03_big.f k a1).bind fun bt155 => ((verdererref03_big.f k a0).bind fun bt160 => ((verdererref03_Plus.f k bt160.1 bt160.2 (!bt155.1) bt155.2).bind fun bt164 => ((verdererref03_Big_Value.f k bt164.1 bt164.2).bind fun bt168 => (some (bt168.1,bt168.2)))))
theorem verdererref03_Sub.mono : ∀ a0 a1 k,LeO (verdererref03_Sub.f k a0 a1) (verdererref03_Sub.f (k + 1) a0 a1) := by
  intro a0 a1 k
  unfold verdererref03_Sub.f
  repeat' first
      | (with_reducible exact verdererref03_Big_Value.mono _ _ _)
      | (with_reducible exact verdererref03_Plus.mono _ _ _ _ _)
      | (with_reducible exact verdererref03_big.mono _ _)
      | (with_reducible exact LeO.refl _)
      | (with_reducible exact LeO.none _)
      | (with_reducible refine LeO.ite ?_ ?_)
      | (with_reducible refine LeO.bind ?_ (fun _ => ?_))
      | exact verdererref03_Big_Value.mono _ _ _
      | exact verdererref03_Plus.mono _ _ _ _ _
      | exact verdererref03_big.mono _ _
      | exact LeO.none _
      | refine LeO.ite ?_ ?_
      | refine LeO.bind ?_ (fun _ => ?_)
def verdererref03_Sub.T3 : Bool × List (List Nat × List Nat) := (true,[([],[]),([0],[0]),([],[]),([1,2,1],[1,2]),([3,3],[3]),([4],[4]),([4],[4]),([5,4,0,1,2,3,4,5,6],[5]),([6,7,0,1,2,3,4,5,6,7],[6])])
def verdererref03_Sub.B3 : List Nat := [0,1,0,7,15,31,31,127,255]
theorem verdererref03_Sub.tab3 : rtab .any (opsOf Try.f26 3) = verdererref03_Sub.T3 := by kernel_rfl
theorem verdererref03_Sub.bits3 : waitsOk verdererref03_Sub.T3.2 verdererref03_Sub.B3 = true := by kernel_rfl
set_option maxHeartbeats 8000000 in
set_option maxRecDepth 100000 in
theorem verdererref03_Sub.calls (k : Nat) (a0 : Int) (a1 : Int) (r1 : Int) (r2 : Int) (w : World) (h : verdererref03_Sub.f k a0 a1 = some (r1,r2)) :
    Calls Try.prog 26 #[.int .i64 a0,.int .i64 a1] w fun e w' => e = .returned (.tuple #[.int .i64 r1,.int .i64 r2]) ∧ Below w.heap.size w w' := by
  have hu29 := Try.underlying29
  have HB := Aside0.mk (Below.refl w.heap.size w)
  have H : ((verdererref03_big.f k a1).bind fun bt155 => ((verdererref03_big.f k a0).bind fun bt160 => ((verdererref03_Plus.f k bt160.1 bt160.2 (!bt155.1) bt155.2).bind fun bt164 => ((verdererref03_Big_Value.f k bt164.1 bt164.2).bind fun bt168 => (some (bt168.1,bt168.2)))))) = some (r1,r2) := h
  clear h
  replace H := Option.bind_eq_some_iff.mp H
  obtain ⟨⟨t155,t156⟩,A30,H⟩ := H
  replace H : ((verdererref03_big.f k a0).bind fun bt160 => ((verdererref03_Plus.f k bt160.1 bt160.2 (!t155) t156).bind fun bt164 => ((verdererref03_Big_Value.f k bt164.1 bt164.2).bind fun bt168 => (some (bt168.1,bt168.2))))) = some (r1,r2) := H
  have A3 := Aside0.mk A30
  clear A30
  replace H := Option.bind_eq_some_iff.mp H
  obtain ⟨⟨t160,t161⟩,A40,H⟩ := H
  replace H : ((verdererref03_Plus.f k t160 t161 (!t155) t156).bind fun bt164 => ((verdererref03_Big_Value.f k bt164.1 bt164.2).bind fun bt168 => (some (bt168.1,bt168.2)))) = some (r1,r2) := H
  have A4 := Aside0.mk A40
  clear A40
  replace H := Option.bind_eq_some_iff.mp H
  obtain ⟨⟨t164,t165⟩,A50,H⟩ := H
  replace H : ((verdererref03_Big_Value.f k t164 t165).bind fun bt168 => (some (bt168.1,bt168.2))) = some (r1,r2) := H
  have A5 := Aside0.mk A50
  clear A50
  replace H := Option.bind_eq_some_iff.mp H
  obtain ⟨⟨t168,t169⟩,A60,H⟩ := H
  replace H : (some (t168,t169)) = some (r1,r2) := H
  have A6 := Aside0.mk A60
  clear A60
  simp only [Option.some.injEq,Prod.mk.injEq] at H
  obtain ⟨rfl,rfl⟩ := H
  go_enter Try.func26,Try.ntmps26
  try go_wp2_with (first | ((with_reducible refine gate_callee (f := 61) rfl ?_);refine goesL_ (some 8) rfl rfl Try.func61 (by kernel_rfl) rfl #[.int .i64 a1] rfl (by (try simp only [List.map_toArray,List.map_cons,List.map_nil]);first | done | rfl | (simp only [List.length_drop,List.length_take];rfl)) ?_;(with_reducible refine (verdererref03_big.calls k a1 t155 t156 _ A3.out).mono ?_);rintro e w7 ⟨v157,rfl,ho0,hb⟩;refine ⟨_,rfl,?_⟩;have n0_ := Aside0.mk (Kd.R_lower ho0 (below_size (by repeat (first | (with_reducible first | exact HB.out | apply below_alloc | apply pw_below_drewN | apply below_drew1) | exact HB.out))));have n1_ := Aside0.mk (below_step (by repeat (first | (with_reducible first | exact HB.out | apply below_alloc | apply pw_below_drewN | apply below_drew1) | exact HB.out)) hb);clear HB;have HO158 := n0_;have HB := n1_;clear n0_ n1_;(try clear hb);(try clear hb2);(try clear hk);(try clear hi);(try clear ho0)) | ((with_reducible refine gate_dst (N := 6) rfl ?_);refine box_event ?hg (N := 6) ?hd (cs := #[.bool false,.slice none 0 0]) (t := 29) ?hr ?_;(case hd => rfl);(case hg => rfl);(case hr => first | (go_simp;done) | (go_simp;rfl));intro gb159 hg w8 hbox hb;have n0_ := Aside0.mk (Kd.R_below (by (with_reducible repeat (first | apply Kd.R_alloc | apply Kd.R_drewN | apply Kd.R_drew));exact HO158.out) hb);have n1_ := Aside0.mk (below_step (by repeat (first | (with_reducible first | exact HB.out | apply below_alloc | apply pw_below_drewN | apply below_drew1) | exact HB.out)) hb);have n2_ := Aside0.mk (hbox);have n3_ := Aside0.mk ((by rw [hg];exact (below_size (by repeat (first | (with_reducible first | exact HB.out | apply below_alloc | apply pw_below_drewN | apply below_drew1) | exact HB.out))) : w.heap.size ≤ gb159));have n4_ := Aside0.mk ((by rw [hg];exact (below_size (by repeat (first | (with_reducible first | exact HB.out | apply below_alloc | apply pw_below_drewN | apply below_drew1) | exact HB.out))) : w.heap.size ≤ gb159));clear HO158;clear HB;have HO158 := n0_;have HB := n1_;have BK159 := n2_;have GW159 := n3_;have GE159 := n4_;clear n0_ n1_ n2_ n3_ n4_;clear hb hbox hg;have hcz9_0 : w8.cell? ⟨gb159,0,none⟩ = some (.bool false) := (blk_cell BK159.out 0).trans rfl;have hcz9_1 : w8.cell? ⟨gb159,1,none⟩ = some (.slice none 0 0) := (blk_cell BK159.out 1).trans rfl;have hfz9_0 := blk_frozen BK159.out 0;have hfz9_1 := blk_frozen BK159.out 1;obtain ⟨Ao10,co10,eo10⟩ := Kd.R_slice HO158.out;subst eo10))
  have n0_ : Aside0 (Kd.R (Kd.int .u64) 96 (((w8.setCell ⟨gb159,0,none⟩ (.bool t155)).setCell ⟨gb159,1,none⟩ (.slice Ao10 t156.length co10)).setCell ⟨gb159,0,none⟩ (.bool (!t155))) w.heap.size (fun _ => True) (.slice Ao10 t156.length co10) t156) := ⟨by (with_reducible repeat (first | apply Kd.R_alloc | apply Kd.R_drewN | apply Kd.R_drew));exact Kd.R_mono (Kd.R_far (p := ⟨gb159,0,none⟩) (Kd.R_far (p := ⟨gb159,1,none⟩) (Kd.R_far (p := ⟨gb159,0,none⟩) (Kd.R_types HO158.out BK159.out (by decide)) (fun _ hk => hk.2) (.bool t155)) (fun _ hk => hk.2) (.slice Ao10 t156.length co10)) (fun _ hk => hk.2) (.bool (!t155))) (fun _ hk => trivial)⟩
  have n1_ : Aside0 ((((w8.setCell ⟨gb159,0,none⟩ (.bool t155)).setCell ⟨gb159,1,none⟩ (.slice Ao10 t156.length co10)).setCell ⟨gb159,0,none⟩ (.bool (!t155))).heap[gb159]? = some (.cells #[.bool (!t155),.slice Ao10 t156.length co10] 29 (0,0))) := ⟨by (with_reducible repeat (first | refine blk_drewN ?_ _ | refine blk_drew ?_ | refine blk_alloc ?_ _));refine blk_put (cs := #[.bool t155,.slice Ao10 t156.length co10]) ?_ 0 _ rfl;(with_reducible repeat (first | refine blk_drewN ?_ _ | refine blk_drew ?_ | refine blk_alloc ?_ _));refine blk_put (cs := #[.bool t155,.slice none 0 0]) ?_ 1 _ rfl;(with_reducible repeat (first | refine blk_drewN ?_ _ | refine blk_drew ?_ | refine blk_alloc ?_ _));refine blk_put (cs := #[.bool false,.slice none 0 0]) ?_ 0 _ rfl;(with_reducible repeat (first | refine blk_drewN ?_ _ | refine blk_drew ?_ | refine blk_alloc ?_ _));exact BK159.out⟩
  have n2_ : Aside0 (Below w.heap.size w (((w8.setCell ⟨gb159,0,none⟩ (.bool t155)).setCell ⟨gb159,1,none⟩ (.slice Ao10 t156.length co10)).setCell ⟨gb159,0,none⟩ (.bool (!t155)))) := ⟨by repeat (first | (with_reducible first | exact HB.out | apply below_alloc | apply pw_below_drewN | apply below_drew1 | refine below_set ?_ GE159.out) | exact HB.out)⟩
  (try clear HO158)
  (try clear BK159)
  (try clear HB)
  generalize (((w8.setCell ⟨gb159,0,none⟩ (.bool t155)).setCell ⟨gb159,1,none⟩ (.slice Ao10 t156.length co10)).setCell ⟨gb159,0,none⟩ (.bool (!t155))) = w11 at n0_ n1_ n2_ ⊢
  have HO158 := n0_
  have BK159 := n1_
  have HB := n2_
  clear n0_ n1_ n2_
  have n0_ := Aside0.mk (Kd.R_drew HO158.out)
  have n1_ := Aside0.mk (blk_drew BK159.out)
  have n2_ := Aside0.mk (below_drew1 HB.out)
  clear HO158
  clear BK159
  clear HB
  have HO158 := n0_
  have BK159 := n1_
  have HB := n2_
  clear n0_ n1_ n2_
  refine start_ (n := 9) (S := fun w' => w'.cell? ⟨gb159,0,none⟩ = some (.bool (!t155)) ∧ w'.cell? ⟨gb159,1,none⟩ = some (.slice Ao10 t156.length co10)) (ds := []) #[false,false,false,false,false,false,false,false,false] (by kernel_rfl) rfl rfl ⟨(blk_cell BK159.out 0).trans rfl,(blk_cell BK159.out 1).trans rfl⟩ (fun hHeld => ?_);refine with_tabW verdererref03_Sub.tab3 verdererref03_Sub.bits3 (fun HT_ HW_ => ?_)
  generalize w11.drew = w12 at HO158 BK159 HB hHeld ⊢
  refine pure_ (i := 0) (N := some 13) (v := ?_) (a' := ?_) #[true,false,false,false,false,false,false,false,false] rfl rfl (any_of HT_.out (by kernel_rfl)) (fun _ _ _ h => h) (Or.inl ⟨by rfl,?_⟩) ?_ ?_
  rotate_left
  · intro w'
    go_simp
    with_reducible rfl
  rotate_left
  · simp only [Act.put,zA,zB,zC,i64_w,i32_w]
    rfl
  refine take_ (i := 2) (N := some 15) (v := ?_) (a' := ?_) #[true,false,true,false,false,false,false,false,false] rfl rfl (take_ofW HT_.out HW_.out (by kernel_rfl)) (fun _ _ _ h => h) (Or.inl ⟨by rfl,?_⟩) hHeld ?_ ?_
  rotate_left
  · rintro w' ⟨s0,s1⟩
    go_simp
    with_reducible rfl
  rotate_left
  · simp only [Act.put,zA,zB,zC,i64_w,i32_w]
    rfl
  refine one_ (i := 1) (N := some 14) #[true,true,true,false,false,false,false,false,false] rfl rfl (one_of HT_.out (by kernel_rfl)) (by decide) (fun K hK => ?_)
  refine goes_ Try.func61 (by kernel_rfl) rfl #[.int .i64 a0] (by rfl) rfl rfl (by (try simp only [List.map_toArray,List.map_cons,List.map_nil]);first | done | rfl | (simp only [List.length_drop,List.length_take];rfl)) ?_
  with_reducible refine (verdererref03_big.calls k a0 t160 t161 _ A4.out).mono ?_
  rintro e w13 ⟨v162,rfl,ho0,hb⟩
  refine ⟨_,rfl,?_⟩
  have n0_ := Aside0.mk (Kd.R_elder' (by (with_reducible repeat (first | apply Kd.R_alloc | apply Kd.R_drewN | apply Kd.R_drew));exact HO158.out) (Kd.R_base ho0) hb)
  have n1_ := Aside0.mk (Kd.R_lower (Kd.R_new' ho0 (Kd.R_lt (by (with_reducible repeat (first | apply Kd.R_alloc | apply Kd.R_drewN | apply Kd.R_drew));exact HO158.out))) (below_size (by repeat (first | (with_reducible first | exact HB.out | apply below_alloc | apply pw_below_drewN | apply below_drew1 | refine below_set ?_ GE159.out) | exact HB.out))))
  have n2_ := Aside0.mk (blk_below (g := gb159) (o := .cells #[.bool (!t155),.slice Ao10 t156.length co10] 29 (0,0)) (by (with_reducible repeat (first | refine blk_drewN ?_ _ | refine blk_drew ?_ | refine blk_alloc ?_ _));exact BK159.out) hb)
  have n3_ := Aside0.mk (below_step (by repeat (first | (with_reducible first | exact HB.out | apply below_alloc | apply pw_below_drewN | apply below_drew1 | refine below_set ?_ GE159.out) | exact HB.out)) hb)
  clear HO158
  clear BK159
  clear HB
  have HO158 := n0_
  have HO163 := n1_
  have BK159 := n2_
  have HB := n3_
  clear n0_ n1_ n2_ n3_
  (try clear hb)
  (try clear hb2)
  (try clear hk)
  (try clear hi)
  (try clear ho0)
  obtain ⟨Ao14,co14,eo14⟩ := Kd.R_slice HO163.out
  (first | subst eo14 | (injection eo14 with f1_ f2_ f3_;have f4_ := f1_.symm;have f5_ := f3_.symm;clear f1_ f2_ f3_;subst f4_;subst f5_))
  refine hK.out _ _ ⟨(blk_cell BK159.out 0).trans rfl,(blk_cell BK159.out 1).trans rfl⟩ (fun hHeld => ?_)
  clear hK K
  refine norm_ (a' := ?_) ?_ ?_
  rotate_left
  · show Act.put _ (some 14) _ = _
    simp only [Act.put,zA,zB,zC,i64_w,i32_w]
    rfl
  refine one_ (i := 3) (N := some 16) #[true,true,true,true,false,false,false,false,false] rfl rfl (one_of HT_.out (by kernel_rfl)) (by decide) (fun K hK => ?_)
  refine goes_ Try.func16 (by kernel_rfl) rfl #[.agg #[.bool t160,.slice Ao14 t161.length co14],.agg #[.bool (!t155),.slice Ao10 t156.length co10]] (by rfl) rfl rfl (by (try simp only [List.map_toArray,List.map_cons,List.map_nil]);first | done | rfl | (simp only [List.length_drop,List.length_take];rfl)) ?_
  with_reducible refine (verdererref03_Plus.calls k t160 _ _ t161 (!t155) _ _ t156 t164 t165 _ ?side1 ?side2 ?side3 ?side4 A5.out).mono ?_
  (case side1 => repeat (first | exact (Kd.R_reads' HO163.out).2.2 | (with_reducible refine Kd.C_alloc ?_ _) | (with_reducible refine Kd.C_drewN ?_ _) | (with_reducible refine Kd.C_drew ?_)))
  (case side2 => exact (Kd.R_reads' HO163.out).2.1)
  (case side3 => repeat (first | exact (Kd.R_reads' HO158.out).2.2 | (with_reducible refine Kd.C_alloc ?_ _) | (with_reducible refine Kd.C_drewN ?_ _) | (with_reducible refine Kd.C_drew ?_)))
  (case side4 => exact (Kd.R_reads' HO158.out).2.1)
  rintro e w15 ⟨v166,rfl,ho0,hb⟩
  refine ⟨_,rfl,?_⟩
  have n0_ := Aside0.mk (Kd.R_elder' (by (with_reducible repeat (first | apply Kd.R_alloc | apply Kd.R_drewN | apply Kd.R_drew));exact HO158.out) (Kd.R_base ho0) hb)
  have n1_ := Aside0.mk (Kd.R_elder' (by (with_reducible repeat (first | apply Kd.R_alloc | apply Kd.R_drewN | apply Kd.R_drew));exact HO163.out) (Kd.R_base ho0) hb)
  have n2_ := Aside0.mk (Kd.R_lower (Kd.R_new' (Kd.R_new' ho0 (Kd.R_lt (by (with_reducible repeat (first | apply Kd.R_alloc | apply Kd.R_drewN | apply Kd.R_drew));exact HO158.out))) (Kd.R_lt (by (with_reducible repeat (first | apply Kd.R_alloc | apply Kd.R_drewN | apply Kd.R_drew));exact HO163.out))) (below_size (by repeat (first | (with_reducible first | exact HB.out | apply below_alloc | apply pw_below_drewN | apply below_drew1 | refine below_set ?_ GE159.out) | exact HB.out))))
  have n3_ := Aside0.mk (blk_below (g := gb159) (o := .cells #[.bool (!t155),.slice Ao10 t156.length co10] 29 (0,0)) (by (with_reducible repeat (first | refine blk_drewN ?_ _ | refine blk_drew ?_ | refine blk_alloc ?_ _));exact BK159.out) hb)
  have n4_ := Aside0.mk (below_step (by repeat (first | (with_reducible first | exact HB.out | apply below_alloc | apply pw_below_drewN | apply below_drew1 | refine below_set ?_ GE159.out) | exact HB.out)) hb)
  clear HO158
  clear HO163
  clear BK159
  clear HB
  have HO158 := n0_
  have HO163 := n1_
  have HO167 := n2_
  have BK159 := n3_
  have HB := n4_
  clear n0_ n1_ n2_ n3_ n4_
  (try clear hb)
  (try clear hb2)
  (try clear hk)
  (try clear hi)
  (try clear ho0)
  obtain ⟨Ao16,co16,eo16⟩ := Kd.R_slice HO167.out
  (first | subst eo16 | (injection eo16 with f1_ f2_ f3_;have f4_ := f1_.symm;have f5_ := f3_.symm;clear f1_ f2_ f3_;subst f4_;subst f5_))
  refine hK.out _ _ ⟨(blk_cell BK159.out 0).trans rfl,(blk_cell BK159.out 1).trans rfl⟩ (fun hHeld => ?_)
  clear hK K
  refine norm_ (a' := ?_) ?_ ?_
  rotate_left
  · show Act.put _ (some 16) _ = _
    simp only [Act.put,zA,zB,zC,i64_w,i32_w]
    rfl
  refine one_ (i := 4) (N := some 17) #[true,true,true,true,true,false,false,false,false] rfl rfl (one_of HT_.out (by kernel_rfl)) (by decide) (fun K hK => ?_)
  refine goes_ Try.func19 (by kernel_rfl) rfl #[.agg #[.bool t164,.slice Ao16 t165.length co16]] (by rfl) rfl rfl (by (try simp only [List.map_toArray,List.map_cons,List.map_nil]);first | done | rfl | (simp only [List.length_drop,List.length_take];rfl)) ?_
  with_reducible refine (verdererref03_Big_Value.calls k t164 _ _ t165 t168 t169 _ ?side1 ?side2 A6.out).mono ?_
  (case side1 => repeat (first | exact (Kd.R_reads' HO167.out).2.2 | (with_reducible refine Kd.C_alloc ?_ _) | (with_reducible refine Kd.C_drewN ?_ _) | (with_reducible refine Kd.C_drew ?_)))
  (case side2 => exact (Kd.R_reads' HO167.out).2.1)
  rintro e w17 ⟨rfl,hb⟩
  refine ⟨_,rfl,?_⟩
  have n0_ := Aside0.mk (Kd.R_below (by (with_reducible repeat (first | apply Kd.R_alloc | apply Kd.R_drewN | apply Kd.R_drew));exact HO158.out) hb)
  have n1_ := Aside0.mk (Kd.R_below (by (with_reducible repeat (first | apply Kd.R_alloc | apply Kd.R_drewN | apply Kd.R_drew));exact HO163.out) hb)
  have n2_ := Aside0.mk (Kd.R_below (by (with_reducible repeat (first | apply Kd.R_alloc | apply Kd.R_drewN | apply Kd.R_drew));exact HO167.out) hb)
  have n3_ := Aside0.mk (blk_below (g := gb159) (o := .cells #[.bool (!t155),.slice Ao10 t156.length co10] 29 (0,0)) (by (with_reducible repeat (first | refine blk_drewN ?_ _ | refine blk_drew ?_ | refine blk_alloc ?_ _));exact BK159.out) hb)
  have n4_ := Aside0.mk (below_step (by repeat (first | (with_reducible first | exact HB.out | apply below_alloc | apply pw_below_drewN | apply below_drew1 | refine below_set ?_ GE159.out) | exact HB.out)) hb)
  clear HO158
  clear HO163
  clear HO167
  clear BK159
  clear HB
  have HO158 := n0_
  have HO163 := n1_
  have HO167 := n2_
  have BK159 := n3_
  have HB := n4_
  clear n0_ n1_ n2_ n3_ n4_
  (try clear hb)
  (try clear hb2)
  (try clear hk)
  (try clear hi)
  refine hK.out _ _ ⟨(blk_cell BK159.out 0).trans rfl,(blk_cell BK159.out 1).trans rfl⟩ (fun hHeld => ?_)
  clear hK K
  refine norm_ (a' := ?_) ?_ ?_
  rotate_left
  · show Act.put _ (some 17) _ = _
    simp only [Act.put,zA,zB,zC,i64_w,i32_w]
    rfl
  refine pure_ (i := 5) (N := some 18) (v := ?_) (a' := ?_) #[true,true,true,true,true,true,false,false,false] rfl rfl (any_of HT_.out (by kernel_rfl)) (fun _ _ _ h => h) (Or.inl ⟨by rfl,?_⟩) ?_ ?_
  rotate_left
  · intro w'
    go_simp
    with_reducible rfl
  rotate_left
  · simp only [Act.put,zA,zB,zC,i64_w,i32_w]
    rfl
  refine pure_ (i := 6) (N := some 19) (v := ?_) (a' := ?_) #[true,true,true,true,true,true,true,false,false] rfl rfl (any_of HT_.out (by kernel_rfl)) (fun _ _ _ h => h) (Or.inl ⟨by rfl,?_⟩) ?_ ?_
  rotate_left
  · intro w'
    go_simp
    with_reducible rfl
  rotate_left
  · simp only [Act.put,zA,zB,zC,i64_w,i32_w]
    rfl
  refine pure_ (i := 7) (N := some 4) (v := ?_) (a' := ?_) #[true,true,true,true,true,true,true,true,false] rfl rfl (any_of HT_.out (by kernel_rfl)) (fun _ _ _ h => h) (Or.inl ⟨by rfl,?_⟩) ?_ ?_
  rotate_left
  · intro w'
    go_simp
    with_reducible rfl
  rotate_left
  · simp only [Act.put,zA,zB,zC,i64_w,i32_w]
    rfl
  refine pure_ (i := 8) (N := some 5) (v := ?_) (a' := ?_) #[true,true,true,true,true,true,true,true,true] rfl rfl (any_of HT_.out (by kernel_rfl)) (fun _ _ _ h => h) (Or.inl ⟨by rfl,?_⟩) ?_ ?_
  rotate_left
  · intro w'
    go_simp
    with_reducible rfl
  rotate_left
  · simp only [Act.put,zA,zB,zC,i64_w,i32_w]
    rfl
  refine done_ (done_of HT_.out (by kernel_rfl)) ?_
  try go_wp2
  go_ret2
  exact ⟨by first | rfl | (simp [errW_none,errW_some] <;> rfl) | (simp [*,errW_none,errW_some] <;> rfl),by repeat (first | (with_reducible first | exact HB.out | apply below_alloc | apply pw_below_drewN | apply below_drew1 | refine below_set ?_ GE159.out) | exact HB.out)⟩
end Go.Proofs.Ytcenlehfbgnphaa.Z
end
section
namespace Go.Proofs.Ytcenlehfbgnphaa.Z
open Go.RowKit Go.Proofs.YtcenlehfbgnphaaW.PrintWords Go.Proofs.YtcenlehfbgnphaaW.PrintLast Go.Proofs.YtcenlehfbgnphaaW.PrintMore
attribute [local go_sem] max2_int min2_int max_two min_two max_three min_three max_four min_four
set_option linter.unusedVariables false
set_option linter.unusedSimpArgs false
def bits_Mul64.f (a0 : Int) (a1 : Int) : Option (Int × Int) := some (IntKind.u64.wrap ((IntKind.u64.wrap ((IntKind.u64.wrap ((a0 / 4294967296) * (a1 / 4294967296))) + ((IntKind.u64.wrap ((IntKind.u64.wrap ((a0 / 4294967296) * (Go.bits .and .u64 a1 4294967295))) + ((IntKind.u64.wrap ((Go.bits .and .u64 a0 4294967295) * (Go.bits .and .u64 a1 4294967295))) / 4294967296))) / 4294967296))) + ((IntKind.u64.wrap ((Go.bits .and .u64 (IntKind.u64.wrap ((IntKind.u64.wrap ((a0 / 4294967296) * (Go.bits .and .u64 a1 4294967295))) + ((IntKind.u64.wrap ((Go.bits .and .u64 a0 4294967295) * (Go.bits .and .u64 a1 4294967295))) / 4294967296))) 4294967295) + (IntKind.u64.wrap ((Go.bits .and .u64 a0 4294967295) * (a1 / 4294967296))))) / 4294967296)),IntKind.u64.wrap (a0 * a1))
set_option maxHeartbeats 8000000 in
set_option maxRecDepth 100000 in
theorem bits_Mul64.calls (a0 : Int) (a1 : Int) (r1 : Int) (r2 : Int) (w : World) (h : bits_Mul64.f a0 a1 = some (r1,r2)) :
    Calls Try.prog 63 #[.int .u64 a0,.int .u64 a1] w fun e w' => e = .returned (.tuple #[.int .u64 r1,.int .u64 r2]) ∧ Drawn0 w w' := by
  have H : (some (IntKind.u64.wrap ((IntKind.u64.wrap ((IntKind.u64.wrap ((a0 / 4294967296) * (a1 / 4294967296))) + ((IntKind.u64.wrap ((IntKind.u64.wrap ((a0 / 4294967296) * (Go.bits .and .u64 a1 4294967295))) + ((IntKind.u64.wrap ((Go.bits .and .u64 a0 4294967295) * (Go.bits .and .u64 a1 4294967295))) / 4294967296))) / 4294967296))) + ((IntKind.u64.wrap ((Go.bits .and .u64 (IntKind.u64.wrap ((IntKind.u64.wrap ((a0 / 4294967296) * (Go.bits .and .u64 a1 4294967295))) + ((IntKind.u64.wrap ((Go.bits .and .u64 a0 4294967295) * (Go.bits .and .u64 a1 4294967295))) / 4294967296))) 4294967295) + (IntKind.u64.wrap ((Go.bits .and .u64 a0 4294967295) * (a1 / 4294967296))))) / 4294967296)),IntKind.u64.wrap (a0 * a1))) = some (r1,r2) := h
  clear h
  simp only [Option.some.injEq,Prod.mk.injEq] at H
  obtain ⟨rfl,rfl⟩ := H
  go_enter Try.func63,Try.ntmps63
  go_wp2
  go_ret2
  exact ⟨by first | rfl | (simp;done) | (simp [*];done),by repeat (first | exact Drawn0.refl _ | apply Drawn0.step)⟩
end Go.Proofs.Ytcenlehfbgnphaa.Z
end
section
namespace Go.Proofs.Ytcenlehfbgnphaa.Z
open Go.RowKit Go.Proofs.YtcenlehfbgnphaaW.PrintWords Go.Proofs.YtcenlehfbgnphaaW.PrintLast Go.Proofs.YtcenlehfbgnphaaW.PrintMore
attribute [local go_sem] max2_int min2_int max_two min_two max_three min_three max_four min_four
set_option linter.unusedVariables false
set_option linter.unusedSimpArgs false
def safe_size.f (a0 : Int) : Option (Int) := if a0 < 0 then (some (IntKind.u64.wrap (-(IntKind.u64.wrap (a0))))) else (some (IntKind.u64.wrap (a0)))
set_option maxHeartbeats 8000000 in
set_option maxRecDepth 100000 in
theorem safe_size.calls (a0 : Int) (r : Int) (w : World) (h : safe_size.f a0 = some r) :
    Calls Try.prog 64 #[.int .i64 a0] w fun e w' => e = .returned (.int .u64 r) ∧ Drawn0 w w' := by
  have H : (if a0 < 0 then (some (IntKind.u64.wrap (-(IntKind.u64.wrap (a0))))) else (some (IntKind.u64.wrap (a0)))) = some r := h
  clear h
  by_cases c2 : a0 < 0
  · rw [if_pos c2] at H
    have c2b0 : decide (a0 < 0) = true := decide_eq_true c2
    clear c2
    obtain rfl := Option.some.inj H
    go_enter Try.func64,Try.ntmps64
    go_wp2
    go_ret
    exact ⟨by first | rfl | (simp;done) | (simp [*];done),by repeat (first | exact Drawn0.refl _ | apply Drawn0.step)⟩
  · rw [if_neg c2] at H
    have c2b0 : decide (a0 < 0) = false := decide_eq_false c2
    clear c2
    obtain rfl := Option.some.inj H
    go_enter Try.func64,Try.ntmps64
    go_wp2
    go_ret
    exact ⟨by first | rfl | (simp;done) | (simp [*];done),by repeat (first | exact Drawn0.refl _ | apply Drawn0.step)⟩
end Go.Proofs.Ytcenlehfbgnphaa.Z
end
section
namespace Go.Proofs.Ytcenlehfbgnphaa.Z
open Go.RowKit Go.Proofs.YtcenlehfbgnphaaW.PrintWords Go.Proofs.YtcenlehfbgnphaaW.PrintLast Go.Proofs.YtcenlehfbgnphaaW.PrintMore
attribute [local go_sem] max2_int min2_int max_two min_two max_three min_three max_four min_four
set_option linter.unusedVariables false
set_option linter.unusedSimpArgs false
def safe_Mul.f (a0 : Int) (a1 : Int) : Option (Int × Int) := (safe_size.f a0).bind fun t170 => ((safe_size.f a1).bind fun t171 => ((bits_Mul64.f t170 t171).bind fun bt172 => (if ((decide (a0 < 0)) != (decide (a1 < 0))) = true then (if bt172.1 = 0 then ((safe_fits.f (wrap64 (IntKind.u64.wrap (-bt172.2))) (decide (bt172.2 ≤ 9223372036854775808))).bind fun bt174 => (some (bt174.1,bt174.2))) else ((safe_fits.f (wrap64 (IntKind.u64.wrap (-bt172.2))) false).bind fun bt176 => (some (bt176.1,bt176.2)))) else (if bt172.1 = 0 then ((safe_fits.f (wrap64 (bt172.2)) (decide (bt172.2 < 9223372036854775808))).bind fun bt178 => (some (bt178.1,bt178.2))) else ((safe_fits.f (wrap64 (bt172.2)) false).bind fun bt180 => (some (bt180.1,bt180.2)))))))
set_option maxHeartbeats 8000000 in
set_option maxRecDepth 100000 in
theorem safe_Mul.calls (a0 : Int) (a1 : Int) (r1 : Int) (r2 : Int) (w : World) (h : safe_Mul.f a0 a1 = some (r1,r2)) :
    Calls Try.prog 27 #[.int .i64 a0,.int .i64 a1] w fun e w' => e = .returned (.tuple #[.int .i64 r1,.int .i64 r2]) ∧ Drawn0 w w' := by
  have H : ((safe_size.f a0).bind fun t170 => ((safe_size.f a1).bind fun t171 => ((bits_Mul64.f t170 t171).bind fun bt172 => (if ((decide (a0 < 0)) != (decide (a1 < 0))) = true then (if bt172.1 = 0 then ((safe_fits.f (wrap64 (IntKind.u64.wrap (-bt172.2))) (decide (bt172.2 ≤ 9223372036854775808))).bind fun bt174 => (some (bt174.1,bt174.2))) else ((safe_fits.f (wrap64 (IntKind.u64.wrap (-bt172.2))) false).bind fun bt176 => (some (bt176.1,bt176.2)))) else (if bt172.1 = 0 then ((safe_fits.f (wrap64 (bt172.2)) (decide (bt172.2 < 9223372036854775808))).bind fun bt178 => (some (bt178.1,bt178.2))) else ((safe_fits.f (wrap64 (bt172.2)) false).bind fun bt180 => (some (bt180.1,bt180.2)))))))) = some (r1,r2) := h
  clear h
  replace H := Option.bind_eq_some_iff.mp H
  obtain ⟨t170,A30,H⟩ := H
  replace H : ((safe_size.f a1).bind fun t171 => ((bits_Mul64.f t170 t171).bind fun bt172 => (if ((decide (a0 < 0)) != (decide (a1 < 0))) = true then (if bt172.1 = 0 then ((safe_fits.f (wrap64 (IntKind.u64.wrap (-bt172.2))) (decide (bt172.2 ≤ 9223372036854775808))).bind fun bt174 => (some (bt174.1,bt174.2))) else ((safe_fits.f (wrap64 (IntKind.u64.wrap (-bt172.2))) false).bind fun bt176 => (some (bt176.1,bt176.2)))) else (if bt172.1 = 0 then ((safe_fits.f (wrap64 (bt172.2)) (decide (bt172.2 < 9223372036854775808))).bind fun bt178 => (some (bt178.1,bt178.2))) else ((safe_fits.f (wrap64 (bt172.2)) false).bind fun bt180 => (some (bt180.1,bt180.2))))))) = some (r1,r2) := H
  have A3 := Aside0.mk A30
  clear A30
  replace H := Option.bind_eq_some_iff.mp H
  obtain ⟨t171,A40,H⟩ := H
  replace H : ((bits_Mul64.f t170 t171).bind fun bt172 => (if ((decide (a0 < 0)) != (decide (a1 < 0))) = true then (if bt172.1 = 0 then ((safe_fits.f (wrap64 (IntKind.u64.wrap (-bt172.2))) (decide (bt172.2 ≤ 9223372036854775808))).bind fun bt174 => (some (bt174.1,bt174.2))) else ((safe_fits.f (wrap64 (IntKind.u64.wrap (-bt172.2))) false).bind fun bt176 => (some (bt176.1,bt176.2)))) else (if bt172.1 = 0 then ((safe_fits.f (wrap64 (bt172.2)) (decide (bt172.2 < 9223372036854775808))).bind fun bt178 => (some (bt178.1,bt178.2))) else ((safe_fits.f (wrap64 (bt172.2)) false).bind fun bt180 => (some (bt180.1,bt180.2)))))) = some (r1,r2) := H
  have A4 := Aside0.mk A40
  clear A40
  replace H := Option.bind_eq_some_iff.mp H
  obtain ⟨⟨t172,t173⟩,A50,H⟩ := H
  replace H : (if ((decide (a0 < 0)) != (decide (a1 < 0))) = true then (if t172 = 0 then ((safe_fits.f (wrap64 (IntKind.u64.wrap (-t173))) (decide (t173 ≤ 9223372036854775808))).bind fun bt174 => (some (bt174.1,bt174.2))) else ((safe_fits.f (wrap64 (IntKind.u64.wrap (-t173))) false).bind fun bt176 => (some (bt176.1,bt176.2)))) else (if t172 = 0 then ((safe_fits.f (wrap64 (t173)) (decide (t173 < 9223372036854775808))).bind fun bt178 => (some (bt178.1,bt178.2))) else ((safe_fits.f (wrap64 (t173)) false).bind fun bt180 => (some (bt180.1,bt180.2))))) = some (r1,r2) := H
  have A5 := Aside0.mk A50
  clear A50
  by_cases c6 : ((decide (a0 < 0)) != (decide (a1 < 0))) = true
  · rw [if_pos c6] at H
    have c6b0 : ((decide (a0 < 0)) != (decide (a1 < 0))) = true := c6
    (try (have c6b1 : decide ((decide (a0 < 0)) = (decide (a1 < 0))) = false := by simpa using c6))
    (try (have c6b2 : ((decide (a0 < 0)) == (decide (a1 < 0))) = false := by simpa using c6))
    (try (have c6b3 : ¬ ((decide (a0 < 0)) = (decide (a1 < 0))) := by simpa using c6))
    clear c6
    by_cases c7 : t172 = 0
    · rw [if_pos c7] at H
      have c7b0 : (t172 == 0) = true := beq_iff_eq.mpr c7
      have c7b1 : (t172 != 0) = false := bne_eq_false_iff_eq.mpr c7
      clear c7
      replace H := Option.bind_eq_some_iff.mp H
      obtain ⟨⟨t174,t175⟩,A80,H⟩ := H
      replace H : (some (t174,t175)) = some (r1,r2) := H
      have A8 := Aside0.mk A80
      clear A80
      simp only [Option.some.injEq,Prod.mk.injEq] at H
      obtain ⟨rfl,rfl⟩ := H
      go_enter Try.func27,Try.ntmps27
      go_wp2_with (first | ((with_reducible refine gate_callee (f := 64) rfl ?_);refine goesL_ (some 10) rfl rfl Try.func64 (by kernel_rfl) rfl #[.int .i64 a0] rfl (by (try simp only [List.map_toArray,List.map_cons,List.map_nil]);first | done | rfl | (simp only [List.length_drop,List.length_take];rfl)) ?_;(with_reducible refine (safe_size.calls a0 t170 _ A3.out).mono ?_);rintro e w' ⟨rfl,⟨nd,rfl⟩⟩;refine ⟨_,rfl,?_⟩) | ((with_reducible refine gate_callee (f := 64) rfl ?_);refine goesL_ (some 12) rfl rfl Try.func64 (by kernel_rfl) rfl #[.int .i64 a1] rfl (by (try simp only [List.map_toArray,List.map_cons,List.map_nil]);first | done | rfl | (simp only [List.length_drop,List.length_take];rfl)) ?_;(with_reducible refine (safe_size.calls a1 t171 _ A4.out).mono ?_);rintro e w' ⟨rfl,⟨nd,rfl⟩⟩;refine ⟨_,rfl,?_⟩) | ((with_reducible refine gate_callee (f := 63) rfl ?_);refine goesL_ (some 13) rfl rfl Try.func63 (by kernel_rfl) rfl #[.int .u64 t170,.int .u64 t171] rfl (by (try simp only [List.map_toArray,List.map_cons,List.map_nil]);first | done | rfl | (simp only [List.length_drop,List.length_take];rfl)) ?_;(with_reducible refine (bits_Mul64.calls t170 t171 t172 t173 _ A5.out).mono ?_);rintro e w' ⟨rfl,⟨nd,rfl⟩⟩;refine ⟨_,rfl,?_⟩) | ((with_reducible refine gate_callee (f := 62) rfl ?_);refine goesL_ (some 30) rfl rfl Try.func62 (by kernel_rfl) rfl #[.int .i64 (wrap64 (IntKind.u64.wrap (-t173))),.bool (decide (t173 ≤ 9223372036854775808))] rfl (by (try simp only [List.map_toArray,List.map_cons,List.map_nil]);first | done | rfl | (simp only [List.length_drop,List.length_take];rfl)) ?_;(with_reducible refine (safe_fits.calls (wrap64 (IntKind.u64.wrap (-t173))) (decide (t173 ≤ 9223372036854775808)) t174 t175 _ A8.out).mono ?_);rintro e w' ⟨rfl,⟨nd,rfl⟩⟩;refine ⟨_,rfl,?_⟩))
      go_ret2
      exact ⟨by first | rfl | (simp;done) | (simp [*];done),by repeat (first | exact Drawn0.refl _ | apply Drawn0.step)⟩
    · rw [if_neg c7] at H
      have c7b0 : (t172 == 0) = false := beq_eq_false_iff_ne.mpr c7
      have c7b1 : (t172 != 0) = true := bne_iff_ne.mpr c7
      replace H := Option.bind_eq_some_iff.mp H
      obtain ⟨⟨t176,t177⟩,A90,H⟩ := H
      replace H : (some (t176,t177)) = some (r1,r2) := H
      have A9 := Aside0.mk A90
      clear A90
      simp only [Option.some.injEq,Prod.mk.injEq] at H
      obtain ⟨rfl,rfl⟩ := H
      go_enter Try.func27,Try.ntmps27
      go_wp2_with (first | ((with_reducible refine gate_callee (f := 64) rfl ?_);refine goesL_ (some 10) rfl rfl Try.func64 (by kernel_rfl) rfl #[.int .i64 a0] rfl (by (try simp only [List.map_toArray,List.map_cons,List.map_nil]);first | done | rfl | (simp only [List.length_drop,List.length_take];rfl)) ?_;(with_reducible refine (safe_size.calls a0 t170 _ A3.out).mono ?_);rintro e w' ⟨rfl,⟨nd,rfl⟩⟩;refine ⟨_,rfl,?_⟩) | ((with_reducible refine gate_callee (f := 64) rfl ?_);refine goesL_ (some 12) rfl rfl Try.func64 (by kernel_rfl) rfl #[.int .i64 a1] rfl (by (try simp only [List.map_toArray,List.map_cons,List.map_nil]);first | done | rfl | (simp only [List.length_drop,List.length_take];rfl)) ?_;(with_reducible refine (safe_size.calls a1 t171 _ A4.out).mono ?_);rintro e w' ⟨rfl,⟨nd,rfl⟩⟩;refine ⟨_,rfl,?_⟩) | ((with_reducible refine gate_callee (f := 63) rfl ?_);refine goesL_ (some 13) rfl rfl Try.func63 (by kernel_rfl) rfl #[.int .u64 t170,.int .u64 t171] rfl (by (try simp only [List.map_toArray,List.map_cons,List.map_nil]);first | done | rfl | (simp only [List.length_drop,List.length_take];rfl)) ?_;(with_reducible refine (bits_Mul64.calls t170 t171 t172 t173 _ A5.out).mono ?_);rintro e w' ⟨rfl,⟨nd,rfl⟩⟩;refine ⟨_,rfl,?_⟩) | ((with_reducible refine gate_callee (f := 62) rfl ?_);refine goesL_ (some 30) rfl rfl Try.func62 (by kernel_rfl) rfl #[.int .i64 (wrap64 (IntKind.u64.wrap (-t173))),.bool false] rfl (by (try simp only [List.map_toArray,List.map_cons,List.map_nil]);first | done | rfl | (simp only [List.length_drop,List.length_take];rfl)) ?_;(with_reducible refine (safe_fits.calls (wrap64 (IntKind.u64.wrap (-t173))) false t176 t177 _ A9.out).mono ?_);rintro e w' ⟨rfl,⟨nd,rfl⟩⟩;refine ⟨_,rfl,?_⟩))
      go_ret2
      exact ⟨by first | rfl | (simp;done) | (simp [*];done),by repeat (first | exact Drawn0.refl _ | apply Drawn0.step)⟩
  · rw [if_neg c6] at H
    have c6b0 : ((decide (a0 < 0)) != (decide (a1 < 0))) = false := by simpa using c6
    (try (have c6b1 : decide ((decide (a0 < 0)) = (decide (a1 < 0))) = true := by simpa using c6))
    (try (have c6b2 : ((decide (a0 < 0)) == (decide (a1 < 0))) = true := by simpa using c6))
    clear c6
    by_cases c10 : t172 = 0
    · rw [if_pos c10] at H
      have c10b0 : (t172 == 0) = true := beq_iff_eq.mpr c10
      have c10b1 : (t172 != 0) = false := bne_eq_false_iff_eq.mpr c10
      clear c10
      replace H := Option.bind_eq_some_iff.mp H
      obtain ⟨⟨t178,t179⟩,A110,H⟩ := H
      replace H : (some (t178,t179)) = some (r1,r2) := H
      have A11 := Aside0.mk A110
      clear A110
      simp only [Option.some.injEq,Prod.mk.injEq] at H
      obtain ⟨rfl,rfl⟩ := H
      go_enter Try.func27,Try.ntmps27
      go_wp2_with (first | ((with_reducible refine gate_callee (f := 64) rfl ?_);refine goesL_ (some 10) rfl rfl Try.func64 (by kernel_rfl) rfl #[.int .i64 a0] rfl (by (try simp only [List.map_toArray,List.map_cons,List.map_nil]);first | done | rfl | (simp only [List.length_drop,List.length_take];rfl)) ?_;(with_reducible refine (safe_size.calls a0 t170 _ A3.out).mono ?_);rintro e w' ⟨rfl,⟨nd,rfl⟩⟩;refine ⟨_,rfl,?_⟩) | ((with_reducible refine gate_callee (f := 64) rfl ?_);refine goesL_ (some 12) rfl rfl Try.func64 (by kernel_rfl) rfl #[.int .i64 a1] rfl (by (try simp only [List.map_toArray,List.map_cons,List.map_nil]);first | done | rfl | (simp only [List.length_drop,List.length_take];rfl)) ?_;(with_reducible refine (safe_size.calls a1 t171 _ A4.out).mono ?_);rintro e w' ⟨rfl,⟨nd,rfl⟩⟩;refine ⟨_,rfl,?_⟩) | ((with_reducible refine gate_callee (f := 63) rfl ?_);refine goesL_ (some 13) rfl rfl Try.func63 (by kernel_rfl) rfl #[.int .u64 t170,.int .u64 t171] rfl (by (try simp only [List.map_toArray,List.map_cons,List.map_nil]);first | done | rfl | (simp only [List.length_drop,List.length_take];rfl)) ?_;(with_reducible refine (bits_Mul64.calls t170 t171 t172 t173 _ A5.out).mono ?_);rintro e w' ⟨rfl,⟨nd,rfl⟩⟩;refine ⟨_,rfl,?_⟩) | ((with_reducible refine gate_callee (f := 62) rfl ?_);refine goesL_ (some 41) rfl rfl Try.func62 (by kernel_rfl) rfl #[.int .i64 (wrap64 (t173)),.bool (decide (t173 < 9223372036854775808))] rfl (by (try simp only [List.map_toArray,List.map_cons,List.map_nil]);first | done | rfl | (simp only [List.length_drop,List.length_take];rfl)) ?_;(with_reducible refine (safe_fits.calls (wrap64 (t173)) (decide (t173 < 9223372036854775808)) t178 t179 _ A11.out).mono ?_);rintro e w' ⟨rfl,⟨nd,rfl⟩⟩;refine ⟨_,rfl,?_⟩))
      go_ret2
      exact ⟨by first | rfl | (simp;done) | (simp [*];done),by repeat (first | exact Drawn0.refl _ | apply Drawn0.step)⟩
    · rw [if_neg c10] at H
      have c10b0 : (t172 == 0) = false := beq_eq_false_iff_ne.mpr c10
      have c10b1 : (t172 != 0) = true := bne_iff_ne.mpr c10
      replace H := Option.bind_eq_some_iff.mp H
      obtain ⟨⟨t180,t181⟩,A120,H⟩ := H
      replace H : (some (t180,t181)) = some (r1,r2) := H
      have A12 := Aside0.mk A120
      clear A120
      simp only [Option.some.injEq,Prod.mk.injEq] at H
      obtain ⟨rfl,rfl⟩ := H
      go_enter Try.func27,Try.ntmps27
      go_wp2_with (first | ((with_reducible refine gate_callee (f := 64) rfl ?_);refine goesL_ (some 10) rfl rfl Try.func64 (by kernel_rfl) rfl #[.int .i64 a0] rfl (by (try simp only [List.map_toArray,List.map_cons,List.map_nil]);first | done | rfl | (simp only [List.length_drop,List.length_take];rfl)) ?_;(with_reducible refine (safe_size.calls a0 t170 _ A3.out).mono ?_);rintro e w' ⟨rfl,⟨nd,rfl⟩⟩;refine ⟨_,rfl,?_⟩) | ((with_reducible refine gate_callee (f := 64) rfl ?_);refine goesL_ (some 12) rfl rfl Try.func64 (by kernel_rfl) rfl #[.int .i64 a1] rfl (by (try simp only [List.map_toArray,List.map_cons,List.map_nil]);first | done | rfl | (simp only [List.length_drop,List.length_take];rfl)) ?_;(with_reducible refine (safe_size.calls a1 t171 _ A4.out).mono ?_);rintro e w' ⟨rfl,⟨nd,rfl⟩⟩;refine ⟨_,rfl,?_⟩) | ((with_reducible refine gate_callee (f := 63) rfl ?_);refine goesL_ (some 13) rfl rfl Try.func63 (by kernel_rfl) rfl #[.int .u64 t170,.int .u64 t171] rfl (by (try simp only [List.map_toArray,List.map_cons,List.map_nil]);first | done | rfl | (simp only [List.length_drop,List.length_take];rfl)) ?_;(with_reducible refine (bits_Mul64.calls t170 t171 t172 t173 _ A5.out).mono ?_);rintro e w' ⟨rfl,⟨nd,rfl⟩⟩;refine ⟨_,rfl,?_⟩) | ((with_reducible refine gate_callee (f := 62) rfl ?_);refine goesL_ (some 41) rfl rfl Try.func62 (by kernel_rfl) rfl #[.int .i64 (wrap64 (t173)),.bool false] rfl (by (try simp only [List.map_toArray,List.map_cons,List.map_nil]);first | done | rfl | (simp only [List.length_drop,List.length_take];rfl)) ?_;(with_reducible refine (safe_fits.calls (wrap64 (t173)) false t180 t181 _ A12.out).mono ?_);rintro e w' ⟨rfl,⟨nd,rfl⟩⟩;refine ⟨_,rfl,?_⟩))
      go_ret2
      exact ⟨by first | rfl | (simp;done) | (simp [*];done),by repeat (first | exact Drawn0.refl _ | apply Drawn0.step)⟩
end Go.Proofs.Ytcenlehfbgnphaa.Z
end
