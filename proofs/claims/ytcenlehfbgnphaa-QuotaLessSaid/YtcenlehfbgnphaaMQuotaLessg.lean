/- Parts of the proof of QuotaLess: what its functions answer. -/
import Derived.Test.YtcenlehfbgnphaaMQuotaLessa
import Derived.Test.YtcenlehfbgnphaaMQuotaLessb
import Derived.Test.YtcenlehfbgnphaaMQuotaLessc
import Derived.Test.YtcenlehfbgnphaaMQuotaLessd
import Derived.Test.YtcenlehfbgnphaaMQuotaLesse
import Derived.Test.YtcenlehfbgnphaaMQuotaLessf
section
namespace Go.Proofs.Ytcenlehfbgnphaa.Z
open Go.RowKit Go.Proofs.YtcenlehfbgnphaaW.PrintWords Go.Proofs.YtcenlehfbgnphaaW.PrintLast Go.Proofs.YtcenlehfbgnphaaW.PrintMore
attribute [local go_sem] max2_int min2_int max_two min_two max_three min_three max_four min_four
set_option linter.unusedVariables false
set_option linter.unusedSimpArgs false
mutual
def verdererref03_Times.l0 : Nat → Int → Bool → List Int → Bool → List Int → Bool → List Int → Option (Bool × List Int)
 | 0,_,_,_,_,_,_,_ => none
 | k + 1,x8,x188000,x188001,x193000,x193001,x197000,x197001 => if x8 < 4 then (verdererref03_Times.l1 k x8 0 0 x188000 x188001 x193000 x193001 x197000 x197001) else (some (x197000,x197001))
def verdererref03_Times.l1 : Nat → Int → Int → Int → Bool → List Int → Bool → List Int → Bool → List Int → Option (Bool × List Int)
 | 0,_,_,_,_,_,_,_,_,_ => none
 | k + 1,x8,x9,x10,x188000,x188001,x193000,x193001,x197000,x197001 => if x10 < 12 then (if 0 ≤ (wrap64 (x8 + x10)) then (if (wrap64 (x8 + x10)) < (x197001.length : Int) then ((verdererref03_Big_at.f x188000 x188001 x8).bind fun t198 => ((verdererref03_Big_at.f x193000 x193001 x10).bind fun t199 => (verdererref03_Times.l1 k x8 (IntKind.u64.wrap (Int.tdiv (IntKind.u64.wrap ((IntKind.u64.wrap ((rd x197001 (wrap64 (x8 + x10))) + (IntKind.u64.wrap (t198 * t199)))) + x9)) 65536)) (wrap64 (x10 + 1)) x188000 x188001 x193000 x193001 x197000 (x197001.set ((wrap64 (x8 + x10)) : Int).toNat (Int.tmod (IntKind.u64.wrap ((IntKind.u64.wrap ((rd x197001 (wrap64 (x8 + x10))) + (IntKind.u64.wrap (t198 * t199)))) + x9)) 65536))))) else (none)) else (none)) else (verdererref03_Times.l0 k (wrap64 (x8 + 1)) x188000 x188001 x193000 x193001 x197000 x197001)
end
def verdererref03_Times.f (k : Nat) (a0 : Int) (a1 : Int) : Option (Bool × List Int) := (verdererref03_big.f k a0).bind fun bt183 => ((verdererref03_big.f k a1).bind fun bt188 => (if 20 ≤ 35184372088832 then (verdererref03_Times.l0 k 0 bt183.1 bt183.2 bt188.1 bt188.2 (bt183.1 != bt188.1) (List.replicate 20 0)) else (none)))
theorem verdererref03_Times.mono_l : ∀ k,(∀ y0 y1 y2 y3 y4 y5 y6,LeO (verdererref03_Times.l0 k y0 y1 y2 y3 y4 y5 y6) (verdererref03_Times.l0 (k + 1) y0 y1 y2 y3 y4 y5 y6)) ∧ (∀ y0 y1 y2 y3 y4 y5 y6 y7 y8,LeO (verdererref03_Times.l1 k y0 y1 y2 y3 y4 y5 y6 y7 y8) (verdererref03_Times.l1 (k + 1) y0 y1 y2 y3 y4 y5 y6 y7 y8))
 | 0 => ⟨fun _ _ _ _ _ _ _ r h => by simp [verdererref03_Times.l0] at h,fun _ _ _ _ _ _ _ _ _ r h => by simp [verdererref03_Times.l1] at h⟩
 | k + 1 => by
  obtain ⟨ih0,ih1⟩ := verdererref03_Times.mono_l k
  refine ⟨?_,?_⟩
  ·intro y0 y1 y2 y3 y4 y5 y6
   unfold verdererref03_Times.l0
   repeat' first
   | (with_reducible exact ih0 _ _ _ _ _ _ _)
   | (with_reducible exact ih1 _ _ _ _ _ _ _ _ _)
   | (with_reducible exact verdererref03_big.mono _ _)
   | (with_reducible exact LeO.refl _)
   | (with_reducible exact LeO.none _)
   | (with_reducible refine LeO.ite ?_ ?_)
   | (with_reducible refine LeO.bind ?_ (fun _ => ?_))
   | exact ih0 _ _ _ _ _ _ _
   | exact ih1 _ _ _ _ _ _ _ _ _
   | exact verdererref03_big.mono _ _
   | exact LeO.none _
   | refine LeO.ite ?_ ?_
   | refine LeO.bind ?_ (fun _ => ?_)
  ·intro y0 y1 y2 y3 y4 y5 y6 y7 y8
   unfold verdererref03_Times.l1
   repeat' first
   | (with_reducible exact ih0 _ _ _ _ _ _ _)
   | (with_reducible exact ih1 _ _ _ _ _ _ _ _ _)
   | (with_reducible exact verdererref03_big.mono _ _)
   | (with_reducible exact LeO.refl _)
   | (with_reducible exact LeO.none _)
   | (with_reducible refine LeO.ite ?_ ?_)
   | (with_reducible refine LeO.bind ?_ (fun _ => ?_))
   | exact ih0 _ _ _ _ _ _ _
   | exact ih1 _ _ _ _ _ _ _ _ _
   | exact verdererref03_big.mono _ _
   | exact LeO.none _
   | refine LeO.ite ?_ ?_
   | refine LeO.bind ?_ (fun _ => ?_)
theorem verdererref03_Times.mono : ∀ a0 a1 k,LeO (verdererref03_Times.f k a0 a1) (verdererref03_Times.f (k + 1) a0 a1) := by
 intro a0 a1 k
 obtain ⟨ih0,ih1⟩ := verdererref03_Times.mono_l k
 unfold verdererref03_Times.f
 repeat' first
   | (with_reducible exact ih0 _ _ _ _ _ _ _)
   | (with_reducible exact ih1 _ _ _ _ _ _ _ _ _)
   | (with_reducible exact verdererref03_big.mono _ _)
   | (with_reducible exact LeO.refl _)
   | (with_reducible exact LeO.none _)
   | (with_reducible refine LeO.ite ?_ ?_)
   | (with_reducible refine LeO.bind ?_ (fun _ => ?_))
   | exact ih0 _ _ _ _ _ _ _
   | exact ih1 _ _ _ _ _ _ _ _ _
   | exact verdererref03_big.mono _ _
   | exact LeO.none _
   | refine LeO.ite ?_ ?_
   | refine LeO.bind ?_ (fun _ => ?_)
def verdererref03_Times.T3 : Bool × List (List Nat × List Nat) := (true,[([],[]),([0],[0]),([],[]),([2],[2]),([1,3],[1,3]),([],[]),([4,5],[4,5]),([],[]),([7,6,0,1,2,3,4,5,6,7],[6,7])])
def verdererref03_Times.B3 : List Nat := [0,1,0,4,15,0,63,0,255]
theorem verdererref03_Times.tab3 : rtab .any (opsOf Try.f17 3) = verdererref03_Times.T3 := by kernel_rfl
theorem verdererref03_Times.bits3 : waitsOk verdererref03_Times.T3.2 verdererref03_Times.B3 = true := by kernel_rfl
def verdererref03_Times.T11 : Bool × List (List Nat × List Nat) := (true,[([],[]),([0],[0]),([],[]),([],[]),([2,3],[2,3]),([1,4],[1,4]),([5],[5]),([],[]),([],[]),([7,8],[7,8]),([],[]),([],[]),([10,11,9],[10,11]),([9,12],[9,12]),([6,13],[6,13]),([],[]),([14,15],[14,15]),([16,12,0,1,2,3,4,5,6,7,8,9,10,11,12,13,14,15,16],[16])])
def verdererref03_Times.B11 : List Nat := [0,1,0,0,12,31,63,0,0,384,0,0,3968,8064,16383,0,65535,131071]
theorem verdererref03_Times.tab11 : rtab .any (opsOf Try.f17 11) = verdererref03_Times.T11 := by kernel_rfl
theorem verdererref03_Times.bits11 : waitsOk verdererref03_Times.T11.2 verdererref03_Times.B11 = true := by kernel_rfl
set_option maxHeartbeats 8000000 in
set_option maxRecDepth 100000 in
theorem verdererref03_Times.calls (k : Nat) (a0 : Int) (a1 : Int) (r1 : Bool) (r2 : List Int) (w : World) (h : verdererref03_Times.f k a0 a1 = some (r1,r2)) :
  Calls Try.prog 17 #[.int .i64 a0,.int .i64 a1] w fun e w' => ∃ v1_ : Value,e = .returned (.agg #[.bool r1,v1_]) ∧ Kd.R (Kd.int .u64) 96 w' w.heap.size (fun _ => True) v1_ r2 ∧ Below w.heap.size w w' := by
 have hu29 := Try.underlying29
 have HB := Aside0.mk (Below.refl w.heap.size w)
 have H : ((verdererref03_big.f k a0).bind fun bt183 => ((verdererref03_big.f k a1).bind fun bt188 => (if 20 ≤ 35184372088832 then (verdererref03_Times.l0 k 0 bt183.1 bt183.2 bt188.1 bt188.2 (bt183.1 != bt188.1) (List.replicate 20 0)) else (none)))) = some (r1,r2) := h
 clear h
 replace H := Option.bind_eq_some_iff.mp H
 obtain ⟨⟨t183,t184⟩,A30,H⟩ := H
 replace H : ((verdererref03_big.f k a1).bind fun bt188 => (if 20 ≤ 35184372088832 then (verdererref03_Times.l0 k 0 t183 t184 bt188.1 bt188.2 (t183 != bt188.1) (List.replicate 20 0)) else (none))) = some (r1,r2) := H
 have A3 := Aside0.mk A30
 clear A30
 replace H := Option.bind_eq_some_iff.mp H
 obtain ⟨⟨t188,t189⟩,A40,H⟩ := H
 replace H : (if 20 ≤ 35184372088832 then (verdererref03_Times.l0 k 0 t183 t184 t188 t189 (t183 != t188) (List.replicate 20 0)) else (none)) = some (r1,r2) := H
 have A4 := Aside0.mk A40
 clear A40
 by_cases c5 : 20 ≤ 35184372088832
 ·rw [if_pos c5] at H
  have c5b0 := eq_true c5
  have c5b1 : decide (20 ≤ 35184372088832) = true := decide_eq_true c5
  clear c5
  obtain ⟨y193,hy193⟩ : ∃ y_ : List Int,y_ = (List.replicate 20 0) := ⟨_,rfl⟩
  replace H : (verdererref03_Times.l0 k 0 t183 t184 t188 t189 (t183 != t188) y193) = some (r1,r2) := by first | (rw [hy193];with_reducible exact H) | (have H2_ := (Option.bind_some _ _).symm.trans H;rw [hy193];with_reducible exact H2_) | (have H2_ := (Option.bind_some _ _).symm.trans H;with_reducible exact H2_) | with_reducible exact H | (rw [hy193];exact H) | exact H
  have Ny193 := Aside0.mk hy193
  clear hy193
  have H' := Aside0.mk H
  clear H
  go_enter Try.func17,Try.ntmps17
  try go_wp2_with (first | ((with_reducible refine gate_dst (N := 4) rfl ?_);refine q03 ?hg (N := 4) ?hd (cs := #[.bool false,.slice none 0 0]) (t := 29) ?hr ?_;(case hd => rfl);(case hg => rfl);(case hr => first | (go_simp;done) | (go_simp;rfl));intro gb182 hg w6 hbox hb;have n0_ := Aside0.mk (q0s (by repeat (first | (with_reducible first | exact HB.out | apply q0h | apply q0d | apply q0f) | exact HB.out)) hb);have n1_ := Aside0.mk (hbox);have n2_ := Aside0.mk ((by rw [hg];exact (q0p (by repeat (first | (with_reducible first | exact HB.out | apply q0h | apply q0d | apply q0f) | exact HB.out))) : w.heap.size ≤ gb182));have n3_ := Aside0.mk ((by rw [hg];exact (q0p (by repeat (first | (with_reducible first | exact HB.out | apply q0h | apply q0d | apply q0f) | exact HB.out))) : w.heap.size ≤ gb182));clear HB;have HB := n0_;have BK182 := n1_;have GW182 := n2_;have GE182 := n3_;clear n0_ n1_ n2_ n3_;clear hb hbox hg) | ((with_reducible refine q00 (f := 61) rfl ?_);refine goesL_ (some 13) rfl rfl Try.func61 (by kernel_rfl) rfl #[.int .i64 a0] rfl (by (try simp only [List.map_toArray,List.map_cons,List.map_nil]);first | done | rfl | (simp only [List.length_drop,List.length_take];rfl)) ?_;(with_reducible refine (verdererref03_big.calls k a0 t183 t184 _ A3.out).mono ?_);rintro e w7 ⟨v185,rfl,ho0,hb⟩;refine ⟨_,rfl,?_⟩;have n0_ := Aside0.mk (Kd.R_lower ho0 (q0p (by repeat (first | (with_reducible first | exact HB.out | apply q0h | apply q0d | apply q0f | refine q0g ?_ GE182.out) | exact HB.out))));have n1_ := Aside0.mk (q0q (g := gb182) (o := .cells #[.bool false,.slice none 0 0] 29 (0,0)) (by (with_reducible repeat (first | refine q0b ?_ _ | refine q0c ?_ | refine q0a ?_ _));exact BK182.out) hb);have n2_ := Aside0.mk (q0s (by repeat (first | (with_reducible first | exact HB.out | apply q0h | apply q0d | apply q0f | refine q0g ?_ GE182.out) | exact HB.out)) hb);clear BK182;clear HB;have HO186 := n0_;have BK182 := n1_;have HB := n2_;clear n0_ n1_ n2_;(try clear hb);(try clear hb2);(try clear hk);(try clear hi);(try clear ho0)) | ((with_reducible refine gate_dst (N := 5) rfl ?_);refine q03 ?hg (N := 5) ?hd (cs := #[.bool false,.slice none 0 0]) (t := 29) ?hr ?_;(case hd => rfl);(case hg => rfl);(case hr => first | (go_simp;done) | (go_simp;rfl));intro gb187 hg w8 hbox hb;have n0_ := Aside0.mk (Kd.q0v (by (with_reducible repeat (first | apply Kd.q0m | apply Kd.q0n | apply Kd.q0o));exact HO186.out) hb);have n1_ := Aside0.mk (q0q (g := gb182) (o := .cells #[.bool false,.slice none 0 0] 29 (0,0)) (by (with_reducible repeat (first | refine q0b ?_ _ | refine q0c ?_ | refine q0a ?_ _));exact BK182.out) hb);have n2_ := Aside0.mk (q0s (by repeat (first | (with_reducible first | exact HB.out | apply q0h | apply q0d | apply q0f | refine q0g ?_ GE182.out) | exact HB.out)) hb);have n3_ := Aside0.mk (hbox);have n4_ := Aside0.mk ((by rw [hg];exact (q0p (by repeat (first | (with_reducible first | exact HB.out | apply q0h | apply q0d | apply q0f | refine q0g ?_ GE182.out) | exact HB.out))) : w.heap.size ≤ gb187));have n5_ := Aside0.mk ((by rw [hg];exact (q0p (by repeat (first | (with_reducible first | exact HB.out | apply q0h | apply q0d | apply q0f | refine q0g ?_ GE182.out) | exact HB.out))) : w.heap.size ≤ gb187));have n6_ := Aside0.mk ((by rw [hg];exact Nat.ne_of_lt (q0y (g := gb182) (o := .cells #[.bool false,.slice none 0 0] 29 (0,0)) (by (with_reducible repeat (first | refine q0b ?_ _ | refine q0c ?_ | refine q0a ?_ _));exact BK182.out)) : gb182 ≠ gb187));have n7_ := Aside0.mk ((by rw [hg];exact Nat.ne_of_gt (q0y (g := gb182) (o := .cells #[.bool false,.slice none 0 0] 29 (0,0)) (by (with_reducible repeat (first | refine q0b ?_ _ | refine q0c ?_ | refine q0a ?_ _));exact BK182.out)) : gb187 ≠ gb182));clear HO186;clear BK182;clear HB;have HO186 := n0_;have BK182 := n1_;have HB := n2_;have BK187 := n3_;have GW187 := n4_;have GE187 := n5_;have NB182_187 := n6_;have NB187_182 := n7_;clear n0_ n1_ n2_ n3_ n4_ n5_ n6_ n7_;clear hb hbox hg;have hnb9 := NB187_182.out;have hnc9 := NB182_187.out;have hcz10_0 : w8.cell? ⟨gb187,0,none⟩ = some (.bool false) := (q0i BK187.out 0).trans rfl;have hcz10_1 : w8.cell? ⟨gb187,1,none⟩ = some (.slice none 0 0) := (q0i BK187.out 1).trans rfl;have hfz10_0 := q0k BK187.out 0;have hfz10_1 := q0k BK187.out 1;obtain ⟨Ao11,co11,eo11⟩ := Kd.R_slice HO186.out;subst eo11) | ((with_reducible refine q00 (f := 61) rfl ?_);refine goesL_ (some 15) rfl rfl Try.func61 (by kernel_rfl) rfl #[.int .i64 a1] rfl (by (try simp only [List.map_toArray,List.map_cons,List.map_nil]);first | done | rfl | (simp only [List.length_drop,List.length_take];rfl)) ?_;(with_reducible refine (verdererref03_big.calls k a1 t188 t189 _ A4.out).mono ?_);rintro e w12 ⟨v190,rfl,ho0,hb⟩;refine ⟨_,rfl,?_⟩;have n0_ := Aside0.mk (Kd.R_elder' (by (with_reducible repeat (first | apply Kd.q0m | apply Kd.q0n | apply Kd.q0o));exact (Kd.R_mono (Kd.R_far (p := ⟨gb187,1,none⟩) (Kd.R_far (p := ⟨gb187,0,none⟩) (Kd.R_types HO186.out BK187.out (by decide)) (fun _ hk => hk.2) (.bool t183)) (fun _ hk => hk.2) (.slice Ao11 t184.length co11)) (fun _ h_ => h_.1))) (Kd.R_base ho0) hb);have n1_ := Aside0.mk (Kd.R_lower (Kd.R_new' ho0 (Kd.R_lt (by (with_reducible repeat (first | apply Kd.q0m | apply Kd.q0n | apply Kd.q0o));exact (Kd.R_mono (Kd.R_far (p := ⟨gb187,1,none⟩) (Kd.R_far (p := ⟨gb187,0,none⟩) (Kd.R_types HO186.out BK187.out (by decide)) (fun _ hk => hk.2) (.bool t183)) (fun _ hk => hk.2) (.slice Ao11 t184.length co11)) (fun _ h_ => h_.1))))) (q0p (by repeat (first | (with_reducible first | exact HB.out | apply q0h | apply q0d | apply q0f | refine q0g ?_ GE182.out | refine q0g ?_ GE187.out) | exact HB.out))));have n2_ := Aside0.mk (q0q (g := gb182) (o := .cells #[.bool false,.slice none 0 0] 29 (0,0)) (by (with_reducible repeat (first | refine q0b ?_ _ | refine q0c ?_ | refine q0a ?_ _));refine q0u ?_ NB182_187.out _;(with_reducible repeat (first | refine q0b ?_ _ | refine q0c ?_ | refine q0a ?_ _));refine q0u ?_ NB182_187.out _;(with_reducible repeat (first | refine q0b ?_ _ | refine q0c ?_ | refine q0a ?_ _));exact BK182.out) hb);have n3_ := Aside0.mk (q0q (g := gb187) (o := .cells #[.bool t183,.slice Ao11 t184.length co11] 29 (0,0)) (by (with_reducible repeat (first | refine q0b ?_ _ | refine q0c ?_ | refine q0a ?_ _));refine q0t (cs := #[.bool t183,.slice none 0 0]) ?_ 1 _ rfl;(with_reducible repeat (first | refine q0b ?_ _ | refine q0c ?_ | refine q0a ?_ _));refine q0t (cs := #[.bool false,.slice none 0 0]) ?_ 0 _ rfl;(with_reducible repeat (first | refine q0b ?_ _ | refine q0c ?_ | refine q0a ?_ _));exact BK187.out) hb);have n4_ := Aside0.mk (q0s (by repeat (first | (with_reducible first | exact HB.out | apply q0h | apply q0d | apply q0f | refine q0g ?_ GE182.out | refine q0g ?_ GE187.out) | exact HB.out)) hb);clear HO186;clear BK182;clear BK187;clear HB;have HO186 := n0_;have HO191 := n1_;have BK182 := n2_;have BK187 := n3_;have HB := n4_;clear n0_ n1_ n2_ n3_ n4_;(try clear hb);(try clear hb2);(try clear hk);(try clear hi);(try clear ho0)) | ((with_reducible refine gate_dst (N := 6) rfl ?_);refine q03 ?hg (N := 6) ?hd (cs := #[.bool false,.slice none 0 0]) (t := 29) ?hr ?_;(case hd => rfl);(case hg => rfl);(case hr => first | (go_simp;done) | (go_simp;rfl));intro gb192 hg w13 hbox hb;have n0_ := Aside0.mk (Kd.q0v (by (with_reducible repeat (first | apply Kd.q0m | apply Kd.q0n | apply Kd.q0o));exact HO186.out) hb);have n1_ := Aside0.mk (Kd.q0v (by (with_reducible repeat (first | apply Kd.q0m | apply Kd.q0n | apply Kd.q0o));exact HO191.out) hb);have n2_ := Aside0.mk (q0q (g := gb182) (o := .cells #[.bool false,.slice none 0 0] 29 (0,0)) (by (with_reducible repeat (first | refine q0b ?_ _ | refine q0c ?_ | refine q0a ?_ _));exact BK182.out) hb);have n3_ := Aside0.mk (q0q (g := gb187) (o := .cells #[.bool t183,.slice Ao11 t184.length co11] 29 (0,0)) (by (with_reducible repeat (first | refine q0b ?_ _ | refine q0c ?_ | refine q0a ?_ _));exact BK187.out) hb);have n4_ := Aside0.mk (q0s (by repeat (first | (with_reducible first | exact HB.out | apply q0h | apply q0d | apply q0f | refine q0g ?_ GE182.out | refine q0g ?_ GE187.out) | exact HB.out)) hb);have n5_ := Aside0.mk (hbox);have n6_ := Aside0.mk ((by rw [hg];exact (q0p (by repeat (first | (with_reducible first | exact HB.out | apply q0h | apply q0d | apply q0f | refine q0g ?_ GE182.out | refine q0g ?_ GE187.out) | exact HB.out))) : w.heap.size ≤ gb192));have n7_ := Aside0.mk ((by rw [hg];exact (q0p (by repeat (first | (with_reducible first | exact HB.out | apply q0h | apply q0d | apply q0f | refine q0g ?_ GE182.out | refine q0g ?_ GE187.out) | exact HB.out))) : w.heap.size ≤ gb192));have n8_ := Aside0.mk ((by rw [hg];exact Nat.ne_of_lt (q0y (g := gb182) (o := .cells #[.bool false,.slice none 0 0] 29 (0,0)) (by (with_reducible repeat (first | refine q0b ?_ _ | refine q0c ?_ | refine q0a ?_ _));exact BK182.out)) : gb182 ≠ gb192));have n9_ := Aside0.mk ((by rw [hg];exact Nat.ne_of_gt (q0y (g := gb182) (o := .cells #[.bool false,.slice none 0 0] 29 (0,0)) (by (with_reducible repeat (first | refine q0b ?_ _ | refine q0c ?_ | refine q0a ?_ _));exact BK182.out)) : gb192 ≠ gb182));have n10_ := Aside0.mk ((by rw [hg];exact Nat.ne_of_lt (q0y (g := gb187) (o := .cells #[.bool t183,.slice Ao11 t184.length co11] 29 (0,0)) (by (with_reducible repeat (first | refine q0b ?_ _ | refine q0c ?_ | refine q0a ?_ _));exact BK187.out)) : gb187 ≠ gb192));have n11_ := Aside0.mk ((by rw [hg];exact Nat.ne_of_gt (q0y (g := gb187) (o := .cells #[.bool t183,.slice Ao11 t184.length co11] 29 (0,0)) (by (with_reducible repeat (first | refine q0b ?_ _ | refine q0c ?_ | refine q0a ?_ _));exact BK187.out)) : gb192 ≠ gb187));clear HO186;clear HO191;clear BK182;clear BK187;clear HB;have HO186 := n0_;have HO191 := n1_;have BK182 := n2_;have BK187 := n3_;have HB := n4_;have BK192 := n5_;have GW192 := n6_;have GE192 := n7_;have NB182_192 := n8_;have NB192_182 := n9_;have NB187_192 := n10_;have NB192_187 := n11_;clear n0_ n1_ n2_ n3_ n4_ n5_ n6_ n7_ n8_ n9_ n10_ n11_;clear hb hbox hg;have hnb14 := NB192_182.out;have hnc14 := NB182_192.out;have hnb15 := NB192_187.out;have hnc15 := NB187_192.out;have hcz16_0 : w13.cell? ⟨gb192,0,none⟩ = some (.bool false) := (q0i BK192.out 0).trans rfl;have hcz16_1 : w13.cell? ⟨gb192,1,none⟩ = some (.slice none 0 0) := (q0i BK192.out 1).trans rfl;have hfz16_0 := q0k BK192.out 0;have hfz16_1 := q0k BK192.out 1;obtain ⟨Ao17,co17,eo17⟩ := Kd.R_slice HO191.out;subst eo17))
  have n0_ : Aside0 (Kd.R (Kd.int .u64) 96 ((w13.setCell ⟨gb192,0,none⟩ (.bool t188)).setCell ⟨gb192,1,none⟩ (.slice Ao17 t189.length co17)) w.heap.size (fun k_ => some k_ ≠ (.slice Ao17 t189.length co17 : Value).ownBlock) (.slice Ao11 t184.length co11) t184) := ⟨by (with_reducible repeat (first | apply Kd.q0m | apply Kd.q0n | apply Kd.q0o));exact Kd.R_mono (Kd.R_far (p := ⟨gb192,1,none⟩) (Kd.R_far (p := ⟨gb192,0,none⟩) (Kd.R_types HO186.out BK192.out (by decide)) (fun _ hk => hk.2) (.bool t188)) (fun _ hk => hk.2) (.slice Ao17 t189.length co17)) (fun _ hk => hk.1.2)⟩
  have n1_ : Aside0 (Kd.R (Kd.int .u64) 96 ((w13.setCell ⟨gb192,0,none⟩ (.bool t188)).setCell ⟨gb192,1,none⟩ (.slice Ao17 t189.length co17)) w.heap.size (fun k_ => some k_ ≠ (.slice Ao11 t184.length co11 : Value).ownBlock) (.slice Ao17 t189.length co17) t189) := ⟨by (with_reducible repeat (first | apply Kd.q0m | apply Kd.q0n | apply Kd.q0o));exact Kd.R_mono (Kd.R_far (p := ⟨gb192,1,none⟩) (Kd.R_far (p := ⟨gb192,0,none⟩) (Kd.R_types HO191.out BK192.out (by decide)) (fun _ hk => hk.2) (.bool t188)) (fun _ hk => hk.2) (.slice Ao17 t189.length co17)) (fun _ hk => hk.1.2)⟩
  have n2_ : Aside0 (((w13.setCell ⟨gb192,0,none⟩ (.bool t188)).setCell ⟨gb192,1,none⟩ (.slice Ao17 t189.length co17)).heap[gb182]? = some (.cells #[.bool false,.slice none 0 0] 29 (0,0))) := ⟨by (with_reducible repeat (first | refine q0b ?_ _ | refine q0c ?_ | refine q0a ?_ _));refine q0u ?_ NB182_192.out _;(with_reducible repeat (first | refine q0b ?_ _ | refine q0c ?_ | refine q0a ?_ _));refine q0u ?_ NB182_192.out _;(with_reducible repeat (first | refine q0b ?_ _ | refine q0c ?_ | refine q0a ?_ _));exact BK182.out⟩
  have n3_ : Aside0 (((w13.setCell ⟨gb192,0,none⟩ (.bool t188)).setCell ⟨gb192,1,none⟩ (.slice Ao17 t189.length co17)).heap[gb187]? = some (.cells #[.bool t183,.slice Ao11 t184.length co11] 29 (0,0))) := ⟨by (with_reducible repeat (first | refine q0b ?_ _ | refine q0c ?_ | refine q0a ?_ _));refine q0u ?_ NB187_192.out _;(with_reducible repeat (first | refine q0b ?_ _ | refine q0c ?_ | refine q0a ?_ _));refine q0u ?_ NB187_192.out _;(with_reducible repeat (first | refine q0b ?_ _ | refine q0c ?_ | refine q0a ?_ _));exact BK187.out⟩
  have n4_ : Aside0 (((w13.setCell ⟨gb192,0,none⟩ (.bool t188)).setCell ⟨gb192,1,none⟩ (.slice Ao17 t189.length co17)).heap[gb192]? = some (.cells #[.bool t188,.slice Ao17 t189.length co17] 29 (0,0))) := ⟨by (with_reducible repeat (first | refine q0b ?_ _ | refine q0c ?_ | refine q0a ?_ _));refine q0t (cs := #[.bool t188,.slice none 0 0]) ?_ 1 _ rfl;(with_reducible repeat (first | refine q0b ?_ _ | refine q0c ?_ | refine q0a ?_ _));refine q0t (cs := #[.bool false,.slice none 0 0]) ?_ 0 _ rfl;(with_reducible repeat (first | refine q0b ?_ _ | refine q0c ?_ | refine q0a ?_ _));exact BK192.out⟩
  have n5_ : Aside0 (Below w.heap.size w ((w13.setCell ⟨gb192,0,none⟩ (.bool t188)).setCell ⟨gb192,1,none⟩ (.slice Ao17 t189.length co17))) := ⟨by repeat (first | (with_reducible first | exact HB.out | apply q0h | apply q0d | apply q0f | refine q0g ?_ GE182.out | refine q0g ?_ GE187.out | refine q0g ?_ GE192.out) | exact HB.out)⟩
  (try clear HO186)
  (try clear HO191)
  (try clear BK182)
  (try clear BK187)
  (try clear BK192)
  (try clear HB)
  generalize ((w13.setCell ⟨gb192,0,none⟩ (.bool t188)).setCell ⟨gb192,1,none⟩ (.slice Ao17 t189.length co17)) = w18 at n0_ n1_ n2_ n3_ n4_ n5_ ⊢
  have HO186 := n0_
  have HO191 := n1_
  have BK182 := n2_
  have BK187 := n3_
  have BK192 := n4_
  have HB := n5_
  clear n0_ n1_ n2_ n3_ n4_ n5_
  have n0_ := Aside0.mk (Kd.q0o HO186.out)
  have n1_ := Aside0.mk (Kd.q0o HO191.out)
  have n2_ := Aside0.mk (q0c BK182.out)
  have n3_ := Aside0.mk (q0c BK187.out)
  have n4_ := Aside0.mk (q0c BK192.out)
  have n5_ := Aside0.mk (q0f HB.out)
  clear HO186
  clear HO191
  clear BK182
  clear BK187
  clear BK192
  clear HB
  have HO186 := n0_
  have HO191 := n1_
  have BK182 := n2_
  have BK187 := n3_
  have BK192 := n4_
  have HB := n5_
  clear n0_ n1_ n2_ n3_ n4_ n5_
  refine start_ (n := 9) (S := fun w' => w'.cell? ⟨gb187,0,none⟩ = some (.bool t183) ∧ w'.cell? ⟨gb187,1,none⟩ = some (.slice Ao11 t184.length co11) ∧ w'.cell? ⟨gb192,0,none⟩ = some (.bool t188) ∧ w'.cell? ⟨gb192,1,none⟩ = some (.slice Ao17 t189.length co17)) (ds := []) #[false,false,false,false,false,false,false,false,false] (by kernel_rfl) rfl rfl ⟨(q0i BK187.out 0).trans rfl,(q0i BK187.out 1).trans rfl,(q0i BK192.out 0).trans rfl,(q0i BK192.out 1).trans rfl⟩ (fun hHeld => ?_);refine with_tabW verdererref03_Times.tab3 verdererref03_Times.bits3 (fun HT_ HW_ => ?_)
  generalize w18.drew = w19 at HO186 HO191 BK182 BK187 BK192 HB hHeld ⊢
  refine pure_ (i := 0) (N := some 16) (v := ?_) (a' := ?_) #[true,false,false,false,false,false,false,false,false] rfl rfl (q0r HT_.out (by kernel_rfl)) (fun _ _ _ h => h) (Or.inl ⟨by rfl,?_⟩) ?_ ?_
  rotate_left
  ·intro w'
   go_simp
   with_reducible rfl
  rotate_left
  ·simp only [Act.put,zA,zB,zC,i64_w,i32_w]
   rfl
  refine pure_ (i := 2) (N := some 18) (v := ?_) (a' := ?_) #[true,false,true,false,false,false,false,false,false] rfl rfl (q0r HT_.out (by kernel_rfl)) (fun _ _ _ h => h) (Or.inl ⟨by rfl,?_⟩) ?_ ?_
  rotate_left
  ·intro w'
   go_simp
   with_reducible rfl
  rotate_left
  ·simp only [Act.put,zA,zB,zC,i64_w,i32_w]
   rfl
  refine take_ (i := 1) (N := some 17) (v := ?_) (a' := ?_) #[true,true,true,false,false,false,false,false,false] rfl rfl (take_ofW HT_.out HW_.out (by kernel_rfl)) (fun _ _ _ h => h) (Or.inl ⟨by rfl,?_⟩) hHeld ?_ ?_
  rotate_left
  ·rintro w' ⟨s0,s1,s2,s3⟩
   go_simp
   with_reducible rfl
  rotate_left
  ·simp only [Act.put,zA,zB,zC,i64_w,i32_w]
   rfl
  refine take_ (i := 3) (N := some 19) (v := ?_) (a' := ?_) #[true,true,true,true,false,false,false,false,false] rfl rfl (take_ofW HT_.out HW_.out (by kernel_rfl)) (fun _ _ _ h => h) (Or.inl ⟨by rfl,?_⟩) hHeld ?_ ?_
  rotate_left
  ·rintro w' ⟨s0,s1,s2,s3⟩
   go_simp
   with_reducible rfl
  rotate_left
  ·simp only [Act.put,zA,zB,zC,i64_w,i32_w]
   rfl
  refine pure_ (i := 4) (N := some 20) (v := ?_) (a' := ?_) #[true,true,true,true,true,false,false,false,false] rfl rfl (q0r HT_.out (by kernel_rfl)) (fun _ _ _ h => h) (Or.inl ⟨by rfl,?_⟩) ?_ ?_
  rotate_left
  ·intro w'
   go_simp
   with_reducible rfl
  rotate_left
  ·simp only [Act.put,zA,zB,zC,i64_w,i32_w]
   rfl
  refine join_ (σ := Value × Nat) 1 #[true,true,true,true,true,true,true,true,false] (fun s_ => [(21,s_.1),(7,.pointer (some ⟨s_.2,0,none⟩)),(22,.agg #[.bool (t183 != t188),s_.1])]) (fun s_ w' => (w'.cell? ⟨gb187,0,none⟩ = some (.bool t183) ∧ w'.cell? ⟨gb187,1,none⟩ = some (.slice Ao11 t184.length co11) ∧ w'.cell? ⟨gb192,0,none⟩ = some (.bool t188) ∧ w'.cell? ⟨gb192,1,none⟩ = some (.slice Ao17 t189.length co17)) ∧ (Kd.R (Kd.int .u64) 96 w' w.heap.size (fun k_ => some k_ ≠ (.slice Ao17 t189.length co17 : Value).ownBlock ∧ some k_ ≠ (s_.1 : Value).ownBlock) (.slice Ao11 t184.length co11) t184) ∧ (Kd.R (Kd.int .u64) 96 w' w.heap.size (fun k_ => some k_ ≠ (.slice Ao11 t184.length co11 : Value).ownBlock ∧ some k_ ≠ (s_.1 : Value).ownBlock) (.slice Ao17 t189.length co17) t189) ∧ (Kd.R (Kd.int .u64) 96 w' w.heap.size (fun k_ => some k_ ≠ (.slice Ao11 t184.length co11 : Value).ownBlock ∧ some k_ ≠ (.slice Ao17 t189.length co17 : Value).ownBlock) s_.1 y193) ∧ (w'.heap[gb182]? = some (.cells #[.bool false,.slice none 0 0] 29 (0,0))) ∧ (w'.heap[gb187]? = some (.cells #[.bool t183,.slice Ao11 t184.length co11] 29 (0,0))) ∧ (w'.heap[gb192]? = some (.cells #[.bool t188,.slice Ao17 t189.length co17] 29 (0,0))) ∧ (w'.heap[s_.2]? = some (.cells #[.bool false,.slice none 0 0] 29 (0,0))) ∧ (w.heap.size ≤ s_.2) ∧ (w.heap.size ≤ s_.2) ∧ (gb182 ≠ s_.2) ∧ (s_.2 ≠ gb182) ∧ (gb187 ≠ s_.2) ∧ (s_.2 ≠ gb187) ∧ (gb192 ≠ s_.2) ∧ (s_.2 ≠ gb192) ∧ (Below w.heap.size w w')) ?_ ?_
  rotate_left
  ·intro hCont
   refine two_ (i := 5) (j := 7) (Ni := some 21) (Nj := some 7) #[true,true,true,true,true,true,false,false,false] #[true,true,true,true,true,false,false,true,false] rfl rfl rfl rfl (two_of HT_.out (by kernel_rfl)) (by decide) (by decide) (fun K hK => ?_) (fun K hK => ?_)
   ·skip
    refine Kd.R_make_step (Kd.int .u64) _ 96 (by rfl) (N := 21) rfl 27 _ _ rfl 20 rfl rfl Try.underlying27 (.int .u64 0) 8 info96 rfl (by decide) (by omega) 0 (ok := fun _ => True) (okp := fun _ => True) rfl (fun _ hk => hk) trivial (by omega) (by omega) (Below.refl _ _) (Nat.le_refl _) ?_
    intro v194 w20 ho21 hb hg_ hnew_
    clear hg_ hnew_
    (first | rw [← Ny193.out] at ho21 | (simp only [Int.reduceToNat] at ho21;rw [← Ny193.out] at ho21))
    have n0_ := Aside0.mk (Kd.R_elder' (by (with_reducible repeat (first | apply Kd.q0m | apply Kd.q0n | apply Kd.q0o));exact HO186.out) (Kd.R_base ho21) hb)
    have n1_ := Aside0.mk (Kd.R_elder' (by (with_reducible repeat (first | apply Kd.q0m | apply Kd.q0n | apply Kd.q0o));exact HO191.out) (Kd.R_base ho21) hb)
    have n2_ := Aside0.mk (Kd.R_lower (Kd.R_new' (Kd.R_new' ho21 (Kd.R_lt (by (with_reducible repeat (first | apply Kd.q0m | apply Kd.q0n | apply Kd.q0o));exact HO186.out))) (Kd.R_lt (by (with_reducible repeat (first | apply Kd.q0m | apply Kd.q0n | apply Kd.q0o));exact HO191.out))) (q0p (by repeat (first | (with_reducible first | exact HB.out | apply q0h | apply q0d | apply q0f | refine q0g ?_ GE182.out | refine q0g ?_ GE187.out | refine q0g ?_ GE192.out) | exact HB.out))))
    have n3_ := Aside0.mk (q0q (g := gb182) (o := .cells #[.bool false,.slice none 0 0] 29 (0,0)) (by (with_reducible repeat (first | refine q0b ?_ _ | refine q0c ?_ | refine q0a ?_ _));exact BK182.out) hb)
    have n4_ := Aside0.mk (q0q (g := gb187) (o := .cells #[.bool t183,.slice Ao11 t184.length co11] 29 (0,0)) (by (with_reducible repeat (first | refine q0b ?_ _ | refine q0c ?_ | refine q0a ?_ _));exact BK187.out) hb)
    have n5_ := Aside0.mk (q0q (g := gb192) (o := .cells #[.bool t188,.slice Ao17 t189.length co17] 29 (0,0)) (by (with_reducible repeat (first | refine q0b ?_ _ | refine q0c ?_ | refine q0a ?_ _));exact BK192.out) hb)
    have n6_ := Aside0.mk (q0s (by repeat (first | (with_reducible first | exact HB.out | apply q0h | apply q0d | apply q0f | refine q0g ?_ GE182.out | refine q0g ?_ GE187.out | refine q0g ?_ GE192.out) | exact HB.out)) hb)
    clear HO186
    clear HO191
    clear BK182
    clear BK187
    clear BK192
    clear HB
    have HO186 := n0_
    have HO191 := n1_
    have HO195 := n2_
    have BK182 := n3_
    have BK187 := n4_
    have BK192 := n5_
    have HB := n6_
    clear n0_ n1_ n2_ n3_ n4_ n5_ n6_
    clear hb ho21
    obtain ⟨Ao22,co22,eo22⟩ := Kd.R_slice HO195.out
    (first | subst eo22 | (injection eo22 with f1_ f2_ f3_;have f4_ := f1_.symm;have f5_ := f3_.symm;clear f1_ f2_ f3_;subst f4_;subst f5_))
    refine hK.out _ _ ⟨(q0i BK187.out 0).trans rfl,(q0i BK187.out 1).trans rfl,(q0i BK192.out 0).trans rfl,(q0i BK192.out 1).trans rfl⟩ (fun hHeld => ?_)
    clear hK K
    refine norm_ (a' := ?_) ?_ ?_
    rotate_left
    ·show Act.put _ (some 21) _ = _
     simp only [Act.put,zA,zB,zC,i64_w,i32_w]
     rfl
    refine pure_ (i := 6) (N := some 22) (v := ?_) (a' := ?_) #[true,true,true,true,true,true,true,false,false] rfl rfl (q0r HT_.out (by kernel_rfl)) (fun _ _ _ h => h) (Or.inl ⟨by rfl,?_⟩) ?_ ?_
    rotate_left
    ·intro w'
     go_simp
     with_reducible rfl
    rotate_left
    ·simp only [Act.put,zA,zB,zC,i64_w,i32_w]
     rfl
    refine one_ (i := 7) (N := some 7) #[true,true,true,true,true,true,true,true,false] rfl rfl (one_of HT_.out (by kernel_rfl)) (by decide) (fun K hK => ?_)
    refine box_step ?hg (N := 7) ?hd (cs := #[.bool false,.slice none 0 0]) (t := 29) ?hr ?_;(case hd => rfl);(case hg => rfl);(case hr => first | (go_simp;done) | (go_simp;rfl))
    intro gb196 hg w23 hbox hb
    have n0_ := Aside0.mk (Kd.q0v (by (with_reducible repeat (first | apply Kd.q0m | apply Kd.q0n | apply Kd.q0o));exact HO186.out) hb)
    have n1_ := Aside0.mk (Kd.q0v (by (with_reducible repeat (first | apply Kd.q0m | apply Kd.q0n | apply Kd.q0o));exact HO191.out) hb)
    have n2_ := Aside0.mk (Kd.q0v (by (with_reducible repeat (first | apply Kd.q0m | apply Kd.q0n | apply Kd.q0o));exact HO195.out) hb)
    have n3_ := Aside0.mk (q0q (g := gb182) (o := .cells #[.bool false,.slice none 0 0] 29 (0,0)) (by (with_reducible repeat (first | refine q0b ?_ _ | refine q0c ?_ | refine q0a ?_ _));exact BK182.out) hb)
    have n4_ := Aside0.mk (q0q (g := gb187) (o := .cells #[.bool t183,.slice Ao11 t184.length co11] 29 (0,0)) (by (with_reducible repeat (first | refine q0b ?_ _ | refine q0c ?_ | refine q0a ?_ _));exact BK187.out) hb)
    have n5_ := Aside0.mk (q0q (g := gb192) (o := .cells #[.bool t188,.slice Ao17 t189.length co17] 29 (0,0)) (by (with_reducible repeat (first | refine q0b ?_ _ | refine q0c ?_ | refine q0a ?_ _));exact BK192.out) hb)
    have n6_ := Aside0.mk (q0s (by repeat (first | (with_reducible first | exact HB.out | apply q0h | apply q0d | apply q0f | refine q0g ?_ GE182.out | refine q0g ?_ GE187.out | refine q0g ?_ GE192.out) | exact HB.out)) hb)
    have n7_ := Aside0.mk (hbox)
    have n8_ := Aside0.mk ((by rw [hg];exact (q0p (by repeat (first | (with_reducible first | exact HB.out | apply q0h | apply q0d | apply q0f | refine q0g ?_ GE182.out | refine q0g ?_ GE187.out | refine q0g ?_ GE192.out) | exact HB.out))) : w.heap.size ≤ gb196))
    have n9_ := Aside0.mk ((by rw [hg];exact (q0p (by repeat (first | (with_reducible first | exact HB.out | apply q0h | apply q0d | apply q0f | refine q0g ?_ GE182.out | refine q0g ?_ GE187.out | refine q0g ?_ GE192.out) | exact HB.out))) : w.heap.size ≤ gb196))
    have n10_ := Aside0.mk ((by rw [hg];exact Nat.ne_of_lt (q0y (g := gb182) (o := .cells #[.bool false,.slice none 0 0] 29 (0,0)) (by (with_reducible repeat (first | refine q0b ?_ _ | refine q0c ?_ | refine q0a ?_ _));exact BK182.out)) : gb182 ≠ gb196))
    have n11_ := Aside0.mk ((by rw [hg];exact Nat.ne_of_gt (q0y (g := gb182) (o := .cells #[.bool false,.slice none 0 0] 29 (0,0)) (by (with_reducible repeat (first | refine q0b ?_ _ | refine q0c ?_ | refine q0a ?_ _));exact BK182.out)) : gb196 ≠ gb182))
    have n12_ := Aside0.mk ((by rw [hg];exact Nat.ne_of_lt (q0y (g := gb187) (o := .cells #[.bool t183,.slice Ao11 t184.length co11] 29 (0,0)) (by (with_reducible repeat (first | refine q0b ?_ _ | refine q0c ?_ | refine q0a ?_ _));exact BK187.out)) : gb187 ≠ gb196))
    have n13_ := Aside0.mk ((by rw [hg];exact Nat.ne_of_gt (q0y (g := gb187) (o := .cells #[.bool t183,.slice Ao11 t184.length co11] 29 (0,0)) (by (with_reducible repeat (first | refine q0b ?_ _ | refine q0c ?_ | refine q0a ?_ _));exact BK187.out)) : gb196 ≠ gb187))
    have n14_ := Aside0.mk ((by rw [hg];exact Nat.ne_of_lt (q0y (g := gb192) (o := .cells #[.bool t188,.slice Ao17 t189.length co17] 29 (0,0)) (by (with_reducible repeat (first | refine q0b ?_ _ | refine q0c ?_ | refine q0a ?_ _));exact BK192.out)) : gb192 ≠ gb196))
    have n15_ := Aside0.mk ((by rw [hg];exact Nat.ne_of_gt (q0y (g := gb192) (o := .cells #[.bool t188,.slice Ao17 t189.length co17] 29 (0,0)) (by (with_reducible repeat (first | refine q0b ?_ _ | refine q0c ?_ | refine q0a ?_ _));exact BK192.out)) : gb196 ≠ gb192))
    clear HO186
    clear HO191
    clear HO195
    clear BK182
    clear BK187
    clear BK192
    clear HB
    have HO186 := n0_
    have HO191 := n1_
    have HO195 := n2_
    have BK182 := n3_
    have BK187 := n4_
    have BK192 := n5_
    have HB := n6_
    have BK196 := n7_
    have GW196 := n8_
    have GE196 := n9_
    have NB182_196 := n10_
    have NB196_182 := n11_
    have NB187_196 := n12_
    have NB196_187 := n13_
    have NB192_196 := n14_
    have NB196_192 := n15_
    clear n0_ n1_ n2_ n3_ n4_ n5_ n6_ n7_ n8_ n9_ n10_ n11_ n12_ n13_ n14_ n15_
    clear hb hbox hg
    refine hK.out _ _ ⟨(q0i BK187.out 0).trans rfl,(q0i BK187.out 1).trans rfl,(q0i BK192.out 0).trans rfl,(q0i BK192.out 1).trans rfl⟩ (fun hHeld => ?_)
    clear hK K
    refine norm_ (a' := ?_) ?_ ?_
    rotate_left
    ·show Act.put _ (some 7) _ = _
     simp only [Act.put,zA,zB,zC,i64_w,i32_w]
     rfl
    exact norm_ (by simp only [putAll,Act.put,zA,zB,zC] <;> rfl) (hCont (.slice Ao22 y193.length co22,gb196) _ ⟨hHeld,(by (with_reducible repeat (first | apply Kd.q0m | apply Kd.q0n | apply Kd.q0o));exact HO186.out),(by (with_reducible repeat (first | apply Kd.q0m | apply Kd.q0n | apply Kd.q0o));exact HO191.out),(by (with_reducible repeat (first | apply Kd.q0m | apply Kd.q0n | apply Kd.q0o));exact Kd.R_mono HO195.out (fun _ hk => ⟨hk.1.2,hk.2⟩)),(by (with_reducible repeat (first | refine q0b ?_ _ | refine q0c ?_ | refine q0a ?_ _));exact BK182.out),(by (with_reducible repeat (first | refine q0b ?_ _ | refine q0c ?_ | refine q0a ?_ _));exact BK187.out),(by (with_reducible repeat (first | refine q0b ?_ _ | refine q0c ?_ | refine q0a ?_ _));exact BK192.out),(by (with_reducible repeat (first | refine q0b ?_ _ | refine q0c ?_ | refine q0a ?_ _));exact BK196.out),GW196.out,GE196.out,NB182_196.out,NB196_182.out,NB187_196.out,NB196_187.out,NB192_196.out,NB196_192.out,(by repeat (first | (with_reducible first | exact HB.out | apply q0h | apply q0d | apply q0f | refine q0g ?_ GE182.out | refine q0g ?_ GE187.out | refine q0g ?_ GE192.out | refine q0g ?_ GE196.out) | exact HB.out))⟩)
   ·skip
    refine box_step ?hg (N := 7) ?hd (cs := #[.bool false,.slice none 0 0]) (t := 29) ?hr ?_;(case hd => rfl);(case hg => rfl);(case hr => first | (go_simp;done) | (go_simp;rfl))
    intro gb196 hg w20 hbox hb
    have n0_ := Aside0.mk (Kd.q0v (by (with_reducible repeat (first | apply Kd.q0m | apply Kd.q0n | apply Kd.q0o));exact HO186.out) hb)
    have n1_ := Aside0.mk (Kd.q0v (by (with_reducible repeat (first | apply Kd.q0m | apply Kd.q0n | apply Kd.q0o));exact HO191.out) hb)
    have n2_ := Aside0.mk (q0q (g := gb182) (o := .cells #[.bool false,.slice none 0 0] 29 (0,0)) (by (with_reducible repeat (first | refine q0b ?_ _ | refine q0c ?_ | refine q0a ?_ _));exact BK182.out) hb)
    have n3_ := Aside0.mk (q0q (g := gb187) (o := .cells #[.bool t183,.slice Ao11 t184.length co11] 29 (0,0)) (by (with_reducible repeat (first | refine q0b ?_ _ | refine q0c ?_ | refine q0a ?_ _));exact BK187.out) hb)
    have n4_ := Aside0.mk (q0q (g := gb192) (o := .cells #[.bool t188,.slice Ao17 t189.length co17] 29 (0,0)) (by (with_reducible repeat (first | refine q0b ?_ _ | refine q0c ?_ | refine q0a ?_ _));exact BK192.out) hb)
    have n5_ := Aside0.mk (q0s (by repeat (first | (with_reducible first | exact HB.out | apply q0h | apply q0d | apply q0f | refine q0g ?_ GE182.out | refine q0g ?_ GE187.out | refine q0g ?_ GE192.out) | exact HB.out)) hb)
    have n6_ := Aside0.mk (hbox)
    have n7_ := Aside0.mk ((by rw [hg];exact (q0p (by repeat (first | (with_reducible first | exact HB.out | apply q0h | apply q0d | apply q0f | refine q0g ?_ GE182.out | refine q0g ?_ GE187.out | refine q0g ?_ GE192.out) | exact HB.out))) : w.heap.size ≤ gb196))
    have n8_ := Aside0.mk ((by rw [hg];exact (q0p (by repeat (first | (with_reducible first | exact HB.out | apply q0h | apply q0d | apply q0f | refine q0g ?_ GE182.out | refine q0g ?_ GE187.out | refine q0g ?_ GE192.out) | exact HB.out))) : w.heap.size ≤ gb196))
    have n9_ := Aside0.mk ((by rw [hg];exact Nat.ne_of_lt (q0y (g := gb182) (o := .cells #[.bool false,.slice none 0 0] 29 (0,0)) (by (with_reducible repeat (first | refine q0b ?_ _ | refine q0c ?_ | refine q0a ?_ _));exact BK182.out)) : gb182 ≠ gb196))
    have n10_ := Aside0.mk ((by rw [hg];exact Nat.ne_of_gt (q0y (g := gb182) (o := .cells #[.bool false,.slice none 0 0] 29 (0,0)) (by (with_reducible repeat (first | refine q0b ?_ _ | refine q0c ?_ | refine q0a ?_ _));exact BK182.out)) : gb196 ≠ gb182))
    have n11_ := Aside0.mk ((by rw [hg];exact Nat.ne_of_lt (q0y (g := gb187) (o := .cells #[.bool t183,.slice Ao11 t184.length co11] 29 (0,0)) (by (with_reducible repeat (first | refine q0b ?_ _ | refine q0c ?_ | refine q0a ?_ _));exact BK187.out)) : gb187 ≠ gb196))
    have n12_ := Aside0.mk ((by rw [hg];exact Nat.ne_of_gt (q0y (g := gb187) (o := .cells #[.bool t183,.slice Ao11 t184.length co11] 29 (0,0)) (by (with_reducible repeat (first | refine q0b ?_ _ | refine q0c ?_ | refine q0a ?_ _));exact BK187.out)) : gb196 ≠ gb187))
    have n13_ := Aside0.mk ((by rw [hg];exact Nat.ne_of_lt (q0y (g := gb192) (o := .cells #[.bool t188,.slice Ao17 t189.length co17] 29 (0,0)) (by (with_reducible repeat (first | refine q0b ?_ _ | refine q0c ?_ | refine q0a ?_ _));exact BK192.out)) : gb192 ≠ gb196))
    have n14_ := Aside0.mk ((by rw [hg];exact Nat.ne_of_gt (q0y (g := gb192) (o := .cells #[.bool t188,.slice Ao17 t189.length co17] 29 (0,0)) (by (with_reducible repeat (first | refine q0b ?_ _ | refine q0c ?_ | refine q0a ?_ _));exact BK192.out)) : gb196 ≠ gb192))
    clear HO186
    clear HO191
    clear BK182
    clear BK187
    clear BK192
    clear HB
    have HO186 := n0_
    have HO191 := n1_
    have BK182 := n2_
    have BK187 := n3_
    have BK192 := n4_
    have HB := n5_
    have BK196 := n6_
    have GW196 := n7_
    have GE196 := n8_
    have NB182_196 := n9_
    have NB196_182 := n10_
    have NB187_196 := n11_
    have NB196_187 := n12_
    have NB192_196 := n13_
    have NB196_192 := n14_
    clear n0_ n1_ n2_ n3_ n4_ n5_ n6_ n7_ n8_ n9_ n10_ n11_ n12_ n13_ n14_
    clear hb hbox hg
    refine hK.out _ _ ⟨(q0i BK187.out 0).trans rfl,(q0i BK187.out 1).trans rfl,(q0i BK192.out 0).trans rfl,(q0i BK192.out 1).trans rfl⟩ (fun hHeld => ?_)
    clear hK K
    refine norm_ (a' := ?_) ?_ ?_
    rotate_left
    ·show Act.put _ (some 7) _ = _
     simp only [Act.put,zA,zB,zC,i64_w,i32_w]
     rfl
    refine one_ (i := 5) (N := some 21) #[true,true,true,true,true,true,false,true,false] rfl rfl (one_of HT_.out (by kernel_rfl)) (by decide) (fun K hK => ?_)
    refine Kd.R_make_step (Kd.int .u64) _ 96 (by rfl) (N := 21) rfl 27 _ _ rfl 20 rfl rfl Try.underlying27 (.int .u64 0) 8 info96 rfl (by decide) (by omega) 0 (ok := fun _ => True) (okp := fun _ => True) rfl (fun _ hk => hk) trivial (by omega) (by omega) (Below.refl _ _) (Nat.le_refl _) ?_
    intro v194 w21 ho22 hb hg_ hnew_
    clear hg_ hnew_
    (first | rw [← Ny193.out] at ho22 | (simp only [Int.reduceToNat] at ho22;rw [← Ny193.out] at ho22))
    have n0_ := Aside0.mk (Kd.R_elder' (by (with_reducible repeat (first | apply Kd.q0m | apply Kd.q0n | apply Kd.q0o));exact HO186.out) (Kd.R_base ho22) hb)
    have n1_ := Aside0.mk (Kd.R_elder' (by (with_reducible repeat (first | apply Kd.q0m | apply Kd.q0n | apply Kd.q0o));exact HO191.out) (Kd.R_base ho22) hb)
    have n2_ := Aside0.mk (Kd.R_lower (Kd.R_new' (Kd.R_new' ho22 (Kd.R_lt (by (with_reducible repeat (first | apply Kd.q0m | apply Kd.q0n | apply Kd.q0o));exact HO186.out))) (Kd.R_lt (by (with_reducible repeat (first | apply Kd.q0m | apply Kd.q0n | apply Kd.q0o));exact HO191.out))) (q0p (by repeat (first | (with_reducible first | exact HB.out | apply q0h | apply q0d | apply q0f | refine q0g ?_ GE182.out | refine q0g ?_ GE187.out | refine q0g ?_ GE192.out | refine q0g ?_ GE196.out) | exact HB.out))))
    have n3_ := Aside0.mk (q0q (g := gb182) (o := .cells #[.bool false,.slice none 0 0] 29 (0,0)) (by (with_reducible repeat (first | refine q0b ?_ _ | refine q0c ?_ | refine q0a ?_ _));exact BK182.out) hb)
    have n4_ := Aside0.mk (q0q (g := gb187) (o := .cells #[.bool t183,.slice Ao11 t184.length co11] 29 (0,0)) (by (with_reducible repeat (first | refine q0b ?_ _ | refine q0c ?_ | refine q0a ?_ _));exact BK187.out) hb)
    have n5_ := Aside0.mk (q0q (g := gb192) (o := .cells #[.bool t188,.slice Ao17 t189.length co17] 29 (0,0)) (by (with_reducible repeat (first | refine q0b ?_ _ | refine q0c ?_ | refine q0a ?_ _));exact BK192.out) hb)
    have n6_ := Aside0.mk (q0q (g := gb196) (o := .cells #[.bool false,.slice none 0 0] 29 (0,0)) (by (with_reducible repeat (first | refine q0b ?_ _ | refine q0c ?_ | refine q0a ?_ _));exact BK196.out) hb)
    have n7_ := Aside0.mk (q0s (by repeat (first | (with_reducible first | exact HB.out | apply q0h | apply q0d | apply q0f | refine q0g ?_ GE182.out | refine q0g ?_ GE187.out | refine q0g ?_ GE192.out | refine q0g ?_ GE196.out) | exact HB.out)) hb)
    clear HO186
    clear HO191
    clear BK182
    clear BK187
    clear BK192
    clear BK196
    clear HB
    have HO186 := n0_
    have HO191 := n1_
    have HO195 := n2_
    have BK182 := n3_
    have BK187 := n4_
    have BK192 := n5_
    have BK196 := n6_
    have HB := n7_
    clear n0_ n1_ n2_ n3_ n4_ n5_ n6_ n7_
    clear hb ho22
    obtain ⟨Ao23,co23,eo23⟩ := Kd.R_slice HO195.out
    (first | subst eo23 | (injection eo23 with f1_ f2_ f3_;have f4_ := f1_.symm;have f5_ := f3_.symm;clear f1_ f2_ f3_;subst f4_;subst f5_))
    refine hK.out _ _ ⟨(q0i BK187.out 0).trans rfl,(q0i BK187.out 1).trans rfl,(q0i BK192.out 0).trans rfl,(q0i BK192.out 1).trans rfl⟩ (fun hHeld => ?_)
    clear hK K
    refine norm_ (a' := ?_) ?_ ?_
    rotate_left
    ·show Act.put _ (some 21) _ = _
     simp only [Act.put,zA,zB,zC,i64_w,i32_w]
     rfl
    refine pure_ (i := 6) (N := some 22) (v := ?_) (a' := ?_) #[true,true,true,true,true,true,true,true,false] rfl rfl (q0r HT_.out (by kernel_rfl)) (fun _ _ _ h => h) (Or.inl ⟨by rfl,?_⟩) ?_ ?_
    rotate_left
    ·intro w'
     go_simp
     with_reducible rfl
    rotate_left
    ·simp only [Act.put,zA,zB,zC,i64_w,i32_w]
     rfl
    exact norm_ (by simp only [putAll,Act.put,zA,zB,zC] <;> rfl) (hCont (.slice Ao23 y193.length co23,gb196) _ ⟨hHeld,(by (with_reducible repeat (first | apply Kd.q0m | apply Kd.q0n | apply Kd.q0o));exact HO186.out),(by (with_reducible repeat (first | apply Kd.q0m | apply Kd.q0n | apply Kd.q0o));exact HO191.out),(by (with_reducible repeat (first | apply Kd.q0m | apply Kd.q0n | apply Kd.q0o));exact Kd.R_mono HO195.out (fun _ hk => ⟨hk.1.2,hk.2⟩)),(by (with_reducible repeat (first | refine q0b ?_ _ | refine q0c ?_ | refine q0a ?_ _));exact BK182.out),(by (with_reducible repeat (first | refine q0b ?_ _ | refine q0c ?_ | refine q0a ?_ _));exact BK187.out),(by (with_reducible repeat (first | refine q0b ?_ _ | refine q0c ?_ | refine q0a ?_ _));exact BK192.out),(by (with_reducible repeat (first | refine q0b ?_ _ | refine q0c ?_ | refine q0a ?_ _));exact BK196.out),GW196.out,GE196.out,NB182_196.out,NB196_182.out,NB187_196.out,NB196_187.out,NB192_196.out,NB196_192.out,(by repeat (first | (with_reducible first | exact HB.out | apply q0h | apply q0d | apply q0f | refine q0g ?_ GE182.out | refine q0g ?_ GE187.out | refine q0g ?_ GE192.out | refine q0g ?_ GE196.out) | exact HB.out))⟩)
  rintro ⟨v194,gb196⟩ w24 ⟨hS_,h0_,h1_,h2_,h3_,h4_,h5_,h6_,h7_,h8_,h9_,h10_,h11_,h12_,h13_,h14_,h15_⟩
  have n0_ : Aside0 (Kd.R (Kd.int .u64) 96 w24 w.heap.size (fun k_ => some k_ ≠ (.slice Ao17 t189.length co17 : Value).ownBlock ∧ some k_ ≠ (v194 : Value).ownBlock) (.slice Ao11 t184.length co11) t184) := ⟨h0_⟩
  have n1_ : Aside0 (Kd.R (Kd.int .u64) 96 w24 w.heap.size (fun k_ => some k_ ≠ (.slice Ao11 t184.length co11 : Value).ownBlock ∧ some k_ ≠ (v194 : Value).ownBlock) (.slice Ao17 t189.length co17) t189) := ⟨h1_⟩
  have n2_ : Aside0 (Kd.R (Kd.int .u64) 96 w24 w.heap.size (fun k_ => some k_ ≠ (.slice Ao11 t184.length co11 : Value).ownBlock ∧ some k_ ≠ (.slice Ao17 t189.length co17 : Value).ownBlock) v194 y193) := ⟨h2_⟩
  have n3_ : Aside0 (w24.heap[gb182]? = some (.cells #[.bool false,.slice none 0 0] 29 (0,0))) := ⟨h3_⟩
  have n4_ : Aside0 (w24.heap[gb187]? = some (.cells #[.bool t183,.slice Ao11 t184.length co11] 29 (0,0))) := ⟨h4_⟩
  have n5_ : Aside0 (w24.heap[gb192]? = some (.cells #[.bool t188,.slice Ao17 t189.length co17] 29 (0,0))) := ⟨h5_⟩
  have n6_ : Aside0 (w24.heap[gb196]? = some (.cells #[.bool false,.slice none 0 0] 29 (0,0))) := ⟨h6_⟩
  have n7_ : Aside0 (w.heap.size ≤ gb196) := ⟨h7_⟩
  have n8_ : Aside0 (w.heap.size ≤ gb196) := ⟨h8_⟩
  have n9_ : Aside0 (gb182 ≠ gb196) := ⟨h9_⟩
  have n10_ : Aside0 (gb196 ≠ gb182) := ⟨h10_⟩
  have n11_ : Aside0 (gb187 ≠ gb196) := ⟨h11_⟩
  have n12_ : Aside0 (gb196 ≠ gb187) := ⟨h12_⟩
  have n13_ : Aside0 (gb192 ≠ gb196) := ⟨h13_⟩
  have n14_ : Aside0 (gb196 ≠ gb192) := ⟨h14_⟩
  have n15_ : Aside0 (Below w.heap.size w w24) := ⟨h15_⟩
  clear HO186
  clear HO191
  clear BK182
  clear BK187
  clear BK192
  clear HB
  clear h0_ h1_ h2_ h3_ h4_ h5_ h6_ h7_ h8_ h9_ h10_ h11_ h12_ h13_ h14_ h15_
  have HO186 := n0_
  have HO191 := n1_
  have HO195 := n2_
  have BK182 := n3_
  have BK187 := n4_
  have BK192 := n5_
  have BK196 := n6_
  have GW196 := n7_
  have GE196 := n8_
  have NB182_196 := n9_
  have NB196_182 := n10_
  have NB187_196 := n11_
  have NB196_187 := n12_
  have NB192_196 := n13_
  have NB196_192 := n14_
  have HB := n15_
  clear n0_ n1_ n2_ n3_ n4_ n5_ n6_ n7_ n8_ n9_ n10_ n11_ n12_ n13_ n14_ n15_
  have hHeld : w24.cell? ⟨gb187,0,none⟩ = some (.bool t183) ∧ w24.cell? ⟨gb187,1,none⟩ = some (.slice Ao11 t184.length co11) ∧ w24.cell? ⟨gb192,0,none⟩ = some (.bool t188) ∧ w24.cell? ⟨gb192,1,none⟩ = some (.slice Ao17 t189.length co17) := hS_
  obtain ⟨Ao25,co25,eo25⟩ := Kd.R_slice HO195.out
  (first | subst eo25 | (injection eo25 with f1_ f2_ f3_;have f4_ := f1_.symm;have f5_ := f3_.symm;clear f1_ f2_ f3_;subst f4_;subst f5_))
  refine norm_ (a' := ?_) ?_ ?_
  rotate_left
  ·simp only [putAll,Act.put,zA,zB,zC]
   rfl
  refine one_ (i := 8) (N := none) #[true,true,true,true,true,true,true,true,true] rfl rfl (one_of HT_.out (by kernel_rfl)) (by decide) (fun K hK => ?_)
  have hs26 : w24.cell? ⟨gb196,0,none⟩ = some (.bool false) := (q0i BK196.out 0).trans rfl
  have hfs26 := q0k BK196.out 0
  have hns26_0 := NB182_196.out
  have hns26_1 := NB187_196.out
  have hns26_2 := NB192_196.out
  have hms26_0 := NB196_182.out
  have hms26_1 := NB196_187.out
  have hms26_2 := NB196_192.out
  have hs27 : w24.cell? ⟨gb196,1,none⟩ = some (.slice none 0 0) := (q0i BK196.out 1).trans rfl
  have hfs27 := q0k BK196.out 1
  have hns27_0 := NB182_196.out
  have hns27_1 := NB187_196.out
  have hns27_2 := NB192_196.out
  have hms27_0 := NB196_182.out
  have hms27_1 := NB196_187.out
  have hms27_2 := NB196_192.out
  refine skip_ (w1 := ?_) (by rfl) rfl ?_ ?_
  rotate_left
  ·go_simp
   rfl
  refine hK.out _ _ ⟨((cell_far (p := ⟨gb196,_,none⟩) NB187_196.out _).trans (((cell_far (p := ⟨gb196,_,none⟩) NB187_196.out _).trans (hHeld.1)))),((cell_far (p := ⟨gb196,_,none⟩) NB187_196.out _).trans (((cell_far (p := ⟨gb196,_,none⟩) NB187_196.out _).trans (hHeld.2.1)))),((cell_far (p := ⟨gb196,_,none⟩) NB192_196.out _).trans (((cell_far (p := ⟨gb196,_,none⟩) NB192_196.out _).trans (hHeld.2.2.1)))),((cell_far (p := ⟨gb196,_,none⟩) NB192_196.out _).trans (((cell_far (p := ⟨gb196,_,none⟩) NB192_196.out _).trans (hHeld.2.2.2))))⟩ (fun hHeld => ?_)
  clear hK K
  refine done_ (done_of HT_.out (by kernel_rfl)) ?_
  try go_wp2
  go_loopg [8] k (fun kq v8 w' => ∃ (x8_1 : Int) (x188001_1 : List Int) (x193001_1 : List Int) (x197001_1 : List Int) (u188001 : Value) (u193001 : Value) (u197001 : Value),v8 = .int .i64 x8_1 ∧ Aside0 (verdererref03_Times.l0 kq x8_1 t183 x188001_1 t188 x193001_1 (t183 != t188) x197001_1 = some (r1,r2)) ∧ Aside0 (kq ≤ k) ∧ Aside0 (Kd.R (Kd.int .u64) 96 w' w.heap.size (fun k_ => some k_ ≠ (u193001 : Value).ownBlock ∧ some k_ ≠ (u197001 : Value).ownBlock) u188001 x188001_1) ∧ Aside0 (Kd.R (Kd.int .u64) 96 w' w.heap.size (fun k_ => some k_ ≠ (u188001 : Value).ownBlock ∧ some k_ ≠ (u197001 : Value).ownBlock) u193001 x193001_1) ∧ Aside0 (Kd.R (Kd.int .u64) 96 w' w.heap.size (fun k_ => some k_ ≠ (u188001 : Value).ownBlock ∧ some k_ ≠ (u193001 : Value).ownBlock) u197001 x197001_1) ∧ Aside0 (w'.heap[gb182]? = some (.cells #[.bool false,(.slice none 0 0)] 29 (0,0))) ∧ Aside0 (w'.heap[gb187]? = some (.cells #[.bool t183,u188001] 29 (0,0))) ∧ Aside0 (w'.heap[gb192]? = some (.cells #[.bool t188,u193001] 29 (0,0))) ∧ Aside0 (w'.heap[gb196]? = some (.cells #[.bool (t183 != t188),u197001] 29 (0,0))) ∧ Aside0 (Below w.heap.size w w'))
  case atStart => exact ⟨(0),(t184),(t189),(y193),(.slice Ao11 t184.length co11),(.slice Ao17 t189.length co17),(.slice Ao25 y193.length co25),(by first | rfl | (simp;done) | (simp [*];done)),H',⟨Nat.le_refl _⟩,⟨by (with_reducible repeat (first | apply Kd.q0m | apply Kd.q0n | apply Kd.q0o));exact Kd.R_mono (Kd.R_far (p := ⟨gb196,1,none⟩) (Kd.R_far (p := ⟨gb196,0,none⟩) (Kd.R_types HO186.out BK196.out (by decide)) (fun _ hk => hk.2) (.bool (t183 != t188))) (fun _ hk => hk.2) (.slice Ao25 y193.length co25)) (fun _ hk => ⟨hk.1.1,hk.1.2⟩)⟩,⟨by (with_reducible repeat (first | apply Kd.q0m | apply Kd.q0n | apply Kd.q0o));exact Kd.R_mono (Kd.R_far (p := ⟨gb196,1,none⟩) (Kd.R_far (p := ⟨gb196,0,none⟩) (Kd.R_types HO191.out BK196.out (by decide)) (fun _ hk => hk.2) (.bool (t183 != t188))) (fun _ hk => hk.2) (.slice Ao25 y193.length co25)) (fun _ hk => ⟨hk.1.1,hk.1.2⟩)⟩,⟨by (with_reducible repeat (first | apply Kd.q0m | apply Kd.q0n | apply Kd.q0o));exact Kd.R_mono (Kd.R_far (p := ⟨gb196,1,none⟩) (Kd.R_far (p := ⟨gb196,0,none⟩) (Kd.R_types HO195.out BK196.out (by decide)) (fun _ hk => hk.2) (.bool (t183 != t188))) (fun _ hk => hk.2) (.slice Ao25 y193.length co25)) (fun _ hk => ⟨hk.1.1,hk.1.2⟩)⟩,⟨by (with_reducible repeat (first | refine q0b ?_ _ | refine q0c ?_ | refine q0a ?_ _));refine q0u ?_ NB182_196.out _;(with_reducible repeat (first | refine q0b ?_ _ | refine q0c ?_ | refine q0a ?_ _));refine q0u ?_ NB182_196.out _;(with_reducible repeat (first | refine q0b ?_ _ | refine q0c ?_ | refine q0a ?_ _));exact BK182.out⟩,⟨by (with_reducible repeat (first | refine q0b ?_ _ | refine q0c ?_ | refine q0a ?_ _));refine q0u ?_ NB187_196.out _;(with_reducible repeat (first | refine q0b ?_ _ | refine q0c ?_ | refine q0a ?_ _));refine q0u ?_ NB187_196.out _;(with_reducible repeat (first | refine q0b ?_ _ | refine q0c ?_ | refine q0a ?_ _));exact BK187.out⟩,⟨by (with_reducible repeat (first | refine q0b ?_ _ | refine q0c ?_ | refine q0a ?_ _));refine q0u ?_ NB192_196.out _;(with_reducible repeat (first | refine q0b ?_ _ | refine q0c ?_ | refine q0a ?_ _));refine q0u ?_ NB192_196.out _;(with_reducible repeat (first | refine q0b ?_ _ | refine q0c ?_ | refine q0a ?_ _));exact BK192.out⟩,⟨by (with_reducible repeat (first | refine q0b ?_ _ | refine q0c ?_ | refine q0a ?_ _));refine q0t (cs := #[.bool (t183 != t188),.slice none 0 0]) ?_ 1 _ rfl;(with_reducible repeat (first | refine q0b ?_ _ | refine q0c ?_ | refine q0a ?_ _));refine q0t (cs := #[.bool false,.slice none 0 0]) ?_ 0 _ rfl;(with_reducible repeat (first | refine q0b ?_ _ | refine q0c ?_ | refine q0a ?_ _));exact BK196.out⟩,⟨by repeat (first | (with_reducible first | exact HB.out | apply q0h | apply q0d | apply q0f | refine q0g ?_ GE182.out | refine q0g ?_ GE187.out | refine q0g ?_ GE192.out | refine q0g ?_ GE196.out) | exact HB.out)⟩⟩
  case round =>
   clear H'
   try clear c1
   try clear p2
   try clear c5
   try clear c5b0
   try clear c5b1
   try clear c6
   try clear c9
   try clear c14
   try clear c15
   try clear c17
   try clear hcz10_0
   try clear hcz10_1
   try clear hcz16_0
   try clear hcz16_1
   try clear hfz10_0
   try clear hfz10_1
   try clear hfz16_0
   try clear hfz16_1
   obtain ⟨x8_1,x188001_1,x193001_1,x197001_1,u188001,u193001,u197001,rfl,HA,HK1,HO_188001,HO_193001,HO_197001,BK182,BK187,BK192,BK196,HB⟩ := hrel
   cases gk with
   | zero => exact absurd HA.out (by simp [verdererref03_Times.l0])
   | succ k1 =>
    have H := HA.out
    clear HA
    simp only [verdererref03_Times.l0] at H
    by_cases c28 : x8_1 < 4
    ·rw [if_pos c28] at H
     have c28b0 : decide (x8_1 < 4) = true := decide_eq_true c28
     clear c28
     have H' := Aside0.mk H
     clear H
     go_wp2
     go_loopg [9,10] k1 (fun kq v9 v10 w' => ∃ (x9_2 : Int) (x10_2 : Int) (x188001_2 : List Int) (x193001_2 : List Int) (x197001_2 : List Int) (u188001 : Value) (u193001 : Value) (u197001 : Value),v9 = .int .u64 x9_2 ∧ v10 = .int .i64 x10_2 ∧ Aside0 (verdererref03_Times.l1 kq x8_1 x9_2 x10_2 t183 x188001_2 t188 x193001_2 (t183 != t188) x197001_2 = some (r1,r2)) ∧ Aside0 (kq ≤ k1) ∧ Aside0 (Kd.R (Kd.int .u64) 96 w' w.heap.size (fun k_ => some k_ ≠ (u193001 : Value).ownBlock ∧ some k_ ≠ (u197001 : Value).ownBlock) u188001 x188001_2) ∧ Aside0 (Kd.R (Kd.int .u64) 96 w' w.heap.size (fun k_ => some k_ ≠ (u188001 : Value).ownBlock ∧ some k_ ≠ (u197001 : Value).ownBlock) u193001 x193001_2) ∧ Aside0 (Kd.R (Kd.int .u64) 96 w' w.heap.size (fun k_ => some k_ ≠ (u188001 : Value).ownBlock ∧ some k_ ≠ (u193001 : Value).ownBlock) u197001 x197001_2) ∧ Aside0 (w'.heap[gb182]? = some (.cells #[.bool false,(.slice none 0 0)] 29 (0,0))) ∧ Aside0 (w'.heap[gb187]? = some (.cells #[.bool t183,u188001] 29 (0,0))) ∧ Aside0 (w'.heap[gb192]? = some (.cells #[.bool t188,u193001] 29 (0,0))) ∧ Aside0 (w'.heap[gb196]? = some (.cells #[.bool (t183 != t188),u197001] 29 (0,0))) ∧ Aside0 (Below w.heap.size w w'))
     case atStart => exact ⟨(0),(0),(x188001_1),(x193001_1),(x197001_1),(u188001),(u193001),(u197001),(by first | rfl | (simp;done) | (simp [*];done)),(by first | rfl | (simp;done) | (simp [*];done)),H',⟨Nat.le_refl _⟩,⟨by (with_reducible repeat (first | apply Kd.q0m | apply Kd.q0n | apply Kd.q0o));exact HO_188001.out⟩,⟨by (with_reducible repeat (first | apply Kd.q0m | apply Kd.q0n | apply Kd.q0o));exact HO_193001.out⟩,⟨by (with_reducible repeat (first | apply Kd.q0m | apply Kd.q0n | apply Kd.q0o));exact HO_197001.out⟩,⟨by (with_reducible repeat (first | refine q0b ?_ _ | refine q0c ?_ | refine q0a ?_ _));exact BK182.out⟩,⟨by (with_reducible repeat (first | refine q0b ?_ _ | refine q0c ?_ | refine q0a ?_ _));exact BK187.out⟩,⟨by (with_reducible repeat (first | refine q0b ?_ _ | refine q0c ?_ | refine q0a ?_ _));exact BK192.out⟩,⟨by (with_reducible repeat (first | refine q0b ?_ _ | refine q0c ?_ | refine q0a ?_ _));exact BK196.out⟩,⟨by repeat (first | (with_reducible first | exact HB.out | apply q0h | apply q0d | apply q0f | refine q0g ?_ GE182.out | refine q0g ?_ GE187.out | refine q0g ?_ GE192.out | refine q0g ?_ GE196.out) | exact HB.out)⟩⟩
     case round =>
      clear H'
      try clear c1
      try clear c2
      try clear p2
      try clear c5
      try clear c5b0
      try clear c5b1
      try clear c6
      try clear c9
      try clear c14
      try clear c15
      try clear c17
      try clear c28
      try clear c28b0
      try clear hcz10_0
      try clear hcz10_1
      try clear hcz16_0
      try clear hcz16_1
      try clear hfz10_0
      try clear hfz10_1
      try clear hfz16_0
      try clear hfz16_1
      try clear p2
      obtain ⟨x9_2,x10_2,x188001_2,x193001_2,x197001_2,u188001,u193001,u197001,rfl,rfl,HA,HK2,HO_188001,HO_193001,HO_197001,BK182,BK187,BK192,BK196,HB⟩ := hrel
      cases gk with
      | zero => exact absurd HA.out (by simp [verdererref03_Times.l1])
      | succ k2 =>
       have H := HA.out
       clear HA
       simp only [verdererref03_Times.l1] at H
       by_cases c29 : x10_2 < 12
       ·rw [if_pos c29] at H
        have c29b0 : decide (x10_2 < 12) = true := decide_eq_true c29
        clear c29
        obtain ⟨ji30,hji30⟩ : ∃ j_ : Int,(wrap64 (x8_1 + x10_2)) = j_ := ⟨_,rfl⟩
        replace H : (if 0 ≤ (ji30) then (if (ji30) < (x197001_2.length : Int) then ((verdererref03_Big_at.f t183 x188001_2 x8_1).bind fun t198 => ((verdererref03_Big_at.f t188 x193001_2 x10_2).bind fun t199 => (verdererref03_Times.l1 k2 x8_1 (IntKind.u64.wrap (Int.tdiv (IntKind.u64.wrap ((IntKind.u64.wrap ((rd x197001_2 (ji30)) + (IntKind.u64.wrap (t198 * t199)))) + x9_2)) 65536)) (wrap64 (x10_2 + 1)) t183 x188001_2 t188 x193001_2 (t183 != t188) (x197001_2.set ((ji30) : Int).toNat (Int.tmod (IntKind.u64.wrap ((IntKind.u64.wrap ((rd x197001_2 (ji30)) + (IntKind.u64.wrap (t198 * t199)))) + x9_2)) 65536))))) else (none)) else (none)) = some (r1,r2) := by first | (rw [hji30] at H;exact H) | (simp only [hji30] at H ⊢;exact H)
        have hji30w : (IntKind.i64.wrap (x8_1 + x10_2)) = ji30 := (i64_w _).trans hji30
        by_cases c31 : 0 ≤ (ji30)
        ·rw [if_pos c31] at H
         have c31b0 : decide (0 ≤ (ji30)) = true := decide_eq_true c31
         clear c31
         by_cases c32 : (ji30) < (x197001_2.length : Int)
         ·rw [if_pos c32] at H
          have c32b0 : decide ((ji30) < (x197001_2.length : Int)) = true := decide_eq_true c32
          clear c32
          replace H := Option.bind_eq_some_iff.mp H
          obtain ⟨t198,A330,H⟩ := H
          replace H : ((verdererref03_Big_at.f t188 x193001_2 x10_2).bind fun t199 => (verdererref03_Times.l1 k2 x8_1 (IntKind.u64.wrap (Int.tdiv (IntKind.u64.wrap ((IntKind.u64.wrap ((rd x197001_2 (ji30)) + (IntKind.u64.wrap (t198 * t199)))) + x9_2)) 65536)) (wrap64 (x10_2 + 1)) t183 x188001_2 t188 x193001_2 (t183 != t188) (x197001_2.set ((ji30) : Int).toNat (Int.tmod (IntKind.u64.wrap ((IntKind.u64.wrap ((rd x197001_2 (ji30)) + (IntKind.u64.wrap (t198 * t199)))) + x9_2)) 65536)))) = some (r1,r2) := H
          have A33 := Aside0.mk A330
          clear A330
          replace H := Option.bind_eq_some_iff.mp H
          obtain ⟨t199,A340,H⟩ := H
          replace H : (verdererref03_Times.l1 k2 x8_1 (IntKind.u64.wrap (Int.tdiv (IntKind.u64.wrap ((IntKind.u64.wrap ((rd x197001_2 (ji30)) + (IntKind.u64.wrap (t198 * t199)))) + x9_2)) 65536)) (wrap64 (x10_2 + 1)) t183 x188001_2 t188 x193001_2 (t183 != t188) (x197001_2.set ((ji30) : Int).toNat (Int.tmod (IntKind.u64.wrap ((IntKind.u64.wrap ((rd x197001_2 (ji30)) + (IntKind.u64.wrap (t198 * t199)))) + x9_2)) 65536))) = some (r1,r2) := H
          have A34 := Aside0.mk A340
          clear A340
          obtain ⟨y200,hy200⟩ : ∃ y_ : List Int,y_ = (x197001_2.set ((ji30) : Int).toNat (Int.tmod (IntKind.u64.wrap ((IntKind.u64.wrap ((rd x197001_2 (ji30)) + (IntKind.u64.wrap (t198 * t199)))) + x9_2)) 65536)) := ⟨_,rfl⟩
          replace H : (verdererref03_Times.l1 k2 x8_1 (IntKind.u64.wrap (Int.tdiv (IntKind.u64.wrap ((IntKind.u64.wrap ((rd x197001_2 (ji30)) + (IntKind.u64.wrap (t198 * t199)))) + x9_2)) 65536)) (wrap64 (x10_2 + 1)) t183 x188001_2 t188 x193001_2 (t183 != t188) y200) = some (r1,r2) := by first | (rw [hy200];with_reducible exact H) | (have H2_ := (Option.bind_some _ _).symm.trans H;rw [hy200];with_reducible exact H2_) | (have H2_ := (Option.bind_some _ _).symm.trans H;with_reducible exact H2_) | with_reducible exact H | (rw [hy200];exact H) | exact H
          have Ny200 := Aside0.mk hy200
          clear hy200
          have H' := Aside0.mk H
          clear H
          try go_wp2
          have n0_ := Aside0.mk (Kd.q0o HO_188001.out)
          have n1_ := Aside0.mk (Kd.q0o HO_193001.out)
          have n2_ := Aside0.mk (Kd.q0o HO_197001.out)
          have n3_ := Aside0.mk (q0c BK182.out)
          have n4_ := Aside0.mk (q0c BK187.out)
          have n5_ := Aside0.mk (q0c BK192.out)
          have n6_ := Aside0.mk (q0c BK196.out)
          have n7_ := Aside0.mk (q0f HB.out)
          clear HO_188001
          clear HO_193001
          clear HO_197001
          clear BK182
          clear BK187
          clear BK192
          clear BK196
          clear HB
          have HO_188001 := n0_
          have HO_193001 := n1_
          have HO_197001 := n2_
          have BK182 := n3_
          have BK187 := n4_
          have BK192 := n5_
          have BK196 := n6_
          have HB := n7_
          clear n0_ n1_ n2_ n3_ n4_ n5_ n6_ n7_
          obtain ⟨Ao37,co37,eo37⟩ := Kd.R_slice HO_197001.out
          (first | subst eo37 | (injection eo37 with f1_ f2_ f3_;have f4_ := f1_.symm;have f5_ := f3_.symm;clear f1_ f2_ f3_;subst f4_;subst f5_))
          have p197 : 0 ≤ ((ji30) : Int) := of_decide_eq_true (by first | (with_reducible assumption) | assumption)
          have q197 : (ji30) < (x197001_2.length : Int) := of_decide_eq_true (by first | (with_reducible assumption) | assumption)
          obtain ⟨ad197,e197,hx197_0⟩ := Kd.at_int (Kd.q02 HO_197001.out).2.2 (ji30) p197 q197
          cases e197
          replace p197 := eq_true p197
          replace q197 := eq_true q197
          obtain ⟨Ao38,co38,eo38⟩ := Kd.R_slice HO_188001.out
          (first | subst eo38 | (injection eo38 with f1_ f2_ f3_;have f4_ := f1_.symm;have f5_ := f3_.symm;clear f1_ f2_ f3_;subst f4_;subst f5_))
          refine start_ (n := 18) (S := fun w' => w'.cell? ⟨gb196,0,none⟩ = some (.bool (t183 != t188)) ∧ w'.cell? ⟨gb196,1,none⟩ = some (.slice (some ad197) x197001_2.length co37) ∧ w'.cell? ⟨gb187,0,none⟩ = some (.bool t183) ∧ w'.cell? ⟨gb187,1,none⟩ = some (.slice Ao38 x188001_2.length co38) ∧ w'.cell? ⟨gb192,0,none⟩ = some (.bool t188) ∧ w'.cell? ⟨gb192,1,none⟩ = some (u193001) ∧ w'.cell? (ad197.add ((ji30)).toNat) = some (.int .u64 (rd x197001_2 (ji30)))) (ds := []) #[false,false,false,false,false,false,false,false,false,false,false,false,false,false,false,false,false,false] (by kernel_rfl) rfl rfl ⟨(q0i BK196.out 0).trans rfl,(q0i BK196.out 1).trans rfl,(q0i BK187.out 0).trans rfl,(q0i BK187.out 1).trans rfl,(q0i BK192.out 0).trans rfl,(q0i BK192.out 1).trans rfl,hx197_0⟩ (fun hHeld => ?_);refine with_tabW verdererref03_Times.tab11 verdererref03_Times.bits11 (fun HT_ HW_ => ?_)
          generalize wr.drew = w36 at HO_188001 HO_193001 HO_197001 BK182 BK187 BK192 BK196 HB hx197_0 hHeld ⊢
          refine pure_ (i := 0) (N := some 31) (v := ?_) (a' := ?_) #[true,false,false,false,false,false,false,false,false,false,false,false,false,false,false,false,false,false] rfl rfl (q0r HT_.out (by kernel_rfl)) (fun _ _ _ h => h) (Or.inl ⟨by rfl,?_⟩) ?_ ?_
          rotate_left
          ·intro w'
           go_simp
           with_reducible rfl
          rotate_left
          ·simp only [Act.put,zA,zB,zC,i64_w,i32_w]
           rfl
          refine pure_ (i := 2) (N := some 33) (v := ?_) (a' := ?_) #[true,false,true,false,false,false,false,false,false,false,false,false,false,false,false,false,false,false] rfl rfl (q0r HT_.out (by kernel_rfl)) (fun _ _ _ h => h) (Or.inl ⟨by rfl,?_⟩) ?_ ?_
          rotate_left
          ·intro w'
           go_simp
           with_reducible rfl
          rotate_left
          ·simp only [Act.put,zA,zB,zC,i64_w,i32_w]
           rfl
          refine pure_ (i := 3) (N := some 34) (v := ?_) (a' := ?_) #[true,false,true,true,false,false,false,false,false,false,false,false,false,false,false,false,false,false] rfl rfl (q0r HT_.out (by kernel_rfl)) (fun _ _ _ h => h) (Or.inl ⟨by rfl,?_⟩) ?_ ?_
          rotate_left
          ·intro w'
           go_simp
           with_reducible rfl
          rotate_left
          ·simp only [Act.put,zA,zB,zC,i64_w,i32_w]
           rfl
          refine pure_ (i := 4) (N := some 35) (v := ?_) (a' := ?_) #[true,false,true,true,true,false,false,false,false,false,false,false,false,false,false,false,false,false] rfl rfl (q0r HT_.out (by kernel_rfl)) (fun _ _ _ h => h) (Or.inl ⟨by rfl,?_⟩) ?_ ?_
          rotate_left
          ·intro w'
           go_simp
           with_reducible rfl
          rotate_left
          ·simp only [Act.put,zA,zB,zC,i64_w,i32_w]
           rfl
          refine pure_ (i := 8) (N := some 39) (v := ?_) (a' := ?_) #[true,false,true,true,true,false,false,false,true,false,false,false,false,false,false,false,false,false] rfl rfl (q0r HT_.out (by kernel_rfl)) (fun _ _ _ h => h) (Or.inl ⟨by rfl,?_⟩) ?_ ?_
          rotate_left
          ·intro w'
           go_simp
           with_reducible rfl
          rotate_left
          ·simp only [Act.put,zA,zB,zC,i64_w,i32_w]
           rfl
          refine pure_ (i := 11) (N := some 42) (v := ?_) (a' := ?_) #[true,false,true,true,true,false,false,false,true,false,false,true,false,false,false,false,false,false] rfl rfl (q0r HT_.out (by kernel_rfl)) (fun _ _ _ h => h) (Or.inl ⟨by rfl,?_⟩) ?_ ?_
          rotate_left
          ·intro w'
           go_simp
           with_reducible rfl
          rotate_left
          ·simp only [Act.put,zA,zB,zC,i64_w,i32_w]
           rfl
          refine pure_ (i := 15) (N := some 46) (v := ?_) (a' := ?_) #[true,false,true,true,true,false,false,false,true,false,false,true,false,false,false,true,false,false] rfl rfl (q0r HT_.out (by kernel_rfl)) (fun _ _ _ h => h) (Or.inl ⟨by rfl,?_⟩) ?_ ?_
          rotate_left
          ·intro w'
           go_simp
           with_reducible rfl
          rotate_left
          ·simp only [Act.put,zA,zB,zC,i64_w,i32_w]
           rfl
          refine take_ (i := 1) (N := some 32) (v := ?_) (a' := ?_) #[true,true,true,true,true,false,false,false,true,false,false,true,false,false,false,true,false,false] rfl rfl (take_ofW HT_.out HW_.out (by kernel_rfl)) (fun _ _ _ h => h) (Or.inl ⟨by rfl,?_⟩) hHeld ?_ ?_
          rotate_left
          ·rintro w' ⟨s0,s1,s2,s3,s4,s5,s6⟩
           go_simp
           with_reducible rfl
          rotate_left
          ·simp only [Act.put,zA,zB,zC,i64_w,i32_w]
           rfl
          refine pure_ (i := 5) (N := some 36) (v := ?_) (a' := ?_) #[true,true,true,true,true,true,false,false,true,false,false,true,false,false,false,true,false,false] rfl rfl (q0r HT_.out (by kernel_rfl)) (fun _ _ _ h => h) (Or.inl ⟨by rfl,?_⟩) ?_ ?_
          rotate_left
          ·intro w'
           go_simp
           with_reducible rfl
          rotate_left
          ·simp only [Act.put,zA,zB,zC,i64_w,i32_w]
           rfl
          refine take_ (i := 6) (N := some 37) (v := ?_) (a' := ?_) #[true,true,true,true,true,true,true,false,true,false,false,true,false,false,false,true,false,false] rfl rfl (take_ofW HT_.out HW_.out (by kernel_rfl)) (fun _ _ _ h => h) (Or.inl ⟨by rfl,?_⟩) hHeld ?_ ?_
          rotate_left
          ·rintro w' ⟨s0,s1,s2,s3,s4,s5,s6⟩
           go_simp
           with_reducible rfl
          rotate_left
          ·simp only [Act.put,zA,zB,zC,i64_w,i32_w]
           rfl
          refine take_ (i := 7) (N := some 38) (v := ?_) (a' := ?_) #[true,true,true,true,true,true,true,true,true,false,false,true,false,false,false,true,false,false] rfl rfl (take_ofW HT_.out HW_.out (by kernel_rfl)) (fun _ _ _ h => h) (Or.inl ⟨by rfl,?_⟩) hHeld ?_ ?_
          rotate_left
          ·rintro w' ⟨s0,s1,s2,s3,s4,s5,s6⟩
           go_simp
           with_reducible rfl
          rotate_left
          ·simp only [Act.put,zA,zB,zC,i64_w,i32_w]
           rfl
          refine take_ (i := 10) (N := some 41) (v := ?_) (a' := ?_) #[true,true,true,true,true,true,true,true,true,false,true,true,false,false,false,true,false,false] rfl rfl (take_ofW HT_.out HW_.out (by kernel_rfl)) (fun _ _ _ h => h) (Or.inl ⟨by rfl,?_⟩) hHeld ?_ ?_
          rotate_left
          ·rintro w' ⟨s0,s1,s2,s3,s4,s5,s6⟩
           go_simp
           with_reducible rfl
          rotate_left
          ·simp only [Act.put,zA,zB,zC,i64_w,i32_w]
           rfl
          refine one_ (i := 9) (N := some 40) #[true,true,true,true,true,true,true,true,true,true,true,true,false,false,false,true,false,false] rfl rfl (one_of HT_.out (by kernel_rfl)) (by decide) (fun K hK => ?_)
          refine goes_ Try.func60 (by kernel_rfl) rfl #[.agg #[.bool t183,.slice Ao38 x188001_2.length co38],.int .i64 x8_1] (by rfl) rfl rfl (by (try simp only [List.map_toArray,List.map_cons,List.map_nil]);first | done | rfl | (simp only [List.length_drop,List.length_take];rfl)) ?_
          with_reducible refine (verdererref03_Big_at.calls t183 _ _ x188001_2 x8_1 t198 _ ?side1 ?side2 A33.out).mono ?_
          (case side1 => repeat (first | exact (Kd.q02 HO_188001.out).2.2 | (with_reducible refine Kd.C_alloc ?_ _) | (with_reducible refine Kd.C_drewN ?_ _) | (with_reducible refine Kd.C_drew ?_)))
          (case side2 => exact (Kd.q02 HO_188001.out).2.1)
          rintro e w39 ⟨rfl,hb⟩
          have HS6_ := (hb.cell (World.block_lt_of_cell? _ _ (hHeld.2.2.2.2.2.2))).trans (hHeld.2.2.2.2.2.2)
          refine ⟨_,rfl,?_⟩
          have n0_ := Aside0.mk (Kd.q0v (by (with_reducible repeat (first | apply Kd.q0m | apply Kd.q0n | apply Kd.q0o));exact HO_188001.out) hb)
          have n1_ := Aside0.mk (Kd.q0v (by (with_reducible repeat (first | apply Kd.q0m | apply Kd.q0n | apply Kd.q0o));exact HO_193001.out) hb)
          have n2_ := Aside0.mk (Kd.q0v (by (with_reducible repeat (first | apply Kd.q0m | apply Kd.q0n | apply Kd.q0o));exact HO_197001.out) hb)
          have n3_ := Aside0.mk (q0q (g := gb182) (o := .cells #[.bool false,.slice none 0 0] 29 (0,0)) (by (with_reducible repeat (first | refine q0b ?_ _ | refine q0c ?_ | refine q0a ?_ _));exact BK182.out) hb)
          have n4_ := Aside0.mk (q0q (g := gb187) (o := .cells #[.bool t183,.slice Ao38 x188001_2.length co38] 29 (0,0)) (by (with_reducible repeat (first | refine q0b ?_ _ | refine q0c ?_ | refine q0a ?_ _));exact BK187.out) hb)
          have n5_ := Aside0.mk (q0q (g := gb192) (o := .cells #[.bool t188,u193001] 29 (0,0)) (by (with_reducible repeat (first | refine q0b ?_ _ | refine q0c ?_ | refine q0a ?_ _));exact BK192.out) hb)
          have n6_ := Aside0.mk (q0q (g := gb196) (o := .cells #[.bool (t183 != t188),.slice (some ad197) x197001_2.length co37] 29 (0,0)) (by (with_reducible repeat (first | refine q0b ?_ _ | refine q0c ?_ | refine q0a ?_ _));exact BK196.out) hb)
          have n7_ := Aside0.mk (q0s (by repeat (first | (with_reducible first | exact HB.out | apply q0h | apply q0d | apply q0f | refine q0g ?_ GE182.out | refine q0g ?_ GE187.out | refine q0g ?_ GE192.out | refine q0g ?_ GE196.out) | exact HB.out)) hb)
          clear HO_188001
          clear HO_193001
          clear HO_197001
          clear BK182
          clear BK187
          clear BK192
          clear BK196
          clear HB
          have HO_188001 := n0_
          have HO_193001 := n1_
          have HO_197001 := n2_
          have BK182 := n3_
          have BK187 := n4_
          have BK192 := n5_
          have BK196 := n6_
          have HB := n7_
          clear n0_ n1_ n2_ n3_ n4_ n5_ n6_ n7_
          (try clear hb)
          (try clear hb2)
          (try clear hk)
          (try clear hi)
          obtain ⟨Ao40,co40,eo40⟩ := Kd.R_slice HO_193001.out
          (first | subst eo40 | (injection eo40 with f1_ f2_ f3_;have f4_ := f1_.symm;have f5_ := f3_.symm;clear f1_ f2_ f3_;subst f4_;subst f5_))
          refine hK.out _ _ ⟨(q0i BK196.out 0).trans rfl,(q0i BK196.out 1).trans rfl,(q0i BK187.out 0).trans rfl,(q0i BK187.out 1).trans rfl,(q0i BK192.out 0).trans rfl,(q0i BK192.out 1).trans rfl,HS6_⟩ (fun hHeld => ?_)
          clear hK K
          refine norm_ (a' := ?_) ?_ ?_
          rotate_left
          ·show Act.put _ (some 40) _ = _
           simp only [Act.put,zA,zB,zC,i64_w,i32_w]
           rfl
          refine one_ (i := 12) (N := some 43) #[true,true,true,true,true,true,true,true,true,true,true,true,true,false,false,true,false,false] rfl rfl (one_of HT_.out (by kernel_rfl)) (by decide) (fun K hK => ?_)
          refine goes_ Try.func60 (by kernel_rfl) rfl #[.agg #[.bool t188,.slice Ao40 x193001_2.length co40],.int .i64 x10_2] (by rfl) rfl rfl (by (try simp only [List.map_toArray,List.map_cons,List.map_nil]);first | done | rfl | (simp only [List.length_drop,List.length_take];rfl)) ?_
          with_reducible refine (verdererref03_Big_at.calls t188 _ _ x193001_2 x10_2 t199 _ ?side1 ?side2 A34.out).mono ?_
          (case side1 => repeat (first | exact (Kd.q02 HO_193001.out).2.2 | (with_reducible refine Kd.C_alloc ?_ _) | (with_reducible refine Kd.C_drewN ?_ _) | (with_reducible refine Kd.C_drew ?_)))
          (case side2 => exact (Kd.q02 HO_193001.out).2.1)
          rintro e w41 ⟨rfl,hb⟩
          have HS6_ := (hb.cell (World.block_lt_of_cell? _ _ (hHeld.2.2.2.2.2.2))).trans (hHeld.2.2.2.2.2.2)
          refine ⟨_,rfl,?_⟩
          have n0_ := Aside0.mk (Kd.q0v (by (with_reducible repeat (first | apply Kd.q0m | apply Kd.q0n | apply Kd.q0o));exact HO_188001.out) hb)
          have n1_ := Aside0.mk (Kd.q0v (by (with_reducible repeat (first | apply Kd.q0m | apply Kd.q0n | apply Kd.q0o));exact HO_193001.out) hb)
          have n2_ := Aside0.mk (Kd.q0v (by (with_reducible repeat (first | apply Kd.q0m | apply Kd.q0n | apply Kd.q0o));exact HO_197001.out) hb)
          have n3_ := Aside0.mk (q0q (g := gb182) (o := .cells #[.bool false,.slice none 0 0] 29 (0,0)) (by (with_reducible repeat (first | refine q0b ?_ _ | refine q0c ?_ | refine q0a ?_ _));exact BK182.out) hb)
          have n4_ := Aside0.mk (q0q (g := gb187) (o := .cells #[.bool t183,.slice Ao38 x188001_2.length co38] 29 (0,0)) (by (with_reducible repeat (first | refine q0b ?_ _ | refine q0c ?_ | refine q0a ?_ _));exact BK187.out) hb)
          have n5_ := Aside0.mk (q0q (g := gb192) (o := .cells #[.bool t188,.slice Ao40 x193001_2.length co40] 29 (0,0)) (by (with_reducible repeat (first | refine q0b ?_ _ | refine q0c ?_ | refine q0a ?_ _));exact BK192.out) hb)
          have n6_ := Aside0.mk (q0q (g := gb196) (o := .cells #[.bool (t183 != t188),.slice (some ad197) x197001_2.length co37] 29 (0,0)) (by (with_reducible repeat (first | refine q0b ?_ _ | refine q0c ?_ | refine q0a ?_ _));exact BK196.out) hb)
          have n7_ := Aside0.mk (q0s (by repeat (first | (with_reducible first | exact HB.out | apply q0h | apply q0d | apply q0f | refine q0g ?_ GE182.out | refine q0g ?_ GE187.out | refine q0g ?_ GE192.out | refine q0g ?_ GE196.out) | exact HB.out)) hb)
          clear HO_188001
          clear HO_193001
          clear HO_197001
          clear BK182
          clear BK187
          clear BK192
          clear BK196
          clear HB
          have HO_188001 := n0_
          have HO_193001 := n1_
          have HO_197001 := n2_
          have BK182 := n3_
          have BK187 := n4_
          have BK192 := n5_
          have BK196 := n6_
          have HB := n7_
          clear n0_ n1_ n2_ n3_ n4_ n5_ n6_ n7_
          (try clear hb)
          (try clear hb2)
          (try clear hk)
          (try clear hi)
          refine hK.out _ _ ⟨(q0i BK196.out 0).trans rfl,(q0i BK196.out 1).trans rfl,(q0i BK187.out 0).trans rfl,(q0i BK187.out 1).trans rfl,(q0i BK192.out 0).trans rfl,(q0i BK192.out 1).trans rfl,HS6_⟩ (fun hHeld => ?_)
          clear hK K
          refine norm_ (a' := ?_) ?_ ?_
          rotate_left
          ·show Act.put _ (some 43) _ = _
           simp only [Act.put,zA,zB,zC,i64_w,i32_w]
           rfl
          refine pure_ (i := 13) (N := some 44) (v := ?_) (a' := ?_) #[true,true,true,true,true,true,true,true,true,true,true,true,true,true,false,true,false,false] rfl rfl (q0r HT_.out (by kernel_rfl)) (fun _ _ _ h => h) (Or.inl ⟨by rfl,?_⟩) ?_ ?_
          rotate_left
          ·intro w'
           go_simp
           with_reducible rfl
          rotate_left
          ·simp only [Act.put,zA,zB,zC,i64_w,i32_w]
           rfl
          refine pure_ (i := 14) (N := some 45) (v := ?_) (a' := ?_) #[true,true,true,true,true,true,true,true,true,true,true,true,true,true,true,true,false,false] rfl rfl (q0r HT_.out (by kernel_rfl)) (fun _ _ _ h => h) (Or.inl ⟨by rfl,?_⟩) ?_ ?_
          rotate_left
          ·intro w'
           go_simp
           with_reducible rfl
          rotate_left
          ·simp only [Act.put,zA,zB,zC,i64_w,i32_w]
           rfl
          refine pure_ (i := 16) (N := some 47) (v := ?_) (a' := ?_) #[true,true,true,true,true,true,true,true,true,true,true,true,true,true,true,true,true,false] rfl rfl (q0r HT_.out (by kernel_rfl)) (fun _ _ _ h => h) (Or.inl ⟨by rfl,?_⟩) ?_ ?_
          rotate_left
          ·intro w'
           go_simp
           with_reducible rfl
          rotate_left
          ·simp only [Act.put,zA,zB,zC,i64_w,i32_w]
           rfl
          refine pure_ (i := 17) (N := some 11) (v := ?_) (a' := ?_) #[true,true,true,true,true,true,true,true,true,true,true,true,true,true,true,true,true,true] rfl rfl (q0r HT_.out (by kernel_rfl)) (fun _ _ _ h => h) (Or.inl ⟨by rfl,?_⟩) ?_ ?_
          rotate_left
          ·intro w'
           go_simp
           with_reducible rfl
          rotate_left
          ·simp only [Act.put,zA,zB,zC,i64_w,i32_w]
           rfl
          refine done_ (done_of HT_.out (by kernel_rfl)) ?_
          have hnb42 := NB196_182.out
          have hnc42 := NB182_196.out
          have hnb43 := NB196_187.out
          have hnc43 := NB187_196.out
          have hnb44 := NB196_192.out
          have hnc44 := NB192_196.out
          have hcz45_0 : w41.cell? ⟨gb196,0,none⟩ = some (.bool (t183 != t188)) := (q0i BK196.out 0).trans rfl
          have hcz45_1 : w41.cell? ⟨gb196,1,none⟩ = some (.slice (some ad197) x197001_2.length co37) := (q0i BK196.out 1).trans rfl
          have hfz45_0 := q0k BK196.out 0
          have hfz45_1 := q0k BK196.out 1
          have p35 : 0 ≤ ((ji30) : Int) := of_decide_eq_true (by first | (with_reducible assumption) | assumption)
          have q35 : ((ji30) : Int) < ((x197001_2.length : Int) : Int) := of_decide_eq_true (by first | (with_reducible assumption) | assumption)
          obtain ⟨go35,co35,eo35,gb35,gl35,cl35,HG35⟩ := Kd.R_form HO_197001.out (by omega)
          (first | cases eo35 | (injection eo35 with ea_ en_ ec_;(first | subst ea_ | (injection ea_ with ea_;subst ea_));subst ec_;clear en_))
          have GB35 := Aside0.mk gb35
          have GG35 := Aside0.mk HG35
          clear gb35 gl35 HG35
          (first | simp only [add_plain] at hx197_0 | skip)
          obtain ⟨hx35_0,hf35_0⟩ := Kd.R_celln 0 HO_197001.out ((ji30) : Int) p35 q35
          replace p35 := eq_true p35
          replace q35 := eq_true q35
          obtain ⟨hy46_,hz46_⟩ := Kd.R_celln 0 HO_197001.out ((ji30) : Int) (of_decide_eq_true (by first | (with_reducible assumption) | assumption)) (of_decide_eq_true (by first | (with_reducible assumption) | assumption))
          have HP46 := Kd.R_putg HO_197001.out ((ji30) : Int) (Int.tmod (IntKind.u64.wrap ((IntKind.u64.wrap ((rd x197001_2 (ji30)) + (IntKind.u64.wrap (t198 * t199)))) + x9_2)) 65536)
          try go_wp2_with (first | ((with_reducible refine gate_store (t := 96) (p := 55) rfl ?_);refine store_event (t := 96) (p := 55) (v := ?vo_w47) (w1 := (w41.setCell ⟨go35,((ji30) : Int).toNat,none⟩ (.int .u64 (Int.tmod (IntKind.u64.wrap ((IntKind.u64.wrap ((rd x197001_2 (ji30)) + (IntKind.u64.wrap (t198 * t199)))) + x9_2)) 65536)))) ?hg ?ho ?hn ?hr ?_;(case ho => rfl);(case hg => rfl);(case hn => rfl);(case hr => first | (go_simp;done) | (go_simp;rfl));intro w47 hw;have hg : w41.grownBy w47 (some go35) := (by rw [hw];exact HP46.2);have hp_ : Kd.R (Kd.int .u64) 96 w47 w.heap.size (fun k_ => some k_ ≠ (.slice Ao38 x188001_2.length co38 : Value).ownBlock ∧ some k_ ≠ (.slice Ao40 x193001_2.length co40 : Value).ownBlock) (.slice (some ⟨go35,0,none⟩) x197001_2.length co37) y200 := (by rw [hw,Ny200.out];exact HP46.1);clear HP46;have n0_ := Aside0.mk (Kd.R_after (v := (.slice (some ⟨go35,0,none⟩) x197001_2.length co37)) (v1 := (.slice (some ⟨go35,0,none⟩) x197001_2.length co37)) (ok := (fun k_ => some k_ ≠ (.slice Ao40 x193001_2.length co40 : Value).ownBlock)) (by (with_reducible repeat (first | apply Kd.q0m | apply Kd.q0n | apply Kd.q0o));exact HO_188001.out) hg (.inl rfl));have n1_ := Aside0.mk (Kd.R_after (v := (.slice (some ⟨go35,0,none⟩) x197001_2.length co37)) (v1 := (.slice (some ⟨go35,0,none⟩) x197001_2.length co37)) (ok := (fun k_ => some k_ ≠ (.slice Ao38 x188001_2.length co38 : Value).ownBlock)) (by (with_reducible repeat (first | apply Kd.q0m | apply Kd.q0n | apply Kd.q0o));exact HO_193001.out) hg (.inl rfl));have n2_ := Aside0.mk (hp_);have n3_ := Aside0.mk (blk_grown (g := gb182) (o := .cells #[.bool false,.slice none 0 0] 29 (0,0)) (by (with_reducible repeat (first | refine q0b ?_ _ | refine q0c ?_ | refine q0a ?_ _));exact BK182.out) hg (Kd.R_ne HO_197001.out BK182.out (by decide)));have n4_ := Aside0.mk (blk_grown (g := gb187) (o := .cells #[.bool t183,.slice Ao38 x188001_2.length co38] 29 (0,0)) (by (with_reducible repeat (first | refine q0b ?_ _ | refine q0c ?_ | refine q0a ?_ _));exact BK187.out) hg (Kd.R_ne HO_197001.out BK187.out (by decide)));have n5_ := Aside0.mk (blk_grown (g := gb192) (o := .cells #[.bool t188,.slice Ao40 x193001_2.length co40] 29 (0,0)) (by (with_reducible repeat (first | refine q0b ?_ _ | refine q0c ?_ | refine q0a ?_ _));exact BK192.out) hg (Kd.R_ne HO_197001.out BK192.out (by decide)));have n6_ := Aside0.mk (blk_grown (g := gb196) (o := .cells #[.bool (t183 != t188),.slice (some ⟨go35,0,none⟩) x197001_2.length co37] 29 (0,0)) (by (with_reducible repeat (first | refine q0b ?_ _ | refine q0c ?_ | refine q0a ?_ _));exact BK196.out) hg (Kd.R_ne HO_197001.out BK196.out (by decide)));have n7_ := Aside0.mk ((by rw [hw];exact q0g (HB.out) GB35.out : Below w.heap.size w w47));clear HO_188001;clear HO_193001;clear HO_197001;clear BK182;clear BK187;clear BK192;clear BK196;clear HB;have HO_188001 := n0_;have HO_193001 := n1_;have HO_197001 := n2_;have BK182 := n3_;have BK187 := n4_;have BK192 := n5_;have BK196 := n6_;have HB := n7_;clear n0_ n1_ n2_ n3_ n4_ n5_ n6_ n7_;clear hg hw hp_))
          go_roundg k2
          case measure => have := HK1.out;have := HK2.out;omega
          case rel => exact ⟨(IntKind.u64.wrap (Int.tdiv (IntKind.u64.wrap ((IntKind.u64.wrap ((rd x197001_2 (ji30)) + (IntKind.u64.wrap (t198 * t199)))) + x9_2)) 65536)),(wrap64 (x10_2 + 1)),(x188001_2),(x193001_2),(y200),(.slice Ao38 x188001_2.length co38),(.slice Ao40 x193001_2.length co40),(.slice (some ⟨go35,0,none⟩) x197001_2.length co37),(by first | rfl | (simp;done) | (simp only [← hji30] <;> (first | rfl | simp)) | (simp [*];done)),(by first | rfl | (simp;done) | (simp [*];done)),H',⟨by have := HK1.out;have := HK2.out;omega⟩,⟨by (with_reducible repeat (first | apply Kd.q0m | apply Kd.q0n | apply Kd.q0o));exact HO_188001.out⟩,⟨by (with_reducible repeat (first | apply Kd.q0m | apply Kd.q0n | apply Kd.q0o));exact HO_193001.out⟩,⟨by (with_reducible repeat (first | apply Kd.q0m | apply Kd.q0n | apply Kd.q0o));exact HO_197001.out⟩,⟨by (with_reducible repeat (first | refine q0b ?_ _ | refine q0c ?_ | refine q0a ?_ _));exact BK182.out⟩,⟨by (with_reducible repeat (first | refine q0b ?_ _ | refine q0c ?_ | refine q0a ?_ _));exact BK187.out⟩,⟨by (with_reducible repeat (first | refine q0b ?_ _ | refine q0c ?_ | refine q0a ?_ _));exact BK192.out⟩,⟨by (with_reducible repeat (first | refine q0b ?_ _ | refine q0c ?_ | refine q0a ?_ _));exact BK196.out⟩,⟨by repeat (first | (with_reducible first | exact HB.out | apply q0h | apply q0d | apply q0f | refine q0g ?_ GE182.out | refine q0g ?_ GE187.out | refine q0g ?_ GE192.out | refine q0g ?_ GE196.out) | exact HB.out)⟩⟩
         ·rw [if_neg c32] at H
          exact absurd H (by simp)
        ·rw [if_neg c31] at H
         exact absurd H (by simp)
       ·rw [if_neg c29] at H
        have c29b0 : decide (x10_2 < 12) = false := decide_eq_false c29
        clear c29
        have H' := Aside0.mk H
        clear H
        go_wp2
        go_roundg k2
        case measure => have := HK1.out;have := HK2.out;omega
        case rel => exact ⟨(wrap64 (x8_1 + 1)),(x188001_2),(x193001_2),(x197001_2),(u188001),(u193001),(u197001),(by first | rfl | (simp;done) | (simp [*];done)),H',⟨by have := HK1.out;have := HK2.out;omega⟩,⟨by (with_reducible repeat (first | apply Kd.q0m | apply Kd.q0n | apply Kd.q0o));exact HO_188001.out⟩,⟨by (with_reducible repeat (first | apply Kd.q0m | apply Kd.q0n | apply Kd.q0o));exact HO_193001.out⟩,⟨by (with_reducible repeat (first | apply Kd.q0m | apply Kd.q0n | apply Kd.q0o));exact HO_197001.out⟩,⟨by (with_reducible repeat (first | refine q0b ?_ _ | refine q0c ?_ | refine q0a ?_ _));exact BK182.out⟩,⟨by (with_reducible repeat (first | refine q0b ?_ _ | refine q0c ?_ | refine q0a ?_ _));exact BK187.out⟩,⟨by (with_reducible repeat (first | refine q0b ?_ _ | refine q0c ?_ | refine q0a ?_ _));exact BK192.out⟩,⟨by (with_reducible repeat (first | refine q0b ?_ _ | refine q0c ?_ | refine q0a ?_ _));exact BK196.out⟩,⟨by repeat (first | (with_reducible first | exact HB.out | apply q0h | apply q0d | apply q0f | refine q0g ?_ GE182.out | refine q0g ?_ GE187.out | refine q0g ?_ GE192.out | refine q0g ?_ GE196.out) | exact HB.out)⟩⟩
    ·rw [if_neg c28] at H
     have c28b0 : decide (x8_1 < 4) = false := decide_eq_false c28
     clear c28
     simp only [Option.some.injEq,Prod.mk.injEq] at H
     obtain ⟨rfl,rfl⟩ := H
     have hnb48 := NB196_182.out
     have hnc48 := NB182_196.out
     have hnb49 := NB196_187.out
     have hnc49 := NB187_196.out
     have hnb50 := NB196_192.out
     have hnc50 := NB192_196.out
     have hcz51_0 : wr.cell? ⟨gb196,0,none⟩ = some (.bool (t183 != t188)) := (q0i BK196.out 0).trans rfl
     have hcz51_1 : wr.cell? ⟨gb196,1,none⟩ = some (u197001) := (q0i BK196.out 1).trans rfl
     have hfz51_0 := q0k BK196.out 0
     have hfz51_1 := q0k BK196.out 1
     have hnb52 := NB182_187.out
     have hnc52 := NB187_182.out
     have hnb53 := NB182_192.out
     have hnc53 := NB192_182.out
     have hcz54_0 : wr.cell? ⟨gb182,0,none⟩ = some (.bool false) := (q0i BK182.out 0).trans rfl
     have hcz54_1 : wr.cell? ⟨gb182,1,none⟩ = some (.slice none 0 0) := (q0i BK182.out 1).trans rfl
     have hfz54_0 := q0k BK182.out 0
     have hfz54_1 := q0k BK182.out 1
     obtain ⟨Ao55,co55,eo55⟩ := Kd.R_slice HO_197001.out
     subst eo55
     go_wp2
     refine bodyPost_ret (results_cell_row rfl _ _ gb182 29 #[.bool (t183 != t188),.slice Ao55 x197001_1.length co55] (0,0) _ rfl (by (with_reducible repeat (first | refine q0b ?_ _ | refine q0c ?_ | refine q0a ?_ _));refine q0t (cs := #[.bool (t183 != t188),.slice none 0 0]) ?_ 1 _ rfl;(with_reducible repeat (first | refine q0b ?_ _ | refine q0c ?_ | refine q0a ?_ _));refine q0t (cs := #[.bool false,.slice none 0 0]) ?_ 0 _ rfl;(with_reducible repeat (first | refine q0b ?_ _ | refine q0c ?_ | refine q0a ?_ _));exact BK182.out) Try.underlying29 rfl (by kernel_rfl)) rfl ?_
     exact ⟨_,by first | rfl | (simp [q0w,q0x] <;> rfl) | (simp [*,q0w,q0x] <;> rfl),by (with_reducible repeat (first | apply Kd.q0m | apply Kd.q0n | apply Kd.q0o));exact Kd.R_mono (Kd.R_far (p := ⟨gb182,1,none⟩) (Kd.R_far (p := ⟨gb182,0,none⟩) (Kd.R_types HO_197001.out BK182.out (by decide)) (fun _ hk => hk.2) (.bool (t183 != t188))) (fun _ hk => hk.2) (.slice Ao55 x197001_1.length co55)) (fun _ hk => trivial),by repeat (first | (with_reducible first | exact HB.out | apply q0h | apply q0d | apply q0f | refine q0g ?_ GE182.out | refine q0g ?_ GE187.out | refine q0g ?_ GE192.out | refine q0g ?_ GE196.out) | exact HB.out)⟩
 ·rw [if_neg c5] at H
  exact absurd H (by simp)
end Go.Proofs.Ytcenlehfbgnphaa.Z
end
section
namespace Go.Proofs.Ytcenlehfbgnphaa.Z
open Go.RowKit Go.Proofs.YtcenlehfbgnphaaW.PrintWords Go.Proofs.YtcenlehfbgnphaaW.PrintLast Go.Proofs.YtcenlehfbgnphaaW.PrintMore
attribute [local go_sem] max2_int min2_int max_two min_two max_three min_three max_four min_four
set_option linter.unusedVariables false
set_option linter.unusedSimpArgs false
def verdererref28_room.f (k : Nat) (a0_0 : ByteArray) (a0_1 : ByteArray) (a0_2 : Int) (a0_3 : Int) : Option (Bool × List Int) := (verdererref03_Times.f k a0_3 1).bind fun bt339 => ((verdererref03_Times.f k a0_2 (-1)).bind fun bt343 => ((verdererref03_Plus.f k bt339.1 bt339.2 bt343.1 bt343.2).bind fun bt347 => (some (bt347.1,bt347.2))))
theorem verdererref28_room.mono : ∀ a0 a1 a2 a3 k,LeO (verdererref28_room.f k a0 a1 a2 a3) (verdererref28_room.f (k + 1) a0 a1 a2 a3) := by
 intro a0 a1 a2 a3 k
 unfold verdererref28_room.f
 repeat' first
   | (with_reducible exact verdererref03_Plus.mono _ _ _ _ _)
   | (with_reducible exact verdererref03_Times.mono _ _ _)
   | (with_reducible exact LeO.refl _)
   | (with_reducible exact LeO.none _)
   | (with_reducible refine LeO.ite ?_ ?_)
   | (with_reducible refine LeO.bind ?_ (fun _ => ?_))
   | exact verdererref03_Plus.mono _ _ _ _ _
   | exact verdererref03_Times.mono _ _ _
   | exact LeO.none _
   | refine LeO.ite ?_ ?_
   | refine LeO.bind ?_ (fun _ => ?_)
def verdererref28_room.T1 : Bool × List (List Nat × List Nat) := (true,[([],[]),([0],[0]),([1],[1]),([],[]),([3],[3]),([4,2],[4]),([2,5,5],[2,5]),([6,6,0,1,2,3,4,5,6],[6])])
def verdererref28_room.B1 : List Nat := [0,1,3,0,8,31,63,127]
theorem verdererref28_room.tab1 : rtab .any (opsOf Try.f78 1) = verdererref28_room.T1 := by kernel_rfl
theorem verdererref28_room.bits1 : waitsOk verdererref28_room.T1.2 verdererref28_room.B1 = true := by kernel_rfl
set_option maxHeartbeats 8000000 in
set_option maxRecDepth 100000 in
theorem verdererref28_room.calls (k : Nat) (a0_0 : ByteArray) (a0_1 : ByteArray) (a0_2 : Int) (a0_3 : Int) (r1 : Bool) (r2 : List Int) (w : World) (h : verdererref28_room.f k a0_0 a0_1 a0_2 a0_3 = some (r1,r2)) :
  Calls Try.prog 78 #[.agg #[.string a0_0,.string a0_1,.int .i64 a0_2,.int .i64 a0_3]] w fun e w' => ∃ v1_ : Value,e = .returned (.agg #[.bool r1,v1_]) ∧ Kd.R (Kd.int .u64) 96 w' w.heap.size (fun _ => True) v1_ r2 ∧ Below w.heap.size w w' := by
 have hu45 := Try.underlying45
 have hu29 := Try.underlying29
 have HB := Aside0.mk (Below.refl w.heap.size w)
 have H : ((verdererref03_Times.f k a0_3 1).bind fun bt339 => ((verdererref03_Times.f k a0_2 (-1)).bind fun bt343 => ((verdererref03_Plus.f k bt339.1 bt339.2 bt343.1 bt343.2).bind fun bt347 => (some (bt347.1,bt347.2))))) = some (r1,r2) := h
 clear h
 replace H := Option.bind_eq_some_iff.mp H
 obtain ⟨⟨t339,t340⟩,A20,H⟩ := H
 replace H : ((verdererref03_Times.f k a0_2 (-1)).bind fun bt343 => ((verdererref03_Plus.f k t339 t340 bt343.1 bt343.2).bind fun bt347 => (some (bt347.1,bt347.2)))) = some (r1,r2) := H
 have A2 := Aside0.mk A20
 clear A20
 replace H := Option.bind_eq_some_iff.mp H
 obtain ⟨⟨t343,t344⟩,A30,H⟩ := H
 replace H : ((verdererref03_Plus.f k t339 t340 t343 t344).bind fun bt347 => (some (bt347.1,bt347.2))) = some (r1,r2) := H
 have A3 := Aside0.mk A30
 clear A30
 replace H := Option.bind_eq_some_iff.mp H
 obtain ⟨⟨t347,t348⟩,A40,H⟩ := H
 replace H : (some (t347,t348)) = some (r1,r2) := H
 have A4 := Aside0.mk A40
 clear A40
 simp only [Option.some.injEq,Prod.mk.injEq] at H
 obtain ⟨rfl,rfl⟩ := H
 go_enter Try.func78,Try.ntmps78
 try go_wp2_with (first | ((with_reducible refine gate_dst (N := 1) rfl ?_);refine q03 ?hg (N := 1) ?hd (cs := #[.string a0_0,.string a0_1,.int .i64 a0_2,.int .i64 a0_3]) (t := 45) ?hr ?_;(case hd => rfl);(case hg => rfl);(case hr => first | (go_simp;done) | (go_simp;rfl));intro gb337 hg w5 hbox hb;have n0_ := Aside0.mk (q0s (by repeat (first | (with_reducible first | exact HB.out | apply q0h | apply q0d | apply q0f) | exact HB.out)) hb);have n1_ := Aside0.mk (hbox);have n2_ := Aside0.mk ((by rw [hg];exact (q0p (by repeat (first | (with_reducible first | exact HB.out | apply q0h | apply q0d | apply q0f) | exact HB.out))) : w.heap.size ≤ gb337));have n3_ := Aside0.mk ((by rw [hg];exact (q0p (by repeat (first | (with_reducible first | exact HB.out | apply q0h | apply q0d | apply q0f) | exact HB.out))) : w.heap.size ≤ gb337));clear HB;have HB := n0_;have BK337 := n1_;have GW337 := n2_;have GE337 := n3_;clear n0_ n1_ n2_ n3_;clear hb hbox hg) | ((with_reducible refine gate_dst (N := 2) rfl ?_);refine q03 ?hg (N := 2) ?hd (cs := #[.bool false,.slice none 0 0]) (t := 29) ?hr ?_;(case hd => rfl);(case hg => rfl);(case hr => first | (go_simp;done) | (go_simp;rfl));intro gb338 hg w6 hbox hb;have n0_ := Aside0.mk (q0q (g := gb337) (o := .cells #[.string a0_0,.string a0_1,.int .i64 a0_2,.int .i64 a0_3] 45 (0,0)) (by (with_reducible repeat (first | refine q0b ?_ _ | refine q0c ?_ | refine q0a ?_ _));exact BK337.out) hb);have n1_ := Aside0.mk (q0s (by repeat (first | (with_reducible first | exact HB.out | apply q0h | apply q0d | apply q0f | refine q0g ?_ GE337.out) | exact HB.out)) hb);have n2_ := Aside0.mk (hbox);have n3_ := Aside0.mk ((by rw [hg];exact (q0p (by repeat (first | (with_reducible first | exact HB.out | apply q0h | apply q0d | apply q0f | refine q0g ?_ GE337.out) | exact HB.out))) : w.heap.size ≤ gb338));have n4_ := Aside0.mk ((by rw [hg];exact (q0p (by repeat (first | (with_reducible first | exact HB.out | apply q0h | apply q0d | apply q0f | refine q0g ?_ GE337.out) | exact HB.out))) : w.heap.size ≤ gb338));have n5_ := Aside0.mk ((by rw [hg];exact Nat.ne_of_lt (q0y (g := gb337) (o := .cells #[.string a0_0,.string a0_1,.int .i64 a0_2,.int .i64 a0_3] 45 (0,0)) (by (with_reducible repeat (first | refine q0b ?_ _ | refine q0c ?_ | refine q0a ?_ _));exact BK337.out)) : gb337 ≠ gb338));have n6_ := Aside0.mk ((by rw [hg];exact Nat.ne_of_gt (q0y (g := gb337) (o := .cells #[.string a0_0,.string a0_1,.int .i64 a0_2,.int .i64 a0_3] 45 (0,0)) (by (with_reducible repeat (first | refine q0b ?_ _ | refine q0c ?_ | refine q0a ?_ _));exact BK337.out)) : gb338 ≠ gb337));clear BK337;clear HB;have BK337 := n0_;have HB := n1_;have BK338 := n2_;have GW338 := n3_;have GE338 := n4_;have NB337_338 := n5_;have NB338_337 := n6_;clear n0_ n1_ n2_ n3_ n4_ n5_ n6_;clear hb hbox hg))
 have n0_ := Aside0.mk (q0c BK337.out)
 have n1_ := Aside0.mk (q0c BK338.out)
 have n2_ := Aside0.mk (q0f HB.out)
 clear BK337
 clear BK338
 clear HB
 have BK337 := n0_
 have BK338 := n1_
 have HB := n2_
 clear n0_ n1_ n2_
 refine start_ (n := 8) (S := fun w' => w'.cell? ⟨gb337,0,none⟩ = some (.string a0_0) ∧ w'.cell? ⟨gb337,1,none⟩ = some (.string a0_1) ∧ w'.cell? ⟨gb337,2,none⟩ = some (.int .i64 a0_2) ∧ w'.cell? ⟨gb337,3,none⟩ = some (.int .i64 a0_3)) (ds := []) #[false,false,false,false,false,false,false,false] (by kernel_rfl) rfl rfl ⟨(q0i BK337.out 0).trans rfl,(q0i BK337.out 1).trans rfl,(q0i BK337.out 2).trans rfl,(q0i BK337.out 3).trans rfl⟩ (fun hHeld => ?_);refine with_tabW verdererref28_room.tab1 verdererref28_room.bits1 (fun HT_ HW_ => ?_)
 generalize w6.drew = w7 at BK337 BK338 HB hHeld ⊢
 refine pure_ (i := 0) (N := some 3) (v := ?_) (a' := ?_) #[true,false,false,false,false,false,false,false] rfl rfl (q0r HT_.out (by kernel_rfl)) (fun _ _ _ h => h) (Or.inl ⟨by rfl,?_⟩) ?_ ?_
 rotate_left
 ·intro w'
  go_simp
  with_reducible rfl
 rotate_left
 ·simp only [Act.put,zA,zB,zC,i64_w,i32_w]
  rfl
 refine pure_ (i := 3) (N := some 6) (v := ?_) (a' := ?_) #[true,false,false,true,false,false,false,false] rfl rfl (q0r HT_.out (by kernel_rfl)) (fun _ _ _ h => h) (Or.inl ⟨by rfl,?_⟩) ?_ ?_
 rotate_left
 ·intro w'
  go_simp
  with_reducible rfl
 rotate_left
 ·simp only [Act.put,zA,zB,zC,i64_w,i32_w]
  rfl
 refine take_ (i := 1) (N := some 4) (v := ?_) (a' := ?_) #[true,true,false,true,false,false,false,false] rfl rfl (take_ofW HT_.out HW_.out (by kernel_rfl)) (fun _ _ _ h => h) (Or.inl ⟨by rfl,?_⟩) hHeld ?_ ?_
 rotate_left
 ·rintro w' ⟨s0,s1,s2,s3⟩
  go_simp
  with_reducible rfl
 rotate_left
 ·simp only [Act.put,zA,zB,zC,i64_w,i32_w]
  rfl
 refine take_ (i := 4) (N := some 7) (v := ?_) (a' := ?_) #[true,true,false,true,true,false,false,false] rfl rfl (take_ofW HT_.out HW_.out (by kernel_rfl)) (fun _ _ _ h => h) (Or.inl ⟨by rfl,?_⟩) hHeld ?_ ?_
 rotate_left
 ·rintro w' ⟨s0,s1,s2,s3⟩
  go_simp
  with_reducible rfl
 rotate_left
 ·simp only [Act.put,zA,zB,zC,i64_w,i32_w]
  rfl
 refine one_ (i := 2) (N := some 5) #[true,true,true,true,true,false,false,false] rfl rfl (one_of HT_.out (by kernel_rfl)) (by decide) (fun K hK => ?_)
 refine goes_ Try.func17 (by kernel_rfl) rfl #[.int .i64 a0_3,.int .i64 1] (by rfl) rfl rfl (by (try simp only [List.map_toArray,List.map_cons,List.map_nil]);first | done | rfl | (simp only [List.length_drop,List.length_take];rfl)) ?_
 with_reducible refine (verdererref03_Times.calls k a0_3 1 t339 t340 _ A2.out).mono ?_
 rintro e w8 ⟨v341,rfl,ho0,hb⟩
 refine ⟨_,rfl,?_⟩
 have n0_ := Aside0.mk (Kd.R_lower ho0 (q0p (by repeat (first | (with_reducible first | exact HB.out | apply q0h | apply q0d | apply q0f | refine q0g ?_ GE337.out | refine q0g ?_ GE338.out) | exact HB.out))))
 have n1_ := Aside0.mk (q0q (g := gb337) (o := .cells #[.string a0_0,.string a0_1,.int .i64 a0_2,.int .i64 a0_3] 45 (0,0)) (by (with_reducible repeat (first | refine q0b ?_ _ | refine q0c ?_ | refine q0a ?_ _));exact BK337.out) hb)
 have n2_ := Aside0.mk (q0q (g := gb338) (o := .cells #[.bool false,.slice none 0 0] 29 (0,0)) (by (with_reducible repeat (first | refine q0b ?_ _ | refine q0c ?_ | refine q0a ?_ _));exact BK338.out) hb)
 have n3_ := Aside0.mk (q0s (by repeat (first | (with_reducible first | exact HB.out | apply q0h | apply q0d | apply q0f | refine q0g ?_ GE337.out | refine q0g ?_ GE338.out) | exact HB.out)) hb)
 clear BK337
 clear BK338
 clear HB
 have HO342 := n0_
 have BK337 := n1_
 have BK338 := n2_
 have HB := n3_
 clear n0_ n1_ n2_ n3_
 (try clear hb)
 (try clear hb2)
 (try clear hk)
 (try clear hi)
 (try clear ho0)
 refine hK.out _ _ ⟨(q0i BK337.out 0).trans rfl,(q0i BK337.out 1).trans rfl,(q0i BK337.out 2).trans rfl,(q0i BK337.out 3).trans rfl⟩ (fun hHeld => ?_)
 clear hK K
 refine norm_ (a' := ?_) ?_ ?_
 rotate_left
 ·show Act.put _ (some 5) _ = _
  simp only [Act.put,zA,zB,zC,i64_w,i32_w]
  rfl
 refine one_ (i := 5) (N := some 8) #[true,true,true,true,true,true,false,false] rfl rfl (one_of HT_.out (by kernel_rfl)) (by decide) (fun K hK => ?_)
 refine goes_ Try.func17 (by kernel_rfl) rfl #[.int .i64 a0_2,.int .i64 (-1)] (by rfl) rfl rfl (by (try simp only [List.map_toArray,List.map_cons,List.map_nil]);first | done | rfl | (simp only [List.length_drop,List.length_take];rfl)) ?_
 with_reducible refine (verdererref03_Times.calls k a0_2 (-1) t343 t344 _ A3.out).mono ?_
 rintro e w9 ⟨v345,rfl,ho0,hb⟩
 refine ⟨_,rfl,?_⟩
 have n0_ := Aside0.mk (Kd.R_elder' (by (with_reducible repeat (first | apply Kd.q0m | apply Kd.q0n | apply Kd.q0o));exact HO342.out) (Kd.R_base ho0) hb)
 have n1_ := Aside0.mk (Kd.R_lower (Kd.R_new' ho0 (Kd.R_lt (by (with_reducible repeat (first | apply Kd.q0m | apply Kd.q0n | apply Kd.q0o));exact HO342.out))) (q0p (by repeat (first | (with_reducible first | exact HB.out | apply q0h | apply q0d | apply q0f | refine q0g ?_ GE337.out | refine q0g ?_ GE338.out) | exact HB.out))))
 have n2_ := Aside0.mk (q0q (g := gb337) (o := .cells #[.string a0_0,.string a0_1,.int .i64 a0_2,.int .i64 a0_3] 45 (0,0)) (by (with_reducible repeat (first | refine q0b ?_ _ | refine q0c ?_ | refine q0a ?_ _));exact BK337.out) hb)
 have n3_ := Aside0.mk (q0q (g := gb338) (o := .cells #[.bool false,.slice none 0 0] 29 (0,0)) (by (with_reducible repeat (first | refine q0b ?_ _ | refine q0c ?_ | refine q0a ?_ _));exact BK338.out) hb)
 have n4_ := Aside0.mk (q0s (by repeat (first | (with_reducible first | exact HB.out | apply q0h | apply q0d | apply q0f | refine q0g ?_ GE337.out | refine q0g ?_ GE338.out) | exact HB.out)) hb)
 clear HO342
 clear BK337
 clear BK338
 clear HB
 have HO342 := n0_
 have HO346 := n1_
 have BK337 := n2_
 have BK338 := n3_
 have HB := n4_
 clear n0_ n1_ n2_ n3_ n4_
 (try clear hb)
 (try clear hb2)
 (try clear hk)
 (try clear hi)
 (try clear ho0)
 obtain ⟨Ao10,co10,eo10⟩ := Kd.R_slice HO342.out
 (first | subst eo10 | (injection eo10 with f1_ f2_ f3_;have f4_ := f1_.symm;have f5_ := f3_.symm;clear f1_ f2_ f3_;subst f4_;subst f5_))
 obtain ⟨Ao11,co11,eo11⟩ := Kd.R_slice HO346.out
 (first | subst eo11 | (injection eo11 with f1_ f2_ f3_;have f4_ := f1_.symm;have f5_ := f3_.symm;clear f1_ f2_ f3_;subst f4_;subst f5_))
 refine hK.out _ _ ⟨(q0i BK337.out 0).trans rfl,(q0i BK337.out 1).trans rfl,(q0i BK337.out 2).trans rfl,(q0i BK337.out 3).trans rfl⟩ (fun hHeld => ?_)
 clear hK K
 refine norm_ (a' := ?_) ?_ ?_
 rotate_left
 ·show Act.put _ (some 8) _ = _
  simp only [Act.put,zA,zB,zC,i64_w,i32_w]
  rfl
 refine one_ (i := 6) (N := some 9) #[true,true,true,true,true,true,true,false] rfl rfl (one_of HT_.out (by kernel_rfl)) (by decide) (fun K hK => ?_)
 refine goes_ Try.func16 (by kernel_rfl) rfl #[.agg #[.bool t339,.slice Ao10 t340.length co10],.agg #[.bool t343,.slice Ao11 t344.length co11]] (by rfl) rfl rfl (by (try simp only [List.map_toArray,List.map_cons,List.map_nil]);first | done | rfl | (simp only [List.length_drop,List.length_take];rfl)) ?_
 with_reducible refine (verdererref03_Plus.calls k t339 _ _ t340 t343 _ _ t344 t347 t348 _ ?side1 ?side2 ?side3 ?side4 A4.out).mono ?_
 (case side1 => repeat (first | exact (Kd.q02 HO342.out).2.2 | (with_reducible refine Kd.C_alloc ?_ _) | (with_reducible refine Kd.C_drewN ?_ _) | (with_reducible refine Kd.C_drew ?_)))
 (case side2 => exact (Kd.q02 HO342.out).2.1)
 (case side3 => repeat (first | exact (Kd.q02 HO346.out).2.2 | (with_reducible refine Kd.C_alloc ?_ _) | (with_reducible refine Kd.C_drewN ?_ _) | (with_reducible refine Kd.C_drew ?_)))
 (case side4 => exact (Kd.q02 HO346.out).2.1)
 rintro e w12 ⟨v349,rfl,ho0,hb⟩
 refine ⟨_,rfl,?_⟩
 have n0_ := Aside0.mk (Kd.R_elder' (by (with_reducible repeat (first | apply Kd.q0m | apply Kd.q0n | apply Kd.q0o));exact HO342.out) (Kd.R_base ho0) hb)
 have n1_ := Aside0.mk (Kd.R_elder' (by (with_reducible repeat (first | apply Kd.q0m | apply Kd.q0n | apply Kd.q0o));exact HO346.out) (Kd.R_base ho0) hb)
 have n2_ := Aside0.mk (Kd.R_lower (Kd.R_new' (Kd.R_new' ho0 (Kd.R_lt (by (with_reducible repeat (first | apply Kd.q0m | apply Kd.q0n | apply Kd.q0o));exact HO342.out))) (Kd.R_lt (by (with_reducible repeat (first | apply Kd.q0m | apply Kd.q0n | apply Kd.q0o));exact HO346.out))) (q0p (by repeat (first | (with_reducible first | exact HB.out | apply q0h | apply q0d | apply q0f | refine q0g ?_ GE337.out | refine q0g ?_ GE338.out) | exact HB.out))))
 have n3_ := Aside0.mk (q0q (g := gb337) (o := .cells #[.string a0_0,.string a0_1,.int .i64 a0_2,.int .i64 a0_3] 45 (0,0)) (by (with_reducible repeat (first | refine q0b ?_ _ | refine q0c ?_ | refine q0a ?_ _));exact BK337.out) hb)
 have n4_ := Aside0.mk (q0q (g := gb338) (o := .cells #[.bool false,.slice none 0 0] 29 (0,0)) (by (with_reducible repeat (first | refine q0b ?_ _ | refine q0c ?_ | refine q0a ?_ _));exact BK338.out) hb)
 have n5_ := Aside0.mk (q0s (by repeat (first | (with_reducible first | exact HB.out | apply q0h | apply q0d | apply q0f | refine q0g ?_ GE337.out | refine q0g ?_ GE338.out) | exact HB.out)) hb)
 clear HO342
 clear HO346
 clear BK337
 clear BK338
 clear HB
 have HO342 := n0_
 have HO346 := n1_
 have HO350 := n2_
 have BK337 := n3_
 have BK338 := n4_
 have HB := n5_
 clear n0_ n1_ n2_ n3_ n4_ n5_
 (try clear hb)
 (try clear hb2)
 (try clear hk)
 (try clear hi)
 (try clear ho0)
 obtain ⟨Ao14,co14,eo14⟩ := Kd.R_slice HO350.out
 (first | subst eo14 | (injection eo14 with f1_ f2_ f3_;have f4_ := f1_.symm;have f5_ := f3_.symm;clear f1_ f2_ f3_;subst f4_;subst f5_))
 refine hK.out _ _ ⟨(q0i BK337.out 0).trans rfl,(q0i BK337.out 1).trans rfl,(q0i BK337.out 2).trans rfl,(q0i BK337.out 3).trans rfl⟩ (fun hHeld => ?_)
 clear hK K
 refine norm_ (a' := ?_) ?_ ?_
 rotate_left
 ·show Act.put _ (some 9) _ = _
  simp only [Act.put,zA,zB,zC,i64_w,i32_w]
  rfl
 refine one_ (i := 7) (N := none) #[true,true,true,true,true,true,true,true] rfl rfl (one_of HT_.out (by kernel_rfl)) (by decide) (fun K hK => ?_)
 have hs13 : w12.cell? ⟨gb338,0,none⟩ = some (.bool false) := (q0i BK338.out 0).trans rfl
 have hfs13 := q0k BK338.out 0
 have hns13_0 := NB337_338.out
 have hms13_0 := NB338_337.out
 have hs15 : w12.cell? ⟨gb338,1,none⟩ = some (.slice none 0 0) := (q0i BK338.out 1).trans rfl
 have hfs15 := q0k BK338.out 1
 have hns15_0 := NB337_338.out
 have hms15_0 := NB338_337.out
 refine skip_ (w1 := ?_) (by rfl) rfl ?_ ?_
 rotate_left
 ·go_simp
  rfl
 refine hK.out _ _ ⟨((cell_far (p := ⟨gb338,_,none⟩) NB337_338.out _).trans (((cell_far (p := ⟨gb338,_,none⟩) NB337_338.out _).trans (hHeld.1)))),((cell_far (p := ⟨gb338,_,none⟩) NB337_338.out _).trans (((cell_far (p := ⟨gb338,_,none⟩) NB337_338.out _).trans (hHeld.2.1)))),((cell_far (p := ⟨gb338,_,none⟩) NB337_338.out _).trans (((cell_far (p := ⟨gb338,_,none⟩) NB337_338.out _).trans (hHeld.2.2.1)))),((cell_far (p := ⟨gb338,_,none⟩) NB337_338.out _).trans (((cell_far (p := ⟨gb338,_,none⟩) NB337_338.out _).trans (hHeld.2.2.2))))⟩ (fun hHeld => ?_)
 clear hK K
 refine done_ (done_of HT_.out (by kernel_rfl)) ?_
 try go_wp2
 refine bodyPost_ret (results_cell_row rfl _ _ gb338 29 #[.bool t347,.slice Ao14 t348.length co14] (0,0) _ rfl (by (with_reducible repeat (first | refine q0b ?_ _ | refine q0c ?_ | refine q0a ?_ _));refine q0t (cs := #[.bool t347,.slice none 0 0]) ?_ 1 _ rfl;(with_reducible repeat (first | refine q0b ?_ _ | refine q0c ?_ | refine q0a ?_ _));refine q0t (cs := #[.bool false,.slice none 0 0]) ?_ 0 _ rfl;(with_reducible repeat (first | refine q0b ?_ _ | refine q0c ?_ | refine q0a ?_ _));exact BK338.out) Try.underlying29 rfl (by kernel_rfl)) rfl ?_
 exact ⟨_,by first | rfl | (simp [q0w,q0x] <;> rfl) | (simp [*,q0w,q0x] <;> rfl),by (with_reducible repeat (first | apply Kd.q0m | apply Kd.q0n | apply Kd.q0o));exact Kd.R_mono (Kd.R_far (p := ⟨gb338,1,none⟩) (Kd.R_far (p := ⟨gb338,0,none⟩) (Kd.R_types HO350.out BK338.out (by decide)) (fun _ hk => hk.2) (.bool t347)) (fun _ hk => hk.2) (.slice Ao14 t348.length co14)) (fun _ hk => trivial),by repeat (first | (with_reducible first | exact HB.out | apply q0h | apply q0d | apply q0f | refine q0g ?_ GE337.out | refine q0g ?_ GE338.out) | exact HB.out)⟩
end Go.Proofs.Ytcenlehfbgnphaa.Z
end
section
namespace Go.Proofs.Ytcenlehfbgnphaa.Z
open Go.RowKit Go.Proofs.YtcenlehfbgnphaaW.PrintWords Go.Proofs.YtcenlehfbgnphaaW.PrintLast Go.Proofs.YtcenlehfbgnphaaW.PrintMore
attribute [local go_sem] max2_int min2_int max_two min_two max_three min_three max_four min_four
set_option linter.unusedVariables false
set_option linter.unusedSimpArgs false
def verdererref28_Worst.l0 : Nat → List (S45) → Int → ByteArray → ByteArray → Int → Int → Option (ByteArray × ByteArray × Int × Int × Int)
 | 0,_,_,_,_,_,_ => none
 | k + 1,x0,x5,x354000,x354001,x354002,x354003 => if x5 < (x0.length : Int) then ((verdererref28_room.f k x354000 x354001 x354002 x354003).bind fun bt354 => (if 0 ≤ x5 then ((verdererref28_room.f k ((q0e x0 x5).f0) ((q0e x0 x5).f1) ((q0e x0 x5).f2) ((q0e x0 x5).f3)).bind fun bt360 => ((verdererref03_Plus.f k bt360.1 bt360.2 (!bt354.1) bt354.2).bind fun bt364 => ((verdererref03_Big_Sign.f k bt364.1 bt364.2).bind fun t368 => (if t368 < 0 then (verdererref28_Worst.l0 k x0 (wrap64 (x5 + 1)) ((q0e x0 x5).f0) ((q0e x0 x5).f1) ((q0e x0 x5).f2) ((q0e x0 x5).f3)) else (verdererref28_Worst.l0 k x0 (wrap64 (x5 + 1)) x354000 x354001 x354002 x354003))))) else (none))) else (some (x354000,x354001,x354002,x354003,0))
def verdererref28_Worst.f (k : Nat) (l0 : List (S45)) : Option (ByteArray × ByteArray × Int × Int × Int) := if (l0.length : Int) = 0 then (some ((⟨#[]⟩ : ByteArray),(⟨#[]⟩ : ByteArray),0,0,5)) else (if 0 < (l0.length : Int) then (verdererref28_Worst.l0 k l0 1 ((q0e l0 0).f0) ((q0e l0 0).f1) ((q0e l0 0).f2) ((q0e l0 0).f3)) else (none))
theorem verdererref28_Worst.mono_l : ∀ k,(∀ y0 y1 y2 y3 y4 y5,LeO (verdererref28_Worst.l0 k y0 y1 y2 y3 y4 y5) (verdererref28_Worst.l0 (k + 1) y0 y1 y2 y3 y4 y5))
 | 0 => fun _ _ _ _ _ _ r h => by simp [verdererref28_Worst.l0] at h
 | k + 1 => by
  have ih0 := verdererref28_Worst.mono_l k
  ·intro y0 y1 y2 y3 y4 y5
   unfold verdererref28_Worst.l0
   repeat' first
   | (with_reducible exact ih0 _ _ _ _ _ _)
   | (with_reducible exact verdererref03_Big_Sign.mono _ _ _)
   | (with_reducible exact verdererref03_Plus.mono _ _ _ _ _)
   | (with_reducible exact verdererref28_room.mono _ _ _ _ _)
   | (with_reducible exact LeO.refl _)
   | (with_reducible exact LeO.none _)
   | (with_reducible refine LeO.ite ?_ ?_)
   | (with_reducible refine LeO.bind ?_ (fun _ => ?_))
   | exact ih0 _ _ _ _ _ _
   | exact verdererref03_Big_Sign.mono _ _ _
   | exact verdererref03_Plus.mono _ _ _ _ _
   | exact verdererref28_room.mono _ _ _ _ _
   | exact LeO.none _
   | refine LeO.ite ?_ ?_
   | refine LeO.bind ?_ (fun _ => ?_)
theorem verdererref28_Worst.mono : ∀ a0 k,LeO (verdererref28_Worst.f k a0) (verdererref28_Worst.f (k + 1) a0) := by
 intro a0 k
 have ih0 := verdererref28_Worst.mono_l k
 unfold verdererref28_Worst.f
 repeat' first
   | (with_reducible exact ih0 _ _ _ _ _ _)
   | (with_reducible exact verdererref03_Big_Sign.mono _ _ _)
   | (with_reducible exact verdererref03_Plus.mono _ _ _ _ _)
   | (with_reducible exact verdererref28_room.mono _ _ _ _ _)
   | (with_reducible exact LeO.refl _)
   | (with_reducible exact LeO.none _)
   | (with_reducible refine LeO.ite ?_ ?_)
   | (with_reducible refine LeO.bind ?_ (fun _ => ?_))
   | exact ih0 _ _ _ _ _ _
   | exact verdererref03_Big_Sign.mono _ _ _
   | exact verdererref03_Plus.mono _ _ _ _ _
   | exact verdererref28_room.mono _ _ _ _ _
   | exact LeO.none _
   | refine LeO.ite ?_ ?_
   | refine LeO.bind ?_ (fun _ => ?_)
def verdererref28_Worst.T9 : Bool × List (List Nat × List Nat) := (true,[([],[]),([],[]),([0,1],[0,1]),([2],[2]),([3],[3]),([],[]),([4,5,4],[4,5]),([6,6],[6]),([7],[7])])
def verdererref28_Worst.B9 : List Nat := [0,0,3,7,15,0,63,127,255]
theorem verdererref28_Worst.tab9 : rtab .any (opsOf Try.f48 9) = verdererref28_Worst.T9 := by kernel_rfl
theorem verdererref28_Worst.bits9 : waitsOk verdererref28_Worst.T9.2 verdererref28_Worst.B9 = true := by kernel_rfl
set_option maxHeartbeats 8000000 in
set_option maxRecDepth 100000 in
theorem verdererref28_Worst.calls (k : Nat) (A0 : Option Addr) (c0 : Nat) (l0 : List (S45)) (r1 : ByteArray) (r2 : ByteArray) (r3 : Int) (r4 : Int) (r5 : Int) (w : World) (hr0 : Kd.C k45 w A0 l0.length l0) (hc0 : l0.length ≤ c0) (h : verdererref28_Worst.f k l0 = some (r1,r2,r3,r4,r5)) :
  Calls Try.prog 48 #[.slice A0 l0.length c0] w fun e w' => e = .returned (.tuple #[.agg #[.string r1,.string r2,.int .i64 r3,.int .i64 r4],.int .i64 r5]) ∧ Below w.heap.size w w' := by
 have hu45 := Try.underlying45
 have hu29 := Try.underlying29
 have HR0 := Aside0.mk hr0
 have HC0 := Aside0.mk hc0
 clear hr0 hc0
 have HB := Aside0.mk (Below.refl w.heap.size w)
 have H : (if (l0.length : Int) = 0 then (some ((⟨#[]⟩ : ByteArray),(⟨#[]⟩ : ByteArray),0,0,5)) else (if 0 < (l0.length : Int) then (verdererref28_Worst.l0 k l0 1 ((q0e l0 0).f0) ((q0e l0 0).f1) ((q0e l0 0).f2) ((q0e l0 0).f3)) else (none))) = some (r1,r2,r3,r4,r5) := h
 clear h
 by_cases c2 : (l0.length : Int) = 0
 ·rw [if_pos c2] at H
  have c2b0 : ((l0.length : Int) == 0) = true := beq_iff_eq.mpr c2
  have c2b1 : ((l0.length : Int) != 0) = false := bne_eq_false_iff_eq.mpr c2
  clear c2
  simp only [Option.some.injEq,Prod.mk.injEq] at H
  obtain ⟨rfl,rfl,rfl,rfl,rfl⟩ := H
  go_enter Try.func48,Try.ntmps48
  go_wp2_with (first | ((with_reducible refine gate_dst (N := 2) rfl ?_);refine q03 ?hg (N := 2) ?hd (cs := #[.string (⟨#[]⟩ : ByteArray),.string (⟨#[]⟩ : ByteArray),.int .i64 0,.int .i64 0]) (t := 45) ?hr ?_;(case hd => rfl);(case hg => rfl);(case hr => first | (go_simp;done) | (go_simp;rfl));intro gb351 hg w3 hbox hb;have n0_ := Aside0.mk (q0s (by repeat (first | (with_reducible first | exact HB.out | apply q0h | apply q0d | apply q0f) | exact HB.out)) hb);have n1_ := Aside0.mk (hbox);have n2_ := Aside0.mk ((by rw [hg];exact (q0p (by repeat (first | (with_reducible first | exact HB.out | apply q0h | apply q0d | apply q0f) | exact HB.out))) : w.heap.size ≤ gb351));have n3_ := Aside0.mk ((by rw [hg];exact (q0p (by repeat (first | (with_reducible first | exact HB.out | apply q0h | apply q0d | apply q0f) | exact HB.out))) : w.heap.size ≤ gb351));clear HB;have HB := n0_;have BK351 := n1_;have GW351 := n2_;have GE351 := n3_;clear n0_ n1_ n2_ n3_;clear hb hbox hg;have hcz4_0 : w3.cell? ⟨gb351,0,none⟩ = some (.string (⟨#[]⟩ : ByteArray)) := (q0i BK351.out 0).trans rfl;have hcz4_1 : w3.cell? ⟨gb351,1,none⟩ = some (.string (⟨#[]⟩ : ByteArray)) := (q0i BK351.out 1).trans rfl;have hcz4_2 : w3.cell? ⟨gb351,2,none⟩ = some (.int .i64 0) := (q0i BK351.out 2).trans rfl;have hcz4_3 : w3.cell? ⟨gb351,3,none⟩ = some (.int .i64 0) := (q0i BK351.out 3).trans rfl;have hfz4_0 := q0k BK351.out 0;have hfz4_1 := q0k BK351.out 1;have hfz4_2 := q0k BK351.out 2;have hfz4_3 := q0k BK351.out 3))
  refine bodyPost_ret (results_ct rfl _ _ gb351 45 #[.string (⟨#[]⟩ : ByteArray),.string (⟨#[]⟩ : ByteArray),.int .i64 0,.int .i64 0] (0,0) _ rfl (by (with_reducible repeat (first | refine q0b ?_ _ | refine q0c ?_ | refine q0a ?_ _));refine q0t (cs := #[.string (⟨#[]⟩ : ByteArray),.string (⟨#[]⟩ : ByteArray),.int .i64 0,.int .i64 0]) ?_ 3 _ rfl;(with_reducible repeat (first | refine q0b ?_ _ | refine q0c ?_ | refine q0a ?_ _));refine q0t (cs := #[.string (⟨#[]⟩ : ByteArray),.string (⟨#[]⟩ : ByteArray),.int .i64 0,.int .i64 0]) ?_ 2 _ rfl;(with_reducible repeat (first | refine q0b ?_ _ | refine q0c ?_ | refine q0a ?_ _));refine q0t (cs := #[.string (⟨#[]⟩ : ByteArray),.string (⟨#[]⟩ : ByteArray),.int .i64 0,.int .i64 0]) ?_ 1 _ rfl;(with_reducible repeat (first | refine q0b ?_ _ | refine q0c ?_ | refine q0a ?_ _));refine q0t (cs := #[.string (⟨#[]⟩ : ByteArray),.string (⟨#[]⟩ : ByteArray),.int .i64 0,.int .i64 0]) ?_ 0 _ rfl;(with_reducible repeat (first | refine q0b ?_ _ | refine q0c ?_ | refine q0a ?_ _));exact BK351.out) Try.underlying45 rfl (by kernel_rfl)) rfl ?_
  exact ⟨by first | rfl | (simp [q0w,q0x] <;> rfl) | (simp [*,q0w,q0x] <;> rfl),by repeat (first | (with_reducible first | exact HB.out | apply q0h | apply q0d | apply q0f | refine q0g ?_ GE351.out) | exact HB.out)⟩
 ·rw [if_neg c2] at H
  have c2b0 : ((l0.length : Int) == 0) = false := beq_eq_false_iff_ne.mpr c2
  have c2b1 : ((l0.length : Int) != 0) = true := bne_iff_ne.mpr c2
  have c2b2 : ¬ (l0 = []) := fun h_ => c2 (by rw [h_];rfl)
  by_cases c5 : 0 < (l0.length : Int)
  ·rw [if_pos c5] at H
   have c5b0 : decide (0 < (l0.length : Int)) = true := decide_eq_true c5
   have c5b1 : decide (0 < l0.length) = true := decide_eq_true (by omega)
   clear c5
   have H' := Aside0.mk H
   clear H
   go_enter Try.func48,Try.ntmps48
   go_wp2_with (first | ((with_reducible refine gate_dst (N := 2) rfl ?_);refine q03 ?hg (N := 2) ?hd (cs := #[.string (⟨#[]⟩ : ByteArray),.string (⟨#[]⟩ : ByteArray),.int .i64 0,.int .i64 0]) (t := 45) ?hr ?_;(case hd => rfl);(case hg => rfl);(case hr => first | (go_simp;done) | (go_simp;rfl));intro gb351 hg w6 hbox hb;have n0_ := Aside0.mk (q0s (by repeat (first | (with_reducible first | exact HB.out | apply q0h | apply q0d | apply q0f) | exact HB.out)) hb);have n1_ := Aside0.mk (hbox);have n2_ := Aside0.mk ((by rw [hg];exact (q0p (by repeat (first | (with_reducible first | exact HB.out | apply q0h | apply q0d | apply q0f) | exact HB.out))) : w.heap.size ≤ gb351));have n3_ := Aside0.mk ((by rw [hg];exact (q0p (by repeat (first | (with_reducible first | exact HB.out | apply q0h | apply q0d | apply q0f) | exact HB.out))) : w.heap.size ≤ gb351));clear HB;have HB := n0_;have BK351 := n1_;have GW351 := n2_;have GE351 := n3_;clear n0_ n1_ n2_ n3_;clear hb hbox hg;have p352 : 0 ≤ (0 : Int) := (by omega);have q352 : 0 < (l0.length : Int) := of_decide_eq_true (by first | (with_reducible assumption) | assumption);obtain ⟨ad352,e352,hx352_0,hx352_1,hx352_2,hx352_3⟩ := at_T45 HR0.out 0 p352 q352;cases e352;have qi352 : (0 < l0.length) = True := eq_true (by omega);(try rw [show ((0 : Int)).toNat = 0 from rfl] at hx352_0);(try rw [show 0 * 4 = 0 from rfl] at hx352_0);(try rw [Addr.add_zero'] at hx352_0);(try rw [show ((0 : Int)).toNat = 0 from rfl] at hx352_1);(try rw [show 0 * 4 = 0 from rfl] at hx352_1);(try rw [Addr.add_zero'] at hx352_1);(try rw [show ((0 : Int)).toNat = 0 from rfl] at hx352_2);(try rw [show 0 * 4 = 0 from rfl] at hx352_2);(try rw [Addr.add_zero'] at hx352_2);(try rw [show ((0 : Int)).toNat = 0 from rfl] at hx352_3);(try rw [show 0 * 4 = 0 from rfl] at hx352_3);(try rw [Addr.add_zero'] at hx352_3);replace hx352_0 := (HB.out.cell (World.block_lt_of_cell? w _ hx352_0)).trans hx352_0;replace hx352_1 := (HB.out.cell (World.block_lt_of_cell? w _ hx352_1)).trans hx352_1;replace hx352_2 := (HB.out.cell (World.block_lt_of_cell? w _ hx352_2)).trans hx352_2;replace hx352_3 := (HB.out.cell (World.block_lt_of_cell? w _ hx352_3)).trans hx352_3;replace p352 := eq_true p352;replace q352 := eq_true q352) | ((with_reducible refine gate_dst (N := 4) rfl ?_);refine q03 ?hg (N := 4) ?hd (cs := #[.string (⟨#[]⟩ : ByteArray),.string (⟨#[]⟩ : ByteArray),.int .i64 0,.int .i64 0]) (t := 45) ?hr ?_;(case hd => rfl);(case hg => rfl);(case hr => first | (go_simp;done) | (go_simp;rfl));intro gb353 hg w7 hbox hb;have n0_ := Aside0.mk (q0q (g := gb351) (o := .cells #[.string (⟨#[]⟩ : ByteArray),.string (⟨#[]⟩ : ByteArray),.int .i64 0,.int .i64 0] 45 (0,0)) (by (with_reducible repeat (first | refine q0b ?_ _ | refine q0c ?_ | refine q0a ?_ _));exact BK351.out) hb);have n1_ := Aside0.mk (q0s (by repeat (first | (with_reducible first | exact HB.out | apply q0h | apply q0d | apply q0f | refine q0g ?_ GE351.out) | exact HB.out)) hb);have n2_ := Aside0.mk (hbox);have n3_ := Aside0.mk ((by rw [hg];exact (q0p (by repeat (first | (with_reducible first | exact HB.out | apply q0h | apply q0d | apply q0f | refine q0g ?_ GE351.out) | exact HB.out))) : w.heap.size ≤ gb353));have n4_ := Aside0.mk ((by rw [hg];exact (q0p (by repeat (first | (with_reducible first | exact HB.out | apply q0h | apply q0d | apply q0f | refine q0g ?_ GE351.out) | exact HB.out))) : w.heap.size ≤ gb353));have n5_ := Aside0.mk ((by rw [hg];exact Nat.ne_of_lt (q0y (g := gb351) (o := .cells #[.string (⟨#[]⟩ : ByteArray),.string (⟨#[]⟩ : ByteArray),.int .i64 0,.int .i64 0] 45 (0,0)) (by (with_reducible repeat (first | refine q0b ?_ _ | refine q0c ?_ | refine q0a ?_ _));exact BK351.out)) : gb351 ≠ gb353));have n6_ := Aside0.mk ((by rw [hg];exact Nat.ne_of_gt (q0y (g := gb351) (o := .cells #[.string (⟨#[]⟩ : ByteArray),.string (⟨#[]⟩ : ByteArray),.int .i64 0,.int .i64 0] 45 (0,0)) (by (with_reducible repeat (first | refine q0b ?_ _ | refine q0c ?_ | refine q0a ?_ _));exact BK351.out)) : gb353 ≠ gb351));clear BK351;clear HB;have BK351 := n0_;have HB := n1_;have BK353 := n2_;have GW353 := n3_;have GE353 := n4_;have NB351_353 := n5_;have NB353_351 := n6_;clear n0_ n1_ n2_ n3_ n4_ n5_ n6_;clear hb hbox hg;have hnb8 := NB353_351.out;have hnc8 := NB351_353.out;have hcz9_0 : w7.cell? ⟨gb353,0,none⟩ = some (.string (⟨#[]⟩ : ByteArray)) := (q0i BK353.out 0).trans rfl;have hcz9_1 : w7.cell? ⟨gb353,1,none⟩ = some (.string (⟨#[]⟩ : ByteArray)) := (q0i BK353.out 1).trans rfl;have hcz9_2 : w7.cell? ⟨gb353,2,none⟩ = some (.int .i64 0) := (q0i BK353.out 2).trans rfl;have hcz9_3 : w7.cell? ⟨gb353,3,none⟩ = some (.int .i64 0) := (q0i BK353.out 3).trans rfl;have hfz9_0 := q0k BK353.out 0;have hfz9_1 := q0k BK353.out 1;have hfz9_2 := q0k BK353.out 2;have hfz9_3 := q0k BK353.out 3))
   go_loopg [5] k (fun kq v5 w' => ∃ (x5_1 : Int) (x354000_1 : ByteArray) (x354001_1 : ByteArray) (x354002_1 : Int) (x354003_1 : Int),v5 = .int .i64 x5_1 ∧ Aside0 (verdererref28_Worst.l0 kq l0 x5_1 x354000_1 x354001_1 x354002_1 x354003_1 = some (r1,r2,r3,r4,r5)) ∧ Aside0 (kq ≤ k) ∧ Aside0 (w'.heap[gb351]? = some (.cells #[.string (⟨#[]⟩ : ByteArray),.string (⟨#[]⟩ : ByteArray),.int .i64 0,.int .i64 0] 45 (0,0))) ∧ Aside0 (w'.heap[gb353]? = some (.cells #[.string x354000_1,.string x354001_1,.int .i64 x354002_1,.int .i64 x354003_1] 45 (0,0))) ∧ Aside0 (Below w.heap.size w w'))
   case atStart => exact ⟨(1),((q0e l0 0).f0),((q0e l0 0).f1),((q0e l0 0).f2),((q0e l0 0).f3),(by first | rfl | (simp;done) | (simp [*];done)),H',⟨Nat.le_refl _⟩,⟨by (with_reducible repeat (first | refine q0b ?_ _ | refine q0c ?_ | refine q0a ?_ _));refine q0u ?_ NB351_353.out _;(with_reducible repeat (first | refine q0b ?_ _ | refine q0c ?_ | refine q0a ?_ _));refine q0u ?_ NB351_353.out _;(with_reducible repeat (first | refine q0b ?_ _ | refine q0c ?_ | refine q0a ?_ _));refine q0u ?_ NB351_353.out _;(with_reducible repeat (first | refine q0b ?_ _ | refine q0c ?_ | refine q0a ?_ _));refine q0u ?_ NB351_353.out _;(with_reducible repeat (first | refine q0b ?_ _ | refine q0c ?_ | refine q0a ?_ _));exact BK351.out⟩,⟨by (with_reducible repeat (first | refine q0b ?_ _ | refine q0c ?_ | refine q0a ?_ _));refine q0t (cs := #[.string ((q0e l0 0).f0),.string ((q0e l0 0).f1),.int .i64 ((q0e l0 0).f2),.int .i64 0]) ?_ 3 _ rfl;(with_reducible repeat (first | refine q0b ?_ _ | refine q0c ?_ | refine q0a ?_ _));refine q0t (cs := #[.string ((q0e l0 0).f0),.string ((q0e l0 0).f1),.int .i64 0,.int .i64 0]) ?_ 2 _ rfl;(with_reducible repeat (first | refine q0b ?_ _ | refine q0c ?_ | refine q0a ?_ _));refine q0t (cs := #[.string ((q0e l0 0).f0),.string (⟨#[]⟩ : ByteArray),.int .i64 0,.int .i64 0]) ?_ 1 _ rfl;(with_reducible repeat (first | refine q0b ?_ _ | refine q0c ?_ | refine q0a ?_ _));refine q0t (cs := #[.string (⟨#[]⟩ : ByteArray),.string (⟨#[]⟩ : ByteArray),.int .i64 0,.int .i64 0]) ?_ 0 _ rfl;(with_reducible repeat (first | refine q0b ?_ _ | refine q0c ?_ | refine q0a ?_ _));exact BK353.out⟩,⟨by repeat (first | (with_reducible first | exact HB.out | apply q0h | apply q0d | apply q0f | refine q0g ?_ GE351.out | refine q0g ?_ GE353.out) | exact HB.out)⟩⟩
   case round =>
    clear H'
    try clear c2
    try clear c2b0
    try clear c2b1
    try clear c2b2
    try clear p2
    try clear p3
    try clear q3
    try clear hx3
    try clear qi3
    try clear c4
    try clear c5
    try clear c5b0
    try clear c5b1
    try clear c8
    try clear hcz4_0
    try clear hcz4_1
    try clear hcz4_2
    try clear hcz4_3
    try clear hcz9_0
    try clear hcz9_1
    try clear hcz9_2
    try clear hcz9_3
    try clear hfz4_0
    try clear hfz4_1
    try clear hfz4_2
    try clear hfz4_3
    try clear hfz9_0
    try clear hfz9_1
    try clear hfz9_2
    try clear hfz9_3
    try clear hx352_0
    try clear hx352_1
    try clear hx352_2
    try clear hx352_3
    try clear p352
    try clear q352
    obtain ⟨x5_1,x354000_1,x354001_1,x354002_1,x354003_1,rfl,HA,HK1,BK351,BK353,HB⟩ := hrel
    cases gk with
    | zero => exact absurd HA.out (by simp [verdererref28_Worst.l0])
    | succ k1 =>
     have H := HA.out
     clear HA
     simp only [verdererref28_Worst.l0] at H
     by_cases c10 : x5_1 < (l0.length : Int)
     ·rw [if_pos c10] at H
      have c10b0 : decide (x5_1 < (l0.length : Int)) = true := decide_eq_true c10
      clear c10
      replace H := Option.bind_eq_some_iff.mp H
      obtain ⟨⟨t354,t355⟩,A110,H⟩ := H
      replace H : (if 0 ≤ x5_1 then ((verdererref28_room.f k1 ((q0e l0 x5_1).f0) ((q0e l0 x5_1).f1) ((q0e l0 x5_1).f2) ((q0e l0 x5_1).f3)).bind fun bt360 => ((verdererref03_Plus.f k1 bt360.1 bt360.2 (!t354) t355).bind fun bt364 => ((verdererref03_Big_Sign.f k1 bt364.1 bt364.2).bind fun t368 => (if t368 < 0 then (verdererref28_Worst.l0 k1 l0 (wrap64 (x5_1 + 1)) ((q0e l0 x5_1).f0) ((q0e l0 x5_1).f1) ((q0e l0 x5_1).f2) ((q0e l0 x5_1).f3)) else (verdererref28_Worst.l0 k1 l0 (wrap64 (x5_1 + 1)) x354000_1 x354001_1 x354002_1 x354003_1))))) else (none)) = some (r1,r2,r3,r4,r5) := H
      have A11 := Aside0.mk A110
      clear A110
      by_cases c12 : 0 ≤ x5_1
      ·rw [if_pos c12] at H
       have c12b0 : decide (0 ≤ x5_1) = true := decide_eq_true c12
       clear c12
       replace H := Option.bind_eq_some_iff.mp H
       obtain ⟨⟨t360,t361⟩,A130,H⟩ := H
       replace H : ((verdererref03_Plus.f k1 t360 t361 (!t354) t355).bind fun bt364 => ((verdererref03_Big_Sign.f k1 bt364.1 bt364.2).bind fun t368 => (if t368 < 0 then (verdererref28_Worst.l0 k1 l0 (wrap64 (x5_1 + 1)) ((q0e l0 x5_1).f0) ((q0e l0 x5_1).f1) ((q0e l0 x5_1).f2) ((q0e l0 x5_1).f3)) else (verdererref28_Worst.l0 k1 l0 (wrap64 (x5_1 + 1)) x354000_1 x354001_1 x354002_1 x354003_1)))) = some (r1,r2,r3,r4,r5) := H
       have A13 := Aside0.mk A130
       clear A130
       replace H := Option.bind_eq_some_iff.mp H
       obtain ⟨⟨t364,t365⟩,A140,H⟩ := H
       replace H : ((verdererref03_Big_Sign.f k1 t364 t365).bind fun t368 => (if t368 < 0 then (verdererref28_Worst.l0 k1 l0 (wrap64 (x5_1 + 1)) ((q0e l0 x5_1).f0) ((q0e l0 x5_1).f1) ((q0e l0 x5_1).f2) ((q0e l0 x5_1).f3)) else (verdererref28_Worst.l0 k1 l0 (wrap64 (x5_1 + 1)) x354000_1 x354001_1 x354002_1 x354003_1))) = some (r1,r2,r3,r4,r5) := H
       have A14 := Aside0.mk A140
       clear A140
       replace H := Option.bind_eq_some_iff.mp H
       obtain ⟨t368,A150,H⟩ := H
       replace H : (if t368 < 0 then (verdererref28_Worst.l0 k1 l0 (wrap64 (x5_1 + 1)) ((q0e l0 x5_1).f0) ((q0e l0 x5_1).f1) ((q0e l0 x5_1).f2) ((q0e l0 x5_1).f3)) else (verdererref28_Worst.l0 k1 l0 (wrap64 (x5_1 + 1)) x354000_1 x354001_1 x354002_1 x354003_1)) = some (r1,r2,r3,r4,r5) := H
       have A15 := Aside0.mk A150
       clear A150
       by_cases c16 : t368 < 0
       ·rw [if_pos c16] at H
        have c16b0 : decide (t368 < 0) = true := decide_eq_true c16
        clear c16
        have H' := Aside0.mk H
        clear H
        have hnb17 := NB353_351.out
        have hnc17 := NB351_353.out
        have hcz18_0 : wr.cell? ⟨gb353,0,none⟩ = some (.string x354000_1) := (q0i BK353.out 0).trans rfl
        have hcz18_1 : wr.cell? ⟨gb353,1,none⟩ = some (.string x354001_1) := (q0i BK353.out 1).trans rfl
        have hcz18_2 : wr.cell? ⟨gb353,2,none⟩ = some (.int .i64 x354002_1) := (q0i BK353.out 2).trans rfl
        have hcz18_3 : wr.cell? ⟨gb353,3,none⟩ = some (.int .i64 x354003_1) := (q0i BK353.out 3).trans rfl
        have hfz18_0 := q0k BK353.out 0
        have hfz18_1 := q0k BK353.out 1
        have hfz18_2 := q0k BK353.out 2
        have hfz18_3 := q0k BK353.out 3
        try go_wp2_with (first | ((with_reducible refine q00 (f := 78) rfl ?_);refine goesL_ (some 21) rfl rfl Try.func78 (by kernel_rfl) rfl #[.agg #[.string x354000_1,.string x354001_1,.int .i64 x354002_1,.int .i64 x354003_1]] rfl (by (try simp only [List.map_toArray,List.map_cons,List.map_nil]);first | done | rfl | (simp only [List.length_drop,List.length_take];rfl)) ?_;(with_reducible refine (verdererref28_room.calls k1 x354000_1 x354001_1 x354002_1 x354003_1 t354 t355 _ A11.out).mono ?_);rintro e w19 ⟨v356,rfl,ho0,hb⟩;refine ⟨_,rfl,?_⟩;have n0_ := Aside0.mk (Kd.R_lower ho0 (q0p (by repeat (first | (with_reducible first | exact HB.out | apply q0h | apply q0d | apply q0f | refine q0g ?_ GE351.out | refine q0g ?_ GE353.out) | exact HB.out))));have n1_ := Aside0.mk (q0q (g := gb351) (o := .cells #[.string (⟨#[]⟩ : ByteArray),.string (⟨#[]⟩ : ByteArray),.int .i64 0,.int .i64 0] 45 (0,0)) (by (with_reducible repeat (first | refine q0b ?_ _ | refine q0c ?_ | refine q0a ?_ _));exact BK351.out) hb);have n2_ := Aside0.mk (q0q (g := gb353) (o := .cells #[.string x354000_1,.string x354001_1,.int .i64 x354002_1,.int .i64 x354003_1] 45 (0,0)) (by (with_reducible repeat (first | refine q0b ?_ _ | refine q0c ?_ | refine q0a ?_ _));exact BK353.out) hb);have n3_ := Aside0.mk (q0s (by repeat (first | (with_reducible first | exact HB.out | apply q0h | apply q0d | apply q0f | refine q0g ?_ GE351.out | refine q0g ?_ GE353.out) | exact HB.out)) hb);clear BK351;clear BK353;clear HB;have HO357 := n0_;have BK351 := n1_;have BK353 := n2_;have HB := n3_;clear n0_ n1_ n2_ n3_;(try clear hb);(try clear hb2);(try clear hk);(try clear hi);(try clear ho0)) | ((with_reducible refine gate_dst (N := 6) rfl ?_);refine q03 ?hg (N := 6) ?hd (cs := #[.bool false,.slice none 0 0]) (t := 29) ?hr ?_;(case hd => rfl);(case hg => rfl);(case hr => first | (go_simp;done) | (go_simp;rfl));intro gb358 hg w20 hbox hb;have n0_ := Aside0.mk (Kd.q0v (by (with_reducible repeat (first | apply Kd.q0m | apply Kd.q0n | apply Kd.q0o));exact HO357.out) hb);have n1_ := Aside0.mk (q0q (g := gb351) (o := .cells #[.string (⟨#[]⟩ : ByteArray),.string (⟨#[]⟩ : ByteArray),.int .i64 0,.int .i64 0] 45 (0,0)) (by (with_reducible repeat (first | refine q0b ?_ _ | refine q0c ?_ | refine q0a ?_ _));exact BK351.out) hb);have n2_ := Aside0.mk (q0q (g := gb353) (o := .cells #[.string x354000_1,.string x354001_1,.int .i64 x354002_1,.int .i64 x354003_1] 45 (0,0)) (by (with_reducible repeat (first | refine q0b ?_ _ | refine q0c ?_ | refine q0a ?_ _));exact BK353.out) hb);have n3_ := Aside0.mk (q0s (by repeat (first | (with_reducible first | exact HB.out | apply q0h | apply q0d | apply q0f | refine q0g ?_ GE351.out | refine q0g ?_ GE353.out) | exact HB.out)) hb);have n4_ := Aside0.mk (hbox);have n5_ := Aside0.mk ((by rw [hg];exact (q0p (by repeat (first | (with_reducible first | exact HB.out | apply q0h | apply q0d | apply q0f | refine q0g ?_ GE351.out | refine q0g ?_ GE353.out) | exact HB.out))) : w.heap.size ≤ gb358));have n6_ := Aside0.mk ((by rw [hg];exact (q0p (by repeat (first | (with_reducible first | exact HB.out | apply q0h | apply q0d | apply q0f | refine q0g ?_ GE351.out | refine q0g ?_ GE353.out) | exact HB.out))) : w.heap.size ≤ gb358));have n7_ := Aside0.mk ((by rw [hg];exact Nat.ne_of_lt (q0y (g := gb351) (o := .cells #[.string (⟨#[]⟩ : ByteArray),.string (⟨#[]⟩ : ByteArray),.int .i64 0,.int .i64 0] 45 (0,0)) (by (with_reducible repeat (first | refine q0b ?_ _ | refine q0c ?_ | refine q0a ?_ _));exact BK351.out)) : gb351 ≠ gb358));have n8_ := Aside0.mk ((by rw [hg];exact Nat.ne_of_gt (q0y (g := gb351) (o := .cells #[.string (⟨#[]⟩ : ByteArray),.string (⟨#[]⟩ : ByteArray),.int .i64 0,.int .i64 0] 45 (0,0)) (by (with_reducible repeat (first | refine q0b ?_ _ | refine q0c ?_ | refine q0a ?_ _));exact BK351.out)) : gb358 ≠ gb351));have n9_ := Aside0.mk ((by rw [hg];exact Nat.ne_of_lt (q0y (g := gb353) (o := .cells #[.string x354000_1,.string x354001_1,.int .i64 x354002_1,.int .i64 x354003_1] 45 (0,0)) (by (with_reducible repeat (first | refine q0b ?_ _ | refine q0c ?_ | refine q0a ?_ _));exact BK353.out)) : gb353 ≠ gb358));have n10_ := Aside0.mk ((by rw [hg];exact Nat.ne_of_gt (q0y (g := gb353) (o := .cells #[.string x354000_1,.string x354001_1,.int .i64 x354002_1,.int .i64 x354003_1] 45 (0,0)) (by (with_reducible repeat (first | refine q0b ?_ _ | refine q0c ?_ | refine q0a ?_ _));exact BK353.out)) : gb358 ≠ gb353));clear HO357;clear BK351;clear BK353;clear HB;have HO357 := n0_;have BK351 := n1_;have BK353 := n2_;have HB := n3_;have BK358 := n4_;have GW358 := n5_;have GE358 := n6_;have NB351_358 := n7_;have NB358_351 := n8_;have NB353_358 := n9_;have NB358_353 := n10_;clear n0_ n1_ n2_ n3_ n4_ n5_ n6_ n7_ n8_ n9_ n10_;clear hb hbox hg;have hnb21 := NB358_351.out;have hnc21 := NB351_358.out;have hnb22 := NB358_353.out;have hnc22 := NB353_358.out;have hcz23_0 : w20.cell? ⟨gb358,0,none⟩ = some (.bool false) := (q0i BK358.out 0).trans rfl;have hcz23_1 : w20.cell? ⟨gb358,1,none⟩ = some (.slice none 0 0) := (q0i BK358.out 1).trans rfl;have hfz23_0 := q0k BK358.out 0;have hfz23_1 := q0k BK358.out 1;obtain ⟨Ao24,co24,eo24⟩ := Kd.R_slice HO357.out;subst eo24))
        have n0_ : Aside0 (Kd.R (Kd.int .u64) 96 (((w20.setCell ⟨gb358,0,none⟩ (.bool t354)).setCell ⟨gb358,1,none⟩ (.slice Ao24 t355.length co24)).setCell ⟨gb358,0,none⟩ (.bool (!t354))) w.heap.size (fun _ => True) (.slice Ao24 t355.length co24) t355) := ⟨by (with_reducible repeat (first | apply Kd.q0m | apply Kd.q0n | apply Kd.q0o));exact Kd.R_mono (Kd.R_far (p := ⟨gb358,0,none⟩) (Kd.R_far (p := ⟨gb358,1,none⟩) (Kd.R_far (p := ⟨gb358,0,none⟩) (Kd.R_types HO357.out BK358.out (by decide)) (fun _ hk => hk.2) (.bool t354)) (fun _ hk => hk.2) (.slice Ao24 t355.length co24)) (fun _ hk => hk.2) (.bool (!t354))) (fun _ hk => trivial)⟩
        have n1_ : Aside0 ((((w20.setCell ⟨gb358,0,none⟩ (.bool t354)).setCell ⟨gb358,1,none⟩ (.slice Ao24 t355.length co24)).setCell ⟨gb358,0,none⟩ (.bool (!t354))).heap[gb351]? = some (.cells #[.string (⟨#[]⟩ : ByteArray),.string (⟨#[]⟩ : ByteArray),.int .i64 0,.int .i64 0] 45 (0,0))) := ⟨by (with_reducible repeat (first | refine q0b ?_ _ | refine q0c ?_ | refine q0a ?_ _));refine q0u ?_ NB351_358.out _;(with_reducible repeat (first | refine q0b ?_ _ | refine q0c ?_ | refine q0a ?_ _));refine q0u ?_ NB351_358.out _;(with_reducible repeat (first | refine q0b ?_ _ | refine q0c ?_ | refine q0a ?_ _));refine q0u ?_ NB351_358.out _;(with_reducible repeat (first | refine q0b ?_ _ | refine q0c ?_ | refine q0a ?_ _));exact BK351.out⟩
        have n2_ : Aside0 ((((w20.setCell ⟨gb358,0,none⟩ (.bool t354)).setCell ⟨gb358,1,none⟩ (.slice Ao24 t355.length co24)).setCell ⟨gb358,0,none⟩ (.bool (!t354))).heap[gb353]? = some (.cells #[.string x354000_1,.string x354001_1,.int .i64 x354002_1,.int .i64 x354003_1] 45 (0,0))) := ⟨by (with_reducible repeat (first | refine q0b ?_ _ | refine q0c ?_ | refine q0a ?_ _));refine q0u ?_ NB353_358.out _;(with_reducible repeat (first | refine q0b ?_ _ | refine q0c ?_ | refine q0a ?_ _));refine q0u ?_ NB353_358.out _;(with_reducible repeat (first | refine q0b ?_ _ | refine q0c ?_ | refine q0a ?_ _));refine q0u ?_ NB353_358.out _;(with_reducible repeat (first | refine q0b ?_ _ | refine q0c ?_ | refine q0a ?_ _));exact BK353.out⟩
        have n3_ : Aside0 ((((w20.setCell ⟨gb358,0,none⟩ (.bool t354)).setCell ⟨gb358,1,none⟩ (.slice Ao24 t355.length co24)).setCell ⟨gb358,0,none⟩ (.bool (!t354))).heap[gb358]? = some (.cells #[.bool (!t354),.slice Ao24 t355.length co24] 29 (0,0))) := ⟨by (with_reducible repeat (first | refine q0b ?_ _ | refine q0c ?_ | refine q0a ?_ _));refine q0t (cs := #[.bool t354,.slice Ao24 t355.length co24]) ?_ 0 _ rfl;(with_reducible repeat (first | refine q0b ?_ _ | refine q0c ?_ | refine q0a ?_ _));refine q0t (cs := #[.bool t354,.slice none 0 0]) ?_ 1 _ rfl;(with_reducible repeat (first | refine q0b ?_ _ | refine q0c ?_ | refine q0a ?_ _));refine q0t (cs := #[.bool false,.slice none 0 0]) ?_ 0 _ rfl;(with_reducible repeat (first | refine q0b ?_ _ | refine q0c ?_ | refine q0a ?_ _));exact BK358.out⟩
        have n4_ : Aside0 (Below w.heap.size w (((w20.setCell ⟨gb358,0,none⟩ (.bool t354)).setCell ⟨gb358,1,none⟩ (.slice Ao24 t355.length co24)).setCell ⟨gb358,0,none⟩ (.bool (!t354)))) := ⟨by repeat (first | (with_reducible first | exact HB.out | apply q0h | apply q0d | apply q0f | refine q0g ?_ GE351.out | refine q0g ?_ GE353.out | refine q0g ?_ GE358.out) | exact HB.out)⟩
        (try clear HO357)
        (try clear BK351)
        (try clear BK353)
        (try clear BK358)
        (try clear HB)
        generalize (((w20.setCell ⟨gb358,0,none⟩ (.bool t354)).setCell ⟨gb358,1,none⟩ (.slice Ao24 t355.length co24)).setCell ⟨gb358,0,none⟩ (.bool (!t354))) = w25 at n0_ n1_ n2_ n3_ n4_ ⊢
        have HO357 := n0_
        have BK351 := n1_
        have BK353 := n2_
        have BK358 := n3_
        have HB := n4_
        clear n0_ n1_ n2_ n3_ n4_
        have n0_ := Aside0.mk (Kd.q0o HO357.out)
        have n1_ := Aside0.mk (q0c BK351.out)
        have n2_ := Aside0.mk (q0c BK353.out)
        have n3_ := Aside0.mk (q0c BK358.out)
        have n4_ := Aside0.mk (q0f HB.out)
        clear HO357
        clear BK351
        clear BK353
        clear BK358
        clear HB
        have HO357 := n0_
        have BK351 := n1_
        have BK353 := n2_
        have BK358 := n3_
        have HB := n4_
        clear n0_ n1_ n2_ n3_ n4_
        have p359 : 0 ≤ (x5_1 : Int) := of_decide_eq_true (by first | (with_reducible assumption) | assumption)
        have q359 : x5_1 < (l0.length : Int) := of_decide_eq_true (by first | (with_reducible assumption) | assumption)
        obtain ⟨ad359,e359,hx359_0,hx359_1,hx359_2,hx359_3⟩ := at_T45 HR0.out x5_1 p359 q359
        have hw359_3 := hx359_3
        have hw359_2 := hx359_2
        have hw359_1 := hx359_1
        have hw359_0 := hx359_0
        obtain rfl : ad352 = ad359 := (by injection e359)
        replace hx359_0 := (HB.out.cell (World.block_lt_of_cell? w _ hx359_0)).trans hx359_0
        replace hx359_1 := (HB.out.cell (World.block_lt_of_cell? w _ hx359_1)).trans hx359_1
        replace hx359_2 := (HB.out.cell (World.block_lt_of_cell? w _ hx359_2)).trans hx359_2
        replace hx359_3 := (HB.out.cell (World.block_lt_of_cell? w _ hx359_3)).trans hx359_3
        replace p359 := eq_true p359
        replace q359 := eq_true q359
        refine start_ (n := 9) (S := fun w' => w'.cell? ⟨gb358,0,none⟩ = some (.bool (!t354)) ∧ w'.cell? ⟨gb358,1,none⟩ = some (.slice Ao24 t355.length co24) ∧ w'.cell? (ad352.add ((x5_1).toNat * 4)) = some (.string ((q0e l0 x5_1).f0)) ∧ w'.cell? ⟨(ad352.add ((x5_1).toNat * 4)).block,(ad352.add ((x5_1).toNat * 4)).off + 1,none⟩ = some (.string ((q0e l0 x5_1).f1)) ∧ w'.cell? ⟨(ad352.add ((x5_1).toNat * 4)).block,(ad352.add ((x5_1).toNat * 4)).off + 2,none⟩ = some (.int .i64 ((q0e l0 x5_1).f2)) ∧ w'.cell? ⟨(ad352.add ((x5_1).toNat * 4)).block,(ad352.add ((x5_1).toNat * 4)).off + 3,none⟩ = some (.int .i64 ((q0e l0 x5_1).f3))) (ds := []) #[false,false,false,false,false,false,false,false,false] (by kernel_rfl) rfl rfl ⟨(q0i BK358.out 0).trans rfl,(q0i BK358.out 1).trans rfl,((HB.out.cell (World.block_lt_of_cell? w _ hw359_0)).trans hw359_0),((HB.out.cell (World.block_lt_of_cell? w _ hw359_1)).trans hw359_1),((HB.out.cell (World.block_lt_of_cell? w _ hw359_2)).trans hw359_2),((HB.out.cell (World.block_lt_of_cell? w _ hw359_3)).trans hw359_3)⟩ (fun hHeld => ?_);refine with_tabW verdererref28_Worst.tab9 verdererref28_Worst.bits9 (fun HT_ HW_ => ?_)
        generalize w25.drew = w26 at HO357 BK351 BK353 BK358 HB hx359_0 hx359_1 hx359_2 hx359_3 hHeld ⊢
        refine pure_ (i := 0) (N := some 26) (v := ?_) (a' := ?_) #[true,false,false,false,false,false,false,false,false] rfl rfl (q0r HT_.out (by kernel_rfl)) (fun _ _ _ h => h) (Or.inl ⟨by rfl,?_⟩) ?_ ?_
        rotate_left
        ·intro w'
         go_simp
         with_reducible rfl
        rotate_left
        ·simp only [Act.put,zA,zB,zC,i64_w,i32_w]
         rfl
        refine pure_ (i := 1) (N := some 27) (v := ?_) (a' := ?_) #[true,true,false,false,false,false,false,false,false] rfl rfl (q0r HT_.out (by kernel_rfl)) (fun _ _ _ h => h) (Or.inl ⟨by rfl,?_⟩) ?_ ?_
        rotate_left
        ·intro w'
         go_simp
         with_reducible rfl
        rotate_left
        ·simp only [Act.put,zA,zB,zC,i64_w,i32_w]
         rfl
        refine pure_ (i := 2) (N := some 28) (v := ?_) (a' := ?_) #[true,true,true,false,false,false,false,false,false] rfl rfl (q0r HT_.out (by kernel_rfl)) (fun _ _ _ h => h) (Or.inl ⟨by rfl,?_⟩) ?_ ?_
        rotate_left
        ·intro w'
         go_simp
         with_reducible rfl
        rotate_left
        ·simp only [Act.put,zA,zB,zC,i64_w,i32_w]
         rfl
        refine take_ (i := 3) (N := some 29) (v := ?_) (a' := ?_) #[true,true,true,true,false,false,false,false,false] rfl rfl (take_ofW HT_.out HW_.out (by kernel_rfl)) (fun _ _ _ h => h) (Or.inl ⟨by rfl,?_⟩) hHeld ?_ ?_
        rotate_left
        ·rintro w' ⟨s0,s1,s2,s3,s4,s5⟩
         go_simp
         with_reducible rfl
        rotate_left
        ·simp only [Act.put,zA,zB,zC,i64_w,i32_w]
         rfl
        refine take_ (i := 5) (N := some 31) (v := ?_) (a' := ?_) #[true,true,true,true,false,true,false,false,false] rfl rfl (take_ofW HT_.out HW_.out (by kernel_rfl)) (fun _ _ _ h => h) (Or.inl ⟨by rfl,?_⟩) hHeld ?_ ?_
        rotate_left
        ·rintro w' ⟨s0,s1,s2,s3,s4,s5⟩
         go_simp
         with_reducible rfl
        rotate_left
        ·simp only [Act.put,zA,zB,zC,i64_w,i32_w]
         rfl
        refine one_ (i := 4) (N := some 30) #[true,true,true,true,true,true,false,false,false] rfl rfl (one_of HT_.out (by kernel_rfl)) (by decide) (fun K hK => ?_)
        refine goes_ Try.func78 (by kernel_rfl) rfl #[.agg #[.string ((q0e l0 x5_1).f0),.string ((q0e l0 x5_1).f1),.int .i64 ((q0e l0 x5_1).f2),.int .i64 ((q0e l0 x5_1).f3)]] (by rfl) rfl rfl (by (try simp only [List.map_toArray,List.map_cons,List.map_nil]);first | done | rfl | (simp only [List.length_drop,List.length_take];rfl)) ?_
        with_reducible refine (verdererref28_room.calls k1 ((q0e l0 x5_1).f0) ((q0e l0 x5_1).f1) ((q0e l0 x5_1).f2) ((q0e l0 x5_1).f3) t360 t361 _ A13.out).mono ?_
        rintro e w27 ⟨v362,rfl,ho0,hb⟩
        refine ⟨_,rfl,?_⟩
        have n0_ := Aside0.mk (Kd.R_elder' (by (with_reducible repeat (first | apply Kd.q0m | apply Kd.q0n | apply Kd.q0o));exact HO357.out) (Kd.R_base ho0) hb)
        have n1_ := Aside0.mk (Kd.R_lower (Kd.R_new' ho0 (Kd.R_lt (by (with_reducible repeat (first | apply Kd.q0m | apply Kd.q0n | apply Kd.q0o));exact HO357.out))) (q0p (by repeat (first | (with_reducible first | exact HB.out | apply q0h | apply q0d | apply q0f | refine q0g ?_ GE351.out | refine q0g ?_ GE353.out | refine q0g ?_ GE358.out) | exact HB.out))))
        have n2_ := Aside0.mk (q0q (g := gb351) (o := .cells #[.string (⟨#[]⟩ : ByteArray),.string (⟨#[]⟩ : ByteArray),.int .i64 0,.int .i64 0] 45 (0,0)) (by (with_reducible repeat (first | refine q0b ?_ _ | refine q0c ?_ | refine q0a ?_ _));exact BK351.out) hb)
        have n3_ := Aside0.mk (q0q (g := gb353) (o := .cells #[.string x354000_1,.string x354001_1,.int .i64 x354002_1,.int .i64 x354003_1] 45 (0,0)) (by (with_reducible repeat (first | refine q0b ?_ _ | refine q0c ?_ | refine q0a ?_ _));exact BK353.out) hb)
        have n4_ := Aside0.mk (q0q (g := gb358) (o := .cells #[.bool (!t354),.slice Ao24 t355.length co24] 29 (0,0)) (by (with_reducible repeat (first | refine q0b ?_ _ | refine q0c ?_ | refine q0a ?_ _));exact BK358.out) hb)
        have n5_ := Aside0.mk (q0s (by repeat (first | (with_reducible first | exact HB.out | apply q0h | apply q0d | apply q0f | refine q0g ?_ GE351.out | refine q0g ?_ GE353.out | refine q0g ?_ GE358.out) | exact HB.out)) hb)
        clear HO357
        clear BK351
        clear BK353
        clear BK358
        clear HB
        have HO357 := n0_
        have HO363 := n1_
        have BK351 := n2_
        have BK353 := n3_
        have BK358 := n4_
        have HB := n5_
        clear n0_ n1_ n2_ n3_ n4_ n5_
        (try clear hb)
        (try clear hb2)
        (try clear hk)
        (try clear hi)
        (try clear ho0)
        obtain ⟨Ao28,co28,eo28⟩ := Kd.R_slice HO363.out
        (first | subst eo28 | (injection eo28 with f1_ f2_ f3_;have f4_ := f1_.symm;have f5_ := f3_.symm;clear f1_ f2_ f3_;subst f4_;subst f5_))
        refine hK.out _ _ ⟨(q0i BK358.out 0).trans rfl,(q0i BK358.out 1).trans rfl,((HB.out.cell (World.block_lt_of_cell? w _ hw359_0)).trans hw359_0),((HB.out.cell (World.block_lt_of_cell? w _ hw359_1)).trans hw359_1),((HB.out.cell (World.block_lt_of_cell? w _ hw359_2)).trans hw359_2),((HB.out.cell (World.block_lt_of_cell? w _ hw359_3)).trans hw359_3)⟩ (fun hHeld => ?_)
        clear hK K
        refine norm_ (a' := ?_) ?_ ?_
        rotate_left
        ·show Act.put _ (some 30) _ = _
         simp only [Act.put,zA,zB,zC,i64_w,i32_w]
         rfl
        refine one_ (i := 6) (N := some 32) #[true,true,true,true,true,true,true,false,false] rfl rfl (one_of HT_.out (by kernel_rfl)) (by decide) (fun K hK => ?_)
        refine goes_ Try.func16 (by kernel_rfl) rfl #[.agg #[.bool t360,.slice Ao28 t361.length co28],.agg #[.bool (!t354),.slice Ao24 t355.length co24]] (by rfl) rfl rfl (by (try simp only [List.map_toArray,List.map_cons,List.map_nil]);first | done | rfl | (simp only [List.length_drop,List.length_take];rfl)) ?_
        with_reducible refine (verdererref03_Plus.calls k1 t360 _ _ t361 (!t354) _ _ t355 t364 t365 _ ?side1 ?side2 ?side3 ?side4 A14.out).mono ?_
        (case side1 => repeat (first | exact (Kd.q02 HO363.out).2.2 | (with_reducible refine Kd.C_alloc ?_ _) | (with_reducible refine Kd.C_drewN ?_ _) | (with_reducible refine Kd.C_drew ?_)))
        (case side2 => exact (Kd.q02 HO363.out).2.1)
        (case side3 => repeat (first | exact (Kd.q02 HO357.out).2.2 | (with_reducible refine Kd.C_alloc ?_ _) | (with_reducible refine Kd.C_drewN ?_ _) | (with_reducible refine Kd.C_drew ?_)))
        (case side4 => exact (Kd.q02 HO357.out).2.1)
        rintro e w29 ⟨v366,rfl,ho0,hb⟩
        refine ⟨_,rfl,?_⟩
        have n0_ := Aside0.mk (Kd.R_elder' (by (with_reducible repeat (first | apply Kd.q0m | apply Kd.q0n | apply Kd.q0o));exact HO357.out) (Kd.R_base ho0) hb)
        have n1_ := Aside0.mk (Kd.R_elder' (by (with_reducible repeat (first | apply Kd.q0m | apply Kd.q0n | apply Kd.q0o));exact HO363.out) (Kd.R_base ho0) hb)
        have n2_ := Aside0.mk (Kd.R_lower (Kd.R_new' (Kd.R_new' ho0 (Kd.R_lt (by (with_reducible repeat (first | apply Kd.q0m | apply Kd.q0n | apply Kd.q0o));exact HO357.out))) (Kd.R_lt (by (with_reducible repeat (first | apply Kd.q0m | apply Kd.q0n | apply Kd.q0o));exact HO363.out))) (q0p (by repeat (first | (with_reducible first | exact HB.out | apply q0h | apply q0d | apply q0f | refine q0g ?_ GE351.out | refine q0g ?_ GE353.out | refine q0g ?_ GE358.out) | exact HB.out))))
        have n3_ := Aside0.mk (q0q (g := gb351) (o := .cells #[.string (⟨#[]⟩ : ByteArray),.string (⟨#[]⟩ : ByteArray),.int .i64 0,.int .i64 0] 45 (0,0)) (by (with_reducible repeat (first | refine q0b ?_ _ | refine q0c ?_ | refine q0a ?_ _));exact BK351.out) hb)
        have n4_ := Aside0.mk (q0q (g := gb353) (o := .cells #[.string x354000_1,.string x354001_1,.int .i64 x354002_1,.int .i64 x354003_1] 45 (0,0)) (by (with_reducible repeat (first | refine q0b ?_ _ | refine q0c ?_ | refine q0a ?_ _));exact BK353.out) hb)
        have n5_ := Aside0.mk (q0q (g := gb358) (o := .cells #[.bool (!t354),.slice Ao24 t355.length co24] 29 (0,0)) (by (with_reducible repeat (first | refine q0b ?_ _ | refine q0c ?_ | refine q0a ?_ _));exact BK358.out) hb)
        have n6_ := Aside0.mk (q0s (by repeat (first | (with_reducible first | exact HB.out | apply q0h | apply q0d | apply q0f | refine q0g ?_ GE351.out | refine q0g ?_ GE353.out | refine q0g ?_ GE358.out) | exact HB.out)) hb)
        clear HO357
        clear HO363
        clear BK351
        clear BK353
        clear BK358
        clear HB
        have HO357 := n0_
        have HO363 := n1_
        have HO367 := n2_
        have BK351 := n3_
        have BK353 := n4_
        have BK358 := n5_
        have HB := n6_
        clear n0_ n1_ n2_ n3_ n4_ n5_ n6_
        (try clear hb)
        (try clear hb2)
        (try clear hk)
        (try clear hi)
        (try clear ho0)
        obtain ⟨Ao30,co30,eo30⟩ := Kd.R_slice HO367.out
        (first | subst eo30 | (injection eo30 with f1_ f2_ f3_;have f4_ := f1_.symm;have f5_ := f3_.symm;clear f1_ f2_ f3_;subst f4_;subst f5_))
        refine hK.out _ _ ⟨(q0i BK358.out 0).trans rfl,(q0i BK358.out 1).trans rfl,((HB.out.cell (World.block_lt_of_cell? w _ hw359_0)).trans hw359_0),((HB.out.cell (World.block_lt_of_cell? w _ hw359_1)).trans hw359_1),((HB.out.cell (World.block_lt_of_cell? w _ hw359_2)).trans hw359_2),((HB.out.cell (World.block_lt_of_cell? w _ hw359_3)).trans hw359_3)⟩ (fun hHeld => ?_)
        clear hK K
        refine norm_ (a' := ?_) ?_ ?_
        rotate_left
        ·show Act.put _ (some 32) _ = _
         simp only [Act.put,zA,zB,zC,i64_w,i32_w]
         rfl
        refine one_ (i := 7) (N := some 33) #[true,true,true,true,true,true,true,true,false] rfl rfl (one_of HT_.out (by kernel_rfl)) (by decide) (fun K hK => ?_)
        refine goes_ Try.func21 (by kernel_rfl) rfl #[.agg #[.bool t364,.slice Ao30 t365.length co30]] (by rfl) rfl rfl (by (try simp only [List.map_toArray,List.map_cons,List.map_nil]);first | done | rfl | (simp only [List.length_drop,List.length_take];rfl)) ?_
        with_reducible refine (verdererref03_Big_Sign.calls k1 t364 _ _ t365 t368 _ ?side1 ?side2 A15.out).mono ?_
        (case side1 => repeat (first | exact (Kd.q02 HO367.out).2.2 | (with_reducible refine Kd.C_alloc ?_ _) | (with_reducible refine Kd.C_drewN ?_ _) | (with_reducible refine Kd.C_drew ?_)))
        (case side2 => exact (Kd.q02 HO367.out).2.1)
        rintro e w31 ⟨rfl,hb⟩
        refine ⟨_,rfl,?_⟩
        have n0_ := Aside0.mk (Kd.q0v (by (with_reducible repeat (first | apply Kd.q0m | apply Kd.q0n | apply Kd.q0o));exact HO357.out) hb)
        have n1_ := Aside0.mk (Kd.q0v (by (with_reducible repeat (first | apply Kd.q0m | apply Kd.q0n | apply Kd.q0o));exact HO363.out) hb)
        have n2_ := Aside0.mk (Kd.q0v (by (with_reducible repeat (first | apply Kd.q0m | apply Kd.q0n | apply Kd.q0o));exact HO367.out) hb)
        have n3_ := Aside0.mk (q0q (g := gb351) (o := .cells #[.string (⟨#[]⟩ : ByteArray),.string (⟨#[]⟩ : ByteArray),.int .i64 0,.int .i64 0] 45 (0,0)) (by (with_reducible repeat (first | refine q0b ?_ _ | refine q0c ?_ | refine q0a ?_ _));exact BK351.out) hb)
        have n4_ := Aside0.mk (q0q (g := gb353) (o := .cells #[.string x354000_1,.string x354001_1,.int .i64 x354002_1,.int .i64 x354003_1] 45 (0,0)) (by (with_reducible repeat (first | refine q0b ?_ _ | refine q0c ?_ | refine q0a ?_ _));exact BK353.out) hb)
        have n5_ := Aside0.mk (q0q (g := gb358) (o := .cells #[.bool (!t354),.slice Ao24 t355.length co24] 29 (0,0)) (by (with_reducible repeat (first | refine q0b ?_ _ | refine q0c ?_ | refine q0a ?_ _));exact BK358.out) hb)
        have n6_ := Aside0.mk (q0s (by repeat (first | (with_reducible first | exact HB.out | apply q0h | apply q0d | apply q0f | refine q0g ?_ GE351.out | refine q0g ?_ GE353.out | refine q0g ?_ GE358.out) | exact HB.out)) hb)
        clear HO357
        clear HO363
        clear HO367
        clear BK351
        clear BK353
        clear BK358
        clear HB
        have HO357 := n0_
        have HO363 := n1_
        have HO367 := n2_
        have BK351 := n3_
        have BK353 := n4_
        have BK358 := n5_
        have HB := n6_
        clear n0_ n1_ n2_ n3_ n4_ n5_ n6_
        (try clear hb)
        (try clear hb2)
        (try clear hk)
        (try clear hi)
        refine hK.out _ _ ⟨(q0i BK358.out 0).trans rfl,(q0i BK358.out 1).trans rfl,((HB.out.cell (World.block_lt_of_cell? w _ hw359_0)).trans hw359_0),((HB.out.cell (World.block_lt_of_cell? w _ hw359_1)).trans hw359_1),((HB.out.cell (World.block_lt_of_cell? w _ hw359_2)).trans hw359_2),((HB.out.cell (World.block_lt_of_cell? w _ hw359_3)).trans hw359_3)⟩ (fun hHeld => ?_)
        clear hK K
        refine norm_ (a' := ?_) ?_ ?_
        rotate_left
        ·show Act.put _ (some 33) _ = _
         simp only [Act.put,zA,zB,zC,i64_w,i32_w]
         rfl
        refine pure_ (i := 8) (N := some 34) (v := ?_) (a' := ?_) #[true,true,true,true,true,true,true,true,true] rfl rfl (q0r HT_.out (by kernel_rfl)) (fun _ _ _ h => h) (Or.inl ⟨by rfl,?_⟩) ?_ ?_
        rotate_left
        ·intro w'
         go_simp
         with_reducible rfl
        rotate_left
        ·simp only [Act.put,zA,zB,zC,i64_w,i32_w]
         rfl
        refine done_ (done_of HT_.out (by kernel_rfl)) ?_
        have p369 : 0 ≤ (x5_1 : Int) := of_decide_eq_true (by first | (with_reducible assumption) | assumption)
        have q369 : x5_1 < (l0.length : Int) := of_decide_eq_true (by first | (with_reducible assumption) | assumption)
        obtain ⟨ad369,e369,hx369_0,hx369_1,hx369_2,hx369_3⟩ := at_T45 HR0.out x5_1 p369 q369
        obtain rfl : ad352 = ad369 := (by injection e369)
        replace hx369_0 := (HB.out.cell (World.block_lt_of_cell? w _ hx369_0)).trans hx369_0
        replace hx369_1 := (HB.out.cell (World.block_lt_of_cell? w _ hx369_1)).trans hx369_1
        replace hx369_2 := (HB.out.cell (World.block_lt_of_cell? w _ hx369_2)).trans hx369_2
        replace hx369_3 := (HB.out.cell (World.block_lt_of_cell? w _ hx369_3)).trans hx369_3
        replace p369 := eq_true p369
        replace q369 := eq_true q369
        have hcz32_0 : w31.cell? ⟨gb353,0,none⟩ = some (.string x354000_1) := (q0i BK353.out 0).trans rfl
        have hcz32_1 : w31.cell? ⟨gb353,1,none⟩ = some (.string x354001_1) := (q0i BK353.out 1).trans rfl
        have hcz32_2 : w31.cell? ⟨gb353,2,none⟩ = some (.int .i64 x354002_1) := (q0i BK353.out 2).trans rfl
        have hcz32_3 : w31.cell? ⟨gb353,3,none⟩ = some (.int .i64 x354003_1) := (q0i BK353.out 3).trans rfl
        have hfz32_0 := q0k BK353.out 0
        have hfz32_1 := q0k BK353.out 1
        have hfz32_2 := q0k BK353.out 2
        have hfz32_3 := q0k BK353.out 3
        try go_wp2
        go_roundg k1
        case measure => have := HK1.out;omega
        case rel => exact ⟨(wrap64 (x5_1 + 1)),((q0e l0 x5_1).f0),((q0e l0 x5_1).f1),((q0e l0 x5_1).f2),((q0e l0 x5_1).f3),(by first | rfl | (simp;done) | (simp [*];done)),H',⟨by have := HK1.out;omega⟩,⟨by (with_reducible repeat (first | refine q0b ?_ _ | refine q0c ?_ | refine q0a ?_ _));refine q0u ?_ NB351_353.out _;(with_reducible repeat (first | refine q0b ?_ _ | refine q0c ?_ | refine q0a ?_ _));refine q0u ?_ NB351_353.out _;(with_reducible repeat (first | refine q0b ?_ _ | refine q0c ?_ | refine q0a ?_ _));refine q0u ?_ NB351_353.out _;(with_reducible repeat (first | refine q0b ?_ _ | refine q0c ?_ | refine q0a ?_ _));refine q0u ?_ NB351_353.out _;(with_reducible repeat (first | refine q0b ?_ _ | refine q0c ?_ | refine q0a ?_ _));exact BK351.out⟩,⟨by (with_reducible repeat (first | refine q0b ?_ _ | refine q0c ?_ | refine q0a ?_ _));refine q0t (cs := #[.string ((q0e l0 x5_1).f0),.string ((q0e l0 x5_1).f1),.int .i64 ((q0e l0 x5_1).f2),.int .i64 x354003_1]) ?_ 3 _ rfl;(with_reducible repeat (first | refine q0b ?_ _ | refine q0c ?_ | refine q0a ?_ _));refine q0t (cs := #[.string ((q0e l0 x5_1).f0),.string ((q0e l0 x5_1).f1),.int .i64 x354002_1,.int .i64 x354003_1]) ?_ 2 _ rfl;(with_reducible repeat (first | refine q0b ?_ _ | refine q0c ?_ | refine q0a ?_ _));refine q0t (cs := #[.string ((q0e l0 x5_1).f0),.string x354001_1,.int .i64 x354002_1,.int .i64 x354003_1]) ?_ 1 _ rfl;(with_reducible repeat (first | refine q0b ?_ _ | refine q0c ?_ | refine q0a ?_ _));refine q0t (cs := #[.string x354000_1,.string x354001_1,.int .i64 x354002_1,.int .i64 x354003_1]) ?_ 0 _ rfl;(with_reducible repeat (first | refine q0b ?_ _ | refine q0c ?_ | refine q0a ?_ _));exact BK353.out⟩,⟨by repeat (first | (with_reducible first | exact HB.out | apply q0h | apply q0d | apply q0f | refine q0g ?_ GE351.out | refine q0g ?_ GE353.out | refine q0g ?_ GE358.out) | exact HB.out)⟩⟩
       ·rw [if_neg c16] at H
        have c16b0 : decide (t368 < 0) = false := decide_eq_false c16
        clear c16
        have H' := Aside0.mk H
        clear H
        have hnb33 := NB353_351.out
        have hnc33 := NB351_353.out
        have hcz34_0 : wr.cell? ⟨gb353,0,none⟩ = some (.string x354000_1) := (q0i BK353.out 0).trans rfl
        have hcz34_1 : wr.cell? ⟨gb353,1,none⟩ = some (.string x354001_1) := (q0i BK353.out 1).trans rfl
        have hcz34_2 : wr.cell? ⟨gb353,2,none⟩ = some (.int .i64 x354002_1) := (q0i BK353.out 2).trans rfl
        have hcz34_3 : wr.cell? ⟨gb353,3,none⟩ = some (.int .i64 x354003_1) := (q0i BK353.out 3).trans rfl
        have hfz34_0 := q0k BK353.out 0
        have hfz34_1 := q0k BK353.out 1
        have hfz34_2 := q0k BK353.out 2
        have hfz34_3 := q0k BK353.out 3
        try go_wp2_with (first | ((with_reducible refine q00 (f := 78) rfl ?_);refine goesL_ (some 21) rfl rfl Try.func78 (by kernel_rfl) rfl #[.agg #[.string x354000_1,.string x354001_1,.int .i64 x354002_1,.int .i64 x354003_1]] rfl (by (try simp only [List.map_toArray,List.map_cons,List.map_nil]);first | done | rfl | (simp only [List.length_drop,List.length_take];rfl)) ?_;(with_reducible refine (verdererref28_room.calls k1 x354000_1 x354001_1 x354002_1 x354003_1 t354 t355 _ A11.out).mono ?_);rintro e w35 ⟨v356,rfl,ho0,hb⟩;refine ⟨_,rfl,?_⟩;have n0_ := Aside0.mk (Kd.R_lower ho0 (q0p (by repeat (first | (with_reducible first | exact HB.out | apply q0h | apply q0d | apply q0f | refine q0g ?_ GE351.out | refine q0g ?_ GE353.out) | exact HB.out))));have n1_ := Aside0.mk (q0q (g := gb351) (o := .cells #[.string (⟨#[]⟩ : ByteArray),.string (⟨#[]⟩ : ByteArray),.int .i64 0,.int .i64 0] 45 (0,0)) (by (with_reducible repeat (first | refine q0b ?_ _ | refine q0c ?_ | refine q0a ?_ _));exact BK351.out) hb);have n2_ := Aside0.mk (q0q (g := gb353) (o := .cells #[.string x354000_1,.string x354001_1,.int .i64 x354002_1,.int .i64 x354003_1] 45 (0,0)) (by (with_reducible repeat (first | refine q0b ?_ _ | refine q0c ?_ | refine q0a ?_ _));exact BK353.out) hb);have n3_ := Aside0.mk (q0s (by repeat (first | (with_reducible first | exact HB.out | apply q0h | apply q0d | apply q0f | refine q0g ?_ GE351.out | refine q0g ?_ GE353.out) | exact HB.out)) hb);clear BK351;clear BK353;clear HB;have HO357 := n0_;have BK351 := n1_;have BK353 := n2_;have HB := n3_;clear n0_ n1_ n2_ n3_;(try clear hb);(try clear hb2);(try clear hk);(try clear hi);(try clear ho0)) | ((with_reducible refine gate_dst (N := 6) rfl ?_);refine q03 ?hg (N := 6) ?hd (cs := #[.bool false,.slice none 0 0]) (t := 29) ?hr ?_;(case hd => rfl);(case hg => rfl);(case hr => first | (go_simp;done) | (go_simp;rfl));intro gb358 hg w36 hbox hb;have n0_ := Aside0.mk (Kd.q0v (by (with_reducible repeat (first | apply Kd.q0m | apply Kd.q0n | apply Kd.q0o));exact HO357.out) hb);have n1_ := Aside0.mk (q0q (g := gb351) (o := .cells #[.string (⟨#[]⟩ : ByteArray),.string (⟨#[]⟩ : ByteArray),.int .i64 0,.int .i64 0] 45 (0,0)) (by (with_reducible repeat (first | refine q0b ?_ _ | refine q0c ?_ | refine q0a ?_ _));exact BK351.out) hb);have n2_ := Aside0.mk (q0q (g := gb353) (o := .cells #[.string x354000_1,.string x354001_1,.int .i64 x354002_1,.int .i64 x354003_1] 45 (0,0)) (by (with_reducible repeat (first | refine q0b ?_ _ | refine q0c ?_ | refine q0a ?_ _));exact BK353.out) hb);have n3_ := Aside0.mk (q0s (by repeat (first | (with_reducible first | exact HB.out | apply q0h | apply q0d | apply q0f | refine q0g ?_ GE351.out | refine q0g ?_ GE353.out) | exact HB.out)) hb);have n4_ := Aside0.mk (hbox);have n5_ := Aside0.mk ((by rw [hg];exact (q0p (by repeat (first | (with_reducible first | exact HB.out | apply q0h | apply q0d | apply q0f | refine q0g ?_ GE351.out | refine q0g ?_ GE353.out) | exact HB.out))) : w.heap.size ≤ gb358));have n6_ := Aside0.mk ((by rw [hg];exact (q0p (by repeat (first | (with_reducible first | exact HB.out | apply q0h | apply q0d | apply q0f | refine q0g ?_ GE351.out | refine q0g ?_ GE353.out) | exact HB.out))) : w.heap.size ≤ gb358));have n7_ := Aside0.mk ((by rw [hg];exact Nat.ne_of_lt (q0y (g := gb351) (o := .cells #[.string (⟨#[]⟩ : ByteArray),.string (⟨#[]⟩ : ByteArray),.int .i64 0,.int .i64 0] 45 (0,0)) (by (with_reducible repeat (first | refine q0b ?_ _ | refine q0c ?_ | refine q0a ?_ _));exact BK351.out)) : gb351 ≠ gb358));have n8_ := Aside0.mk ((by rw [hg];exact Nat.ne_of_gt (q0y (g := gb351) (o := .cells #[.string (⟨#[]⟩ : ByteArray),.string (⟨#[]⟩ : ByteArray),.int .i64 0,.int .i64 0] 45 (0,0)) (by (with_reducible repeat (first | refine q0b ?_ _ | refine q0c ?_ | refine q0a ?_ _));exact BK351.out)) : gb358 ≠ gb351));have n9_ := Aside0.mk ((by rw [hg];exact Nat.ne_of_lt (q0y (g := gb353) (o := .cells #[.string x354000_1,.string x354001_1,.int .i64 x354002_1,.int .i64 x354003_1] 45 (0,0)) (by (with_reducible repeat (first | refine q0b ?_ _ | refine q0c ?_ | refine q0a ?_ _));exact BK353.out)) : gb353 ≠ gb358));have n10_ := Aside0.mk ((by rw [hg];exact Nat.ne_of_gt (q0y (g := gb353) (o := .cells #[.string x354000_1,.string x354001_1,.int .i64 x354002_1,.int .i64 x354003_1] 45 (0,0)) (by (with_reducible repeat (first | refine q0b ?_ _ | refine q0c ?_ | refine q0a ?_ _));exact BK353.out)) : gb358 ≠ gb353));clear HO357;clear BK351;clear BK353;clear HB;have HO357 := n0_;have BK351 := n1_;have BK353 := n2_;have HB := n3_;have BK358 := n4_;have GW358 := n5_;have GE358 := n6_;have NB351_358 := n7_;have NB358_351 := n8_;have NB353_358 := n9_;have NB358_353 := n10_;clear n0_ n1_ n2_ n3_ n4_ n5_ n6_ n7_ n8_ n9_ n10_;clear hb hbox hg;have hnb37 := NB358_351.out;have hnc37 := NB351_358.out;have hnb38 := NB358_353.out;have hnc38 := NB353_358.out;have hcz39_0 : w36.cell? ⟨gb358,0,none⟩ = some (.bool false) := (q0i BK358.out 0).trans rfl;have hcz39_1 : w36.cell? ⟨gb358,1,none⟩ = some (.slice none 0 0) := (q0i BK358.out 1).trans rfl;have hfz39_0 := q0k BK358.out 0;have hfz39_1 := q0k BK358.out 1;obtain ⟨Ao40,co40,eo40⟩ := Kd.R_slice HO357.out;subst eo40))
        have n0_ : Aside0 (Kd.R (Kd.int .u64) 96 (((w36.setCell ⟨gb358,0,none⟩ (.bool t354)).setCell ⟨gb358,1,none⟩ (.slice Ao40 t355.length co40)).setCell ⟨gb358,0,none⟩ (.bool (!t354))) w.heap.size (fun _ => True) (.slice Ao40 t355.length co40) t355) := ⟨by (with_reducible repeat (first | apply Kd.q0m | apply Kd.q0n | apply Kd.q0o));exact Kd.R_mono (Kd.R_far (p := ⟨gb358,0,none⟩) (Kd.R_far (p := ⟨gb358,1,none⟩) (Kd.R_far (p := ⟨gb358,0,none⟩) (Kd.R_types HO357.out BK358.out (by decide)) (fun _ hk => hk.2) (.bool t354)) (fun _ hk => hk.2) (.slice Ao40 t355.length co40)) (fun _ hk => hk.2) (.bool (!t354))) (fun _ hk => trivial)⟩
        have n1_ : Aside0 ((((w36.setCell ⟨gb358,0,none⟩ (.bool t354)).setCell ⟨gb358,1,none⟩ (.slice Ao40 t355.length co40)).setCell ⟨gb358,0,none⟩ (.bool (!t354))).heap[gb351]? = some (.cells #[.string (⟨#[]⟩ : ByteArray),.string (⟨#[]⟩ : ByteArray),.int .i64 0,.int .i64 0] 45 (0,0))) := ⟨by (with_reducible repeat (first | refine q0b ?_ _ | refine q0c ?_ | refine q0a ?_ _));refine q0u ?_ NB351_358.out _;(with_reducible repeat (first | refine q0b ?_ _ | refine q0c ?_ | refine q0a ?_ _));refine q0u ?_ NB351_358.out _;(with_reducible repeat (first | refine q0b ?_ _ | refine q0c ?_ | refine q0a ?_ _));refine q0u ?_ NB351_358.out _;(with_reducible repeat (first | refine q0b ?_ _ | refine q0c ?_ | refine q0a ?_ _));exact BK351.out⟩
        have n2_ : Aside0 ((((w36.setCell ⟨gb358,0,none⟩ (.bool t354)).setCell ⟨gb358,1,none⟩ (.slice Ao40 t355.length co40)).setCell ⟨gb358,0,none⟩ (.bool (!t354))).heap[gb353]? = some (.cells #[.string x354000_1,.string x354001_1,.int .i64 x354002_1,.int .i64 x354003_1] 45 (0,0))) := ⟨by (with_reducible repeat (first | refine q0b ?_ _ | refine q0c ?_ | refine q0a ?_ _));refine q0u ?_ NB353_358.out _;(with_reducible repeat (first | refine q0b ?_ _ | refine q0c ?_ | refine q0a ?_ _));refine q0u ?_ NB353_358.out _;(with_reducible repeat (first | refine q0b ?_ _ | refine q0c ?_ | refine q0a ?_ _));refine q0u ?_ NB353_358.out _;(with_reducible repeat (first | refine q0b ?_ _ | refine q0c ?_ | refine q0a ?_ _));exact BK353.out⟩
        have n3_ : Aside0 ((((w36.setCell ⟨gb358,0,none⟩ (.bool t354)).setCell ⟨gb358,1,none⟩ (.slice Ao40 t355.length co40)).setCell ⟨gb358,0,none⟩ (.bool (!t354))).heap[gb358]? = some (.cells #[.bool (!t354),.slice Ao40 t355.length co40] 29 (0,0))) := ⟨by (with_reducible repeat (first | refine q0b ?_ _ | refine q0c ?_ | refine q0a ?_ _));refine q0t (cs := #[.bool t354,.slice Ao40 t355.length co40]) ?_ 0 _ rfl;(with_reducible repeat (first | refine q0b ?_ _ | refine q0c ?_ | refine q0a ?_ _));refine q0t (cs := #[.bool t354,.slice none 0 0]) ?_ 1 _ rfl;(with_reducible repeat (first | refine q0b ?_ _ | refine q0c ?_ | refine q0a ?_ _));refine q0t (cs := #[.bool false,.slice none 0 0]) ?_ 0 _ rfl;(with_reducible repeat (first | refine q0b ?_ _ | refine q0c ?_ | refine q0a ?_ _));exact BK358.out⟩
        have n4_ : Aside0 (Below w.heap.size w (((w36.setCell ⟨gb358,0,none⟩ (.bool t354)).setCell ⟨gb358,1,none⟩ (.slice Ao40 t355.length co40)).setCell ⟨gb358,0,none⟩ (.bool (!t354)))) := ⟨by repeat (first | (with_reducible first | exact HB.out | apply q0h | apply q0d | apply q0f | refine q0g ?_ GE351.out | refine q0g ?_ GE353.out | refine q0g ?_ GE358.out) | exact HB.out)⟩
        (try clear HO357)
        (try clear BK351)
        (try clear BK353)
        (try clear BK358)
        (try clear HB)
        generalize (((w36.setCell ⟨gb358,0,none⟩ (.bool t354)).setCell ⟨gb358,1,none⟩ (.slice Ao40 t355.length co40)).setCell ⟨gb358,0,none⟩ (.bool (!t354))) = w41 at n0_ n1_ n2_ n3_ n4_ ⊢
        have HO357 := n0_
        have BK351 := n1_
        have BK353 := n2_
        have BK358 := n3_
        have HB := n4_
        clear n0_ n1_ n2_ n3_ n4_
        have n0_ := Aside0.mk (Kd.q0o HO357.out)
        have n1_ := Aside0.mk (q0c BK351.out)
        have n2_ := Aside0.mk (q0c BK353.out)
        have n3_ := Aside0.mk (q0c BK358.out)
        have n4_ := Aside0.mk (q0f HB.out)
        clear HO357
        clear BK351
        clear BK353
        clear BK358
        clear HB
        have HO357 := n0_
        have BK351 := n1_
        have BK353 := n2_
        have BK358 := n3_
        have HB := n4_
        clear n0_ n1_ n2_ n3_ n4_
        have p359 : 0 ≤ (x5_1 : Int) := of_decide_eq_true (by first | (with_reducible assumption) | assumption)
        have q359 : x5_1 < (l0.length : Int) := of_decide_eq_true (by first | (with_reducible assumption) | assumption)
        obtain ⟨ad359,e359,hx359_0,hx359_1,hx359_2,hx359_3⟩ := at_T45 HR0.out x5_1 p359 q359
        have hw359_3 := hx359_3
        have hw359_2 := hx359_2
        have hw359_1 := hx359_1
        have hw359_0 := hx359_0
        obtain rfl : ad352 = ad359 := (by injection e359)
        replace hx359_0 := (HB.out.cell (World.block_lt_of_cell? w _ hx359_0)).trans hx359_0
        replace hx359_1 := (HB.out.cell (World.block_lt_of_cell? w _ hx359_1)).trans hx359_1
        replace hx359_2 := (HB.out.cell (World.block_lt_of_cell? w _ hx359_2)).trans hx359_2
        replace hx359_3 := (HB.out.cell (World.block_lt_of_cell? w _ hx359_3)).trans hx359_3
        replace p359 := eq_true p359
        replace q359 := eq_true q359
        refine start_ (n := 9) (S := fun w' => w'.cell? ⟨gb358,0,none⟩ = some (.bool (!t354)) ∧ w'.cell? ⟨gb358,1,none⟩ = some (.slice Ao40 t355.length co40) ∧ w'.cell? (ad352.add ((x5_1).toNat * 4)) = some (.string ((q0e l0 x5_1).f0)) ∧ w'.cell? ⟨(ad352.add ((x5_1).toNat * 4)).block,(ad352.add ((x5_1).toNat * 4)).off + 1,none⟩ = some (.string ((q0e l0 x5_1).f1)) ∧ w'.cell? ⟨(ad352.add ((x5_1).toNat * 4)).block,(ad352.add ((x5_1).toNat * 4)).off + 2,none⟩ = some (.int .i64 ((q0e l0 x5_1).f2)) ∧ w'.cell? ⟨(ad352.add ((x5_1).toNat * 4)).block,(ad352.add ((x5_1).toNat * 4)).off + 3,none⟩ = some (.int .i64 ((q0e l0 x5_1).f3))) (ds := []) #[false,false,false,false,false,false,false,false,false] (by kernel_rfl) rfl rfl ⟨(q0i BK358.out 0).trans rfl,(q0i BK358.out 1).trans rfl,((HB.out.cell (World.block_lt_of_cell? w _ hw359_0)).trans hw359_0),((HB.out.cell (World.block_lt_of_cell? w _ hw359_1)).trans hw359_1),((HB.out.cell (World.block_lt_of_cell? w _ hw359_2)).trans hw359_2),((HB.out.cell (World.block_lt_of_cell? w _ hw359_3)).trans hw359_3)⟩ (fun hHeld => ?_);refine with_tabW verdererref28_Worst.tab9 verdererref28_Worst.bits9 (fun HT_ HW_ => ?_)
        generalize w41.drew = w42 at HO357 BK351 BK353 BK358 HB hx359_0 hx359_1 hx359_2 hx359_3 hHeld ⊢
        refine pure_ (i := 0) (N := some 26) (v := ?_) (a' := ?_) #[true,false,false,false,false,false,false,false,false] rfl rfl (q0r HT_.out (by kernel_rfl)) (fun _ _ _ h => h) (Or.inl ⟨by rfl,?_⟩) ?_ ?_
        rotate_left
        ·intro w'
         go_simp
         with_reducible rfl
        rotate_left
        ·simp only [Act.put,zA,zB,zC,i64_w,i32_w]
         rfl
        refine pure_ (i := 1) (N := some 27) (v := ?_) (a' := ?_) #[true,true,false,false,false,false,false,false,false] rfl rfl (q0r HT_.out (by kernel_rfl)) (fun _ _ _ h => h) (Or.inl ⟨by rfl,?_⟩) ?_ ?_
        rotate_left
        ·intro w'
         go_simp
         with_reducible rfl
        rotate_left
        ·simp only [Act.put,zA,zB,zC,i64_w,i32_w]
         rfl
        refine pure_ (i := 2) (N := some 28) (v := ?_) (a' := ?_) #[true,true,true,false,false,false,false,false,false] rfl rfl (q0r HT_.out (by kernel_rfl)) (fun _ _ _ h => h) (Or.inl ⟨by rfl,?_⟩) ?_ ?_
        rotate_left
        ·intro w'
         go_simp
         with_reducible rfl
        rotate_left
        ·simp only [Act.put,zA,zB,zC,i64_w,i32_w]
         rfl
        refine take_ (i := 3) (N := some 29) (v := ?_) (a' := ?_) #[true,true,true,true,false,false,false,false,false] rfl rfl (take_ofW HT_.out HW_.out (by kernel_rfl)) (fun _ _ _ h => h) (Or.inl ⟨by rfl,?_⟩) hHeld ?_ ?_
        rotate_left
        ·rintro w' ⟨s0,s1,s2,s3,s4,s5⟩
         go_simp
         with_reducible rfl
        rotate_left
        ·simp only [Act.put,zA,zB,zC,i64_w,i32_w]
         rfl
        refine take_ (i := 5) (N := some 31) (v := ?_) (a' := ?_) #[true,true,true,true,false,true,false,false,false] rfl rfl (take_ofW HT_.out HW_.out (by kernel_rfl)) (fun _ _ _ h => h) (Or.inl ⟨by rfl,?_⟩) hHeld ?_ ?_
        rotate_left
        ·rintro w' ⟨s0,s1,s2,s3,s4,s5⟩
         go_simp
         with_reducible rfl
        rotate_left
        ·simp only [Act.put,zA,zB,zC,i64_w,i32_w]
         rfl
        refine one_ (i := 4) (N := some 30) #[true,true,true,true,true,true,false,false,false] rfl rfl (one_of HT_.out (by kernel_rfl)) (by decide) (fun K hK => ?_)
        refine goes_ Try.func78 (by kernel_rfl) rfl #[.agg #[.string ((q0e l0 x5_1).f0),.string ((q0e l0 x5_1).f1),.int .i64 ((q0e l0 x5_1).f2),.int .i64 ((q0e l0 x5_1).f3)]] (by rfl) rfl rfl (by (try simp only [List.map_toArray,List.map_cons,List.map_nil]);first | done | rfl | (simp only [List.length_drop,List.length_take];rfl)) ?_
        with_reducible refine (verdererref28_room.calls k1 ((q0e l0 x5_1).f0) ((q0e l0 x5_1).f1) ((q0e l0 x5_1).f2) ((q0e l0 x5_1).f3) t360 t361 _ A13.out).mono ?_
        rintro e w43 ⟨v362,rfl,ho0,hb⟩
        refine ⟨_,rfl,?_⟩
        have n0_ := Aside0.mk (Kd.R_elder' (by (with_reducible repeat (first | apply Kd.q0m | apply Kd.q0n | apply Kd.q0o));exact HO357.out) (Kd.R_base ho0) hb)
        have n1_ := Aside0.mk (Kd.R_lower (Kd.R_new' ho0 (Kd.R_lt (by (with_reducible repeat (first | apply Kd.q0m | apply Kd.q0n | apply Kd.q0o));exact HO357.out))) (q0p (by repeat (first | (with_reducible first | exact HB.out | apply q0h | apply q0d | apply q0f | refine q0g ?_ GE351.out | refine q0g ?_ GE353.out | refine q0g ?_ GE358.out) | exact HB.out))))
        have n2_ := Aside0.mk (q0q (g := gb351) (o := .cells #[.string (⟨#[]⟩ : ByteArray),.string (⟨#[]⟩ : ByteArray),.int .i64 0,.int .i64 0] 45 (0,0)) (by (with_reducible repeat (first | refine q0b ?_ _ | refine q0c ?_ | refine q0a ?_ _));exact BK351.out) hb)
        have n3_ := Aside0.mk (q0q (g := gb353) (o := .cells #[.string x354000_1,.string x354001_1,.int .i64 x354002_1,.int .i64 x354003_1] 45 (0,0)) (by (with_reducible repeat (first | refine q0b ?_ _ | refine q0c ?_ | refine q0a ?_ _));exact BK353.out) hb)
        have n4_ := Aside0.mk (q0q (g := gb358) (o := .cells #[.bool (!t354),.slice Ao40 t355.length co40] 29 (0,0)) (by (with_reducible repeat (first | refine q0b ?_ _ | refine q0c ?_ | refine q0a ?_ _));exact BK358.out) hb)
        have n5_ := Aside0.mk (q0s (by repeat (first | (with_reducible first | exact HB.out | apply q0h | apply q0d | apply q0f | refine q0g ?_ GE351.out | refine q0g ?_ GE353.out | refine q0g ?_ GE358.out) | exact HB.out)) hb)
        clear HO357
        clear BK351
        clear BK353
        clear BK358
        clear HB
        have HO357 := n0_
        have HO363 := n1_
        have BK351 := n2_
        have BK353 := n3_
        have BK358 := n4_
        have HB := n5_
        clear n0_ n1_ n2_ n3_ n4_ n5_
        (try clear hb)
        (try clear hb2)
        (try clear hk)
        (try clear hi)
        (try clear ho0)
        obtain ⟨Ao44,co44,eo44⟩ := Kd.R_slice HO363.out
        (first | subst eo44 | (injection eo44 with f1_ f2_ f3_;have f4_ := f1_.symm;have f5_ := f3_.symm;clear f1_ f2_ f3_;subst f4_;subst f5_))
        refine hK.out _ _ ⟨(q0i BK358.out 0).trans rfl,(q0i BK358.out 1).trans rfl,((HB.out.cell (World.block_lt_of_cell? w _ hw359_0)).trans hw359_0),((HB.out.cell (World.block_lt_of_cell? w _ hw359_1)).trans hw359_1),((HB.out.cell (World.block_lt_of_cell? w _ hw359_2)).trans hw359_2),((HB.out.cell (World.block_lt_of_cell? w _ hw359_3)).trans hw359_3)⟩ (fun hHeld => ?_)
        clear hK K
        refine norm_ (a' := ?_) ?_ ?_
        rotate_left
        ·show Act.put _ (some 30) _ = _
         simp only [Act.put,zA,zB,zC,i64_w,i32_w]
         rfl
        refine one_ (i := 6) (N := some 32) #[true,true,true,true,true,true,true,false,false] rfl rfl (one_of HT_.out (by kernel_rfl)) (by decide) (fun K hK => ?_)
        refine goes_ Try.func16 (by kernel_rfl) rfl #[.agg #[.bool t360,.slice Ao44 t361.length co44],.agg #[.bool (!t354),.slice Ao40 t355.length co40]] (by rfl) rfl rfl (by (try simp only [List.map_toArray,List.map_cons,List.map_nil]);first | done | rfl | (simp only [List.length_drop,List.length_take];rfl)) ?_
        with_reducible refine (verdererref03_Plus.calls k1 t360 _ _ t361 (!t354) _ _ t355 t364 t365 _ ?side1 ?side2 ?side3 ?side4 A14.out).mono ?_
        (case side1 => repeat (first | exact (Kd.q02 HO363.out).2.2 | (with_reducible refine Kd.C_alloc ?_ _) | (with_reducible refine Kd.C_drewN ?_ _) | (with_reducible refine Kd.C_drew ?_)))
        (case side2 => exact (Kd.q02 HO363.out).2.1)
        (case side3 => repeat (first | exact (Kd.q02 HO357.out).2.2 | (with_reducible refine Kd.C_alloc ?_ _) | (with_reducible refine Kd.C_drewN ?_ _) | (with_reducible refine Kd.C_drew ?_)))
        (case side4 => exact (Kd.q02 HO357.out).2.1)
        rintro e w45 ⟨v366,rfl,ho0,hb⟩
        refine ⟨_,rfl,?_⟩
        have n0_ := Aside0.mk (Kd.R_elder' (by (with_reducible repeat (first | apply Kd.q0m | apply Kd.q0n | apply Kd.q0o));exact HO357.out) (Kd.R_base ho0) hb)
        have n1_ := Aside0.mk (Kd.R_elder' (by (with_reducible repeat (first | apply Kd.q0m | apply Kd.q0n | apply Kd.q0o));exact HO363.out) (Kd.R_base ho0) hb)
        have n2_ := Aside0.mk (Kd.R_lower (Kd.R_new' (Kd.R_new' ho0 (Kd.R_lt (by (with_reducible repeat (first | apply Kd.q0m | apply Kd.q0n | apply Kd.q0o));exact HO357.out))) (Kd.R_lt (by (with_reducible repeat (first | apply Kd.q0m | apply Kd.q0n | apply Kd.q0o));exact HO363.out))) (q0p (by repeat (first | (with_reducible first | exact HB.out | apply q0h | apply q0d | apply q0f | refine q0g ?_ GE351.out | refine q0g ?_ GE353.out | refine q0g ?_ GE358.out) | exact HB.out))))
        have n3_ := Aside0.mk (q0q (g := gb351) (o := .cells #[.string (⟨#[]⟩ : ByteArray),.string (⟨#[]⟩ : ByteArray),.int .i64 0,.int .i64 0] 45 (0,0)) (by (with_reducible repeat (first | refine q0b ?_ _ | refine q0c ?_ | refine q0a ?_ _));exact BK351.out) hb)
        have n4_ := Aside0.mk (q0q (g := gb353) (o := .cells #[.string x354000_1,.string x354001_1,.int .i64 x354002_1,.int .i64 x354003_1] 45 (0,0)) (by (with_reducible repeat (first | refine q0b ?_ _ | refine q0c ?_ | refine q0a ?_ _));exact BK353.out) hb)
        have n5_ := Aside0.mk (q0q (g := gb358) (o := .cells #[.bool (!t354),.slice Ao40 t355.length co40] 29 (0,0)) (by (with_reducible repeat (first | refine q0b ?_ _ | refine q0c ?_ | refine q0a ?_ _));exact BK358.out) hb)
        have n6_ := Aside0.mk (q0s (by repeat (first | (with_reducible first | exact HB.out | apply q0h | apply q0d | apply q0f | refine q0g ?_ GE351.out | refine q0g ?_ GE353.out | refine q0g ?_ GE358.out) | exact HB.out)) hb)
        clear HO357
        clear HO363
        clear BK351
        clear BK353
        clear BK358
        clear HB
        have HO357 := n0_
        have HO363 := n1_
        have HO367 := n2_
        have BK351 := n3_
        have BK353 := n4_
        have BK358 := n5_
        have HB := n6_
        clear n0_ n1_ n2_ n3_ n4_ n5_ n6_
        (try clear hb)
        (try clear hb2)
        (try clear hk)
        (try clear hi)
        (try clear ho0)
        obtain ⟨Ao46,co46,eo46⟩ := Kd.R_slice HO367.out
        (first | subst eo46 | (injection eo46 with f1_ f2_ f3_;have f4_ := f1_.symm;have f5_ := f3_.symm;clear f1_ f2_ f3_;subst f4_;subst f5_))
        refine hK.out _ _ ⟨(q0i BK358.out 0).trans rfl,(q0i BK358.out 1).trans rfl,((HB.out.cell (World.block_lt_of_cell? w _ hw359_0)).trans hw359_0),((HB.out.cell (World.block_lt_of_cell? w _ hw359_1)).trans hw359_1),((HB.out.cell (World.block_lt_of_cell? w _ hw359_2)).trans hw359_2),((HB.out.cell (World.block_lt_of_cell? w _ hw359_3)).trans hw359_3)⟩ (fun hHeld => ?_)
        clear hK K
        refine norm_ (a' := ?_) ?_ ?_
        rotate_left
        ·show Act.put _ (some 32) _ = _
         simp only [Act.put,zA,zB,zC,i64_w,i32_w]
         rfl
        refine one_ (i := 7) (N := some 33) #[true,true,true,true,true,true,true,true,false] rfl rfl (one_of HT_.out (by kernel_rfl)) (by decide) (fun K hK => ?_)
        refine goes_ Try.func21 (by kernel_rfl) rfl #[.agg #[.bool t364,.slice Ao46 t365.length co46]] (by rfl) rfl rfl (by (try simp only [List.map_toArray,List.map_cons,List.map_nil]);first | done | rfl | (simp only [List.length_drop,List.length_take];rfl)) ?_
        with_reducible refine (verdererref03_Big_Sign.calls k1 t364 _ _ t365 t368 _ ?side1 ?side2 A15.out).mono ?_
        (case side1 => repeat (first | exact (Kd.q02 HO367.out).2.2 | (with_reducible refine Kd.C_alloc ?_ _) | (with_reducible refine Kd.C_drewN ?_ _) | (with_reducible refine Kd.C_drew ?_)))
        (case side2 => exact (Kd.q02 HO367.out).2.1)
        rintro e w47 ⟨rfl,hb⟩
        refine ⟨_,rfl,?_⟩
        have n0_ := Aside0.mk (Kd.q0v (by (with_reducible repeat (first | apply Kd.q0m | apply Kd.q0n | apply Kd.q0o));exact HO357.out) hb)
        have n1_ := Aside0.mk (Kd.q0v (by (with_reducible repeat (first | apply Kd.q0m | apply Kd.q0n | apply Kd.q0o));exact HO363.out) hb)
        have n2_ := Aside0.mk (Kd.q0v (by (with_reducible repeat (first | apply Kd.q0m | apply Kd.q0n | apply Kd.q0o));exact HO367.out) hb)
        have n3_ := Aside0.mk (q0q (g := gb351) (o := .cells #[.string (⟨#[]⟩ : ByteArray),.string (⟨#[]⟩ : ByteArray),.int .i64 0,.int .i64 0] 45 (0,0)) (by (with_reducible repeat (first | refine q0b ?_ _ | refine q0c ?_ | refine q0a ?_ _));exact BK351.out) hb)
        have n4_ := Aside0.mk (q0q (g := gb353) (o := .cells #[.string x354000_1,.string x354001_1,.int .i64 x354002_1,.int .i64 x354003_1] 45 (0,0)) (by (with_reducible repeat (first | refine q0b ?_ _ | refine q0c ?_ | refine q0a ?_ _));exact BK353.out) hb)
        have n5_ := Aside0.mk (q0q (g := gb358) (o := .cells #[.bool (!t354),.slice Ao40 t355.length co40] 29 (0,0)) (by (with_reducible repeat (first | refine q0b ?_ _ | refine q0c ?_ | refine q0a ?_ _));exact BK358.out) hb)
        have n6_ := Aside0.mk (q0s (by repeat (first | (with_reducible first | exact HB.out | apply q0h | apply q0d | apply q0f | refine q0g ?_ GE351.out | refine q0g ?_ GE353.out | refine q0g ?_ GE358.out) | exact HB.out)) hb)
        clear HO357
        clear HO363
        clear HO367
        clear BK351
        clear BK353
        clear BK358
        clear HB
        have HO357 := n0_
        have HO363 := n1_
        have HO367 := n2_
        have BK351 := n3_
        have BK353 := n4_
        have BK358 := n5_
        have HB := n6_
        clear n0_ n1_ n2_ n3_ n4_ n5_ n6_
        (try clear hb)
        (try clear hb2)
        (try clear hk)
        (try clear hi)
        refine hK.out _ _ ⟨(q0i BK358.out 0).trans rfl,(q0i BK358.out 1).trans rfl,((HB.out.cell (World.block_lt_of_cell? w _ hw359_0)).trans hw359_0),((HB.out.cell (World.block_lt_of_cell? w _ hw359_1)).trans hw359_1),((HB.out.cell (World.block_lt_of_cell? w _ hw359_2)).trans hw359_2),((HB.out.cell (World.block_lt_of_cell? w _ hw359_3)).trans hw359_3)⟩ (fun hHeld => ?_)
        clear hK K
        refine norm_ (a' := ?_) ?_ ?_
        rotate_left
        ·show Act.put _ (some 33) _ = _
         simp only [Act.put,zA,zB,zC,i64_w,i32_w]
         rfl
        refine pure_ (i := 8) (N := some 34) (v := ?_) (a' := ?_) #[true,true,true,true,true,true,true,true,true] rfl rfl (q0r HT_.out (by kernel_rfl)) (fun _ _ _ h => h) (Or.inl ⟨by rfl,?_⟩) ?_ ?_
        rotate_left
        ·intro w'
         go_simp
         with_reducible rfl
        rotate_left
        ·simp only [Act.put,zA,zB,zC,i64_w,i32_w]
         rfl
        refine done_ (done_of HT_.out (by kernel_rfl)) ?_
        try go_wp2
        go_roundg k1
        case measure => have := HK1.out;omega
        case rel => exact ⟨(wrap64 (x5_1 + 1)),(x354000_1),(x354001_1),(x354002_1),(x354003_1),(by first | rfl | (simp;done) | (simp [*];done)),H',⟨by have := HK1.out;omega⟩,⟨by (with_reducible repeat (first | refine q0b ?_ _ | refine q0c ?_ | refine q0a ?_ _));exact BK351.out⟩,⟨by (with_reducible repeat (first | refine q0b ?_ _ | refine q0c ?_ | refine q0a ?_ _));exact BK353.out⟩,⟨by repeat (first | (with_reducible first | exact HB.out | apply q0h | apply q0d | apply q0f | refine q0g ?_ GE351.out | refine q0g ?_ GE353.out | refine q0g ?_ GE358.out) | exact HB.out)⟩⟩
      ·rw [if_neg c12] at H
       exact absurd H (by simp)
     ·rw [if_neg c10] at H
      have c10b0 : decide (x5_1 < (l0.length : Int)) = false := decide_eq_false c10
      clear c10
      simp only [Option.some.injEq,Prod.mk.injEq] at H
      obtain ⟨rfl,rfl,rfl,rfl,rfl⟩ := H
      have hnb48 := NB353_351.out
      have hnc48 := NB351_353.out
      have hcz49_0 : wr.cell? ⟨gb353,0,none⟩ = some (.string x354000_1) := (q0i BK353.out 0).trans rfl
      have hcz49_1 : wr.cell? ⟨gb353,1,none⟩ = some (.string x354001_1) := (q0i BK353.out 1).trans rfl
      have hcz49_2 : wr.cell? ⟨gb353,2,none⟩ = some (.int .i64 x354002_1) := (q0i BK353.out 2).trans rfl
      have hcz49_3 : wr.cell? ⟨gb353,3,none⟩ = some (.int .i64 x354003_1) := (q0i BK353.out 3).trans rfl
      have hfz49_0 := q0k BK353.out 0
      have hfz49_1 := q0k BK353.out 1
      have hfz49_2 := q0k BK353.out 2
      have hfz49_3 := q0k BK353.out 3
      have hcz50_0 : wr.cell? ⟨gb351,0,none⟩ = some (.string (⟨#[]⟩ : ByteArray)) := (q0i BK351.out 0).trans rfl
      have hcz50_1 : wr.cell? ⟨gb351,1,none⟩ = some (.string (⟨#[]⟩ : ByteArray)) := (q0i BK351.out 1).trans rfl
      have hcz50_2 : wr.cell? ⟨gb351,2,none⟩ = some (.int .i64 0) := (q0i BK351.out 2).trans rfl
      have hcz50_3 : wr.cell? ⟨gb351,3,none⟩ = some (.int .i64 0) := (q0i BK351.out 3).trans rfl
      have hfz50_0 := q0k BK351.out 0
      have hfz50_1 := q0k BK351.out 1
      have hfz50_2 := q0k BK351.out 2
      have hfz50_3 := q0k BK351.out 3
      go_wp2
      refine bodyPost_ret (results_ct rfl _ _ gb351 45 #[.string x354000_1,.string x354001_1,.int .i64 x354002_1,.int .i64 x354003_1] (0,0) _ rfl (by (with_reducible repeat (first | refine q0b ?_ _ | refine q0c ?_ | refine q0a ?_ _));refine q0t (cs := #[.string x354000_1,.string x354001_1,.int .i64 x354002_1,.int .i64 0]) ?_ 3 _ rfl;(with_reducible repeat (first | refine q0b ?_ _ | refine q0c ?_ | refine q0a ?_ _));refine q0t (cs := #[.string x354000_1,.string x354001_1,.int .i64 0,.int .i64 0]) ?_ 2 _ rfl;(with_reducible repeat (first | refine q0b ?_ _ | refine q0c ?_ | refine q0a ?_ _));refine q0t (cs := #[.string x354000_1,.string (⟨#[]⟩ : ByteArray),.int .i64 0,.int .i64 0]) ?_ 1 _ rfl;(with_reducible repeat (first | refine q0b ?_ _ | refine q0c ?_ | refine q0a ?_ _));refine q0t (cs := #[.string (⟨#[]⟩ : ByteArray),.string (⟨#[]⟩ : ByteArray),.int .i64 0,.int .i64 0]) ?_ 0 _ rfl;(with_reducible repeat (first | refine q0b ?_ _ | refine q0c ?_ | refine q0a ?_ _));exact BK351.out) Try.underlying45 rfl (by kernel_rfl)) rfl ?_
      exact ⟨by first | rfl | (simp [q0w,q0x] <;> rfl) | (simp [*,q0w,q0x] <;> rfl),by repeat (first | (with_reducible first | exact HB.out | apply q0h | apply q0d | apply q0f | refine q0g ?_ GE351.out | refine q0g ?_ GE353.out) | exact HB.out)⟩
  ·rw [if_neg c5] at H
   exact absurd H (by simp)
end Go.Proofs.Ytcenlehfbgnphaa.Z
end
section
namespace Go.Proofs.Ytcenlehfbgnphaa.Z
open Go.RowKit Go.Proofs.YtcenlehfbgnphaaW.PrintWords Go.Proofs.YtcenlehfbgnphaaW.PrintLast Go.Proofs.YtcenlehfbgnphaaW.PrintMore
attribute [local go_sem] max2_int min2_int max_two min_two max_three min_three max_four min_four
set_option linter.unusedVariables false
set_option linter.unusedSimpArgs false
mutual
def verdererref03_Big_Value.l0 : Nat → Int → Int → Bool → List Int → Option (Int × Int)
 | 0,_,_,_,_ => none
 | k + 1,x4,x5,x132000,x132001 => if x5 ≥ 0 then (if x5 > 3 then ((verdererref03_Big_at.f x132000 x132001 x5).bind fun t132 => (verdererref03_Big_Value.j1 k x4 x5 (decide (t132 > 0)) x132000 x132001)) else (verdererref03_Big_Value.j1 k x4 x5 false x132000 x132001)) else (if x132000 = true then (verdererref03_Big_Value.j2 k x4 (decide (x4 ≤ 9223372036854775808)) x132000 x132001) else (verdererref03_Big_Value.j2 k x4 false x132000 x132001))
def verdererref03_Big_Value.j1 : Nat → Int → Int → Bool → Bool → List Int → Option (Int × Int)
 | 0,_,_,_,_,_ => none
 | k + 1,x4,x5,x17,x132000,x132001 => if x17 = true then (some (0,10)) else (if x5 ≤ 3 then ((verdererref03_Big_at.f x132000 x132001 x5).bind fun t133 => (verdererref03_Big_Value.l0 k (IntKind.u64.wrap ((IntKind.u64.wrap (x4 * 65536)) + t133)) (wrap64 (x5 - 1)) x132000 x132001)) else (verdererref03_Big_Value.l0 k x4 (wrap64 (x5 - 1)) x132000 x132001))
def verdererref03_Big_Value.j2 : Nat → Int → Bool → Bool → List Int → Option (Int × Int)
 | 0,_,_,_,_ => none
 | k + 1,x4,x31,x132000,x132001 => if x31 = true then (some (wrap64 (IntKind.u64.wrap (-x4)),0)) else (if x132000 = true then (some (0,10)) else (if x4 < 9223372036854775808 then (some (wrap64 (x4),0)) else (some (0,10))))
end
def verdererref03_Big_Value.f (k : Nat) (a0_0 : Bool) (l0_1 : List Int) : Option (Int × Int) := verdererref03_Big_Value.l0 k 0 19 a0_0 l0_1
theorem verdererref03_Big_Value.mono_l : ∀ k,(∀ y0 y1 y2 y3,LeO (verdererref03_Big_Value.l0 k y0 y1 y2 y3) (verdererref03_Big_Value.l0 (k + 1) y0 y1 y2 y3)) ∧ (∀ y0 y1 y2 y3 y4,LeO (verdererref03_Big_Value.j1 k y0 y1 y2 y3 y4) (verdererref03_Big_Value.j1 (k + 1) y0 y1 y2 y3 y4)) ∧ (∀ y0 y1 y2 y3,LeO (verdererref03_Big_Value.j2 k y0 y1 y2 y3) (verdererref03_Big_Value.j2 (k + 1) y0 y1 y2 y3))
 | 0 => ⟨fun _ _ _ _ r h => by simp [verdererref03_Big_Value.l0] at h,fun _ _ _ _ _ r h => by simp [verdererref03_Big_Value.j1] at h,fun _ _ _ _ r h => by simp [verdererref03_Big_Value.j2] at h⟩
 | k + 1 => by
  obtain ⟨ih0,ih1,ih2⟩ := verdererref03_Big_Value.mono_l k
  refine ⟨?_,?_,?_⟩
  ·intro y0 y1 y2 y3
   unfold verdererref03_Big_Value.l0
   repeat' first
   | (with_reducible exact ih0 _ _ _ _)
   | (with_reducible exact ih1 _ _ _ _ _)
   | (with_reducible exact ih2 _ _ _ _)
   | (with_reducible exact LeO.refl _)
   | (with_reducible exact LeO.none _)
   | (with_reducible refine LeO.ite ?_ ?_)
   | (with_reducible refine LeO.bind ?_ (fun _ => ?_))
   | exact ih0 _ _ _ _
   | exact ih1 _ _ _ _ _
   | exact ih2 _ _ _ _
   | exact LeO.none _
   | refine LeO.ite ?_ ?_
   | refine LeO.bind ?_ (fun _ => ?_)
  ·intro y0 y1 y2 y3 y4
   unfold verdererref03_Big_Value.j1
   repeat' first
   | (with_reducible exact ih0 _ _ _ _)
   | (with_reducible exact ih1 _ _ _ _ _)
   | (with_reducible exact ih2 _ _ _ _)
   | (with_reducible exact LeO.refl _)
   | (with_reducible exact LeO.none _)
   | (with_reducible refine LeO.ite ?_ ?_)
   | (with_reducible refine LeO.bind ?_ (fun _ => ?_))
   | exact ih0 _ _ _ _
   | exact ih1 _ _ _ _ _
   | exact ih2 _ _ _ _
   | exact LeO.none _
   | refine LeO.ite ?_ ?_
   | refine LeO.bind ?_ (fun _ => ?_)
  ·intro y0 y1 y2 y3
   unfold verdererref03_Big_Value.j2
   repeat' first
   | (with_reducible exact ih0 _ _ _ _)
   | (with_reducible exact ih1 _ _ _ _ _)
   | (with_reducible exact ih2 _ _ _ _)
   | (with_reducible exact LeO.refl _)
   | (with_reducible exact LeO.none _)
   | (with_reducible refine LeO.ite ?_ ?_)
   | (with_reducible refine LeO.bind ?_ (fun _ => ?_))
   | exact ih0 _ _ _ _
   | exact ih1 _ _ _ _ _
   | exact ih2 _ _ _ _
   | exact LeO.none _
   | refine LeO.ite ?_ ?_
   | refine LeO.bind ?_ (fun _ => ?_)
theorem verdererref03_Big_Value.mono : ∀ a0 a1 k,LeO (verdererref03_Big_Value.f k a0 a1) (verdererref03_Big_Value.f (k + 1) a0 a1) := by
 intro a0 a1 k
 obtain ⟨ih0,ih1,ih2⟩ := verdererref03_Big_Value.mono_l k
 unfold verdererref03_Big_Value.f
 repeat' first
   | (with_reducible exact ih0 _ _ _ _)
   | (with_reducible exact ih1 _ _ _ _ _)
   | (with_reducible exact ih2 _ _ _ _)
   | (with_reducible exact LeO.refl _)
   | (with_reducible exact LeO.none _)
   | (with_reducible refine LeO.ite ?_ ?_)
   | (with_reducible refine LeO.bind ?_ (fun _ => ?_))
   | exact ih0 _ _ _ _
   | exact ih1 _ _ _ _ _
   | exact ih2 _ _ _ _
   | exact LeO.none _
   | refine LeO.ite ?_ ?_
   | refine LeO.bind ?_ (fun _ => ?_)
set_option maxHeartbeats 8000000 in
set_option maxRecDepth 100000 in
theorem verdererref03_Big_Value.calls (k : Nat) (a0_0 : Bool) (A0_1 : Option Addr) (c0_1 : Nat) (l0_1 : List Int) (r1 : Int) (r2 : Int) (w : World) (hr0_1 : Kd.C (Kd.int .u64) w A0_1 l0_1.length l0_1) (hc0_1 : l0_1.length ≤ c0_1) (h : verdererref03_Big_Value.f k a0_0 l0_1 = some (r1,r2)) :
  Calls Try.prog 19 #[.agg #[.bool a0_0,.slice A0_1 l0_1.length c0_1]] w fun e w' => e = .returned (.tuple #[.int .i64 r1,.int .i64 r2]) ∧ Below w.heap.size w w' := by
 have hu29 := Try.underlying29
 have HR0_1 := Aside0.mk hr0_1
 have HC0_1 := Aside0.mk hc0_1
 clear hr0_1 hc0_1
 have HB := Aside0.mk (Below.refl w.heap.size w)
 have H : (verdererref03_Big_Value.l0 k 0 19 a0_0 l0_1) = some (r1,r2) := h
 clear h
 have H' := Aside0.mk H
 clear H
 go_enter Try.func19,Try.ntmps19
 go_wp2_with (first | ((with_reducible refine gate_dst (N := 1) rfl ?_);refine q03 ?hg (N := 1) ?hd (cs := #[.bool a0_0,.slice A0_1 l0_1.length c0_1]) (t := 29) ?hr ?_;(case hd => rfl);(case hg => rfl);(case hr => first | (go_simp;done) | (go_simp;rfl));intro gb131 hg w2 hbox hb;have n0_ := Aside0.mk (q0s (by repeat (first | (with_reducible first | exact HB.out | apply q0h | apply q0d | apply q0f) | exact HB.out)) hb);have n1_ := Aside0.mk (hbox);have n2_ := Aside0.mk ((by rw [hg];exact (q0p (by repeat (first | (with_reducible first | exact HB.out | apply q0h | apply q0d | apply q0f) | exact HB.out))) : w.heap.size ≤ gb131));have n3_ := Aside0.mk ((by rw [hg];exact (q0p (by repeat (first | (with_reducible first | exact HB.out | apply q0h | apply q0d | apply q0f) | exact HB.out))) : w.heap.size ≤ gb131));clear HB;have HB := n0_;have BK131 := n1_;have GW131 := n2_;have GE131 := n3_;clear n0_ n1_ n2_ n3_;clear hb hbox hg))
 go_loopg [4,5] k (fun kq v4 v5 w' => ∃ (x4_1 : Int) (x5_1 : Int),v4 = .int .u64 x4_1 ∧ v5 = .int .i64 x5_1 ∧ Aside0 (verdererref03_Big_Value.l0 kq x4_1 x5_1 a0_0 l0_1 = some (r1,r2)) ∧ Aside0 (kq ≤ k) ∧ Aside0 (w'.heap[gb131]? = some (.cells #[.bool a0_0,(.slice A0_1 l0_1.length c0_1)] 29 (0,0))) ∧ Aside0 (Below w.heap.size w w'))
 case atStart => exact ⟨(0),(19),(by first | rfl | (simp;done) | (simp [*];done)),(by first | rfl | (simp;done) | (simp [*];done)),H',⟨Nat.le_refl _⟩,⟨by (with_reducible repeat (first | refine q0b ?_ _ | refine q0c ?_ | refine q0a ?_ _));exact BK131.out⟩,⟨by repeat (first | (with_reducible first | exact HB.out | apply q0h | apply q0d | apply q0f | refine q0g ?_ GE131.out) | exact HB.out)⟩⟩
 case round =>
  clear H'
  try clear c1
  try clear p2
  obtain ⟨x4_1,x5_1,rfl,rfl,HA,HK1,BK131,HB⟩ := hrel
  cases gk with
  | zero => exact absurd HA.out (by simp [verdererref03_Big_Value.l0])
  | succ k1 =>
   have H := HA.out
   clear HA
   simp only [verdererref03_Big_Value.l0] at H
   by_cases c3 : x5_1 ≥ 0
   ·rw [if_pos c3] at H
    have c3b0 : decide (0 ≤ x5_1) = true := decide_eq_true c3
    clear c3
    have HC4 := Aside0.mk H
    clear H
    go_upto_region 5 with (fail)
    go_cut [17] (fun v17 wc => ∃ (kq : Nat) (x17_3 : Bool),v17 = .bool x17_3 ∧ Aside0 (verdererref03_Big_Value.j1 kq x4_1 x5_1 x17_3 a0_0 l0_1 = some (r1,r2)) ∧ Aside0 (kq ≤ k1) ∧ Aside0 (wc.heap[gb131]? = some (.cells #[.bool a0_0,(.slice A0_1 l0_1.length c0_1)] 29 (0,0))) ∧ Aside0 (Below w.heap.size w wc))
    case first =>
     have H := HC4.out
     clear HC4
     by_cases c5 : x5_1 > 3
     ·rw [if_pos c5] at H
      have c5b0 : decide (3 < x5_1) = true := decide_eq_true c5
      clear c5
      (first | rw [c5b0] | (simp only [i64_w,i32_w];rw [c5b0]) | skip)
      replace H := Option.bind_eq_some_iff.mp H
      obtain ⟨t132,A60,H⟩ := H
      replace H : (verdererref03_Big_Value.j1 k1 x4_1 x5_1 (decide (t132 > 0)) a0_0 l0_1) = some (r1,r2) := H
      have A6 := Aside0.mk A60
      clear A60
      have H' := Aside0.mk H
      clear H
      have hcz7_0 : wr.cell? ⟨gb131,0,none⟩ = some (.bool a0_0) := (q0i BK131.out 0).trans rfl
      have hcz7_1 : wr.cell? ⟨gb131,1,none⟩ = some (.slice A0_1 l0_1.length c0_1) := (q0i BK131.out 1).trans rfl
      have hfz7_0 := q0k BK131.out 0
      have hfz7_1 := q0k BK131.out 1
      go_wp2_with (first | (go_at_call 60;(with_reducible refine (verdererref03_Big_at.calls a0_0 _ _ l0_1 x5_1 t132 _ ?side1 ?side2 A6.out).mono ?_);(case side1 => repeat (first | exact (Kd.C_below HR0_1.out HB.out) | (with_reducible refine Kd.C_alloc ?_ _) | (with_reducible refine Kd.C_drewN ?_ _) | (with_reducible refine Kd.C_drew ?_)));(case side2 => exact HC0_1.out);rintro e w8 ⟨rfl,hb⟩;have n0_ := Aside0.mk (q0q (g := gb131) (o := .cells #[.bool a0_0,.slice A0_1 l0_1.length c0_1] 29 (0,0)) (by (with_reducible repeat (first | refine q0b ?_ _ | refine q0c ?_ | refine q0a ?_ _));exact BK131.out) hb);have n1_ := Aside0.mk (q0s (by repeat (first | (with_reducible first | exact HB.out | apply q0h | apply q0d | apply q0f | refine q0g ?_ GE131.out) | exact HB.out)) hb);clear BK131;clear HB;have BK131 := n0_;have HB := n1_;clear n0_ n1_;(try clear hb);(try clear hb2);(try clear hk);(try clear hi)))
      go_meet
      case rel => exact ⟨_,(decide (t132 > 0)),(by first | rfl | (simp;done) | (simp [*];done)),H',⟨by have := HK1.out;first | omega | exact Nat.le_refl _⟩,⟨by (with_reducible repeat (first | refine q0b ?_ _ | refine q0c ?_ | refine q0a ?_ _));exact BK131.out⟩,⟨by repeat (first | (with_reducible first | exact HB.out | apply q0h | apply q0d | apply q0f | refine q0g ?_ GE131.out) | exact HB.out)⟩⟩
     ·rw [if_neg c5] at H
      have c5b0 : decide (3 < x5_1) = false := decide_eq_false c5
      clear c5
      (first | rw [c5b0] | (simp only [i64_w,i32_w];rw [c5b0]) | skip)
      have H' := Aside0.mk H
      clear H
      go_wp2
      go_meet
      case rel => exact ⟨_,(false),(by first | rfl | (simp;done) | (simp [*];done)),H',⟨by have := HK1.out;first | omega | exact Nat.le_refl _⟩,⟨by (with_reducible repeat (first | refine q0b ?_ _ | refine q0c ?_ | refine q0a ?_ _));exact BK131.out⟩,⟨by repeat (first | (with_reducible first | exact HB.out | apply q0h | apply q0d | apply q0f | refine q0g ?_ GE131.out) | exact HB.out)⟩⟩
    case rest =>
     clear HC4
     try clear c1
     try clear p2
     try clear c3
     try clear c3b0
     try clear c5
     try clear c5b0
     try clear hcz7_0
     try clear hcz7_1
     try clear hfz7_0
     try clear hfz7_1
     try clear p2
     obtain ⟨kq,x17_3,rfl,HA,HJ3,BK131,HB⟩ := hcut
     cases kq with
     | zero => exact absurd HA.out (by simp [verdererref03_Big_Value.j1])
     | succ kj3 =>
      have H := HA.out
      clear HA
      simp only [verdererref03_Big_Value.j1] at H
      by_cases c9 : x17_3 = true
      ·subst c9
       have H1 : (some (0,10)) = some (r1,r2) := by rw [if_pos rfl] at H;exact H
       clear H
       have H := H1
       clear H1
       simp only [Option.some.injEq,Prod.mk.injEq] at H
       obtain ⟨rfl,rfl⟩ := H
       go_wp2
       go_ret2
       exact ⟨by first | rfl | (simp [q0w,q0x] <;> rfl) | (simp [*,q0w,q0x] <;> rfl),by repeat (first | (with_reducible first | exact HB.out | apply q0h | apply q0d | apply q0f | refine q0g ?_ GE131.out) | exact HB.out)⟩
      ·replace c9 := Bool.eq_false_iff.mpr c9
       subst c9
       have H1 : (if x5_1 ≤ 3 then ((verdererref03_Big_at.f a0_0 l0_1 x5_1).bind fun t133 => (verdererref03_Big_Value.l0 kj3 (IntKind.u64.wrap ((IntKind.u64.wrap (x4_1 * 65536)) + t133)) (wrap64 (x5_1 - 1)) a0_0 l0_1)) else (verdererref03_Big_Value.l0 kj3 x4_1 (wrap64 (x5_1 - 1)) a0_0 l0_1)) = some (r1,r2) := by rw [if_neg (show ¬ (false = true) by decide)] at H;exact H
       clear H
       have H := H1
       clear H1
       by_cases c10 : x5_1 ≤ 3
       ·rw [if_pos c10] at H
        have c10b0 : decide (x5_1 ≤ 3) = true := decide_eq_true c10
        clear c10
        replace H := Option.bind_eq_some_iff.mp H
        obtain ⟨t133,A110,H⟩ := H
        replace H : (verdererref03_Big_Value.l0 kj3 (IntKind.u64.wrap ((IntKind.u64.wrap (x4_1 * 65536)) + t133)) (wrap64 (x5_1 - 1)) a0_0 l0_1) = some (r1,r2) := H
        have A11 := Aside0.mk A110
        clear A110
        have H' := Aside0.mk H
        clear H
        have hcz12_0 : wc.cell? ⟨gb131,0,none⟩ = some (.bool a0_0) := (q0i BK131.out 0).trans rfl
        have hcz12_1 : wc.cell? ⟨gb131,1,none⟩ = some (.slice A0_1 l0_1.length c0_1) := (q0i BK131.out 1).trans rfl
        have hfz12_0 := q0k BK131.out 0
        have hfz12_1 := q0k BK131.out 1
        go_wp2_with (first | ((with_reducible refine q00 (f := 60) rfl ?_);refine goesL_ (some 24) rfl rfl Try.func60 (by kernel_rfl) rfl #[.agg #[.bool a0_0,.slice A0_1 l0_1.length c0_1],.int .i64 x5_1] rfl (by (try simp only [List.map_toArray,List.map_cons,List.map_nil]);first | done | rfl | (simp only [List.length_drop,List.length_take];rfl)) ?_;(with_reducible refine (verdererref03_Big_at.calls a0_0 _ _ l0_1 x5_1 t133 _ ?side1 ?side2 A11.out).mono ?_);(case side1 => repeat (first | exact (Kd.C_below HR0_1.out HB.out) | (with_reducible refine Kd.C_alloc ?_ _) | (with_reducible refine Kd.C_drewN ?_ _) | (with_reducible refine Kd.C_drew ?_)));(case side2 => exact HC0_1.out);rintro e w13 ⟨rfl,hb⟩;refine ⟨_,rfl,?_⟩;have n0_ := Aside0.mk (q0q (g := gb131) (o := .cells #[.bool a0_0,.slice A0_1 l0_1.length c0_1] 29 (0,0)) (by (with_reducible repeat (first | refine q0b ?_ _ | refine q0c ?_ | refine q0a ?_ _));exact BK131.out) hb);have n1_ := Aside0.mk (q0s (by repeat (first | (with_reducible first | exact HB.out | apply q0h | apply q0d | apply q0f | refine q0g ?_ GE131.out) | exact HB.out)) hb);clear BK131;clear HB;have BK131 := n0_;have HB := n1_;clear n0_ n1_;(try clear hb);(try clear hb2);(try clear hk);(try clear hi)))
        go_roundg kj3
        case measure => have := HK1.out;have := HJ3.out;omega
        case rel => exact ⟨(IntKind.u64.wrap ((IntKind.u64.wrap (x4_1 * 65536)) + t133)),(wrap64 (x5_1 - 1)),(by first | rfl | (simp;done) | (simp [*];done)),(by first | rfl | (simp;done) | (simp [*];done)),H',⟨by have := HK1.out;have := HJ3.out;omega⟩,⟨by (with_reducible repeat (first | refine q0b ?_ _ | refine q0c ?_ | refine q0a ?_ _));exact BK131.out⟩,⟨by repeat (first | (with_reducible first | exact HB.out | apply q0h | apply q0d | apply q0f | refine q0g ?_ GE131.out) | exact HB.out)⟩⟩
       ·rw [if_neg c10] at H
        have c10b0 : decide (x5_1 ≤ 3) = false := decide_eq_false c10
        clear c10
        have H' := Aside0.mk H
        clear H
        go_wp2
        go_roundg kj3
        case measure => have := HK1.out;have := HJ3.out;omega
        case rel => exact ⟨(x4_1),(wrap64 (x5_1 - 1)),(by first | rfl | (simp;done) | (simp [*];done)),(by first | rfl | (simp;done) | (simp [*];done)),H',⟨by have := HK1.out;have := HJ3.out;omega⟩,⟨by (with_reducible repeat (first | refine q0b ?_ _ | refine q0c ?_ | refine q0a ?_ _));exact BK131.out⟩,⟨by repeat (first | (with_reducible first | exact HB.out | apply q0h | apply q0d | apply q0f | refine q0g ?_ GE131.out) | exact HB.out)⟩⟩
   ·rw [if_neg c3] at H
    have c3b0 : decide (0 ≤ x5_1) = false := decide_eq_false c3
    clear c3
    have HC14 := Aside0.mk H
    clear H
    go_upto_region 9 with (fail)
    go_cut [31] (fun v31 wc => ∃ (kq : Nat) (x31_13 : Bool),v31 = .bool x31_13 ∧ Aside0 (verdererref03_Big_Value.j2 kq x4_1 x31_13 a0_0 l0_1 = some (r1,r2)) ∧ Aside0 (kq ≤ k1) ∧ Aside0 (wc.heap[gb131]? = some (.cells #[.bool a0_0,(.slice A0_1 l0_1.length c0_1)] 29 (0,0))) ∧ Aside0 (Below w.heap.size w wc))
    case first =>
     have H := HC14.out
     clear HC14
     by_cases c15 : a0_0 = true
     ·subst c15
      have H1 : (verdererref03_Big_Value.j2 k1 x4_1 (decide (x4_1 ≤ 9223372036854775808)) true l0_1) = some (r1,r2) := by rw [if_pos rfl] at H;exact H
      clear H
      have H := H1
      clear H1
      have H' := Aside0.mk H
      clear H
      have hcz16_0 : wr.cell? ⟨gb131,0,none⟩ = some (.bool true) := (q0i BK131.out 0).trans rfl
      have hcz16_1 : wr.cell? ⟨gb131,1,none⟩ = some (.slice A0_1 l0_1.length c0_1) := (q0i BK131.out 1).trans rfl
      have hfz16_0 := q0k BK131.out 0
      have hfz16_1 := q0k BK131.out 1
      go_wp2
      go_meet
      case rel => exact ⟨_,(decide (x4_1 ≤ 9223372036854775808)),(by first | rfl | (simp;done) | (simp [*];done)),H',⟨by have := HK1.out;first | omega | exact Nat.le_refl _⟩,⟨by (with_reducible repeat (first | refine q0b ?_ _ | refine q0c ?_ | refine q0a ?_ _));exact BK131.out⟩,⟨by repeat (first | (with_reducible first | exact HB.out | apply q0h | apply q0d | apply q0f | refine q0g ?_ GE131.out) | exact HB.out)⟩⟩
     ·replace c15 := Bool.eq_false_iff.mpr c15
      subst c15
      have H1 : (verdererref03_Big_Value.j2 k1 x4_1 false false l0_1) = some (r1,r2) := by rw [if_neg (show ¬ (false = true) by decide)] at H;exact H
      clear H
      have H := H1
      clear H1
      have H' := Aside0.mk H
      clear H
      have hcz17_0 : wr.cell? ⟨gb131,0,none⟩ = some (.bool false) := (q0i BK131.out 0).trans rfl
      have hcz17_1 : wr.cell? ⟨gb131,1,none⟩ = some (.slice A0_1 l0_1.length c0_1) := (q0i BK131.out 1).trans rfl
      have hfz17_0 := q0k BK131.out 0
      have hfz17_1 := q0k BK131.out 1
      go_wp2
      go_meet
      case rel => exact ⟨_,(false),(by first | rfl | (simp;done) | (simp [*];done)),H',⟨by have := HK1.out;first | omega | exact Nat.le_refl _⟩,⟨by (with_reducible repeat (first | refine q0b ?_ _ | refine q0c ?_ | refine q0a ?_ _));exact BK131.out⟩,⟨by repeat (first | (with_reducible first | exact HB.out | apply q0h | apply q0d | apply q0f | refine q0g ?_ GE131.out) | exact HB.out)⟩⟩
    case rest =>
     clear HC14
     try clear c1
     try clear p2
     try clear c3
     try clear c3b0
     try clear c5
     try clear c5b0
     try clear c6
     try clear p6
     try clear c9
     try clear c10
     try clear c10b0
     try clear c15
     try clear hcz12_0
     try clear hcz12_1
     try clear hcz16_0
     try clear hcz16_1
     try clear hcz17_0
     try clear hcz17_1
     try clear hcz7_0
     try clear hcz7_1
     try clear hfz12_0
     try clear hfz12_1
     try clear hfz16_0
     try clear hfz16_1
     try clear hfz17_0
     try clear hfz17_1
     try clear hfz7_0
     try clear hfz7_1
     try clear p2
     obtain ⟨kq,x31_13,rfl,HA,HJ13,BK131,HB⟩ := hcut
     cases kq with
     | zero => exact absurd HA.out (by simp [verdererref03_Big_Value.j2])
     | succ kj13 =>
      have H := HA.out
      clear HA
      simp only [verdererref03_Big_Value.j2] at H
      by_cases c18 : x31_13 = true
      ·subst c18
       have H1 : (some (wrap64 (IntKind.u64.wrap (-x4_1)),0)) = some (r1,r2) := by rw [if_pos rfl] at H;exact H
       clear H
       have H := H1
       clear H1
       simp only [Option.some.injEq,Prod.mk.injEq] at H
       obtain ⟨rfl,rfl⟩ := H
       go_wp2
       go_ret2
       exact ⟨by first | rfl | (simp [q0w,q0x] <;> rfl) | (simp [*,q0w,q0x] <;> rfl),by repeat (first | (with_reducible first | exact HB.out | apply q0h | apply q0d | apply q0f | refine q0g ?_ GE131.out) | exact HB.out)⟩
      ·replace c18 := Bool.eq_false_iff.mpr c18
       subst c18
       have H1 : (if a0_0 = true then (some (0,10)) else (if x4_1 < 9223372036854775808 then (some (wrap64 (x4_1),0)) else (some (0,10)))) = some (r1,r2) := by rw [if_neg (show ¬ (false = true) by decide)] at H;exact H
       clear H
       have H := H1
       clear H1
       by_cases c19 : a0_0 = true
       ·subst c19
        have H1 : (some (0,10)) = some (r1,r2) := by rw [if_pos rfl] at H;exact H
        clear H
        have H := H1
        clear H1
        simp only [Option.some.injEq,Prod.mk.injEq] at H
        obtain ⟨rfl,rfl⟩ := H
        have hcz20_0 : wc.cell? ⟨gb131,0,none⟩ = some (.bool true) := (q0i BK131.out 0).trans rfl
        have hcz20_1 : wc.cell? ⟨gb131,1,none⟩ = some (.slice A0_1 l0_1.length c0_1) := (q0i BK131.out 1).trans rfl
        have hfz20_0 := q0k BK131.out 0
        have hfz20_1 := q0k BK131.out 1
        go_wp2
        go_ret2
        exact ⟨by first | rfl | (simp [q0w,q0x] <;> rfl) | (simp [*,q0w,q0x] <;> rfl),by repeat (first | (with_reducible first | exact HB.out | apply q0h | apply q0d | apply q0f | refine q0g ?_ GE131.out) | exact HB.out)⟩
       ·replace c19 := Bool.eq_false_iff.mpr c19
        subst c19
        have H1 : (if x4_1 < 9223372036854775808 then (some (wrap64 (x4_1),0)) else (some (0,10))) = some (r1,r2) := by rw [if_neg (show ¬ (false = true) by decide)] at H;exact H
        clear H
        have H := H1
        clear H1
        by_cases c21 : x4_1 < 9223372036854775808
        ·rw [if_pos c21] at H
         have c21b0 : decide (x4_1 < 9223372036854775808) = true := decide_eq_true c21
         clear c21
         simp only [Option.some.injEq,Prod.mk.injEq] at H
         obtain ⟨rfl,rfl⟩ := H
         have hcz22_0 : wc.cell? ⟨gb131,0,none⟩ = some (.bool false) := (q0i BK131.out 0).trans rfl
         have hcz22_1 : wc.cell? ⟨gb131,1,none⟩ = some (.slice A0_1 l0_1.length c0_1) := (q0i BK131.out 1).trans rfl
         have hfz22_0 := q0k BK131.out 0
         have hfz22_1 := q0k BK131.out 1
         go_wp2
         go_ret2
         exact ⟨by first | rfl | (simp [q0w,q0x] <;> rfl) | (simp [*,q0w,q0x] <;> rfl),by repeat (first | (with_reducible first | exact HB.out | apply q0h | apply q0d | apply q0f | refine q0g ?_ GE131.out) | exact HB.out)⟩
        ·rw [if_neg c21] at H
         have c21b0 : decide (x4_1 < 9223372036854775808) = false := decide_eq_false c21
         clear c21
         simp only [Option.some.injEq,Prod.mk.injEq] at H
         obtain ⟨rfl,rfl⟩ := H
         have hcz23_0 : wc.cell? ⟨gb131,0,none⟩ = some (.bool false) := (q0i BK131.out 0).trans rfl
         have hcz23_1 : wc.cell? ⟨gb131,1,none⟩ = some (.slice A0_1 l0_1.length c0_1) := (q0i BK131.out 1).trans rfl
         have hfz23_0 := q0k BK131.out 0
         have hfz23_1 := q0k BK131.out 1
         go_wp2
         go_ret2
         exact ⟨by first | rfl | (simp [q0w,q0x] <;> rfl) | (simp [*,q0w,q0x] <;> rfl),by repeat (first | (with_reducible first | exact HB.out | apply q0h | apply q0d | apply q0f | refine q0g ?_ GE131.out) | exact HB.out)⟩
end Go.Proofs.Ytcenlehfbgnphaa.Z
end
section
namespace Go.Proofs.Ytcenlehfbgnphaa.Z
open Go.RowKit Go.Proofs.YtcenlehfbgnphaaW.PrintWords Go.Proofs.YtcenlehfbgnphaaW.PrintLast Go.Proofs.YtcenlehfbgnphaaW.PrintMore
attribute [local go_sem] max2_int min2_int max_two min_two max_three min_three max_four min_four
set_option linter.unusedVariables false
set_option linter.unusedSimpArgs false
def verdererref03_Sub.f (k : Nat) (a0 : Int) (a1 : Int) : Option (Int × Int) := (verdererref03_big.f k a1).bind fun bt155 => ((verdererref03_big.f k a0).bind fun bt160 => ((verdererref03_Plus.f k bt160.1 bt160.2 (!bt155.1) bt155.2).bind fun bt164 => ((verdererref03_Big_Value.f k bt164.1 bt164.2).bind fun bt168 => (some (bt168.1,bt168.2)))))
theorem verdererref03_Sub.mono : ∀ a0 a1 k,LeO (verdererref03_Sub.f k a0 a1) (verdererref03_Sub.f (k + 1) a0 a1) := by
 intro a0 a1 k
 unfold verdererref03_Sub.f
 repeat' first
   | (with_reducible exact verdererref03_Big_Value.mono _ _ _)
   | (with_reducible exact verdererref03_Plus.mono _ _ _ _ _)
   | (with_reducible exact verdererref03_big.mono _ _)
   | (with_reducible exact LeO.refl _)
   | (with_reducible exact LeO.none _)
   | (with_reducible refine LeO.ite ?_ ?_)
   | (with_reducible refine LeO.bind ?_ (fun _ => ?_))
   | exact verdererref03_Big_Value.mono _ _ _
   | exact verdererref03_Plus.mono _ _ _ _ _
   | exact verdererref03_big.mono _ _
   | exact LeO.none _
   | refine LeO.ite ?_ ?_
   | refine LeO.bind ?_ (fun _ => ?_)
def verdererref03_Sub.T3 : Bool × List (List Nat × List Nat) := (true,[([],[]),([0],[0]),([],[]),([1,2,1],[1,2]),([3,3],[3]),([4],[4]),([4],[4]),([5,4,0,1,2,3,4,5,6],[5]),([6,7,0,1,2,3,4,5,6,7],[6])])
def verdererref03_Sub.B3 : List Nat := [0,1,0,7,15,31,31,127,255]
theorem verdererref03_Sub.tab3 : rtab .any (opsOf Try.f26 3) = verdererref03_Sub.T3 := by kernel_rfl
theorem verdererref03_Sub.bits3 : waitsOk verdererref03_Sub.T3.2 verdererref03_Sub.B3 = true := by kernel_rfl
set_option maxHeartbeats 8000000 in
set_option maxRecDepth 100000 in
theorem verdererref03_Sub.calls (k : Nat) (a0 : Int) (a1 : Int) (r1 : Int) (r2 : Int) (w : World) (h : verdererref03_Sub.f k a0 a1 = some (r1,r2)) :
  Calls Try.prog 26 #[.int .i64 a0,.int .i64 a1] w fun e w' => e = .returned (.tuple #[.int .i64 r1,.int .i64 r2]) ∧ Below w.heap.size w w' := by
 have hu29 := Try.underlying29
 have HB := Aside0.mk (Below.refl w.heap.size w)
 have H : ((verdererref03_big.f k a1).bind fun bt155 => ((verdererref03_big.f k a0).bind fun bt160 => ((verdererref03_Plus.f k bt160.1 bt160.2 (!bt155.1) bt155.2).bind fun bt164 => ((verdererref03_Big_Value.f k bt164.1 bt164.2).bind fun bt168 => (some (bt168.1,bt168.2)))))) = some (r1,r2) := h
 clear h
 replace H := Option.bind_eq_some_iff.mp H
 obtain ⟨⟨t155,t156⟩,A30,H⟩ := H
 replace H : ((verdererref03_big.f k a0).bind fun bt160 => ((verdererref03_Plus.f k bt160.1 bt160.2 (!t155) t156).bind fun bt164 => ((verdererref03_Big_Value.f k bt164.1 bt164.2).bind fun bt168 => (some (bt168.1,bt168.2))))) = some (r1,r2) := H
 have A3 := Aside0.mk A30
 clear A30
 replace H := Option.bind_eq_some_iff.mp H
 obtain ⟨⟨t160,t161⟩,A40,H⟩ := H
 replace H : ((verdererref03_Plus.f k t160 t161 (!t155) t156).bind fun bt164 => ((verdererref03_Big_Value.f k bt164.1 bt164.2).bind fun bt168 => (some (bt168.1,bt168.2)))) = some (r1,r2) := H
 have A4 := Aside0.mk A40
 clear A40
 replace H := Option.bind_eq_some_iff.mp H
 obtain ⟨⟨t164,t165⟩,A50,H⟩ := H
 replace H : ((verdererref03_Big_Value.f k t164 t165).bind fun bt168 => (some (bt168.1,bt168.2))) = some (r1,r2) := H
 have A5 := Aside0.mk A50
 clear A50
 replace H := Option.bind_eq_some_iff.mp H
 obtain ⟨⟨t168,t169⟩,A60,H⟩ := H
 replace H : (some (t168,t169)) = some (r1,r2) := H
 have A6 := Aside0.mk A60
 clear A60
 simp only [Option.some.injEq,Prod.mk.injEq] at H
 obtain ⟨rfl,rfl⟩ := H
 go_enter Try.func26,Try.ntmps26
 try go_wp2_with (first | ((with_reducible refine q00 (f := 61) rfl ?_);refine goesL_ (some 8) rfl rfl Try.func61 (by kernel_rfl) rfl #[.int .i64 a1] rfl (by (try simp only [List.map_toArray,List.map_cons,List.map_nil]);first | done | rfl | (simp only [List.length_drop,List.length_take];rfl)) ?_;(with_reducible refine (verdererref03_big.calls k a1 t155 t156 _ A3.out).mono ?_);rintro e w7 ⟨v157,rfl,ho0,hb⟩;refine ⟨_,rfl,?_⟩;have n0_ := Aside0.mk (Kd.R_lower ho0 (q0p (by repeat (first | (with_reducible first | exact HB.out | apply q0h | apply q0d | apply q0f) | exact HB.out))));have n1_ := Aside0.mk (q0s (by repeat (first | (with_reducible first | exact HB.out | apply q0h | apply q0d | apply q0f) | exact HB.out)) hb);clear HB;have HO158 := n0_;have HB := n1_;clear n0_ n1_;(try clear hb);(try clear hb2);(try clear hk);(try clear hi);(try clear ho0)) | ((with_reducible refine gate_dst (N := 6) rfl ?_);refine q03 ?hg (N := 6) ?hd (cs := #[.bool false,.slice none 0 0]) (t := 29) ?hr ?_;(case hd => rfl);(case hg => rfl);(case hr => first | (go_simp;done) | (go_simp;rfl));intro gb159 hg w8 hbox hb;have n0_ := Aside0.mk (Kd.q0v (by (with_reducible repeat (first | apply Kd.q0m | apply Kd.q0n | apply Kd.q0o));exact HO158.out) hb);have n1_ := Aside0.mk (q0s (by repeat (first | (with_reducible first | exact HB.out | apply q0h | apply q0d | apply q0f) | exact HB.out)) hb);have n2_ := Aside0.mk (hbox);have n3_ := Aside0.mk ((by rw [hg];exact (q0p (by repeat (first | (with_reducible first | exact HB.out | apply q0h | apply q0d | apply q0f) | exact HB.out))) : w.heap.size ≤ gb159));have n4_ := Aside0.mk ((by rw [hg];exact (q0p (by repeat (first | (with_reducible first | exact HB.out | apply q0h | apply q0d | apply q0f) | exact HB.out))) : w.heap.size ≤ gb159));clear HO158;clear HB;have HO158 := n0_;have HB := n1_;have BK159 := n2_;have GW159 := n3_;have GE159 := n4_;clear n0_ n1_ n2_ n3_ n4_;clear hb hbox hg;have hcz9_0 : w8.cell? ⟨gb159,0,none⟩ = some (.bool false) := (q0i BK159.out 0).trans rfl;have hcz9_1 : w8.cell? ⟨gb159,1,none⟩ = some (.slice none 0 0) := (q0i BK159.out 1).trans rfl;have hfz9_0 := q0k BK159.out 0;have hfz9_1 := q0k BK159.out 1;obtain ⟨Ao10,co10,eo10⟩ := Kd.R_slice HO158.out;subst eo10))
 have n0_ : Aside0 (Kd.R (Kd.int .u64) 96 (((w8.setCell ⟨gb159,0,none⟩ (.bool t155)).setCell ⟨gb159,1,none⟩ (.slice Ao10 t156.length co10)).setCell ⟨gb159,0,none⟩ (.bool (!t155))) w.heap.size (fun _ => True) (.slice Ao10 t156.length co10) t156) := ⟨by (with_reducible repeat (first | apply Kd.q0m | apply Kd.q0n | apply Kd.q0o));exact Kd.R_mono (Kd.R_far (p := ⟨gb159,0,none⟩) (Kd.R_far (p := ⟨gb159,1,none⟩) (Kd.R_far (p := ⟨gb159,0,none⟩) (Kd.R_types HO158.out BK159.out (by decide)) (fun _ hk => hk.2) (.bool t155)) (fun _ hk => hk.2) (.slice Ao10 t156.length co10)) (fun _ hk => hk.2) (.bool (!t155))) (fun _ hk => trivial)⟩
 have n1_ : Aside0 ((((w8.setCell ⟨gb159,0,none⟩ (.bool t155)).setCell ⟨gb159,1,none⟩ (.slice Ao10 t156.length co10)).setCell ⟨gb159,0,none⟩ (.bool (!t155))).heap[gb159]? = some (.cells #[.bool (!t155),.slice Ao10 t156.length co10] 29 (0,0))) := ⟨by (with_reducible repeat (first | refine q0b ?_ _ | refine q0c ?_ | refine q0a ?_ _));refine q0t (cs := #[.bool t155,.slice Ao10 t156.length co10]) ?_ 0 _ rfl;(with_reducible repeat (first | refine q0b ?_ _ | refine q0c ?_ | refine q0a ?_ _));refine q0t (cs := #[.bool t155,.slice none 0 0]) ?_ 1 _ rfl;(with_reducible repeat (first | refine q0b ?_ _ | refine q0c ?_ | refine q0a ?_ _));refine q0t (cs := #[.bool false,.slice none 0 0]) ?_ 0 _ rfl;(with_reducible repeat (first | refine q0b ?_ _ | refine q0c ?_ | refine q0a ?_ _));exact BK159.out⟩
 have n2_ : Aside0 (Below w.heap.size w (((w8.setCell ⟨gb159,0,none⟩ (.bool t155)).setCell ⟨gb159,1,none⟩ (.slice Ao10 t156.length co10)).setCell ⟨gb159,0,none⟩ (.bool (!t155)))) := ⟨by repeat (first | (with_reducible first | exact HB.out | apply q0h | apply q0d | apply q0f | refine q0g ?_ GE159.out) | exact HB.out)⟩
 (try clear HO158)
 (try clear BK159)
 (try clear HB)
 generalize (((w8.setCell ⟨gb159,0,none⟩ (.bool t155)).setCell ⟨gb159,1,none⟩ (.slice Ao10 t156.length co10)).setCell ⟨gb159,0,none⟩ (.bool (!t155))) = w11 at n0_ n1_ n2_ ⊢
 have HO158 := n0_
 have BK159 := n1_
 have HB := n2_
 clear n0_ n1_ n2_
 have n0_ := Aside0.mk (Kd.q0o HO158.out)
 have n1_ := Aside0.mk (q0c BK159.out)
 have n2_ := Aside0.mk (q0f HB.out)
 clear HO158
 clear BK159
 clear HB
 have HO158 := n0_
 have BK159 := n1_
 have HB := n2_
 clear n0_ n1_ n2_
 refine start_ (n := 9) (S := fun w' => w'.cell? ⟨gb159,0,none⟩ = some (.bool (!t155)) ∧ w'.cell? ⟨gb159,1,none⟩ = some (.slice Ao10 t156.length co10)) (ds := []) #[false,false,false,false,false,false,false,false,false] (by kernel_rfl) rfl rfl ⟨(q0i BK159.out 0).trans rfl,(q0i BK159.out 1).trans rfl⟩ (fun hHeld => ?_);refine with_tabW verdererref03_Sub.tab3 verdererref03_Sub.bits3 (fun HT_ HW_ => ?_)
 generalize w11.drew = w12 at HO158 BK159 HB hHeld ⊢
 refine pure_ (i := 0) (N := some 13) (v := ?_) (a' := ?_) #[true,false,false,false,false,false,false,false,false] rfl rfl (q0r HT_.out (by kernel_rfl)) (fun _ _ _ h => h) (Or.inl ⟨by rfl,?_⟩) ?_ ?_
 rotate_left
 ·intro w'
  go_simp
  with_reducible rfl
 rotate_left
 ·simp only [Act.put,zA,zB,zC,i64_w,i32_w]
  rfl
 refine take_ (i := 2) (N := some 15) (v := ?_) (a' := ?_) #[true,false,true,false,false,false,false,false,false] rfl rfl (take_ofW HT_.out HW_.out (by kernel_rfl)) (fun _ _ _ h => h) (Or.inl ⟨by rfl,?_⟩) hHeld ?_ ?_
 rotate_left
 ·rintro w' ⟨s0,s1⟩
  go_simp
  with_reducible rfl
 rotate_left
 ·simp only [Act.put,zA,zB,zC,i64_w,i32_w]
  rfl
 refine one_ (i := 1) (N := some 14) #[true,true,true,false,false,false,false,false,false] rfl rfl (one_of HT_.out (by kernel_rfl)) (by decide) (fun K hK => ?_)
 refine goes_ Try.func61 (by kernel_rfl) rfl #[.int .i64 a0] (by rfl) rfl rfl (by (try simp only [List.map_toArray,List.map_cons,List.map_nil]);first | done | rfl | (simp only [List.length_drop,List.length_take];rfl)) ?_
 with_reducible refine (verdererref03_big.calls k a0 t160 t161 _ A4.out).mono ?_
 rintro e w13 ⟨v162,rfl,ho0,hb⟩
 refine ⟨_,rfl,?_⟩
 have n0_ := Aside0.mk (Kd.R_elder' (by (with_reducible repeat (first | apply Kd.q0m | apply Kd.q0n | apply Kd.q0o));exact HO158.out) (Kd.R_base ho0) hb)
 have n1_ := Aside0.mk (Kd.R_lower (Kd.R_new' ho0 (Kd.R_lt (by (with_reducible repeat (first | apply Kd.q0m | apply Kd.q0n | apply Kd.q0o));exact HO158.out))) (q0p (by repeat (first | (with_reducible first | exact HB.out | apply q0h | apply q0d | apply q0f | refine q0g ?_ GE159.out) | exact HB.out))))
 have n2_ := Aside0.mk (q0q (g := gb159) (o := .cells #[.bool (!t155),.slice Ao10 t156.length co10] 29 (0,0)) (by (with_reducible repeat (first | refine q0b ?_ _ | refine q0c ?_ | refine q0a ?_ _));exact BK159.out) hb)
 have n3_ := Aside0.mk (q0s (by repeat (first | (with_reducible first | exact HB.out | apply q0h | apply q0d | apply q0f | refine q0g ?_ GE159.out) | exact HB.out)) hb)
 clear HO158
 clear BK159
 clear HB
 have HO158 := n0_
 have HO163 := n1_
 have BK159 := n2_
 have HB := n3_
 clear n0_ n1_ n2_ n3_
 (try clear hb)
 (try clear hb2)
 (try clear hk)
 (try clear hi)
 (try clear ho0)
 obtain ⟨Ao14,co14,eo14⟩ := Kd.R_slice HO163.out
 (first | subst eo14 | (injection eo14 with f1_ f2_ f3_;have f4_ := f1_.symm;have f5_ := f3_.symm;clear f1_ f2_ f3_;subst f4_;subst f5_))
 refine hK.out _ _ ⟨(q0i BK159.out 0).trans rfl,(q0i BK159.out 1).trans rfl⟩ (fun hHeld => ?_)
 clear hK K
 refine norm_ (a' := ?_) ?_ ?_
 rotate_left
 ·show Act.put _ (some 14) _ = _
  simp only [Act.put,zA,zB,zC,i64_w,i32_w]
  rfl
 refine one_ (i := 3) (N := some 16) #[true,true,true,true,false,false,false,false,false] rfl rfl (one_of HT_.out (by kernel_rfl)) (by decide) (fun K hK => ?_)
 refine goes_ Try.func16 (by kernel_rfl) rfl #[.agg #[.bool t160,.slice Ao14 t161.length co14],.agg #[.bool (!t155),.slice Ao10 t156.length co10]] (by rfl) rfl rfl (by (try simp only [List.map_toArray,List.map_cons,List.map_nil]);first | done | rfl | (simp only [List.length_drop,List.length_take];rfl)) ?_
 with_reducible refine (verdererref03_Plus.calls k t160 _ _ t161 (!t155) _ _ t156 t164 t165 _ ?side1 ?side2 ?side3 ?side4 A5.out).mono ?_
 (case side1 => repeat (first | exact (Kd.q02 HO163.out).2.2 | (with_reducible refine Kd.C_alloc ?_ _) | (with_reducible refine Kd.C_drewN ?_ _) | (with_reducible refine Kd.C_drew ?_)))
 (case side2 => exact (Kd.q02 HO163.out).2.1)
 (case side3 => repeat (first | exact (Kd.q02 HO158.out).2.2 | (with_reducible refine Kd.C_alloc ?_ _) | (with_reducible refine Kd.C_drewN ?_ _) | (with_reducible refine Kd.C_drew ?_)))
 (case side4 => exact (Kd.q02 HO158.out).2.1)
 rintro e w15 ⟨v166,rfl,ho0,hb⟩
 refine ⟨_,rfl,?_⟩
 have n0_ := Aside0.mk (Kd.R_elder' (by (with_reducible repeat (first | apply Kd.q0m | apply Kd.q0n | apply Kd.q0o));exact HO158.out) (Kd.R_base ho0) hb)
 have n1_ := Aside0.mk (Kd.R_elder' (by (with_reducible repeat (first | apply Kd.q0m | apply Kd.q0n | apply Kd.q0o));exact HO163.out) (Kd.R_base ho0) hb)
 have n2_ := Aside0.mk (Kd.R_lower (Kd.R_new' (Kd.R_new' ho0 (Kd.R_lt (by (with_reducible repeat (first | apply Kd.q0m | apply Kd.q0n | apply Kd.q0o));exact HO158.out))) (Kd.R_lt (by (with_reducible repeat (first | apply Kd.q0m | apply Kd.q0n | apply Kd.q0o));exact HO163.out))) (q0p (by repeat (first | (with_reducible first | exact HB.out | apply q0h | apply q0d | apply q0f | refine q0g ?_ GE159.out) | exact HB.out))))
 have n3_ := Aside0.mk (q0q (g := gb159) (o := .cells #[.bool (!t155),.slice Ao10 t156.length co10] 29 (0,0)) (by (with_reducible repeat (first | refine q0b ?_ _ | refine q0c ?_ | refine q0a ?_ _));exact BK159.out) hb)
 have n4_ := Aside0.mk (q0s (by repeat (first | (with_reducible first | exact HB.out | apply q0h | apply q0d | apply q0f | refine q0g ?_ GE159.out) | exact HB.out)) hb)
 clear HO158
 clear HO163
 clear BK159
 clear HB
 have HO158 := n0_
 have HO163 := n1_
 have HO167 := n2_
 have BK159 := n3_
 have HB := n4_
 clear n0_ n1_ n2_ n3_ n4_
 (try clear hb)
 (try clear hb2)
 (try clear hk)
 (try clear hi)
 (try clear ho0)
 obtain ⟨Ao16,co16,eo16⟩ := Kd.R_slice HO167.out
 (first | subst eo16 | (injection eo16 with f1_ f2_ f3_;have f4_ := f1_.symm;have f5_ := f3_.symm;clear f1_ f2_ f3_;subst f4_;subst f5_))
 refine hK.out _ _ ⟨(q0i BK159.out 0).trans rfl,(q0i BK159.out 1).trans rfl⟩ (fun hHeld => ?_)
 clear hK K
 refine norm_ (a' := ?_) ?_ ?_
 rotate_left
 ·show Act.put _ (some 16) _ = _
  simp only [Act.put,zA,zB,zC,i64_w,i32_w]
  rfl
 refine one_ (i := 4) (N := some 17) #[true,true,true,true,true,false,false,false,false] rfl rfl (one_of HT_.out (by kernel_rfl)) (by decide) (fun K hK => ?_)
 refine goes_ Try.func19 (by kernel_rfl) rfl #[.agg #[.bool t164,.slice Ao16 t165.length co16]] (by rfl) rfl rfl (by (try simp only [List.map_toArray,List.map_cons,List.map_nil]);first | done | rfl | (simp only [List.length_drop,List.length_take];rfl)) ?_
 with_reducible refine (verdererref03_Big_Value.calls k t164 _ _ t165 t168 t169 _ ?side1 ?side2 A6.out).mono ?_
 (case side1 => repeat (first | exact (Kd.q02 HO167.out).2.2 | (with_reducible refine Kd.C_alloc ?_ _) | (with_reducible refine Kd.C_drewN ?_ _) | (with_reducible refine Kd.C_drew ?_)))
 (case side2 => exact (Kd.q02 HO167.out).2.1)
 rintro e w17 ⟨rfl,hb⟩
 refine ⟨_,rfl,?_⟩
 have n0_ := Aside0.mk (Kd.q0v (by (with_reducible repeat (first | apply Kd.q0m | apply Kd.q0n | apply Kd.q0o));exact HO158.out) hb)
 have n1_ := Aside0.mk (Kd.q0v (by (with_reducible repeat (first | apply Kd.q0m | apply Kd.q0n | apply Kd.q0o));exact HO163.out) hb)
 have n2_ := Aside0.mk (Kd.q0v (by (with_reducible repeat (first | apply Kd.q0m | apply Kd.q0n | apply Kd.q0o));exact HO167.out) hb)
 have n3_ := Aside0.mk (q0q (g := gb159) (o := .cells #[.bool (!t155),.slice Ao10 t156.length co10] 29 (0,0)) (by (with_reducible repeat (first | refine q0b ?_ _ | refine q0c ?_ | refine q0a ?_ _));exact BK159.out) hb)
 have n4_ := Aside0.mk (q0s (by repeat (first | (with_reducible first | exact HB.out | apply q0h | apply q0d | apply q0f | refine q0g ?_ GE159.out) | exact HB.out)) hb)
 clear HO158
 clear HO163
 clear HO167
 clear BK159
 clear HB
 have HO158 := n0_
 have HO163 := n1_
 have HO167 := n2_
 have BK159 := n3_
 have HB := n4_
 clear n0_ n1_ n2_ n3_ n4_
 (try clear hb)
 (try clear hb2)
 (try clear hk)
 (try clear hi)
 refine hK.out _ _ ⟨(q0i BK159.out 0).trans rfl,(q0i BK159.out 1).trans rfl⟩ (fun hHeld => ?_)
 clear hK K
 refine norm_ (a' := ?_) ?_ ?_
 rotate_left
 ·show Act.put _ (some 17) _ = _
  simp only [Act.put,zA,zB,zC,i64_w,i32_w]
  rfl
 refine pure_ (i := 5) (N := some 18) (v := ?_) (a' := ?_) #[true,true,true,true,true,true,false,false,false] rfl rfl (q0r HT_.out (by kernel_rfl)) (fun _ _ _ h => h) (Or.inl ⟨by rfl,?_⟩) ?_ ?_
 rotate_left
 ·intro w'
  go_simp
  with_reducible rfl
 rotate_left
 ·simp only [Act.put,zA,zB,zC,i64_w,i32_w]
  rfl
 refine pure_ (i := 6) (N := some 19) (v := ?_) (a' := ?_) #[true,true,true,true,true,true,true,false,false] rfl rfl (q0r HT_.out (by kernel_rfl)) (fun _ _ _ h => h) (Or.inl ⟨by rfl,?_⟩) ?_ ?_
 rotate_left
 ·intro w'
  go_simp
  with_reducible rfl
 rotate_left
 ·simp only [Act.put,zA,zB,zC,i64_w,i32_w]
  rfl
 refine pure_ (i := 7) (N := some 4) (v := ?_) (a' := ?_) #[true,true,true,true,true,true,true,true,false] rfl rfl (q0r HT_.out (by kernel_rfl)) (fun _ _ _ h => h) (Or.inl ⟨by rfl,?_⟩) ?_ ?_
 rotate_left
 ·intro w'
  go_simp
  with_reducible rfl
 rotate_left
 ·simp only [Act.put,zA,zB,zC,i64_w,i32_w]
  rfl
 refine pure_ (i := 8) (N := some 5) (v := ?_) (a' := ?_) #[true,true,true,true,true,true,true,true,true] rfl rfl (q0r HT_.out (by kernel_rfl)) (fun _ _ _ h => h) (Or.inl ⟨by rfl,?_⟩) ?_ ?_
 rotate_left
 ·intro w'
  go_simp
  with_reducible rfl
 rotate_left
 ·simp only [Act.put,zA,zB,zC,i64_w,i32_w]
  rfl
 refine done_ (done_of HT_.out (by kernel_rfl)) ?_
 try go_wp2
 go_ret2
 exact ⟨by first | rfl | (simp [q0w,q0x] <;> rfl) | (simp [*,q0w,q0x] <;> rfl),by repeat (first | (with_reducible first | exact HB.out | apply q0h | apply q0d | apply q0f | refine q0g ?_ GE159.out) | exact HB.out)⟩
end Go.Proofs.Ytcenlehfbgnphaa.Z
end
section
namespace Go.Proofs.Ytcenlehfbgnphaa.Z
open Go.RowKit Go.Proofs.YtcenlehfbgnphaaW.PrintWords Go.Proofs.YtcenlehfbgnphaaW.PrintLast Go.Proofs.YtcenlehfbgnphaaW.PrintMore
attribute [local go_sem] max2_int min2_int max_two min_two max_three min_three max_four min_four
set_option linter.unusedVariables false
set_option linter.unusedSimpArgs false
def verdererref28_Room.f (k : Nat) (a0_0 : ByteArray) (a0_1 : ByteArray) (a0_2 : Int) (a0_3 : Int) : Option (Int × Int) := (verdererref03_Sub.f k a0_3 a0_2).bind fun bt371 => (some (bt371.1,bt371.2))
theorem verdererref28_Room.mono : ∀ a0 a1 a2 a3 k,LeO (verdererref28_Room.f k a0 a1 a2 a3) (verdererref28_Room.f (k + 1) a0 a1 a2 a3) := by
 intro a0 a1 a2 a3 k
 unfold verdererref28_Room.f
 repeat' first
   | (with_reducible exact verdererref03_Sub.mono _ _ _)
   | (with_reducible exact LeO.refl _)
   | (with_reducible exact LeO.none _)
   | (with_reducible refine LeO.ite ?_ ?_)
   | (with_reducible refine LeO.bind ?_ (fun _ => ?_))
   | exact verdererref03_Sub.mono _ _ _
   | exact LeO.none _
   | refine LeO.ite ?_ ?_
   | refine LeO.bind ?_ (fun _ => ?_)
set_option maxHeartbeats 8000000 in
set_option maxRecDepth 100000 in
theorem verdererref28_Room.calls (k : Nat) (a0_0 : ByteArray) (a0_1 : ByteArray) (a0_2 : Int) (a0_3 : Int) (r1 : Int) (r2 : Int) (w : World) (h : verdererref28_Room.f k a0_0 a0_1 a0_2 a0_3 = some (r1,r2)) :
  Calls Try.prog 52 #[.agg #[.string a0_0,.string a0_1,.int .i64 a0_2,.int .i64 a0_3]] w fun e w' => e = .returned (.tuple #[.int .i64 r1,.int .i64 r2]) ∧ Below w.heap.size w w' := by
 have hu45 := Try.underlying45
 have HB := Aside0.mk (Below.refl w.heap.size w)
 have H : ((verdererref03_Sub.f k a0_3 a0_2).bind fun bt371 => (some (bt371.1,bt371.2))) = some (r1,r2) := h
 clear h
 replace H := Option.bind_eq_some_iff.mp H
 obtain ⟨⟨t371,t372⟩,A20,H⟩ := H
 replace H : (some (t371,t372)) = some (r1,r2) := H
 have A2 := Aside0.mk A20
 clear A20
 simp only [Option.some.injEq,Prod.mk.injEq] at H
 obtain ⟨rfl,rfl⟩ := H
 go_enter Try.func52,Try.ntmps52
 go_wp2_with (first | ((with_reducible refine gate_dst (N := 1) rfl ?_);refine q03 ?hg (N := 1) ?hd (cs := #[.string a0_0,.string a0_1,.int .i64 a0_2,.int .i64 a0_3]) (t := 45) ?hr ?_;(case hd => rfl);(case hg => rfl);(case hr => first | (go_simp;done) | (go_simp;rfl));intro gb370 hg w3 hbox hb;have n0_ := Aside0.mk (q0s (by repeat (first | (with_reducible first | exact HB.out | apply q0h | apply q0d | apply q0f) | exact HB.out)) hb);have n1_ := Aside0.mk (hbox);have n2_ := Aside0.mk ((by rw [hg];exact (q0p (by repeat (first | (with_reducible first | exact HB.out | apply q0h | apply q0d | apply q0f) | exact HB.out))) : w.heap.size ≤ gb370));have n3_ := Aside0.mk ((by rw [hg];exact (q0p (by repeat (first | (with_reducible first | exact HB.out | apply q0h | apply q0d | apply q0f) | exact HB.out))) : w.heap.size ≤ gb370));clear HB;have HB := n0_;have BK370 := n1_;have GW370 := n2_;have GE370 := n3_;clear n0_ n1_ n2_ n3_;clear hb hbox hg;have hcz4_0 : w3.cell? ⟨gb370,0,none⟩ = some (.string a0_0) := (q0i BK370.out 0).trans rfl;have hcz4_1 : w3.cell? ⟨gb370,1,none⟩ = some (.string a0_1) := (q0i BK370.out 1).trans rfl;have hcz4_2 : w3.cell? ⟨gb370,2,none⟩ = some (.int .i64 a0_2) := (q0i BK370.out 2).trans rfl;have hcz4_3 : w3.cell? ⟨gb370,3,none⟩ = some (.int .i64 a0_3) := (q0i BK370.out 3).trans rfl;have hfz4_0 := q0k BK370.out 0;have hfz4_1 := q0k BK370.out 1;have hfz4_2 := q0k BK370.out 2;have hfz4_3 := q0k BK370.out 3) | ((with_reducible refine q00 (f := 26) rfl ?_);refine goesL_ (some 8) rfl rfl Try.func26 (by kernel_rfl) rfl #[.int .i64 a0_3,.int .i64 a0_2] rfl (by (try simp only [List.map_toArray,List.map_cons,List.map_nil]);first | done | rfl | (simp only [List.length_drop,List.length_take];rfl)) ?_;(with_reducible refine (verdererref03_Sub.calls k a0_3 a0_2 t371 t372 _ A2.out).mono ?_);rintro e w5 ⟨rfl,hb⟩;refine ⟨_,rfl,?_⟩;have n0_ := Aside0.mk (q0q (g := gb370) (o := .cells #[.string a0_0,.string a0_1,.int .i64 a0_2,.int .i64 a0_3] 45 (0,0)) (by (with_reducible repeat (first | refine q0b ?_ _ | refine q0c ?_ | refine q0a ?_ _));exact BK370.out) hb);have n1_ := Aside0.mk (q0s (by repeat (first | (with_reducible first | exact HB.out | apply q0h | apply q0d | apply q0f | refine q0g ?_ GE370.out) | exact HB.out)) hb);clear BK370;clear HB;have BK370 := n0_;have HB := n1_;clear n0_ n1_;(try clear hb);(try clear hb2);(try clear hk);(try clear hi)))
 go_ret2
 exact ⟨by first | rfl | (simp [q0w,q0x] <;> rfl) | (simp [*,q0w,q0x] <;> rfl),by repeat (first | (with_reducible first | exact HB.out | apply q0h | apply q0d | apply q0f | refine q0g ?_ GE370.out) | exact HB.out)⟩
end Go.Proofs.Ytcenlehfbgnphaa.Z
end
section
namespace Go.Proofs.Ytcenlehfbgnphaa.Z
open Go.RowKit Go.Proofs.YtcenlehfbgnphaaW.PrintWords Go.Proofs.YtcenlehfbgnphaaW.PrintLast Go.Proofs.YtcenlehfbgnphaaW.PrintMore
attribute [local go_sem] max2_int min2_int max_two min_two max_three min_three max_four min_four
set_option linter.unusedVariables false
set_option linter.unusedSimpArgs false
def verdererref03_Mul.f (k : Nat) (a0 : Int) (a1 : Int) : Option (Int × Int) := (verdererref03_Times.f k a0 a1).bind fun bt201 => ((verdererref03_Big_Value.f k bt201.1 bt201.2).bind fun bt205 => (some (bt205.1,bt205.2)))
theorem verdererref03_Mul.mono : ∀ a0 a1 k,LeO (verdererref03_Mul.f k a0 a1) (verdererref03_Mul.f (k + 1) a0 a1) := by
 intro a0 a1 k
 unfold verdererref03_Mul.f
 repeat' first
   | (with_reducible exact verdererref03_Big_Value.mono _ _ _)
   | (with_reducible exact verdererref03_Times.mono _ _ _)
   | (with_reducible exact LeO.refl _)
   | (with_reducible exact LeO.none _)
   | (with_reducible refine LeO.ite ?_ ?_)
   | (with_reducible refine LeO.bind ?_ (fun _ => ?_))
   | exact verdererref03_Big_Value.mono _ _ _
   | exact verdererref03_Times.mono _ _ _
   | exact LeO.none _
   | refine LeO.ite ?_ ?_
   | refine LeO.bind ?_ (fun _ => ?_)
set_option maxHeartbeats 8000000 in
set_option maxRecDepth 100000 in
theorem verdererref03_Mul.calls (k : Nat) (a0 : Int) (a1 : Int) (r1 : Int) (r2 : Int) (w : World) (h : verdererref03_Mul.f k a0 a1 = some (r1,r2)) :
  Calls Try.prog 28 #[.int .i64 a0,.int .i64 a1] w fun e w' => e = .returned (.tuple #[.int .i64 r1,.int .i64 r2]) ∧ Below w.heap.size w w' := by
 have HB := Aside0.mk (Below.refl w.heap.size w)
 have H : ((verdererref03_Times.f k a0 a1).bind fun bt201 => ((verdererref03_Big_Value.f k bt201.1 bt201.2).bind fun bt205 => (some (bt205.1,bt205.2)))) = some (r1,r2) := h
 clear h
 replace H := Option.bind_eq_some_iff.mp H
 obtain ⟨⟨t201,t202⟩,A30,H⟩ := H
 replace H : ((verdererref03_Big_Value.f k t201 t202).bind fun bt205 => (some (bt205.1,bt205.2))) = some (r1,r2) := H
 have A3 := Aside0.mk A30
 clear A30
 replace H := Option.bind_eq_some_iff.mp H
 obtain ⟨⟨t205,t206⟩,A40,H⟩ := H
 replace H : (some (t205,t206)) = some (r1,r2) := H
 have A4 := Aside0.mk A40
 clear A40
 simp only [Option.some.injEq,Prod.mk.injEq] at H
 obtain ⟨rfl,rfl⟩ := H
 go_enter Try.func28,Try.ntmps28
 go_wp2_with (first | ((with_reducible refine q00 (f := 17) rfl ?_);refine goesL_ (some 8) rfl rfl Try.func17 (by kernel_rfl) rfl #[.int .i64 a0,.int .i64 a1] rfl (by (try simp only [List.map_toArray,List.map_cons,List.map_nil]);first | done | rfl | (simp only [List.length_drop,List.length_take];rfl)) ?_;(with_reducible refine (verdererref03_Times.calls k a0 a1 t201 t202 _ A3.out).mono ?_);rintro e w5 ⟨v203,rfl,ho0,hb⟩;refine ⟨_,rfl,?_⟩;have n0_ := Aside0.mk (Kd.R_lower ho0 (q0p (by repeat (first | (with_reducible first | exact HB.out | apply q0h | apply q0d | apply q0f) | exact HB.out))));have n1_ := Aside0.mk (q0s (by repeat (first | (with_reducible first | exact HB.out | apply q0h | apply q0d | apply q0f) | exact HB.out)) hb);clear HB;have HO204 := n0_;have HB := n1_;clear n0_ n1_;(try clear hb);(try clear hb2);(try clear hk);(try clear hi);(try clear ho0);obtain ⟨Ao6,co6,eo6⟩ := Kd.R_slice HO204.out;subst eo6) | ((with_reducible refine q00 (f := 19) rfl ?_);refine goesL_ (some 9) rfl rfl Try.func19 (by kernel_rfl) rfl #[.agg #[.bool t201,.slice Ao6 t202.length co6]] rfl (by (try simp only [List.map_toArray,List.map_cons,List.map_nil]);first | done | rfl | (simp only [List.length_drop,List.length_take];rfl)) ?_;(with_reducible refine (verdererref03_Big_Value.calls k t201 _ _ t202 t205 t206 _ ?side1 ?side2 A4.out).mono ?_);(case side1 => repeat (first | exact (Kd.q02 HO204.out).2.2 | (with_reducible refine Kd.C_alloc ?_ _) | (with_reducible refine Kd.C_drewN ?_ _) | (with_reducible refine Kd.C_drew ?_)));(case side2 => exact (Kd.q02 HO204.out).2.1);rintro e w7 ⟨rfl,hb⟩;refine ⟨_,rfl,?_⟩;have n0_ := Aside0.mk (Kd.q0v (by (with_reducible repeat (first | apply Kd.q0m | apply Kd.q0n | apply Kd.q0o));exact HO204.out) hb);have n1_ := Aside0.mk (q0s (by repeat (first | (with_reducible first | exact HB.out | apply q0h | apply q0d | apply q0f) | exact HB.out)) hb);clear HO204;clear HB;have HO204 := n0_;have HB := n1_;clear n0_ n1_;(try clear hb);(try clear hb2);(try clear hk);(try clear hi)))
 go_ret2
 exact ⟨by first | rfl | (simp [q0w,q0x] <;> rfl) | (simp [*,q0w,q0x] <;> rfl),by repeat (first | (with_reducible first | exact HB.out | apply q0h | apply q0d | apply q0f) | exact HB.out)⟩
end Go.Proofs.Ytcenlehfbgnphaa.Z
end
