/- Parts of the proof of RowSorts: what its functions answer. -/
import Derived.Test.YtfoaeigoajooeaaMRowSortsa
import Derived.Test.YtfoaeigoajooeaaMRowSortsb
import Derived.Test.YtfoaeigoajooeaaMRowSortsc
section
namespace Go.Proofs.Ytfoaeigoajooeaa.Z
open Go.RowKit Go.Proofs.YtfoaeigoajooeaaW.PrintWords Go.Proofs.YtfoaeigoajooeaaW.PrintLast Go.Proofs.YtfoaeigoajooeaaW.PrintMore
attribute [local go_sem] max2_int min2_int max_two min_two max_three min_three max_four min_four
set_option linter.unusedVariables false
set_option linter.unusedSimpArgs false
def verdererref01_Compare.f (k : Nat) (a0_0 : Int) (a0_1 : Bool) (a0_2 : Int) (a0_3 : ByteArray) (a1_0 : Int) (a1_1 : Bool) (a1_2 : Int) (a1_3 : ByteArray) : Option (Int) := if a0_0 < a1_0 then (some (-1)) else (if a0_0 > a1_0 then (some 1) else (if a0_0 = 1 then (if (a0_1 == a1_1) = true then (some 0) else (if a1_1 = true then (some (-1)) else (some 1))) else (if a0_0 = 2 then (if a0_2 < a1_2 then (some (-1)) else (if a0_2 > a1_2 then (some 1) else (some 0))) else (if a0_0 = 3 then ((verdererref01_Text.f k a0_3 a1_3).bind fun t255 => (some t255)) else (some 0)))))
theorem verdererref01_Compare.mono : ∀ a0 a1 a2 a3 a4 a5 a6 a7 k,LeO (verdererref01_Compare.f k a0 a1 a2 a3 a4 a5 a6 a7) (verdererref01_Compare.f (k + 1) a0 a1 a2 a3 a4 a5 a6 a7) := by
 intro a0 a1 a2 a3 a4 a5 a6 a7 k
 unfold verdererref01_Compare.f
 repeat' first
   | (with_reducible exact verdererref01_Text.mono _ _ _)
   | (with_reducible exact LeO.refl _)
   | (with_reducible exact LeO.none _)
   | (with_reducible refine LeO.ite ?_ ?_)
   | (with_reducible refine LeO.bind ?_ (fun _ => ?_))
   | exact verdererref01_Text.mono _ _ _
   | exact LeO.none _
   | refine LeO.ite ?_ ?_
   | refine LeO.bind ?_ (fun _ => ?_)
set_option maxHeartbeats 8000000 in
set_option maxRecDepth 100000 in
theorem verdererref01_Compare.calls (k : Nat) (a0_0 : Int) (a0_1 : Bool) (a0_2 : Int) (a0_3 : ByteArray) (a1_0 : Int) (a1_1 : Bool) (a1_2 : Int) (a1_3 : ByteArray) (r : Int) (w : World) (h : verdererref01_Compare.f k a0_0 a0_1 a0_2 a0_3 a1_0 a1_1 a1_2 a1_3 = some r) :
  Calls Try.prog 49 #[.agg #[.int .i64 a0_0,.bool a0_1,.int .i64 a0_2,.string a0_3],.agg #[.int .i64 a1_0,.bool a1_1,.int .i64 a1_2,.string a1_3]] w fun e w' => e = .returned (.int .i64 r) ∧ Below w.heap.size w w' := by
 have hu50 := Try.underlying50
 have HB := Aside0.mk (Below.refl w.heap.size w)
 have H : (if a0_0 < a1_0 then (some (-1)) else (if a0_0 > a1_0 then (some 1) else (if a0_0 = 1 then (if (a0_1 == a1_1) = true then (some 0) else (if a1_1 = true then (some (-1)) else (some 1))) else (if a0_0 = 2 then (if a0_2 < a1_2 then (some (-1)) else (if a0_2 > a1_2 then (some 1) else (some 0))) else (if a0_0 = 3 then ((verdererref01_Text.f k a0_3 a1_3).bind fun t255 => (some t255)) else (some 0)))))) = some r := h
 clear h
 by_cases c3 : a0_0 < a1_0
 ·rw [if_pos c3] at H
  have c3b0 : decide (a0_0 < a1_0) = true := decide_eq_true c3
  clear c3
  obtain rfl := Option.some.inj H
  go_enter Try.func49,Try.ntmps49
  go_wp2_with (first | ((with_reducible refine q0s (N := 2) rfl ?_);refine q0r ?hg (N := 2) ?hd (cs := #[.int .i64 a0_0,.bool a0_1,.int .i64 a0_2,.string a0_3]) (t := 50) ?hr ?_;(case hd => rfl);(case hg => rfl);(case hr => first | (go_simp;done) | (go_simp;rfl));intro gb253 hg w4 hbox hb;have n0_ := Aside0.mk (q0l (by repeat (first | (with_reducible first | exact HB.out | apply q0b | apply q0a | apply q0c) | exact HB.out)) hb);have n1_ := Aside0.mk (hbox);have n2_ := Aside0.mk ((by rw [hg];exact (q0g (by repeat (first | (with_reducible first | exact HB.out | apply q0b | apply q0a | apply q0c) | exact HB.out))) : w.heap.size ≤ gb253));have n3_ := Aside0.mk ((by rw [hg];exact (q0g (by repeat (first | (with_reducible first | exact HB.out | apply q0b | apply q0a | apply q0c) | exact HB.out))) : w.heap.size ≤ gb253));clear HB;have HB := n0_;have BK253 := n1_;have GW253 := n2_;have GE253 := n3_;clear n0_ n1_ n2_ n3_;clear hb hbox hg) | ((with_reducible refine q0s (N := 3) rfl ?_);refine q0r ?hg (N := 3) ?hd (cs := #[.int .i64 a1_0,.bool a1_1,.int .i64 a1_2,.string a1_3]) (t := 50) ?hr ?_;(case hd => rfl);(case hg => rfl);(case hr => first | (go_simp;done) | (go_simp;rfl));intro gb254 hg w5 hbox hb;have n0_ := Aside0.mk (blk_below (g := gb253) (o := .cells #[.int .i64 a0_0,.bool a0_1,.int .i64 a0_2,.string a0_3] 50 (0,0)) (by (with_reducible repeat (first | refine q0i ?_ _ | refine q0j ?_ | refine q0h ?_ _));exact BK253.out) hb);have n1_ := Aside0.mk (q0l (by repeat (first | (with_reducible first | exact HB.out | apply q0b | apply q0a | apply q0c | refine q0k ?_ GE253.out) | exact HB.out)) hb);have n2_ := Aside0.mk (hbox);have n3_ := Aside0.mk ((by rw [hg];exact (q0g (by repeat (first | (with_reducible first | exact HB.out | apply q0b | apply q0a | apply q0c | refine q0k ?_ GE253.out) | exact HB.out))) : w.heap.size ≤ gb254));have n4_ := Aside0.mk ((by rw [hg];exact (q0g (by repeat (first | (with_reducible first | exact HB.out | apply q0b | apply q0a | apply q0c | refine q0k ?_ GE253.out) | exact HB.out))) : w.heap.size ≤ gb254));have n5_ := Aside0.mk ((by rw [hg];exact Nat.ne_of_lt (blk_lt (g := gb253) (o := .cells #[.int .i64 a0_0,.bool a0_1,.int .i64 a0_2,.string a0_3] 50 (0,0)) (by (with_reducible repeat (first | refine q0i ?_ _ | refine q0j ?_ | refine q0h ?_ _));exact BK253.out)) : gb253 ≠ gb254));have n6_ := Aside0.mk ((by rw [hg];exact Nat.ne_of_gt (blk_lt (g := gb253) (o := .cells #[.int .i64 a0_0,.bool a0_1,.int .i64 a0_2,.string a0_3] 50 (0,0)) (by (with_reducible repeat (first | refine q0i ?_ _ | refine q0j ?_ | refine q0h ?_ _));exact BK253.out)) : gb254 ≠ gb253));clear BK253;clear HB;have BK253 := n0_;have HB := n1_;have BK254 := n2_;have GW254 := n3_;have GE254 := n4_;have NB253_254 := n5_;have NB254_253 := n6_;clear n0_ n1_ n2_ n3_ n4_ n5_ n6_;clear hb hbox hg;have hnb6 := NB253_254.out;have hnc6 := NB254_253.out;have hcz7_0 : w5.cell? ⟨gb253,0,none⟩ = some (.int .i64 a0_0) := (q0e BK253.out 0).trans rfl;have hcz7_1 : w5.cell? ⟨gb253,1,none⟩ = some (.bool a0_1) := (q0e BK253.out 1).trans rfl;have hcz7_2 : w5.cell? ⟨gb253,2,none⟩ = some (.int .i64 a0_2) := (q0e BK253.out 2).trans rfl;have hcz7_3 : w5.cell? ⟨gb253,3,none⟩ = some (.string a0_3) := (q0e BK253.out 3).trans rfl;have hfz7_0 := q0d BK253.out 0;have hfz7_1 := q0d BK253.out 1;have hfz7_2 := q0d BK253.out 2;have hfz7_3 := q0d BK253.out 3;have hcz8_0 : w5.cell? ⟨gb254,0,none⟩ = some (.int .i64 a1_0) := (q0e BK254.out 0).trans rfl;have hcz8_1 : w5.cell? ⟨gb254,1,none⟩ = some (.bool a1_1) := (q0e BK254.out 1).trans rfl;have hcz8_2 : w5.cell? ⟨gb254,2,none⟩ = some (.int .i64 a1_2) := (q0e BK254.out 2).trans rfl;have hcz8_3 : w5.cell? ⟨gb254,3,none⟩ = some (.string a1_3) := (q0e BK254.out 3).trans rfl;have hfz8_0 := q0d BK254.out 0;have hfz8_1 := q0d BK254.out 1;have hfz8_2 := q0d BK254.out 2;have hfz8_3 := q0d BK254.out 3))
  go_ret
  exact ⟨by first | rfl | (simp [q0n,q0o] <;> rfl) | (simp [*,q0n,q0o] <;> rfl),by repeat (first | (with_reducible first | exact HB.out | apply q0b | apply q0a | apply q0c | refine q0k ?_ GE253.out | refine q0k ?_ GE254.out) | exact HB.out)⟩
 ·rw [if_neg c3] at H
  have c3b0 : decide (a0_0 < a1_0) = false := decide_eq_false c3
  clear c3
  by_cases c9 : a0_0 > a1_0
  ·rw [if_pos c9] at H
   have c9b0 : decide (a1_0 < a0_0) = true := decide_eq_true c9
   clear c9
   obtain rfl := Option.some.inj H
   go_enter Try.func49,Try.ntmps49
   go_wp2_with (first | ((with_reducible refine q0s (N := 2) rfl ?_);refine q0r ?hg (N := 2) ?hd (cs := #[.int .i64 a0_0,.bool a0_1,.int .i64 a0_2,.string a0_3]) (t := 50) ?hr ?_;(case hd => rfl);(case hg => rfl);(case hr => first | (go_simp;done) | (go_simp;rfl));intro gb253 hg w10 hbox hb;have n0_ := Aside0.mk (q0l (by repeat (first | (with_reducible first | exact HB.out | apply q0b | apply q0a | apply q0c) | exact HB.out)) hb);have n1_ := Aside0.mk (hbox);have n2_ := Aside0.mk ((by rw [hg];exact (q0g (by repeat (first | (with_reducible first | exact HB.out | apply q0b | apply q0a | apply q0c) | exact HB.out))) : w.heap.size ≤ gb253));have n3_ := Aside0.mk ((by rw [hg];exact (q0g (by repeat (first | (with_reducible first | exact HB.out | apply q0b | apply q0a | apply q0c) | exact HB.out))) : w.heap.size ≤ gb253));clear HB;have HB := n0_;have BK253 := n1_;have GW253 := n2_;have GE253 := n3_;clear n0_ n1_ n2_ n3_;clear hb hbox hg) | ((with_reducible refine q0s (N := 3) rfl ?_);refine q0r ?hg (N := 3) ?hd (cs := #[.int .i64 a1_0,.bool a1_1,.int .i64 a1_2,.string a1_3]) (t := 50) ?hr ?_;(case hd => rfl);(case hg => rfl);(case hr => first | (go_simp;done) | (go_simp;rfl));intro gb254 hg w11 hbox hb;have n0_ := Aside0.mk (blk_below (g := gb253) (o := .cells #[.int .i64 a0_0,.bool a0_1,.int .i64 a0_2,.string a0_3] 50 (0,0)) (by (with_reducible repeat (first | refine q0i ?_ _ | refine q0j ?_ | refine q0h ?_ _));exact BK253.out) hb);have n1_ := Aside0.mk (q0l (by repeat (first | (with_reducible first | exact HB.out | apply q0b | apply q0a | apply q0c | refine q0k ?_ GE253.out) | exact HB.out)) hb);have n2_ := Aside0.mk (hbox);have n3_ := Aside0.mk ((by rw [hg];exact (q0g (by repeat (first | (with_reducible first | exact HB.out | apply q0b | apply q0a | apply q0c | refine q0k ?_ GE253.out) | exact HB.out))) : w.heap.size ≤ gb254));have n4_ := Aside0.mk ((by rw [hg];exact (q0g (by repeat (first | (with_reducible first | exact HB.out | apply q0b | apply q0a | apply q0c | refine q0k ?_ GE253.out) | exact HB.out))) : w.heap.size ≤ gb254));have n5_ := Aside0.mk ((by rw [hg];exact Nat.ne_of_lt (blk_lt (g := gb253) (o := .cells #[.int .i64 a0_0,.bool a0_1,.int .i64 a0_2,.string a0_3] 50 (0,0)) (by (with_reducible repeat (first | refine q0i ?_ _ | refine q0j ?_ | refine q0h ?_ _));exact BK253.out)) : gb253 ≠ gb254));have n6_ := Aside0.mk ((by rw [hg];exact Nat.ne_of_gt (blk_lt (g := gb253) (o := .cells #[.int .i64 a0_0,.bool a0_1,.int .i64 a0_2,.string a0_3] 50 (0,0)) (by (with_reducible repeat (first | refine q0i ?_ _ | refine q0j ?_ | refine q0h ?_ _));exact BK253.out)) : gb254 ≠ gb253));clear BK253;clear HB;have BK253 := n0_;have HB := n1_;have BK254 := n2_;have GW254 := n3_;have GE254 := n4_;have NB253_254 := n5_;have NB254_253 := n6_;clear n0_ n1_ n2_ n3_ n4_ n5_ n6_;clear hb hbox hg;have hnb12 := NB253_254.out;have hnc12 := NB254_253.out;have hcz13_0 : w11.cell? ⟨gb253,0,none⟩ = some (.int .i64 a0_0) := (q0e BK253.out 0).trans rfl;have hcz13_1 : w11.cell? ⟨gb253,1,none⟩ = some (.bool a0_1) := (q0e BK253.out 1).trans rfl;have hcz13_2 : w11.cell? ⟨gb253,2,none⟩ = some (.int .i64 a0_2) := (q0e BK253.out 2).trans rfl;have hcz13_3 : w11.cell? ⟨gb253,3,none⟩ = some (.string a0_3) := (q0e BK253.out 3).trans rfl;have hfz13_0 := q0d BK253.out 0;have hfz13_1 := q0d BK253.out 1;have hfz13_2 := q0d BK253.out 2;have hfz13_3 := q0d BK253.out 3;have hcz14_0 : w11.cell? ⟨gb254,0,none⟩ = some (.int .i64 a1_0) := (q0e BK254.out 0).trans rfl;have hcz14_1 : w11.cell? ⟨gb254,1,none⟩ = some (.bool a1_1) := (q0e BK254.out 1).trans rfl;have hcz14_2 : w11.cell? ⟨gb254,2,none⟩ = some (.int .i64 a1_2) := (q0e BK254.out 2).trans rfl;have hcz14_3 : w11.cell? ⟨gb254,3,none⟩ = some (.string a1_3) := (q0e BK254.out 3).trans rfl;have hfz14_0 := q0d BK254.out 0;have hfz14_1 := q0d BK254.out 1;have hfz14_2 := q0d BK254.out 2;have hfz14_3 := q0d BK254.out 3))
   go_ret
   exact ⟨by first | rfl | (simp [q0n,q0o] <;> rfl) | (simp [*,q0n,q0o] <;> rfl),by repeat (first | (with_reducible first | exact HB.out | apply q0b | apply q0a | apply q0c | refine q0k ?_ GE253.out | refine q0k ?_ GE254.out) | exact HB.out)⟩
  ·rw [if_neg c9] at H
   have c9b0 : decide (a1_0 < a0_0) = false := decide_eq_false c9
   clear c9
   by_cases c15 : a0_0 = 1
   ·rw [if_pos c15] at H
    have c15b0 : (a0_0 == 1) = true := beq_iff_eq.mpr c15
    have c15b1 : (a0_0 != 1) = false := bne_eq_false_iff_eq.mpr c15
    clear c15
    by_cases c16 : (a0_1 == a1_1) = true
    ·rw [if_pos c16] at H
     have c16b0 : (a0_1 == a1_1) = true := c16
     (try (have c16b1 : decide (a0_1 = a1_1) = true := by simpa using c16))
     (try (have c16b2 : (a0_1 == a1_1) = true := by simpa using c16))
     clear c16
     obtain rfl := Option.some.inj H
     go_enter Try.func49,Try.ntmps49
     go_wp2_with (first | ((with_reducible refine q0s (N := 2) rfl ?_);refine q0r ?hg (N := 2) ?hd (cs := #[.int .i64 a0_0,.bool a0_1,.int .i64 a0_2,.string a0_3]) (t := 50) ?hr ?_;(case hd => rfl);(case hg => rfl);(case hr => first | (go_simp;done) | (go_simp;rfl));intro gb253 hg w17 hbox hb;have n0_ := Aside0.mk (q0l (by repeat (first | (with_reducible first | exact HB.out | apply q0b | apply q0a | apply q0c) | exact HB.out)) hb);have n1_ := Aside0.mk (hbox);have n2_ := Aside0.mk ((by rw [hg];exact (q0g (by repeat (first | (with_reducible first | exact HB.out | apply q0b | apply q0a | apply q0c) | exact HB.out))) : w.heap.size ≤ gb253));have n3_ := Aside0.mk ((by rw [hg];exact (q0g (by repeat (first | (with_reducible first | exact HB.out | apply q0b | apply q0a | apply q0c) | exact HB.out))) : w.heap.size ≤ gb253));clear HB;have HB := n0_;have BK253 := n1_;have GW253 := n2_;have GE253 := n3_;clear n0_ n1_ n2_ n3_;clear hb hbox hg) | ((with_reducible refine q0s (N := 3) rfl ?_);refine q0r ?hg (N := 3) ?hd (cs := #[.int .i64 a1_0,.bool a1_1,.int .i64 a1_2,.string a1_3]) (t := 50) ?hr ?_;(case hd => rfl);(case hg => rfl);(case hr => first | (go_simp;done) | (go_simp;rfl));intro gb254 hg w18 hbox hb;have n0_ := Aside0.mk (blk_below (g := gb253) (o := .cells #[.int .i64 a0_0,.bool a0_1,.int .i64 a0_2,.string a0_3] 50 (0,0)) (by (with_reducible repeat (first | refine q0i ?_ _ | refine q0j ?_ | refine q0h ?_ _));exact BK253.out) hb);have n1_ := Aside0.mk (q0l (by repeat (first | (with_reducible first | exact HB.out | apply q0b | apply q0a | apply q0c | refine q0k ?_ GE253.out) | exact HB.out)) hb);have n2_ := Aside0.mk (hbox);have n3_ := Aside0.mk ((by rw [hg];exact (q0g (by repeat (first | (with_reducible first | exact HB.out | apply q0b | apply q0a | apply q0c | refine q0k ?_ GE253.out) | exact HB.out))) : w.heap.size ≤ gb254));have n4_ := Aside0.mk ((by rw [hg];exact (q0g (by repeat (first | (with_reducible first | exact HB.out | apply q0b | apply q0a | apply q0c | refine q0k ?_ GE253.out) | exact HB.out))) : w.heap.size ≤ gb254));have n5_ := Aside0.mk ((by rw [hg];exact Nat.ne_of_lt (blk_lt (g := gb253) (o := .cells #[.int .i64 a0_0,.bool a0_1,.int .i64 a0_2,.string a0_3] 50 (0,0)) (by (with_reducible repeat (first | refine q0i ?_ _ | refine q0j ?_ | refine q0h ?_ _));exact BK253.out)) : gb253 ≠ gb254));have n6_ := Aside0.mk ((by rw [hg];exact Nat.ne_of_gt (blk_lt (g := gb253) (o := .cells #[.int .i64 a0_0,.bool a0_1,.int .i64 a0_2,.string a0_3] 50 (0,0)) (by (with_reducible repeat (first | refine q0i ?_ _ | refine q0j ?_ | refine q0h ?_ _));exact BK253.out)) : gb254 ≠ gb253));clear BK253;clear HB;have BK253 := n0_;have HB := n1_;have BK254 := n2_;have GW254 := n3_;have GE254 := n4_;have NB253_254 := n5_;have NB254_253 := n6_;clear n0_ n1_ n2_ n3_ n4_ n5_ n6_;clear hb hbox hg;have hnb19 := NB253_254.out;have hnc19 := NB254_253.out;have hcz20_0 : w18.cell? ⟨gb253,0,none⟩ = some (.int .i64 a0_0) := (q0e BK253.out 0).trans rfl;have hcz20_1 : w18.cell? ⟨gb253,1,none⟩ = some (.bool a0_1) := (q0e BK253.out 1).trans rfl;have hcz20_2 : w18.cell? ⟨gb253,2,none⟩ = some (.int .i64 a0_2) := (q0e BK253.out 2).trans rfl;have hcz20_3 : w18.cell? ⟨gb253,3,none⟩ = some (.string a0_3) := (q0e BK253.out 3).trans rfl;have hfz20_0 := q0d BK253.out 0;have hfz20_1 := q0d BK253.out 1;have hfz20_2 := q0d BK253.out 2;have hfz20_3 := q0d BK253.out 3;have hcz21_0 : w18.cell? ⟨gb254,0,none⟩ = some (.int .i64 a1_0) := (q0e BK254.out 0).trans rfl;have hcz21_1 : w18.cell? ⟨gb254,1,none⟩ = some (.bool a1_1) := (q0e BK254.out 1).trans rfl;have hcz21_2 : w18.cell? ⟨gb254,2,none⟩ = some (.int .i64 a1_2) := (q0e BK254.out 2).trans rfl;have hcz21_3 : w18.cell? ⟨gb254,3,none⟩ = some (.string a1_3) := (q0e BK254.out 3).trans rfl;have hfz21_0 := q0d BK254.out 0;have hfz21_1 := q0d BK254.out 1;have hfz21_2 := q0d BK254.out 2;have hfz21_3 := q0d BK254.out 3))
     go_ret
     exact ⟨by first | rfl | (simp [q0n,q0o] <;> rfl) | (simp [*,q0n,q0o] <;> rfl),by repeat (first | (with_reducible first | exact HB.out | apply q0b | apply q0a | apply q0c | refine q0k ?_ GE253.out | refine q0k ?_ GE254.out) | exact HB.out)⟩
    ·rw [if_neg c16] at H
     have c16b0 : (a0_1 == a1_1) = false := by simpa using c16
     (try (have c16b1 : decide (a0_1 = a1_1) = false := by simpa using c16))
     (try (have c16b2 : (a0_1 == a1_1) = false := by simpa using c16))
     (try (have c16b3 : ¬ (a0_1 = a1_1) := by simpa using c16))
     clear c16
     by_cases c22 : a1_1 = true
     ·subst c22
      have H1 : (some (-1)) = some r := by rw [if_pos rfl] at H;exact H
      clear H
      have H := H1
      clear H1
      obtain rfl := Option.some.inj H
      go_enter Try.func49,Try.ntmps49
      go_wp2_with (first | ((with_reducible refine q0s (N := 2) rfl ?_);refine q0r ?hg (N := 2) ?hd (cs := #[.int .i64 a0_0,.bool a0_1,.int .i64 a0_2,.string a0_3]) (t := 50) ?hr ?_;(case hd => rfl);(case hg => rfl);(case hr => first | (go_simp;done) | (go_simp;rfl));intro gb253 hg w23 hbox hb;have n0_ := Aside0.mk (q0l (by repeat (first | (with_reducible first | exact HB.out | apply q0b | apply q0a | apply q0c) | exact HB.out)) hb);have n1_ := Aside0.mk (hbox);have n2_ := Aside0.mk ((by rw [hg];exact (q0g (by repeat (first | (with_reducible first | exact HB.out | apply q0b | apply q0a | apply q0c) | exact HB.out))) : w.heap.size ≤ gb253));have n3_ := Aside0.mk ((by rw [hg];exact (q0g (by repeat (first | (with_reducible first | exact HB.out | apply q0b | apply q0a | apply q0c) | exact HB.out))) : w.heap.size ≤ gb253));clear HB;have HB := n0_;have BK253 := n1_;have GW253 := n2_;have GE253 := n3_;clear n0_ n1_ n2_ n3_;clear hb hbox hg) | ((with_reducible refine q0s (N := 3) rfl ?_);refine q0r ?hg (N := 3) ?hd (cs := #[.int .i64 a1_0,.bool true,.int .i64 a1_2,.string a1_3]) (t := 50) ?hr ?_;(case hd => rfl);(case hg => rfl);(case hr => first | (go_simp;done) | (go_simp;rfl));intro gb254 hg w24 hbox hb;have n0_ := Aside0.mk (blk_below (g := gb253) (o := .cells #[.int .i64 a0_0,.bool a0_1,.int .i64 a0_2,.string a0_3] 50 (0,0)) (by (with_reducible repeat (first | refine q0i ?_ _ | refine q0j ?_ | refine q0h ?_ _));exact BK253.out) hb);have n1_ := Aside0.mk (q0l (by repeat (first | (with_reducible first | exact HB.out | apply q0b | apply q0a | apply q0c | refine q0k ?_ GE253.out) | exact HB.out)) hb);have n2_ := Aside0.mk (hbox);have n3_ := Aside0.mk ((by rw [hg];exact (q0g (by repeat (first | (with_reducible first | exact HB.out | apply q0b | apply q0a | apply q0c | refine q0k ?_ GE253.out) | exact HB.out))) : w.heap.size ≤ gb254));have n4_ := Aside0.mk ((by rw [hg];exact (q0g (by repeat (first | (with_reducible first | exact HB.out | apply q0b | apply q0a | apply q0c | refine q0k ?_ GE253.out) | exact HB.out))) : w.heap.size ≤ gb254));have n5_ := Aside0.mk ((by rw [hg];exact Nat.ne_of_lt (blk_lt (g := gb253) (o := .cells #[.int .i64 a0_0,.bool a0_1,.int .i64 a0_2,.string a0_3] 50 (0,0)) (by (with_reducible repeat (first | refine q0i ?_ _ | refine q0j ?_ | refine q0h ?_ _));exact BK253.out)) : gb253 ≠ gb254));have n6_ := Aside0.mk ((by rw [hg];exact Nat.ne_of_gt (blk_lt (g := gb253) (o := .cells #[.int .i64 a0_0,.bool a0_1,.int .i64 a0_2,.string a0_3] 50 (0,0)) (by (with_reducible repeat (first | refine q0i ?_ _ | refine q0j ?_ | refine q0h ?_ _));exact BK253.out)) : gb254 ≠ gb253));clear BK253;clear HB;have BK253 := n0_;have HB := n1_;have BK254 := n2_;have GW254 := n3_;have GE254 := n4_;have NB253_254 := n5_;have NB254_253 := n6_;clear n0_ n1_ n2_ n3_ n4_ n5_ n6_;clear hb hbox hg;have hnb25 := NB253_254.out;have hnc25 := NB254_253.out;have hcz26_0 : w24.cell? ⟨gb253,0,none⟩ = some (.int .i64 a0_0) := (q0e BK253.out 0).trans rfl;have hcz26_1 : w24.cell? ⟨gb253,1,none⟩ = some (.bool a0_1) := (q0e BK253.out 1).trans rfl;have hcz26_2 : w24.cell? ⟨gb253,2,none⟩ = some (.int .i64 a0_2) := (q0e BK253.out 2).trans rfl;have hcz26_3 : w24.cell? ⟨gb253,3,none⟩ = some (.string a0_3) := (q0e BK253.out 3).trans rfl;have hfz26_0 := q0d BK253.out 0;have hfz26_1 := q0d BK253.out 1;have hfz26_2 := q0d BK253.out 2;have hfz26_3 := q0d BK253.out 3;have hcz27_0 : w24.cell? ⟨gb254,0,none⟩ = some (.int .i64 a1_0) := (q0e BK254.out 0).trans rfl;have hcz27_1 : w24.cell? ⟨gb254,1,none⟩ = some (.bool true) := (q0e BK254.out 1).trans rfl;have hcz27_2 : w24.cell? ⟨gb254,2,none⟩ = some (.int .i64 a1_2) := (q0e BK254.out 2).trans rfl;have hcz27_3 : w24.cell? ⟨gb254,3,none⟩ = some (.string a1_3) := (q0e BK254.out 3).trans rfl;have hfz27_0 := q0d BK254.out 0;have hfz27_1 := q0d BK254.out 1;have hfz27_2 := q0d BK254.out 2;have hfz27_3 := q0d BK254.out 3))
      go_ret
      exact ⟨by first | rfl | (simp [q0n,q0o] <;> rfl) | (simp [*,q0n,q0o] <;> rfl),by repeat (first | (with_reducible first | exact HB.out | apply q0b | apply q0a | apply q0c | refine q0k ?_ GE253.out | refine q0k ?_ GE254.out) | exact HB.out)⟩
     ·replace c22 := Bool.eq_false_iff.mpr c22
      subst c22
      have H1 : (some 1) = some r := by rw [if_neg (show ¬ (false = true) by decide)] at H;exact H
      clear H
      have H := H1
      clear H1
      obtain rfl := Option.some.inj H
      go_enter Try.func49,Try.ntmps49
      go_wp2_with (first | ((with_reducible refine q0s (N := 2) rfl ?_);refine q0r ?hg (N := 2) ?hd (cs := #[.int .i64 a0_0,.bool a0_1,.int .i64 a0_2,.string a0_3]) (t := 50) ?hr ?_;(case hd => rfl);(case hg => rfl);(case hr => first | (go_simp;done) | (go_simp;rfl));intro gb253 hg w28 hbox hb;have n0_ := Aside0.mk (q0l (by repeat (first | (with_reducible first | exact HB.out | apply q0b | apply q0a | apply q0c) | exact HB.out)) hb);have n1_ := Aside0.mk (hbox);have n2_ := Aside0.mk ((by rw [hg];exact (q0g (by repeat (first | (with_reducible first | exact HB.out | apply q0b | apply q0a | apply q0c) | exact HB.out))) : w.heap.size ≤ gb253));have n3_ := Aside0.mk ((by rw [hg];exact (q0g (by repeat (first | (with_reducible first | exact HB.out | apply q0b | apply q0a | apply q0c) | exact HB.out))) : w.heap.size ≤ gb253));clear HB;have HB := n0_;have BK253 := n1_;have GW253 := n2_;have GE253 := n3_;clear n0_ n1_ n2_ n3_;clear hb hbox hg) | ((with_reducible refine q0s (N := 3) rfl ?_);refine q0r ?hg (N := 3) ?hd (cs := #[.int .i64 a1_0,.bool false,.int .i64 a1_2,.string a1_3]) (t := 50) ?hr ?_;(case hd => rfl);(case hg => rfl);(case hr => first | (go_simp;done) | (go_simp;rfl));intro gb254 hg w29 hbox hb;have n0_ := Aside0.mk (blk_below (g := gb253) (o := .cells #[.int .i64 a0_0,.bool a0_1,.int .i64 a0_2,.string a0_3] 50 (0,0)) (by (with_reducible repeat (first | refine q0i ?_ _ | refine q0j ?_ | refine q0h ?_ _));exact BK253.out) hb);have n1_ := Aside0.mk (q0l (by repeat (first | (with_reducible first | exact HB.out | apply q0b | apply q0a | apply q0c | refine q0k ?_ GE253.out) | exact HB.out)) hb);have n2_ := Aside0.mk (hbox);have n3_ := Aside0.mk ((by rw [hg];exact (q0g (by repeat (first | (with_reducible first | exact HB.out | apply q0b | apply q0a | apply q0c | refine q0k ?_ GE253.out) | exact HB.out))) : w.heap.size ≤ gb254));have n4_ := Aside0.mk ((by rw [hg];exact (q0g (by repeat (first | (with_reducible first | exact HB.out | apply q0b | apply q0a | apply q0c | refine q0k ?_ GE253.out) | exact HB.out))) : w.heap.size ≤ gb254));have n5_ := Aside0.mk ((by rw [hg];exact Nat.ne_of_lt (blk_lt (g := gb253) (o := .cells #[.int .i64 a0_0,.bool a0_1,.int .i64 a0_2,.string a0_3] 50 (0,0)) (by (with_reducible repeat (first | refine q0i ?_ _ | refine q0j ?_ | refine q0h ?_ _));exact BK253.out)) : gb253 ≠ gb254));have n6_ := Aside0.mk ((by rw [hg];exact Nat.ne_of_gt (blk_lt (g := gb253) (o := .cells #[.int .i64 a0_0,.bool a0_1,.int .i64 a0_2,.string a0_3] 50 (0,0)) (by (with_reducible repeat (first | refine q0i ?_ _ | refine q0j ?_ | refine q0h ?_ _));exact BK253.out)) : gb254 ≠ gb253));clear BK253;clear HB;have BK253 := n0_;have HB := n1_;have BK254 := n2_;have GW254 := n3_;have GE254 := n4_;have NB253_254 := n5_;have NB254_253 := n6_;clear n0_ n1_ n2_ n3_ n4_ n5_ n6_;clear hb hbox hg;have hnb30 := NB253_254.out;have hnc30 := NB254_253.out;have hcz31_0 : w29.cell? ⟨gb253,0,none⟩ = some (.int .i64 a0_0) := (q0e BK253.out 0).trans rfl;have hcz31_1 : w29.cell? ⟨gb253,1,none⟩ = some (.bool a0_1) := (q0e BK253.out 1).trans rfl;have hcz31_2 : w29.cell? ⟨gb253,2,none⟩ = some (.int .i64 a0_2) := (q0e BK253.out 2).trans rfl;have hcz31_3 : w29.cell? ⟨gb253,3,none⟩ = some (.string a0_3) := (q0e BK253.out 3).trans rfl;have hfz31_0 := q0d BK253.out 0;have hfz31_1 := q0d BK253.out 1;have hfz31_2 := q0d BK253.out 2;have hfz31_3 := q0d BK253.out 3;have hcz32_0 : w29.cell? ⟨gb254,0,none⟩ = some (.int .i64 a1_0) := (q0e BK254.out 0).trans rfl;have hcz32_1 : w29.cell? ⟨gb254,1,none⟩ = some (.bool false) := (q0e BK254.out 1).trans rfl;have hcz32_2 : w29.cell? ⟨gb254,2,none⟩ = some (.int .i64 a1_2) := (q0e BK254.out 2).trans rfl;have hcz32_3 : w29.cell? ⟨gb254,3,none⟩ = some (.string a1_3) := (q0e BK254.out 3).trans rfl;have hfz32_0 := q0d BK254.out 0;have hfz32_1 := q0d BK254.out 1;have hfz32_2 := q0d BK254.out 2;have hfz32_3 := q0d BK254.out 3))
      go_ret
      exact ⟨by first | rfl | (simp [q0n,q0o] <;> rfl) | (simp [*,q0n,q0o] <;> rfl),by repeat (first | (with_reducible first | exact HB.out | apply q0b | apply q0a | apply q0c | refine q0k ?_ GE253.out | refine q0k ?_ GE254.out) | exact HB.out)⟩
   ·rw [if_neg c15] at H
    have c15b0 : (a0_0 == 1) = false := beq_eq_false_iff_ne.mpr c15
    have c15b1 : (a0_0 != 1) = true := bne_iff_ne.mpr c15
    by_cases c33 : a0_0 = 2
    ·rw [if_pos c33] at H
     have c33b0 : (a0_0 == 2) = true := beq_iff_eq.mpr c33
     have c33b1 : (a0_0 != 2) = false := bne_eq_false_iff_eq.mpr c33
     clear c33
     by_cases c34 : a0_2 < a1_2
     ·rw [if_pos c34] at H
      have c34b0 : decide (a0_2 < a1_2) = true := decide_eq_true c34
      clear c34
      obtain rfl := Option.some.inj H
      go_enter Try.func49,Try.ntmps49
      go_wp2_with (first | ((with_reducible refine q0s (N := 2) rfl ?_);refine q0r ?hg (N := 2) ?hd (cs := #[.int .i64 a0_0,.bool a0_1,.int .i64 a0_2,.string a0_3]) (t := 50) ?hr ?_;(case hd => rfl);(case hg => rfl);(case hr => first | (go_simp;done) | (go_simp;rfl));intro gb253 hg w35 hbox hb;have n0_ := Aside0.mk (q0l (by repeat (first | (with_reducible first | exact HB.out | apply q0b | apply q0a | apply q0c) | exact HB.out)) hb);have n1_ := Aside0.mk (hbox);have n2_ := Aside0.mk ((by rw [hg];exact (q0g (by repeat (first | (with_reducible first | exact HB.out | apply q0b | apply q0a | apply q0c) | exact HB.out))) : w.heap.size ≤ gb253));have n3_ := Aside0.mk ((by rw [hg];exact (q0g (by repeat (first | (with_reducible first | exact HB.out | apply q0b | apply q0a | apply q0c) | exact HB.out))) : w.heap.size ≤ gb253));clear HB;have HB := n0_;have BK253 := n1_;have GW253 := n2_;have GE253 := n3_;clear n0_ n1_ n2_ n3_;clear hb hbox hg) | ((with_reducible refine q0s (N := 3) rfl ?_);refine q0r ?hg (N := 3) ?hd (cs := #[.int .i64 a1_0,.bool a1_1,.int .i64 a1_2,.string a1_3]) (t := 50) ?hr ?_;(case hd => rfl);(case hg => rfl);(case hr => first | (go_simp;done) | (go_simp;rfl));intro gb254 hg w36 hbox hb;have n0_ := Aside0.mk (blk_below (g := gb253) (o := .cells #[.int .i64 a0_0,.bool a0_1,.int .i64 a0_2,.string a0_3] 50 (0,0)) (by (with_reducible repeat (first | refine q0i ?_ _ | refine q0j ?_ | refine q0h ?_ _));exact BK253.out) hb);have n1_ := Aside0.mk (q0l (by repeat (first | (with_reducible first | exact HB.out | apply q0b | apply q0a | apply q0c | refine q0k ?_ GE253.out) | exact HB.out)) hb);have n2_ := Aside0.mk (hbox);have n3_ := Aside0.mk ((by rw [hg];exact (q0g (by repeat (first | (with_reducible first | exact HB.out | apply q0b | apply q0a | apply q0c | refine q0k ?_ GE253.out) | exact HB.out))) : w.heap.size ≤ gb254));have n4_ := Aside0.mk ((by rw [hg];exact (q0g (by repeat (first | (with_reducible first | exact HB.out | apply q0b | apply q0a | apply q0c | refine q0k ?_ GE253.out) | exact HB.out))) : w.heap.size ≤ gb254));have n5_ := Aside0.mk ((by rw [hg];exact Nat.ne_of_lt (blk_lt (g := gb253) (o := .cells #[.int .i64 a0_0,.bool a0_1,.int .i64 a0_2,.string a0_3] 50 (0,0)) (by (with_reducible repeat (first | refine q0i ?_ _ | refine q0j ?_ | refine q0h ?_ _));exact BK253.out)) : gb253 ≠ gb254));have n6_ := Aside0.mk ((by rw [hg];exact Nat.ne_of_gt (blk_lt (g := gb253) (o := .cells #[.int .i64 a0_0,.bool a0_1,.int .i64 a0_2,.string a0_3] 50 (0,0)) (by (with_reducible repeat (first | refine q0i ?_ _ | refine q0j ?_ | refine q0h ?_ _));exact BK253.out)) : gb254 ≠ gb253));clear BK253;clear HB;have BK253 := n0_;have HB := n1_;have BK254 := n2_;have GW254 := n3_;have GE254 := n4_;have NB253_254 := n5_;have NB254_253 := n6_;clear n0_ n1_ n2_ n3_ n4_ n5_ n6_;clear hb hbox hg;have hnb37 := NB253_254.out;have hnc37 := NB254_253.out;have hcz38_0 : w36.cell? ⟨gb253,0,none⟩ = some (.int .i64 a0_0) := (q0e BK253.out 0).trans rfl;have hcz38_1 : w36.cell? ⟨gb253,1,none⟩ = some (.bool a0_1) := (q0e BK253.out 1).trans rfl;have hcz38_2 : w36.cell? ⟨gb253,2,none⟩ = some (.int .i64 a0_2) := (q0e BK253.out 2).trans rfl;have hcz38_3 : w36.cell? ⟨gb253,3,none⟩ = some (.string a0_3) := (q0e BK253.out 3).trans rfl;have hfz38_0 := q0d BK253.out 0;have hfz38_1 := q0d BK253.out 1;have hfz38_2 := q0d BK253.out 2;have hfz38_3 := q0d BK253.out 3;have hcz39_0 : w36.cell? ⟨gb254,0,none⟩ = some (.int .i64 a1_0) := (q0e BK254.out 0).trans rfl;have hcz39_1 : w36.cell? ⟨gb254,1,none⟩ = some (.bool a1_1) := (q0e BK254.out 1).trans rfl;have hcz39_2 : w36.cell? ⟨gb254,2,none⟩ = some (.int .i64 a1_2) := (q0e BK254.out 2).trans rfl;have hcz39_3 : w36.cell? ⟨gb254,3,none⟩ = some (.string a1_3) := (q0e BK254.out 3).trans rfl;have hfz39_0 := q0d BK254.out 0;have hfz39_1 := q0d BK254.out 1;have hfz39_2 := q0d BK254.out 2;have hfz39_3 := q0d BK254.out 3))
      go_ret
      exact ⟨by first | rfl | (simp [q0n,q0o] <;> rfl) | (simp [*,q0n,q0o] <;> rfl),by repeat (first | (with_reducible first | exact HB.out | apply q0b | apply q0a | apply q0c | refine q0k ?_ GE253.out | refine q0k ?_ GE254.out) | exact HB.out)⟩
     ·rw [if_neg c34] at H
      have c34b0 : decide (a0_2 < a1_2) = false := decide_eq_false c34
      clear c34
      by_cases c40 : a0_2 > a1_2
      ·rw [if_pos c40] at H
       have c40b0 : decide (a1_2 < a0_2) = true := decide_eq_true c40
       clear c40
       obtain rfl := Option.some.inj H
       go_enter Try.func49,Try.ntmps49
       go_wp2_with (first | ((with_reducible refine q0s (N := 2) rfl ?_);refine q0r ?hg (N := 2) ?hd (cs := #[.int .i64 a0_0,.bool a0_1,.int .i64 a0_2,.string a0_3]) (t := 50) ?hr ?_;(case hd => rfl);(case hg => rfl);(case hr => first | (go_simp;done) | (go_simp;rfl));intro gb253 hg w41 hbox hb;have n0_ := Aside0.mk (q0l (by repeat (first | (with_reducible first | exact HB.out | apply q0b | apply q0a | apply q0c) | exact HB.out)) hb);have n1_ := Aside0.mk (hbox);have n2_ := Aside0.mk ((by rw [hg];exact (q0g (by repeat (first | (with_reducible first | exact HB.out | apply q0b | apply q0a | apply q0c) | exact HB.out))) : w.heap.size ≤ gb253));have n3_ := Aside0.mk ((by rw [hg];exact (q0g (by repeat (first | (with_reducible first | exact HB.out | apply q0b | apply q0a | apply q0c) | exact HB.out))) : w.heap.size ≤ gb253));clear HB;have HB := n0_;have BK253 := n1_;have GW253 := n2_;have GE253 := n3_;clear n0_ n1_ n2_ n3_;clear hb hbox hg) | ((with_reducible refine q0s (N := 3) rfl ?_);refine q0r ?hg (N := 3) ?hd (cs := #[.int .i64 a1_0,.bool a1_1,.int .i64 a1_2,.string a1_3]) (t := 50) ?hr ?_;(case hd => rfl);(case hg => rfl);(case hr => first | (go_simp;done) | (go_simp;rfl));intro gb254 hg w42 hbox hb;have n0_ := Aside0.mk (blk_below (g := gb253) (o := .cells #[.int .i64 a0_0,.bool a0_1,.int .i64 a0_2,.string a0_3] 50 (0,0)) (by (with_reducible repeat (first | refine q0i ?_ _ | refine q0j ?_ | refine q0h ?_ _));exact BK253.out) hb);have n1_ := Aside0.mk (q0l (by repeat (first | (with_reducible first | exact HB.out | apply q0b | apply q0a | apply q0c | refine q0k ?_ GE253.out) | exact HB.out)) hb);have n2_ := Aside0.mk (hbox);have n3_ := Aside0.mk ((by rw [hg];exact (q0g (by repeat (first | (with_reducible first | exact HB.out | apply q0b | apply q0a | apply q0c | refine q0k ?_ GE253.out) | exact HB.out))) : w.heap.size ≤ gb254));have n4_ := Aside0.mk ((by rw [hg];exact (q0g (by repeat (first | (with_reducible first | exact HB.out | apply q0b | apply q0a | apply q0c | refine q0k ?_ GE253.out) | exact HB.out))) : w.heap.size ≤ gb254));have n5_ := Aside0.mk ((by rw [hg];exact Nat.ne_of_lt (blk_lt (g := gb253) (o := .cells #[.int .i64 a0_0,.bool a0_1,.int .i64 a0_2,.string a0_3] 50 (0,0)) (by (with_reducible repeat (first | refine q0i ?_ _ | refine q0j ?_ | refine q0h ?_ _));exact BK253.out)) : gb253 ≠ gb254));have n6_ := Aside0.mk ((by rw [hg];exact Nat.ne_of_gt (blk_lt (g := gb253) (o := .cells #[.int .i64 a0_0,.bool a0_1,.int .i64 a0_2,.string a0_3] 50 (0,0)) (by (with_reducible repeat (first | refine q0i ?_ _ | refine q0j ?_ | refine q0h ?_ _));exact BK253.out)) : gb254 ≠ gb253));clear BK253;clear HB;have BK253 := n0_;have HB := n1_;have BK254 := n2_;have GW254 := n3_;have GE254 := n4_;have NB253_254 := n5_;have NB254_253 := n6_;clear n0_ n1_ n2_ n3_ n4_ n5_ n6_;clear hb hbox hg;have hnb43 := NB253_254.out;have hnc43 := NB254_253.out;have hcz44_0 : w42.cell? ⟨gb253,0,none⟩ = some (.int .i64 a0_0) := (q0e BK253.out 0).trans rfl;have hcz44_1 : w42.cell? ⟨gb253,1,none⟩ = some (.bool a0_1) := (q0e BK253.out 1).trans rfl;have hcz44_2 : w42.cell? ⟨gb253,2,none⟩ = some (.int .i64 a0_2) := (q0e BK253.out 2).trans rfl;have hcz44_3 : w42.cell? ⟨gb253,3,none⟩ = some (.string a0_3) := (q0e BK253.out 3).trans rfl;have hfz44_0 := q0d BK253.out 0;have hfz44_1 := q0d BK253.out 1;have hfz44_2 := q0d BK253.out 2;have hfz44_3 := q0d BK253.out 3;have hcz45_0 : w42.cell? ⟨gb254,0,none⟩ = some (.int .i64 a1_0) := (q0e BK254.out 0).trans rfl;have hcz45_1 : w42.cell? ⟨gb254,1,none⟩ = some (.bool a1_1) := (q0e BK254.out 1).trans rfl;have hcz45_2 : w42.cell? ⟨gb254,2,none⟩ = some (.int .i64 a1_2) := (q0e BK254.out 2).trans rfl;have hcz45_3 : w42.cell? ⟨gb254,3,none⟩ = some (.string a1_3) := (q0e BK254.out 3).trans rfl;have hfz45_0 := q0d BK254.out 0;have hfz45_1 := q0d BK254.out 1;have hfz45_2 := q0d BK254.out 2;have hfz45_3 := q0d BK254.out 3))
       go_ret
       exact ⟨by first | rfl | (simp [q0n,q0o] <;> rfl) | (simp [*,q0n,q0o] <;> rfl),by repeat (first | (with_reducible first | exact HB.out | apply q0b | apply q0a | apply q0c | refine q0k ?_ GE253.out | refine q0k ?_ GE254.out) | exact HB.out)⟩
      ·rw [if_neg c40] at H
       have c40b0 : decide (a1_2 < a0_2) = false := decide_eq_false c40
       clear c40
       obtain rfl := Option.some.inj H
       go_enter Try.func49,Try.ntmps49
       go_wp2_with (first | ((with_reducible refine q0s (N := 2) rfl ?_);refine q0r ?hg (N := 2) ?hd (cs := #[.int .i64 a0_0,.bool a0_1,.int .i64 a0_2,.string a0_3]) (t := 50) ?hr ?_;(case hd => rfl);(case hg => rfl);(case hr => first | (go_simp;done) | (go_simp;rfl));intro gb253 hg w46 hbox hb;have n0_ := Aside0.mk (q0l (by repeat (first | (with_reducible first | exact HB.out | apply q0b | apply q0a | apply q0c) | exact HB.out)) hb);have n1_ := Aside0.mk (hbox);have n2_ := Aside0.mk ((by rw [hg];exact (q0g (by repeat (first | (with_reducible first | exact HB.out | apply q0b | apply q0a | apply q0c) | exact HB.out))) : w.heap.size ≤ gb253));have n3_ := Aside0.mk ((by rw [hg];exact (q0g (by repeat (first | (with_reducible first | exact HB.out | apply q0b | apply q0a | apply q0c) | exact HB.out))) : w.heap.size ≤ gb253));clear HB;have HB := n0_;have BK253 := n1_;have GW253 := n2_;have GE253 := n3_;clear n0_ n1_ n2_ n3_;clear hb hbox hg) | ((with_reducible refine q0s (N := 3) rfl ?_);refine q0r ?hg (N := 3) ?hd (cs := #[.int .i64 a1_0,.bool a1_1,.int .i64 a1_2,.string a1_3]) (t := 50) ?hr ?_;(case hd => rfl);(case hg => rfl);(case hr => first | (go_simp;done) | (go_simp;rfl));intro gb254 hg w47 hbox hb;have n0_ := Aside0.mk (blk_below (g := gb253) (o := .cells #[.int .i64 a0_0,.bool a0_1,.int .i64 a0_2,.string a0_3] 50 (0,0)) (by (with_reducible repeat (first | refine q0i ?_ _ | refine q0j ?_ | refine q0h ?_ _));exact BK253.out) hb);have n1_ := Aside0.mk (q0l (by repeat (first | (with_reducible first | exact HB.out | apply q0b | apply q0a | apply q0c | refine q0k ?_ GE253.out) | exact HB.out)) hb);have n2_ := Aside0.mk (hbox);have n3_ := Aside0.mk ((by rw [hg];exact (q0g (by repeat (first | (with_reducible first | exact HB.out | apply q0b | apply q0a | apply q0c | refine q0k ?_ GE253.out) | exact HB.out))) : w.heap.size ≤ gb254));have n4_ := Aside0.mk ((by rw [hg];exact (q0g (by repeat (first | (with_reducible first | exact HB.out | apply q0b | apply q0a | apply q0c | refine q0k ?_ GE253.out) | exact HB.out))) : w.heap.size ≤ gb254));have n5_ := Aside0.mk ((by rw [hg];exact Nat.ne_of_lt (blk_lt (g := gb253) (o := .cells #[.int .i64 a0_0,.bool a0_1,.int .i64 a0_2,.string a0_3] 50 (0,0)) (by (with_reducible repeat (first | refine q0i ?_ _ | refine q0j ?_ | refine q0h ?_ _));exact BK253.out)) : gb253 ≠ gb254));have n6_ := Aside0.mk ((by rw [hg];exact Nat.ne_of_gt (blk_lt (g := gb253) (o := .cells #[.int .i64 a0_0,.bool a0_1,.int .i64 a0_2,.string a0_3] 50 (0,0)) (by (with_reducible repeat (first | refine q0i ?_ _ | refine q0j ?_ | refine q0h ?_ _));exact BK253.out)) : gb254 ≠ gb253));clear BK253;clear HB;have BK253 := n0_;have HB := n1_;have BK254 := n2_;have GW254 := n3_;have GE254 := n4_;have NB253_254 := n5_;have NB254_253 := n6_;clear n0_ n1_ n2_ n3_ n4_ n5_ n6_;clear hb hbox hg;have hnb48 := NB253_254.out;have hnc48 := NB254_253.out;have hcz49_0 : w47.cell? ⟨gb253,0,none⟩ = some (.int .i64 a0_0) := (q0e BK253.out 0).trans rfl;have hcz49_1 : w47.cell? ⟨gb253,1,none⟩ = some (.bool a0_1) := (q0e BK253.out 1).trans rfl;have hcz49_2 : w47.cell? ⟨gb253,2,none⟩ = some (.int .i64 a0_2) := (q0e BK253.out 2).trans rfl;have hcz49_3 : w47.cell? ⟨gb253,3,none⟩ = some (.string a0_3) := (q0e BK253.out 3).trans rfl;have hfz49_0 := q0d BK253.out 0;have hfz49_1 := q0d BK253.out 1;have hfz49_2 := q0d BK253.out 2;have hfz49_3 := q0d BK253.out 3;have hcz50_0 : w47.cell? ⟨gb254,0,none⟩ = some (.int .i64 a1_0) := (q0e BK254.out 0).trans rfl;have hcz50_1 : w47.cell? ⟨gb254,1,none⟩ = some (.bool a1_1) := (q0e BK254.out 1).trans rfl;have hcz50_2 : w47.cell? ⟨gb254,2,none⟩ = some (.int .i64 a1_2) := (q0e BK254.out 2).trans rfl;have hcz50_3 : w47.cell? ⟨gb254,3,none⟩ = some (.string a1_3) := (q0e BK254.out 3).trans rfl;have hfz50_0 := q0d BK254.out 0;have hfz50_1 := q0d BK254.out 1;have hfz50_2 := q0d BK254.out 2;have hfz50_3 := q0d BK254.out 3))
       go_ret
       exact ⟨by first | rfl | (simp [q0n,q0o] <;> rfl) | (simp [*,q0n,q0o] <;> rfl),by repeat (first | (with_reducible first | exact HB.out | apply q0b | apply q0a | apply q0c | refine q0k ?_ GE253.out | refine q0k ?_ GE254.out) | exact HB.out)⟩
    ·rw [if_neg c33] at H
     have c33b0 : (a0_0 == 2) = false := beq_eq_false_iff_ne.mpr c33
     have c33b1 : (a0_0 != 2) = true := bne_iff_ne.mpr c33
     by_cases c51 : a0_0 = 3
     ·rw [if_pos c51] at H
      have c51b0 : (a0_0 == 3) = true := beq_iff_eq.mpr c51
      have c51b1 : (a0_0 != 3) = false := bne_eq_false_iff_eq.mpr c51
      clear c51
      replace H := Option.bind_eq_some_iff.mp H
      obtain ⟨t255,A520,H⟩ := H
      replace H : (some t255) = some r := H
      have A52 := Aside0.mk A520
      clear A520
      obtain rfl := Option.some.inj H
      go_enter Try.func49,Try.ntmps49
      go_wp2_with (first | ((with_reducible refine q0s (N := 2) rfl ?_);refine q0r ?hg (N := 2) ?hd (cs := #[.int .i64 a0_0,.bool a0_1,.int .i64 a0_2,.string a0_3]) (t := 50) ?hr ?_;(case hd => rfl);(case hg => rfl);(case hr => first | (go_simp;done) | (go_simp;rfl));intro gb253 hg w53 hbox hb;have n0_ := Aside0.mk (q0l (by repeat (first | (with_reducible first | exact HB.out | apply q0b | apply q0a | apply q0c) | exact HB.out)) hb);have n1_ := Aside0.mk (hbox);have n2_ := Aside0.mk ((by rw [hg];exact (q0g (by repeat (first | (with_reducible first | exact HB.out | apply q0b | apply q0a | apply q0c) | exact HB.out))) : w.heap.size ≤ gb253));have n3_ := Aside0.mk ((by rw [hg];exact (q0g (by repeat (first | (with_reducible first | exact HB.out | apply q0b | apply q0a | apply q0c) | exact HB.out))) : w.heap.size ≤ gb253));clear HB;have HB := n0_;have BK253 := n1_;have GW253 := n2_;have GE253 := n3_;clear n0_ n1_ n2_ n3_;clear hb hbox hg) | ((with_reducible refine q0s (N := 3) rfl ?_);refine q0r ?hg (N := 3) ?hd (cs := #[.int .i64 a1_0,.bool a1_1,.int .i64 a1_2,.string a1_3]) (t := 50) ?hr ?_;(case hd => rfl);(case hg => rfl);(case hr => first | (go_simp;done) | (go_simp;rfl));intro gb254 hg w54 hbox hb;have n0_ := Aside0.mk (blk_below (g := gb253) (o := .cells #[.int .i64 a0_0,.bool a0_1,.int .i64 a0_2,.string a0_3] 50 (0,0)) (by (with_reducible repeat (first | refine q0i ?_ _ | refine q0j ?_ | refine q0h ?_ _));exact BK253.out) hb);have n1_ := Aside0.mk (q0l (by repeat (first | (with_reducible first | exact HB.out | apply q0b | apply q0a | apply q0c | refine q0k ?_ GE253.out) | exact HB.out)) hb);have n2_ := Aside0.mk (hbox);have n3_ := Aside0.mk ((by rw [hg];exact (q0g (by repeat (first | (with_reducible first | exact HB.out | apply q0b | apply q0a | apply q0c | refine q0k ?_ GE253.out) | exact HB.out))) : w.heap.size ≤ gb254));have n4_ := Aside0.mk ((by rw [hg];exact (q0g (by repeat (first | (with_reducible first | exact HB.out | apply q0b | apply q0a | apply q0c | refine q0k ?_ GE253.out) | exact HB.out))) : w.heap.size ≤ gb254));have n5_ := Aside0.mk ((by rw [hg];exact Nat.ne_of_lt (blk_lt (g := gb253) (o := .cells #[.int .i64 a0_0,.bool a0_1,.int .i64 a0_2,.string a0_3] 50 (0,0)) (by (with_reducible repeat (first | refine q0i ?_ _ | refine q0j ?_ | refine q0h ?_ _));exact BK253.out)) : gb253 ≠ gb254));have n6_ := Aside0.mk ((by rw [hg];exact Nat.ne_of_gt (blk_lt (g := gb253) (o := .cells #[.int .i64 a0_0,.bool a0_1,.int .i64 a0_2,.string a0_3] 50 (0,0)) (by (with_reducible repeat (first | refine q0i ?_ _ | refine q0j ?_ | refine q0h ?_ _));exact BK253.out)) : gb254 ≠ gb253));clear BK253;clear HB;have BK253 := n0_;have HB := n1_;have BK254 := n2_;have GW254 := n3_;have GE254 := n4_;have NB253_254 := n5_;have NB254_253 := n6_;clear n0_ n1_ n2_ n3_ n4_ n5_ n6_;clear hb hbox hg;have hnb55 := NB253_254.out;have hnc55 := NB254_253.out;have hcz56_0 : w54.cell? ⟨gb253,0,none⟩ = some (.int .i64 a0_0) := (q0e BK253.out 0).trans rfl;have hcz56_1 : w54.cell? ⟨gb253,1,none⟩ = some (.bool a0_1) := (q0e BK253.out 1).trans rfl;have hcz56_2 : w54.cell? ⟨gb253,2,none⟩ = some (.int .i64 a0_2) := (q0e BK253.out 2).trans rfl;have hcz56_3 : w54.cell? ⟨gb253,3,none⟩ = some (.string a0_3) := (q0e BK253.out 3).trans rfl;have hfz56_0 := q0d BK253.out 0;have hfz56_1 := q0d BK253.out 1;have hfz56_2 := q0d BK253.out 2;have hfz56_3 := q0d BK253.out 3;have hcz57_0 : w54.cell? ⟨gb254,0,none⟩ = some (.int .i64 a1_0) := (q0e BK254.out 0).trans rfl;have hcz57_1 : w54.cell? ⟨gb254,1,none⟩ = some (.bool a1_1) := (q0e BK254.out 1).trans rfl;have hcz57_2 : w54.cell? ⟨gb254,2,none⟩ = some (.int .i64 a1_2) := (q0e BK254.out 2).trans rfl;have hcz57_3 : w54.cell? ⟨gb254,3,none⟩ = some (.string a1_3) := (q0e BK254.out 3).trans rfl;have hfz57_0 := q0d BK254.out 0;have hfz57_1 := q0d BK254.out 1;have hfz57_2 := q0d BK254.out 2;have hfz57_3 := q0d BK254.out 3) | ((with_reducible refine q0t (f := 41) rfl ?_);refine goesL_ (some 45) rfl rfl Try.func41 (by kernel_rfl) rfl #[.string a0_3,.string a1_3] rfl (by (try simp only [List.map_toArray,List.map_cons,List.map_nil]);first | done | rfl | (simp only [List.length_drop,List.length_take];rfl)) ?_;(with_reducible refine (verdererref01_Text.calls k a0_3 a1_3 t255 _ A52.out).mono ?_);rintro e w' ⟨rfl,⟨nd,rfl⟩⟩;refine ⟨_,rfl,?_⟩))
      go_ret
      exact ⟨by first | rfl | (simp [q0n,q0o] <;> rfl) | (simp [*,q0n,q0o] <;> rfl),by repeat (first | (with_reducible first | exact HB.out | apply q0b | apply q0a | apply q0c | refine q0k ?_ GE253.out | refine q0k ?_ GE254.out) | exact HB.out)⟩
     ·rw [if_neg c51] at H
      have c51b0 : (a0_0 == 3) = false := beq_eq_false_iff_ne.mpr c51
      have c51b1 : (a0_0 != 3) = true := bne_iff_ne.mpr c51
      obtain rfl := Option.some.inj H
      go_enter Try.func49,Try.ntmps49
      go_wp2_with (first | ((with_reducible refine q0s (N := 2) rfl ?_);refine q0r ?hg (N := 2) ?hd (cs := #[.int .i64 a0_0,.bool a0_1,.int .i64 a0_2,.string a0_3]) (t := 50) ?hr ?_;(case hd => rfl);(case hg => rfl);(case hr => first | (go_simp;done) | (go_simp;rfl));intro gb253 hg w58 hbox hb;have n0_ := Aside0.mk (q0l (by repeat (first | (with_reducible first | exact HB.out | apply q0b | apply q0a | apply q0c) | exact HB.out)) hb);have n1_ := Aside0.mk (hbox);have n2_ := Aside0.mk ((by rw [hg];exact (q0g (by repeat (first | (with_reducible first | exact HB.out | apply q0b | apply q0a | apply q0c) | exact HB.out))) : w.heap.size ≤ gb253));have n3_ := Aside0.mk ((by rw [hg];exact (q0g (by repeat (first | (with_reducible first | exact HB.out | apply q0b | apply q0a | apply q0c) | exact HB.out))) : w.heap.size ≤ gb253));clear HB;have HB := n0_;have BK253 := n1_;have GW253 := n2_;have GE253 := n3_;clear n0_ n1_ n2_ n3_;clear hb hbox hg) | ((with_reducible refine q0s (N := 3) rfl ?_);refine q0r ?hg (N := 3) ?hd (cs := #[.int .i64 a1_0,.bool a1_1,.int .i64 a1_2,.string a1_3]) (t := 50) ?hr ?_;(case hd => rfl);(case hg => rfl);(case hr => first | (go_simp;done) | (go_simp;rfl));intro gb254 hg w59 hbox hb;have n0_ := Aside0.mk (blk_below (g := gb253) (o := .cells #[.int .i64 a0_0,.bool a0_1,.int .i64 a0_2,.string a0_3] 50 (0,0)) (by (with_reducible repeat (first | refine q0i ?_ _ | refine q0j ?_ | refine q0h ?_ _));exact BK253.out) hb);have n1_ := Aside0.mk (q0l (by repeat (first | (with_reducible first | exact HB.out | apply q0b | apply q0a | apply q0c | refine q0k ?_ GE253.out) | exact HB.out)) hb);have n2_ := Aside0.mk (hbox);have n3_ := Aside0.mk ((by rw [hg];exact (q0g (by repeat (first | (with_reducible first | exact HB.out | apply q0b | apply q0a | apply q0c | refine q0k ?_ GE253.out) | exact HB.out))) : w.heap.size ≤ gb254));have n4_ := Aside0.mk ((by rw [hg];exact (q0g (by repeat (first | (with_reducible first | exact HB.out | apply q0b | apply q0a | apply q0c | refine q0k ?_ GE253.out) | exact HB.out))) : w.heap.size ≤ gb254));have n5_ := Aside0.mk ((by rw [hg];exact Nat.ne_of_lt (blk_lt (g := gb253) (o := .cells #[.int .i64 a0_0,.bool a0_1,.int .i64 a0_2,.string a0_3] 50 (0,0)) (by (with_reducible repeat (first | refine q0i ?_ _ | refine q0j ?_ | refine q0h ?_ _));exact BK253.out)) : gb253 ≠ gb254));have n6_ := Aside0.mk ((by rw [hg];exact Nat.ne_of_gt (blk_lt (g := gb253) (o := .cells #[.int .i64 a0_0,.bool a0_1,.int .i64 a0_2,.string a0_3] 50 (0,0)) (by (with_reducible repeat (first | refine q0i ?_ _ | refine q0j ?_ | refine q0h ?_ _));exact BK253.out)) : gb254 ≠ gb253));clear BK253;clear HB;have BK253 := n0_;have HB := n1_;have BK254 := n2_;have GW254 := n3_;have GE254 := n4_;have NB253_254 := n5_;have NB254_253 := n6_;clear n0_ n1_ n2_ n3_ n4_ n5_ n6_;clear hb hbox hg;have hnb60 := NB253_254.out;have hnc60 := NB254_253.out;have hcz61_0 : w59.cell? ⟨gb253,0,none⟩ = some (.int .i64 a0_0) := (q0e BK253.out 0).trans rfl;have hcz61_1 : w59.cell? ⟨gb253,1,none⟩ = some (.bool a0_1) := (q0e BK253.out 1).trans rfl;have hcz61_2 : w59.cell? ⟨gb253,2,none⟩ = some (.int .i64 a0_2) := (q0e BK253.out 2).trans rfl;have hcz61_3 : w59.cell? ⟨gb253,3,none⟩ = some (.string a0_3) := (q0e BK253.out 3).trans rfl;have hfz61_0 := q0d BK253.out 0;have hfz61_1 := q0d BK253.out 1;have hfz61_2 := q0d BK253.out 2;have hfz61_3 := q0d BK253.out 3;have hcz62_0 : w59.cell? ⟨gb254,0,none⟩ = some (.int .i64 a1_0) := (q0e BK254.out 0).trans rfl;have hcz62_1 : w59.cell? ⟨gb254,1,none⟩ = some (.bool a1_1) := (q0e BK254.out 1).trans rfl;have hcz62_2 : w59.cell? ⟨gb254,2,none⟩ = some (.int .i64 a1_2) := (q0e BK254.out 2).trans rfl;have hcz62_3 : w59.cell? ⟨gb254,3,none⟩ = some (.string a1_3) := (q0e BK254.out 3).trans rfl;have hfz62_0 := q0d BK254.out 0;have hfz62_1 := q0d BK254.out 1;have hfz62_2 := q0d BK254.out 2;have hfz62_3 := q0d BK254.out 3))
      go_ret
      exact ⟨by first | rfl | (simp [q0n,q0o] <;> rfl) | (simp [*,q0n,q0o] <;> rfl),by repeat (first | (with_reducible first | exact HB.out | apply q0b | apply q0a | apply q0c | refine q0k ?_ GE253.out | refine q0k ?_ GE254.out) | exact HB.out)⟩
end Go.Proofs.Ytfoaeigoajooeaa.Z
end
section
namespace Go.Proofs.Ytfoaeigoajooeaa.Z
open Go.RowKit Go.Proofs.YtfoaeigoajooeaaW.PrintWords Go.Proofs.YtfoaeigoajooeaaW.PrintLast Go.Proofs.YtfoaeigoajooeaaW.PrintMore
attribute [local go_sem] max2_int min2_int max_two min_two max_three min_three max_four min_four
set_option linter.unusedVariables false
set_option linter.unusedSimpArgs false
mutual
def verdererref02_Compare.l0 : Nat → List (S50) → List (S50) → Int → Option (Int)
 | 0,_,_,_ => none
 | k + 1,x0,x1,x5 => if x5 < (x0.length : Int) then (verdererref02_Compare.j1 k x0 x1 x5 (decide (x5 < (x1.length : Int)))) else (verdererref02_Compare.j1 k x0 x1 x5 false)
def verdererref02_Compare.j1 : Nat → List (S50) → List (S50) → Int → Bool → Option (Int)
 | 0,_,_,_,_ => none
 | k + 1,x0,x1,x5,x16 => if x16 = true then (if 0 ≤ x5 then (if x5 < (x0.length : Int) then (if x5 < (x1.length : Int) then ((verdererref01_Compare.f k ((q0f x0 x5).f0) ((q0f x0 x5).f1) ((q0f x0 x5).f2) ((q0f x0 x5).f3) ((q0f x1 x5).f0) ((q0f x1 x5).f1) ((q0f x1 x5).f2) ((q0f x1 x5).f3)).bind fun t301 => (if t301 = 0 then (verdererref02_Compare.l0 k x0 x1 (wrap64 (x5 + 1))) else (some t301))) else (none)) else (none)) else (none)) else (if (x0.length : Int) < (x1.length : Int) then (some (-1)) else (if (x0.length : Int) > (x1.length : Int) then (some 1) else (some 0)))
end
def verdererref02_Compare.f (k : Nat) (l0 : List (S50)) (l1 : List (S50)) : Option (Int) := verdererref02_Compare.l0 k l0 l1 0
theorem verdererref02_Compare.mono_l : ∀ k,(∀ y0 y1 y2,LeO (verdererref02_Compare.l0 k y0 y1 y2) (verdererref02_Compare.l0 (k + 1) y0 y1 y2)) ∧ (∀ y0 y1 y2 y3,LeO (verdererref02_Compare.j1 k y0 y1 y2 y3) (verdererref02_Compare.j1 (k + 1) y0 y1 y2 y3))
 | 0 => ⟨fun _ _ _ r h => by simp [verdererref02_Compare.l0] at h,fun _ _ _ _ r h => by simp [verdererref02_Compare.j1] at h⟩
 | k + 1 => by
  obtain ⟨ih0,ih1⟩ := verdererref02_Compare.mono_l k
  refine ⟨?_,?_⟩
  ·intro y0 y1 y2
   unfold verdererref02_Compare.l0
   repeat' first
   | (with_reducible exact ih0 _ _ _)
   | (with_reducible exact ih1 _ _ _ _)
   | (with_reducible exact verdererref01_Compare.mono _ _ _ _ _ _ _ _ _)
   | (with_reducible exact LeO.refl _)
   | (with_reducible exact LeO.none _)
   | (with_reducible refine LeO.ite ?_ ?_)
   | (with_reducible refine LeO.bind ?_ (fun _ => ?_))
   | exact ih0 _ _ _
   | exact ih1 _ _ _ _
   | exact verdererref01_Compare.mono _ _ _ _ _ _ _ _ _
   | exact LeO.none _
   | refine LeO.ite ?_ ?_
   | refine LeO.bind ?_ (fun _ => ?_)
  ·intro y0 y1 y2 y3
   unfold verdererref02_Compare.j1
   repeat' first
   | (with_reducible exact ih0 _ _ _)
   | (with_reducible exact ih1 _ _ _ _)
   | (with_reducible exact verdererref01_Compare.mono _ _ _ _ _ _ _ _ _)
   | (with_reducible exact LeO.refl _)
   | (with_reducible exact LeO.none _)
   | (with_reducible refine LeO.ite ?_ ?_)
   | (with_reducible refine LeO.bind ?_ (fun _ => ?_))
   | exact ih0 _ _ _
   | exact ih1 _ _ _ _
   | exact verdererref01_Compare.mono _ _ _ _ _ _ _ _ _
   | exact LeO.none _
   | refine LeO.ite ?_ ?_
   | refine LeO.bind ?_ (fun _ => ?_)
theorem verdererref02_Compare.mono : ∀ a0 a1 k,LeO (verdererref02_Compare.f k a0 a1) (verdererref02_Compare.f (k + 1) a0 a1) := by
 intro a0 a1 k
 obtain ⟨ih0,ih1⟩ := verdererref02_Compare.mono_l k
 unfold verdererref02_Compare.f
 repeat' first
   | (with_reducible exact ih0 _ _ _)
   | (with_reducible exact ih1 _ _ _ _)
   | (with_reducible exact verdererref01_Compare.mono _ _ _ _ _ _ _ _ _)
   | (with_reducible exact LeO.refl _)
   | (with_reducible exact LeO.none _)
   | (with_reducible refine LeO.ite ?_ ?_)
   | (with_reducible refine LeO.bind ?_ (fun _ => ?_))
   | exact ih0 _ _ _
   | exact ih1 _ _ _ _
   | exact verdererref01_Compare.mono _ _ _ _ _ _ _ _ _
   | exact LeO.none _
   | refine LeO.ite ?_ ?_
   | refine LeO.bind ?_ (fun _ => ?_)
def verdererref02_Compare.T4 : Bool × List (List Nat × List Nat) := (true,[([],[]),([],[]),([0,1],[0,1]),([2],[2]),([],[]),([],[]),([4,5],[4,5]),([6],[6]),([3,7],[3,7]),([8,8,0,1,2,3,4,5,6,7,8],[8])])
def verdererref02_Compare.B4 : List Nat := [0,0,3,7,0,0,48,112,255,511]
theorem verdererref02_Compare.tab4 : rtab .any (opsOf Try.f22 4) = verdererref02_Compare.T4 := by kernel_rfl
theorem verdererref02_Compare.bits4 : waitsOk verdererref02_Compare.T4.2 verdererref02_Compare.B4 = true := by kernel_rfl
set_option maxHeartbeats 8000000 in
set_option maxRecDepth 100000 in
theorem verdererref02_Compare.calls (k : Nat) (A0 : Option Addr) (c0 : Nat) (l0 : List (S50)) (A1 : Option Addr) (c1 : Nat) (l1 : List (S50)) (r : Int) (w : World) (hr0 : Kd.C k50 w A0 l0.length l0) (hc0 : l0.length ≤ c0) (hr1 : Kd.C k50 w A1 l1.length l1) (hc1 : l1.length ≤ c1) (h : verdererref02_Compare.f k l0 l1 = some r) :
  Calls Try.prog 22 #[.slice A0 l0.length c0,.slice A1 l1.length c1] w fun e w' => e = .returned (.int .i64 r) ∧ Below w.heap.size w w' := by
 have hu50 := Try.underlying50
 have HR0 := Aside0.mk hr0
 have HC0 := Aside0.mk hc0
 clear hr0 hc0
 have HR1 := Aside0.mk hr1
 have HC1 := Aside0.mk hc1
 clear hr1 hc1
 have HB := Aside0.mk (Below.refl w.heap.size w)
 have H : (verdererref02_Compare.l0 k l0 l1 0) = some r := h
 clear h
 have H' := Aside0.mk H
 clear H
 go_enter Try.func22,Try.ntmps22
 go_wp2
 go_loopg [5] k (fun kq v5 w' => ∃ (x5_1 : Int),v5 = .int .i64 x5_1 ∧ Aside0 (verdererref02_Compare.l0 kq l0 l1 x5_1 = some r) ∧ Aside0 (kq ≤ k) ∧ Aside0 (Below w.heap.size w w'))
 case atStart => exact ⟨(0),(by first | rfl | (simp;done) | (simp [*];done)),H',⟨Nat.le_refl _⟩,⟨by repeat (first | (with_reducible first | exact HB.out | apply q0b | apply q0a | apply q0c) | exact HB.out)⟩⟩
 case round =>
  clear H'
  try clear c1
  try clear c2
  try clear p2
  obtain ⟨x5_1,rfl,HA,HK1,HB⟩ := hrel
  cases gk with
  | zero => exact absurd HA.out (by simp [verdererref02_Compare.l0])
  | succ k1 =>
   have H := HA.out
   clear HA
   simp only [verdererref02_Compare.l0] at H
   have HC3 := Aside0.mk H
   clear H
   go_upto_region 2 with (fail)
   go_cut [16] (fun v16 wc => ∃ (kq : Nat) (x16_2 : Bool),v16 = .bool x16_2 ∧ Aside0 (verdererref02_Compare.j1 kq l0 l1 x5_1 x16_2 = some r) ∧ Aside0 (kq ≤ k1) ∧ Aside0 (Below w.heap.size w wc))
   case first =>
    have H := HC3.out
    clear HC3
    by_cases c4 : x5_1 < (l0.length : Int)
    ·rw [if_pos c4] at H
     have c4b0 : decide (x5_1 < (l0.length : Int)) = true := decide_eq_true c4
     clear c4
     (first | rw [c4b0] | (simp only [i64_w,i32_w];rw [c4b0]) | skip)
     have H' := Aside0.mk H
     clear H
     go_wp2
     go_meet
     case rel => exact ⟨_,(decide (x5_1 < (l1.length : Int))),(by first | rfl | (simp;done) | (simp [*];done)),H',⟨by have := HK1.out;first | omega | exact Nat.le_refl _⟩,⟨by repeat (first | (with_reducible first | exact HB.out | apply q0b | apply q0a | apply q0c) | exact HB.out)⟩⟩
    ·rw [if_neg c4] at H
     have c4b0 : decide (x5_1 < (l0.length : Int)) = false := decide_eq_false c4
     clear c4
     (first | rw [c4b0] | (simp only [i64_w,i32_w];rw [c4b0]) | skip)
     have H' := Aside0.mk H
     clear H
     go_wp2
     go_meet
     case rel => exact ⟨_,(false),(by first | rfl | (simp;done) | (simp [*];done)),H',⟨by have := HK1.out;first | omega | exact Nat.le_refl _⟩,⟨by repeat (first | (with_reducible first | exact HB.out | apply q0b | apply q0a | apply q0c) | exact HB.out)⟩⟩
   case rest =>
    clear HC3
    try clear c1
    try clear c2
    try clear p2
    try clear c4
    try clear c4b0
    try clear p2
    obtain ⟨kq,x16_2,rfl,HA,HJ2,HB⟩ := hcut
    cases kq with
    | zero => exact absurd HA.out (by simp [verdererref02_Compare.j1])
    | succ kj2 =>
     have H := HA.out
     clear HA
     simp only [verdererref02_Compare.j1] at H
     by_cases c5 : x16_2 = true
     ·subst c5
      have H1 : (if 0 ≤ x5_1 then (if x5_1 < (l0.length : Int) then (if x5_1 < (l1.length : Int) then ((verdererref01_Compare.f kj2 ((q0f l0 x5_1).f0) ((q0f l0 x5_1).f1) ((q0f l0 x5_1).f2) ((q0f l0 x5_1).f3) ((q0f l1 x5_1).f0) ((q0f l1 x5_1).f1) ((q0f l1 x5_1).f2) ((q0f l1 x5_1).f3)).bind fun t301 => (if t301 = 0 then (verdererref02_Compare.l0 kj2 l0 l1 (wrap64 (x5_1 + 1))) else (some t301))) else (none)) else (none)) else (none)) = some r := by rw [if_pos rfl] at H;exact H
      clear H
      have H := H1
      clear H1
      by_cases c6 : 0 ≤ x5_1
      ·rw [if_pos c6] at H
       have c6b0 : decide (0 ≤ x5_1) = true := decide_eq_true c6
       clear c6
       by_cases c7 : x5_1 < (l0.length : Int)
       ·rw [if_pos c7] at H
        have c7b0 : decide (x5_1 < (l0.length : Int)) = true := decide_eq_true c7
        clear c7
        by_cases c8 : x5_1 < (l1.length : Int)
        ·rw [if_pos c8] at H
         have c8b0 : decide (x5_1 < (l1.length : Int)) = true := decide_eq_true c8
         clear c8
         replace H := Option.bind_eq_some_iff.mp H
         obtain ⟨t301,A90,H⟩ := H
         replace H : (if t301 = 0 then (verdererref02_Compare.l0 kj2 l0 l1 (wrap64 (x5_1 + 1))) else (some t301)) = some r := H
         have A9 := Aside0.mk A90
         clear A90
         by_cases c10 : t301 = 0
         ·rw [if_pos c10] at H
          have c10b0 : (t301 == 0) = true := beq_iff_eq.mpr c10
          have c10b1 : (t301 != 0) = false := bne_eq_false_iff_eq.mpr c10
          clear c10
          have H' := Aside0.mk H
          clear H
          try go_wp2
          have n0_ := Aside0.mk (q0c HB.out)
          clear HB
          have HB := n0_
          clear n0_
          have p299 : 0 ≤ (x5_1 : Int) := of_decide_eq_true (by first | (with_reducible assumption) | assumption)
          have q299 : x5_1 < (l0.length : Int) := of_decide_eq_true (by first | (with_reducible assumption) | assumption)
          obtain ⟨ad299,e299,hx299_0,hx299_1,hx299_2,hx299_3⟩ := at_T50 HR0.out x5_1 p299 q299
          have hw299_3 := hx299_3
          have hw299_2 := hx299_2
          have hw299_1 := hx299_1
          have hw299_0 := hx299_0
          cases e299
          replace hx299_0 := (HB.out.cell (World.block_lt_of_cell? w _ hx299_0)).trans hx299_0
          replace hx299_1 := (HB.out.cell (World.block_lt_of_cell? w _ hx299_1)).trans hx299_1
          replace hx299_2 := (HB.out.cell (World.block_lt_of_cell? w _ hx299_2)).trans hx299_2
          replace hx299_3 := (HB.out.cell (World.block_lt_of_cell? w _ hx299_3)).trans hx299_3
          replace p299 := eq_true p299
          replace q299 := eq_true q299
          have p300 : 0 ≤ (x5_1 : Int) := of_decide_eq_true (by first | (with_reducible assumption) | assumption)
          have q300 : x5_1 < (l1.length : Int) := of_decide_eq_true (by first | (with_reducible assumption) | assumption)
          obtain ⟨ad300,e300,hx300_0,hx300_1,hx300_2,hx300_3⟩ := at_T50 HR1.out x5_1 p300 q300
          have hw300_3 := hx300_3
          have hw300_2 := hx300_2
          have hw300_1 := hx300_1
          have hw300_0 := hx300_0
          cases e300
          replace hx300_0 := (HB.out.cell (World.block_lt_of_cell? w _ hx300_0)).trans hx300_0
          replace hx300_1 := (HB.out.cell (World.block_lt_of_cell? w _ hx300_1)).trans hx300_1
          replace hx300_2 := (HB.out.cell (World.block_lt_of_cell? w _ hx300_2)).trans hx300_2
          replace hx300_3 := (HB.out.cell (World.block_lt_of_cell? w _ hx300_3)).trans hx300_3
          replace p300 := eq_true p300
          replace q300 := eq_true q300
          refine start_ (n := 10) (S := fun w' => w'.cell? (ad299.add ((x5_1).toNat * 4)) = some (.int .i64 ((q0f l0 x5_1).f0)) ∧ w'.cell? ⟨(ad299.add ((x5_1).toNat * 4)).block,(ad299.add ((x5_1).toNat * 4)).off + 1,none⟩ = some (.bool ((q0f l0 x5_1).f1)) ∧ w'.cell? ⟨(ad299.add ((x5_1).toNat * 4)).block,(ad299.add ((x5_1).toNat * 4)).off + 2,none⟩ = some (.int .i64 ((q0f l0 x5_1).f2)) ∧ w'.cell? ⟨(ad299.add ((x5_1).toNat * 4)).block,(ad299.add ((x5_1).toNat * 4)).off + 3,none⟩ = some (.string ((q0f l0 x5_1).f3)) ∧ w'.cell? (ad300.add ((x5_1).toNat * 4)) = some (.int .i64 ((q0f l1 x5_1).f0)) ∧ w'.cell? ⟨(ad300.add ((x5_1).toNat * 4)).block,(ad300.add ((x5_1).toNat * 4)).off + 1,none⟩ = some (.bool ((q0f l1 x5_1).f1)) ∧ w'.cell? ⟨(ad300.add ((x5_1).toNat * 4)).block,(ad300.add ((x5_1).toNat * 4)).off + 2,none⟩ = some (.int .i64 ((q0f l1 x5_1).f2)) ∧ w'.cell? ⟨(ad300.add ((x5_1).toNat * 4)).block,(ad300.add ((x5_1).toNat * 4)).off + 3,none⟩ = some (.string ((q0f l1 x5_1).f3))) (ds := []) #[false,false,false,false,false,false,false,false,false,false] (by kernel_rfl) rfl rfl ⟨((HB.out.cell (World.block_lt_of_cell? w _ hw299_0)).trans hw299_0),((HB.out.cell (World.block_lt_of_cell? w _ hw299_1)).trans hw299_1),((HB.out.cell (World.block_lt_of_cell? w _ hw299_2)).trans hw299_2),((HB.out.cell (World.block_lt_of_cell? w _ hw299_3)).trans hw299_3),((HB.out.cell (World.block_lt_of_cell? w _ hw300_0)).trans hw300_0),((HB.out.cell (World.block_lt_of_cell? w _ hw300_1)).trans hw300_1),((HB.out.cell (World.block_lt_of_cell? w _ hw300_2)).trans hw300_2),((HB.out.cell (World.block_lt_of_cell? w _ hw300_3)).trans hw300_3)⟩ (fun hHeld => ?_);refine with_tabW verdererref02_Compare.tab4 verdererref02_Compare.bits4 (fun HT_ HW_ => ?_)
          generalize wc.drew = w11 at HB hx299_0 hx299_1 hx299_2 hx299_3 hx300_0 hx300_1 hx300_2 hx300_3 hHeld ⊢
          refine pure_ (i := 0) (N := some 19) (v := ?_) (a' := ?_) #[true,false,false,false,false,false,false,false,false,false] rfl rfl (q0m HT_.out (by kernel_rfl)) (fun _ _ _ h => h) (Or.inl ⟨by rfl,?_⟩) ?_ ?_
          rotate_left
          ·intro w'
           go_simp
           with_reducible rfl
          rotate_left
          ·simp only [Act.put,zA,zB,zC,i64_w,i32_w]
           rfl
          refine pure_ (i := 1) (N := some 20) (v := ?_) (a' := ?_) #[true,true,false,false,false,false,false,false,false,false] rfl rfl (q0m HT_.out (by kernel_rfl)) (fun _ _ _ h => h) (Or.inl ⟨by rfl,?_⟩) ?_ ?_
          rotate_left
          ·intro w'
           go_simp
           with_reducible rfl
          rotate_left
          ·simp only [Act.put,zA,zB,zC,i64_w,i32_w]
           rfl
          refine pure_ (i := 2) (N := some 21) (v := ?_) (a' := ?_) #[true,true,true,false,false,false,false,false,false,false] rfl rfl (q0m HT_.out (by kernel_rfl)) (fun _ _ _ h => h) (Or.inl ⟨by rfl,?_⟩) ?_ ?_
          rotate_left
          ·intro w'
           go_simp
           with_reducible rfl
          rotate_left
          ·simp only [Act.put,zA,zB,zC,i64_w,i32_w]
           rfl
          refine pure_ (i := 4) (N := some 23) (v := ?_) (a' := ?_) #[true,true,true,false,true,false,false,false,false,false] rfl rfl (q0m HT_.out (by kernel_rfl)) (fun _ _ _ h => h) (Or.inl ⟨by rfl,?_⟩) ?_ ?_
          rotate_left
          ·intro w'
           go_simp
           with_reducible rfl
          rotate_left
          ·simp only [Act.put,zA,zB,zC,i64_w,i32_w]
           rfl
          refine pure_ (i := 5) (N := some 24) (v := ?_) (a' := ?_) #[true,true,true,false,true,true,false,false,false,false] rfl rfl (q0m HT_.out (by kernel_rfl)) (fun _ _ _ h => h) (Or.inl ⟨by rfl,?_⟩) ?_ ?_
          rotate_left
          ·intro w'
           go_simp
           with_reducible rfl
          rotate_left
          ·simp only [Act.put,zA,zB,zC,i64_w,i32_w]
           rfl
          refine pure_ (i := 6) (N := some 25) (v := ?_) (a' := ?_) #[true,true,true,false,true,true,true,false,false,false] rfl rfl (q0m HT_.out (by kernel_rfl)) (fun _ _ _ h => h) (Or.inl ⟨by rfl,?_⟩) ?_ ?_
          rotate_left
          ·intro w'
           go_simp
           with_reducible rfl
          rotate_left
          ·simp only [Act.put,zA,zB,zC,i64_w,i32_w]
           rfl
          refine take_ (i := 3) (N := some 22) (v := ?_) (a' := ?_) #[true,true,true,true,true,true,true,false,false,false] rfl rfl (take_ofW HT_.out HW_.out (by kernel_rfl)) (fun _ _ _ h => h) (Or.inl ⟨by rfl,?_⟩) hHeld ?_ ?_
          rotate_left
          ·rintro w' ⟨s0,s1,s2,s3,s4,s5,s6,s7⟩
           go_simp
           with_reducible rfl
          rotate_left
          ·simp only [Act.put,zA,zB,zC,i64_w,i32_w]
           rfl
          refine take_ (i := 7) (N := some 26) (v := ?_) (a' := ?_) #[true,true,true,true,true,true,true,true,false,false] rfl rfl (take_ofW HT_.out HW_.out (by kernel_rfl)) (fun _ _ _ h => h) (Or.inl ⟨by rfl,?_⟩) hHeld ?_ ?_
          rotate_left
          ·rintro w' ⟨s0,s1,s2,s3,s4,s5,s6,s7⟩
           go_simp
           with_reducible rfl
          rotate_left
          ·simp only [Act.put,zA,zB,zC,i64_w,i32_w]
           rfl
          refine one_ (i := 8) (N := some 27) #[true,true,true,true,true,true,true,true,true,false] rfl rfl (one_of HT_.out (by kernel_rfl)) (by decide) (fun K hK => ?_)
          refine goes_ Try.func49 (by kernel_rfl) rfl #[.agg #[.int .i64 ((q0f l0 x5_1).f0),.bool ((q0f l0 x5_1).f1),.int .i64 ((q0f l0 x5_1).f2),.string ((q0f l0 x5_1).f3)],.agg #[.int .i64 ((q0f l1 x5_1).f0),.bool ((q0f l1 x5_1).f1),.int .i64 ((q0f l1 x5_1).f2),.string ((q0f l1 x5_1).f3)]] (by rfl) rfl rfl (by (try simp only [List.map_toArray,List.map_cons,List.map_nil]);first | done | rfl | (simp only [List.length_drop,List.length_take];rfl)) ?_
          with_reducible refine (verdererref01_Compare.calls kj2 ((q0f l0 x5_1).f0) ((q0f l0 x5_1).f1) ((q0f l0 x5_1).f2) ((q0f l0 x5_1).f3) ((q0f l1 x5_1).f0) ((q0f l1 x5_1).f1) ((q0f l1 x5_1).f2) ((q0f l1 x5_1).f3) t301 _ A9.out).mono ?_
          rintro e w12 ⟨rfl,hb⟩
          refine ⟨_,rfl,?_⟩
          have n0_ := Aside0.mk (q0l (by repeat (first | (with_reducible first | exact HB.out | apply q0b | apply q0a | apply q0c) | exact HB.out)) hb)
          clear HB
          have HB := n0_
          clear n0_
          (try clear hb)
          (try clear hb2)
          (try clear hk)
          (try clear hi)
          refine hK.out _ _ ⟨((HB.out.cell (World.block_lt_of_cell? w _ hw299_0)).trans hw299_0),((HB.out.cell (World.block_lt_of_cell? w _ hw299_1)).trans hw299_1),((HB.out.cell (World.block_lt_of_cell? w _ hw299_2)).trans hw299_2),((HB.out.cell (World.block_lt_of_cell? w _ hw299_3)).trans hw299_3),((HB.out.cell (World.block_lt_of_cell? w _ hw300_0)).trans hw300_0),((HB.out.cell (World.block_lt_of_cell? w _ hw300_1)).trans hw300_1),((HB.out.cell (World.block_lt_of_cell? w _ hw300_2)).trans hw300_2),((HB.out.cell (World.block_lt_of_cell? w _ hw300_3)).trans hw300_3)⟩ (fun hHeld => ?_)
          clear hK K
          refine norm_ (a' := ?_) ?_ ?_
          rotate_left
          ·show Act.put _ (some 27) _ = _
           simp only [Act.put,zA,zB,zC,i64_w,i32_w]
           rfl
          refine pure_ (i := 9) (N := some 6) (v := ?_) (a' := ?_) #[true,true,true,true,true,true,true,true,true,true] rfl rfl (q0m HT_.out (by kernel_rfl)) (fun _ _ _ h => h) (Or.inl ⟨by rfl,?_⟩) ?_ ?_
          rotate_left
          ·intro w'
           go_simp
           with_reducible rfl
          rotate_left
          ·simp only [Act.put,zA,zB,zC,i64_w,i32_w]
           rfl
          refine done_ (done_of HT_.out (by kernel_rfl)) ?_
          try go_wp2
          go_roundg kj2
          case measure => have := HK1.out;have := HJ2.out;omega
          case rel => exact ⟨(wrap64 (x5_1 + 1)),(by first | rfl | (simp;done) | (simp [*];done)),H',⟨by have := HK1.out;have := HJ2.out;omega⟩,⟨by repeat (first | (with_reducible first | exact HB.out | apply q0b | apply q0a | apply q0c) | exact HB.out)⟩⟩
         ·rw [if_neg c10] at H
          have c10b0 : (t301 == 0) = false := beq_eq_false_iff_ne.mpr c10
          have c10b1 : (t301 != 0) = true := bne_iff_ne.mpr c10
          obtain rfl := Option.some.inj H
          try go_wp2
          have n0_ := Aside0.mk (q0c HB.out)
          clear HB
          have HB := n0_
          clear n0_
          have p299 : 0 ≤ (x5_1 : Int) := of_decide_eq_true (by first | (with_reducible assumption) | assumption)
          have q299 : x5_1 < (l0.length : Int) := of_decide_eq_true (by first | (with_reducible assumption) | assumption)
          obtain ⟨ad299,e299,hx299_0,hx299_1,hx299_2,hx299_3⟩ := at_T50 HR0.out x5_1 p299 q299
          have hw299_3 := hx299_3
          have hw299_2 := hx299_2
          have hw299_1 := hx299_1
          have hw299_0 := hx299_0
          cases e299
          replace hx299_0 := (HB.out.cell (World.block_lt_of_cell? w _ hx299_0)).trans hx299_0
          replace hx299_1 := (HB.out.cell (World.block_lt_of_cell? w _ hx299_1)).trans hx299_1
          replace hx299_2 := (HB.out.cell (World.block_lt_of_cell? w _ hx299_2)).trans hx299_2
          replace hx299_3 := (HB.out.cell (World.block_lt_of_cell? w _ hx299_3)).trans hx299_3
          replace p299 := eq_true p299
          replace q299 := eq_true q299
          have p300 : 0 ≤ (x5_1 : Int) := of_decide_eq_true (by first | (with_reducible assumption) | assumption)
          have q300 : x5_1 < (l1.length : Int) := of_decide_eq_true (by first | (with_reducible assumption) | assumption)
          obtain ⟨ad300,e300,hx300_0,hx300_1,hx300_2,hx300_3⟩ := at_T50 HR1.out x5_1 p300 q300
          have hw300_3 := hx300_3
          have hw300_2 := hx300_2
          have hw300_1 := hx300_1
          have hw300_0 := hx300_0
          cases e300
          replace hx300_0 := (HB.out.cell (World.block_lt_of_cell? w _ hx300_0)).trans hx300_0
          replace hx300_1 := (HB.out.cell (World.block_lt_of_cell? w _ hx300_1)).trans hx300_1
          replace hx300_2 := (HB.out.cell (World.block_lt_of_cell? w _ hx300_2)).trans hx300_2
          replace hx300_3 := (HB.out.cell (World.block_lt_of_cell? w _ hx300_3)).trans hx300_3
          replace p300 := eq_true p300
          replace q300 := eq_true q300
          refine start_ (n := 10) (S := fun w' => w'.cell? (ad299.add ((x5_1).toNat * 4)) = some (.int .i64 ((q0f l0 x5_1).f0)) ∧ w'.cell? ⟨(ad299.add ((x5_1).toNat * 4)).block,(ad299.add ((x5_1).toNat * 4)).off + 1,none⟩ = some (.bool ((q0f l0 x5_1).f1)) ∧ w'.cell? ⟨(ad299.add ((x5_1).toNat * 4)).block,(ad299.add ((x5_1).toNat * 4)).off + 2,none⟩ = some (.int .i64 ((q0f l0 x5_1).f2)) ∧ w'.cell? ⟨(ad299.add ((x5_1).toNat * 4)).block,(ad299.add ((x5_1).toNat * 4)).off + 3,none⟩ = some (.string ((q0f l0 x5_1).f3)) ∧ w'.cell? (ad300.add ((x5_1).toNat * 4)) = some (.int .i64 ((q0f l1 x5_1).f0)) ∧ w'.cell? ⟨(ad300.add ((x5_1).toNat * 4)).block,(ad300.add ((x5_1).toNat * 4)).off + 1,none⟩ = some (.bool ((q0f l1 x5_1).f1)) ∧ w'.cell? ⟨(ad300.add ((x5_1).toNat * 4)).block,(ad300.add ((x5_1).toNat * 4)).off + 2,none⟩ = some (.int .i64 ((q0f l1 x5_1).f2)) ∧ w'.cell? ⟨(ad300.add ((x5_1).toNat * 4)).block,(ad300.add ((x5_1).toNat * 4)).off + 3,none⟩ = some (.string ((q0f l1 x5_1).f3))) (ds := []) #[false,false,false,false,false,false,false,false,false,false] (by kernel_rfl) rfl rfl ⟨((HB.out.cell (World.block_lt_of_cell? w _ hw299_0)).trans hw299_0),((HB.out.cell (World.block_lt_of_cell? w _ hw299_1)).trans hw299_1),((HB.out.cell (World.block_lt_of_cell? w _ hw299_2)).trans hw299_2),((HB.out.cell (World.block_lt_of_cell? w _ hw299_3)).trans hw299_3),((HB.out.cell (World.block_lt_of_cell? w _ hw300_0)).trans hw300_0),((HB.out.cell (World.block_lt_of_cell? w _ hw300_1)).trans hw300_1),((HB.out.cell (World.block_lt_of_cell? w _ hw300_2)).trans hw300_2),((HB.out.cell (World.block_lt_of_cell? w _ hw300_3)).trans hw300_3)⟩ (fun hHeld => ?_);refine with_tabW verdererref02_Compare.tab4 verdererref02_Compare.bits4 (fun HT_ HW_ => ?_)
          generalize wc.drew = w13 at HB hx299_0 hx299_1 hx299_2 hx299_3 hx300_0 hx300_1 hx300_2 hx300_3 hHeld ⊢
          refine pure_ (i := 0) (N := some 19) (v := ?_) (a' := ?_) #[true,false,false,false,false,false,false,false,false,false] rfl rfl (q0m HT_.out (by kernel_rfl)) (fun _ _ _ h => h) (Or.inl ⟨by rfl,?_⟩) ?_ ?_
          rotate_left
          ·intro w'
           go_simp
           with_reducible rfl
          rotate_left
          ·simp only [Act.put,zA,zB,zC,i64_w,i32_w]
           rfl
          refine pure_ (i := 1) (N := some 20) (v := ?_) (a' := ?_) #[true,true,false,false,false,false,false,false,false,false] rfl rfl (q0m HT_.out (by kernel_rfl)) (fun _ _ _ h => h) (Or.inl ⟨by rfl,?_⟩) ?_ ?_
          rotate_left
          ·intro w'
           go_simp
           with_reducible rfl
          rotate_left
          ·simp only [Act.put,zA,zB,zC,i64_w,i32_w]
           rfl
          refine pure_ (i := 2) (N := some 21) (v := ?_) (a' := ?_) #[true,true,true,false,false,false,false,false,false,false] rfl rfl (q0m HT_.out (by kernel_rfl)) (fun _ _ _ h => h) (Or.inl ⟨by rfl,?_⟩) ?_ ?_
          rotate_left
          ·intro w'
           go_simp
           with_reducible rfl
          rotate_left
          ·simp only [Act.put,zA,zB,zC,i64_w,i32_w]
           rfl
          refine pure_ (i := 4) (N := some 23) (v := ?_) (a' := ?_) #[true,true,true,false,true,false,false,false,false,false] rfl rfl (q0m HT_.out (by kernel_rfl)) (fun _ _ _ h => h) (Or.inl ⟨by rfl,?_⟩) ?_ ?_
          rotate_left
          ·intro w'
           go_simp
           with_reducible rfl
          rotate_left
          ·simp only [Act.put,zA,zB,zC,i64_w,i32_w]
           rfl
          refine pure_ (i := 5) (N := some 24) (v := ?_) (a' := ?_) #[true,true,true,false,true,true,false,false,false,false] rfl rfl (q0m HT_.out (by kernel_rfl)) (fun _ _ _ h => h) (Or.inl ⟨by rfl,?_⟩) ?_ ?_
          rotate_left
          ·intro w'
           go_simp
           with_reducible rfl
          rotate_left
          ·simp only [Act.put,zA,zB,zC,i64_w,i32_w]
           rfl
          refine pure_ (i := 6) (N := some 25) (v := ?_) (a' := ?_) #[true,true,true,false,true,true,true,false,false,false] rfl rfl (q0m HT_.out (by kernel_rfl)) (fun _ _ _ h => h) (Or.inl ⟨by rfl,?_⟩) ?_ ?_
          rotate_left
          ·intro w'
           go_simp
           with_reducible rfl
          rotate_left
          ·simp only [Act.put,zA,zB,zC,i64_w,i32_w]
           rfl
          refine take_ (i := 3) (N := some 22) (v := ?_) (a' := ?_) #[true,true,true,true,true,true,true,false,false,false] rfl rfl (take_ofW HT_.out HW_.out (by kernel_rfl)) (fun _ _ _ h => h) (Or.inl ⟨by rfl,?_⟩) hHeld ?_ ?_
          rotate_left
          ·rintro w' ⟨s0,s1,s2,s3,s4,s5,s6,s7⟩
           go_simp
           with_reducible rfl
          rotate_left
          ·simp only [Act.put,zA,zB,zC,i64_w,i32_w]
           rfl
          refine take_ (i := 7) (N := some 26) (v := ?_) (a' := ?_) #[true,true,true,true,true,true,true,true,false,false] rfl rfl (take_ofW HT_.out HW_.out (by kernel_rfl)) (fun _ _ _ h => h) (Or.inl ⟨by rfl,?_⟩) hHeld ?_ ?_
          rotate_left
          ·rintro w' ⟨s0,s1,s2,s3,s4,s5,s6,s7⟩
           go_simp
           with_reducible rfl
          rotate_left
          ·simp only [Act.put,zA,zB,zC,i64_w,i32_w]
           rfl
          refine one_ (i := 8) (N := some 27) #[true,true,true,true,true,true,true,true,true,false] rfl rfl (one_of HT_.out (by kernel_rfl)) (by decide) (fun K hK => ?_)
          refine goes_ Try.func49 (by kernel_rfl) rfl #[.agg #[.int .i64 ((q0f l0 x5_1).f0),.bool ((q0f l0 x5_1).f1),.int .i64 ((q0f l0 x5_1).f2),.string ((q0f l0 x5_1).f3)],.agg #[.int .i64 ((q0f l1 x5_1).f0),.bool ((q0f l1 x5_1).f1),.int .i64 ((q0f l1 x5_1).f2),.string ((q0f l1 x5_1).f3)]] (by rfl) rfl rfl (by (try simp only [List.map_toArray,List.map_cons,List.map_nil]);first | done | rfl | (simp only [List.length_drop,List.length_take];rfl)) ?_
          with_reducible refine (verdererref01_Compare.calls kj2 ((q0f l0 x5_1).f0) ((q0f l0 x5_1).f1) ((q0f l0 x5_1).f2) ((q0f l0 x5_1).f3) ((q0f l1 x5_1).f0) ((q0f l1 x5_1).f1) ((q0f l1 x5_1).f2) ((q0f l1 x5_1).f3) t301 _ A9.out).mono ?_
          rintro e w14 ⟨rfl,hb⟩
          refine ⟨_,rfl,?_⟩
          have n0_ := Aside0.mk (q0l (by repeat (first | (with_reducible first | exact HB.out | apply q0b | apply q0a | apply q0c) | exact HB.out)) hb)
          clear HB
          have HB := n0_
          clear n0_
          (try clear hb)
          (try clear hb2)
          (try clear hk)
          (try clear hi)
          refine hK.out _ _ ⟨((HB.out.cell (World.block_lt_of_cell? w _ hw299_0)).trans hw299_0),((HB.out.cell (World.block_lt_of_cell? w _ hw299_1)).trans hw299_1),((HB.out.cell (World.block_lt_of_cell? w _ hw299_2)).trans hw299_2),((HB.out.cell (World.block_lt_of_cell? w _ hw299_3)).trans hw299_3),((HB.out.cell (World.block_lt_of_cell? w _ hw300_0)).trans hw300_0),((HB.out.cell (World.block_lt_of_cell? w _ hw300_1)).trans hw300_1),((HB.out.cell (World.block_lt_of_cell? w _ hw300_2)).trans hw300_2),((HB.out.cell (World.block_lt_of_cell? w _ hw300_3)).trans hw300_3)⟩ (fun hHeld => ?_)
          clear hK K
          refine norm_ (a' := ?_) ?_ ?_
          rotate_left
          ·show Act.put _ (some 27) _ = _
           simp only [Act.put,zA,zB,zC,i64_w,i32_w]
           rfl
          refine pure_ (i := 9) (N := some 6) (v := ?_) (a' := ?_) #[true,true,true,true,true,true,true,true,true,true] rfl rfl (q0m HT_.out (by kernel_rfl)) (fun _ _ _ h => h) (Or.inl ⟨by rfl,?_⟩) ?_ ?_
          rotate_left
          ·intro w'
           go_simp
           with_reducible rfl
          rotate_left
          ·simp only [Act.put,zA,zB,zC,i64_w,i32_w]
           rfl
          refine done_ (done_of HT_.out (by kernel_rfl)) ?_
          try go_wp2
          go_ret
          exact ⟨by first | rfl | (simp [q0n,q0o] <;> rfl) | (simp [*,q0n,q0o] <;> rfl),by repeat (first | (with_reducible first | exact HB.out | apply q0b | apply q0a | apply q0c) | exact HB.out)⟩
        ·rw [if_neg c8] at H
         exact absurd H (by simp)
       ·rw [if_neg c7] at H
        exact absurd H (by simp)
      ·rw [if_neg c6] at H
       exact absurd H (by simp)
     ·replace c5 := Bool.eq_false_iff.mpr c5
      subst c5
      have H1 : (if (l0.length : Int) < (l1.length : Int) then (some (-1)) else (if (l0.length : Int) > (l1.length : Int) then (some 1) else (some 0))) = some r := by rw [if_neg (show ¬ (false = true) by decide)] at H;exact H
      clear H
      have H := H1
      clear H1
      by_cases c15 : (l0.length : Int) < (l1.length : Int)
      ·rw [if_pos c15] at H
       have c15b0 : decide ((l0.length : Int) < (l1.length : Int)) = true := decide_eq_true c15
       have c15b1 : decide (l0.length < l1.length) = true := decide_eq_true (Int.ofNat_lt.mp c15)
       clear c15
       obtain rfl := Option.some.inj H
       go_wp2
       go_ret
       exact ⟨by first | rfl | (simp [q0n,q0o] <;> rfl) | (simp [*,q0n,q0o] <;> rfl),by repeat (first | (with_reducible first | exact HB.out | apply q0b | apply q0a | apply q0c) | exact HB.out)⟩
      ·rw [if_neg c15] at H
       have c15b0 : decide ((l0.length : Int) < (l1.length : Int)) = false := decide_eq_false c15
       have c15b1 : decide (l0.length < l1.length) = false := decide_eq_false (fun h => c15 (Int.ofNat_lt.mpr h))
       clear c15
       by_cases c16 : (l0.length : Int) > (l1.length : Int)
       ·rw [if_pos c16] at H
        have c16b0 : decide ((l1.length : Int) < (l0.length : Int)) = true := decide_eq_true c16
        have c16b1 : decide (l1.length < l0.length) = true := decide_eq_true (Int.ofNat_lt.mp c16)
        clear c16
        obtain rfl := Option.some.inj H
        go_wp2
        go_ret
        exact ⟨by first | rfl | (simp [q0n,q0o] <;> rfl) | (simp [*,q0n,q0o] <;> rfl),by repeat (first | (with_reducible first | exact HB.out | apply q0b | apply q0a | apply q0c) | exact HB.out)⟩
       ·rw [if_neg c16] at H
        have c16b0 : decide ((l1.length : Int) < (l0.length : Int)) = false := decide_eq_false c16
        have c16b1 : decide (l1.length < l0.length) = false := decide_eq_false (fun h => c16 (Int.ofNat_lt.mpr h))
        clear c16
        obtain rfl := Option.some.inj H
        go_wp2
        go_ret
        exact ⟨by first | rfl | (simp [q0n,q0o] <;> rfl) | (simp [*,q0n,q0o] <;> rfl),by repeat (first | (with_reducible first | exact HB.out | apply q0b | apply q0a | apply q0c) | exact HB.out)⟩
end Go.Proofs.Ytfoaeigoajooeaa.Z
end
section
namespace Go.Proofs.Ytfoaeigoajooeaa.Z
open Go.RowKit Go.Proofs.YtfoaeigoajooeaaW.PrintWords Go.Proofs.YtfoaeigoajooeaaW.PrintLast Go.Proofs.YtfoaeigoajooeaaW.PrintMore
attribute [local go_sem] max2_int min2_int max_two min_two max_three min_three max_four min_four
set_option linter.unusedVariables false
set_option linter.unusedSimpArgs false
theorem eqA50 (d : Nat) (w : World) (x0 y0 : Int) (x1 y1 : Bool) (x2 y2 : Int) (x3 y3 : ByteArray) :
  (Op.equalIn (d + 2) 50 (.agg #[.int .i64 x0,.bool x1,.int .i64 x2,.string x3]) (.agg #[.int .i64 y0,.bool y1,.int .i64 y2,.string y3])).run Try.prog w = .ok (x0 == y0 && (x1 == y1 && (x2 == y2 && (x3.toList == y3.toList)))) w := by
 refine eqA_of Try.underlying50 (by kernel_rfl) ?_
 refine eqf_cons (by rfl) (by go_simp;rfl) (by go_simp;rfl) (by go_simp) ?_
 refine eqf_cons (by rfl) (by go_simp;rfl) (by go_simp;rfl) (by go_simp) ?_
 refine eqf_cons (by rfl) (by go_simp;rfl) (by go_simp;rfl) (by go_simp) ?_
 exact eqf_last (by rfl) (by go_simp;rfl) (by go_simp;rfl) (by go_simp)
end Go.Proofs.Ytfoaeigoajooeaa.Z
end
section
namespace Go.Proofs.Ytfoaeigoajooeaa.Z
open Go.RowKit Go.Proofs.YtfoaeigoajooeaaW.PrintWords Go.Proofs.YtfoaeigoajooeaaW.PrintLast Go.Proofs.YtfoaeigoajooeaaW.PrintMore
attribute [local go_sem] max2_int min2_int max_two min_two max_three min_three max_four min_four
set_option linter.unusedVariables false
set_option linter.unusedSimpArgs false
attribute [local go_sem high] eqA50
def verdererref02_Equal.l0 : Nat → List (S50) → List (S50) → Int → Option (Bool)
 | 0,_,_,_ => none
 | k + 1,x0,x1,x5 => if x5 < (x0.length : Int) then (if 0 ≤ x5 then (if x5 < (x1.length : Int) then (if (!(((q0f x0 x5).f0) == ((q0f x1 x5).f0)) || (!(((q0f x0 x5).f1) == ((q0f x1 x5).f1)) || (!(((q0f x0 x5).f2) == ((q0f x1 x5).f2)) || (!((((q0f x0 x5).f3).toList) == (((q0f x1 x5).f3).toList)))))) = true then (some false) else (verdererref02_Equal.l0 k x0 x1 (wrap64 (x5 + 1)))) else (none)) else (none)) else (some true)
def verdererref02_Equal.f (k : Nat) (l0 : List (S50)) (l1 : List (S50)) : Option (Bool) := if (l0.length : Int) = (l1.length : Int) then (verdererref02_Equal.l0 k l0 l1 0) else (some false)
theorem verdererref02_Equal.mono_l : ∀ k,(∀ y0 y1 y2,LeO (verdererref02_Equal.l0 k y0 y1 y2) (verdererref02_Equal.l0 (k + 1) y0 y1 y2))
 | 0 => fun _ _ _ r h => by simp [verdererref02_Equal.l0] at h
 | k + 1 => by
  have ih0 := verdererref02_Equal.mono_l k
  ·intro y0 y1 y2
   unfold verdererref02_Equal.l0
   repeat' first
   | (with_reducible exact ih0 _ _ _)
   | (with_reducible exact LeO.refl _)
   | (with_reducible exact LeO.none _)
   | (with_reducible refine LeO.ite ?_ ?_)
   | (with_reducible refine LeO.bind ?_ (fun _ => ?_))
   | exact ih0 _ _ _
   | exact LeO.none _
   | refine LeO.ite ?_ ?_
   | refine LeO.bind ?_ (fun _ => ?_)
theorem verdererref02_Equal.mono : ∀ a0 a1 k,LeO (verdererref02_Equal.f k a0 a1) (verdererref02_Equal.f (k + 1) a0 a1) := by
 intro a0 a1 k
 have ih0 := verdererref02_Equal.mono_l k
 unfold verdererref02_Equal.f
 repeat' first
   | (with_reducible exact ih0 _ _ _)
   | (with_reducible exact LeO.refl _)
   | (with_reducible exact LeO.none _)
   | (with_reducible refine LeO.ite ?_ ?_)
   | (with_reducible refine LeO.bind ?_ (fun _ => ?_))
   | exact ih0 _ _ _
   | exact LeO.none _
   | refine LeO.ite ?_ ?_
   | refine LeO.bind ?_ (fun _ => ?_)
set_option maxHeartbeats 8000000 in
set_option maxRecDepth 100000 in
theorem verdererref02_Equal.calls (k : Nat) (A0 : Option Addr) (c0 : Nat) (l0 : List (S50)) (A1 : Option Addr) (c1 : Nat) (l1 : List (S50)) (r : Bool) (w : World) (hr0 : Kd.C k50 w A0 l0.length l0) (hc0 : l0.length ≤ c0) (hr1 : Kd.C k50 w A1 l1.length l1) (hc1 : l1.length ≤ c1) (h : verdererref02_Equal.f k l0 l1 = some r) :
  Calls Try.prog 16 #[.slice A0 l0.length c0,.slice A1 l1.length c1] w fun e w' => e = .returned (.bool r) ∧ Drawn0 w w' := by
 have hu50 := Try.underlying50
 have HR0 := Aside0.mk hr0
 have HC0 := Aside0.mk hc0
 clear hr0 hc0
 have HR1 := Aside0.mk hr1
 have HC1 := Aside0.mk hc1
 clear hr1 hc1
 have H : (if (l0.length : Int) = (l1.length : Int) then (verdererref02_Equal.l0 k l0 l1 0) else (some false)) = some r := h
 clear h
 by_cases c3 : (l0.length : Int) = (l1.length : Int)
 ·rw [if_pos c3] at H
  have c3b0 : ((l0.length : Int) == (l1.length : Int)) = true := beq_iff_eq.mpr c3
  have c3b1 : ((l0.length : Int) != (l1.length : Int)) = false := bne_eq_false_iff_eq.mpr c3
  have c3b2 : (l0.length == l1.length) = true := by first | simpa using c3 | (simp at c3 ⊢;omega)
  clear c3
  have H' := Aside0.mk H
  clear H
  go_enter Try.func16,Try.ntmps16
  go_wp2
  repeat (go_quiet (fail);try go_wp2)
  go_loopg [5] k (fun kq v5 w' => ∃ (x5_1 : Int),v5 = .int .i64 x5_1 ∧ Aside0 (verdererref02_Equal.l0 kq l0 l1 x5_1 = some r) ∧ Aside0 (kq ≤ k) ∧ Drawn0 w w')
  case atStart => exact ⟨(0),(by first | rfl | (simp;done) | (simp [*];done)),H',⟨Nat.le_refl _⟩,by repeat (first | exact Drawn0.refl _ | apply Drawn0.step)⟩
  case round =>
   clear H'
   try clear c1
   try clear p2
   try clear c3
   try clear c3b0
   try clear c3b1
   try clear c3b2
   obtain ⟨x5_1,rfl,HA,HK1,⟨m1,rfl⟩⟩ := hrel
   cases gk with
   | zero => exact absurd HA.out (by simp [verdererref02_Equal.l0])
   | succ k1 =>
    have H := HA.out
    clear HA
    simp only [verdererref02_Equal.l0] at H
    by_cases c4 : x5_1 < (l0.length : Int)
    ·rw [if_pos c4] at H
     have c4b0 : decide (x5_1 < (l0.length : Int)) = true := decide_eq_true c4
     clear c4
     by_cases c5 : 0 ≤ x5_1
     ·rw [if_pos c5] at H
      have c5b0 : decide (0 ≤ x5_1) = true := decide_eq_true c5
      clear c5
      by_cases c6 : x5_1 < (l1.length : Int)
      ·rw [if_pos c6] at H
       have c6b0 : decide (x5_1 < (l1.length : Int)) = true := decide_eq_true c6
       clear c6
       by_cases c7 : (!(((q0f l0 x5_1).f0) == ((q0f l1 x5_1).f0)) || (!(((q0f l0 x5_1).f1) == ((q0f l1 x5_1).f1)) || (!(((q0f l0 x5_1).f2) == ((q0f l1 x5_1).f2)) || (!((((q0f l0 x5_1).f3).toList) == (((q0f l1 x5_1).f3).toList)))))) = true
       ·rw [if_pos c7] at H
        have c7b0 : (!(((q0f l0 x5_1).f0) == ((q0f l1 x5_1).f0)) || (!(((q0f l0 x5_1).f1) == ((q0f l1 x5_1).f1)) || (!(((q0f l0 x5_1).f2) == ((q0f l1 x5_1).f2)) || (!((((q0f l0 x5_1).f3).toList) == (((q0f l1 x5_1).f3).toList)))))) = true := c7
        clear c7
        obtain rfl := Option.some.inj H
        have p109 : 0 ≤ (x5_1 : Int) := of_decide_eq_true (by first | (with_reducible assumption) | assumption)
        have q109 : x5_1 < (l0.length : Int) := of_decide_eq_true (by first | (with_reducible assumption) | assumption)
        obtain ⟨ad109,e109,hx109_0,hx109_1,hx109_2,hx109_3⟩ := at_T50 HR0.out x5_1 p109 q109
        cases e109
        replace p109 := eq_true p109
        replace q109 := eq_true q109
        have p110 : 0 ≤ (x5_1 : Int) := of_decide_eq_true (by first | (with_reducible assumption) | assumption)
        have q110 : x5_1 < (l1.length : Int) := of_decide_eq_true (by first | (with_reducible assumption) | assumption)
        obtain ⟨ad110,e110,hx110_0,hx110_1,hx110_2,hx110_3⟩ := at_T50 HR1.out x5_1 p110 q110
        cases e110
        replace p110 := eq_true p110
        replace q110 := eq_true q110
        go_wp2
        repeat (go_quiet (fail);try go_wp2)
        go_ret
        exact ⟨by first | rfl | (simp;done) | (simp [*];done),by repeat (first | exact Drawn0.refl _ | apply Drawn0.step)⟩
       ·rw [if_neg c7] at H
        have c7b0 : (!(((q0f l0 x5_1).f0) == ((q0f l1 x5_1).f0)) || (!(((q0f l0 x5_1).f1) == ((q0f l1 x5_1).f1)) || (!(((q0f l0 x5_1).f2) == ((q0f l1 x5_1).f2)) || (!((((q0f l0 x5_1).f3).toList) == (((q0f l1 x5_1).f3).toList)))))) = false := by simpa using c7
        clear c7
        have H' := Aside0.mk H
        clear H
        have p109 : 0 ≤ (x5_1 : Int) := of_decide_eq_true (by first | (with_reducible assumption) | assumption)
        have q109 : x5_1 < (l0.length : Int) := of_decide_eq_true (by first | (with_reducible assumption) | assumption)
        obtain ⟨ad109,e109,hx109_0,hx109_1,hx109_2,hx109_3⟩ := at_T50 HR0.out x5_1 p109 q109
        cases e109
        replace p109 := eq_true p109
        replace q109 := eq_true q109
        have p110 : 0 ≤ (x5_1 : Int) := of_decide_eq_true (by first | (with_reducible assumption) | assumption)
        have q110 : x5_1 < (l1.length : Int) := of_decide_eq_true (by first | (with_reducible assumption) | assumption)
        obtain ⟨ad110,e110,hx110_0,hx110_1,hx110_2,hx110_3⟩ := at_T50 HR1.out x5_1 p110 q110
        cases e110
        replace p110 := eq_true p110
        replace q110 := eq_true q110
        go_wp2
        repeat (go_quiet (fail);try go_wp2)
        go_roundg k1
        case measure => have := HK1.out;omega
        case rel => exact ⟨(wrap64 (x5_1 + 1)),(by first | rfl | (simp;done) | (simp [*];done)),H',⟨by have := HK1.out;omega⟩,by repeat (first | exact Drawn0.refl _ | apply Drawn0.step)⟩
      ·rw [if_neg c6] at H
       exact absurd H (by simp)
     ·rw [if_neg c5] at H
      exact absurd H (by simp)
    ·rw [if_neg c4] at H
     have c4b0 : decide (x5_1 < (l0.length : Int)) = false := decide_eq_false c4
     clear c4
     obtain rfl := Option.some.inj H
     go_wp2
     repeat (go_quiet (fail);try go_wp2)
     go_ret
     exact ⟨by first | rfl | (simp;done) | (simp [*];done),by repeat (first | exact Drawn0.refl _ | apply Drawn0.step)⟩
 ·rw [if_neg c3] at H
  have c3b0 : ((l0.length : Int) == (l1.length : Int)) = false := beq_eq_false_iff_ne.mpr c3
  have c3b1 : ((l0.length : Int) != (l1.length : Int)) = true := bne_iff_ne.mpr c3
  have c3b2 : (l0.length == l1.length) = false := by first | simpa using c3 | (simp at c3 ⊢;omega)
  obtain rfl := Option.some.inj H
  go_enter Try.func16,Try.ntmps16
  go_wp2
  repeat (go_quiet (fail);try go_wp2)
  go_ret
  exact ⟨by first | rfl | (simp;done) | (simp [*];done),by repeat (first | exact Drawn0.refl _ | apply Drawn0.step)⟩
end Go.Proofs.Ytfoaeigoajooeaa.Z
end
section
namespace Go.Proofs.Ytfoaeigoajooeaa.Z
open Go.RowKit Go.Proofs.YtfoaeigoajooeaaW.PrintWords Go.Proofs.YtfoaeigoajooeaaW.PrintLast Go.Proofs.YtfoaeigoajooeaaW.PrintMore Go.Proofs.Ytfoaeigoajooeaa.Cmp
theorem bt_get {s : ByteArray} {i : Nat} (h : i < s.size) : bt s (i : Int) = ((s.data.toList[i]'(by simpa using h)).toNat : Int) := by
 rw [← bt_at s (i : Int) (by simpa using h)]
 rfl
theorem bytes_drop {s : ByteArray} {i : Nat} (h : i < s.size) : s.data.toList.drop i = s.data.toList[i]'(by simpa using h) :: s.data.toList.drop (i + 1) := List.drop_eq_getElem_cons (by simpa using h)
theorem text_l0 (a b : ByteArray) (ha : a.size ≤ 9223372036854775807) : ∀ d i k,a.size - i = d → i ≤ a.size → i ≤ b.size → 2 * d + 1 < k → verdererref01_Text.l0 k a b (i : Int) = some (cmpB (a.data.toList.drop i) (b.data.toList.drop i)) := by
 intro d
 induction d with
 | zero =>
  intro i k hd hi hib hk
  obtain ⟨k,rfl⟩ : ∃ m,k = m + 2 := ⟨k - 2,by omega⟩
  have e0 : a.data.toList.drop i = [] := List.drop_eq_nil_of_le (by simp;omega)
  simp only [verdererref01_Text.l0]
  rw [if_neg (by omega),e0]
  simp only [verdererref01_Text.j1,Bool.false_eq_true,if_false]
  by_cases h : i < b.size
  ·rw [if_pos (by omega),bytes_drop h];rfl
  ·rw [if_neg (by omega),if_neg (by omega),List.drop_eq_nil_of_le (by simp;omega)];rfl
 | succ d ih =>
  intro i k hd hi hib hk
  obtain ⟨k,rfl⟩ : ∃ m,k = m + 2 := ⟨k - 2,by omega⟩
  have hlt : i < a.size := by omega
  simp only [verdererref01_Text.l0]
  rw [if_pos (by omega)]
  simp only [verdererref01_Text.j1]
  by_cases h : i < b.size
  ·rw [if_pos (decide_eq_true (by omega)),if_pos (by omega),if_pos (by omega),if_pos (by omega),bt_get hlt,bt_get h,bytes_drop hlt,bytes_drop h]
   generalize a.data.toList[i]'(by simpa using hlt) = x
   generalize b.data.toList[i]'(by simpa using h) = y
   have e : cmpB (x :: a.data.toList.drop (i + 1)) (y :: b.data.toList.drop (i + 1)) = if cmpI x.toNat y.toNat = 0 then cmpB (a.data.toList.drop (i + 1)) (b.data.toList.drop (i + 1)) else cmpI x.toNat y.toNat := rfl
   rw [e,wrap_succ hlt ha,ih (i + 1) k (by omega) (by omega) (by omega) (by omega)]
   unfold cmpI
   by_cases h1 : (x.toNat : Int) < y.toNat
   ·rw [if_pos h1,if_pos h1,if_neg (by omega)]
   ·by_cases h2 : (y.toNat : Int) < x.toNat
    ·rw [if_neg h1,if_neg h1,if_pos h2,if_pos h2,if_neg (by omega)]
    ·rw [if_neg h1,if_neg h1,if_neg h2,if_neg h2,if_pos rfl]
  ·rw [if_neg (by simp;omega),if_neg (by omega),if_pos (by omega),bytes_drop hlt,List.drop_eq_nil_of_le (show b.data.toList.length ≤ i by simp;omega)]
   rfl
theorem text_f (a b : ByteArray) (ha : a.size ≤ 9223372036854775807) (k : Nat) (hk : 2 * a.size + 1 < k) : verdererref01_Text.f k a b = some (cmpB a.data.toList b.data.toList) := by
 have h := text_l0 a b ha a.size 0 k (by omega) (by omega) (by omega) hk
 rw [show ((0 : Nat) : Int) = 0 from rfl] at h
 exact h
theorem vcmp_ref (a b : S50) (ha : a.f3.size ≤ 9223372036854775807) (k : Nat) (hk : 2 * a.f3.size + 1 < k) : verdererref01_Compare.f k a.f0 a.f1 a.f2 a.f3 b.f0 b.f1 b.f2 b.f3 = some (vcmp a b) := by
 unfold verdererref01_Compare.f vcmp
 rw [text_f _ _ ha k hk]
 simp only [Option.bind_some]
 by_cases h1 : a.f0 < b.f0
 ·rw [if_pos h1,if_neg (by omega)]
  unfold cmpI
  rw [if_pos h1]
 ·by_cases h2 : a.f0 > b.f0
  ·rw [if_neg h1,if_pos h2,if_neg (by omega)]
   unfold cmpI
   rw [if_neg h1,if_pos h2]
  ·have e : (if a.f0 = b.f0 then kcmp a b else cmpI a.f0 b.f0) = kcmp a b := if_pos (by omega)
   rw [if_neg h1,if_neg h2,e]
   unfold kcmp
   by_cases k1 : a.f0 = 1
   ·rw [if_pos k1,if_pos k1]
    cases a.f1 <;> cases b.f1 <;> rfl
   ·by_cases k2 : a.f0 = 2
    ·rw [if_neg k1,if_pos k2,if_neg k1,if_pos k2]
     unfold cmpI
     repeat' split
     all_goals first | rfl | omega
    ·by_cases k3 : a.f0 = 3
     ·rw [if_neg k1,if_neg k2,if_pos k3,if_neg k1,if_neg k2,if_pos k3]
     ·rw [if_neg k1,if_neg k2,if_neg k3,if_neg k1,if_neg k2,if_neg k3]
theorem refCompare_l0 (x0 x1 : List S50) (hl : x0.length ≤ 9223372036854775807) (M : Nat) (hM : ∀ x ∈ x0,x.f3.size ≤ M) (hM2 : M ≤ 9223372036854775807) : ∀ d i k,x0.length - i = d → i ≤ x0.length → i ≤ x1.length → 2 * d + 2 * M + 3 < k → verdererref02_Compare.l0 k x0 x1 (i : Int) = some (rcmp (x0.drop i) (x1.drop i)) := by
 intro d
 induction d with
 | zero =>
  intro i k hd hi hib hk
  obtain ⟨k,rfl⟩ : ∃ m,k = m + 2 := ⟨k - 2,by omega⟩
  simp only [verdererref02_Compare.l0]
  rw [if_neg (by omega),List.drop_eq_nil_of_le (show x0.length ≤ i by omega)]
  simp only [verdererref02_Compare.j1,Bool.false_eq_true,if_false]
  by_cases h : i < x1.length
  ·rw [if_pos (by omega),drop_rd h];rfl
  ·rw [if_neg (by omega),if_neg (by omega),List.drop_eq_nil_of_le (by omega)];rfl
 | succ d ih =>
  intro i k hd hi hib hk
  obtain ⟨k,rfl⟩ : ∃ m,k = m + 2 := ⟨k - 2,by omega⟩
  have hlt : i < x0.length := by omega
  simp only [verdererref02_Compare.l0]
  rw [if_pos (by omega)]
  simp only [verdererref02_Compare.j1]
  have hx : (q0f x0 (i : Int)).f3.size ≤ M := by rw [rd_get hlt];exact hM _ (List.getElem_mem hlt)
  by_cases h : i < x1.length
  ·rw [if_pos (decide_eq_true (by omega)),if_pos (by omega),if_pos (by omega),if_pos (by omega),vcmp_ref _ _ (by omega) k (by omega),Option.bind_some,drop_rd hlt,drop_rd h]
   by_cases h0 : vcmp (q0f x0 i) (q0f x1 i) = 0
   ·rw [if_pos h0,wrap_succ hlt hl,ih (i + 1) k (by omega) (by omega) (by omega) (by omega)]
    simp [rcmp,lexC,h0]
   ·rw [if_neg h0]
    simp [rcmp,lexC,h0]
  ·rw [if_neg (by simp;omega),if_neg (by omega),if_pos (by omega),drop_rd hlt,List.drop_eq_nil_of_le (show x1.length ≤ i by omega)]
   rfl
theorem refCompare_f (a b : List S50) (ha : a.length ≤ 9223372036854775807) (M : Nat) (hM : ∀ x ∈ a,x.f3.size ≤ M) (hM2 : M ≤ 9223372036854775807) (k : Nat) (hk : 2 * a.length + 2 * M + 3 < k) : verdererref02_Compare.f k a b = some (rcmp a b) := by
 have h := refCompare_l0 a b ha M hM hM2 a.length 0 k (by omega) (by omega) (by omega) hk
 rw [show ((0 : Nat) : Int) = 0 from rfl] at h
 exact h
theorem equal_l0 (x : List S50) (hl : x.length ≤ 9223372036854775807) : ∀ d i k,x.length - i = d → i ≤ x.length → d < k → verdererref02_Equal.l0 k x x (i : Int) = some true := by
 intro d
 induction d with
 | zero =>
  intro i k hd hi hk
  obtain ⟨k,rfl⟩ : ∃ m,k = m + 1 := ⟨k - 1,by omega⟩
  simp only [verdererref02_Equal.l0]
  rw [if_neg (by omega)]
 | succ d ih =>
  intro i k hd hi hk
  obtain ⟨k,rfl⟩ : ∃ m,k = m + 1 := ⟨k - 1,by omega⟩
  simp only [verdererref02_Equal.l0]
  rw [if_pos (by omega),if_pos (by omega),if_pos (by omega),if_neg (by simp),wrap_succ (show i < x.length by omega) hl,ih (i + 1) k (by omega) (by omega) (by omega)]
theorem equal_self (x : List S50) (hl : x.length ≤ 9223372036854775807) (k : Nat) (hk : x.length < k) : verdererref02_Equal.f k x x = some true := by
 unfold verdererref02_Equal.f
 rw [if_pos rfl]
 have h := equal_l0 x hl x.length 0 k (by omega) (by omega) hk
 rw [show ((0 : Nat) : Int) = 0 from rfl] at h
 exact h
end Go.Proofs.Ytfoaeigoajooeaa.Z
end
section
namespace Go.Proofs.Ytfoaeigoajooeaa.Z
open Go.RowKit Go.Proofs.YtfoaeigoajooeaaW.PrintWords Go.Proofs.YtfoaeigoajooeaaW.PrintLast Go.Proofs.YtfoaeigoajooeaaW.PrintMore
attribute [local go_sem] max2_int min2_int max_two min_two max_three min_three max_four min_four
set_option linter.unusedVariables false
set_option linter.unusedSimpArgs false
def row_Pick.l0 : Nat → List (S50) → List (S50) → List Int → Int → Int → Option ((List (S50)) × Int)
 | 0,_,_,_,_,_ => none
 | k + 1,x0,x6,x12,x13,x14 => if x14 < x13 then (if 0 ≤ x14 then (if x14 < (x12.length : Int) then (if (rd x12 x14) < 0 then (some (([] : List (S50)),2)) else (if (rd x12 x14) ≥ (x0.length : Int) then (some (([] : List (S50)),2)) else (if 0 ≤ (rd x12 x14) then (if (rd x12 x14) < (x0.length : Int) then (if x6.length < 3518437208883 then (row_Pick.l0 k x0 (x6 ++ [(⟨(q0f x0 (rd x12 x14)).f0,(q0f x0 (rd x12 x14)).f1,(q0f x0 (rd x12 x14)).f2,(q0f x0 (rd x12 x14)).f3⟩ : S50)]) x12 x13 (wrap64 (x14 + 1))) else (none)) else (none)) else (none)))) else (none)) else (none)) else (some (x6,0))
def row_Pick.f (k : Nat) (l0 : List (S50)) (l1 : List Int) : Option ((List (S50)) × Int) := if 0 ≤ (l1.length : Int) then (if ((l1.length : Int) : Int).toNat ≤ 7036874417766 then (row_Pick.l0 k l0 (([] : List (S50))) l1 (l1.length : Int) 0) else (none)) else (none)
theorem row_Pick.mono_l : ∀ k,(∀ y0 y1 y2 y3 y4,LeO (row_Pick.l0 k y0 y1 y2 y3 y4) (row_Pick.l0 (k + 1) y0 y1 y2 y3 y4))
 | 0 => fun _ _ _ _ _ r h => by simp [row_Pick.l0] at h
 | k + 1 => by
  have ih0 := row_Pick.mono_l k
  ·intro y0 y1 y2 y3 y4
   unfold row_Pick.l0
   repeat' first
   | (with_reducible exact ih0 _ _ _ _ _)
   | (with_reducible exact LeO.refl _)
   | (with_reducible exact LeO.none _)
   | (with_reducible refine LeO.ite ?_ ?_)
   | (with_reducible refine LeO.bind ?_ (fun _ => ?_))
   | exact ih0 _ _ _ _ _
   | exact LeO.none _
   | refine LeO.ite ?_ ?_
   | refine LeO.bind ?_ (fun _ => ?_)
theorem row_Pick.mono : ∀ a0 a1 k,LeO (row_Pick.f k a0 a1) (row_Pick.f (k + 1) a0 a1) := by
 intro a0 a1 k
 have ih0 := row_Pick.mono_l k
 unfold row_Pick.f
 repeat' first
   | (with_reducible exact ih0 _ _ _ _ _)
   | (with_reducible exact LeO.refl _)
   | (with_reducible exact LeO.none _)
   | (with_reducible refine LeO.ite ?_ ?_)
   | (with_reducible refine LeO.bind ?_ (fun _ => ?_))
   | exact ih0 _ _ _ _ _
   | exact LeO.none _
   | refine LeO.ite ?_ ?_
   | refine LeO.bind ?_ (fun _ => ?_)
set_option maxHeartbeats 8000000 in
set_option maxRecDepth 100000 in
theorem row_Pick.calls (k : Nat) (A0 : Option Addr) (c0 : Nat) (l0 : List (S50)) (A1 : Option Addr) (c1 : Nat) (l1 : List Int) (r1 : List (S50)) (r2 : Int) (w : World) (hr0 : Kd.C k50 w A0 l0.length l0) (hc0 : l0.length ≤ c0) (hr1 : Kd.C (Kd.int .i64) w A1 l1.length l1) (hc1 : l1.length ≤ c1) (h : row_Pick.f k l0 l1 = some (r1,r2)) :
  Calls Try.prog 14 #[.slice A0 l0.length c0,.slice A1 l1.length c1] w fun e w' => ∃ v0_ : Value,e = .returned (.tuple #[v0_,.int .i64 r2]) ∧ Kd.R k50 50 w' w.heap.size (fun _ => True) v0_ r1 ∧ Below w.heap.size w w' := by
 have hu50 := Try.underlying50
 have HR0 := Aside0.mk hr0
 have HC0 := Aside0.mk hc0
 clear hr0 hc0
 have HR1 := Aside0.mk hr1
 have HC1 := Aside0.mk hc1
 clear hr1 hc1
 have HB := Aside0.mk (Below.refl w.heap.size w)
 have H : (if 0 ≤ (l1.length : Int) then (if ((l1.length : Int) : Int).toNat ≤ 7036874417766 then (row_Pick.l0 k l0 (([] : List (S50))) l1 (l1.length : Int) 0) else (none)) else (none)) = some (r1,r2) := h
 clear h
 by_cases c3 : 0 ≤ (l1.length : Int)
 ·rw [if_pos c3] at H
  have c3b0 := eq_true c3
  have c3b1 : decide (0 ≤ (l1.length : Int)) = true := decide_eq_true c3
  clear c3
  by_cases c4 : ((l1.length : Int) : Int).toNat ≤ 7036874417766
  ·rw [if_pos c4] at H
   have c4b0 := eq_true c4
   have c4b1 : decide (((l1.length : Int) : Int).toNat ≤ 7036874417766) = true := decide_eq_true c4
   clear c4
   obtain ⟨y101,hy101⟩ : ∃ y_ : List (S50),y_ = (([] : List (S50))) := ⟨_,rfl⟩
   replace H : (row_Pick.l0 k l0 y101 l1 (l1.length : Int) 0) = some (r1,r2) := by first | (rw [hy101];with_reducible exact H) | (have H2_ := (Option.bind_some _ _).symm.trans H;rw [hy101];with_reducible exact H2_) | (have H2_ := (Option.bind_some _ _).symm.trans H;with_reducible exact H2_) | with_reducible exact H | (rw [hy101];exact H) | exact H
   have Ny101 := Aside0.mk hy101
   clear hy101
   have H' := Aside0.mk H
   clear H
   go_enter Try.func14,Try.ntmps14
   go_wp2_with (first | ((with_reducible refine q0s (N := 11) rfl ?_);(try (refine gate_guard (by rfl) ?_;dsimp only));refine Kd.R_make0 k50 _ 50 rfl (N := 11) rfl 22 _ _ rfl (l1.length : Int) rfl rfl Try.underlying22 (.agg #[(.int .i64 0),(.bool false),(.int .i64 0),(.string ⟨#[]⟩)]) 40 info50 rfl (by decide) (by omega) z50 (ok := fun _ => True) (okp := fun _ => True) (k50_mkM _ _ _ z50 ) (fun _ hk => hk) trivial (of_decide_eq_true (by first | (with_reducible assumption) | assumption)) (Nat.le_trans (Nat.mul_le_mul_right _ (of_decide_eq_true (by first | (with_reducible assumption) | assumption) : (l1.length : Int).toNat ≤ 7036874417766)) (by omega)) (Below.refl _ _) (Nat.le_refl _) ?_;intro v102 w5 ho6 hb hg_ hnew_;clear hg_ hnew_;(first | rw [← Ny101.out] at ho6 | (simp only [Int.reduceToNat] at ho6;rw [← Ny101.out] at ho6));have n0_ := Aside0.mk (Kd.R_lower ho6 (q0g (by repeat (first | (with_reducible first | exact HB.out | apply q0b | apply q0a | apply q0c) | exact HB.out))));have n1_ := Aside0.mk (q0l (by repeat (first | (with_reducible first | exact HB.out | apply q0b | apply q0a | apply q0c) | exact HB.out)) hb);clear HB;have HO103 := n0_;have HB := n1_;clear n0_ n1_;clear hb ho6))
   go_loopg [6,14] k (fun kq v6 v14 w' => ∃ (x6_1 : List (S50)) (x14_1 : Int),v14 = .int .i64 x14_1 ∧ Aside0 (row_Pick.l0 kq l0 x6_1 l1 (l1.length : Int) x14_1 = some (r1,r2)) ∧ Aside0 (kq ≤ k) ∧ Aside0 (Kd.R k50 50 w' w.heap.size (fun _ => True) v6 x6_1) ∧ Aside0 (Below w.heap.size w w'))
   case atStart => exact ⟨(y101),(0),(by first | rfl | (simp;done) | (simp [*];done)),H',⟨Nat.le_refl _⟩,⟨by (with_reducible repeat (first | apply Kd.q0p | apply Kd.q0q | apply Kd.R_drew));exact HO103.out⟩,⟨by repeat (first | (with_reducible first | exact HB.out | apply q0b | apply q0a | apply q0c) | exact HB.out)⟩⟩
   case round =>
    clear H'
    try clear c1
    try clear p2
    try clear c3
    try clear c3b0
    try clear c3b1
    try clear c4
    try clear c4b0
    try clear c4b1
    obtain ⟨x6_1,x14_1,rfl,HA,HK1,HO_6,HB⟩ := hrel
    cases gk with
    | zero => exact absurd HA.out (by simp [row_Pick.l0])
    | succ k1 =>
     have H := HA.out
     clear HA
     simp only [row_Pick.l0] at H
     by_cases c7 : x14_1 < (l1.length : Int)
     ·rw [if_pos c7] at H
      have c7b0 : decide (x14_1 < (l1.length : Int)) = true := decide_eq_true c7
      clear c7
      by_cases c8 : 0 ≤ x14_1
      ·rw [if_pos c8] at H
       have c8b0 : decide (0 ≤ x14_1) = true := decide_eq_true c8
       clear c8
       by_cases c9 : x14_1 < (l1.length : Int)
       ·rw [if_pos c9] at H
        have c9b0 : decide (x14_1 < (l1.length : Int)) = true := decide_eq_true c9
        clear c9
        by_cases c10 : (rd l1 x14_1) < 0
        ·rw [if_pos c10] at H
         have c10b0 : decide ((rd l1 x14_1) < 0) = true := decide_eq_true c10
         clear c10
         simp only [Option.some.injEq,Prod.mk.injEq] at H
         obtain ⟨rfl,rfl⟩ := H
         have p104 : 0 ≤ (x14_1 : Int) := of_decide_eq_true (by first | (with_reducible assumption) | assumption)
         have q104 : x14_1 < (l1.length : Int) := of_decide_eq_true (by first | (with_reducible assumption) | assumption)
         obtain ⟨ad104,e104,hx104_0⟩ := Kd.at_int HR1.out x14_1 p104 q104
         cases e104
         replace hx104_0 := (HB.out.cell (World.block_lt_of_cell? w _ hx104_0)).trans hx104_0
         replace p104 := eq_true p104
         replace q104 := eq_true q104
         go_wp2
         go_ret2
         exact ⟨_,by first | rfl | (simp [q0n,q0o] <;> rfl) | (simp [*,q0n,q0o] <;> rfl),by first | exact Kd.R_nil _ _ _ _ _ | exact Kd.N_nil _ _ _ _ _ | exact Kd.V_nil _ _ _ _ _ | exact Kd.Q_nil _ _ _ _ _ | exact Kd.S_nil _ _ _ _ _,by repeat (first | (with_reducible first | exact HB.out | apply q0b | apply q0a | apply q0c) | exact HB.out)⟩
        ·rw [if_neg c10] at H
         have c10b0 : decide ((rd l1 x14_1) < 0) = false := decide_eq_false c10
         clear c10
         by_cases c11 : (rd l1 x14_1) ≥ (l0.length : Int)
         ·rw [if_pos c11] at H
          have c11b0 : decide ((l0.length : Int) ≤ (rd l1 x14_1)) = true := decide_eq_true c11
          clear c11
          simp only [Option.some.injEq,Prod.mk.injEq] at H
          obtain ⟨rfl,rfl⟩ := H
          have p104 : 0 ≤ (x14_1 : Int) := of_decide_eq_true (by first | (with_reducible assumption) | assumption)
          have q104 : x14_1 < (l1.length : Int) := of_decide_eq_true (by first | (with_reducible assumption) | assumption)
          obtain ⟨ad104,e104,hx104_0⟩ := Kd.at_int HR1.out x14_1 p104 q104
          cases e104
          replace hx104_0 := (HB.out.cell (World.block_lt_of_cell? w _ hx104_0)).trans hx104_0
          replace p104 := eq_true p104
          replace q104 := eq_true q104
          go_wp2
          go_ret2
          exact ⟨_,by first | rfl | (simp [q0n,q0o] <;> rfl) | (simp [*,q0n,q0o] <;> rfl),by first | exact Kd.R_nil _ _ _ _ _ | exact Kd.N_nil _ _ _ _ _ | exact Kd.V_nil _ _ _ _ _ | exact Kd.Q_nil _ _ _ _ _ | exact Kd.S_nil _ _ _ _ _,by repeat (first | (with_reducible first | exact HB.out | apply q0b | apply q0a | apply q0c) | exact HB.out)⟩
         ·rw [if_neg c11] at H
          have c11b0 : decide ((l0.length : Int) ≤ (rd l1 x14_1)) = false := decide_eq_false c11
          clear c11
          by_cases c12 : 0 ≤ (rd l1 x14_1)
          ·rw [if_pos c12] at H
           have c12b0 : decide (0 ≤ (rd l1 x14_1)) = true := decide_eq_true c12
           clear c12
           by_cases c13 : (rd l1 x14_1) < (l0.length : Int)
           ·rw [if_pos c13] at H
            have c13b0 : decide ((rd l1 x14_1) < (l0.length : Int)) = true := decide_eq_true c13
            clear c13
            by_cases c14 : x6_1.length < 3518437208883
            ·rw [if_pos c14] at H
             have LMc14 := Aside0.mk c14
             clear c14
             obtain ⟨y106,hy106⟩ : ∃ y_ : List (S50),y_ = (x6_1 ++ [(⟨(q0f l0 (rd l1 x14_1)).f0,(q0f l0 (rd l1 x14_1)).f1,(q0f l0 (rd l1 x14_1)).f2,(q0f l0 (rd l1 x14_1)).f3⟩ : S50)]) := ⟨_,rfl⟩
             replace H : (row_Pick.l0 k1 l0 y106 l1 (l1.length : Int) (wrap64 (x14_1 + 1))) = some (r1,r2) := by first | (rw [hy106];with_reducible exact H) | (have H2_ := (Option.bind_some _ _).symm.trans H;rw [hy106];with_reducible exact H2_) | (have H2_ := (Option.bind_some _ _).symm.trans H;with_reducible exact H2_) | with_reducible exact H | (rw [hy106];exact H) | exact H
             have Ny106 := Aside0.mk hy106
             clear hy106
             have H' := Aside0.mk H
             clear H
             have p104 : 0 ≤ (x14_1 : Int) := of_decide_eq_true (by first | (with_reducible assumption) | assumption)
             have q104 : x14_1 < (l1.length : Int) := of_decide_eq_true (by first | (with_reducible assumption) | assumption)
             obtain ⟨ad104,e104,hx104_0⟩ := Kd.at_int HR1.out x14_1 p104 q104
             cases e104
             replace hx104_0 := (HB.out.cell (World.block_lt_of_cell? w _ hx104_0)).trans hx104_0
             replace p104 := eq_true p104
             replace q104 := eq_true q104
             have p105 : 0 ≤ ((rd l1 x14_1) : Int) := of_decide_eq_true (by first | (with_reducible assumption) | assumption)
             have q105 : (rd l1 x14_1) < (l0.length : Int) := of_decide_eq_true (by first | (with_reducible assumption) | assumption)
             obtain ⟨ad105,e105,hx105_0,hx105_1,hx105_2,hx105_3⟩ := at_T50 HR0.out (rd l1 x14_1) p105 q105
             cases e105
             replace hx105_0 := (HB.out.cell (World.block_lt_of_cell? w _ hx105_0)).trans hx105_0
             replace hx105_1 := (HB.out.cell (World.block_lt_of_cell? w _ hx105_1)).trans hx105_1
             replace hx105_2 := (HB.out.cell (World.block_lt_of_cell? w _ hx105_2)).trans hx105_2
             replace hx105_3 := (HB.out.cell (World.block_lt_of_cell? w _ hx105_3)).trans hx105_3
             replace p105 := eq_true p105
             replace q105 := eq_true q105
             go_wp2_with (first | ((with_reducible refine gate_builtin (b := .append) (xs := #[.tmp 26,.tmp 31]) rfl ?_);(try (refine gate_guard (by rfl) ?_;dsimp only));at_builtin;refine Kd.R_append k50 (w0 := w) w.heap.size rfl (.tmp 26) (.tmp 31) 22 50 (.agg #[(.int .i64 0),(.bool false),(.int .i64 0),(.string ⟨#[]⟩)]) 40 rfl Try.underlying22 info50 rfl (by decide) (by omega) u6 x6_1 (⟨(q0f l0 (rd l1 x14_1)).f0,(q0f l0 (rd l1 x14_1)).f1,(q0f l0 (rd l1 x14_1)).f2,(q0f l0 (rd l1 x14_1)).f3⟩ : S50) [.int .i64 ((q0f l0 (rd l1 x14_1)).f0),.bool ((q0f l0 (rd l1 x14_1)).f1),.int .i64 ((q0f l0 (rd l1 x14_1)).f2),.string ((q0f l0 (rd l1 x14_1)).f3)] (fun _ => True) (fun _ => False) rfl rfl ?aP (fun _ hk => hk.elim) ?aF ?aO ?aB ?aS ?aL ?_;(case aP => exact k50_mkM _ _ _ (⟨(q0f l0 (rd l1 x14_1)).f0,(q0f l0 (rd l1 x14_1)).f1,(q0f l0 (rd l1 x14_1)).f2,(q0f l0 (rd l1 x14_1)).f3⟩ : S50));(case aB => exact (by repeat (first | (with_reducible first | exact HB.out | apply q0b | apply q0a | apply q0c) | exact HB.out)));(case aF => exact (fun _ _ => trivial));(case aO => exact (by (with_reducible repeat (first | apply Kd.q0p | apply Kd.q0q | apply Kd.R_drew));exact HO_6.out));(case aS => exact (q0g (by repeat (first | (with_reducible first | exact HB.out | apply q0b | apply q0a | apply q0c) | exact HB.out))));(case aL => have := LMc14.out;omega);intro v107 w15 ho hb hg hat;rw [← Ny106.out] at ho;have n0_ := Aside0.mk (hb);have n1_ := Aside0.mk (ho);clear HB;clear HO_6;have HB := n0_;have HO108 := n1_;clear n0_ n1_;clear ho hb hg hat))
             go_roundg k1
             case measure => have := HK1.out;omega
             case rel => exact ⟨(y106),(wrap64 (x14_1 + 1)),(by first | rfl | (simp;done) | (simp [*];done)),H',⟨by have := HK1.out;omega⟩,⟨by (with_reducible repeat (first | apply Kd.q0p | apply Kd.q0q | apply Kd.R_drew));exact HO108.out⟩,⟨by repeat (first | (with_reducible first | exact HB.out | apply q0b | apply q0a | apply q0c) | exact HB.out)⟩⟩
            ·rw [if_neg c14] at H
             exact absurd H (by simp)
           ·rw [if_neg c13] at H
            exact absurd H (by simp)
          ·rw [if_neg c12] at H
           exact absurd H (by simp)
       ·rw [if_neg c9] at H
        exact absurd H (by simp)
      ·rw [if_neg c8] at H
       exact absurd H (by simp)
     ·rw [if_neg c7] at H
      have c7b0 : decide (x14_1 < (l1.length : Int)) = false := decide_eq_false c7
      clear c7
      simp only [Option.some.injEq,Prod.mk.injEq] at H
      obtain ⟨rfl,rfl⟩ := H
      go_wp2
      go_ret2
      exact ⟨_,by first | rfl | (simp [q0n,q0o] <;> rfl) | (simp [*,q0n,q0o] <;> rfl),by (with_reducible repeat (first | apply Kd.q0p | apply Kd.q0q | apply Kd.R_drew));exact HO_6.out,by repeat (first | (with_reducible first | exact HB.out | apply q0b | apply q0a | apply q0c) | exact HB.out)⟩
  ·rw [if_neg c4] at H
   exact absurd H (by simp)
 ·rw [if_neg c3] at H
  exact absurd H (by simp)
end Go.Proofs.Ytfoaeigoajooeaa.Z
end
section
namespace Go.Proofs.Ytfoaeigoajooeaa.Z
open Go.RowKit Go.Proofs.YtfoaeigoajooeaaW.PrintWords Go.Proofs.YtfoaeigoajooeaaW.PrintLast Go.Proofs.YtfoaeigoajooeaaW.PrintMore
set_option linter.unusedVariables false
def slices_Grow.f (_l0 : List S50) (a1 : Int) : Option (List S50) := if 0 ≤ a1 ∧ a1 ≤ 1000000000 then some [] else none
set_option maxHeartbeats 1000000 in
set_option maxRecDepth 100000 in
theorem slices_Grow_nil (A0 : Option Addr) (c0 : Nat) (l0 : List S50) (a1 : Int) (r : List S50) (w : World) (_hr : Kd.C k50 w A0 l0.length l0) (_hc : l0.length ≤ c0) (h : slices_Grow.f l0 a1 = some r) :
  Calls Try.prog 67 #[.slice none 0 0,.int .i64 a1] w fun e w' => ∃ v0_ : Value,e = .returned (v0_) ∧ Kd.R k50 50 w' w.heap.size (fun _ => True) v0_ r ∧ Below w.heap.size w w' := by
 unfold slices_Grow.f at h
 by_cases hb : 0 ≤ a1 ∧ a1 ≤ 1000000000
 ·rw [if_pos hb] at h
  obtain rfl := Option.some.inj h
  obtain ⟨h0,h1⟩ := hb
  have HB := Aside0.mk (Below.refl w.heap.size w)
  by_cases hz : a1 = 0
  ·subst hz
   clear h h0 h1
   go_enter Try.func67,Try.ntmps67
   go_wp2
   go_ret
   exact ⟨_,rfl,Kd.R_nil _ _ _ _ _,HB.out⟩
  ·have hp : 0 < a1 := by omega
   clear h hz
   have hcut : ∀ (W : World) (A : Option Addr) (n c : Nat),(Instr.slice 22 (.slice A n c) none (some (.int .i64 0)) none).run Try.prog W = .ok (.slice A 0 c) W := cut_zero Try.underlying22 info50
   have hinfo := info50
   go_enter Try.func67,Try.ntmps67
   go_wp2_with ((with_reducible refine gate_builtin (b := .append) (xs := #[.tmp 20,.tmp 21]) rfl ?_);at_builtin;refine Kd.R_append_zeros k50 (w0 := w) w.heap.size rfl (.tmp 20) (.tmp 21) 22 3 50 _ 40 rfl Try.underlying22 Try.underlying3 hinfo rfl (by decide) (by omega) (.slice none 0 0) [] z50 (kx := .i64) a1 (fun _ => True) rfl rfl (k50_mkM _ _ _ z50) (fun _ _ => trivial) (Kd.R_nil _ _ _ _ _) h0 HB.out (Nat.le_refl _) (by simp;omega) ?_;intro v1 w1 ho hb hg hat;clear hg hat;obtain ⟨Av,cv,ev⟩ := Kd.R_slice ho;subst ev;have HO := Aside0.mk (Kd.R_take ho (Nat.zero_le _));have HB1 := Aside0.mk hb;clear ho hb)
   go_ret
   exact ⟨_,rfl,HO.out,HB1.out⟩
 ·rw [if_neg hb] at h
  cases h
end Go.Proofs.Ytfoaeigoajooeaa.Z
end
section
namespace Go.Proofs.Ytfoaeigoajooeaa.Z
open Go.RowKit Go.Proofs.YtfoaeigoajooeaaW.PrintWords Go.Proofs.YtfoaeigoajooeaaW.PrintLast Go.Proofs.YtfoaeigoajooeaaW.PrintMore
attribute [local go_sem] max2_int min2_int max_two min_two max_three min_three max_four min_four
set_option linter.unusedVariables false
set_option linter.unusedSimpArgs false
mutual
def slices_Concat.l0 : Nat → List (List (S50)) → Int → List (List (S50)) → Int → Int → Option ((List (S50)))
 | 0,_,_,_,_,_ => none
 | k + 1,x0,x3,x9,x10,x11 => if x11 < x10 then (if 0 ≤ x11 then (if x11 < (x9.length : Int) then (if (wrap64 (x3 + ((rd_L4 x9 x11).length : Int))) < 0 then (none) else (slices_Concat.l0 k x0 (wrap64 (x3 + ((rd_L4 x9 x11).length : Int))) x9 x10 (wrap64 (x11 + 1)))) else (none)) else (none)) else ((slices_Grow.f ([] : List (S50)) x3).bind fun t112 => (slices_Concat.l1 k t112 x0 (x0.length : Int) 0))
def slices_Concat.l1 : Nat → List (S50) → List (List (S50)) → Int → Int → Option ((List (S50)))
 | 0,_,_,_,_ => none
 | k + 1,x6,x25,x26,x27 => if x27 < x26 then (if 0 ≤ x27 then (if x27 < (x25.length : Int) then (if x6.length + (rd_L4 x25 x27).length < 3518437208883 then (slices_Concat.l1 k (x6 ++ (rd_L4 x25 x27)) x25 x26 (wrap64 (x27 + 1))) else (none)) else (none)) else (none)) else (some x6)
end
def slices_Concat.f (k : Nat) (l0 : List (List (S50))) : Option ((List (S50))) := slices_Concat.l0 k l0 0 l0 (l0.length : Int) 0
theorem slices_Concat.mono_l : ∀ k,(∀ y0 y1 y2 y3 y4,LeO (slices_Concat.l0 k y0 y1 y2 y3 y4) (slices_Concat.l0 (k + 1) y0 y1 y2 y3 y4)) ∧ (∀ y0 y1 y2 y3,LeO (slices_Concat.l1 k y0 y1 y2 y3) (slices_Concat.l1 (k + 1) y0 y1 y2 y3))
 | 0 => ⟨fun _ _ _ _ _ r h => by simp [slices_Concat.l0] at h,fun _ _ _ _ r h => by simp [slices_Concat.l1] at h⟩
 | k + 1 => by
  obtain ⟨ih0,ih1⟩ := slices_Concat.mono_l k
  refine ⟨?_,?_⟩
  ·intro y0 y1 y2 y3 y4
   unfold slices_Concat.l0
   repeat' first
   | (with_reducible exact ih0 _ _ _ _ _)
   | (with_reducible exact ih1 _ _ _ _)
   | (with_reducible exact LeO.refl _)
   | (with_reducible exact LeO.none _)
   | (with_reducible refine LeO.ite ?_ ?_)
   | (with_reducible refine LeO.bind ?_ (fun _ => ?_))
   | exact ih0 _ _ _ _ _
   | exact ih1 _ _ _ _
   | exact LeO.none _
   | refine LeO.ite ?_ ?_
   | refine LeO.bind ?_ (fun _ => ?_)
  ·intro y0 y1 y2 y3
   unfold slices_Concat.l1
   repeat' first
   | (with_reducible exact ih0 _ _ _ _ _)
   | (with_reducible exact ih1 _ _ _ _)
   | (with_reducible exact LeO.refl _)
   | (with_reducible exact LeO.none _)
   | (with_reducible refine LeO.ite ?_ ?_)
   | (with_reducible refine LeO.bind ?_ (fun _ => ?_))
   | exact ih0 _ _ _ _ _
   | exact ih1 _ _ _ _
   | exact LeO.none _
   | refine LeO.ite ?_ ?_
   | refine LeO.bind ?_ (fun _ => ?_)
theorem slices_Concat.mono : ∀ a0 k,LeO (slices_Concat.f k a0) (slices_Concat.f (k + 1) a0) := by
 intro a0 k
 obtain ⟨ih0,ih1⟩ := slices_Concat.mono_l k
 unfold slices_Concat.f
 repeat' first
   | (with_reducible exact ih0 _ _ _ _ _)
   | (with_reducible exact ih1 _ _ _ _)
   | (with_reducible exact LeO.refl _)
   | (with_reducible exact LeO.none _)
   | (with_reducible refine LeO.ite ?_ ?_)
   | (with_reducible refine LeO.bind ?_ (fun _ => ?_))
   | exact ih0 _ _ _ _ _
   | exact ih1 _ _ _ _
   | exact LeO.none _
   | refine LeO.ite ?_ ?_
   | refine LeO.bind ?_ (fun _ => ?_)
set_option maxHeartbeats 8000000 in
set_option maxRecDepth 100000 in
theorem slices_Concat.calls (k : Nat) (A0 : Option Addr) (c0 : Nat) (l0 : List (List (S50))) (r : List (S50)) (w : World) (hr0 : Kd.C (Kd.slice 50 k50) w A0 l0.length l0) (hc0 : l0.length ≤ c0) (h : slices_Concat.f k l0 = some r) :
  Calls Try.prog 47 #[.slice A0 l0.length c0] w fun e w' => ∃ v0_ : Value,e = .returned (v0_) ∧ Kd.R k50 50 w' w.heap.size (fun _ => True) v0_ r ∧ Below w.heap.size w w' := by
 have HR0 := Aside0.mk hr0
 have HC0 := Aside0.mk hc0
 clear hr0 hc0
 have HB := Aside0.mk (Below.refl w.heap.size w)
 have H : (slices_Concat.l0 k l0 0 l0 (l0.length : Int) 0) = some r := h
 clear h
 have H' := Aside0.mk H
 clear H
 go_enter Try.func47,Try.ntmps47
 go_wp2
 go_loopg [3,11] k (fun kq v3 v11 w' => ∃ (x3_1 : Int) (x11_1 : Int),v3 = .int .i64 x3_1 ∧ v11 = .int .i64 x11_1 ∧ Aside0 (slices_Concat.l0 kq l0 x3_1 l0 (l0.length : Int) x11_1 = some r) ∧ Aside0 (kq ≤ k) ∧ Aside0 (Below w.heap.size w w'))
 case atStart => exact ⟨(0),(0),(by first | rfl | (simp;done) | (simp [*];done)),(by first | rfl | (simp;done) | (simp [*];done)),H',⟨Nat.le_refl _⟩,⟨by repeat (first | (with_reducible first | exact HB.out | apply q0b | apply q0a | apply q0c) | exact HB.out)⟩⟩
 case round =>
  clear H'
  obtain ⟨x3_1,x11_1,rfl,rfl,HA,HK1,HB⟩ := hrel
  cases gk with
  | zero => exact absurd HA.out (by simp [slices_Concat.l0])
  | succ k1 =>
   have H := HA.out
   clear HA
   simp only [slices_Concat.l0] at H
   by_cases c2 : x11_1 < (l0.length : Int)
   ·rw [if_pos c2] at H
    have c2b0 : decide (x11_1 < (l0.length : Int)) = true := decide_eq_true c2
    clear c2
    by_cases c3 : 0 ≤ x11_1
    ·rw [if_pos c3] at H
     have c3b0 : decide (0 ≤ x11_1) = true := decide_eq_true c3
     clear c3
     by_cases c4 : x11_1 < (l0.length : Int)
     ·rw [if_pos c4] at H
      have c4b0 : decide (x11_1 < (l0.length : Int)) = true := decide_eq_true c4
      clear c4
      by_cases c5 : (wrap64 (x3_1 + ((rd_L4 l0 x11_1).length : Int))) < 0
      ·rw [if_pos c5] at H
       exact absurd H (by simp)
      ·rw [if_neg c5] at H
       have c5b0 : decide ((wrap64 (x3_1 + ((rd_L4 l0 x11_1).length : Int))) < 0) = false := decide_eq_false c5
       clear c5
       have H' := Aside0.mk H
       clear H
       have p111 : 0 ≤ (x11_1 : Int) := of_decide_eq_true (by first | (with_reducible assumption) | assumption)
       have q111 : x11_1 < (l0.length : Int) := of_decide_eq_true (by first | (with_reducible assumption) | assumption)
       obtain ⟨ad111,A111_0,c111_0,e111,hx111_0,hl111_0,hi111_0⟩ := at_L4 HR0.out x11_1 p111 q111
       cases e111
       replace hx111_0 := (HB.out.cell (World.block_lt_of_cell? w _ hx111_0)).trans hx111_0
       have HR111_0 := Aside0.mk hi111_0
       have HC111_0 := Aside0.mk hl111_0
       clear hi111_0 hl111_0
       replace p111 := eq_true p111
       replace q111 := eq_true q111
       go_wp2
       go_roundg k1
       case measure => have := HK1.out;omega
       case rel => exact ⟨(wrap64 (x3_1 + ((rd_L4 l0 x11_1).length : Int))),(wrap64 (x11_1 + 1)),(by first | rfl | (simp;done) | (simp [*];done)),(by first | rfl | (simp;done) | (simp [*];done)),H',⟨by have := HK1.out;omega⟩,⟨by repeat (first | (with_reducible first | exact HB.out | apply q0b | apply q0a | apply q0c) | exact HB.out)⟩⟩
     ·rw [if_neg c4] at H
      exact absurd H (by simp)
    ·rw [if_neg c3] at H
     exact absurd H (by simp)
   ·rw [if_neg c2] at H
    have c2b0 : decide (x11_1 < (l0.length : Int)) = false := decide_eq_false c2
    clear c2
    replace H := Option.bind_eq_some_iff.mp H
    obtain ⟨t112,A60,H⟩ := H
    replace H : (slices_Concat.l1 k1 t112 l0 (l0.length : Int) 0) = some r := H
    have A6 := Aside0.mk A60
    clear A60
    have H' := Aside0.mk H
    clear H
    go_wp2_with (first | ((with_reducible refine q0t (f := 67) rfl ?_);refine goesL_ (some 24) rfl rfl Try.func67 (by kernel_rfl) rfl #[.slice none 0 0,.int .i64 x3_1] rfl (by (try simp only [List.map_toArray,List.map_cons,List.map_nil]);first | done | rfl | (simp only [List.length_drop,List.length_take];rfl)) ?_;(refine (slices_Grow_nil none 0 ([] : List (S50)) x3_1 t112 _ ?side1 ?side2 A6.out).mono ?_);(case side1 => exact Kd.C_nil _ _);(case side2 => exact Nat.le_refl _);rintro e w7 ⟨v113,rfl,ho0,hb⟩;refine ⟨_,rfl,?_⟩;have n0_ := Aside0.mk (Kd.R_lower ho0 (q0g (by repeat (first | (with_reducible first | exact HB.out | apply q0b | apply q0a | apply q0c) | exact HB.out))));have n1_ := Aside0.mk (q0l (by repeat (first | (with_reducible first | exact HB.out | apply q0b | apply q0a | apply q0c) | exact HB.out)) hb);clear HB;have HO114 := n0_;have HB := n1_;clear n0_ n1_;(try clear hb);(try clear hb2);(try clear hk);(try clear hi);(try clear ho0)))
    go_loopg [6,27] k1 (fun kq v6 v27 w' => ∃ (x6_2 : List (S50)) (x27_2 : Int),v27 = .int .i64 x27_2 ∧ Aside0 (slices_Concat.l1 kq x6_2 l0 (l0.length : Int) x27_2 = some r) ∧ Aside0 (kq ≤ k1) ∧ Aside0 (Kd.R k50 50 w' w.heap.size (fun _ => True) v6 x6_2) ∧ Aside0 (Below w.heap.size w w'))
    case atStart => exact ⟨(t112),(0),(by first | rfl | (simp;done) | (simp [*];done)),H',⟨Nat.le_refl _⟩,⟨by (with_reducible repeat (first | apply Kd.q0p | apply Kd.q0q | apply Kd.R_drew));exact HO114.out⟩,⟨by repeat (first | (with_reducible first | exact HB.out | apply q0b | apply q0a | apply q0c) | exact HB.out)⟩⟩
    case round =>
     clear H'
     try clear c1
     try clear p1
     try clear q1
     try clear hx1
     try clear c2
     try clear c2b0
     try clear p2
     try clear c3
     try clear c3b0
     try clear c4
     try clear c4b0
     try clear c5
     try clear c5b0
     try clear c6
     try clear p6
     try clear hx111_0
     try clear p111
     try clear q111
     obtain ⟨x6_2,x27_2,rfl,HA,HK2,HO_6,HB⟩ := hrel
     cases gk with
     | zero => exact absurd HA.out (by simp [slices_Concat.l1])
     | succ k2 =>
      have H := HA.out
      clear HA
      simp only [slices_Concat.l1] at H
      by_cases c8 : x27_2 < (l0.length : Int)
      ·rw [if_pos c8] at H
       have c8b0 : decide (x27_2 < (l0.length : Int)) = true := decide_eq_true c8
       clear c8
       by_cases c9 : 0 ≤ x27_2
       ·rw [if_pos c9] at H
        have c9b0 : decide (0 ≤ x27_2) = true := decide_eq_true c9
        clear c9
        by_cases c10 : x27_2 < (l0.length : Int)
        ·rw [if_pos c10] at H
         have c10b0 : decide (x27_2 < (l0.length : Int)) = true := decide_eq_true c10
         clear c10
         by_cases c11 : x6_2.length + (rd_L4 l0 x27_2).length < 3518437208883
         ·rw [if_pos c11] at H
          have LMc11 := Aside0.mk c11
          clear c11
          obtain ⟨y116,hy116⟩ : ∃ y_ : List (S50),y_ = (x6_2 ++ (rd_L4 l0 x27_2)) := ⟨_,rfl⟩
          replace H : (slices_Concat.l1 k2 y116 l0 (l0.length : Int) (wrap64 (x27_2 + 1))) = some r := by first | (rw [hy116];with_reducible exact H) | (have H2_ := (Option.bind_some _ _).symm.trans H;rw [hy116];with_reducible exact H2_) | (have H2_ := (Option.bind_some _ _).symm.trans H;with_reducible exact H2_) | with_reducible exact H | (rw [hy116];exact H) | exact H
          have Ny116 := Aside0.mk hy116
          clear hy116
          have H' := Aside0.mk H
          clear H
          have p115 : 0 ≤ (x27_2 : Int) := of_decide_eq_true (by first | (with_reducible assumption) | assumption)
          have q115 : x27_2 < (l0.length : Int) := of_decide_eq_true (by first | (with_reducible assumption) | assumption)
          obtain ⟨ad115,A115_0,c115_0,e115,hx115_0,hl115_0,hi115_0⟩ := at_L4 HR0.out x27_2 p115 q115
          cases e115
          replace hx115_0 := (HB.out.cell (World.block_lt_of_cell? w _ hx115_0)).trans hx115_0
          have HR115_0 := Aside0.mk hi115_0
          have HC115_0 := Aside0.mk hl115_0
          clear hi115_0 hl115_0
          replace p115 := eq_true p115
          replace q115 := eq_true q115
          go_wp2_with (first | ((with_reducible refine gate_builtin (b := .append) (xs := #[.tmp 31,.tmp 32]) rfl ?_);at_builtin;refine Kd.R_append_rows k50 (w0 := w) w.heap.size rfl (.tmp 31) (.tmp 32) 22 50 (.agg #[(.int .i64 0),(.bool false),(.int .i64 0),(.string ⟨#[]⟩)]) 40 rfl Try.underlying22 info50 rfl (by decide) (by omega) u6 x6_2 (rd_L4 l0 x27_2) _ _ _ (fun _ => True) (fun _ => False) rfl rfl ?aO ?aR (fun _ _ h => h) (fun _ h => h.elim) ?aF ?aB ?aS ?aL ?_;(case aR => repeat (first | exact (Kd.C_below HR115_0.out HB.out) | (with_reducible refine Kd.C_alloc ?_ _) | (with_reducible refine Kd.C_drewN ?_ _) | (with_reducible refine Kd.C_drew ?_)));(case aB => exact (by repeat (first | (with_reducible first | exact HB.out | apply q0b | apply q0a | apply q0c) | exact HB.out)));(case aF => exact (fun _ _ => trivial));(case aO => exact (by (with_reducible repeat (first | apply Kd.q0p | apply Kd.q0q | apply Kd.R_drew));exact HO_6.out));(case aS => exact (q0g (by repeat (first | (with_reducible first | exact HB.out | apply q0b | apply q0a | apply q0c) | exact HB.out))));(case aL => have := LMc11.out;omega);intro v117 w12 ho hb hg hat;rw [← Ny116.out] at ho;have n0_ := Aside0.mk (hb);have n1_ := Aside0.mk (ho);clear HB;clear HO_6;have HB := n0_;have HO118 := n1_;clear n0_ n1_;clear ho hb hg hat))
          go_roundg k2
          case measure => have := HK1.out;have := HK2.out;omega
          case rel => exact ⟨(y116),(wrap64 (x27_2 + 1)),(by first | rfl | (simp;done) | (simp [*];done)),H',⟨by have := HK1.out;have := HK2.out;omega⟩,⟨by (with_reducible repeat (first | apply Kd.q0p | apply Kd.q0q | apply Kd.R_drew));exact HO118.out⟩,⟨by repeat (first | (with_reducible first | exact HB.out | apply q0b | apply q0a | apply q0c) | exact HB.out)⟩⟩
         ·rw [if_neg c11] at H
          exact absurd H (by simp)
        ·rw [if_neg c10] at H
         exact absurd H (by simp)
       ·rw [if_neg c9] at H
        exact absurd H (by simp)
      ·rw [if_neg c8] at H
       have c8b0 : decide (x27_2 < (l0.length : Int)) = false := decide_eq_false c8
       clear c8
       obtain rfl := Option.some.inj H
       go_wp2
       go_ret
       exact ⟨_,by first | rfl | (simp [q0n,q0o] <;> rfl) | (simp [*,q0n,q0o] <;> rfl),by (with_reducible repeat (first | apply Kd.q0p | apply Kd.q0q | apply Kd.R_drew));exact HO_6.out,by repeat (first | (with_reducible first | exact HB.out | apply q0b | apply q0a | apply q0c) | exact HB.out)⟩
end Go.Proofs.Ytfoaeigoajooeaa.Z
end
section
namespace Go.Proofs.Ytfoaeigoajooeaa.Z
open Go.RowKit Go.Proofs.YtfoaeigoajooeaaW.PrintWords Go.Proofs.YtfoaeigoajooeaaW.PrintLast Go.Proofs.YtfoaeigoajooeaaW.PrintMore
attribute [local go_sem] max2_int min2_int max_two min_two max_three min_three max_four min_four
set_option linter.unusedVariables false
set_option linter.unusedSimpArgs false
def row_Join.f (k : Nat) (l0 : List (List (S50))) : Option ((List (S50))) := (slices_Concat.f k l0).bind fun t119 => (some t119)
theorem row_Join.mono : ∀ a0 k,LeO (row_Join.f k a0) (row_Join.f (k + 1) a0) := by
 intro a0 k
 unfold row_Join.f
 repeat' first
   | (with_reducible exact slices_Concat.mono _ _)
   | (with_reducible exact LeO.refl _)
   | (with_reducible exact LeO.none _)
   | (with_reducible refine LeO.ite ?_ ?_)
   | (with_reducible refine LeO.bind ?_ (fun _ => ?_))
   | exact slices_Concat.mono _ _
   | exact LeO.none _
   | refine LeO.ite ?_ ?_
   | refine LeO.bind ?_ (fun _ => ?_)
set_option maxHeartbeats 8000000 in
set_option maxRecDepth 100000 in
theorem row_Join.calls (k : Nat) (A0 : Option Addr) (c0 : Nat) (l0 : List (List (S50))) (r : List (S50)) (w : World) (hr0 : Kd.C (Kd.slice 50 k50) w A0 l0.length l0) (hc0 : l0.length ≤ c0) (h : row_Join.f k l0 = some r) :
  Calls Try.prog 17 #[.slice A0 l0.length c0] w fun e w' => ∃ v0_ : Value,e = .returned (v0_) ∧ Kd.R k50 50 w' w.heap.size (fun _ => True) v0_ r ∧ Below w.heap.size w w' := by
 have HR0 := Aside0.mk hr0
 have HC0 := Aside0.mk hc0
 clear hr0 hc0
 have HB := Aside0.mk (Below.refl w.heap.size w)
 have H : ((slices_Concat.f k l0).bind fun t119 => (some t119)) = some r := h
 clear h
 replace H := Option.bind_eq_some_iff.mp H
 obtain ⟨t119,A20,H⟩ := H
 replace H : (some t119) = some r := H
 have A2 := Aside0.mk A20
 clear A20
 obtain rfl := Option.some.inj H
 go_enter Try.func17,Try.ntmps17
 go_wp2_with (first | ((with_reducible refine q0t (f := 47) rfl ?_);refine goesL_ (some 4) rfl rfl Try.func47 (by kernel_rfl) rfl #[.slice A0 l0.length c0] rfl (by (try simp only [List.map_toArray,List.map_cons,List.map_nil]);first | done | rfl | (simp only [List.length_drop,List.length_take];rfl)) ?_;(with_reducible refine (slices_Concat.calls k _ _ l0 t119 _ ?side1 ?side2 A2.out).mono ?_);(case side1 => repeat (first | exact HR0.out | (with_reducible refine Kd.C_alloc ?_ _) | (with_reducible refine Kd.C_drewN ?_ _) | (with_reducible refine Kd.C_drew ?_)));(case side2 => exact HC0.out);rintro e w3 ⟨v120,rfl,ho0,hb⟩;refine ⟨_,rfl,?_⟩;have n0_ := Aside0.mk (Kd.R_lower ho0 (q0g (by repeat (first | (with_reducible first | exact HB.out | apply q0b | apply q0a | apply q0c) | exact HB.out))));have n1_ := Aside0.mk (q0l (by repeat (first | (with_reducible first | exact HB.out | apply q0b | apply q0a | apply q0c) | exact HB.out)) hb);clear HB;have HO121 := n0_;have HB := n1_;clear n0_ n1_;(try clear hb);(try clear hb2);(try clear hk);(try clear hi);(try clear ho0)))
 go_ret
 exact ⟨_,by first | rfl | (simp [q0n,q0o] <;> rfl) | (simp [*,q0n,q0o] <;> rfl),by (with_reducible repeat (first | apply Kd.q0p | apply Kd.q0q | apply Kd.R_drew));exact HO121.out,by repeat (first | (with_reducible first | exact HB.out | apply q0b | apply q0a | apply q0c) | exact HB.out)⟩
end Go.Proofs.Ytfoaeigoajooeaa.Z
end
section
namespace Go.Proofs.Ytfoaeigoajooeaa.Z
open Go.RowKit Go.Proofs.YtfoaeigoajooeaaW.PrintWords Go.Proofs.YtfoaeigoajooeaaW.PrintLast Go.Proofs.YtfoaeigoajooeaaW.PrintMore
attribute [local go_sem] max2_int min2_int max_two min_two max_three min_three max_four min_four
set_option linter.unusedVariables false
set_option linter.unusedSimpArgs false
def slices_Clone.f (l0 : List (S50)) : Option ((List (S50))) := (some (([] : List (S50)) : List (S50))).bind fun y141 => (if y141.length + l0.length < 3518437208883 then (some (y141 ++ l0)) else (none))
set_option maxHeartbeats 8000000 in
set_option maxRecDepth 100000 in
theorem slices_Clone.calls (A0 : Option Addr) (c0 : Nat) (l0 : List (S50)) (r : List (S50)) (w : World) (hr0 : Kd.C k50 w A0 l0.length l0) (hc0 : l0.length ≤ c0) (h : slices_Clone.f l0 = some r) :
  Calls Try.prog 54 #[.slice A0 l0.length c0] w fun e w' => ∃ v0_ : Value,e = .returned (v0_) ∧ Kd.R k50 50 w' w.heap.size (fun _ => True) v0_ r ∧ Below w.heap.size w w' := by
 have hq22 : ∀ (W : World) a n c,Sem.run Try.prog (binOp .eql 22 (.slice a n c) (.slice none 0 0)) W = .ok (.bool a.isNone) W := fun W a n c => Lib.run_eql_slice_nil W _ _ a n c 0 0 Try.underlying22
 cases A0 with
 | none =>
  obtain rfl : l0 = [] := C_none hr0
  obtain rfl : r = [] := by simpa [slices_Clone.f] using h.symm
  go_enter Try.func54,Try.ntmps54
  go_wp2
  go_ret
  exact ⟨_,rfl,Kd.R_nil _ _ _ _ _,Below.refl _ _⟩
 | some ad0 =>
 have HR0 := Aside0.mk hr0
 have HC0 := Aside0.mk hc0
 clear hr0 hc0
 have HB := Aside0.mk (Below.refl w.heap.size w)
 have H : ((some (([] : List (S50)) : List (S50))).bind fun y141 => (if y141.length + l0.length < 3518437208883 then (some (y141 ++ l0)) else (none))) = some r := h
 clear h
 obtain ⟨y141,hy141⟩ : ∃ y_ : List (S50),y_ = (([] : List (S50))) := ⟨_,rfl⟩
 replace H : (if y141.length + l0.length < 3518437208883 then (some (y141 ++ l0)) else (none)) = some r := by first | (rw [hy141];with_reducible exact H) | (have H2_ := (Option.bind_some _ _).symm.trans H;rw [hy141];with_reducible exact H2_) | (have H2_ := (Option.bind_some _ _).symm.trans H;with_reducible exact H2_) | with_reducible exact H | (rw [hy141];exact H) | exact H
 have Ny141 := Aside0.mk hy141
 clear hy141
 by_cases c2 : y141.length + l0.length < 3518437208883
 ·rw [if_pos c2] at H
  have LMc2 := Aside0.mk c2
  clear c2
  obtain ⟨y144,hy144⟩ : ∃ y_ : List (S50),y_ = (y141 ++ l0) := ⟨_,rfl⟩
  replace H : (some y144) = some r := by first | (rw [hy144];with_reducible exact H) | (have H2_ := (Option.bind_some _ _).symm.trans H;rw [hy144];with_reducible exact H2_) | (have H2_ := (Option.bind_some _ _).symm.trans H;with_reducible exact H2_) | with_reducible exact H | (rw [hy144];exact H) | exact H
  have Ny144 := Aside0.mk hy144
  clear hy144
  obtain rfl := Option.some.inj H
  go_enter Try.func54,Try.ntmps54
  go_wp2_with (first | ((with_reducible refine q0s (N := 5) rfl ?_);refine Kd.R_lit k50 _ 50 ?hg (N := 5) ?hd (xs := ([] : List (S50))) (inner := []) (ok := fun _ => True) (okp := fun _ => True) ?hr ?hp (fun _ hk => hk) trivial (Below.refl _ _) (Nat.le_refl _) (by simp) ?_;(case hd => rfl);(case hg => rfl);(case hr => first | (go_simp;done) | (go_simp;rfl));(case hp => exact (Reps.none _ _));intro v142 w3 ho4 hb hg_ hnew_;clear hg_ hnew_;(first | rw [← Ny141.out] at ho4 | (simp only [Int.reduceToNat] at ho4;rw [← Ny141.out] at ho4));have n0_ := Aside0.mk (Kd.R_lower ho4 (q0g (by repeat (first | (with_reducible first | exact HB.out | apply q0b | apply q0a | apply q0c) | exact HB.out))));have n1_ := Aside0.mk (q0l (by repeat (first | (with_reducible first | exact HB.out | apply q0b | apply q0a | apply q0c) | exact HB.out)) hb);clear HB;have HO143 := n0_;have HB := n1_;clear n0_ n1_;clear hb ho4) | ((with_reducible refine gate_builtin (b := .append) (xs := #[.tmp 5,.tmp 6]) rfl ?_);at_builtin;refine Kd.R_append_rows k50 (w0 := w) w.heap.size rfl (.tmp 5) (.tmp 6) 22 50 (.agg #[(.int .i64 0),(.bool false),(.int .i64 0),(.string ⟨#[]⟩)]) 40 rfl Try.underlying22 info50 rfl (by decide) (by omega) v142 y141 l0 _ _ _ (fun _ => True) (fun _ => False) rfl rfl ?aO ?aR (fun _ _ h => h) (fun _ h => h.elim) ?aF ?aB ?aS ?aL ?_;(case aR => repeat (first | exact (Kd.C_below HR0.out HB.out) | (with_reducible refine Kd.C_alloc ?_ _) | (with_reducible refine Kd.C_drewN ?_ _) | (with_reducible refine Kd.C_drew ?_)));(case aB => exact (by repeat (first | (with_reducible first | exact HB.out | apply q0b | apply q0a | apply q0c) | exact HB.out)));(case aF => exact (fun _ _ => trivial));(case aO => exact (by (with_reducible repeat (first | apply Kd.q0p | apply Kd.q0q | apply Kd.R_drew));exact HO143.out));(case aS => exact (q0g (by repeat (first | (with_reducible first | exact HB.out | apply q0b | apply q0a | apply q0c) | exact HB.out))));(case aL => have := LMc2.out;omega);intro v145 w5 ho hb hg hat;rw [← Ny144.out] at ho;have n0_ := Aside0.mk (hb);have n1_ := Aside0.mk (ho);clear HB;clear HO143;have HB := n0_;have HO146 := n1_;clear n0_ n1_;clear ho hb hg hat))
  go_ret
  exact ⟨_,by first | rfl | (simp [q0n,q0o] <;> rfl) | (simp [*,q0n,q0o] <;> rfl),by (with_reducible repeat (first | apply Kd.q0p | apply Kd.q0q | apply Kd.R_drew));exact HO146.out,by repeat (first | (with_reducible first | exact HB.out | apply q0b | apply q0a | apply q0c) | exact HB.out)⟩
 ·rw [if_neg c2] at H
  exact absurd H (by simp)
end Go.Proofs.Ytfoaeigoajooeaa.Z
end
section
namespace Go.Proofs.Ytfoaeigoajooeaa.Z
open Go.RowKit Go.Proofs.YtfoaeigoajooeaaW.PrintWords Go.Proofs.YtfoaeigoajooeaaW.PrintLast Go.Proofs.YtfoaeigoajooeaaW.PrintMore
attribute [local go_sem] max2_int min2_int max_two min_two max_three min_three max_four min_four
set_option linter.unusedVariables false
set_option linter.unusedSimpArgs false
def row_Of.f (l0 : List (S50)) : Option ((List (S50))) := (slices_Clone.f l0).bind fun t147 => (some t147)
set_option maxHeartbeats 8000000 in
set_option maxRecDepth 100000 in
theorem row_Of.calls (A0 : Option Addr) (c0 : Nat) (l0 : List (S50)) (r : List (S50)) (w : World) (hr0 : Kd.C k50 w A0 l0.length l0) (hc0 : l0.length ≤ c0) (h : row_Of.f l0 = some r) :
  Calls Try.prog 26 #[.slice A0 l0.length c0] w fun e w' => ∃ v0_ : Value,e = .returned (v0_) ∧ Kd.R k50 50 w' w.heap.size (fun _ => True) v0_ r ∧ Below w.heap.size w w' := by
 have HR0 := Aside0.mk hr0
 have HC0 := Aside0.mk hc0
 clear hr0 hc0
 have HB := Aside0.mk (Below.refl w.heap.size w)
 have H : ((slices_Clone.f l0).bind fun t147 => (some t147)) = some r := h
 clear h
 replace H := Option.bind_eq_some_iff.mp H
 obtain ⟨t147,A20,H⟩ := H
 replace H : (some t147) = some r := H
 have A2 := Aside0.mk A20
 clear A20
 obtain rfl := Option.some.inj H
 go_enter Try.func26,Try.ntmps26
 go_wp2_with (first | ((with_reducible refine q0t (f := 54) rfl ?_);refine goesL_ (some 4) rfl rfl Try.func54 (by kernel_rfl) rfl #[.slice A0 l0.length c0] rfl (by (try simp only [List.map_toArray,List.map_cons,List.map_nil]);first | done | rfl | (simp only [List.length_drop,List.length_take];rfl)) ?_;(with_reducible refine (slices_Clone.calls _ _ l0 t147 _ ?side1 ?side2 A2.out).mono ?_);(case side1 => repeat (first | exact HR0.out | (with_reducible refine Kd.C_alloc ?_ _) | (with_reducible refine Kd.C_drewN ?_ _) | (with_reducible refine Kd.C_drew ?_)));(case side2 => exact HC0.out);rintro e w3 ⟨v148,rfl,ho0,hb⟩;refine ⟨_,rfl,?_⟩;have n0_ := Aside0.mk (Kd.R_lower ho0 (q0g (by repeat (first | (with_reducible first | exact HB.out | apply q0b | apply q0a | apply q0c) | exact HB.out))));have n1_ := Aside0.mk (q0l (by repeat (first | (with_reducible first | exact HB.out | apply q0b | apply q0a | apply q0c) | exact HB.out)) hb);clear HB;have HO149 := n0_;have HB := n1_;clear n0_ n1_;(try clear hb);(try clear hb2);(try clear hk);(try clear hi);(try clear ho0)))
 go_ret
 exact ⟨_,by first | rfl | (simp [q0n,q0o] <;> rfl) | (simp [*,q0n,q0o] <;> rfl),by (with_reducible repeat (first | apply Kd.q0p | apply Kd.q0q | apply Kd.R_drew));exact HO149.out,by repeat (first | (with_reducible first | exact HB.out | apply q0b | apply q0a | apply q0c) | exact HB.out)⟩
end Go.Proofs.Ytfoaeigoajooeaa.Z
end
section
namespace Go.Proofs.Ytfoaeigoajooeaa.Z
open Go.RowKit Go.Proofs.YtfoaeigoajooeaaW.PrintWords Go.Proofs.YtfoaeigoajooeaaW.PrintLast Go.Proofs.YtfoaeigoajooeaaW.PrintMore
attribute [local go_sem] max2_int min2_int max_two min_two max_three min_three max_four min_four
set_option linter.unusedVariables false
set_option linter.unusedSimpArgs false
def value_Int.f (a0 : Int) : Option (Int × Bool × Int × ByteArray) := some (2,false,a0,(⟨#[]⟩ : ByteArray))
set_option maxHeartbeats 8000000 in
set_option maxRecDepth 100000 in
theorem value_Int.calls (a0 : Int) (r1 : Int) (r2 : Bool) (r3 : Int) (r4 : ByteArray) (w : World) (h : value_Int.f a0 = some (r1,r2,r3,r4)) :
  Calls Try.prog 42 #[.int .i64 a0] w fun e w' => e = .returned (.agg #[.int .i64 r1,.bool r2,.int .i64 r3,.string r4]) ∧ Below w.heap.size w w' := by
 have hu50 := Try.underlying50
 have HB := Aside0.mk (Below.refl w.heap.size w)
 have H : (some (2,false,a0,(⟨#[]⟩ : ByteArray))) = some (r1,r2,r3,r4) := h
 clear h
 simp only [Option.some.injEq,Prod.mk.injEq] at H
 obtain ⟨rfl,rfl,rfl,rfl⟩ := H
 go_enter Try.func42,Try.ntmps42
 go_wp2_with (first | ((with_reducible refine q0s (N := 2) rfl ?_);refine q0r ?hg (N := 2) ?hd (cs := #[.int .i64 0,.bool false,.int .i64 0,.string (⟨#[]⟩ : ByteArray)]) (t := 50) ?hr ?_;(case hd => rfl);(case hg => rfl);(case hr => first | (go_simp;done) | (go_simp;rfl));intro gb150 hg w2 hbox hb;have n0_ := Aside0.mk (q0l (by repeat (first | (with_reducible first | exact HB.out | apply q0b | apply q0a | apply q0c) | exact HB.out)) hb);have n1_ := Aside0.mk (hbox);have n2_ := Aside0.mk ((by rw [hg];exact (q0g (by repeat (first | (with_reducible first | exact HB.out | apply q0b | apply q0a | apply q0c) | exact HB.out))) : w.heap.size ≤ gb150));have n3_ := Aside0.mk ((by rw [hg];exact (q0g (by repeat (first | (with_reducible first | exact HB.out | apply q0b | apply q0a | apply q0c) | exact HB.out))) : w.heap.size ≤ gb150));clear HB;have HB := n0_;have BK150 := n1_;have GW150 := n2_;have GE150 := n3_;clear n0_ n1_ n2_ n3_;clear hb hbox hg;have hcz3_0 : w2.cell? ⟨gb150,0,none⟩ = some (.int .i64 0) := (q0e BK150.out 0).trans rfl;have hcz3_1 : w2.cell? ⟨gb150,1,none⟩ = some (.bool false) := (q0e BK150.out 1).trans rfl;have hcz3_2 : w2.cell? ⟨gb150,2,none⟩ = some (.int .i64 0) := (q0e BK150.out 2).trans rfl;have hcz3_3 : w2.cell? ⟨gb150,3,none⟩ = some (.string (⟨#[]⟩ : ByteArray)) := (q0e BK150.out 3).trans rfl;have hfz3_0 := q0d BK150.out 0;have hfz3_1 := q0d BK150.out 1;have hfz3_2 := q0d BK150.out 2;have hfz3_3 := q0d BK150.out 3))
 refine bodyPost_ret (results_cell_row rfl _ _ gb150 50 #[.int .i64 2,.bool false,.int .i64 a0,.string (⟨#[]⟩ : ByteArray)] (0,0) _ rfl (by (with_reducible repeat (first | refine q0i ?_ _ | refine q0j ?_ | refine q0h ?_ _));refine blk_put (cs := #[.int .i64 2,.bool false,.int .i64 a0,.string (⟨#[]⟩ : ByteArray)]) ?_ 3 _ rfl;(with_reducible repeat (first | refine q0i ?_ _ | refine q0j ?_ | refine q0h ?_ _));refine blk_put (cs := #[.int .i64 2,.bool false,.int .i64 0,.string (⟨#[]⟩ : ByteArray)]) ?_ 2 _ rfl;(with_reducible repeat (first | refine q0i ?_ _ | refine q0j ?_ | refine q0h ?_ _));refine blk_put (cs := #[.int .i64 2,.bool false,.int .i64 0,.string (⟨#[]⟩ : ByteArray)]) ?_ 1 _ rfl;(with_reducible repeat (first | refine q0i ?_ _ | refine q0j ?_ | refine q0h ?_ _));refine blk_put (cs := #[.int .i64 0,.bool false,.int .i64 0,.string (⟨#[]⟩ : ByteArray)]) ?_ 0 _ rfl;(with_reducible repeat (first | refine q0i ?_ _ | refine q0j ?_ | refine q0h ?_ _));exact BK150.out) Try.underlying50 rfl (by kernel_rfl)) rfl ?_
 exact ⟨by first | rfl | (simp [q0n,q0o] <;> rfl) | (simp [*,q0n,q0o] <;> rfl),by repeat (first | (with_reducible first | exact HB.out | apply q0b | apply q0a | apply q0c | refine q0k ?_ GE150.out) | exact HB.out)⟩
end Go.Proofs.Ytfoaeigoajooeaa.Z
end
section
namespace Go.Proofs.Ytfoaeigoajooeaa.Z
open Go.RowKit Go.Proofs.YtfoaeigoajooeaaW.PrintWords Go.Proofs.YtfoaeigoajooeaaW.PrintLast Go.Proofs.YtfoaeigoajooeaaW.PrintMore
attribute [local go_sem] max2_int min2_int max_two min_two max_three min_three max_four min_four
set_option linter.unusedVariables false
set_option linter.unusedSimpArgs false
def value_Bool.f (a0 : Bool) : Option (Int × Bool × Int × ByteArray) := some (1,a0,0,(⟨#[]⟩ : ByteArray))
set_option maxHeartbeats 8000000 in
set_option maxRecDepth 100000 in
theorem value_Bool.calls (a0 : Bool) (r1 : Int) (r2 : Bool) (r3 : Int) (r4 : ByteArray) (w : World) (h : value_Bool.f a0 = some (r1,r2,r3,r4)) :
  Calls Try.prog 43 #[.bool a0] w fun e w' => e = .returned (.agg #[.int .i64 r1,.bool r2,.int .i64 r3,.string r4]) ∧ Below w.heap.size w w' := by
 have hu50 := Try.underlying50
 have HB := Aside0.mk (Below.refl w.heap.size w)
 have H : (some (1,a0,0,(⟨#[]⟩ : ByteArray))) = some (r1,r2,r3,r4) := h
 clear h
 simp only [Option.some.injEq,Prod.mk.injEq] at H
 obtain ⟨rfl,rfl,rfl,rfl⟩ := H
 go_enter Try.func43,Try.ntmps43
 go_wp2_with (first | ((with_reducible refine q0s (N := 2) rfl ?_);refine q0r ?hg (N := 2) ?hd (cs := #[.int .i64 0,.bool false,.int .i64 0,.string (⟨#[]⟩ : ByteArray)]) (t := 50) ?hr ?_;(case hd => rfl);(case hg => rfl);(case hr => first | (go_simp;done) | (go_simp;rfl));intro gb151 hg w2 hbox hb;have n0_ := Aside0.mk (q0l (by repeat (first | (with_reducible first | exact HB.out | apply q0b | apply q0a | apply q0c) | exact HB.out)) hb);have n1_ := Aside0.mk (hbox);have n2_ := Aside0.mk ((by rw [hg];exact (q0g (by repeat (first | (with_reducible first | exact HB.out | apply q0b | apply q0a | apply q0c) | exact HB.out))) : w.heap.size ≤ gb151));have n3_ := Aside0.mk ((by rw [hg];exact (q0g (by repeat (first | (with_reducible first | exact HB.out | apply q0b | apply q0a | apply q0c) | exact HB.out))) : w.heap.size ≤ gb151));clear HB;have HB := n0_;have BK151 := n1_;have GW151 := n2_;have GE151 := n3_;clear n0_ n1_ n2_ n3_;clear hb hbox hg;have hcz3_0 : w2.cell? ⟨gb151,0,none⟩ = some (.int .i64 0) := (q0e BK151.out 0).trans rfl;have hcz3_1 : w2.cell? ⟨gb151,1,none⟩ = some (.bool false) := (q0e BK151.out 1).trans rfl;have hcz3_2 : w2.cell? ⟨gb151,2,none⟩ = some (.int .i64 0) := (q0e BK151.out 2).trans rfl;have hcz3_3 : w2.cell? ⟨gb151,3,none⟩ = some (.string (⟨#[]⟩ : ByteArray)) := (q0e BK151.out 3).trans rfl;have hfz3_0 := q0d BK151.out 0;have hfz3_1 := q0d BK151.out 1;have hfz3_2 := q0d BK151.out 2;have hfz3_3 := q0d BK151.out 3))
 refine bodyPost_ret (results_cell_row rfl _ _ gb151 50 #[.int .i64 1,.bool a0,.int .i64 0,.string (⟨#[]⟩ : ByteArray)] (0,0) _ rfl (by (with_reducible repeat (first | refine q0i ?_ _ | refine q0j ?_ | refine q0h ?_ _));refine blk_put (cs := #[.int .i64 1,.bool a0,.int .i64 0,.string (⟨#[]⟩ : ByteArray)]) ?_ 3 _ rfl;(with_reducible repeat (first | refine q0i ?_ _ | refine q0j ?_ | refine q0h ?_ _));refine blk_put (cs := #[.int .i64 1,.bool a0,.int .i64 0,.string (⟨#[]⟩ : ByteArray)]) ?_ 2 _ rfl;(with_reducible repeat (first | refine q0i ?_ _ | refine q0j ?_ | refine q0h ?_ _));refine blk_put (cs := #[.int .i64 1,.bool false,.int .i64 0,.string (⟨#[]⟩ : ByteArray)]) ?_ 1 _ rfl;(with_reducible repeat (first | refine q0i ?_ _ | refine q0j ?_ | refine q0h ?_ _));refine blk_put (cs := #[.int .i64 0,.bool false,.int .i64 0,.string (⟨#[]⟩ : ByteArray)]) ?_ 0 _ rfl;(with_reducible repeat (first | refine q0i ?_ _ | refine q0j ?_ | refine q0h ?_ _));exact BK151.out) Try.underlying50 rfl (by kernel_rfl)) rfl ?_
 exact ⟨by first | rfl | (simp [q0n,q0o] <;> rfl) | (simp [*,q0n,q0o] <;> rfl),by repeat (first | (with_reducible first | exact HB.out | apply q0b | apply q0a | apply q0c | refine q0k ?_ GE151.out) | exact HB.out)⟩
end Go.Proofs.Ytfoaeigoajooeaa.Z
end
section
namespace Go.Proofs.Ytfoaeigoajooeaa.Z
open Go.RowKit Go.Proofs.YtfoaeigoajooeaaW.PrintWords Go.Proofs.YtfoaeigoajooeaaW.PrintLast Go.Proofs.YtfoaeigoajooeaaW.PrintMore
attribute [local go_sem] max2_int min2_int max_two min_two max_three min_three max_four min_four
set_option linter.unusedVariables false
set_option linter.unusedSimpArgs false
def value_Null.f  : Option (Int × Bool × Int × ByteArray) := some (0,false,0,(⟨#[]⟩ : ByteArray))
set_option maxHeartbeats 8000000 in
set_option maxRecDepth 100000 in
theorem value_Null.calls  (r1 : Int) (r2 : Bool) (r3 : Int) (r4 : ByteArray) (w : World) (h : value_Null.f  = some (r1,r2,r3,r4)) :
  Calls Try.prog 44 #[] w fun e w' => e = .returned (.agg #[.int .i64 r1,.bool r2,.int .i64 r3,.string r4]) ∧ Below w.heap.size w w' := by
 have hu50 := Try.underlying50
 have HB := Aside0.mk (Below.refl w.heap.size w)
 have H : (some (0,false,0,(⟨#[]⟩ : ByteArray))) = some (r1,r2,r3,r4) := h
 clear h
 simp only [Option.some.injEq,Prod.mk.injEq] at H
 obtain ⟨rfl,rfl,rfl,rfl⟩ := H
 go_enter Try.func44,Try.ntmps44
 go_wp2_with (first | ((with_reducible refine q0s (N := 0) rfl ?_);refine q0r ?hg (N := 0) ?hd (cs := #[.int .i64 0,.bool false,.int .i64 0,.string (⟨#[]⟩ : ByteArray)]) (t := 50) ?hr ?_;(case hd => rfl);(case hg => rfl);(case hr => first | (go_simp;done) | (go_simp;rfl));intro gb152 hg w1 hbox hb;have n0_ := Aside0.mk (q0l (by repeat (first | (with_reducible first | exact HB.out | apply q0b | apply q0a | apply q0c) | exact HB.out)) hb);have n1_ := Aside0.mk (hbox);have n2_ := Aside0.mk ((by rw [hg];exact (q0g (by repeat (first | (with_reducible first | exact HB.out | apply q0b | apply q0a | apply q0c) | exact HB.out))) : w.heap.size ≤ gb152));have n3_ := Aside0.mk ((by rw [hg];exact (q0g (by repeat (first | (with_reducible first | exact HB.out | apply q0b | apply q0a | apply q0c) | exact HB.out))) : w.heap.size ≤ gb152));clear HB;have HB := n0_;have BK152 := n1_;have GW152 := n2_;have GE152 := n3_;clear n0_ n1_ n2_ n3_;clear hb hbox hg;have hcz2_0 : w1.cell? ⟨gb152,0,none⟩ = some (.int .i64 0) := (q0e BK152.out 0).trans rfl;have hcz2_1 : w1.cell? ⟨gb152,1,none⟩ = some (.bool false) := (q0e BK152.out 1).trans rfl;have hcz2_2 : w1.cell? ⟨gb152,2,none⟩ = some (.int .i64 0) := (q0e BK152.out 2).trans rfl;have hcz2_3 : w1.cell? ⟨gb152,3,none⟩ = some (.string (⟨#[]⟩ : ByteArray)) := (q0e BK152.out 3).trans rfl;have hfz2_0 := q0d BK152.out 0;have hfz2_1 := q0d BK152.out 1;have hfz2_2 := q0d BK152.out 2;have hfz2_3 := q0d BK152.out 3))
 refine bodyPost_ret (results_cell_row rfl _ _ gb152 50 #[.int .i64 0,.bool false,.int .i64 0,.string (⟨#[]⟩ : ByteArray)] (0,0) _ rfl (by (with_reducible repeat (first | refine q0i ?_ _ | refine q0j ?_ | refine q0h ?_ _));refine blk_put (cs := #[.int .i64 0,.bool false,.int .i64 0,.string (⟨#[]⟩ : ByteArray)]) ?_ 3 _ rfl;(with_reducible repeat (first | refine q0i ?_ _ | refine q0j ?_ | refine q0h ?_ _));refine blk_put (cs := #[.int .i64 0,.bool false,.int .i64 0,.string (⟨#[]⟩ : ByteArray)]) ?_ 2 _ rfl;(with_reducible repeat (first | refine q0i ?_ _ | refine q0j ?_ | refine q0h ?_ _));refine blk_put (cs := #[.int .i64 0,.bool false,.int .i64 0,.string (⟨#[]⟩ : ByteArray)]) ?_ 1 _ rfl;(with_reducible repeat (first | refine q0i ?_ _ | refine q0j ?_ | refine q0h ?_ _));refine blk_put (cs := #[.int .i64 0,.bool false,.int .i64 0,.string (⟨#[]⟩ : ByteArray)]) ?_ 0 _ rfl;(with_reducible repeat (first | refine q0i ?_ _ | refine q0j ?_ | refine q0h ?_ _));exact BK152.out) Try.underlying50 rfl (by kernel_rfl)) rfl ?_
 exact ⟨by first | rfl | (simp [q0n,q0o] <;> rfl) | (simp [*,q0n,q0o] <;> rfl),by repeat (first | (with_reducible first | exact HB.out | apply q0b | apply q0a | apply q0c | refine q0k ?_ GE152.out) | exact HB.out)⟩
end Go.Proofs.Ytfoaeigoajooeaa.Z
end
section
namespace Go.Proofs.Ytfoaeigoajooeaa.Z
open Go.RowKit Go.Proofs.YtfoaeigoajooeaaW.PrintWords Go.Proofs.YtfoaeigoajooeaaW.PrintLast Go.Proofs.YtfoaeigoajooeaaW.PrintMore
attribute [local go_sem] max2_int min2_int max_two min_two max_three min_three max_four min_four
set_option linter.unusedVariables false
set_option linter.unusedSimpArgs false
def verdererlaw02_known.f (k : Nat)  : Option (Bool) := (value_Int.f 5).bind fun bt153 => ((value_Bool.f true).bind fun bt157 => ((value_Null.f).bind fun bt161 => ((row_Of.f (([(⟨bt153.1,bt153.2.1,bt153.2.2.1,bt153.2.2.2⟩ : S50),(⟨bt157.1,bt157.2.1,bt157.2.2.1,bt157.2.2.2⟩ : S50),(⟨bt161.1,bt161.2.1,bt161.2.2.1,bt161.2.2.2⟩ : S50)] : List (S50)))).bind fun t168 => ((row_Pick.f k t168 (([2,0] : List Int))).bind fun bt174 => ((row_Pick.f k t168 (([3] : List Int))).bind fun bt181 => (if (t168.length : Int) = 3 then ((verdererref02_Equal.f k bt174.1 (([(⟨0,false,0,(⟨#[]⟩ : ByteArray)⟩ : S50),(⟨2,false,5,(⟨#[]⟩ : ByteArray)⟩ : S50)] : List (S50)))).bind fun t188 => (if t188 = true then (if bt174.2 = 0 then (if bt181.2 = 2 then (if 1 ≤ (bt174.1.length : Int) then ((row_Join.f k (([(bt174.1.take 1),(bt174.1.drop 1)] : List (List (S50))))).bind fun t202 => ((row_Same.f k t202 bt174.1).bind fun t205 => (some t205))) else (none)) else (none)) else (none)) else (none))) else (none)))))))
theorem verdererlaw02_known.mono : ∀ k,LeO (verdererlaw02_known.f k ) (verdererlaw02_known.f (k + 1) ) := by
 intro  k
 unfold verdererlaw02_known.f
 repeat' first
   | (with_reducible exact row_Join.mono _ _)
   | (with_reducible exact row_Pick.mono _ _ _)
   | (with_reducible exact row_Same.mono _ _ _)
   | (with_reducible exact verdererref02_Equal.mono _ _ _)
   | (with_reducible exact LeO.refl _)
   | (with_reducible exact LeO.none _)
   | (with_reducible refine LeO.ite ?_ ?_)
   | (with_reducible refine LeO.bind ?_ (fun _ => ?_))
   | exact row_Join.mono _ _
   | exact row_Pick.mono _ _ _
   | exact row_Same.mono _ _ _
   | exact verdererref02_Equal.mono _ _ _
   | exact LeO.none _
   | refine LeO.ite ?_ ?_
   | refine LeO.bind ?_ (fun _ => ?_)
def verdererlaw02_known.T4 : Bool × List (List Nat × List Nat) := (true,[([],[]),([0],[0]),([1],[1]),([2],[2]),([3],[3]),([3],[3]),([3],[3]),([5,6,3],[3,5,6]),([4,7,3,3],[3,4,7]),([3,8],[3,8]),([9,8],[9]),([10],[10]),([11,10],[10,11]),([10,12],[10,12]),([13,10],[13]),([14],[14]),([15,14],[14,15]),([14,16],[14,16]),([17,14],[17]),([18],[18]),([19,18],[18,19]),([18],[18]),([21,18],[18,21]),([20,22,18],[18,20,22]),([23,18,18],[18,23]),([18],[18]),([24,25,24,18],[18,24,25]),([18,26],[18,26]),([27,26,0,1,2,3,4,5,6,7,8,9,10,11,12,13,14,15,16,17,18,19,20,21,22,23,24,25,26,27],[27])])
def verdererlaw02_known.B4 : List Nat := [0,1,3,7,15,15,15,111,255,511,1023,2047,4095,8191,16383,32767,65535,131071,262143,524287,1048575,524287,2621439,8388607,16777215,524287,67108863,134217727,268435455]
theorem verdererlaw02_known.tab4 : rtab .any (opsOf Try.f12 4) = verdererlaw02_known.T4 := by kernel_rfl
theorem verdererlaw02_known.bits4 : waitsOk verdererlaw02_known.T4.2 verdererlaw02_known.B4 = true := by kernel_rfl
set_option maxHeartbeats 8000000 in
set_option maxRecDepth 100000 in
theorem verdererlaw02_known.calls (k : Nat)  (r : Bool) (w : World) (h : verdererlaw02_known.f k  = some r) :
  Calls Try.prog 12 #[] w fun e w' => e = .returned (.bool r) ∧ Below w.heap.size w w' := by
 have hu50 := Try.underlying50
 have HB := Aside0.mk (Below.refl w.heap.size w)
 have H : ((value_Int.f 5).bind fun bt153 => ((value_Bool.f true).bind fun bt157 => ((value_Null.f).bind fun bt161 => ((row_Of.f (([(⟨bt153.1,bt153.2.1,bt153.2.2.1,bt153.2.2.2⟩ : S50),(⟨bt157.1,bt157.2.1,bt157.2.2.1,bt157.2.2.2⟩ : S50),(⟨bt161.1,bt161.2.1,bt161.2.2.1,bt161.2.2.2⟩ : S50)] : List (S50)))).bind fun t168 => ((row_Pick.f k t168 (([2,0] : List Int))).bind fun bt174 => ((row_Pick.f k t168 (([3] : List Int))).bind fun bt181 => (if (t168.length : Int) = 3 then ((verdererref02_Equal.f k bt174.1 (([(⟨0,false,0,(⟨#[]⟩ : ByteArray)⟩ : S50),(⟨2,false,5,(⟨#[]⟩ : ByteArray)⟩ : S50)] : List (S50)))).bind fun t188 => (if t188 = true then (if bt174.2 = 0 then (if bt181.2 = 2 then (if 1 ≤ (bt174.1.length : Int) then ((row_Join.f k (([(bt174.1.take 1),(bt174.1.drop 1)] : List (List (S50))))).bind fun t202 => ((row_Same.f k t202 bt174.1).bind fun t205 => (some t205))) else (none)) else (none)) else (none)) else (none))) else (none)))))))) = some r := h
 clear h
 replace H := Option.bind_eq_some_iff.mp H
 obtain ⟨⟨t153,t154,t155,t156⟩,A10,H⟩ := H
 replace H : ((value_Bool.f true).bind fun bt157 => ((value_Null.f).bind fun bt161 => ((row_Of.f (([(⟨t153,t154,t155,t156⟩ : S50),(⟨bt157.1,bt157.2.1,bt157.2.2.1,bt157.2.2.2⟩ : S50),(⟨bt161.1,bt161.2.1,bt161.2.2.1,bt161.2.2.2⟩ : S50)] : List (S50)))).bind fun t168 => ((row_Pick.f k t168 (([2,0] : List Int))).bind fun bt174 => ((row_Pick.f k t168 (([3] : List Int))).bind fun bt181 => (if (t168.length : Int) = 3 then ((verdererref02_Equal.f k bt174.1 (([(⟨0,false,0,(⟨#[]⟩ : ByteArray)⟩ : S50),(⟨2,false,5,(⟨#[]⟩ : ByteArray)⟩ : S50)] : List (S50)))).bind fun t188 => (if t188 = true then (if bt174.2 = 0 then (if bt181.2 = 2 then (if 1 ≤ (bt174.1.length : Int) then ((row_Join.f k (([(bt174.1.take 1),(bt174.1.drop 1)] : List (List (S50))))).bind fun t202 => ((row_Same.f k t202 bt174.1).bind fun t205 => (some t205))) else (none)) else (none)) else (none)) else (none))) else (none))))))) = some r := H
 have A1 := Aside0.mk A10
 clear A10
 replace H := Option.bind_eq_some_iff.mp H
 obtain ⟨⟨t157,t158,t159,t160⟩,A20,H⟩ := H
 replace H : ((value_Null.f).bind fun bt161 => ((row_Of.f (([(⟨t153,t154,t155,t156⟩ : S50),(⟨t157,t158,t159,t160⟩ : S50),(⟨bt161.1,bt161.2.1,bt161.2.2.1,bt161.2.2.2⟩ : S50)] : List (S50)))).bind fun t168 => ((row_Pick.f k t168 (([2,0] : List Int))).bind fun bt174 => ((row_Pick.f k t168 (([3] : List Int))).bind fun bt181 => (if (t168.length : Int) = 3 then ((verdererref02_Equal.f k bt174.1 (([(⟨0,false,0,(⟨#[]⟩ : ByteArray)⟩ : S50),(⟨2,false,5,(⟨#[]⟩ : ByteArray)⟩ : S50)] : List (S50)))).bind fun t188 => (if t188 = true then (if bt174.2 = 0 then (if bt181.2 = 2 then (if 1 ≤ (bt174.1.length : Int) then ((row_Join.f k (([(bt174.1.take 1),(bt174.1.drop 1)] : List (List (S50))))).bind fun t202 => ((row_Same.f k t202 bt174.1).bind fun t205 => (some t205))) else (none)) else (none)) else (none)) else (none))) else (none)))))) = some r := H
 have A2 := Aside0.mk A20
 clear A20
 replace H := Option.bind_eq_some_iff.mp H
 obtain ⟨⟨t161,t162,t163,t164⟩,A30,H⟩ := H
 replace H : ((row_Of.f (([(⟨t153,t154,t155,t156⟩ : S50),(⟨t157,t158,t159,t160⟩ : S50),(⟨t161,t162,t163,t164⟩ : S50)] : List (S50)))).bind fun t168 => ((row_Pick.f k t168 (([2,0] : List Int))).bind fun bt174 => ((row_Pick.f k t168 (([3] : List Int))).bind fun bt181 => (if (t168.length : Int) = 3 then ((verdererref02_Equal.f k bt174.1 (([(⟨0,false,0,(⟨#[]⟩ : ByteArray)⟩ : S50),(⟨2,false,5,(⟨#[]⟩ : ByteArray)⟩ : S50)] : List (S50)))).bind fun t188 => (if t188 = true then (if bt174.2 = 0 then (if bt181.2 = 2 then (if 1 ≤ (bt174.1.length : Int) then ((row_Join.f k (([(bt174.1.take 1),(bt174.1.drop 1)] : List (List (S50))))).bind fun t202 => ((row_Same.f k t202 bt174.1).bind fun t205 => (some t205))) else (none)) else (none)) else (none)) else (none))) else (none))))) = some r := H
 have A3 := Aside0.mk A30
 clear A30
 obtain ⟨y165,hy165⟩ : ∃ y_ : List (S50),y_ = (([(⟨t153,t154,t155,t156⟩ : S50),(⟨t157,t158,t159,t160⟩ : S50),(⟨t161,t162,t163,t164⟩ : S50)] : List (S50))) := ⟨_,rfl⟩
 replace H : ((row_Of.f y165).bind fun t168 => ((row_Pick.f k t168 (([2,0] : List Int))).bind fun bt174 => ((row_Pick.f k t168 (([3] : List Int))).bind fun bt181 => (if (t168.length : Int) = 3 then ((verdererref02_Equal.f k bt174.1 (([(⟨0,false,0,(⟨#[]⟩ : ByteArray)⟩ : S50),(⟨2,false,5,(⟨#[]⟩ : ByteArray)⟩ : S50)] : List (S50)))).bind fun t188 => (if t188 = true then (if bt174.2 = 0 then (if bt181.2 = 2 then (if 1 ≤ (bt174.1.length : Int) then ((row_Join.f k (([(bt174.1.take 1),(bt174.1.drop 1)] : List (List (S50))))).bind fun t202 => ((row_Same.f k t202 bt174.1).bind fun t205 => (some t205))) else (none)) else (none)) else (none)) else (none))) else (none))))) = some r := by first | (rw [hy165];with_reducible exact H) | (have H2_ := (Option.bind_some _ _).symm.trans H;rw [hy165];with_reducible exact H2_) | (have H2_ := (Option.bind_some _ _).symm.trans H;with_reducible exact H2_) | with_reducible exact H | (rw [hy165];exact H) | exact H
 have Ny165 := Aside0.mk hy165
 clear hy165
 replace H := Option.bind_eq_some_iff.mp H
 obtain ⟨t168,A40,H⟩ := H
 replace H : ((row_Pick.f k t168 (([2,0] : List Int))).bind fun bt174 => ((row_Pick.f k t168 (([3] : List Int))).bind fun bt181 => (if (t168.length : Int) = 3 then ((verdererref02_Equal.f k bt174.1 (([(⟨0,false,0,(⟨#[]⟩ : ByteArray)⟩ : S50),(⟨2,false,5,(⟨#[]⟩ : ByteArray)⟩ : S50)] : List (S50)))).bind fun t188 => (if t188 = true then (if bt174.2 = 0 then (if bt181.2 = 2 then (if 1 ≤ (bt174.1.length : Int) then ((row_Join.f k (([(bt174.1.take 1),(bt174.1.drop 1)] : List (List (S50))))).bind fun t202 => ((row_Same.f k t202 bt174.1).bind fun t205 => (some t205))) else (none)) else (none)) else (none)) else (none))) else (none)))) = some r := H
 have A4 := Aside0.mk A40
 clear A40
 obtain ⟨y171,hy171⟩ : ∃ y_ : List Int,y_ = (([2,0] : List Int)) := ⟨_,rfl⟩
 replace H : ((row_Pick.f k t168 y171).bind fun bt174 => ((row_Pick.f k t168 (([3] : List Int))).bind fun bt181 => (if (t168.length : Int) = 3 then ((verdererref02_Equal.f k bt174.1 (([(⟨0,false,0,(⟨#[]⟩ : ByteArray)⟩ : S50),(⟨2,false,5,(⟨#[]⟩ : ByteArray)⟩ : S50)] : List (S50)))).bind fun t188 => (if t188 = true then (if bt174.2 = 0 then (if bt181.2 = 2 then (if 1 ≤ (bt174.1.length : Int) then ((row_Join.f k (([(bt174.1.take 1),(bt174.1.drop 1)] : List (List (S50))))).bind fun t202 => ((row_Same.f k t202 bt174.1).bind fun t205 => (some t205))) else (none)) else (none)) else (none)) else (none))) else (none)))) = some r := by first | (rw [hy171];with_reducible exact H) | (have H2_ := (Option.bind_some _ _).symm.trans H;rw [hy171];with_reducible exact H2_) | (have H2_ := (Option.bind_some _ _).symm.trans H;with_reducible exact H2_) | with_reducible exact H | (rw [hy171];exact H) | exact H
 have Ny171 := Aside0.mk hy171
 clear hy171
 replace H := Option.bind_eq_some_iff.mp H
 obtain ⟨⟨t174,t175⟩,A50,H⟩ := H
 replace H : ((row_Pick.f k t168 (([3] : List Int))).bind fun bt181 => (if (t168.length : Int) = 3 then ((verdererref02_Equal.f k t174 (([(⟨0,false,0,(⟨#[]⟩ : ByteArray)⟩ : S50),(⟨2,false,5,(⟨#[]⟩ : ByteArray)⟩ : S50)] : List (S50)))).bind fun t188 => (if t188 = true then (if t175 = 0 then (if bt181.2 = 2 then (if 1 ≤ (t174.length : Int) then ((row_Join.f k (([(t174.take 1),(t174.drop 1)] : List (List (S50))))).bind fun t202 => ((row_Same.f k t202 t174).bind fun t205 => (some t205))) else (none)) else (none)) else (none)) else (none))) else (none))) = some r := H
 have A5 := Aside0.mk A50
 clear A50
 obtain ⟨y178,hy178⟩ : ∃ y_ : List Int,y_ = (([3] : List Int)) := ⟨_,rfl⟩
 replace H : ((row_Pick.f k t168 y178).bind fun bt181 => (if (t168.length : Int) = 3 then ((verdererref02_Equal.f k t174 (([(⟨0,false,0,(⟨#[]⟩ : ByteArray)⟩ : S50),(⟨2,false,5,(⟨#[]⟩ : ByteArray)⟩ : S50)] : List (S50)))).bind fun t188 => (if t188 = true then (if t175 = 0 then (if bt181.2 = 2 then (if 1 ≤ (t174.length : Int) then ((row_Join.f k (([(t174.take 1),(t174.drop 1)] : List (List (S50))))).bind fun t202 => ((row_Same.f k t202 t174).bind fun t205 => (some t205))) else (none)) else (none)) else (none)) else (none))) else (none))) = some r := by first | (rw [hy178];with_reducible exact H) | (have H2_ := (Option.bind_some _ _).symm.trans H;rw [hy178];with_reducible exact H2_) | (have H2_ := (Option.bind_some _ _).symm.trans H;with_reducible exact H2_) | with_reducible exact H | (rw [hy178];exact H) | exact H
 have Ny178 := Aside0.mk hy178
 clear hy178
 replace H := Option.bind_eq_some_iff.mp H
 obtain ⟨⟨t181,t182⟩,A60,H⟩ := H
 replace H : (if (t168.length : Int) = 3 then ((verdererref02_Equal.f k t174 (([(⟨0,false,0,(⟨#[]⟩ : ByteArray)⟩ : S50),(⟨2,false,5,(⟨#[]⟩ : ByteArray)⟩ : S50)] : List (S50)))).bind fun t188 => (if t188 = true then (if t175 = 0 then (if t182 = 2 then (if 1 ≤ (t174.length : Int) then ((row_Join.f k (([(t174.take 1),(t174.drop 1)] : List (List (S50))))).bind fun t202 => ((row_Same.f k t202 t174).bind fun t205 => (some t205))) else (none)) else (none)) else (none)) else (none))) else (none)) = some r := H
 have A6 := Aside0.mk A60
 clear A60
 by_cases c7 : (t168.length : Int) = 3
 ·rw [if_pos c7] at H
  have c7b0 : ((t168.length : Int) == 3) = true := beq_iff_eq.mpr c7
  have c7b1 : ((t168.length : Int) != 3) = false := bne_eq_false_iff_eq.mpr c7
  clear c7
  obtain ⟨y185,hy185⟩ : ∃ y_ : List (S50),y_ = (([(⟨0,false,0,(⟨#[]⟩ : ByteArray)⟩ : S50),(⟨2,false,5,(⟨#[]⟩ : ByteArray)⟩ : S50)] : List (S50))) := ⟨_,rfl⟩
  replace H : ((verdererref02_Equal.f k t174 y185).bind fun t188 => (if t188 = true then (if t175 = 0 then (if t182 = 2 then (if 1 ≤ (t174.length : Int) then ((row_Join.f k (([(t174.take 1),(t174.drop 1)] : List (List (S50))))).bind fun t202 => ((row_Same.f k t202 t174).bind fun t205 => (some t205))) else (none)) else (none)) else (none)) else (none))) = some r := by first | (rw [hy185];with_reducible exact H) | (have H2_ := (Option.bind_some _ _).symm.trans H;rw [hy185];with_reducible exact H2_) | (have H2_ := (Option.bind_some _ _).symm.trans H;with_reducible exact H2_) | with_reducible exact H | (rw [hy185];exact H) | exact H
  have Ny185 := Aside0.mk hy185
  clear hy185
  replace H := Option.bind_eq_some_iff.mp H
  obtain ⟨t188,A80,H⟩ := H
  replace H : (if t188 = true then (if t175 = 0 then (if t182 = 2 then (if 1 ≤ (t174.length : Int) then ((row_Join.f k (([(t174.take 1),(t174.drop 1)] : List (List (S50))))).bind fun t202 => ((row_Same.f k t202 t174).bind fun t205 => (some t205))) else (none)) else (none)) else (none)) else (none)) = some r := H
  have A8 := Aside0.mk A80
  clear A80
  by_cases c9 : t188 = true
  ·subst c9
   have H1 : (if t175 = 0 then (if t182 = 2 then (if 1 ≤ (t174.length : Int) then ((row_Join.f k (([(t174.take 1),(t174.drop 1)] : List (List (S50))))).bind fun t202 => ((row_Same.f k t202 t174).bind fun t205 => (some t205))) else (none)) else (none)) else (none)) = some r := by rw [if_pos rfl] at H;exact H
   clear H
   have H := H1
   clear H1
   by_cases c10 : t175 = 0
   ·rw [if_pos c10] at H
    have c10b0 : (t175 == 0) = true := beq_iff_eq.mpr c10
    have c10b1 : (t175 != 0) = false := bne_eq_false_iff_eq.mpr c10
    clear c10
    by_cases c11 : t182 = 2
    ·rw [if_pos c11] at H
     have c11b0 : (t182 == 2) = true := beq_iff_eq.mpr c11
     have c11b1 : (t182 != 2) = false := bne_eq_false_iff_eq.mpr c11
     clear c11
     by_cases c12 : 1 ≤ (t174.length : Int)
     ·rw [if_pos c12] at H
      have c12b0 := eq_true c12
      have c12b1 : decide (1 ≤ (t174.length : Int)) = true := decide_eq_true c12
      clear c12
      obtain ⟨y189,hy189⟩ : ∃ y_ : List (S50),y_ = (t174.take 1) := ⟨_,rfl⟩
      replace H : ((row_Join.f k (([y189,(t174.drop 1)] : List (List (S50))))).bind fun t202 => ((row_Same.f k t202 t174).bind fun t205 => (some t205))) = some r := by first | (rw [hy189];with_reducible exact H) | (have H2_ := (Option.bind_some _ _).symm.trans H;rw [hy189];with_reducible exact H2_) | (have H2_ := (Option.bind_some _ _).symm.trans H;with_reducible exact H2_) | with_reducible exact H | (rw [hy189];exact H) | exact H
      have Ny189 := Aside0.mk hy189
      clear hy189
      have c13b0 := eq_true (of_decide_eq_true (by first | (with_reducible assumption) | assumption) : 1 ≤ (t174.length : Int))
      obtain ⟨y194,hy194⟩ : ∃ y_ : List (S50),y_ = (t174.drop 1) := ⟨_,rfl⟩
      replace H : ((row_Join.f k (([y189,y194] : List (List (S50))))).bind fun t202 => ((row_Same.f k t202 t174).bind fun t205 => (some t205))) = some r := by first | (rw [hy194];with_reducible exact H) | (have H2_ := (Option.bind_some _ _).symm.trans H;rw [hy194];with_reducible exact H2_) | (have H2_ := (Option.bind_some _ _).symm.trans H;with_reducible exact H2_) | with_reducible exact H | (rw [hy194];exact H) | exact H
      have Ny194 := Aside0.mk hy194
      clear hy194
      obtain ⟨y199,hy199⟩ : ∃ y_ : List (List (S50)),y_ = (([y189,y194] : List (List (S50)))) := ⟨_,rfl⟩
      replace H : ((row_Join.f k y199).bind fun t202 => ((row_Same.f k t202 t174).bind fun t205 => (some t205))) = some r := by first | (rw [hy199];with_reducible exact H) | (have H2_ := (Option.bind_some _ _).symm.trans H;rw [hy199];with_reducible exact H2_) | (have H2_ := (Option.bind_some _ _).symm.trans H;with_reducible exact H2_) | with_reducible exact H | (rw [hy199];exact H) | exact H
      have Ny199 := Aside0.mk hy199
      clear hy199
      replace H := Option.bind_eq_some_iff.mp H
      obtain ⟨t202,A140,H⟩ := H
      replace H : ((row_Same.f k t202 t174).bind fun t205 => (some t205)) = some r := H
      have A14 := Aside0.mk A140
      clear A140
      replace H := Option.bind_eq_some_iff.mp H
      obtain ⟨t205,A150,H⟩ := H
      replace H : (some t205) = some r := H
      have A15 := Aside0.mk A150
      clear A150
      obtain rfl := Option.some.inj H
      go_enter Try.func12,Try.ntmps12
      try go_wp2_with (first | ((with_reducible refine q0t (f := 42) rfl ?_);refine goesL_ (some 6) rfl rfl Try.func42 (by kernel_rfl) rfl #[.int .i64 5] rfl (by (try simp only [List.map_toArray,List.map_cons,List.map_nil]);first | done | rfl | (simp only [List.length_drop,List.length_take];rfl)) ?_;(with_reducible refine (value_Int.calls 5 t153 t154 t155 t156 _ A1.out).mono ?_);rintro e w16 ⟨rfl,hb⟩;refine ⟨_,rfl,?_⟩;have n0_ := Aside0.mk (q0l (by repeat (first | (with_reducible first | exact HB.out | apply q0b | apply q0a | apply q0c) | exact HB.out)) hb);clear HB;have HB := n0_;clear n0_;(try clear hb);(try clear hb2);(try clear hk);(try clear hi)) | ((with_reducible refine q0t (f := 43) rfl ?_);refine goesL_ (some 7) rfl rfl Try.func43 (by kernel_rfl) rfl #[.bool true] rfl (by (try simp only [List.map_toArray,List.map_cons,List.map_nil]);first | done | rfl | (simp only [List.length_drop,List.length_take];rfl)) ?_;(with_reducible refine (value_Bool.calls true t157 t158 t159 t160 _ A2.out).mono ?_);rintro e w17 ⟨rfl,hb⟩;refine ⟨_,rfl,?_⟩;have n0_ := Aside0.mk (q0l (by repeat (first | (with_reducible first | exact HB.out | apply q0b | apply q0a | apply q0c) | exact HB.out)) hb);clear HB;have HB := n0_;clear n0_;(try clear hb);(try clear hb2);(try clear hk);(try clear hi)) | ((with_reducible refine q0t (f := 44) rfl ?_);refine goesL_ (some 8) rfl rfl Try.func44 (by kernel_rfl) rfl #[] rfl (by (try simp only [List.map_toArray,List.map_cons,List.map_nil]);first | done | rfl | (simp only [List.length_drop,List.length_take];rfl)) ?_;(with_reducible refine (value_Null.calls  t161 t162 t163 t164 _ A3.out).mono ?_);rintro e w18 ⟨rfl,hb⟩;refine ⟨_,rfl,?_⟩;have n0_ := Aside0.mk (q0l (by repeat (first | (with_reducible first | exact HB.out | apply q0b | apply q0a | apply q0c) | exact HB.out)) hb);clear HB;have HB := n0_;clear n0_;(try clear hb);(try clear hb2);(try clear hk);(try clear hi)) | ((with_reducible refine q0s (N := 9) rfl ?_);(try (refine gate_guard (by rfl) ?_;dsimp only));refine Kd.R_lit k50 _ 50 ?hg (N := 9) ?hd (xs := ([(⟨t153,t154,t155,t156⟩ : S50),(⟨t157,t158,t159,t160⟩ : S50),(⟨t161,t162,t163,t164⟩ : S50)] : List (S50))) (inner := [.int .i64 t153,.bool t154,.int .i64 t155,.string t156,.int .i64 t157,.bool t158,.int .i64 t159,.string t160,.int .i64 t161,.bool t162,.int .i64 t163,.string t164]) (ok := fun _ => True) (okp := fun _ => True) ?hr ?hp (fun _ hk => hk) trivial (Below.refl _ _) (Nat.le_refl _) (by simp) ?_;(case hd => rfl);(case hg => rfl);(case hr => first | (go_simp;done) | (go_simp;rfl));(case hp => exact (Reps.c4 (show Kd.M k50 _ _ _ (⟨t153,t154,t155,t156⟩ : S50) [.int .i64 t153,.bool t154,.int .i64 t155,.string t156] from (k50_mkM _ _ _ (⟨t153,t154,t155,t156⟩ : S50) )) (Reps.c4 (show Kd.M k50 _ _ _ (⟨t157,t158,t159,t160⟩ : S50) [.int .i64 t157,.bool t158,.int .i64 t159,.string t160] from (k50_mkM _ _ _ (⟨t157,t158,t159,t160⟩ : S50) )) (Reps.c4 (show Kd.M k50 _ _ _ (⟨t161,t162,t163,t164⟩ : S50) [.int .i64 t161,.bool t162,.int .i64 t163,.string t164] from (k50_mkM _ _ _ (⟨t161,t162,t163,t164⟩ : S50) )) (Reps.none _ _)))));intro v166 w19 ho20 hb hg_ hnew_;clear hg_ hnew_;(first | rw [← Ny165.out] at ho20 | (simp only [Int.reduceToNat] at ho20;rw [← Ny165.out] at ho20));have n0_ := Aside0.mk (Kd.R_lower ho20 (q0g (by repeat (first | (with_reducible first | exact HB.out | apply q0b | apply q0a | apply q0c) | exact HB.out))));have n1_ := Aside0.mk (q0l (by repeat (first | (with_reducible first | exact HB.out | apply q0b | apply q0a | apply q0c) | exact HB.out)) hb);clear HB;have HO167 := n0_;have HB := n1_;clear n0_ n1_;clear hb ho20;obtain ⟨Ao21,co21,eo21⟩ := Kd.R_slice HO167.out;subst eo21) | ((with_reducible refine q0t (f := 26) rfl ?_);refine goesL_ (some 10) rfl rfl Try.func26 (by kernel_rfl) rfl #[.slice Ao21 y165.length co21] rfl (by (try simp only [List.map_toArray,List.map_cons,List.map_nil]);first | done | rfl | (simp only [List.length_drop,List.length_take];rfl)) ?_;(with_reducible refine (row_Of.calls _ _ y165 t168 _ ?side1 ?side2 A4.out).mono ?_);(case side1 => repeat (first | exact (Kd.R_reads' HO167.out).2.2 | (with_reducible refine Kd.C_alloc ?_ _) | (with_reducible refine Kd.C_drewN ?_ _) | (with_reducible refine Kd.C_drew ?_)));(case side2 => exact (Kd.R_reads' HO167.out).2.1);rintro e w22 ⟨v169,rfl,ho0,hb⟩;refine ⟨_,rfl,?_⟩;have n0_ := Aside0.mk (Kd.R_elder' (by (with_reducible repeat (first | apply Kd.q0p | apply Kd.q0q | apply Kd.R_drew));exact HO167.out) (Kd.R_base ho0) hb);have n1_ := Aside0.mk (Kd.R_lower (Kd.R_new' ho0 (Kd.R_lt (by (with_reducible repeat (first | apply Kd.q0p | apply Kd.q0q | apply Kd.R_drew));exact HO167.out))) (q0g (by repeat (first | (with_reducible first | exact HB.out | apply q0b | apply q0a | apply q0c) | exact HB.out))));have n2_ := Aside0.mk (q0l (by repeat (first | (with_reducible first | exact HB.out | apply q0b | apply q0a | apply q0c) | exact HB.out)) hb);clear HO167;clear HB;have HO167 := n0_;have HO170 := n1_;have HB := n2_;clear n0_ n1_ n2_;(try clear hb);(try clear hb2);(try clear hk);(try clear hi);(try clear ho0)) | ((with_reducible refine q0s (N := 13) rfl ?_);(try (refine gate_guard (by rfl) ?_;dsimp only));refine Kd.R_lit (Kd.int .i64) _ 3 ?hg (N := 13) ?hd (xs := ([2,0] : List Int)) (inner := [.int .i64 2,.int .i64 0]) (ok := fun _ => True) (okp := fun _ => True) ?hr ?hp (fun _ hk => hk) trivial (Below.refl _ _) (Nat.le_refl _) (by simp) ?_;(case hd => rfl);(case hg => rfl);(case hr => first | (go_simp;done) | (go_simp;rfl));(case hp => exact (Reps.one (show Kd.M (Kd.int .i64) _ _ _ 2 [.int .i64 2] from rfl) (Reps.one (show Kd.M (Kd.int .i64) _ _ _ 0 [.int .i64 0] from rfl) (Reps.none _ _))));intro v172 w23 ho24 hb hg_ hnew_;clear hg_ hnew_;(first | rw [← Ny171.out] at ho24 | (simp only [Int.reduceToNat] at ho24;rw [← Ny171.out] at ho24));have n0_ := Aside0.mk (Kd.R_below (by (with_reducible repeat (first | apply Kd.q0p | apply Kd.q0q | apply Kd.R_drew));exact HO167.out) hb);have n1_ := Aside0.mk (Kd.R_below (by (with_reducible repeat (first | apply Kd.q0p | apply Kd.q0q | apply Kd.R_drew));exact HO170.out) hb);have n2_ := Aside0.mk (Kd.R_lower ho24 (q0g (by repeat (first | (with_reducible first | exact HB.out | apply q0b | apply q0a | apply q0c) | exact HB.out))));have n3_ := Aside0.mk (q0l (by repeat (first | (with_reducible first | exact HB.out | apply q0b | apply q0a | apply q0c) | exact HB.out)) hb);clear HO167;clear HO170;clear HB;have HO167 := n0_;have HO170 := n1_;have HO173 := n2_;have HB := n3_;clear n0_ n1_ n2_ n3_;clear hb ho24;obtain ⟨Ao25,co25,eo25⟩ := Kd.R_slice HO170.out;subst eo25;obtain ⟨Ao26,co26,eo26⟩ := Kd.R_slice HO173.out;subst eo26) | ((with_reducible refine q0t (f := 14) rfl ?_);refine goesL_ (some 14) rfl rfl Try.func14 (by kernel_rfl) rfl #[.slice Ao25 t168.length co25,.slice Ao26 y171.length co26] rfl (by (try simp only [List.map_toArray,List.map_cons,List.map_nil]);first | done | rfl | (simp only [List.length_drop,List.length_take];rfl)) ?_;(with_reducible refine (row_Pick.calls k _ _ t168 _ _ y171 t174 t175 _ ?side1 ?side2 ?side3 ?side4 A5.out).mono ?_);(case side1 => repeat (first | exact (Kd.R_reads' HO170.out).2.2 | (with_reducible refine Kd.C_alloc ?_ _) | (with_reducible refine Kd.C_drewN ?_ _) | (with_reducible refine Kd.C_drew ?_)));(case side2 => exact (Kd.R_reads' HO170.out).2.1);(case side3 => repeat (first | exact (Kd.R_reads' HO173.out).2.2 | (with_reducible refine Kd.C_alloc ?_ _) | (with_reducible refine Kd.C_drewN ?_ _) | (with_reducible refine Kd.C_drew ?_)));(case side4 => exact (Kd.R_reads' HO173.out).2.1);rintro e w27 ⟨v176,rfl,ho0,hb⟩;refine ⟨_,rfl,?_⟩;have n0_ := Aside0.mk (Kd.R_elder' (by (with_reducible repeat (first | apply Kd.q0p | apply Kd.q0q | apply Kd.R_drew));exact HO167.out) (Kd.R_base ho0) hb);have n1_ := Aside0.mk (Kd.R_elder' (by (with_reducible repeat (first | apply Kd.q0p | apply Kd.q0q | apply Kd.R_drew));exact HO170.out) (Kd.R_base ho0) hb);have n2_ := Aside0.mk (Kd.R_below (by (with_reducible repeat (first | apply Kd.q0p | apply Kd.q0q | apply Kd.R_drew));exact HO173.out) hb);have n3_ := Aside0.mk (Kd.R_lower (Kd.R_new' (Kd.R_new' ho0 (Kd.R_lt (by (with_reducible repeat (first | apply Kd.q0p | apply Kd.q0q | apply Kd.R_drew));exact HO167.out))) (Kd.R_lt (by (with_reducible repeat (first | apply Kd.q0p | apply Kd.q0q | apply Kd.R_drew));exact HO170.out))) (q0g (by repeat (first | (with_reducible first | exact HB.out | apply q0b | apply q0a | apply q0c) | exact HB.out))));have n4_ := Aside0.mk (q0l (by repeat (first | (with_reducible first | exact HB.out | apply q0b | apply q0a | apply q0c) | exact HB.out)) hb);clear HO167;clear HO170;clear HO173;clear HB;have HO167 := n0_;have HO170 := n1_;have HO173 := n2_;have HO177 := n3_;have HB := n4_;clear n0_ n1_ n2_ n3_ n4_;(try clear hb);(try clear hb2);(try clear hk);(try clear hi);(try clear ho0)) | ((with_reducible refine q0s (N := 19) rfl ?_);(try (refine gate_guard (by rfl) ?_;dsimp only));refine Kd.R_lit (Kd.int .i64) _ 3 ?hg (N := 19) ?hd (xs := ([3] : List Int)) (inner := [.int .i64 3]) (ok := fun _ => True) (okp := fun _ => True) ?hr ?hp (fun _ hk => hk) trivial (Below.refl _ _) (Nat.le_refl _) (by simp) ?_;(case hd => rfl);(case hg => rfl);(case hr => first | (go_simp;done) | (go_simp;rfl));(case hp => exact (Reps.one (show Kd.M (Kd.int .i64) _ _ _ 3 [.int .i64 3] from rfl) (Reps.none _ _)));intro v179 w28 ho29 hb hg_ hnew_;clear hg_ hnew_;(first | rw [← Ny178.out] at ho29 | (simp only [Int.reduceToNat] at ho29;rw [← Ny178.out] at ho29));have n0_ := Aside0.mk (Kd.R_below (by (with_reducible repeat (first | apply Kd.q0p | apply Kd.q0q | apply Kd.R_drew));exact HO167.out) hb);have n1_ := Aside0.mk (Kd.R_below (by (with_reducible repeat (first | apply Kd.q0p | apply Kd.q0q | apply Kd.R_drew));exact HO170.out) hb);have n2_ := Aside0.mk (Kd.R_elder' (by (with_reducible repeat (first | apply Kd.q0p | apply Kd.q0q | apply Kd.R_drew));exact HO173.out) (Kd.R_base ho29) hb);have n3_ := Aside0.mk (Kd.R_below (by (with_reducible repeat (first | apply Kd.q0p | apply Kd.q0q | apply Kd.R_drew));exact HO177.out) hb);have n4_ := Aside0.mk (Kd.R_lower (Kd.R_new' ho29 (Kd.R_lt (by (with_reducible repeat (first | apply Kd.q0p | apply Kd.q0q | apply Kd.R_drew));exact HO173.out))) (q0g (by repeat (first | (with_reducible first | exact HB.out | apply q0b | apply q0a | apply q0c) | exact HB.out))));have n5_ := Aside0.mk (q0l (by repeat (first | (with_reducible first | exact HB.out | apply q0b | apply q0a | apply q0c) | exact HB.out)) hb);clear HO167;clear HO170;clear HO173;clear HO177;clear HB;have HO167 := n0_;have HO170 := n1_;have HO173 := n2_;have HO177 := n3_;have HO180 := n4_;have HB := n5_;clear n0_ n1_ n2_ n3_ n4_ n5_;clear hb ho29;obtain ⟨Ao30,co30,eo30⟩ := Kd.R_slice HO180.out;subst eo30) | ((with_reducible refine q0t (f := 14) rfl ?_);refine goesL_ (some 20) rfl rfl Try.func14 (by kernel_rfl) rfl #[.slice Ao25 t168.length co25,.slice Ao30 y178.length co30] rfl (by (try simp only [List.map_toArray,List.map_cons,List.map_nil]);first | done | rfl | (simp only [List.length_drop,List.length_take];rfl)) ?_;(with_reducible refine (row_Pick.calls k _ _ t168 _ _ y178 t181 t182 _ ?side1 ?side2 ?side3 ?side4 A6.out).mono ?_);(case side1 => repeat (first | exact (Kd.R_reads' HO170.out).2.2 | (with_reducible refine Kd.C_alloc ?_ _) | (with_reducible refine Kd.C_drewN ?_ _) | (with_reducible refine Kd.C_drew ?_)));(case side2 => exact (Kd.R_reads' HO170.out).2.1);(case side3 => repeat (first | exact (Kd.R_reads' HO180.out).2.2 | (with_reducible refine Kd.C_alloc ?_ _) | (with_reducible refine Kd.C_drewN ?_ _) | (with_reducible refine Kd.C_drew ?_)));(case side4 => exact (Kd.R_reads' HO180.out).2.1);rintro e w31 ⟨v183,rfl,ho0,hb⟩;refine ⟨_,rfl,?_⟩;have n0_ := Aside0.mk (Kd.R_elder' (by (with_reducible repeat (first | apply Kd.q0p | apply Kd.q0q | apply Kd.R_drew));exact HO167.out) (Kd.R_base ho0) hb);have n1_ := Aside0.mk (Kd.R_elder' (by (with_reducible repeat (first | apply Kd.q0p | apply Kd.q0q | apply Kd.R_drew));exact HO170.out) (Kd.R_base ho0) hb);have n2_ := Aside0.mk (Kd.R_below (by (with_reducible repeat (first | apply Kd.q0p | apply Kd.q0q | apply Kd.R_drew));exact HO173.out) hb);have n3_ := Aside0.mk (Kd.R_elder' (by (with_reducible repeat (first | apply Kd.q0p | apply Kd.q0q | apply Kd.R_drew));exact HO177.out) (Kd.R_base ho0) hb);have n4_ := Aside0.mk (Kd.R_below (by (with_reducible repeat (first | apply Kd.q0p | apply Kd.q0q | apply Kd.R_drew));exact HO180.out) hb);have n5_ := Aside0.mk (Kd.R_lower (Kd.R_new' (Kd.R_new' (Kd.R_new' ho0 (Kd.R_lt (by (with_reducible repeat (first | apply Kd.q0p | apply Kd.q0q | apply Kd.R_drew));exact HO167.out))) (Kd.R_lt (by (with_reducible repeat (first | apply Kd.q0p | apply Kd.q0q | apply Kd.R_drew));exact HO170.out))) (Kd.R_lt (by (with_reducible repeat (first | apply Kd.q0p | apply Kd.q0q | apply Kd.R_drew));exact HO177.out))) (q0g (by repeat (first | (with_reducible first | exact HB.out | apply q0b | apply q0a | apply q0c) | exact HB.out))));have n6_ := Aside0.mk (q0l (by repeat (first | (with_reducible first | exact HB.out | apply q0b | apply q0a | apply q0c) | exact HB.out)) hb);clear HO167;clear HO170;clear HO173;clear HO177;clear HO180;clear HB;have HO167 := n0_;have HO170 := n1_;have HO173 := n2_;have HO177 := n3_;have HO180 := n4_;have HO184 := n5_;have HB := n6_;clear n0_ n1_ n2_ n3_ n4_ n5_ n6_;(try clear hb);(try clear hb2);(try clear hk);(try clear hi);(try clear ho0)))
      have n0_ := Aside0.mk (Kd.R_drew HO167.out)
      have n1_ := Aside0.mk (Kd.R_drew HO170.out)
      have n2_ := Aside0.mk (Kd.R_drew HO173.out)
      have n3_ := Aside0.mk (Kd.R_drew HO177.out)
      have n4_ := Aside0.mk (Kd.R_drew HO180.out)
      have n5_ := Aside0.mk (Kd.R_drew HO184.out)
      have n6_ := Aside0.mk (q0c HB.out)
      clear HO167
      clear HO170
      clear HO173
      clear HO177
      clear HO180
      clear HO184
      clear HB
      have HO167 := n0_
      have HO170 := n1_
      have HO173 := n2_
      have HO177 := n3_
      have HO180 := n4_
      have HO184 := n5_
      have HB := n6_
      clear n0_ n1_ n2_ n3_ n4_ n5_ n6_
      refine start_ (n := 29) (S := fun w' => True) (ds := []) #[false,false,false,false,false,false,false,false,false,false,false,false,false,false,false,false,false,false,false,false,false,false,false,false,false,false,false,false,false] (by kernel_rfl) rfl rfl trivial (fun hHeld => ?_);refine with_tabW verdererlaw02_known.tab4 verdererlaw02_known.bits4 (fun HT_ HW_ => ?_)
      generalize w31.drew = w32 at HO167 HO170 HO173 HO177 HO180 HO184 HB hHeld ⊢
      refine pure_ (i := 0) (N := some 23) (v := ?_) (a' := ?_) #[true,false,false,false,false,false,false,false,false,false,false,false,false,false,false,false,false,false,false,false,false,false,false,false,false,false,false,false,false] rfl rfl (q0m HT_.out (by kernel_rfl)) (fun _ _ _ h => h) (Or.inl ⟨by rfl,?_⟩) ?_ ?_
      rotate_left
      ·intro w'
       go_simp
       with_reducible rfl
      rotate_left
      ·simp only [Act.put,zA,zB,zC,i64_w,i32_w]
       rfl
      refine pure_ (i := 1) (N := some 24) (v := ?_) (a' := ?_) #[true,true,false,false,false,false,false,false,false,false,false,false,false,false,false,false,false,false,false,false,false,false,false,false,false,false,false,false,false] rfl rfl (q0m HT_.out (by kernel_rfl)) (fun _ _ _ h => h) (Or.inl ⟨by rfl,?_⟩) ?_ ?_
      rotate_left
      ·intro w'
       go_simp
       with_reducible rfl
      rotate_left
      ·simp only [Act.put,zA,zB,zC,i64_w,i32_w]
       rfl
      refine pure_ (i := 2) (N := some 25) (v := ?_) (a' := ?_) #[true,true,true,false,false,false,false,false,false,false,false,false,false,false,false,false,false,false,false,false,false,false,false,false,false,false,false,false,false] rfl rfl (q0m HT_.out (by kernel_rfl)) (fun _ _ _ h => h) (Or.inl ⟨by rfl,?_⟩) ?_ ?_
      rotate_left
      ·intro w'
       go_simp
       with_reducible rfl
      rotate_left
      ·simp only [Act.put,zA,zB,zC,i64_w,i32_w]
       rfl
      refine pure_ (i := 3) (N := some 26) (v := ?_) (a' := ?_) #[true,true,true,true,false,false,false,false,false,false,false,false,false,false,false,false,false,false,false,false,false,false,false,false,false,false,false,false,false] rfl rfl (q0m HT_.out (by kernel_rfl)) (fun _ _ _ h => h) (Or.inl ⟨by rfl,?_⟩) ?_ ?_
      rotate_left
      ·intro w'
       go_simp
       with_reducible rfl
      rotate_left
      ·simp only [Act.put,zA,zB,zC,i64_w,i32_w]
       rfl
      refine pure_ (i := 4) (N := some 27) (v := ?_) (a' := ?_) #[true,true,true,true,true,false,false,false,false,false,false,false,false,false,false,false,false,false,false,false,false,false,false,false,false,false,false,false,false] rfl rfl (q0m HT_.out (by kernel_rfl)) (fun _ _ _ h => h) (Or.inl ⟨by rfl,?_⟩) ?_ ?_
      rotate_left
      ·intro w'
       go_simp
       with_reducible rfl
      rotate_left
      ·simp only [Act.put,zA,zB,zC,i64_w,i32_w]
       rfl
      refine pure_ (i := 5) (N := some 28) (v := ?_) (a' := ?_) #[true,true,true,true,true,true,false,false,false,false,false,false,false,false,false,false,false,false,false,false,false,false,false,false,false,false,false,false,false] rfl rfl (q0m HT_.out (by kernel_rfl)) (fun _ _ _ h => h) (Or.inl ⟨by rfl,?_⟩) ?_ ?_
      rotate_left
      ·intro w'
       go_simp
       with_reducible rfl
      rotate_left
      ·simp only [Act.put,zA,zB,zC,i64_w,i32_w]
       rfl
      refine pure_ (i := 6) (N := some 29) (v := ?_) (a' := ?_) #[true,true,true,true,true,true,true,false,false,false,false,false,false,false,false,false,false,false,false,false,false,false,false,false,false,false,false,false,false] rfl rfl (q0m HT_.out (by kernel_rfl)) (fun _ _ _ h => h) (Or.inl ⟨by rfl,?_⟩) ?_ ?_
      rotate_left
      ·intro w'
       go_simp
       with_reducible rfl
      rotate_left
      ·simp only [Act.put,zA,zB,zC,i64_w,i32_w]
       rfl
      refine one_ (i := 7) (N := some 30) #[true,true,true,true,true,true,true,true,false,false,false,false,false,false,false,false,false,false,false,false,false,false,false,false,false,false,false,false,false] rfl rfl (one_of HT_.out (by kernel_rfl)) (by decide) (fun K hK => ?_)
      refine Kd.R_lit_step k50 _ 50 ?hg (N := 30) ?hd (xs := ([(⟨0,false,0,(⟨#[]⟩ : ByteArray)⟩ : S50),(⟨2,false,5,(⟨#[]⟩ : ByteArray)⟩ : S50)] : List (S50))) (inner := [.int .i64 0,.bool false,.int .i64 0,.string (⟨#[]⟩ : ByteArray),.int .i64 2,.bool false,.int .i64 5,.string (⟨#[]⟩ : ByteArray)]) (ok := fun _ => True) (okp := fun _ => True) ?hr ?hp (fun _ hk => hk) trivial (Below.refl _ _) (Nat.le_refl _) (by simp) ?_;(case hd => rfl);(case hg => rfl);(case hr => first | (go_simp;done) | (go_simp;rfl));(case hp => exact (Reps.c4 (show Kd.M k50 _ _ _ (⟨0,false,0,(⟨#[]⟩ : ByteArray)⟩ : S50) [.int .i64 0,.bool false,.int .i64 0,.string (⟨#[]⟩ : ByteArray)] from (k50_mkM _ _ _ (⟨0,false,0,(⟨#[]⟩ : ByteArray)⟩ : S50) )) (Reps.c4 (show Kd.M k50 _ _ _ (⟨2,false,5,(⟨#[]⟩ : ByteArray)⟩ : S50) [.int .i64 2,.bool false,.int .i64 5,.string (⟨#[]⟩ : ByteArray)] from (k50_mkM _ _ _ (⟨2,false,5,(⟨#[]⟩ : ByteArray)⟩ : S50) )) (Reps.none _ _))))
      intro v186 w33 ho34 hb hg_ hnew_
      clear hg_ hnew_
      (first | rw [← Ny185.out] at ho34 | (simp only [Int.reduceToNat] at ho34;rw [← Ny185.out] at ho34))
      have n0_ := Aside0.mk (Kd.R_elder' (by (with_reducible repeat (first | apply Kd.q0p | apply Kd.q0q | apply Kd.R_drew));exact HO167.out) (Kd.R_base ho34) hb)
      have n1_ := Aside0.mk (Kd.R_elder' (by (with_reducible repeat (first | apply Kd.q0p | apply Kd.q0q | apply Kd.R_drew));exact HO170.out) (Kd.R_base ho34) hb)
      have n2_ := Aside0.mk (Kd.R_below (by (with_reducible repeat (first | apply Kd.q0p | apply Kd.q0q | apply Kd.R_drew));exact HO173.out) hb)
      have n3_ := Aside0.mk (Kd.R_elder' (by (with_reducible repeat (first | apply Kd.q0p | apply Kd.q0q | apply Kd.R_drew));exact HO177.out) (Kd.R_base ho34) hb)
      have n4_ := Aside0.mk (Kd.R_below (by (with_reducible repeat (first | apply Kd.q0p | apply Kd.q0q | apply Kd.R_drew));exact HO180.out) hb)
      have n5_ := Aside0.mk (Kd.R_elder' (by (with_reducible repeat (first | apply Kd.q0p | apply Kd.q0q | apply Kd.R_drew));exact HO184.out) (Kd.R_base ho34) hb)
      have n6_ := Aside0.mk (Kd.R_lower (Kd.R_new' (Kd.R_new' (Kd.R_new' (Kd.R_new' ho34 (Kd.R_lt (by (with_reducible repeat (first | apply Kd.q0p | apply Kd.q0q | apply Kd.R_drew));exact HO167.out))) (Kd.R_lt (by (with_reducible repeat (first | apply Kd.q0p | apply Kd.q0q | apply Kd.R_drew));exact HO170.out))) (Kd.R_lt (by (with_reducible repeat (first | apply Kd.q0p | apply Kd.q0q | apply Kd.R_drew));exact HO177.out))) (Kd.R_lt (by (with_reducible repeat (first | apply Kd.q0p | apply Kd.q0q | apply Kd.R_drew));exact HO184.out))) (q0g (by repeat (first | (with_reducible first | exact HB.out | apply q0b | apply q0a | apply q0c) | exact HB.out))))
      have n7_ := Aside0.mk (q0l (by repeat (first | (with_reducible first | exact HB.out | apply q0b | apply q0a | apply q0c) | exact HB.out)) hb)
      clear HO167
      clear HO170
      clear HO173
      clear HO177
      clear HO180
      clear HO184
      clear HB
      have HO167 := n0_
      have HO170 := n1_
      have HO173 := n2_
      have HO177 := n3_
      have HO180 := n4_
      have HO184 := n5_
      have HO187 := n6_
      have HB := n7_
      clear n0_ n1_ n2_ n3_ n4_ n5_ n6_ n7_
      clear hb ho34
      obtain ⟨Ao35,co35,eo35⟩ := Kd.R_slice HO177.out
      (first | subst eo35 | (injection eo35 with f1_ f2_ f3_;have f4_ := f1_.symm;have f5_ := f3_.symm;clear f1_ f2_ f3_;subst f4_;subst f5_))
      obtain ⟨Ao36,co36,eo36⟩ := Kd.R_slice HO187.out
      (first | subst eo36 | (injection eo36 with f1_ f2_ f3_;have f4_ := f1_.symm;have f5_ := f3_.symm;clear f1_ f2_ f3_;subst f4_;subst f5_))
      refine hK.out _ _ trivial (fun hHeld => ?_)
      clear hK K
      refine norm_ (a' := ?_) ?_ ?_
      rotate_left
      ·show Act.put _ (some 30) _ = _
       simp only [Act.put,zA,zB,zC,i64_w,i32_w]
       rfl
      refine one_ (i := 8) (N := some 31) #[true,true,true,true,true,true,true,true,true,false,false,false,false,false,false,false,false,false,false,false,false,false,false,false,false,false,false,false,false] rfl rfl (one_of HT_.out (by kernel_rfl)) (by decide) (fun K hK => ?_)
      refine goes_ Try.func16 (by kernel_rfl) rfl #[.slice Ao35 t174.length co35,.slice Ao36 y185.length co36] (by rfl) rfl rfl (by (try simp only [List.map_toArray,List.map_cons,List.map_nil]);first | done | rfl | (simp only [List.length_drop,List.length_take];rfl)) ?_
      with_reducible refine (verdererref02_Equal.calls k _ _ t174 _ _ y185 true _ ?side1 ?side2 ?side3 ?side4 A8.out).mono ?_
      (case side1 => repeat (first | exact (Kd.R_reads' HO177.out).2.2 | (with_reducible refine Kd.C_alloc ?_ _) | (with_reducible refine Kd.C_drewN ?_ _) | (with_reducible refine Kd.C_drew ?_)))
      (case side2 => exact (Kd.R_reads' HO177.out).2.1)
      (case side3 => repeat (first | exact (Kd.R_reads' HO187.out).2.2 | (with_reducible refine Kd.C_alloc ?_ _) | (with_reducible refine Kd.C_drewN ?_ _) | (with_reducible refine Kd.C_drew ?_)))
      (case side4 => exact (Kd.R_reads' HO187.out).2.1)
      rintro e w' ⟨rfl,⟨nd,rfl⟩⟩
      refine ⟨_,rfl,?_⟩
      have q37 : (1 : Int) ≤ ((t174.length : Int) : Int) := of_decide_eq_true (by first | (with_reducible assumption) | assumption)
      obtain ⟨i037,hi037,_,hsz37,_⟩ := info_parts info50
      have hroom37 : t174.length ≤ co35 := (Kd.R_reads' HO177.out).2.1
      have hC37 : Kd.F k50 _ _ Ao35 t174.length t174 := (Kd.V_at (base := w.heap.size) (Kd.R_V (Kd.R_apart' (Kd.R_apart' (HO177.out) (Kd.R_typed HO173.out) (by decide)) (Kd.R_typed HO180.out) (by decide)))).2.2
      have hcut37 := cut_to (P := Try.prog) 22 50 .i64 Try.underlying22 hi037 Ao35 t174.length co35 1 (by omega) q37 hroom37
      have hr37 := Kd.F_take (m := 1) hC37 (by omega)
      have hy37 : y189.length = (1 : Int).toNat := (by rw [Ny189.out,List.length_take];omega)
      rw [← Ny189.out] at hr37
      rw [← hy37] at hcut37
      have HO193 := Aside0.mk (show Kd.V k50 50 _ w.heap.size _ (.slice Ao35 y189.length co35) y189 from Kd.V_mk (by omega) hr37)
      have HC193 := Aside0.mk (show y189.length ≤ co35 from by omega)
      clear hr37 hC37 hroom37 hi037 hsz37
      have KY37 := Aside0.mk hy37
      clear hy37
      replace q37 := eq_true q37
      have q38 : (1 : Int) ≤ ((t174.length : Int) : Int) := of_decide_eq_true (by first | (with_reducible assumption) | assumption)
      obtain ⟨i038,hi038,_,hsz38,_⟩ := info_parts info50
      have hroom38 : t174.length ≤ co35 := (Kd.R_reads' HO177.out).2.1
      have hC38 : Kd.F k50 _ _ Ao35 t174.length t174 := (Kd.V_at (base := w.heap.size) (Kd.R_V (Kd.R_apart' (Kd.R_apart' (HO177.out) (Kd.R_typed HO173.out) (by decide)) (Kd.R_typed HO180.out) (by decide)))).2.2
      have hcut38 := cut_from (P := Try.prog) 22 50 .i64 Try.underlying22 hi038 4 hsz38 Ao35 t174.length co35 1 (by omega) q38
      have hr38 := Kd.F_cut (m := (1 : Int).toNat) (c := co35) hC38 (by omega) hroom38
      obtain ⟨A38,hA38⟩ : ∃ A1,A1 = (if co35 = (1 : Int).toNat then Ao35 else (Ao35 : Option Addr).map (·.add ((1 : Int).toNat * 4))) := ⟨_,rfl⟩
      obtain ⟨c38,hc38⟩ : ∃ c1,c1 = co35 - (1 : Int).toNat := ⟨_,rfl⟩
      have hy38 : y194.length = t174.length - (1 : Int).toNat := (by rw [Ny194.out,List.length_drop] <;> omega)
      rw [show (t174).drop (1 : Int).toNat = y194 from Ny194.out.symm] at hr38
      replace hr38 : Kd.F k50 _ _ A38 y194.length y194 := (by rw [hA38];exact hr38)
      rw [← hy38,← hA38,← hc38] at hcut38
      have HO198 := Aside0.mk (show Kd.V k50 50 _ w.heap.size _ (.slice A38 y194.length c38) y194 from Kd.V_mk (by rw [hy38,hc38];exact Nat.sub_le_sub_right hroom38 _) hr38)
      have HC198 := Aside0.mk (show y194.length ≤ c38 from by rw [hy38,hc38];exact Nat.sub_le_sub_right hroom38 _)
      clear hr38 hC38 hroom38 hi038 hsz38 hc38
      have KY38 := Aside0.mk hy38
      have KA38 := Aside0.mk hA38
      clear hy38 hA38
      replace q38 := eq_true q38
      refine hK.out _ _ trivial (fun hHeld => ?_)
      clear hK K
      refine norm_ (a' := ?_) ?_ ?_
      rotate_left
      ·show Act.put _ (some 31) _ = _
       simp only [Act.put,zA,zB,zC,i64_w,i32_w]
       rfl
      refine pure_ (i := 9) (N := some 32) (v := ?_) (a' := ?_) #[true,true,true,true,true,true,true,true,true,true,false,false,false,false,false,false,false,false,false,false,false,false,false,false,false,false,false,false,false] rfl rfl (q0m HT_.out (by kernel_rfl)) (fun _ _ _ h => h) (Or.inl ⟨by rfl,?_⟩) ?_ ?_
      rotate_left
      ·intro w'
       go_simp
       with_reducible rfl
      rotate_left
      ·simp only [Act.put,zA,zB,zC,i64_w,i32_w]
       rfl
      refine pure_ (i := 10) (N := some 33) (v := ?_) (a' := ?_) #[true,true,true,true,true,true,true,true,true,true,true,false,false,false,false,false,false,false,false,false,false,false,false,false,false,false,false,false,false] rfl rfl (q0m HT_.out (by kernel_rfl)) (fun _ _ _ h => h) (Or.inl ⟨by rfl,?_⟩) ?_ ?_
      rotate_left
      ·intro w'
       go_simp
       with_reducible rfl
      rotate_left
      ·simp only [Act.put,zA,zB,zC,i64_w,i32_w]
       rfl
      refine pure_ (i := 11) (N := some 34) (v := ?_) (a' := ?_) #[true,true,true,true,true,true,true,true,true,true,true,true,false,false,false,false,false,false,false,false,false,false,false,false,false,false,false,false,false] rfl rfl (q0m HT_.out (by kernel_rfl)) (fun _ _ _ h => h) (Or.inl ⟨by rfl,?_⟩) ?_ ?_
      rotate_left
      ·intro w'
       go_simp
       with_reducible rfl
      rotate_left
      ·simp only [Act.put,zA,zB,zC,i64_w,i32_w]
       rfl
      refine pure_ (i := 12) (N := some 35) (v := ?_) (a' := ?_) #[true,true,true,true,true,true,true,true,true,true,true,true,true,false,false,false,false,false,false,false,false,false,false,false,false,false,false,false,false] rfl rfl (q0m HT_.out (by kernel_rfl)) (fun _ _ _ h => h) (Or.inl ⟨by rfl,?_⟩) ?_ ?_
      rotate_left
      ·intro w'
       go_simp
       with_reducible rfl
      rotate_left
      ·simp only [Act.put,zA,zB,zC,i64_w,i32_w]
       rfl
      refine pure_ (i := 13) (N := some 36) (v := ?_) (a' := ?_) #[true,true,true,true,true,true,true,true,true,true,true,true,true,true,false,false,false,false,false,false,false,false,false,false,false,false,false,false,false] rfl rfl (q0m HT_.out (by kernel_rfl)) (fun _ _ _ h => h) (Or.inl ⟨by rfl,?_⟩) ?_ ?_
      rotate_left
      ·intro w'
       go_simp
       with_reducible rfl
      rotate_left
      ·simp only [Act.put,zA,zB,zC,i64_w,i32_w]
       rfl
      refine pure_ (i := 14) (N := some 37) (v := ?_) (a' := ?_) #[true,true,true,true,true,true,true,true,true,true,true,true,true,true,true,false,false,false,false,false,false,false,false,false,false,false,false,false,false] rfl rfl (q0m HT_.out (by kernel_rfl)) (fun _ _ _ h => h) (Or.inl ⟨by rfl,?_⟩) ?_ ?_
      rotate_left
      ·intro w'
       go_simp
       with_reducible rfl
      rotate_left
      ·simp only [Act.put,zA,zB,zC,i64_w,i32_w]
       rfl
      refine pure_ (i := 15) (N := some 38) (v := ?_) (a' := ?_) #[true,true,true,true,true,true,true,true,true,true,true,true,true,true,true,true,false,false,false,false,false,false,false,false,false,false,false,false,false] rfl rfl (q0m HT_.out (by kernel_rfl)) (fun _ _ _ h => h) (Or.inl ⟨by rfl,?_⟩) ?_ ?_
      rotate_left
      ·intro w'
       go_simp
       with_reducible rfl
      rotate_left
      ·simp only [Act.put,zA,zB,zC,i64_w,i32_w]
       rfl
      refine pure_ (i := 16) (N := some 39) (v := ?_) (a' := ?_) #[true,true,true,true,true,true,true,true,true,true,true,true,true,true,true,true,true,false,false,false,false,false,false,false,false,false,false,false,false] rfl rfl (q0m HT_.out (by kernel_rfl)) (fun _ _ _ h => h) (Or.inl ⟨by rfl,?_⟩) ?_ ?_
      rotate_left
      ·intro w'
       go_simp
       with_reducible rfl
      rotate_left
      ·simp only [Act.put,zA,zB,zC,i64_w,i32_w]
       rfl
      refine pure_ (i := 17) (N := some 40) (v := ?_) (a' := ?_) #[true,true,true,true,true,true,true,true,true,true,true,true,true,true,true,true,true,true,false,false,false,false,false,false,false,false,false,false,false] rfl rfl (q0m HT_.out (by kernel_rfl)) (fun _ _ _ h => h) (Or.inl ⟨by rfl,?_⟩) ?_ ?_
      rotate_left
      ·intro w'
       go_simp
       with_reducible rfl
      rotate_left
      ·simp only [Act.put,zA,zB,zC,i64_w,i32_w]
       rfl
      refine pure_ (i := 18) (N := some 41) (v := ?_) (a' := ?_) #[true,true,true,true,true,true,true,true,true,true,true,true,true,true,true,true,true,true,true,false,false,false,false,false,false,false,false,false,false] rfl rfl (q0m HT_.out (by kernel_rfl)) (fun _ _ _ h => h) (Or.inl ⟨by rfl,?_⟩) ?_ ?_
      rotate_left
      ·intro w'
       go_simp
       with_reducible rfl
      rotate_left
      ·simp only [Act.put,zA,zB,zC,i64_w,i32_w]
       rfl
      refine pure_ (i := 19) (N := some 42) (v := ?_) (a' := ?_) #[true,true,true,true,true,true,true,true,true,true,true,true,true,true,true,true,true,true,true,true,false,false,false,false,false,false,false,false,false] rfl rfl (q0m HT_.out (by kernel_rfl)) (fun _ _ _ h => h) (Or.inl ⟨by rfl,?_⟩) ?_ ?_
      rotate_left
      ·intro w'
       go_simp
       with_reducible rfl
      rotate_left
      ·simp only [Act.put,zA,zB,zC,i64_w,i32_w]
       rfl
      refine pure_ (i := 20) (N := some 43) (v := ?_) (a' := ?_) #[true,true,true,true,true,true,true,true,true,true,true,true,true,true,true,true,true,true,true,true,true,false,false,false,false,false,false,false,false] rfl rfl (q0m HT_.out (by kernel_rfl)) (fun _ _ _ h => h) (Or.inl ⟨by rfl,?_⟩) ?_ ?_
      rotate_left
      ·intro w'
       go_simp
       with_reducible rfl
      rotate_left
      ·simp only [Act.put,zA,zB,zC,i64_w,i32_w]
       rfl
      refine pure_ (i := 21) (N := some 44) (v := ?_) (a' := ?_) #[true,true,true,true,true,true,true,true,true,true,true,true,true,true,true,true,true,true,true,true,true,true,false,false,false,false,false,false,false] rfl rfl (q0m HT_.out (by kernel_rfl)) (fun _ _ _ h => h) (Or.inl ⟨by rfl,?_⟩) ?_ ?_
      rotate_left
      ·intro w'
       go_simp
       with_reducible rfl
      rotate_left
      ·simp only [Act.put,zA,zB,zC,i64_w,i32_w]
       rfl
      refine pure_ (i := 22) (N := some 45) (v := ?_) (a' := ?_) #[true,true,true,true,true,true,true,true,true,true,true,true,true,true,true,true,true,true,true,true,true,true,true,false,false,false,false,false,false] rfl rfl (q0m HT_.out (by kernel_rfl)) (fun _ _ _ h => h) (Or.inl ⟨by rfl,?_⟩) ?_ ?_
      rotate_left
      ·intro w'
       go_simp
       with_reducible rfl
      rotate_left
      ·simp only [Act.put,zA,zB,zC,i64_w,i32_w]
       rfl
      refine pure_ (i := 25) (N := some 48) (v := ?_) (a' := ?_) #[true,true,true,true,true,true,true,true,true,true,true,true,true,true,true,true,true,true,true,true,true,true,true,false,false,true,false,false,false] rfl rfl (q0m HT_.out (by kernel_rfl)) (fun _ _ _ h => h) (Or.inl ⟨by rfl,?_⟩) ?_ ?_
      rotate_left
      ·intro w'
       go_simp
       with_reducible rfl
      rotate_left
      ·simp only [Act.put,zA,zB,zC,i64_w,i32_w]
       rfl
      refine one_ (i := 23) (N := some 46) #[true,true,true,true,true,true,true,true,true,true,true,true,true,true,true,true,true,true,true,true,true,true,true,true,false,true,false,false,false] rfl rfl (one_of HT_.out (by kernel_rfl)) (by decide) (fun K hK => ?_)
      refine Kd.N_lit_step (Kd.slice 50 k50) _ 22 ?hg (N' := 46) ?hd (xs := ([y189,y194] : List (List (S50)))) (inner := [.slice Ao35 y189.length co35,.slice A38 y194.length c38]) (ok := (fun k_ => some k_ ≠ (.slice Ao21 y165.length co21 : Value).ownBlock ∧ some k_ ≠ (.slice Ao25 t168.length co25 : Value).ownBlock ∧ some k_ ≠ (.slice Ao26 y171.length co26 : Value).ownBlock ∧ some k_ ≠ (.slice Ao30 y178.length co30 : Value).ownBlock ∧ some k_ ≠ (v183 : Value).ownBlock ∧ some k_ ≠ (.slice Ao36 y185.length co36 : Value).ownBlock)) (okp := (fun k_ => some k_ ≠ (.slice Ao21 y165.length co21 : Value).ownBlock ∧ some k_ ≠ (.slice Ao25 t168.length co25 : Value).ownBlock ∧ some k_ ≠ (.slice Ao26 y171.length co26 : Value).ownBlock ∧ some k_ ≠ (.slice Ao30 y178.length co30 : Value).ownBlock ∧ some k_ ≠ (v183 : Value).ownBlock ∧ some k_ ≠ (.slice Ao36 y185.length co36 : Value).ownBlock)) ?hr ?hp (fun _ hk => hk) ((show ∀ k_,w33.heap.size ≤ k_ → (fun k_ => some k_ ≠ (.slice Ao21 y165.length co21 : Value).ownBlock ∧ some k_ ≠ (.slice Ao25 t168.length co25 : Value).ownBlock ∧ some k_ ≠ (.slice Ao26 y171.length co26 : Value).ownBlock ∧ some k_ ≠ (.slice Ao30 y178.length co30 : Value).ownBlock ∧ some k_ ≠ (v183 : Value).ownBlock ∧ some k_ ≠ (.slice Ao36 y185.length co36 : Value).ownBlock) k_ from fun k_ hk => ⟨Kd.fresh' (Kd.R_lt (by (with_reducible repeat (first | apply Kd.q0p | apply Kd.q0q | apply Kd.R_drew));exact HO167.out)) k_ hk,Kd.fresh' (Kd.R_lt (by (with_reducible repeat (first | apply Kd.q0p | apply Kd.q0q | apply Kd.R_drew));exact HO170.out)) k_ hk,Kd.fresh' (Kd.R_lt (by (with_reducible repeat (first | apply Kd.q0p | apply Kd.q0q | apply Kd.R_drew));exact HO173.out)) k_ hk,Kd.fresh' (Kd.R_lt (by (with_reducible repeat (first | apply Kd.q0p | apply Kd.q0q | apply Kd.R_drew));exact HO180.out)) k_ hk,Kd.fresh' (Kd.R_lt (by (with_reducible repeat (first | apply Kd.q0p | apply Kd.q0q | apply Kd.R_drew));exact HO184.out)) k_ hk,Kd.fresh' (Kd.R_lt (by (with_reducible repeat (first | apply Kd.q0p | apply Kd.q0q | apply Kd.R_drew));exact HO187.out)) k_ hk⟩) _ (Nat.le_refl _)) (Below.refl _ _) (Nat.le_refl _) (by simp) ?_;(case hd => rfl);(case hg => rfl);(case hr => first | (go_simp;done) | (go_simp;rfl));(case hp => exact (Reps.one (show Kd.FK (Kd.slice 50 k50) _ _ y189 [.slice Ao35 y189.length co35] from (Kd.FK_slice_mk (Kd.V_reads' (e := 50) (base := w.heap.size) (Kd.V_mono (e := 50) (base := w.heap.size) (ok' := (fun k_ => some k_ ≠ (.slice Ao21 y165.length co21 : Value).ownBlock ∧ some k_ ≠ (.slice Ao25 t168.length co25 : Value).ownBlock ∧ some k_ ≠ (.slice Ao26 y171.length co26 : Value).ownBlock ∧ some k_ ≠ (.slice Ao30 y178.length co30 : Value).ownBlock ∧ some k_ ≠ (v183 : Value).ownBlock ∧ some k_ ≠ (.slice Ao36 y185.length co36 : Value).ownBlock)) (HO193.out) (fun k_ hk => ⟨hk.1.1.1.1.1.2,⟨hk.1.1.1.1.2,⟨hk.1.2,⟨hk.2,⟨hk.1.1.1.2,hk.1.1.2⟩⟩⟩⟩⟩))).2.1 (Kd.V_F (e := 50) (base := w.heap.size) (Kd.V_mono (e := 50) (base := w.heap.size) (ok' := (fun k_ => some k_ ≠ (.slice Ao21 y165.length co21 : Value).ownBlock ∧ some k_ ≠ (.slice Ao25 t168.length co25 : Value).ownBlock ∧ some k_ ≠ (.slice Ao26 y171.length co26 : Value).ownBlock ∧ some k_ ≠ (.slice Ao30 y178.length co30 : Value).ownBlock ∧ some k_ ≠ (v183 : Value).ownBlock ∧ some k_ ≠ (.slice Ao36 y185.length co36 : Value).ownBlock)) (HO193.out) (fun k_ hk => ⟨hk.1.1.1.1.1.2,⟨hk.1.1.1.1.2,⟨hk.1.2,⟨hk.2,⟨hk.1.1.1.2,hk.1.1.2⟩⟩⟩⟩⟩))))) (Reps.one (show Kd.FK (Kd.slice 50 k50) _ _ y194 [.slice A38 y194.length c38] from (Kd.FK_slice_mk (Kd.V_reads' (e := 50) (base := w.heap.size) (Kd.V_mono (e := 50) (base := w.heap.size) (ok' := (fun k_ => some k_ ≠ (.slice Ao21 y165.length co21 : Value).ownBlock ∧ some k_ ≠ (.slice Ao25 t168.length co25 : Value).ownBlock ∧ some k_ ≠ (.slice Ao26 y171.length co26 : Value).ownBlock ∧ some k_ ≠ (.slice Ao30 y178.length co30 : Value).ownBlock ∧ some k_ ≠ (v183 : Value).ownBlock ∧ some k_ ≠ (.slice Ao36 y185.length co36 : Value).ownBlock)) (HO198.out) (fun k_ hk => ⟨hk.1.1.1.1.1.2,⟨hk.1.1.1.1.2,⟨hk.1.2,⟨hk.2,⟨hk.1.1.1.2,hk.1.1.2⟩⟩⟩⟩⟩))).2.1 (Kd.V_F (e := 50) (base := w.heap.size) (Kd.V_mono (e := 50) (base := w.heap.size) (ok' := (fun k_ => some k_ ≠ (.slice Ao21 y165.length co21 : Value).ownBlock ∧ some k_ ≠ (.slice Ao25 t168.length co25 : Value).ownBlock ∧ some k_ ≠ (.slice Ao26 y171.length co26 : Value).ownBlock ∧ some k_ ≠ (.slice Ao30 y178.length co30 : Value).ownBlock ∧ some k_ ≠ (v183 : Value).ownBlock ∧ some k_ ≠ (.slice Ao36 y185.length co36 : Value).ownBlock)) (HO198.out) (fun k_ hk => ⟨hk.1.1.1.1.1.2,⟨hk.1.1.1.1.2,⟨hk.1.2,⟨hk.2,⟨hk.1.1.1.2,hk.1.1.2⟩⟩⟩⟩⟩))))) (Reps.none _ _))))
      intro v200 w39 ho40 hb hg_ hnew_
      clear hg_ hnew_
      (first | rw [← Ny199.out] at ho40 | (simp only [Int.reduceToNat] at ho40;rw [← Ny199.out] at ho40))
      have n0_ := Aside0.mk (Kd.R_below (by (with_reducible repeat (first | apply Kd.q0p | apply Kd.q0q | apply Kd.R_drew));exact HO167.out) hb)
      have n1_ := Aside0.mk (Kd.R_below (by (with_reducible repeat (first | apply Kd.q0p | apply Kd.q0q | apply Kd.R_drew));exact HO170.out) hb)
      have n2_ := Aside0.mk (Kd.R_below (by (with_reducible repeat (first | apply Kd.q0p | apply Kd.q0q | apply Kd.R_drew));exact HO173.out) hb)
      have n3_ := Aside0.mk (Kd.R_below (by (with_reducible repeat (first | apply Kd.q0p | apply Kd.q0q | apply Kd.R_drew));exact HO177.out) hb)
      have n4_ := Aside0.mk (Kd.R_below (by (with_reducible repeat (first | apply Kd.q0p | apply Kd.q0q | apply Kd.R_drew));exact HO180.out) hb)
      have n5_ := Aside0.mk (Kd.R_below (by (with_reducible repeat (first | apply Kd.q0p | apply Kd.q0q | apply Kd.R_drew));exact HO184.out) hb)
      have n6_ := Aside0.mk (Kd.R_below (by (with_reducible repeat (first | apply Kd.q0p | apply Kd.q0q | apply Kd.R_drew));exact HO187.out) hb)
      have n7_ := Aside0.mk (Kd.V_elder' (by (with_reducible repeat (first | apply Kd.V_alloc | apply Kd.V_drewN | apply Kd.V_drew));exact HO193.out) (Kd.N_base ho40) hb)
      have n8_ := Aside0.mk (Kd.V_elder' (by (with_reducible repeat (first | apply Kd.V_alloc | apply Kd.V_drewN | apply Kd.V_drew));exact HO198.out) (Kd.N_base ho40) hb)
      have n9_ := Aside0.mk (Kd.N_lower ho40 (q0g (by repeat (first | (with_reducible first | exact HB.out | apply q0b | apply q0a | apply q0c) | exact HB.out))))
      have n10_ := Aside0.mk (q0l (by repeat (first | (with_reducible first | exact HB.out | apply q0b | apply q0a | apply q0c) | exact HB.out)) hb)
      clear HO167
      clear HO170
      clear HO173
      clear HO177
      clear HO180
      clear HO184
      clear HO187
      clear HO193
      clear HO198
      clear HB
      have HO167 := n0_
      have HO170 := n1_
      have HO173 := n2_
      have HO177 := n3_
      have HO180 := n4_
      have HO184 := n5_
      have HO187 := n6_
      have HO193 := n7_
      have HO198 := n8_
      have HO201 := n9_
      have HB := n10_
      clear n0_ n1_ n2_ n3_ n4_ n5_ n6_ n7_ n8_ n9_ n10_
      clear hb ho40
      obtain ⟨Ao41,co41,eo41⟩ := Kd.N_slice HO201.out
      (first | subst eo41 | (injection eo41 with f1_ f2_ f3_;have f4_ := f1_.symm;have f5_ := f3_.symm;clear f1_ f2_ f3_;subst f4_;subst f5_))
      refine hK.out _ _ trivial (fun hHeld => ?_)
      clear hK K
      refine norm_ (a' := ?_) ?_ ?_
      rotate_left
      ·show Act.put _ (some 46) _ = _
       simp only [Act.put,zA,zB,zC,i64_w,i32_w]
       rfl
      refine one_ (i := 24) (N := some 47) #[true,true,true,true,true,true,true,true,true,true,true,true,true,true,true,true,true,true,true,true,true,true,true,true,true,true,false,false,false] rfl rfl (one_of HT_.out (by kernel_rfl)) (by decide) (fun K hK => ?_)
      refine goes_ Try.func17 (by kernel_rfl) rfl #[.slice Ao41 y199.length co41] (by rfl) rfl rfl (by (try simp only [List.map_toArray,List.map_cons,List.map_nil]);first | done | rfl | (simp only [List.length_drop,List.length_take];rfl)) ?_
      with_reducible refine (row_Join.calls k _ _ y199 t202 _ ?side1 ?side2 A14.out).mono ?_
      (case side1 => repeat (first | exact (Kd.N_reads' HO201.out).2.2 | (with_reducible refine Kd.C_alloc ?_ _) | (with_reducible refine Kd.C_drewN ?_ _) | (with_reducible refine Kd.C_drew ?_)))
      (case side2 => exact (Kd.N_reads' HO201.out).2.1)
      rintro e w42 ⟨v203,rfl,ho0,hb⟩
      refine ⟨_,rfl,?_⟩
      have n0_ := Aside0.mk (Kd.R_elder' (by (with_reducible repeat (first | apply Kd.q0p | apply Kd.q0q | apply Kd.R_drew));exact HO167.out) (Kd.R_base ho0) hb)
      have n1_ := Aside0.mk (Kd.R_elder' (by (with_reducible repeat (first | apply Kd.q0p | apply Kd.q0q | apply Kd.R_drew));exact HO170.out) (Kd.R_base ho0) hb)
      have n2_ := Aside0.mk (Kd.R_below (by (with_reducible repeat (first | apply Kd.q0p | apply Kd.q0q | apply Kd.R_drew));exact HO173.out) hb)
      have n3_ := Aside0.mk (Kd.R_elder' (by (with_reducible repeat (first | apply Kd.q0p | apply Kd.q0q | apply Kd.R_drew));exact HO177.out) (Kd.R_base ho0) hb)
      have n4_ := Aside0.mk (Kd.R_below (by (with_reducible repeat (first | apply Kd.q0p | apply Kd.q0q | apply Kd.R_drew));exact HO180.out) hb)
      have n5_ := Aside0.mk (Kd.R_elder' (by (with_reducible repeat (first | apply Kd.q0p | apply Kd.q0q | apply Kd.R_drew));exact HO184.out) (Kd.R_base ho0) hb)
      have n6_ := Aside0.mk (Kd.R_elder' (by (with_reducible repeat (first | apply Kd.q0p | apply Kd.q0q | apply Kd.R_drew));exact HO187.out) (Kd.R_base ho0) hb)
      have n7_ := Aside0.mk (Kd.V_elder' (by (with_reducible repeat (first | apply Kd.V_alloc | apply Kd.V_drewN | apply Kd.V_drew));exact HO193.out) (Kd.R_base ho0) hb)
      have n8_ := Aside0.mk (Kd.V_elder' (by (with_reducible repeat (first | apply Kd.V_alloc | apply Kd.V_drewN | apply Kd.V_drew));exact HO198.out) (Kd.R_base ho0) hb)
      have n9_ := Aside0.mk (Kd.N_elder' (by (with_reducible repeat (first | apply Kd.N_alloc | apply Kd.N_drewN | apply Kd.N_drew));exact HO201.out) (Kd.R_base ho0) hb)
      have n10_ := Aside0.mk (Kd.R_lower (Kd.R_new' (Kd.R_new' (Kd.R_new' (Kd.R_new' (Kd.R_new' ho0 (Kd.R_lt (by (with_reducible repeat (first | apply Kd.q0p | apply Kd.q0q | apply Kd.R_drew));exact HO167.out))) (Kd.R_lt (by (with_reducible repeat (first | apply Kd.q0p | apply Kd.q0q | apply Kd.R_drew));exact HO170.out))) (Kd.R_lt (by (with_reducible repeat (first | apply Kd.q0p | apply Kd.q0q | apply Kd.R_drew));exact HO177.out))) (Kd.R_lt (by (with_reducible repeat (first | apply Kd.q0p | apply Kd.q0q | apply Kd.R_drew));exact HO184.out))) (Kd.R_lt (by (with_reducible repeat (first | apply Kd.q0p | apply Kd.q0q | apply Kd.R_drew));exact HO187.out))) (q0g (by repeat (first | (with_reducible first | exact HB.out | apply q0b | apply q0a | apply q0c) | exact HB.out))))
      have n11_ := Aside0.mk (q0l (by repeat (first | (with_reducible first | exact HB.out | apply q0b | apply q0a | apply q0c) | exact HB.out)) hb)
      clear HO167
      clear HO170
      clear HO173
      clear HO177
      clear HO180
      clear HO184
      clear HO187
      clear HO193
      clear HO198
      clear HO201
      clear HB
      have HO167 := n0_
      have HO170 := n1_
      have HO173 := n2_
      have HO177 := n3_
      have HO180 := n4_
      have HO184 := n5_
      have HO187 := n6_
      have HO193 := n7_
      have HO198 := n8_
      have HO201 := n9_
      have HO204 := n10_
      have HB := n11_
      clear n0_ n1_ n2_ n3_ n4_ n5_ n6_ n7_ n8_ n9_ n10_ n11_
      (try clear hb)
      (try clear hb2)
      (try clear hk)
      (try clear hi)
      (try clear ho0)
      obtain ⟨Ao43,co43,eo43⟩ := Kd.R_slice HO204.out
      (first | subst eo43 | (injection eo43 with f1_ f2_ f3_;have f4_ := f1_.symm;have f5_ := f3_.symm;clear f1_ f2_ f3_;subst f4_;subst f5_))
      refine hK.out _ _ trivial (fun hHeld => ?_)
      clear hK K
      refine norm_ (a' := ?_) ?_ ?_
      rotate_left
      ·show Act.put _ (some 47) _ = _
       simp only [Act.put,zA,zB,zC,i64_w,i32_w]
       rfl
      refine one_ (i := 26) (N := some 49) #[true,true,true,true,true,true,true,true,true,true,true,true,true,true,true,true,true,true,true,true,true,true,true,true,true,true,true,false,false] rfl rfl (one_of HT_.out (by kernel_rfl)) (by decide) (fun K hK => ?_)
      refine goes_ Try.func21 (by kernel_rfl) rfl #[.slice Ao43 t202.length co43,.slice Ao35 t174.length co35] (by rfl) rfl rfl (by (try simp only [List.map_toArray,List.map_cons,List.map_nil]);first | done | rfl | (simp only [List.length_drop,List.length_take];rfl)) ?_
      with_reducible refine (row_Same.calls k _ _ t202 _ _ t174 t205 _ ?side1 ?side2 ?side3 ?side4 A15.out).mono ?_
      (case side1 => repeat (first | exact (Kd.R_reads' HO204.out).2.2 | (with_reducible refine Kd.C_alloc ?_ _) | (with_reducible refine Kd.C_drewN ?_ _) | (with_reducible refine Kd.C_drew ?_)))
      (case side2 => exact (Kd.R_reads' HO204.out).2.1)
      (case side3 => repeat (first | exact (Kd.R_reads' HO177.out).2.2 | (with_reducible refine Kd.C_alloc ?_ _) | (with_reducible refine Kd.C_drewN ?_ _) | (with_reducible refine Kd.C_drew ?_)))
      (case side4 => exact (Kd.R_reads' HO177.out).2.1)
      rintro e w44 ⟨rfl,hb⟩
      refine ⟨_,rfl,?_⟩
      have n0_ := Aside0.mk (Kd.R_below (by (with_reducible repeat (first | apply Kd.q0p | apply Kd.q0q | apply Kd.R_drew));exact HO167.out) hb)
      have n1_ := Aside0.mk (Kd.R_below (by (with_reducible repeat (first | apply Kd.q0p | apply Kd.q0q | apply Kd.R_drew));exact HO170.out) hb)
      have n2_ := Aside0.mk (Kd.R_below (by (with_reducible repeat (first | apply Kd.q0p | apply Kd.q0q | apply Kd.R_drew));exact HO173.out) hb)
      have n3_ := Aside0.mk (Kd.R_below (by (with_reducible repeat (first | apply Kd.q0p | apply Kd.q0q | apply Kd.R_drew));exact HO177.out) hb)
      have n4_ := Aside0.mk (Kd.R_below (by (with_reducible repeat (first | apply Kd.q0p | apply Kd.q0q | apply Kd.R_drew));exact HO180.out) hb)
      have n5_ := Aside0.mk (Kd.R_below (by (with_reducible repeat (first | apply Kd.q0p | apply Kd.q0q | apply Kd.R_drew));exact HO184.out) hb)
      have n6_ := Aside0.mk (Kd.R_below (by (with_reducible repeat (first | apply Kd.q0p | apply Kd.q0q | apply Kd.R_drew));exact HO187.out) hb)
      have n7_ := Aside0.mk (Kd.V_below (by (with_reducible repeat (first | apply Kd.V_alloc | apply Kd.V_drewN | apply Kd.V_drew));exact HO193.out) hb)
      have n8_ := Aside0.mk (Kd.V_below (by (with_reducible repeat (first | apply Kd.V_alloc | apply Kd.V_drewN | apply Kd.V_drew));exact HO198.out) hb)
      have n9_ := Aside0.mk (Kd.N_below (by (with_reducible repeat (first | apply Kd.N_alloc | apply Kd.N_drewN | apply Kd.N_drew));exact HO201.out) hb)
      have n10_ := Aside0.mk (Kd.R_below (by (with_reducible repeat (first | apply Kd.q0p | apply Kd.q0q | apply Kd.R_drew));exact HO204.out) hb)
      have n11_ := Aside0.mk (q0l (by repeat (first | (with_reducible first | exact HB.out | apply q0b | apply q0a | apply q0c) | exact HB.out)) hb)
      clear HO167
      clear HO170
      clear HO173
      clear HO177
      clear HO180
      clear HO184
      clear HO187
      clear HO193
      clear HO198
      clear HO201
      clear HO204
      clear HB
      have HO167 := n0_
      have HO170 := n1_
      have HO173 := n2_
      have HO177 := n3_
      have HO180 := n4_
      have HO184 := n5_
      have HO187 := n6_
      have HO193 := n7_
      have HO198 := n8_
      have HO201 := n9_
      have HO204 := n10_
      have HB := n11_
      clear n0_ n1_ n2_ n3_ n4_ n5_ n6_ n7_ n8_ n9_ n10_ n11_
      (try clear hb)
      (try clear hb2)
      (try clear hk)
      (try clear hi)
      refine hK.out _ _ trivial (fun hHeld => ?_)
      clear hK K
      refine norm_ (a' := ?_) ?_ ?_
      rotate_left
      ·show Act.put _ (some 49) _ = _
       simp only [Act.put,zA,zB,zC,i64_w,i32_w]
       rfl
      refine pure_ (i := 27) (N := some 50) (v := ?_) (a' := ?_) #[true,true,true,true,true,true,true,true,true,true,true,true,true,true,true,true,true,true,true,true,true,true,true,true,true,true,true,true,false] rfl rfl (q0m HT_.out (by kernel_rfl)) (fun _ _ _ h => h) (Or.inl ⟨by rfl,?_⟩) ?_ ?_
      rotate_left
      ·intro w'
       go_simp
       with_reducible rfl
      rotate_left
      ·simp only [Act.put,zA,zB,zC,i64_w,i32_w]
       rfl
      refine pure_ (i := 28) (N := some 0) (v := ?_) (a' := ?_) #[true,true,true,true,true,true,true,true,true,true,true,true,true,true,true,true,true,true,true,true,true,true,true,true,true,true,true,true,true] rfl rfl (q0m HT_.out (by kernel_rfl)) (fun _ _ _ h => h) (Or.inl ⟨by rfl,?_⟩) ?_ ?_
      rotate_left
      ·intro w'
       go_simp
       with_reducible rfl
      rotate_left
      ·simp only [Act.put,zA,zB,zC,i64_w,i32_w]
       rfl
      refine done_ (done_of HT_.out (by kernel_rfl)) ?_
      try go_wp2
      go_ret
      exact ⟨by first | rfl | (simp [q0n,q0o] <;> rfl) | (simp [*,q0n,q0o] <;> rfl),by repeat (first | (with_reducible first | exact HB.out | apply q0b | apply q0a | apply q0c) | exact HB.out)⟩
     ·rw [if_neg c12] at H
      exact absurd H (by simp)
    ·rw [if_neg c11] at H
     have c11b0 : (t182 == 2) = false := beq_eq_false_iff_ne.mpr c11
     have c11b1 : (t182 != 2) = true := bne_iff_ne.mpr c11
     exact absurd H (by simp)
   ·rw [if_neg c10] at H
    have c10b0 : (t175 == 0) = false := beq_eq_false_iff_ne.mpr c10
    have c10b1 : (t175 != 0) = true := bne_iff_ne.mpr c10
    exact absurd H (by simp)
  ·replace c9 := Bool.eq_false_iff.mpr c9
   subst c9
   have H1 : (none) = some r := by rw [if_neg (show ¬ (false = true) by decide)] at H;exact H
   clear H
   have H := H1
   clear H1
   exact absurd H (by simp)
 ·rw [if_neg c7] at H
  have c7b0 : ((t168.length : Int) == 3) = false := beq_eq_false_iff_ne.mpr c7
  have c7b1 : ((t168.length : Int) != 3) = true := bne_iff_ne.mpr c7
  exact absurd H (by simp)
end Go.Proofs.Ytfoaeigoajooeaa.Z
end
section
namespace Go.Proofs.Ytfoaeigoajooeaa.Z
open Go.RowKit Go.Proofs.YtfoaeigoajooeaaW.PrintWords Go.Proofs.YtfoaeigoajooeaaW.PrintLast Go.Proofs.YtfoaeigoajooeaaW.PrintMore
theorem known02 (k : Nat) (hk : 60 ≤ k) : verdererlaw02_known.f k = some true := at_rounds (fun k => verdererlaw02_known.mono k) hk (by decide +kernel)
end Go.Proofs.Ytfoaeigoajooeaa.Z
end
section
namespace Go.Proofs.Ytfoaeigoajooeaa.Z
open Go.RowKit Go.Proofs.YtfoaeigoajooeaaW.PrintWords Go.Proofs.YtfoaeigoajooeaaW.PrintLast Go.Proofs.YtfoaeigoajooeaaW.PrintMore
attribute [local go_sem] max2_int min2_int max_two min_two max_three min_three max_four min_four
set_option linter.unusedVariables false
set_option linter.unusedSimpArgs false
def verdererref02_Same.f (k : Nat) (l0 : List (S50)) (l1 : List (S50)) : Option (Bool) := (verdererref02_Compare.f k l0 l1).bind fun t302 => (some (t302 == 0))
theorem verdererref02_Same.mono : ∀ a0 a1 k,LeO (verdererref02_Same.f k a0 a1) (verdererref02_Same.f (k + 1) a0 a1) := by
 intro a0 a1 k
 unfold verdererref02_Same.f
 repeat' first
   | (with_reducible exact verdererref02_Compare.mono _ _ _)
   | (with_reducible exact LeO.refl _)
   | (with_reducible exact LeO.none _)
   | (with_reducible refine LeO.ite ?_ ?_)
   | (with_reducible refine LeO.bind ?_ (fun _ => ?_))
   | exact verdererref02_Compare.mono _ _ _
   | exact LeO.none _
   | refine LeO.ite ?_ ?_
   | refine LeO.bind ?_ (fun _ => ?_)
set_option maxHeartbeats 8000000 in
set_option maxRecDepth 100000 in
theorem verdererref02_Same.calls (k : Nat) (A0 : Option Addr) (c0 : Nat) (l0 : List (S50)) (A1 : Option Addr) (c1 : Nat) (l1 : List (S50)) (r : Bool) (w : World) (hr0 : Kd.C k50 w A0 l0.length l0) (hc0 : l0.length ≤ c0) (hr1 : Kd.C k50 w A1 l1.length l1) (hc1 : l1.length ≤ c1) (h : verdererref02_Same.f k l0 l1 = some r) :
  Calls Try.prog 23 #[.slice A0 l0.length c0,.slice A1 l1.length c1] w fun e w' => e = .returned (.bool r) ∧ Below w.heap.size w w' := by
 have HR0 := Aside0.mk hr0
 have HC0 := Aside0.mk hc0
 clear hr0 hc0
 have HR1 := Aside0.mk hr1
 have HC1 := Aside0.mk hc1
 clear hr1 hc1
 have HB := Aside0.mk (Below.refl w.heap.size w)
 have H : ((verdererref02_Compare.f k l0 l1).bind fun t302 => (some (t302 == 0))) = some r := h
 clear h
 replace H := Option.bind_eq_some_iff.mp H
 obtain ⟨t302,A30,H⟩ := H
 replace H : (some (t302 == 0)) = some r := H
 have A3 := Aside0.mk A30
 clear A30
 obtain rfl := Option.some.inj H
 go_enter Try.func23,Try.ntmps23
 go_wp2_with (first | ((with_reducible refine q0t (f := 22) rfl ?_);refine goesL_ (some 7) rfl rfl Try.func22 (by kernel_rfl) rfl #[.slice A0 l0.length c0,.slice A1 l1.length c1] rfl (by (try simp only [List.map_toArray,List.map_cons,List.map_nil]);first | done | rfl | (simp only [List.length_drop,List.length_take];rfl)) ?_;(with_reducible refine (verdererref02_Compare.calls k _ _ l0 _ _ l1 t302 _ ?side1 ?side2 ?side3 ?side4 A3.out).mono ?_);(case side1 => repeat (first | exact HR0.out | (with_reducible refine Kd.C_alloc ?_ _) | (with_reducible refine Kd.C_drewN ?_ _) | (with_reducible refine Kd.C_drew ?_)));(case side2 => exact HC0.out);(case side3 => repeat (first | exact HR1.out | (with_reducible refine Kd.C_alloc ?_ _) | (with_reducible refine Kd.C_drewN ?_ _) | (with_reducible refine Kd.C_drew ?_)));(case side4 => exact HC1.out);rintro e w4 ⟨rfl,hb⟩;refine ⟨_,rfl,?_⟩;have n0_ := Aside0.mk (q0l (by repeat (first | (with_reducible first | exact HB.out | apply q0b | apply q0a | apply q0c) | exact HB.out)) hb);clear HB;have HB := n0_;clear n0_;(try clear hb);(try clear hb2);(try clear hk);(try clear hi)))
 go_ret
 exact ⟨by first | rfl | (simp [q0n,q0o] <;> rfl) | (simp [*,q0n,q0o] <;> rfl),by repeat (first | (with_reducible first | exact HB.out | apply q0b | apply q0a | apply q0c) | exact HB.out)⟩
end Go.Proofs.Ytfoaeigoajooeaa.Z
end
