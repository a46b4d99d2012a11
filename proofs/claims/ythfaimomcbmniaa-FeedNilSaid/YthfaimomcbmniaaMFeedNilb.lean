/- Parts of the proof of FeedNil: what its functions answer. -/
import Derived.Test.YthfaimomcbmniaaMFeedNila
import Derived.Laws.MakeOwn
import Derived.Lib.SliceRun
import Derived.Laws.Slices
import Derived.Lib.Bytealg
import Derived.RegionTactic
import Derived.BigRegion
import Derived.Deep.QuietTactic
import Derived.BigQuiet
import Derived.ChangeAlike
import Derived.StillTailTactics
import Derived.Deep.LoopGhost
import Derived.Deep.RegionHeld3
import Derived.Lib.Hide
import Derived.Outline
import Derived.WalkLawsBesides
import Derived.ArgAppend
section
namespace Go.Proofs.Ythfaimomcbmniaa.Z
open Go.RowKit Go.Proofs.YthfaimomcbmniaaW.PrintWords Go.Proofs.YthfaimomcbmniaaW.PrintLast Go.Proofs.YthfaimomcbmniaaW.PrintMore
attribute [local go_sem] max2_int min2_int max_two min_two max_three min_three max_four min_four
set_option linter.unusedVariables false
set_option linter.unusedSimpArgs false
def value_Compare.f (a0_0 : Int) (a0_1 : Bool) (a0_2 : Int) (a0_3 : ByteArray) (a1_0 : Int) (a1_1 : Bool) (a1_2 : Int) (a1_3 : ByteArray) : Option (Int) := if a0_0 = a1_0 then (if a0_0 = 1 then ((value_truth.f a0_1).bind fun t108 => ((value_truth.f a1_1).bind fun t109 => ((cmp_Compare_149.f t108 t109).bind fun t110 => (some t110)))) else (if a0_0 = 2 then ((cmp_Compare_151.f a0_2 a1_2).bind fun t111 => (some t111)) else (if a0_0 = 3 then ((strings_Compare.f a0_3 a1_3).bind fun t112 => (some t112)) else (some 0)))) else ((cmp_Compare_149.f a0_0 a1_0).bind fun t107 => (some t107))
set_option maxHeartbeats 8000000 in
set_option maxRecDepth 100000 in
theorem value_Compare.calls (a0_0 : Int) (a0_1 : Bool) (a0_2 : Int) (a0_3 : ByteArray) (a1_0 : Int) (a1_1 : Bool) (a1_2 : Int) (a1_3 : ByteArray) (r : Int) (w : World) (h : value_Compare.f a0_0 a0_1 a0_2 a0_3 a1_0 a1_1 a1_2 a1_3 = some r) :
    Calls Try.prog 134 #[.agg #[.int .i64 a0_0,.bool a0_1,.int .i64 a0_2,.string a0_3],.agg #[.int .i64 a1_0,.bool a1_1,.int .i64 a1_2,.string a1_3]] w fun e w' => e = .returned (.int .i64 r) ∧ Below w.heap.size w w' := by
  have hu149 := Try.underlying149
  have HB := Aside0.mk (Below.refl w.heap.size w)
  have H : (if a0_0 = a1_0 then (if a0_0 = 1 then ((value_truth.f a0_1).bind fun t108 => ((value_truth.f a1_1).bind fun t109 => ((cmp_Compare_149.f t108 t109).bind fun t110 => (some t110)))) else (if a0_0 = 2 then ((cmp_Compare_151.f a0_2 a1_2).bind fun t111 => (some t111)) else (if a0_0 = 3 then ((strings_Compare.f a0_3 a1_3).bind fun t112 => (some t112)) else (some 0)))) else ((cmp_Compare_149.f a0_0 a1_0).bind fun t107 => (some t107))) = some r := h
  clear h
  by_cases c3 : a0_0 = a1_0
  · rw [if_pos c3] at H
    have c3b0 : (a0_0 == a1_0) = true := beq_iff_eq.mpr c3
    have c3b1 : (a0_0 != a1_0) = false := bne_eq_false_iff_eq.mpr c3
    clear c3
    by_cases c4 : a0_0 = 1
    · rw [if_pos c4] at H
      have c4b0 : (a0_0 == 1) = true := beq_iff_eq.mpr c4
      have c4b1 : (a0_0 != 1) = false := bne_eq_false_iff_eq.mpr c4
      clear c4
      replace H := Option.bind_eq_some_iff.mp H
      obtain ⟨t108,A50,H⟩ := H
      replace H : ((value_truth.f a1_1).bind fun t109 => ((cmp_Compare_149.f t108 t109).bind fun t110 => (some t110))) = some r := H
      have A5 := Aside0.mk A50
      clear A50
      replace H := Option.bind_eq_some_iff.mp H
      obtain ⟨t109,A60,H⟩ := H
      replace H : ((cmp_Compare_149.f t108 t109).bind fun t110 => (some t110)) = some r := H
      have A6 := Aside0.mk A60
      clear A60
      replace H := Option.bind_eq_some_iff.mp H
      obtain ⟨t110,A70,H⟩ := H
      replace H : (some t110) = some r := H
      have A7 := Aside0.mk A70
      clear A70
      obtain rfl := Option.some.inj H
      go_enter Try.func134,Try.ntmps134
      go_wp2_with (first | ((with_reducible refine gate_dst (N := 2) rfl ?_);refine box_event ?hg (N := 2) ?hd (cs := #[.int .i64 a0_0,.bool a0_1,.int .i64 a0_2,.string a0_3]) (t := 149) ?hr ?_;(case hd => rfl);(case hg => rfl);(case hr => first | (go_simp;done) | (go_simp;rfl));intro gb105 hg w8 hbox hb;have n0_ := Aside0.mk (below_step (by repeat (first | (with_reducible first | exact HB.out | apply below_alloc | apply pw_below_drewN | apply below_drew1) | exact HB.out)) hb);have n1_ := Aside0.mk (hbox);have n2_ := Aside0.mk ((by rw [hg];exact (below_size (by repeat (first | (with_reducible first | exact HB.out | apply below_alloc | apply pw_below_drewN | apply below_drew1) | exact HB.out))) : w.heap.size ≤ gb105));have n3_ := Aside0.mk ((by rw [hg];exact (below_size (by repeat (first | (with_reducible first | exact HB.out | apply below_alloc | apply pw_below_drewN | apply below_drew1) | exact HB.out))) : w.heap.size ≤ gb105));clear HB;have HB := n0_;have BK105 := n1_;have GW105 := n2_;have GE105 := n3_;clear n0_ n1_ n2_ n3_;clear hb hbox hg) | ((with_reducible refine gate_dst (N := 3) rfl ?_);refine box_event ?hg (N := 3) ?hd (cs := #[.int .i64 a1_0,.bool a1_1,.int .i64 a1_2,.string a1_3]) (t := 149) ?hr ?_;(case hd => rfl);(case hg => rfl);(case hr => first | (go_simp;done) | (go_simp;rfl));intro gb106 hg w9 hbox hb;have n0_ := Aside0.mk (blk_below (g := gb105) (o := .cells #[.int .i64 a0_0,.bool a0_1,.int .i64 a0_2,.string a0_3] 149 (0,0)) (by (with_reducible repeat (first | refine blk_drewN ?_ _ | refine blk_drew ?_ | refine blk_alloc ?_ _));exact BK105.out) hb);have n1_ := Aside0.mk (below_step (by repeat (first | (with_reducible first | exact HB.out | apply below_alloc | apply pw_below_drewN | apply below_drew1 | refine below_set ?_ GE105.out) | exact HB.out)) hb);have n2_ := Aside0.mk (hbox);have n3_ := Aside0.mk ((by rw [hg];exact (below_size (by repeat (first | (with_reducible first | exact HB.out | apply below_alloc | apply pw_below_drewN | apply below_drew1 | refine below_set ?_ GE105.out) | exact HB.out))) : w.heap.size ≤ gb106));have n4_ := Aside0.mk ((by rw [hg];exact (below_size (by repeat (first | (with_reducible first | exact HB.out | apply below_alloc | apply pw_below_drewN | apply below_drew1 | refine below_set ?_ GE105.out) | exact HB.out))) : w.heap.size ≤ gb106));have n5_ := Aside0.mk ((by rw [hg];exact Nat.ne_of_lt (blk_lt (g := gb105) (o := .cells #[.int .i64 a0_0,.bool a0_1,.int .i64 a0_2,.string a0_3] 149 (0,0)) (by (with_reducible repeat (first | refine blk_drewN ?_ _ | refine blk_drew ?_ | refine blk_alloc ?_ _));exact BK105.out)) : gb105 ≠ gb106));have n6_ := Aside0.mk ((by rw [hg];exact Nat.ne_of_gt (blk_lt (g := gb105) (o := .cells #[.int .i64 a0_0,.bool a0_1,.int .i64 a0_2,.string a0_3] 149 (0,0)) (by (with_reducible repeat (first | refine blk_drewN ?_ _ | refine blk_drew ?_ | refine blk_alloc ?_ _));exact BK105.out)) : gb106 ≠ gb105));clear BK105;clear HB;have BK105 := n0_;have HB := n1_;have BK106 := n2_;have GW106 := n3_;have GE106 := n4_;have NB105_106 := n5_;have NB106_105 := n6_;clear n0_ n1_ n2_ n3_ n4_ n5_ n6_;clear hb hbox hg;have hnb10 := NB105_106.out;have hnc10 := NB106_105.out;have hcz11_0 : w9.cell? ⟨gb105,0,none⟩ = some (.int .i64 a0_0) := (blk_cell BK105.out 0).trans rfl;have hcz11_1 : w9.cell? ⟨gb105,1,none⟩ = some (.bool a0_1) := (blk_cell BK105.out 1).trans rfl;have hcz11_2 : w9.cell? ⟨gb105,2,none⟩ = some (.int .i64 a0_2) := (blk_cell BK105.out 2).trans rfl;have hcz11_3 : w9.cell? ⟨gb105,3,none⟩ = some (.string a0_3) := (blk_cell BK105.out 3).trans rfl;have hfz11_0 := blk_frozen BK105.out 0;have hfz11_1 := blk_frozen BK105.out 1;have hfz11_2 := blk_frozen BK105.out 2;have hfz11_3 := blk_frozen BK105.out 3;have hcz12_0 : w9.cell? ⟨gb106,0,none⟩ = some (.int .i64 a1_0) := (blk_cell BK106.out 0).trans rfl;have hcz12_1 : w9.cell? ⟨gb106,1,none⟩ = some (.bool a1_1) := (blk_cell BK106.out 1).trans rfl;have hcz12_2 : w9.cell? ⟨gb106,2,none⟩ = some (.int .i64 a1_2) := (blk_cell BK106.out 2).trans rfl;have hcz12_3 : w9.cell? ⟨gb106,3,none⟩ = some (.string a1_3) := (blk_cell BK106.out 3).trans rfl;have hfz12_0 := blk_frozen BK106.out 0;have hfz12_1 := blk_frozen BK106.out 1;have hfz12_2 := blk_frozen BK106.out 2;have hfz12_3 := blk_frozen BK106.out 3) | (go_at_call 150;(with_reducible refine (value_truth.calls a0_1 t108 _ A5.out).mono ?_);rintro e w' ⟨rfl,⟨nd,rfl⟩⟩;(try first | exact ⟨rfl,_,World.drewN_drewN _ _ _⟩ | exact ⟨rfl,_,Eq.trans (World.drewN_drewN _ _ _) (congrArg (World.drewN _) (Nat.add_assoc _ _ _))⟩)) | (go_at_call 150;(with_reducible refine (value_truth.calls a1_1 t109 _ A6.out).mono ?_);rintro e w' ⟨rfl,⟨nd,rfl⟩⟩;(try first | exact ⟨rfl,_,World.drewN_drewN _ _ _⟩ | exact ⟨rfl,_,Eq.trans (World.drewN_drewN _ _ _) (congrArg (World.drewN _) (Nat.add_assoc _ _ _))⟩)) | (go_at_call 149;(with_reducible refine (cmp_Compare_149.calls t108 t109 t110 _ A7.out).mono ?_);rintro e w' ⟨rfl,⟨nd,rfl⟩⟩;(try first | exact ⟨rfl,_,World.drewN_drewN _ _ _⟩ | exact ⟨rfl,_,Eq.trans (World.drewN_drewN _ _ _) (congrArg (World.drewN _) (Nat.add_assoc _ _ _))⟩)))
      repeat (go_quiet (first | ((with_reducible refine gate_dst (N := 2) rfl ?_);refine box_event ?hg (N := 2) ?hd (cs := #[.int .i64 a0_0,.bool a0_1,.int .i64 a0_2,.string a0_3]) (t := 149) ?hr ?_;(case hd => rfl);(case hg => rfl);(case hr => first | (go_simp;done) | (go_simp;rfl));intro gb105 hg w8 hbox hb;have n0_ := Aside0.mk (below_step (by repeat (first | (with_reducible first | exact HB.out | apply below_alloc | apply pw_below_drewN | apply below_drew1) | exact HB.out)) hb);have n1_ := Aside0.mk (hbox);have n2_ := Aside0.mk ((by rw [hg];exact (below_size (by repeat (first | (with_reducible first | exact HB.out | apply below_alloc | apply pw_below_drewN | apply below_drew1) | exact HB.out))) : w.heap.size ≤ gb105));have n3_ := Aside0.mk ((by rw [hg];exact (below_size (by repeat (first | (with_reducible first | exact HB.out | apply below_alloc | apply pw_below_drewN | apply below_drew1) | exact HB.out))) : w.heap.size ≤ gb105));clear HB;have HB := n0_;have BK105 := n1_;have GW105 := n2_;have GE105 := n3_;clear n0_ n1_ n2_ n3_;clear hb hbox hg) | ((with_reducible refine gate_dst (N := 3) rfl ?_);refine box_event ?hg (N := 3) ?hd (cs := #[.int .i64 a1_0,.bool a1_1,.int .i64 a1_2,.string a1_3]) (t := 149) ?hr ?_;(case hd => rfl);(case hg => rfl);(case hr => first | (go_simp;done) | (go_simp;rfl));intro gb106 hg w9 hbox hb;have n0_ := Aside0.mk (blk_below (g := gb105) (o := .cells #[.int .i64 a0_0,.bool a0_1,.int .i64 a0_2,.string a0_3] 149 (0,0)) (by (with_reducible repeat (first | refine blk_drewN ?_ _ | refine blk_drew ?_ | refine blk_alloc ?_ _));exact BK105.out) hb);have n1_ := Aside0.mk (below_step (by repeat (first | (with_reducible first | exact HB.out | apply below_alloc | apply pw_below_drewN | apply below_drew1 | refine below_set ?_ GE105.out) | exact HB.out)) hb);have n2_ := Aside0.mk (hbox);have n3_ := Aside0.mk ((by rw [hg];exact (below_size (by repeat (first | (with_reducible first | exact HB.out | apply below_alloc | apply pw_below_drewN | apply below_drew1 | refine below_set ?_ GE105.out) | exact HB.out))) : w.heap.size ≤ gb106));have n4_ := Aside0.mk ((by rw [hg];exact (below_size (by repeat (first | (with_reducible first | exact HB.out | apply below_alloc | apply pw_below_drewN | apply below_drew1 | refine below_set ?_ GE105.out) | exact HB.out))) : w.heap.size ≤ gb106));have n5_ := Aside0.mk ((by rw [hg];exact Nat.ne_of_lt (blk_lt (g := gb105) (o := .cells #[.int .i64 a0_0,.bool a0_1,.int .i64 a0_2,.string a0_3] 149 (0,0)) (by (with_reducible repeat (first | refine blk_drewN ?_ _ | refine blk_drew ?_ | refine blk_alloc ?_ _));exact BK105.out)) : gb105 ≠ gb106));have n6_ := Aside0.mk ((by rw [hg];exact Nat.ne_of_gt (blk_lt (g := gb105) (o := .cells #[.int .i64 a0_0,.bool a0_1,.int .i64 a0_2,.string a0_3] 149 (0,0)) (by (with_reducible repeat (first | refine blk_drewN ?_ _ | refine blk_drew ?_ | refine blk_alloc ?_ _));exact BK105.out)) : gb106 ≠ gb105));clear BK105;clear HB;have BK105 := n0_;have HB := n1_;have BK106 := n2_;have GW106 := n3_;have GE106 := n4_;have NB105_106 := n5_;have NB106_105 := n6_;clear n0_ n1_ n2_ n3_ n4_ n5_ n6_;clear hb hbox hg;have hnb10 := NB105_106.out;have hnc10 := NB106_105.out;have hcz11_0 : w9.cell? ⟨gb105,0,none⟩ = some (.int .i64 a0_0) := (blk_cell BK105.out 0).trans rfl;have hcz11_1 : w9.cell? ⟨gb105,1,none⟩ = some (.bool a0_1) := (blk_cell BK105.out 1).trans rfl;have hcz11_2 : w9.cell? ⟨gb105,2,none⟩ = some (.int .i64 a0_2) := (blk_cell BK105.out 2).trans rfl;have hcz11_3 : w9.cell? ⟨gb105,3,none⟩ = some (.string a0_3) := (blk_cell BK105.out 3).trans rfl;have hfz11_0 := blk_frozen BK105.out 0;have hfz11_1 := blk_frozen BK105.out 1;have hfz11_2 := blk_frozen BK105.out 2;have hfz11_3 := blk_frozen BK105.out 3;have hcz12_0 : w9.cell? ⟨gb106,0,none⟩ = some (.int .i64 a1_0) := (blk_cell BK106.out 0).trans rfl;have hcz12_1 : w9.cell? ⟨gb106,1,none⟩ = some (.bool a1_1) := (blk_cell BK106.out 1).trans rfl;have hcz12_2 : w9.cell? ⟨gb106,2,none⟩ = some (.int .i64 a1_2) := (blk_cell BK106.out 2).trans rfl;have hcz12_3 : w9.cell? ⟨gb106,3,none⟩ = some (.string a1_3) := (blk_cell BK106.out 3).trans rfl;have hfz12_0 := blk_frozen BK106.out 0;have hfz12_1 := blk_frozen BK106.out 1;have hfz12_2 := blk_frozen BK106.out 2;have hfz12_3 := blk_frozen BK106.out 3) | (go_at_call 150;(with_reducible refine (value_truth.calls a0_1 t108 _ A5.out).mono ?_);rintro e w' ⟨rfl,⟨nd,rfl⟩⟩;(try first | exact ⟨rfl,_,World.drewN_drewN _ _ _⟩ | exact ⟨rfl,_,Eq.trans (World.drewN_drewN _ _ _) (congrArg (World.drewN _) (Nat.add_assoc _ _ _))⟩)) | (go_at_call 150;(with_reducible refine (value_truth.calls a1_1 t109 _ A6.out).mono ?_);rintro e w' ⟨rfl,⟨nd,rfl⟩⟩;(try first | exact ⟨rfl,_,World.drewN_drewN _ _ _⟩ | exact ⟨rfl,_,Eq.trans (World.drewN_drewN _ _ _) (congrArg (World.drewN _) (Nat.add_assoc _ _ _))⟩)) | (go_at_call 149;(with_reducible refine (cmp_Compare_149.calls t108 t109 t110 _ A7.out).mono ?_);rintro e w' ⟨rfl,⟨nd,rfl⟩⟩;(try first | exact ⟨rfl,_,World.drewN_drewN _ _ _⟩ | exact ⟨rfl,_,Eq.trans (World.drewN_drewN _ _ _) (congrArg (World.drewN _) (Nat.add_assoc _ _ _))⟩)));try go_wp2_with (first | ((with_reducible refine gate_dst (N := 2) rfl ?_);refine box_event ?hg (N := 2) ?hd (cs := #[.int .i64 a0_0,.bool a0_1,.int .i64 a0_2,.string a0_3]) (t := 149) ?hr ?_;(case hd => rfl);(case hg => rfl);(case hr => first | (go_simp;done) | (go_simp;rfl));intro gb105 hg w8 hbox hb;have n0_ := Aside0.mk (below_step (by repeat (first | (with_reducible first | exact HB.out | apply below_alloc | apply pw_below_drewN | apply below_drew1) | exact HB.out)) hb);have n1_ := Aside0.mk (hbox);have n2_ := Aside0.mk ((by rw [hg];exact (below_size (by repeat (first | (with_reducible first | exact HB.out | apply below_alloc | apply pw_below_drewN | apply below_drew1) | exact HB.out))) : w.heap.size ≤ gb105));have n3_ := Aside0.mk ((by rw [hg];exact (below_size (by repeat (first | (with_reducible first | exact HB.out | apply below_alloc | apply pw_below_drewN | apply below_drew1) | exact HB.out))) : w.heap.size ≤ gb105));clear HB;have HB := n0_;have BK105 := n1_;have GW105 := n2_;have GE105 := n3_;clear n0_ n1_ n2_ n3_;clear hb hbox hg) | ((with_reducible refine gate_dst (N := 3) rfl ?_);refine box_event ?hg (N := 3) ?hd (cs := #[.int .i64 a1_0,.bool a1_1,.int .i64 a1_2,.string a1_3]) (t := 149) ?hr ?_;(case hd => rfl);(case hg => rfl);(case hr => first | (go_simp;done) | (go_simp;rfl));intro gb106 hg w9 hbox hb;have n0_ := Aside0.mk (blk_below (g := gb105) (o := .cells #[.int .i64 a0_0,.bool a0_1,.int .i64 a0_2,.string a0_3] 149 (0,0)) (by (with_reducible repeat (first | refine blk_drewN ?_ _ | refine blk_drew ?_ | refine blk_alloc ?_ _));exact BK105.out) hb);have n1_ := Aside0.mk (below_step (by repeat (first | (with_reducible first | exact HB.out | apply below_alloc | apply pw_below_drewN | apply below_drew1 | refine below_set ?_ GE105.out) | exact HB.out)) hb);have n2_ := Aside0.mk (hbox);have n3_ := Aside0.mk ((by rw [hg];exact (below_size (by repeat (first | (with_reducible first | exact HB.out | apply below_alloc | apply pw_below_drewN | apply below_drew1 | refine below_set ?_ GE105.out) | exact HB.out))) : w.heap.size ≤ gb106));have n4_ := Aside0.mk ((by rw [hg];exact (below_size (by repeat (first | (with_reducible first | exact HB.out | apply below_alloc | apply pw_below_drewN | apply below_drew1 | refine below_set ?_ GE105.out) | exact HB.out))) : w.heap.size ≤ gb106));have n5_ := Aside0.mk ((by rw [hg];exact Nat.ne_of_lt (blk_lt (g := gb105) (o := .cells #[.int .i64 a0_0,.bool a0_1,.int .i64 a0_2,.string a0_3] 149 (0,0)) (by (with_reducible repeat (first | refine blk_drewN ?_ _ | refine blk_drew ?_ | refine blk_alloc ?_ _));exact BK105.out)) : gb105 ≠ gb106));have n6_ := Aside0.mk ((by rw [hg];exact Nat.ne_of_gt (blk_lt (g := gb105) (o := .cells #[.int .i64 a0_0,.bool a0_1,.int .i64 a0_2,.string a0_3] 149 (0,0)) (by (with_reducible repeat (first | refine blk_drewN ?_ _ | refine blk_drew ?_ | refine blk_alloc ?_ _));exact BK105.out)) : gb106 ≠ gb105));clear BK105;clear HB;have BK105 := n0_;have HB := n1_;have BK106 := n2_;have GW106 := n3_;have GE106 := n4_;have NB105_106 := n5_;have NB106_105 := n6_;clear n0_ n1_ n2_ n3_ n4_ n5_ n6_;clear hb hbox hg;have hnb10 := NB105_106.out;have hnc10 := NB106_105.out;have hcz11_0 : w9.cell? ⟨gb105,0,none⟩ = some (.int .i64 a0_0) := (blk_cell BK105.out 0).trans rfl;have hcz11_1 : w9.cell? ⟨gb105,1,none⟩ = some (.bool a0_1) := (blk_cell BK105.out 1).trans rfl;have hcz11_2 : w9.cell? ⟨gb105,2,none⟩ = some (.int .i64 a0_2) := (blk_cell BK105.out 2).trans rfl;have hcz11_3 : w9.cell? ⟨gb105,3,none⟩ = some (.string a0_3) := (blk_cell BK105.out 3).trans rfl;have hfz11_0 := blk_frozen BK105.out 0;have hfz11_1 := blk_frozen BK105.out 1;have hfz11_2 := blk_frozen BK105.out 2;have hfz11_3 := blk_frozen BK105.out 3;have hcz12_0 : w9.cell? ⟨gb106,0,none⟩ = some (.int .i64 a1_0) := (blk_cell BK106.out 0).trans rfl;have hcz12_1 : w9.cell? ⟨gb106,1,none⟩ = some (.bool a1_1) := (blk_cell BK106.out 1).trans rfl;have hcz12_2 : w9.cell? ⟨gb106,2,none⟩ = some (.int .i64 a1_2) := (blk_cell BK106.out 2).trans rfl;have hcz12_3 : w9.cell? ⟨gb106,3,none⟩ = some (.string a1_3) := (blk_cell BK106.out 3).trans rfl;have hfz12_0 := blk_frozen BK106.out 0;have hfz12_1 := blk_frozen BK106.out 1;have hfz12_2 := blk_frozen BK106.out 2;have hfz12_3 := blk_frozen BK106.out 3) | (go_at_call 150;(with_reducible refine (value_truth.calls a0_1 t108 _ A5.out).mono ?_);rintro e w' ⟨rfl,⟨nd,rfl⟩⟩;(try first | exact ⟨rfl,_,World.drewN_drewN _ _ _⟩ | exact ⟨rfl,_,Eq.trans (World.drewN_drewN _ _ _) (congrArg (World.drewN _) (Nat.add_assoc _ _ _))⟩)) | (go_at_call 150;(with_reducible refine (value_truth.calls a1_1 t109 _ A6.out).mono ?_);rintro e w' ⟨rfl,⟨nd,rfl⟩⟩;(try first | exact ⟨rfl,_,World.drewN_drewN _ _ _⟩ | exact ⟨rfl,_,Eq.trans (World.drewN_drewN _ _ _) (congrArg (World.drewN _) (Nat.add_assoc _ _ _))⟩)) | (go_at_call 149;(with_reducible refine (cmp_Compare_149.calls t108 t109 t110 _ A7.out).mono ?_);rintro e w' ⟨rfl,⟨nd,rfl⟩⟩;(try first | exact ⟨rfl,_,World.drewN_drewN _ _ _⟩ | exact ⟨rfl,_,Eq.trans (World.drewN_drewN _ _ _) (congrArg (World.drewN _) (Nat.add_assoc _ _ _))⟩))))
      go_ret
      exact ⟨by first | rfl | (simp [errW_none,errW_some] <;> rfl) | (simp [*,errW_none,errW_some] <;> rfl),by repeat (first | (with_reducible first | exact HB.out | apply below_alloc | apply pw_below_drewN | apply below_drew1 | refine below_set ?_ GE105.out | refine below_set ?_ GE106.out) | exact HB.out)⟩
    · rw [if_neg c4] at H
      have c4b0 : (a0_0 == 1) = false := beq_eq_false_iff_ne.mpr c4
      have c4b1 : (a0_0 != 1) = true := bne_iff_ne.mpr c4
      by_cases c13 : a0_0 = 2
      · rw [if_pos c13] at H
        have c13b0 : (a0_0 == 2) = true := beq_iff_eq.mpr c13
        have c13b1 : (a0_0 != 2) = false := bne_eq_false_iff_eq.mpr c13
        clear c13
        replace H := Option.bind_eq_some_iff.mp H
        obtain ⟨t111,A140,H⟩ := H
        replace H : (some t111) = some r := H
        have A14 := Aside0.mk A140
        clear A140
        obtain rfl := Option.some.inj H
        go_enter Try.func134,Try.ntmps134
        go_wp2_with (first | ((with_reducible refine gate_dst (N := 2) rfl ?_);refine box_event ?hg (N := 2) ?hd (cs := #[.int .i64 a0_0,.bool a0_1,.int .i64 a0_2,.string a0_3]) (t := 149) ?hr ?_;(case hd => rfl);(case hg => rfl);(case hr => first | (go_simp;done) | (go_simp;rfl));intro gb105 hg w15 hbox hb;have n0_ := Aside0.mk (below_step (by repeat (first | (with_reducible first | exact HB.out | apply below_alloc | apply pw_below_drewN | apply below_drew1) | exact HB.out)) hb);have n1_ := Aside0.mk (hbox);have n2_ := Aside0.mk ((by rw [hg];exact (below_size (by repeat (first | (with_reducible first | exact HB.out | apply below_alloc | apply pw_below_drewN | apply below_drew1) | exact HB.out))) : w.heap.size ≤ gb105));have n3_ := Aside0.mk ((by rw [hg];exact (below_size (by repeat (first | (with_reducible first | exact HB.out | apply below_alloc | apply pw_below_drewN | apply below_drew1) | exact HB.out))) : w.heap.size ≤ gb105));clear HB;have HB := n0_;have BK105 := n1_;have GW105 := n2_;have GE105 := n3_;clear n0_ n1_ n2_ n3_;clear hb hbox hg) | ((with_reducible refine gate_dst (N := 3) rfl ?_);refine box_event ?hg (N := 3) ?hd (cs := #[.int .i64 a1_0,.bool a1_1,.int .i64 a1_2,.string a1_3]) (t := 149) ?hr ?_;(case hd => rfl);(case hg => rfl);(case hr => first | (go_simp;done) | (go_simp;rfl));intro gb106 hg w16 hbox hb;have n0_ := Aside0.mk (blk_below (g := gb105) (o := .cells #[.int .i64 a0_0,.bool a0_1,.int .i64 a0_2,.string a0_3] 149 (0,0)) (by (with_reducible repeat (first | refine blk_drewN ?_ _ | refine blk_drew ?_ | refine blk_alloc ?_ _));exact BK105.out) hb);have n1_ := Aside0.mk (below_step (by repeat (first | (with_reducible first | exact HB.out | apply below_alloc | apply pw_below_drewN | apply below_drew1 | refine below_set ?_ GE105.out) | exact HB.out)) hb);have n2_ := Aside0.mk (hbox);have n3_ := Aside0.mk ((by rw [hg];exact (below_size (by repeat (first | (with_reducible first | exact HB.out | apply below_alloc | apply pw_below_drewN | apply below_drew1 | refine below_set ?_ GE105.out) | exact HB.out))) : w.heap.size ≤ gb106));have n4_ := Aside0.mk ((by rw [hg];exact (below_size (by repeat (first | (with_reducible first | exact HB.out | apply below_alloc | apply pw_below_drewN | apply below_drew1 | refine below_set ?_ GE105.out) | exact HB.out))) : w.heap.size ≤ gb106));have n5_ := Aside0.mk ((by rw [hg];exact Nat.ne_of_lt (blk_lt (g := gb105) (o := .cells #[.int .i64 a0_0,.bool a0_1,.int .i64 a0_2,.string a0_3] 149 (0,0)) (by (with_reducible repeat (first | refine blk_drewN ?_ _ | refine blk_drew ?_ | refine blk_alloc ?_ _));exact BK105.out)) : gb105 ≠ gb106));have n6_ := Aside0.mk ((by rw [hg];exact Nat.ne_of_gt (blk_lt (g := gb105) (o := .cells #[.int .i64 a0_0,.bool a0_1,.int .i64 a0_2,.string a0_3] 149 (0,0)) (by (with_reducible repeat (first | refine blk_drewN ?_ _ | refine blk_drew ?_ | refine blk_alloc ?_ _));exact BK105.out)) : gb106 ≠ gb105));clear BK105;clear HB;have BK105 := n0_;have HB := n1_;have BK106 := n2_;have GW106 := n3_;have GE106 := n4_;have NB105_106 := n5_;have NB106_105 := n6_;clear n0_ n1_ n2_ n3_ n4_ n5_ n6_;clear hb hbox hg;have hnb17 := NB105_106.out;have hnc17 := NB106_105.out;have hcz18_0 : w16.cell? ⟨gb105,0,none⟩ = some (.int .i64 a0_0) := (blk_cell BK105.out 0).trans rfl;have hcz18_1 : w16.cell? ⟨gb105,1,none⟩ = some (.bool a0_1) := (blk_cell BK105.out 1).trans rfl;have hcz18_2 : w16.cell? ⟨gb105,2,none⟩ = some (.int .i64 a0_2) := (blk_cell BK105.out 2).trans rfl;have hcz18_3 : w16.cell? ⟨gb105,3,none⟩ = some (.string a0_3) := (blk_cell BK105.out 3).trans rfl;have hfz18_0 := blk_frozen BK105.out 0;have hfz18_1 := blk_frozen BK105.out 1;have hfz18_2 := blk_frozen BK105.out 2;have hfz18_3 := blk_frozen BK105.out 3;have hcz19_0 : w16.cell? ⟨gb106,0,none⟩ = some (.int .i64 a1_0) := (blk_cell BK106.out 0).trans rfl;have hcz19_1 : w16.cell? ⟨gb106,1,none⟩ = some (.bool a1_1) := (blk_cell BK106.out 1).trans rfl;have hcz19_2 : w16.cell? ⟨gb106,2,none⟩ = some (.int .i64 a1_2) := (blk_cell BK106.out 2).trans rfl;have hcz19_3 : w16.cell? ⟨gb106,3,none⟩ = some (.string a1_3) := (blk_cell BK106.out 3).trans rfl;have hfz19_0 := blk_frozen BK106.out 0;have hfz19_1 := blk_frozen BK106.out 1;have hfz19_2 := blk_frozen BK106.out 2;have hfz19_3 := blk_frozen BK106.out 3) | (go_at_call 151;(with_reducible refine (cmp_Compare_151.calls a0_2 a1_2 t111 _ A14.out).mono ?_);rintro e w' ⟨rfl,⟨nd,rfl⟩⟩;(try first | exact ⟨rfl,_,World.drewN_drewN _ _ _⟩ | exact ⟨rfl,_,Eq.trans (World.drewN_drewN _ _ _) (congrArg (World.drewN _) (Nat.add_assoc _ _ _))⟩)))
        repeat (go_quiet (first | ((with_reducible refine gate_dst (N := 2) rfl ?_);refine box_event ?hg (N := 2) ?hd (cs := #[.int .i64 a0_0,.bool a0_1,.int .i64 a0_2,.string a0_3]) (t := 149) ?hr ?_;(case hd => rfl);(case hg => rfl);(case hr => first | (go_simp;done) | (go_simp;rfl));intro gb105 hg w15 hbox hb;have n0_ := Aside0.mk (below_step (by repeat (first | (with_reducible first | exact HB.out | apply below_alloc | apply pw_below_drewN | apply below_drew1) | exact HB.out)) hb);have n1_ := Aside0.mk (hbox);have n2_ := Aside0.mk ((by rw [hg];exact (below_size (by repeat (first | (with_reducible first | exact HB.out | apply below_alloc | apply pw_below_drewN | apply below_drew1) | exact HB.out))) : w.heap.size ≤ gb105));have n3_ := Aside0.mk ((by rw [hg];exact (below_size (by repeat (first | (with_reducible first | exact HB.out | apply below_alloc | apply pw_below_drewN | apply below_drew1) | exact HB.out))) : w.heap.size ≤ gb105));clear HB;have HB := n0_;have BK105 := n1_;have GW105 := n2_;have GE105 := n3_;clear n0_ n1_ n2_ n3_;clear hb hbox hg) | ((with_reducible refine gate_dst (N := 3) rfl ?_);refine box_event ?hg (N := 3) ?hd (cs := #[.int .i64 a1_0,.bool a1_1,.int .i64 a1_2,.string a1_3]) (t := 149) ?hr ?_;(case hd => rfl);(case hg => rfl);(case hr => first | (go_simp;done) | (go_simp;rfl));intro gb106 hg w16 hbox hb;have n0_ := Aside0.mk (blk_below (g := gb105) (o := .cells #[.int .i64 a0_0,.bool a0_1,.int .i64 a0_2,.string a0_3] 149 (0,0)) (by (with_reducible repeat (first | refine blk_drewN ?_ _ | refine blk_drew ?_ | refine blk_alloc ?_ _));exact BK105.out) hb);have n1_ := Aside0.mk (below_step (by repeat (first | (with_reducible first | exact HB.out | apply below_alloc | apply pw_below_drewN | apply below_drew1 | refine below_set ?_ GE105.out) | exact HB.out)) hb);have n2_ := Aside0.mk (hbox);have n3_ := Aside0.mk ((by rw [hg];exact (below_size (by repeat (first | (with_reducible first | exact HB.out | apply below_alloc | apply pw_below_drewN | apply below_drew1 | refine below_set ?_ GE105.out) | exact HB.out))) : w.heap.size ≤ gb106));have n4_ := Aside0.mk ((by rw [hg];exact (below_size (by repeat (first | (with_reducible first | exact HB.out | apply below_alloc | apply pw_below_drewN | apply below_drew1 | refine below_set ?_ GE105.out) | exact HB.out))) : w.heap.size ≤ gb106));have n5_ := Aside0.mk ((by rw [hg];exact Nat.ne_of_lt (blk_lt (g := gb105) (o := .cells #[.int .i64 a0_0,.bool a0_1,.int .i64 a0_2,.string a0_3] 149 (0,0)) (by (with_reducible repeat (first | refine blk_drewN ?_ _ | refine blk_drew ?_ | refine blk_alloc ?_ _));exact BK105.out)) : gb105 ≠ gb106));have n6_ := Aside0.mk ((by rw [hg];exact Nat.ne_of_gt (blk_lt (g := gb105) (o := .cells #[.int .i64 a0_0,.bool a0_1,.int .i64 a0_2,.string a0_3] 149 (0,0)) (by (with_reducible repeat (first | refine blk_drewN ?_ _ | refine blk_drew ?_ | refine blk_alloc ?_ _));exact BK105.out)) : gb106 ≠ gb105));clear BK105;clear HB;have BK105 := n0_;have HB := n1_;have BK106 := n2_;have GW106 := n3_;have GE106 := n4_;have NB105_106 := n5_;have NB106_105 := n6_;clear n0_ n1_ n2_ n3_ n4_ n5_ n6_;clear hb hbox hg;have hnb17 := NB105_106.out;have hnc17 := NB106_105.out;have hcz18_0 : w16.cell? ⟨gb105,0,none⟩ = some (.int .i64 a0_0) := (blk_cell BK105.out 0).trans rfl;have hcz18_1 : w16.cell? ⟨gb105,1,none⟩ = some (.bool a0_1) := (blk_cell BK105.out 1).trans rfl;have hcz18_2 : w16.cell? ⟨gb105,2,none⟩ = some (.int .i64 a0_2) := (blk_cell BK105.out 2).trans rfl;have hcz18_3 : w16.cell? ⟨gb105,3,none⟩ = some (.string a0_3) := (blk_cell BK105.out 3).trans rfl;have hfz18_0 := blk_frozen BK105.out 0;have hfz18_1 := blk_frozen BK105.out 1;have hfz18_2 := blk_frozen BK105.out 2;have hfz18_3 := blk_frozen BK105.out 3;have hcz19_0 : w16.cell? ⟨gb106,0,none⟩ = some (.int .i64 a1_0) := (blk_cell BK106.out 0).trans rfl;have hcz19_1 : w16.cell? ⟨gb106,1,none⟩ = some (.bool a1_1) := (blk_cell BK106.out 1).trans rfl;have hcz19_2 : w16.cell? ⟨gb106,2,none⟩ = some (.int .i64 a1_2) := (blk_cell BK106.out 2).trans rfl;have hcz19_3 : w16.cell? ⟨gb106,3,none⟩ = some (.string a1_3) := (blk_cell BK106.out 3).trans rfl;have hfz19_0 := blk_frozen BK106.out 0;have hfz19_1 := blk_frozen BK106.out 1;have hfz19_2 := blk_frozen BK106.out 2;have hfz19_3 := blk_frozen BK106.out 3) | (go_at_call 151;(with_reducible refine (cmp_Compare_151.calls a0_2 a1_2 t111 _ A14.out).mono ?_);rintro e w' ⟨rfl,⟨nd,rfl⟩⟩;(try first | exact ⟨rfl,_,World.drewN_drewN _ _ _⟩ | exact ⟨rfl,_,Eq.trans (World.drewN_drewN _ _ _) (congrArg (World.drewN _) (Nat.add_assoc _ _ _))⟩)));try go_wp2_with (first | ((with_reducible refine gate_dst (N := 2) rfl ?_);refine box_event ?hg (N := 2) ?hd (cs := #[.int .i64 a0_0,.bool a0_1,.int .i64 a0_2,.string a0_3]) (t := 149) ?hr ?_;(case hd => rfl);(case hg => rfl);(case hr => first | (go_simp;done) | (go_simp;rfl));intro gb105 hg w15 hbox hb;have n0_ := Aside0.mk (below_step (by repeat (first | (with_reducible first | exact HB.out | apply below_alloc | apply pw_below_drewN | apply below_drew1) | exact HB.out)) hb);have n1_ := Aside0.mk (hbox);have n2_ := Aside0.mk ((by rw [hg];exact (below_size (by repeat (first | (with_reducible first | exact HB.out | apply below_alloc | apply pw_below_drewN | apply below_drew1) | exact HB.out))) : w.heap.size ≤ gb105));have n3_ := Aside0.mk ((by rw [hg];exact (below_size (by repeat (first | (with_reducible first | exact HB.out | apply below_alloc | apply pw_below_drewN | apply below_drew1) | exact HB.out))) : w.heap.size ≤ gb105));clear HB;have HB := n0_;have BK105 := n1_;have GW105 := n2_;have GE105 := n3_;clear n0_ n1_ n2_ n3_;clear hb hbox hg) | ((with_reducible refine gate_dst (N := 3) rfl ?_);refine box_event ?hg (N := 3) ?hd (cs := #[.int .i64 a1_0,.bool a1_1,.int .i64 a1_2,.string a1_3]) (t := 149) ?hr ?_;(case hd => rfl);(case hg => rfl);(case hr => first | (go_simp;done) | (go_simp;rfl));intro gb106 hg w16 hbox hb;have n0_ := Aside0.mk (blk_below (g := gb105) (o := .cells #[.int .i64 a0_0,.bool a0_1,.int .i64 a0_2,.string a0_3] 149 (0,0)) (by (with_reducible repeat (first | refine blk_drewN ?_ _ | refine blk_drew ?_ | refine blk_alloc ?_ _));exact BK105.out) hb);have n1_ := Aside0.mk (below_step (by repeat (first | (with_reducible first | exact HB.out | apply below_alloc | apply pw_below_drewN | apply below_drew1 | refine below_set ?_ GE105.out) | exact HB.out)) hb);have n2_ := Aside0.mk (hbox);have n3_ := Aside0.mk ((by rw [hg];exact (below_size (by repeat (first | (with_reducible first | exact HB.out | apply below_alloc | apply pw_below_drewN | apply below_drew1 | refine below_set ?_ GE105.out) | exact HB.out))) : w.heap.size ≤ gb106));have n4_ := Aside0.mk ((by rw [hg];exact (below_size (by repeat (first | (with_reducible first | exact HB.out | apply below_alloc | apply pw_below_drewN | apply below_drew1 | refine below_set ?_ GE105.out) | exact HB.out))) : w.heap.size ≤ gb106));have n5_ := Aside0.mk ((by rw [hg];exact Nat.ne_of_lt (blk_lt (g := gb105) (o := .cells #[.int .i64 a0_0,.bool a0_1,.int .i64 a0_2,.string a0_3] 149 (0,0)) (by (with_reducible repeat (first | refine blk_drewN ?_ _ | refine blk_drew ?_ | refine blk_alloc ?_ _));exact BK105.out)) : gb105 ≠ gb106));have n6_ := Aside0.mk ((by rw [hg];exact Nat.ne_of_gt (blk_lt (g := gb105) (o := .cells #[.int .i64 a0_0,.bool a0_1,.int .i64 a0_2,.string a0_3] 149 (0,0)) (by (with_reducible repeat (first | refine blk_drewN ?_ _ | refine blk_drew ?_ | refine blk_alloc ?_ _));exact BK105.out)) : gb106 ≠ gb105));clear BK105;clear HB;have BK105 := n0_;have HB := n1_;have BK106 := n2_;have GW106 := n3_;have GE106 := n4_;have NB105_106 := n5_;have NB106_105 := n6_;clear n0_ n1_ n2_ n3_ n4_ n5_ n6_;clear hb hbox hg;have hnb17 := NB105_106.out;have hnc17 := NB106_105.out;have hcz18_0 : w16.cell? ⟨gb105,0,none⟩ = some (.int .i64 a0_0) := (blk_cell BK105.out 0).trans rfl;have hcz18_1 : w16.cell? ⟨gb105,1,none⟩ = some (.bool a0_1) := (blk_cell BK105.out 1).trans rfl;have hcz18_2 : w16.cell? ⟨gb105,2,none⟩ = some (.int .i64 a0_2) := (blk_cell BK105.out 2).trans rfl;have hcz18_3 : w16.cell? ⟨gb105,3,none⟩ = some (.string a0_3) := (blk_cell BK105.out 3).trans rfl;have hfz18_0 := blk_frozen BK105.out 0;have hfz18_1 := blk_frozen BK105.out 1;have hfz18_2 := blk_frozen BK105.out 2;have hfz18_3 := blk_frozen BK105.out 3;have hcz19_0 : w16.cell? ⟨gb106,0,none⟩ = some (.int .i64 a1_0) := (blk_cell BK106.out 0).trans rfl;have hcz19_1 : w16.cell? ⟨gb106,1,none⟩ = some (.bool a1_1) := (blk_cell BK106.out 1).trans rfl;have hcz19_2 : w16.cell? ⟨gb106,2,none⟩ = some (.int .i64 a1_2) := (blk_cell BK106.out 2).trans rfl;have hcz19_3 : w16.cell? ⟨gb106,3,none⟩ = some (.string a1_3) := (blk_cell BK106.out 3).trans rfl;have hfz19_0 := blk_frozen BK106.out 0;have hfz19_1 := blk_frozen BK106.out 1;have hfz19_2 := blk_frozen BK106.out 2;have hfz19_3 := blk_frozen BK106.out 3) | (go_at_call 151;(with_reducible refine (cmp_Compare_151.calls a0_2 a1_2 t111 _ A14.out).mono ?_);rintro e w' ⟨rfl,⟨nd,rfl⟩⟩;(try first | exact ⟨rfl,_,World.drewN_drewN _ _ _⟩ | exact ⟨rfl,_,Eq.trans (World.drewN_drewN _ _ _) (congrArg (World.drewN _) (Nat.add_assoc _ _ _))⟩))))
        go_ret
        exact ⟨by first | rfl | (simp [errW_none,errW_some] <;> rfl) | (simp [*,errW_none,errW_some] <;> rfl),by repeat (first | (with_reducible first | exact HB.out | apply below_alloc | apply pw_below_drewN | apply below_drew1 | refine below_set ?_ GE105.out | refine below_set ?_ GE106.out) | exact HB.out)⟩
      · rw [if_neg c13] at H
        have c13b0 : (a0_0 == 2) = false := beq_eq_false_iff_ne.mpr c13
        have c13b1 : (a0_0 != 2) = true := bne_iff_ne.mpr c13
        by_cases c20 : a0_0 = 3
        · rw [if_pos c20] at H
          have c20b0 : (a0_0 == 3) = true := beq_iff_eq.mpr c20
          have c20b1 : (a0_0 != 3) = false := bne_eq_false_iff_eq.mpr c20
          clear c20
          replace H := Option.bind_eq_some_iff.mp H
          obtain ⟨t112,A210,H⟩ := H
          replace H : (some t112) = some r := H
          have A21 := Aside0.mk A210
          clear A210
          obtain rfl := Option.some.inj H
          go_enter Try.func134,Try.ntmps134
          go_wp2_with (first | ((with_reducible refine gate_dst (N := 2) rfl ?_);refine box_event ?hg (N := 2) ?hd (cs := #[.int .i64 a0_0,.bool a0_1,.int .i64 a0_2,.string a0_3]) (t := 149) ?hr ?_;(case hd => rfl);(case hg => rfl);(case hr => first | (go_simp;done) | (go_simp;rfl));intro gb105 hg w22 hbox hb;have n0_ := Aside0.mk (below_step (by repeat (first | (with_reducible first | exact HB.out | apply below_alloc | apply pw_below_drewN | apply below_drew1) | exact HB.out)) hb);have n1_ := Aside0.mk (hbox);have n2_ := Aside0.mk ((by rw [hg];exact (below_size (by repeat (first | (with_reducible first | exact HB.out | apply below_alloc | apply pw_below_drewN | apply below_drew1) | exact HB.out))) : w.heap.size ≤ gb105));have n3_ := Aside0.mk ((by rw [hg];exact (below_size (by repeat (first | (with_reducible first | exact HB.out | apply below_alloc | apply pw_below_drewN | apply below_drew1) | exact HB.out))) : w.heap.size ≤ gb105));clear HB;have HB := n0_;have BK105 := n1_;have GW105 := n2_;have GE105 := n3_;clear n0_ n1_ n2_ n3_;clear hb hbox hg) | ((with_reducible refine gate_dst (N := 3) rfl ?_);refine box_event ?hg (N := 3) ?hd (cs := #[.int .i64 a1_0,.bool a1_1,.int .i64 a1_2,.string a1_3]) (t := 149) ?hr ?_;(case hd => rfl);(case hg => rfl);(case hr => first | (go_simp;done) | (go_simp;rfl));intro gb106 hg w23 hbox hb;have n0_ := Aside0.mk (blk_below (g := gb105) (o := .cells #[.int .i64 a0_0,.bool a0_1,.int .i64 a0_2,.string a0_3] 149 (0,0)) (by (with_reducible repeat (first | refine blk_drewN ?_ _ | refine blk_drew ?_ | refine blk_alloc ?_ _));exact BK105.out) hb);have n1_ := Aside0.mk (below_step (by repeat (first | (with_reducible first | exact HB.out | apply below_alloc | apply pw_below_drewN | apply below_drew1 | refine below_set ?_ GE105.out) | exact HB.out)) hb);have n2_ := Aside0.mk (hbox);have n3_ := Aside0.mk ((by rw [hg];exact (below_size (by repeat (first | (with_reducible first | exact HB.out | apply below_alloc | apply pw_below_drewN | apply below_drew1 | refine below_set ?_ GE105.out) | exact HB.out))) : w.heap.size ≤ gb106));have n4_ := Aside0.mk ((by rw [hg];exact (below_size (by repeat (first | (with_reducible first | exact HB.out | apply below_alloc | apply pw_below_drewN | apply below_drew1 | refine below_set ?_ GE105.out) | exact HB.out))) : w.heap.size ≤ gb106));have n5_ := Aside0.mk ((by rw [hg];exact Nat.ne_of_lt (blk_lt (g := gb105) (o := .cells #[.int .i64 a0_0,.bool a0_1,.int .i64 a0_2,.string a0_3] 149 (0,0)) (by (with_reducible repeat (first | refine blk_drewN ?_ _ | refine blk_drew ?_ | refine blk_alloc ?_ _));exact BK105.out)) : gb105 ≠ gb106));have n6_ := Aside0.mk ((by rw [hg];exact Nat.ne_of_gt (blk_lt (g := gb105) (o := .cells #[.int .i64 a0_0,.bool a0_1,.int .i64 a0_2,.string a0_3] 149 (0,0)) (by (with_reducible repeat (first | refine blk_drewN ?_ _ | refine blk_drew ?_ | refine blk_alloc ?_ _));exact BK105.out)) : gb106 ≠ gb105));clear BK105;clear HB;have BK105 := n0_;have HB := n1_;have BK106 := n2_;have GW106 := n3_;have GE106 := n4_;have NB105_106 := n5_;have NB106_105 := n6_;clear n0_ n1_ n2_ n3_ n4_ n5_ n6_;clear hb hbox hg;have hnb24 := NB105_106.out;have hnc24 := NB106_105.out;have hcz25_0 : w23.cell? ⟨gb105,0,none⟩ = some (.int .i64 a0_0) := (blk_cell BK105.out 0).trans rfl;have hcz25_1 : w23.cell? ⟨gb105,1,none⟩ = some (.bool a0_1) := (blk_cell BK105.out 1).trans rfl;have hcz25_2 : w23.cell? ⟨gb105,2,none⟩ = some (.int .i64 a0_2) := (blk_cell BK105.out 2).trans rfl;have hcz25_3 : w23.cell? ⟨gb105,3,none⟩ = some (.string a0_3) := (blk_cell BK105.out 3).trans rfl;have hfz25_0 := blk_frozen BK105.out 0;have hfz25_1 := blk_frozen BK105.out 1;have hfz25_2 := blk_frozen BK105.out 2;have hfz25_3 := blk_frozen BK105.out 3;have hcz26_0 : w23.cell? ⟨gb106,0,none⟩ = some (.int .i64 a1_0) := (blk_cell BK106.out 0).trans rfl;have hcz26_1 : w23.cell? ⟨gb106,1,none⟩ = some (.bool a1_1) := (blk_cell BK106.out 1).trans rfl;have hcz26_2 : w23.cell? ⟨gb106,2,none⟩ = some (.int .i64 a1_2) := (blk_cell BK106.out 2).trans rfl;have hcz26_3 : w23.cell? ⟨gb106,3,none⟩ = some (.string a1_3) := (blk_cell BK106.out 3).trans rfl;have hfz26_0 := blk_frozen BK106.out 0;have hfz26_1 := blk_frozen BK106.out 1;have hfz26_2 := blk_frozen BK106.out 2;have hfz26_3 := blk_frozen BK106.out 3) | (go_at_call 152;(with_reducible refine (strings_Compare.calls a0_3 a1_3 t112 _ A21.out).mono ?_);rintro e w27 ⟨rfl,hb⟩;have n0_ := Aside0.mk (blk_below (g := gb105) (o := .cells #[.int .i64 a0_0,.bool a0_1,.int .i64 a0_2,.string a0_3] 149 (0,0)) (by (with_reducible repeat (first | refine blk_drewN ?_ _ | refine blk_drew ?_ | refine blk_alloc ?_ _));exact BK105.out) hb);have n1_ := Aside0.mk (blk_below (g := gb106) (o := .cells #[.int .i64 a1_0,.bool a1_1,.int .i64 a1_2,.string a1_3] 149 (0,0)) (by (with_reducible repeat (first | refine blk_drewN ?_ _ | refine blk_drew ?_ | refine blk_alloc ?_ _));exact BK106.out) hb);have n2_ := Aside0.mk (below_step (by repeat (first | (with_reducible first | exact HB.out | apply below_alloc | apply pw_below_drewN | apply below_drew1 | refine below_set ?_ GE105.out | refine below_set ?_ GE106.out) | exact HB.out)) hb);clear BK105;clear BK106;clear HB;have BK105 := n0_;have BK106 := n1_;have HB := n2_;clear n0_ n1_ n2_;(try clear hb);(try clear hb2);(try clear hk);(try clear hi)))
          repeat (go_quiet (first | ((with_reducible refine gate_dst (N := 2) rfl ?_);refine box_event ?hg (N := 2) ?hd (cs := #[.int .i64 a0_0,.bool a0_1,.int .i64 a0_2,.string a0_3]) (t := 149) ?hr ?_;(case hd => rfl);(case hg => rfl);(case hr => first | (go_simp;done) | (go_simp;rfl));intro gb105 hg w22 hbox hb;have n0_ := Aside0.mk (below_step (by repeat (first | (with_reducible first | exact HB.out | apply below_alloc | apply pw_below_drewN | apply below_drew1) | exact HB.out)) hb);have n1_ := Aside0.mk (hbox);have n2_ := Aside0.mk ((by rw [hg];exact (below_size (by repeat (first | (with_reducible first | exact HB.out | apply below_alloc | apply pw_below_drewN | apply below_drew1) | exact HB.out))) : w.heap.size ≤ gb105));have n3_ := Aside0.mk ((by rw [hg];exact (below_size (by repeat (first | (with_reducible first | exact HB.out | apply below_alloc | apply pw_below_drewN | apply below_drew1) | exact HB.out))) : w.heap.size ≤ gb105));clear HB;have HB := n0_;have BK105 := n1_;have GW105 := n2_;have GE105 := n3_;clear n0_ n1_ n2_ n3_;clear hb hbox hg) | ((with_reducible refine gate_dst (N := 3) rfl ?_);refine box_event ?hg (N := 3) ?hd (cs := #[.int .i64 a1_0,.bool a1_1,.int .i64 a1_2,.string a1_3]) (t := 149) ?hr ?_;(case hd => rfl);(case hg => rfl);(case hr => first | (go_simp;done) | (go_simp;rfl));intro gb106 hg w23 hbox hb;have n0_ := Aside0.mk (blk_below (g := gb105) (o := .cells #[.int .i64 a0_0,.bool a0_1,.int .i64 a0_2,.string a0_3] 149 (0,0)) (by (with_reducible repeat (first | refine blk_drewN ?_ _ | refine blk_drew ?_ | refine blk_alloc ?_ _));exact BK105.out) hb);have n1_ := Aside0.mk (below_step (by repeat (first | (with_reducible first | exact HB.out | apply below_alloc | apply pw_below_drewN | apply below_drew1 | refine below_set ?_ GE105.out) | exact HB.out)) hb);have n2_ := Aside0.mk (hbox);have n3_ := Aside0.mk ((by rw [hg];exact (below_size (by repeat (first | (with_reducible first | exact HB.out | apply below_alloc | apply pw_below_drewN | apply below_drew1 | refine below_set ?_ GE105.out) | exact HB.out))) : w.heap.size ≤ gb106));have n4_ := Aside0.mk ((by rw [hg];exact (below_size (by repeat (first | (with_reducible first | exact HB.out | apply below_alloc | apply pw_below_drewN | apply below_drew1 | refine below_set ?_ GE105.out) | exact HB.out))) : w.heap.size ≤ gb106));have n5_ := Aside0.mk ((by rw [hg];exact Nat.ne_of_lt (blk_lt (g := gb105) (o := .cells #[.int .i64 a0_0,.bool a0_1,.int .i64 a0_2,.string a0_3] 149 (0,0)) (by (with_reducible repeat (first | refine blk_drewN ?_ _ | refine blk_drew ?_ | refine blk_alloc ?_ _));exact BK105.out)) : gb105 ≠ gb106));have n6_ := Aside0.mk ((by rw [hg];exact Nat.ne_of_gt (blk_lt (g := gb105) (o := .cells #[.int .i64 a0_0,.bool a0_1,.int .i64 a0_2,.string a0_3] 149 (0,0)) (by (with_reducible repeat (first | refine blk_drewN ?_ _ | refine blk_drew ?_ | refine blk_alloc ?_ _));exact BK105.out)) : gb106 ≠ gb105));clear BK105;clear HB;have BK105 := n0_;have HB := n1_;have BK106 := n2_;have GW106 := n3_;have GE106 := n4_;have NB105_106 := n5_;have NB106_105 := n6_;clear n0_ n1_ n2_ n3_ n4_ n5_ n6_;clear hb hbox hg;have hnb24 := NB105_106.out;have hnc24 := NB106_105.out;have hcz25_0 : w23.cell? ⟨gb105,0,none⟩ = some (.int .i64 a0_0) := (blk_cell BK105.out 0).trans rfl;have hcz25_1 : w23.cell? ⟨gb105,1,none⟩ = some (.bool a0_1) := (blk_cell BK105.out 1).trans rfl;have hcz25_2 : w23.cell? ⟨gb105,2,none⟩ = some (.int .i64 a0_2) := (blk_cell BK105.out 2).trans rfl;have hcz25_3 : w23.cell? ⟨gb105,3,none⟩ = some (.string a0_3) := (blk_cell BK105.out 3).trans rfl;have hfz25_0 := blk_frozen BK105.out 0;have hfz25_1 := blk_frozen BK105.out 1;have hfz25_2 := blk_frozen BK105.out 2;have hfz25_3 := blk_frozen BK105.out 3;have hcz26_0 : w23.cell? ⟨gb106,0,none⟩ = some (.int .i64 a1_0) := (blk_cell BK106.out 0).trans rfl;have hcz26_1 : w23.cell? ⟨gb106,1,none⟩ = some (.bool a1_1) := (blk_cell BK106.out 1).trans rfl;have hcz26_2 : w23.cell? ⟨gb106,2,none⟩ = some (.int .i64 a1_2) := (blk_cell BK106.out 2).trans rfl;have hcz26_3 : w23.cell? ⟨gb106,3,none⟩ = some (.string a1_3) := (blk_cell BK106.out 3).trans rfl;have hfz26_0 := blk_frozen BK106.out 0;have hfz26_1 := blk_frozen BK106.out 1;have hfz26_2 := blk_frozen BK106.out 2;have hfz26_3 := blk_frozen BK106.out 3) | (go_at_call 152;(with_reducible refine (strings_Compare.calls a0_3 a1_3 t112 _ A21.out).mono ?_);rintro e w27 ⟨rfl,hb⟩;have n0_ := Aside0.mk (blk_below (g := gb105) (o := .cells #[.int .i64 a0_0,.bool a0_1,.int .i64 a0_2,.string a0_3] 149 (0,0)) (by (with_reducible repeat (first | refine blk_drewN ?_ _ | refine blk_drew ?_ | refine blk_alloc ?_ _));exact BK105.out) hb);have n1_ := Aside0.mk (blk_below (g := gb106) (o := .cells #[.int .i64 a1_0,.bool a1_1,.int .i64 a1_2,.string a1_3] 149 (0,0)) (by (with_reducible repeat (first | refine blk_drewN ?_ _ | refine blk_drew ?_ | refine blk_alloc ?_ _));exact BK106.out) hb);have n2_ := Aside0.mk (below_step (by repeat (first | (with_reducible first | exact HB.out | apply below_alloc | apply pw_below_drewN | apply below_drew1 | refine below_set ?_ GE105.out | refine below_set ?_ GE106.out) | exact HB.out)) hb);clear BK105;clear BK106;clear HB;have BK105 := n0_;have BK106 := n1_;have HB := n2_;clear n0_ n1_ n2_;(try clear hb);(try clear hb2);(try clear hk);(try clear hi)));try go_wp2_with (first | ((with_reducible refine gate_dst (N := 2) rfl ?_);refine box_event ?hg (N := 2) ?hd (cs := #[.int .i64 a0_0,.bool a0_1,.int .i64 a0_2,.string a0_3]) (t := 149) ?hr ?_;(case hd => rfl);(case hg => rfl);(case hr => first | (go_simp;done) | (go_simp;rfl));intro gb105 hg w22 hbox hb;have n0_ := Aside0.mk (below_step (by repeat (first | (with_reducible first | exact HB.out | apply below_alloc | apply pw_below_drewN | apply below_drew1) | exact HB.out)) hb);have n1_ := Aside0.mk (hbox);have n2_ := Aside0.mk ((by rw [hg];exact (below_size (by repeat (first | (with_reducible first | exact HB.out | apply below_alloc | apply pw_below_drewN | apply below_drew1) | exact HB.out))) : w.heap.size ≤ gb105));have n3_ := Aside0.mk ((by rw [hg];exact (below_size (by repeat (first | (with_reducible first | exact HB.out | apply below_alloc | apply pw_below_drewN | apply below_drew1) | exact HB.out))) : w.heap.size ≤ gb105));clear HB;have HB := n0_;have BK105 := n1_;have GW105 := n2_;have GE105 := n3_;clear n0_ n1_ n2_ n3_;clear hb hbox hg) | ((with_reducible refine gate_dst (N := 3) rfl ?_);refine box_event ?hg (N := 3) ?hd (cs := #[.int .i64 a1_0,.bool a1_1,.int .i64 a1_2,.string a1_3]) (t := 149) ?hr ?_;(case hd => rfl);(case hg => rfl);(case hr => first | (go_simp;done) | (go_simp;rfl));intro gb106 hg w23 hbox hb;have n0_ := Aside0.mk (blk_below (g := gb105) (o := .cells #[.int .i64 a0_0,.bool a0_1,.int .i64 a0_2,.string a0_3] 149 (0,0)) (by (with_reducible repeat (first | refine blk_drewN ?_ _ | refine blk_drew ?_ | refine blk_alloc ?_ _));exact BK105.out) hb);have n1_ := Aside0.mk (below_step (by repeat (first | (with_reducible first | exact HB.out | apply below_alloc | apply pw_below_drewN | apply below_drew1 | refine below_set ?_ GE105.out) | exact HB.out)) hb);have n2_ := Aside0.mk (hbox);have n3_ := Aside0.mk ((by rw [hg];exact (below_size (by repeat (first | (with_reducible first | exact HB.out | apply below_alloc | apply pw_below_drewN | apply below_drew1 | refine below_set ?_ GE105.out) | exact HB.out))) : w.heap.size ≤ gb106));have n4_ := Aside0.mk ((by rw [hg];exact (below_size (by repeat (first | (with_reducible first | exact HB.out | apply below_alloc | apply pw_below_drewN | apply below_drew1 | refine below_set ?_ GE105.out) | exact HB.out))) : w.heap.size ≤ gb106));have n5_ := Aside0.mk ((by rw [hg];exact Nat.ne_of_lt (blk_lt (g := gb105) (o := .cells #[.int .i64 a0_0,.bool a0_1,.int .i64 a0_2,.string a0_3] 149 (0,0)) (by (with_reducible repeat (first | refine blk_drewN ?_ _ | refine blk_drew ?_ | refine blk_alloc ?_ _));exact BK105.out)) : gb105 ≠ gb106));have n6_ := Aside0.mk ((by rw [hg];exact Nat.ne_of_gt (blk_lt (g := gb105) (o := .cells #[.int .i64 a0_0,.bool a0_1,.int .i64 a0_2,.string a0_3] 149 (0,0)) (by (with_reducible repeat (first | refine blk_drewN ?_ _ | refine blk_drew ?_ | refine blk_alloc ?_ _));exact BK105.out)) : gb106 ≠ gb105));clear BK105;clear HB;have BK105 := n0_;have HB := n1_;have BK106 := n2_;have GW106 := n3_;have GE106 := n4_;have NB105_106 := n5_;have NB106_105 := n6_;clear n0_ n1_ n2_ n3_ n4_ n5_ n6_;clear hb hbox hg;have hnb24 := NB105_106.out;have hnc24 := NB106_105.out;have hcz25_0 : w23.cell? ⟨gb105,0,none⟩ = some (.int .i64 a0_0) := (blk_cell BK105.out 0).trans rfl;have hcz25_1 : w23.cell? ⟨gb105,1,none⟩ = some (.bool a0_1) := (blk_cell BK105.out 1).trans rfl;have hcz25_2 : w23.cell? ⟨gb105,2,none⟩ = some (.int .i64 a0_2) := (blk_cell BK105.out 2).trans rfl;have hcz25_3 : w23.cell? ⟨gb105,3,none⟩ = some (.string a0_3) := (blk_cell BK105.out 3).trans rfl;have hfz25_0 := blk_frozen BK105.out 0;have hfz25_1 := blk_frozen BK105.out 1;have hfz25_2 := blk_frozen BK105.out 2;have hfz25_3 := blk_frozen BK105.out 3;have hcz26_0 : w23.cell? ⟨gb106,0,none⟩ = some (.int .i64 a1_0) := (blk_cell BK106.out 0).trans rfl;have hcz26_1 : w23.cell? ⟨gb106,1,none⟩ = some (.bool a1_1) := (blk_cell BK106.out 1).trans rfl;have hcz26_2 : w23.cell? ⟨gb106,2,none⟩ = some (.int .i64 a1_2) := (blk_cell BK106.out 2).trans rfl;have hcz26_3 : w23.cell? ⟨gb106,3,none⟩ = some (.string a1_3) := (blk_cell BK106.out 3).trans rfl;have hfz26_0 := blk_frozen BK106.out 0;have hfz26_1 := blk_frozen BK106.out 1;have hfz26_2 := blk_frozen BK106.out 2;have hfz26_3 := blk_frozen BK106.out 3) | (go_at_call 152;(with_reducible refine (strings_Compare.calls a0_3 a1_3 t112 _ A21.out).mono ?_);rintro e w27 ⟨rfl,hb⟩;have n0_ := Aside0.mk (blk_below (g := gb105) (o := .cells #[.int .i64 a0_0,.bool a0_1,.int .i64 a0_2,.string a0_3] 149 (0,0)) (by (with_reducible repeat (first | refine blk_drewN ?_ _ | refine blk_drew ?_ | refine blk_alloc ?_ _));exact BK105.out) hb);have n1_ := Aside0.mk (blk_below (g := gb106) (o := .cells #[.int .i64 a1_0,.bool a1_1,.int .i64 a1_2,.string a1_3] 149 (0,0)) (by (with_reducible repeat (first | refine blk_drewN ?_ _ | refine blk_drew ?_ | refine blk_alloc ?_ _));exact BK106.out) hb);have n2_ := Aside0.mk (below_step (by repeat (first | (with_reducible first | exact HB.out | apply below_alloc | apply pw_below_drewN | apply below_drew1 | refine below_set ?_ GE105.out | refine below_set ?_ GE106.out) | exact HB.out)) hb);clear BK105;clear BK106;clear HB;have BK105 := n0_;have BK106 := n1_;have HB := n2_;clear n0_ n1_ n2_;(try clear hb);(try clear hb2);(try clear hk);(try clear hi))))
          go_ret
          exact ⟨by first | rfl | (simp [errW_none,errW_some] <;> rfl) | (simp [*,errW_none,errW_some] <;> rfl),by repeat (first | (with_reducible first | exact HB.out | apply below_alloc | apply pw_below_drewN | apply below_drew1 | refine below_set ?_ GE105.out | refine below_set ?_ GE106.out) | exact HB.out)⟩
        · rw [if_neg c20] at H
          have c20b0 : (a0_0 == 3) = false := beq_eq_false_iff_ne.mpr c20
          have c20b1 : (a0_0 != 3) = true := bne_iff_ne.mpr c20
          obtain rfl := Option.some.inj H
          go_enter Try.func134,Try.ntmps134
          go_wp2_with (first | ((with_reducible refine gate_dst (N := 2) rfl ?_);refine box_event ?hg (N := 2) ?hd (cs := #[.int .i64 a0_0,.bool a0_1,.int .i64 a0_2,.string a0_3]) (t := 149) ?hr ?_;(case hd => rfl);(case hg => rfl);(case hr => first | (go_simp;done) | (go_simp;rfl));intro gb105 hg w28 hbox hb;have n0_ := Aside0.mk (below_step (by repeat (first | (with_reducible first | exact HB.out | apply below_alloc | apply pw_below_drewN | apply below_drew1) | exact HB.out)) hb);have n1_ := Aside0.mk (hbox);have n2_ := Aside0.mk ((by rw [hg];exact (below_size (by repeat (first | (with_reducible first | exact HB.out | apply below_alloc | apply pw_below_drewN | apply below_drew1) | exact HB.out))) : w.heap.size ≤ gb105));have n3_ := Aside0.mk ((by rw [hg];exact (below_size (by repeat (first | (with_reducible first | exact HB.out | apply below_alloc | apply pw_below_drewN | apply below_drew1) | exact HB.out))) : w.heap.size ≤ gb105));clear HB;have HB := n0_;have BK105 := n1_;have GW105 := n2_;have GE105 := n3_;clear n0_ n1_ n2_ n3_;clear hb hbox hg) | ((with_reducible refine gate_dst (N := 3) rfl ?_);refine box_event ?hg (N := 3) ?hd (cs := #[.int .i64 a1_0,.bool a1_1,.int .i64 a1_2,.string a1_3]) (t := 149) ?hr ?_;(case hd => rfl);(case hg => rfl);(case hr => first | (go_simp;done) | (go_simp;rfl));intro gb106 hg w29 hbox hb;have n0_ := Aside0.mk (blk_below (g := gb105) (o := .cells #[.int .i64 a0_0,.bool a0_1,.int .i64 a0_2,.string a0_3] 149 (0,0)) (by (with_reducible repeat (first | refine blk_drewN ?_ _ | refine blk_drew ?_ | refine blk_alloc ?_ _));exact BK105.out) hb);have n1_ := Aside0.mk (below_step (by repeat (first | (with_reducible first | exact HB.out | apply below_alloc | apply pw_below_drewN | apply below_drew1 | refine below_set ?_ GE105.out) | exact HB.out)) hb);have n2_ := Aside0.mk (hbox);have n3_ := Aside0.mk ((by rw [hg];exact (below_size (by repeat (first | (with_reducible first | exact HB.out | apply below_alloc | apply pw_below_drewN | apply below_drew1 | refine below_set ?_ GE105.out) | exact HB.out))) : w.heap.size ≤ gb106));have n4_ := Aside0.mk ((by rw [hg];exact (below_size (by repeat (first | (with_reducible first | exact HB.out | apply below_alloc | apply pw_below_drewN | apply below_drew1 | refine below_set ?_ GE105.out) | exact HB.out))) : w.heap.size ≤ gb106));have n5_ := Aside0.mk ((by rw [hg];exact Nat.ne_of_lt (blk_lt (g := gb105) (o := .cells #[.int .i64 a0_0,.bool a0_1,.int .i64 a0_2,.string a0_3] 149 (0,0)) (by (with_reducible repeat (first | refine blk_drewN ?_ _ | refine blk_drew ?_ | refine blk_alloc ?_ _));exact BK105.out)) : gb105 ≠ gb106));have n6_ := Aside0.mk ((by rw [hg];exact Nat.ne_of_gt (blk_lt (g := gb105) (o := .cells #[.int .i64 a0_0,.bool a0_1,.int .i64 a0_2,.string a0_3] 149 (0,0)) (by (with_reducible repeat (first | refine blk_drewN ?_ _ | refine blk_drew ?_ | refine blk_alloc ?_ _));exact BK105.out)) : gb106 ≠ gb105));clear BK105;clear HB;have BK105 := n0_;have HB := n1_;have BK106 := n2_;have GW106 := n3_;have GE106 := n4_;have NB105_106 := n5_;have NB106_105 := n6_;clear n0_ n1_ n2_ n3_ n4_ n5_ n6_;clear hb hbox hg;have hnb30 := NB105_106.out;have hnc30 := NB106_105.out;have hcz31_0 : w29.cell? ⟨gb105,0,none⟩ = some (.int .i64 a0_0) := (blk_cell BK105.out 0).trans rfl;have hcz31_1 : w29.cell? ⟨gb105,1,none⟩ = some (.bool a0_1) := (blk_cell BK105.out 1).trans rfl;have hcz31_2 : w29.cell? ⟨gb105,2,none⟩ = some (.int .i64 a0_2) := (blk_cell BK105.out 2).trans rfl;have hcz31_3 : w29.cell? ⟨gb105,3,none⟩ = some (.string a0_3) := (blk_cell BK105.out 3).trans rfl;have hfz31_0 := blk_frozen BK105.out 0;have hfz31_1 := blk_frozen BK105.out 1;have hfz31_2 := blk_frozen BK105.out 2;have hfz31_3 := blk_frozen BK105.out 3;have hcz32_0 : w29.cell? ⟨gb106,0,none⟩ = some (.int .i64 a1_0) := (blk_cell BK106.out 0).trans rfl;have hcz32_1 : w29.cell? ⟨gb106,1,none⟩ = some (.bool a1_1) := (blk_cell BK106.out 1).trans rfl;have hcz32_2 : w29.cell? ⟨gb106,2,none⟩ = some (.int .i64 a1_2) := (blk_cell BK106.out 2).trans rfl;have hcz32_3 : w29.cell? ⟨gb106,3,none⟩ = some (.string a1_3) := (blk_cell BK106.out 3).trans rfl;have hfz32_0 := blk_frozen BK106.out 0;have hfz32_1 := blk_frozen BK106.out 1;have hfz32_2 := blk_frozen BK106.out 2;have hfz32_3 := blk_frozen BK106.out 3))
          repeat (go_quiet (first | ((with_reducible refine gate_dst (N := 2) rfl ?_);refine box_event ?hg (N := 2) ?hd (cs := #[.int .i64 a0_0,.bool a0_1,.int .i64 a0_2,.string a0_3]) (t := 149) ?hr ?_;(case hd => rfl);(case hg => rfl);(case hr => first | (go_simp;done) | (go_simp;rfl));intro gb105 hg w28 hbox hb;have n0_ := Aside0.mk (below_step (by repeat (first | (with_reducible first | exact HB.out | apply below_alloc | apply pw_below_drewN | apply below_drew1) | exact HB.out)) hb);have n1_ := Aside0.mk (hbox);have n2_ := Aside0.mk ((by rw [hg];exact (below_size (by repeat (first | (with_reducible first | exact HB.out | apply below_alloc | apply pw_below_drewN | apply below_drew1) | exact HB.out))) : w.heap.size ≤ gb105));have n3_ := Aside0.mk ((by rw [hg];exact (below_size (by repeat (first | (with_reducible first | exact HB.out | apply below_alloc | apply pw_below_drewN | apply below_drew1) | exact HB.out))) : w.heap.size ≤ gb105));clear HB;have HB := n0_;have BK105 := n1_;have GW105 := n2_;have GE105 := n3_;clear n0_ n1_ n2_ n3_;clear hb hbox hg) | ((with_reducible refine gate_dst (N := 3) rfl ?_);refine box_event ?hg (N := 3) ?hd (cs := #[.int .i64 a1_0,.bool a1_1,.int .i64 a1_2,.string a1_3]) (t := 149) ?hr ?_;(case hd => rfl);(case hg => rfl);(case hr => first | (go_simp;done) | (go_simp;rfl));intro gb106 hg w29 hbox hb;have n0_ := Aside0.mk (blk_below (g := gb105) (o := .cells #[.int .i64 a0_0,.bool a0_1,.int .i64 a0_2,.string a0_3] 149 (0,0)) (by (with_reducible repeat (first | refine blk_drewN ?_ _ | refine blk_drew ?_ | refine blk_alloc ?_ _));exact BK105.out) hb);have n1_ := Aside0.mk (below_step (by repeat (first | (with_reducible first | exact HB.out | apply below_alloc | apply pw_below_drewN | apply below_drew1 | refine below_set ?_ GE105.out) | exact HB.out)) hb);have n2_ := Aside0.mk (hbox);have n3_ := Aside0.mk ((by rw [hg];exact (below_size (by repeat (first | (with_reducible first | exact HB.out | apply below_alloc | apply pw_below_drewN | apply below_drew1 | refine below_set ?_ GE105.out) | exact HB.out))) : w.heap.size ≤ gb106));have n4_ := Aside0.mk ((by rw [hg];exact (below_size (by repeat (first | (with_reducible first | exact HB.out | apply below_alloc | apply pw_below_drewN | apply below_drew1 | refine below_set ?_ GE105.out) | exact HB.out))) : w.heap.size ≤ gb106));have n5_ := Aside0.mk ((by rw [hg];exact Nat.ne_of_lt (blk_lt (g := gb105) (o := .cells #[.int .i64 a0_0,.bool a0_1,.int .i64 a0_2,.string a0_3] 149 (0,0)) (by (with_reducible repeat (first | refine blk_drewN ?_ _ | refine blk_drew ?_ | refine blk_alloc ?_ _));exact BK105.out)) : gb105 ≠ gb106));have n6_ := Aside0.mk ((by rw [hg];exact Nat.ne_of_gt (blk_lt (g := gb105) (o := .cells #[.int .i64 a0_0,.bool a0_1,.int .i64 a0_2,.string a0_3] 149 (0,0)) (by (with_reducible repeat (first | refine blk_drewN ?_ _ | refine blk_drew ?_ | refine blk_alloc ?_ _));exact BK105.out)) : gb106 ≠ gb105));clear BK105;clear HB;have BK105 := n0_;have HB := n1_;have BK106 := n2_;have GW106 := n3_;have GE106 := n4_;have NB105_106 := n5_;have NB106_105 := n6_;clear n0_ n1_ n2_ n3_ n4_ n5_ n6_;clear hb hbox hg;have hnb30 := NB105_106.out;have hnc30 := NB106_105.out;have hcz31_0 : w29.cell? ⟨gb105,0,none⟩ = some (.int .i64 a0_0) := (blk_cell BK105.out 0).trans rfl;have hcz31_1 : w29.cell? ⟨gb105,1,none⟩ = some (.bool a0_1) := (blk_cell BK105.out 1).trans rfl;have hcz31_2 : w29.cell? ⟨gb105,2,none⟩ = some (.int .i64 a0_2) := (blk_cell BK105.out 2).trans rfl;have hcz31_3 : w29.cell? ⟨gb105,3,none⟩ = some (.string a0_3) := (blk_cell BK105.out 3).trans rfl;have hfz31_0 := blk_frozen BK105.out 0;have hfz31_1 := blk_frozen BK105.out 1;have hfz31_2 := blk_frozen BK105.out 2;have hfz31_3 := blk_frozen BK105.out 3;have hcz32_0 : w29.cell? ⟨gb106,0,none⟩ = some (.int .i64 a1_0) := (blk_cell BK106.out 0).trans rfl;have hcz32_1 : w29.cell? ⟨gb106,1,none⟩ = some (.bool a1_1) := (blk_cell BK106.out 1).trans rfl;have hcz32_2 : w29.cell? ⟨gb106,2,none⟩ = some (.int .i64 a1_2) := (blk_cell BK106.out 2).trans rfl;have hcz32_3 : w29.cell? ⟨gb106,3,none⟩ = some (.string a1_3) := (blk_cell BK106.out 3).trans rfl;have hfz32_0 := blk_frozen BK106.out 0;have hfz32_1 := blk_frozen BK106.out 1;have hfz32_2 := blk_frozen BK106.out 2;have hfz32_3 := blk_frozen BK106.out 3));try go_wp2_with (first | ((with_reducible refine gate_dst (N := 2) rfl ?_);refine box_event ?hg (N := 2) ?hd (cs := #[.int .i64 a0_0,.bool a0_1,.int .i64 a0_2,.string a0_3]) (t := 149) ?hr ?_;(case hd => rfl);(case hg => rfl);(case hr => first | (go_simp;done) | (go_simp;rfl));intro gb105 hg w28 hbox hb;have n0_ := Aside0.mk (below_step (by repeat (first | (with_reducible first | exact HB.out | apply below_alloc | apply pw_below_drewN | apply below_drew1) | exact HB.out)) hb);have n1_ := Aside0.mk (hbox);have n2_ := Aside0.mk ((by rw [hg];exact (below_size (by repeat (first | (with_reducible first | exact HB.out | apply below_alloc | apply pw_below_drewN | apply below_drew1) | exact HB.out))) : w.heap.size ≤ gb105));have n3_ := Aside0.mk ((by rw [hg];exact (below_size (by repeat (first | (with_reducible first | exact HB.out | apply below_alloc | apply pw_below_drewN | apply below_drew1) | exact HB.out))) : w.heap.size ≤ gb105));clear HB;have HB := n0_;have BK105 := n1_;have GW105 := n2_;have GE105 := n3_;clear n0_ n1_ n2_ n3_;clear hb hbox hg) | ((with_reducible refine gate_dst (N := 3) rfl ?_);refine box_event ?hg (N := 3) ?hd (cs := #[.int .i64 a1_0,.bool a1_1,.int .i64 a1_2,.string a1_3]) (t := 149) ?hr ?_;(case hd => rfl);(case hg => rfl);(case hr => first | (go_simp;done) | (go_simp;rfl));intro gb106 hg w29 hbox hb;have n0_ := Aside0.mk (blk_below (g := gb105) (o := .cells #[.int .i64 a0_0,.bool a0_1,.int .i64 a0_2,.string a0_3] 149 (0,0)) (by (with_reducible repeat (first | refine blk_drewN ?_ _ | refine blk_drew ?_ | refine blk_alloc ?_ _));exact BK105.out) hb);have n1_ := Aside0.mk (below_step (by repeat (first | (with_reducible first | exact HB.out | apply below_alloc | apply pw_below_drewN | apply below_drew1 | refine below_set ?_ GE105.out) | exact HB.out)) hb);have n2_ := Aside0.mk (hbox);have n3_ := Aside0.mk ((by rw [hg];exact (below_size (by repeat (first | (with_reducible first | exact HB.out | apply below_alloc | apply pw_below_drewN | apply below_drew1 | refine below_set ?_ GE105.out) | exact HB.out))) : w.heap.size ≤ gb106));have n4_ := Aside0.mk ((by rw [hg];exact (below_size (by repeat (first | (with_reducible first | exact HB.out | apply below_alloc | apply pw_below_drewN | apply below_drew1 | refine below_set ?_ GE105.out) | exact HB.out))) : w.heap.size ≤ gb106));have n5_ := Aside0.mk ((by rw [hg];exact Nat.ne_of_lt (blk_lt (g := gb105) (o := .cells #[.int .i64 a0_0,.bool a0_1,.int .i64 a0_2,.string a0_3] 149 (0,0)) (by (with_reducible repeat (first | refine blk_drewN ?_ _ | refine blk_drew ?_ | refine blk_alloc ?_ _));exact BK105.out)) : gb105 ≠ gb106));have n6_ := Aside0.mk ((by rw [hg];exact Nat.ne_of_gt (blk_lt (g := gb105) (o := .cells #[.int .i64 a0_0,.bool a0_1,.int .i64 a0_2,.string a0_3] 149 (0,0)) (by (with_reducible repeat (first | refine blk_drewN ?_ _ | refine blk_drew ?_ | refine blk_alloc ?_ _));exact BK105.out)) : gb106 ≠ gb105));clear BK105;clear HB;have BK105 := n0_;have HB := n1_;have BK106 := n2_;have GW106 := n3_;have GE106 := n4_;have NB105_106 := n5_;have NB106_105 := n6_;clear n0_ n1_ n2_ n3_ n4_ n5_ n6_;clear hb hbox hg;have hnb30 := NB105_106.out;have hnc30 := NB106_105.out;have hcz31_0 : w29.cell? ⟨gb105,0,none⟩ = some (.int .i64 a0_0) := (blk_cell BK105.out 0).trans rfl;have hcz31_1 : w29.cell? ⟨gb105,1,none⟩ = some (.bool a0_1) := (blk_cell BK105.out 1).trans rfl;have hcz31_2 : w29.cell? ⟨gb105,2,none⟩ = some (.int .i64 a0_2) := (blk_cell BK105.out 2).trans rfl;have hcz31_3 : w29.cell? ⟨gb105,3,none⟩ = some (.string a0_3) := (blk_cell BK105.out 3).trans rfl;have hfz31_0 := blk_frozen BK105.out 0;have hfz31_1 := blk_frozen BK105.out 1;have hfz31_2 := blk_frozen BK105.out 2;have hfz31_3 := blk_frozen BK105.out 3;have hcz32_0 : w29.cell? ⟨gb106,0,none⟩ = some (.int .i64 a1_0) := (blk_cell BK106.out 0).trans rfl;have hcz32_1 : w29.cell? ⟨gb106,1,none⟩ = some (.bool a1_1) := (blk_cell BK106.out 1).trans rfl;have hcz32_2 : w29.cell? ⟨gb106,2,none⟩ = some (.int .i64 a1_2) := (blk_cell BK106.out 2).trans rfl;have hcz32_3 : w29.cell? ⟨gb106,3,none⟩ = some (.string a1_3) := (blk_cell BK106.out 3).trans rfl;have hfz32_0 := blk_frozen BK106.out 0;have hfz32_1 := blk_frozen BK106.out 1;have hfz32_2 := blk_frozen BK106.out 2;have hfz32_3 := blk_frozen BK106.out 3)))
          go_ret
          exact ⟨by first | rfl | (simp [errW_none,errW_some] <;> rfl) | (simp [*,errW_none,errW_some] <;> rfl),by repeat (first | (with_reducible first | exact HB.out | apply below_alloc | apply pw_below_drewN | apply below_drew1 | refine below_set ?_ GE105.out | refine below_set ?_ GE106.out) | exact HB.out)⟩
  · rw [if_neg c3] at H
    have c3b0 : (a0_0 == a1_0) = false := beq_eq_false_iff_ne.mpr c3
    have c3b1 : (a0_0 != a1_0) = true := bne_iff_ne.mpr c3
    replace H := Option.bind_eq_some_iff.mp H
    obtain ⟨t107,A330,H⟩ := H
    replace H : (some t107) = some r := H
    have A33 := Aside0.mk A330
    clear A330
    obtain rfl := Option.some.inj H
    go_enter Try.func134,Try.ntmps134
    go_wp2_with (first | ((with_reducible refine gate_dst (N := 2) rfl ?_);refine box_event ?hg (N := 2) ?hd (cs := #[.int .i64 a0_0,.bool a0_1,.int .i64 a0_2,.string a0_3]) (t := 149) ?hr ?_;(case hd => rfl);(case hg => rfl);(case hr => first | (go_simp;done) | (go_simp;rfl));intro gb105 hg w34 hbox hb;have n0_ := Aside0.mk (below_step (by repeat (first | (with_reducible first | exact HB.out | apply below_alloc | apply pw_below_drewN | apply below_drew1) | exact HB.out)) hb);have n1_ := Aside0.mk (hbox);have n2_ := Aside0.mk ((by rw [hg];exact (below_size (by repeat (first | (with_reducible first | exact HB.out | apply below_alloc | apply pw_below_drewN | apply below_drew1) | exact HB.out))) : w.heap.size ≤ gb105));have n3_ := Aside0.mk ((by rw [hg];exact (below_size (by repeat (first | (with_reducible first | exact HB.out | apply below_alloc | apply pw_below_drewN | apply below_drew1) | exact HB.out))) : w.heap.size ≤ gb105));clear HB;have HB := n0_;have BK105 := n1_;have GW105 := n2_;have GE105 := n3_;clear n0_ n1_ n2_ n3_;clear hb hbox hg) | ((with_reducible refine gate_dst (N := 3) rfl ?_);refine box_event ?hg (N := 3) ?hd (cs := #[.int .i64 a1_0,.bool a1_1,.int .i64 a1_2,.string a1_3]) (t := 149) ?hr ?_;(case hd => rfl);(case hg => rfl);(case hr => first | (go_simp;done) | (go_simp;rfl));intro gb106 hg w35 hbox hb;have n0_ := Aside0.mk (blk_below (g := gb105) (o := .cells #[.int .i64 a0_0,.bool a0_1,.int .i64 a0_2,.string a0_3] 149 (0,0)) (by (with_reducible repeat (first | refine blk_drewN ?_ _ | refine blk_drew ?_ | refine blk_alloc ?_ _));exact BK105.out) hb);have n1_ := Aside0.mk (below_step (by repeat (first | (with_reducible first | exact HB.out | apply below_alloc | apply pw_below_drewN | apply below_drew1 | refine below_set ?_ GE105.out) | exact HB.out)) hb);have n2_ := Aside0.mk (hbox);have n3_ := Aside0.mk ((by rw [hg];exact (below_size (by repeat (first | (with_reducible first | exact HB.out | apply below_alloc | apply pw_below_drewN | apply below_drew1 | refine below_set ?_ GE105.out) | exact HB.out))) : w.heap.size ≤ gb106));have n4_ := Aside0.mk ((by rw [hg];exact (below_size (by repeat (first | (with_reducible first | exact HB.out | apply below_alloc | apply pw_below_drewN | apply below_drew1 | refine below_set ?_ GE105.out) | exact HB.out))) : w.heap.size ≤ gb106));have n5_ := Aside0.mk ((by rw [hg];exact Nat.ne_of_lt (blk_lt (g := gb105) (o := .cells #[.int .i64 a0_0,.bool a0_1,.int .i64 a0_2,.string a0_3] 149 (0,0)) (by (with_reducible repeat (first | refine blk_drewN ?_ _ | refine blk_drew ?_ | refine blk_alloc ?_ _));exact BK105.out)) : gb105 ≠ gb106));have n6_ := Aside0.mk ((by rw [hg];exact Nat.ne_of_gt (blk_lt (g := gb105) (o := .cells #[.int .i64 a0_0,.bool a0_1,.int .i64 a0_2,.string a0_3] 149 (0,0)) (by (with_reducible repeat (first | refine blk_drewN ?_ _ | refine blk_drew ?_ | refine blk_alloc ?_ _));exact BK105.out)) : gb106 ≠ gb105));clear BK105;clear HB;have BK105 := n0_;have HB := n1_;have BK106 := n2_;have GW106 := n3_;have GE106 := n4_;have NB105_106 := n5_;have NB106_105 := n6_;clear n0_ n1_ n2_ n3_ n4_ n5_ n6_;clear hb hbox hg;have hnb36 := NB105_106.out;have hnc36 := NB106_105.out;have hcz37_0 : w35.cell? ⟨gb105,0,none⟩ = some (.int .i64 a0_0) := (blk_cell BK105.out 0).trans rfl;have hcz37_1 : w35.cell? ⟨gb105,1,none⟩ = some (.bool a0_1) := (blk_cell BK105.out 1).trans rfl;have hcz37_2 : w35.cell? ⟨gb105,2,none⟩ = some (.int .i64 a0_2) := (blk_cell BK105.out 2).trans rfl;have hcz37_3 : w35.cell? ⟨gb105,3,none⟩ = some (.string a0_3) := (blk_cell BK105.out 3).trans rfl;have hfz37_0 := blk_frozen BK105.out 0;have hfz37_1 := blk_frozen BK105.out 1;have hfz37_2 := blk_frozen BK105.out 2;have hfz37_3 := blk_frozen BK105.out 3;have hcz38_0 : w35.cell? ⟨gb106,0,none⟩ = some (.int .i64 a1_0) := (blk_cell BK106.out 0).trans rfl;have hcz38_1 : w35.cell? ⟨gb106,1,none⟩ = some (.bool a1_1) := (blk_cell BK106.out 1).trans rfl;have hcz38_2 : w35.cell? ⟨gb106,2,none⟩ = some (.int .i64 a1_2) := (blk_cell BK106.out 2).trans rfl;have hcz38_3 : w35.cell? ⟨gb106,3,none⟩ = some (.string a1_3) := (blk_cell BK106.out 3).trans rfl;have hfz38_0 := blk_frozen BK106.out 0;have hfz38_1 := blk_frozen BK106.out 1;have hfz38_2 := blk_frozen BK106.out 2;have hfz38_3 := blk_frozen BK106.out 3) | (go_at_call 149;(with_reducible refine (cmp_Compare_149.calls a0_0 a1_0 t107 _ A33.out).mono ?_);rintro e w' ⟨rfl,⟨nd,rfl⟩⟩;(try first | exact ⟨rfl,_,World.drewN_drewN _ _ _⟩ | exact ⟨rfl,_,Eq.trans (World.drewN_drewN _ _ _) (congrArg (World.drewN _) (Nat.add_assoc _ _ _))⟩)))
    repeat (go_quiet (first | ((with_reducible refine gate_dst (N := 2) rfl ?_);refine box_event ?hg (N := 2) ?hd (cs := #[.int .i64 a0_0,.bool a0_1,.int .i64 a0_2,.string a0_3]) (t := 149) ?hr ?_;(case hd => rfl);(case hg => rfl);(case hr => first | (go_simp;done) | (go_simp;rfl));intro gb105 hg w34 hbox hb;have n0_ := Aside0.mk (below_step (by repeat (first | (with_reducible first | exact HB.out | apply below_alloc | apply pw_below_drewN | apply below_drew1) | exact HB.out)) hb);have n1_ := Aside0.mk (hbox);have n2_ := Aside0.mk ((by rw [hg];exact (below_size (by repeat (first | (with_reducible first | exact HB.out | apply below_alloc | apply pw_below_drewN | apply below_drew1) | exact HB.out))) : w.heap.size ≤ gb105));have n3_ := Aside0.mk ((by rw [hg];exact (below_size (by repeat (first | (with_reducible first | exact HB.out | apply below_alloc | apply pw_below_drewN | apply below_drew1) | exact HB.out))) : w.heap.size ≤ gb105));clear HB;have HB := n0_;have BK105 := n1_;have GW105 := n2_;have GE105 := n3_;clear n0_ n1_ n2_ n3_;clear hb hbox hg) | ((with_reducible refine gate_dst (N := 3) rfl ?_);refine box_event ?hg (N := 3) ?hd (cs := #[.int .i64 a1_0,.bool a1_1,.int .i64 a1_2,.string a1_3]) (t := 149) ?hr ?_;(case hd => rfl);(case hg => rfl);(case hr => first | (go_simp;done) | (go_simp;rfl));intro gb106 hg w35 hbox hb;have n0_ := Aside0.mk (blk_below (g := gb105) (o := .cells #[.int .i64 a0_0,.bool a0_1,.int .i64 a0_2,.string a0_3] 149 (0,0)) (by (with_reducible repeat (first | refine blk_drewN ?_ _ | refine blk_drew ?_ | refine blk_alloc ?_ _));exact BK105.out) hb);have n1_ := Aside0.mk (below_step (by repeat (first | (with_reducible first | exact HB.out | apply below_alloc | apply pw_below_drewN | apply below_drew1 | refine below_set ?_ GE105.out) | exact HB.out)) hb);have n2_ := Aside0.mk (hbox);have n3_ := Aside0.mk ((by rw [hg];exact (below_size (by repeat (first | (with_reducible first | exact HB.out | apply below_alloc | apply pw_below_drewN | apply below_drew1 | refine below_set ?_ GE105.out) | exact HB.out))) : w.heap.size ≤ gb106));have n4_ := Aside0.mk ((by rw [hg];exact (below_size (by repeat (first | (with_reducible first | exact HB.out | apply below_alloc | apply pw_below_drewN | apply below_drew1 | refine below_set ?_ GE105.out) | exact HB.out))) : w.heap.size ≤ gb106));have n5_ := Aside0.mk ((by rw [hg];exact Nat.ne_of_lt (blk_lt (g := gb105) (o := .cells #[.int .i64 a0_0,.bool a0_1,.int .i64 a0_2,.string a0_3] 149 (0,0)) (by (with_reducible repeat (first | refine blk_drewN ?_ _ | refine blk_drew ?_ | refine blk_alloc ?_ _));exact BK105.out)) : gb105 ≠ gb106));have n6_ := Aside0.mk ((by rw [hg];exact Nat.ne_of_gt (blk_lt (g := gb105) (o := .cells #[.int .i64 a0_0,.bool a0_1,.int .i64 a0_2,.string a0_3] 149 (0,0)) (by (with_reducible repeat (first | refine blk_drewN ?_ _ | refine blk_drew ?_ | refine blk_alloc ?_ _));exact BK105.out)) : gb106 ≠ gb105));clear BK105;clear HB;have BK105 := n0_;have HB := n1_;have BK106 := n2_;have GW106 := n3_;have GE106 := n4_;have NB105_106 := n5_;have NB106_105 := n6_;clear n0_ n1_ n2_ n3_ n4_ n5_ n6_;clear hb hbox hg;have hnb36 := NB105_106.out;have hnc36 := NB106_105.out;have hcz37_0 : w35.cell? ⟨gb105,0,none⟩ = some (.int .i64 a0_0) := (blk_cell BK105.out 0).trans rfl;have hcz37_1 : w35.cell? ⟨gb105,1,none⟩ = some (.bool a0_1) := (blk_cell BK105.out 1).trans rfl;have hcz37_2 : w35.cell? ⟨gb105,2,none⟩ = some (.int .i64 a0_2) := (blk_cell BK105.out 2).trans rfl;have hcz37_3 : w35.cell? ⟨gb105,3,none⟩ = some (.string a0_3) := (blk_cell BK105.out 3).trans rfl;have hfz37_0 := blk_frozen BK105.out 0;have hfz37_1 := blk_frozen BK105.out 1;have hfz37_2 := blk_frozen BK105.out 2;have hfz37_3 := blk_frozen BK105.out 3;have hcz38_0 : w35.cell? ⟨gb106,0,none⟩ = some (.int .i64 a1_0) := (blk_cell BK106.out 0).trans rfl;have hcz38_1 : w35.cell? ⟨gb106,1,none⟩ = some (.bool a1_1) := (blk_cell BK106.out 1).trans rfl;have hcz38_2 : w35.cell? ⟨gb106,2,none⟩ = some (.int .i64 a1_2) := (blk_cell BK106.out 2).trans rfl;have hcz38_3 : w35.cell? ⟨gb106,3,none⟩ = some (.string a1_3) := (blk_cell BK106.out 3).trans rfl;have hfz38_0 := blk_frozen BK106.out 0;have hfz38_1 := blk_frozen BK106.out 1;have hfz38_2 := blk_frozen BK106.out 2;have hfz38_3 := blk_frozen BK106.out 3) | (go_at_call 149;(with_reducible refine (cmp_Compare_149.calls a0_0 a1_0 t107 _ A33.out).mono ?_);rintro e w' ⟨rfl,⟨nd,rfl⟩⟩;(try first | exact ⟨rfl,_,World.drewN_drewN _ _ _⟩ | exact ⟨rfl,_,Eq.trans (World.drewN_drewN _ _ _) (congrArg (World.drewN _) (Nat.add_assoc _ _ _))⟩)));try go_wp2_with (first | ((with_reducible refine gate_dst (N := 2) rfl ?_);refine box_event ?hg (N := 2) ?hd (cs := #[.int .i64 a0_0,.bool a0_1,.int .i64 a0_2,.string a0_3]) (t := 149) ?hr ?_;(case hd => rfl);(case hg => rfl);(case hr => first | (go_simp;done) | (go_simp;rfl));intro gb105 hg w34 hbox hb;have n0_ := Aside0.mk (below_step (by repeat (first | (with_reducible first | exact HB.out | apply below_alloc | apply pw_below_drewN | apply below_drew1) | exact HB.out)) hb);have n1_ := Aside0.mk (hbox);have n2_ := Aside0.mk ((by rw [hg];exact (below_size (by repeat (first | (with_reducible first | exact HB.out | apply below_alloc | apply pw_below_drewN | apply below_drew1) | exact HB.out))) : w.heap.size ≤ gb105));have n3_ := Aside0.mk ((by rw [hg];exact (below_size (by repeat (first | (with_reducible first | exact HB.out | apply below_alloc | apply pw_below_drewN | apply below_drew1) | exact HB.out))) : w.heap.size ≤ gb105));clear HB;have HB := n0_;have BK105 := n1_;have GW105 := n2_;have GE105 := n3_;clear n0_ n1_ n2_ n3_;clear hb hbox hg) | ((with_reducible refine gate_dst (N := 3) rfl ?_);refine box_event ?hg (N := 3) ?hd (cs := #[.int .i64 a1_0,.bool a1_1,.int .i64 a1_2,.string a1_3]) (t := 149) ?hr ?_;(case hd => rfl);(case hg => rfl);(case hr => first | (go_simp;done) | (go_simp;rfl));intro gb106 hg w35 hbox hb;have n0_ := Aside0.mk (blk_below (g := gb105) (o := .cells #[.int .i64 a0_0,.bool a0_1,.int .i64 a0_2,.string a0_3] 149 (0,0)) (by (with_reducible repeat (first | refine blk_drewN ?_ _ | refine blk_drew ?_ | refine blk_alloc ?_ _));exact BK105.out) hb);have n1_ := Aside0.mk (below_step (by repeat (first | (with_reducible first | exact HB.out | apply below_alloc | apply pw_below_drewN | apply below_drew1 | refine below_set ?_ GE105.out) | exact HB.out)) hb);have n2_ := Aside0.mk (hbox);have n3_ := Aside0.mk ((by rw [hg];exact (below_size (by repeat (first | (with_reducible first | exact HB.out | apply below_alloc | apply pw_below_drewN | apply below_drew1 | refine below_set ?_ GE105.out) | exact HB.out))) : w.heap.size ≤ gb106));have n4_ := Aside0.mk ((by rw [hg];exact (below_size (by repeat (first | (with_reducible first | exact HB.out | apply below_alloc | apply pw_below_drewN | apply below_drew1 | refine below_set ?_ GE105.out) | exact HB.out))) : w.heap.size ≤ gb106));have n5_ := Aside0.mk ((by rw [hg];exact Nat.ne_of_lt (blk_lt (g := gb105) (o := .cells #[.int .i64 a0_0,.bool a0_1,.int .i64 a0_2,.string a0_3] 149 (0,0)) (by (with_reducible repeat (first | refine blk_drewN ?_ _ | refine blk_drew ?_ | refine blk_alloc ?_ _));exact BK105.out)) : gb105 ≠ gb106));have n6_ := Aside0.mk ((by rw [hg];exact Nat.ne_of_gt (blk_lt (g := gb105) (o := .cells #[.int .i64 a0_0,.bool a0_1,.int .i64 a0_2,.string a0_3] 149 (0,0)) (by (with_reducible repeat (first | refine blk_drewN ?_ _ | refine blk_drew ?_ | refine blk_alloc ?_ _));exact BK105.out)) : gb106 ≠ gb105));clear BK105;clear HB;have BK105 := n0_;have HB := n1_;have BK106 := n2_;have GW106 := n3_;have GE106 := n4_;have NB105_106 := n5_;have NB106_105 := n6_;clear n0_ n1_ n2_ n3_ n4_ n5_ n6_;clear hb hbox hg;have hnb36 := NB105_106.out;have hnc36 := NB106_105.out;have hcz37_0 : w35.cell? ⟨gb105,0,none⟩ = some (.int .i64 a0_0) := (blk_cell BK105.out 0).trans rfl;have hcz37_1 : w35.cell? ⟨gb105,1,none⟩ = some (.bool a0_1) := (blk_cell BK105.out 1).trans rfl;have hcz37_2 : w35.cell? ⟨gb105,2,none⟩ = some (.int .i64 a0_2) := (blk_cell BK105.out 2).trans rfl;have hcz37_3 : w35.cell? ⟨gb105,3,none⟩ = some (.string a0_3) := (blk_cell BK105.out 3).trans rfl;have hfz37_0 := blk_frozen BK105.out 0;have hfz37_1 := blk_frozen BK105.out 1;have hfz37_2 := blk_frozen BK105.out 2;have hfz37_3 := blk_frozen BK105.out 3;have hcz38_0 : w35.cell? ⟨gb106,0,none⟩ = some (.int .i64 a1_0) := (blk_cell BK106.out 0).trans rfl;have hcz38_1 : w35.cell? ⟨gb106,1,none⟩ = some (.bool a1_1) := (blk_cell BK106.out 1).trans rfl;have hcz38_2 : w35.cell? ⟨gb106,2,none⟩ = some (.int .i64 a1_2) := (blk_cell BK106.out 2).trans rfl;have hcz38_3 : w35.cell? ⟨gb106,3,none⟩ = some (.string a1_3) := (blk_cell BK106.out 3).trans rfl;have hfz38_0 := blk_frozen BK106.out 0;have hfz38_1 := blk_frozen BK106.out 1;have hfz38_2 := blk_frozen BK106.out 2;have hfz38_3 := blk_frozen BK106.out 3) | (go_at_call 149;(with_reducible refine (cmp_Compare_149.calls a0_0 a1_0 t107 _ A33.out).mono ?_);rintro e w' ⟨rfl,⟨nd,rfl⟩⟩;(try first | exact ⟨rfl,_,World.drewN_drewN _ _ _⟩ | exact ⟨rfl,_,Eq.trans (World.drewN_drewN _ _ _) (congrArg (World.drewN _) (Nat.add_assoc _ _ _))⟩))))
    go_ret
    exact ⟨by first | rfl | (simp [errW_none,errW_some] <;> rfl) | (simp [*,errW_none,errW_some] <;> rfl),by repeat (first | (with_reducible first | exact HB.out | apply below_alloc | apply pw_below_drewN | apply below_drew1 | refine below_set ?_ GE105.out | refine below_set ?_ GE106.out) | exact HB.out)⟩
end Go.Proofs.Ythfaimomcbmniaa.Z
end
section
namespace Go.Proofs.YthfaimomcbmniaaW.PrintMore
open Go.RowKit Go.Proofs.YthfaimomcbmniaaW.PrintWords Go.Proofs.YthfaimomcbmniaaW.PrintLast
section
variable {P : Program} {ops : Array Oper} {Q : Exit → Act → World → Prop}
theorem gate_tmp {rest : List Oper} {o : Oper} {a : Act} {W : World} {n : Nat} {as_ : Array Operand} {ts : Array TypeId} (_ho : o.op = .call { callee := .value (.tmp n),args := as_,argTypes := ts }) (h : wpList P ops Q (o :: rest) a W) : wpList P ops Q (o :: rest) a W := h
theorem goesT_ {rest : List Oper} {oi : Oper} {a : Act} {w : World} (N : Option Tmp) (hd : oi.dst = N) (hg : oi.guard = none) {x : Operand} {f : FuncId} {lb : Array Value} {fn : Func} {as_ : Array Operand} {ts : Array TypeId} (hf : P.funcs[f]? = some fn) (hname : (fn.name == "runtime.NumGoroutine") = false) (hb : fn.body.isSome = true) (args : Array Value)
    (hop : oi.op = .call { callee := .value x,args := as_,argTypes := ts }) (hx : a.eval x = .func (.func f) #[] lb) (hargs : as_.map a.eval ++ lb = args)
    (h : Calls P f args w fun e w' => ∃ v,e = .returned v ∧ wpList P ops Q rest (a.put N v) w') : wpList P ops Q (oi :: rest) a w := by
  refine wpList_plain hg fun K hK => ?_
  have he := enters_ hf hname hb args w
  have hrun : (execOp a.eval oi).run P w = .ok (.enter f args) w := by
    unfold execOp
    simp [hop,resolve,Deferred.ofValue,invoke,hx,hargs,he]
  unfold Oper.wp
  rw [hrun,Oper.upon_enter]
  refine h.mono fun e w'' hh => ?_
  obtain ⟨v,rfl,hk⟩ := hh
  subst hd
  exact hK _ _ hk
end
end Go.Proofs.YthfaimomcbmniaaW.PrintMore
namespace Go.Proofs.YthfaimomcbmniaaW.PrintWords
open Go.RowKit
section
variable {P : Program} {ops : Array Oper} {Q : Exit → Act → World → Prop} {o : Oper} {rest : List Oper} {a : Act}
end
end Go.Proofs.YthfaimomcbmniaaW.PrintWords
namespace Go.Proofs.YthfaimomcbmniaaW.PrintWords
open Go.RowKit
theorem C_none {α : Type} {d : Kd α} {w : World} {xs : List α} (h : d.C w none xs.length xs) : xs = [] := by
  cases xs with
  | nil => rfl
  | cons x xs =>
    obtain ⟨ad,_,he,_⟩ := Kd.C_get h x 0 (by omega) (by simp)
    cases he
end Go.Proofs.YthfaimomcbmniaaW.PrintWords
end
section
namespace Go.Proofs.Ythfaimomcbmniaa.Z
open Go.RowKit Go.Proofs.YthfaimomcbmniaaW.PrintWords Go.Proofs.YthfaimomcbmniaaW.PrintLast Go.Proofs.YthfaimomcbmniaaW.PrintMore
attribute [local go_sem] max2_int min2_int max_two min_two max_three min_three max_four min_four
set_option linter.unusedVariables false
set_option linter.unusedSimpArgs false
def slices_CompareFunc.l0 : Nat → List (S149) → List (S149) → List (S149) → Int → Int → Option (Int)
  | 0,_,_,_,_,_ => none
  | k + 1,x0,x1,x11,x12,x13 => if x13 < x12 then (if 0 ≤ x13 then (if x13 < (x11.length : Int) then (if x13 ≥ (x1.length : Int) then (some 1) else (if x13 < (x1.length : Int) then ((value_Compare.f ((rd_T149 x11 x13).f0) ((rd_T149 x11 x13).f1) ((rd_T149 x11 x13).f2) ((rd_T149 x11 x13).f3) ((rd_T149 x1 x13).f0) ((rd_T149 x1 x13).f1) ((rd_T149 x1 x13).f2) ((rd_T149 x1 x13).f3)).bind fun t117 => (if t117 = 0 then (slices_CompareFunc.l0 k x0 x1 x11 x12 (wrap64 (x13 + 1))) else (some t117))) else (none))) else (none)) else (none)) else (if (x0.length : Int) < (x1.length : Int) then (some (-1)) else (some 0))
def slices_CompareFunc.f (k : Nat) (l0 : List (S149)) (l1 : List (S149)) (a2 : Int) : Option (Int) := slices_CompareFunc.l0 k l0 l1 l0 (l0.length : Int) 0
theorem slices_CompareFunc.mono_l : ∀ k,(∀ y0 y1 y2 y3 y4,LeO (slices_CompareFunc.l0 k y0 y1 y2 y3 y4) (slices_CompareFunc.l0 (k + 1) y0 y1 y2 y3 y4))
  | 0 => fun _ _ _ _ _ r h => by simp [slices_CompareFunc.l0] at h
  | k + 1 => by
    have ih0 := slices_CompareFunc.mono_l k
    · intro y0 y1 y2 y3 y4
      unfold slices_CompareFunc.l0
      repeat' first
      | (with_reducible exact ih0 _ _ _ _ _)
      | (with_reducible exact LeO.refl _)
      | (with_reducible exact LeO.none _)
      | (with_reducible refine LeO.ite ?_ ?_)
      | (with_reducible refine LeO.bind ?_ (fun _ => ?_))
      | exact ih0 _ _ _ _ _
      | exact LeO.none _
      | refine LeO.ite ?_ ?_
      | refine LeO.bind ?_ (fun _ => ?_)
theorem slices_CompareFunc.mono : ∀ a0 a1 a2 k,LeO (slices_CompareFunc.f k a0 a1 a2) (slices_CompareFunc.f (k + 1) a0 a1 a2) := by
  intro a0 a1 a2 k
  have ih0 := slices_CompareFunc.mono_l k
  unfold slices_CompareFunc.f
  repeat' first
      | (with_reducible exact ih0 _ _ _ _ _)
      | (with_reducible exact LeO.refl _)
      | (with_reducible exact LeO.none _)
      | (with_reducible refine LeO.ite ?_ ?_)
      | (with_reducible refine LeO.bind ?_ (fun _ => ?_))
      | exact ih0 _ _ _ _ _
      | exact LeO.none _
      | refine LeO.ite ?_ ?_
      | refine LeO.bind ?_ (fun _ => ?_)
set_option maxHeartbeats 8000000 in
set_option maxRecDepth 100000 in
theorem slices_CompareFunc.calls (k : Nat) (A0 : Option Addr) (c0 : Nat) (l0 : List (S149)) (A1 : Option Addr) (c1 : Nat) (l1 : List (S149)) (a2 : Int) (r : Int) (w : World) (hr0 : Kd.C k149 w A0 l0.length l0) (hc0 : l0.length ≤ c0) (hr1 : Kd.C k149 w A1 l1.length l1) (hc1 : l1.length ≤ c1) (h : slices_CompareFunc.f k l0 l1 a2 = some r) :
    Calls Try.prog 133 #[.slice A0 l0.length c0,.slice A1 l1.length c1,.func (.func 134) #[] #[]] w fun e w' => e = .returned (.int .i64 r) ∧ Below w.heap.size w w' := by
  have hu149 := Try.underlying149
  have HR0 := Aside0.mk hr0
  have HC0 := Aside0.mk hc0
  clear hr0 hc0
  have HR1 := Aside0.mk hr1
  have HC1 := Aside0.mk hc1
  clear hr1 hc1
  have HB := Aside0.mk (Below.refl w.heap.size w)
  have H : (slices_CompareFunc.l0 k l0 l1 l0 (l0.length : Int) 0) = some r := h
  clear h
  have H' := Aside0.mk H
  clear H
  go_enter Try.func133,Try.ntmps133
  go_wp2
  go_loopg [13] k (fun kq v13 w' => ∃ (x13_1 : Int),v13 = .int .i64 x13_1 ∧ Aside0 (slices_CompareFunc.l0 kq l0 l1 l0 (l0.length : Int) x13_1 = some r) ∧ Aside0 (kq ≤ k) ∧ Aside0 (Below w.heap.size w w'))
  case atStart => exact ⟨(0),(by first | rfl | (simp;done) | (simp [*];done)),H',⟨Nat.le_refl _⟩,⟨by repeat (first | (with_reducible first | exact HB.out | apply below_alloc | apply pw_below_drewN | apply below_drew1) | exact HB.out)⟩⟩
  case round =>
    clear H'
    try clear c1
    try clear p2
    obtain ⟨x13_1,rfl,HA,HK1,HB⟩ := hrel
    cases gk with
    | zero => exact absurd HA.out (by simp [slices_CompareFunc.l0])
    | succ k1 =>
      have H := HA.out
      clear HA
      simp only [slices_CompareFunc.l0] at H
      by_cases c4 : x13_1 < (l0.length : Int)
      · rw [if_pos c4] at H
        have c4b0 : decide (x13_1 < (l0.length : Int)) = true := decide_eq_true c4
        clear c4
        by_cases c5 : 0 ≤ x13_1
        · rw [if_pos c5] at H
          have c5b0 : decide (0 ≤ x13_1) = true := decide_eq_true c5
          clear c5
          by_cases c6 : x13_1 < (l0.length : Int)
          · rw [if_pos c6] at H
            have c6b0 : decide (x13_1 < (l0.length : Int)) = true := decide_eq_true c6
            clear c6
            by_cases c7 : x13_1 ≥ (l1.length : Int)
            · rw [if_pos c7] at H
              have c7b0 : decide ((l1.length : Int) ≤ x13_1) = true := decide_eq_true c7
              clear c7
              obtain rfl := Option.some.inj H
              have p113 : 0 ≤ (x13_1 : Int) := of_decide_eq_true (by first | (with_reducible assumption) | assumption)
              have q113 : x13_1 < (l0.length : Int) := of_decide_eq_true (by first | (with_reducible assumption) | assumption)
              obtain ⟨ad113,e113,hx113_0,hx113_1,hx113_2,hx113_3⟩ := at_T149 HR0.out x13_1 p113 q113
              cases e113
              replace hx113_0 := (HB.out.cell (World.block_lt_of_cell? w _ hx113_0)).trans hx113_0
              replace hx113_1 := (HB.out.cell (World.block_lt_of_cell? w _ hx113_1)).trans hx113_1
              replace hx113_2 := (HB.out.cell (World.block_lt_of_cell? w _ hx113_2)).trans hx113_2
              replace hx113_3 := (HB.out.cell (World.block_lt_of_cell? w _ hx113_3)).trans hx113_3
              replace p113 := eq_true p113
              replace q113 := eq_true q113
              go_wp2_with (first | ((with_reducible refine gate_dst (N := 8) rfl ?_);refine box_event ?hg (N := 8) ?hd (cs := #[.int .i64 0,.bool false,.int .i64 0,.string (⟨#[]⟩ : ByteArray)]) (t := 149) ?hr ?_;(case hd => rfl);(case hg => rfl);(case hr => first | (go_simp;done) | (go_simp;rfl));intro gb114 hg w8 hbox hb;have n0_ := Aside0.mk (below_step (by repeat (first | (with_reducible first | exact HB.out | apply below_alloc | apply pw_below_drewN | apply below_drew1) | exact HB.out)) hb);have n1_ := Aside0.mk (hbox);have n2_ := Aside0.mk ((by rw [hg];exact (below_size (by repeat (first | (with_reducible first | exact HB.out | apply below_alloc | apply pw_below_drewN | apply below_drew1) | exact HB.out))) : w.heap.size ≤ gb114));have n3_ := Aside0.mk ((by rw [hg];exact (below_size (by repeat (first | (with_reducible first | exact HB.out | apply below_alloc | apply pw_below_drewN | apply below_drew1) | exact HB.out))) : w.heap.size ≤ gb114));clear HB;have HB := n0_;have BK114 := n1_;have GW114 := n2_;have GE114 := n3_;clear n0_ n1_ n2_ n3_;clear hb hbox hg;have hcz9_0 : w8.cell? ⟨gb114,0,none⟩ = some (.int .i64 0) := (blk_cell BK114.out 0).trans rfl;have hcz9_1 : w8.cell? ⟨gb114,1,none⟩ = some (.bool false) := (blk_cell BK114.out 1).trans rfl;have hcz9_2 : w8.cell? ⟨gb114,2,none⟩ = some (.int .i64 0) := (blk_cell BK114.out 2).trans rfl;have hcz9_3 : w8.cell? ⟨gb114,3,none⟩ = some (.string (⟨#[]⟩ : ByteArray)) := (blk_cell BK114.out 3).trans rfl;have hfz9_0 := blk_frozen BK114.out 0;have hfz9_1 := blk_frozen BK114.out 1;have hfz9_2 := blk_frozen BK114.out 2;have hfz9_3 := blk_frozen BK114.out 3))
              go_ret
              exact ⟨by first | rfl | (simp [errW_none,errW_some] <;> rfl) | (simp [*,errW_none,errW_some] <;> rfl),by repeat (first | (with_reducible first | exact HB.out | apply below_alloc | apply pw_below_drewN | apply below_drew1 | refine below_set ?_ GE114.out) | exact HB.out)⟩
            · rw [if_neg c7] at H
              have c7b0 : decide ((l1.length : Int) ≤ x13_1) = false := decide_eq_false c7
              clear c7
              by_cases c10 : x13_1 < (l1.length : Int)
              · rw [if_pos c10] at H
                have c10b0 : decide (x13_1 < (l1.length : Int)) = true := decide_eq_true c10
                clear c10
                replace H := Option.bind_eq_some_iff.mp H
                obtain ⟨t117,A110,H⟩ := H
                replace H : (if t117 = 0 then (slices_CompareFunc.l0 k1 l0 l1 l0 (l0.length : Int) (wrap64 (x13_1 + 1))) else (some t117)) = some r := H
                have A11 := Aside0.mk A110
                clear A110
                by_cases c12 : t117 = 0
                · rw [if_pos c12] at H
                  have c12b0 : (t117 == 0) = true := beq_iff_eq.mpr c12
                  have c12b1 : (t117 != 0) = false := bne_eq_false_iff_eq.mpr c12
                  clear c12
                  have H' := Aside0.mk H
                  clear H
                  have p113 : 0 ≤ (x13_1 : Int) := of_decide_eq_true (by first | (with_reducible assumption) | assumption)
                  have q113 : x13_1 < (l0.length : Int) := of_decide_eq_true (by first | (with_reducible assumption) | assumption)
                  obtain ⟨ad113,e113,hx113_0,hx113_1,hx113_2,hx113_3⟩ := at_T149 HR0.out x13_1 p113 q113
                  cases e113
                  replace hx113_0 := (HB.out.cell (World.block_lt_of_cell? w _ hx113_0)).trans hx113_0
                  replace hx113_1 := (HB.out.cell (World.block_lt_of_cell? w _ hx113_1)).trans hx113_1
                  replace hx113_2 := (HB.out.cell (World.block_lt_of_cell? w _ hx113_2)).trans hx113_2
                  replace hx113_3 := (HB.out.cell (World.block_lt_of_cell? w _ hx113_3)).trans hx113_3
                  replace p113 := eq_true p113
                  replace q113 := eq_true q113
                  go_wp2_with (first | ((with_reducible refine gate_dst (N := 8) rfl ?_);refine box_event ?hg (N := 8) ?hd (cs := #[.int .i64 0,.bool false,.int .i64 0,.string (⟨#[]⟩ : ByteArray)]) (t := 149) ?hr ?_;(case hd => rfl);(case hg => rfl);(case hr => first | (go_simp;done) | (go_simp;rfl));intro gb114 hg w13 hbox hb;have n0_ := Aside0.mk (below_step (by repeat (first | (with_reducible first | exact HB.out | apply below_alloc | apply pw_below_drewN | apply below_drew1) | exact HB.out)) hb);have n1_ := Aside0.mk (hbox);have n2_ := Aside0.mk ((by rw [hg];exact (below_size (by repeat (first | (with_reducible first | exact HB.out | apply below_alloc | apply pw_below_drewN | apply below_drew1) | exact HB.out))) : w.heap.size ≤ gb114));have n3_ := Aside0.mk ((by rw [hg];exact (below_size (by repeat (first | (with_reducible first | exact HB.out | apply below_alloc | apply pw_below_drewN | apply below_drew1) | exact HB.out))) : w.heap.size ≤ gb114));clear HB;have HB := n0_;have BK114 := n1_;have GW114 := n2_;have GE114 := n3_;clear n0_ n1_ n2_ n3_;clear hb hbox hg;have hcz14_0 : w13.cell? ⟨gb114,0,none⟩ = some (.int .i64 0) := (blk_cell BK114.out 0).trans rfl;have hcz14_1 : w13.cell? ⟨gb114,1,none⟩ = some (.bool false) := (blk_cell BK114.out 1).trans rfl;have hcz14_2 : w13.cell? ⟨gb114,2,none⟩ = some (.int .i64 0) := (blk_cell BK114.out 2).trans rfl;have hcz14_3 : w13.cell? ⟨gb114,3,none⟩ = some (.string (⟨#[]⟩ : ByteArray)) := (blk_cell BK114.out 3).trans rfl;have hfz14_0 := blk_frozen BK114.out 0;have hfz14_1 := blk_frozen BK114.out 1;have hfz14_2 := blk_frozen BK114.out 2;have hfz14_3 := blk_frozen BK114.out 3;have p115 : 0 ≤ (x13_1 : Int) := of_decide_eq_true (by first | (with_reducible assumption) | assumption);have q115 : x13_1 < (l1.length : Int) := of_decide_eq_true (by first | (with_reducible assumption) | assumption);obtain ⟨ad115,e115,hx115_0,hx115_1,hx115_2,hx115_3⟩ := at_T149 HR1.out x13_1 p115 q115;cases e115;have hn115_0 : ad115.block ≠ gb114 := Nat.ne_of_lt (Nat.lt_of_lt_of_le (by have := World.block_lt_of_cell? _ _ hx115_0;first | rwa [add_block] at this | exact this) GW114.out);have hn115_1 : ad115.block ≠ gb114 := Nat.ne_of_lt (Nat.lt_of_lt_of_le (by have := World.block_lt_of_cell? _ _ hx115_0;first | rwa [add_block] at this | exact this) GW114.out);have hn115_2 : ad115.block ≠ gb114 := Nat.ne_of_lt (Nat.lt_of_lt_of_le (by have := World.block_lt_of_cell? _ _ hx115_0;first | rwa [add_block] at this | exact this) GW114.out);have hn115_3 : ad115.block ≠ gb114 := Nat.ne_of_lt (Nat.lt_of_lt_of_le (by have := World.block_lt_of_cell? _ _ hx115_0;first | rwa [add_block] at this | exact this) GW114.out);replace hx115_0 := (HB.out.cell (World.block_lt_of_cell? w _ hx115_0)).trans hx115_0;replace hx115_1 := (HB.out.cell (World.block_lt_of_cell? w _ hx115_1)).trans hx115_1;replace hx115_2 := (HB.out.cell (World.block_lt_of_cell? w _ hx115_2)).trans hx115_2;replace hx115_3 := (HB.out.cell (World.block_lt_of_cell? w _ hx115_3)).trans hx115_3;replace hx115_0 := (cell_far (p := ⟨gb114,0,none⟩) (by first | (rw [add_block];exact hn115_0) | (show (Addr.add _ _).block ≠ _;rw [add_block];exact hn115_0) | exact hn115_0) (.int .i64 ((rd_T149 l0 x13_1).f0))).trans hx115_0;replace hx115_1 := (cell_far (p := ⟨gb114,0,none⟩) (by first | (rw [add_block];exact hn115_0) | (show (Addr.add _ _).block ≠ _;rw [add_block];exact hn115_0) | exact hn115_0) (.int .i64 ((rd_T149 l0 x13_1).f0))).trans hx115_1;replace hx115_2 := (cell_far (p := ⟨gb114,0,none⟩) (by first | (rw [add_block];exact hn115_0) | (show (Addr.add _ _).block ≠ _;rw [add_block];exact hn115_0) | exact hn115_0) (.int .i64 ((rd_T149 l0 x13_1).f0))).trans hx115_2;replace hx115_3 := (cell_far (p := ⟨gb114,0,none⟩) (by first | (rw [add_block];exact hn115_0) | (show (Addr.add _ _).block ≠ _;rw [add_block];exact hn115_0) | exact hn115_0) (.int .i64 ((rd_T149 l0 x13_1).f0))).trans hx115_3;replace hx115_0 := (cell_far (p := ⟨gb114,1,none⟩) (by first | (rw [add_block];exact hn115_1) | (show (Addr.add _ _).block ≠ _;rw [add_block];exact hn115_1) | exact hn115_1) (.bool ((rd_T149 l0 x13_1).f1))).trans hx115_0;replace hx115_1 := (cell_far (p := ⟨gb114,1,none⟩) (by first | (rw [add_block];exact hn115_1) | (show (Addr.add _ _).block ≠ _;rw [add_block];exact hn115_1) | exact hn115_1) (.bool ((rd_T149 l0 x13_1).f1))).trans hx115_1;replace hx115_2 := (cell_far (p := ⟨gb114,1,none⟩) (by first | (rw [add_block];exact hn115_1) | (show (Addr.add _ _).block ≠ _;rw [add_block];exact hn115_1) | exact hn115_1) (.bool ((rd_T149 l0 x13_1).f1))).trans hx115_2;replace hx115_3 := (cell_far (p := ⟨gb114,1,none⟩) (by first | (rw [add_block];exact hn115_1) | (show (Addr.add _ _).block ≠ _;rw [add_block];exact hn115_1) | exact hn115_1) (.bool ((rd_T149 l0 x13_1).f1))).trans hx115_3;replace hx115_0 := (cell_far (p := ⟨gb114,2,none⟩) (by first | (rw [add_block];exact hn115_2) | (show (Addr.add _ _).block ≠ _;rw [add_block];exact hn115_2) | exact hn115_2) (.int .i64 ((rd_T149 l0 x13_1).f2))).trans hx115_0;replace hx115_1 := (cell_far (p := ⟨gb114,2,none⟩) (by first | (rw [add_block];exact hn115_2) | (show (Addr.add _ _).block ≠ _;rw [add_block];exact hn115_2) | exact hn115_2) (.int .i64 ((rd_T149 l0 x13_1).f2))).trans hx115_1;replace hx115_2 := (cell_far (p := ⟨gb114,2,none⟩) (by first | (rw [add_block];exact hn115_2) | (show (Addr.add _ _).block ≠ _;rw [add_block];exact hn115_2) | exact hn115_2) (.int .i64 ((rd_T149 l0 x13_1).f2))).trans hx115_2;replace hx115_3 := (cell_far (p := ⟨gb114,2,none⟩) (by first | (rw [add_block];exact hn115_2) | (show (Addr.add _ _).block ≠ _;rw [add_block];exact hn115_2) | exact hn115_2) (.int .i64 ((rd_T149 l0 x13_1).f2))).trans hx115_3;replace hx115_0 := (cell_far (p := ⟨gb114,3,none⟩) (by first | (rw [add_block];exact hn115_3) | (show (Addr.add _ _).block ≠ _;rw [add_block];exact hn115_3) | exact hn115_3) (.string ((rd_T149 l0 x13_1).f3))).trans hx115_0;replace hx115_1 := (cell_far (p := ⟨gb114,3,none⟩) (by first | (rw [add_block];exact hn115_3) | (show (Addr.add _ _).block ≠ _;rw [add_block];exact hn115_3) | exact hn115_3) (.string ((rd_T149 l0 x13_1).f3))).trans hx115_1;replace hx115_2 := (cell_far (p := ⟨gb114,3,none⟩) (by first | (rw [add_block];exact hn115_3) | (show (Addr.add _ _).block ≠ _;rw [add_block];exact hn115_3) | exact hn115_3) (.string ((rd_T149 l0 x13_1).f3))).trans hx115_2;replace hx115_3 := (cell_far (p := ⟨gb114,3,none⟩) (by first | (rw [add_block];exact hn115_3) | (show (Addr.add _ _).block ≠ _;rw [add_block];exact hn115_3) | exact hn115_3) (.string ((rd_T149 l0 x13_1).f3))).trans hx115_3;clear hn115_0;clear hn115_1;clear hn115_2;clear hn115_3;replace p115 := eq_true p115;replace q115 := eq_true q115) | ((with_reducible refine gate_dst (N := 9) rfl ?_);refine box_event ?hg (N := 9) ?hd (cs := #[.int .i64 0,.bool false,.int .i64 0,.string (⟨#[]⟩ : ByteArray)]) (t := 149) ?hr ?_;(case hd => rfl);(case hg => rfl);(case hr => first | (go_simp;done) | (go_simp;rfl));intro gb116 hg w15 hbox hb;have n0_ := Aside0.mk (blk_below (g := gb114) (o := .cells #[.int .i64 ((rd_T149 l0 x13_1).f0),.bool ((rd_T149 l0 x13_1).f1),.int .i64 ((rd_T149 l0 x13_1).f2),.string ((rd_T149 l0 x13_1).f3)] 149 (0,0)) (by (with_reducible repeat (first | refine blk_drewN ?_ _ | refine blk_drew ?_ | refine blk_alloc ?_ _));refine blk_put (cs := #[.int .i64 ((rd_T149 l0 x13_1).f0),.bool ((rd_T149 l0 x13_1).f1),.int .i64 ((rd_T149 l0 x13_1).f2),.string (⟨#[]⟩ : ByteArray)]) ?_ 3 _ rfl;(with_reducible repeat (first | refine blk_drewN ?_ _ | refine blk_drew ?_ | refine blk_alloc ?_ _));refine blk_put (cs := #[.int .i64 ((rd_T149 l0 x13_1).f0),.bool ((rd_T149 l0 x13_1).f1),.int .i64 0,.string (⟨#[]⟩ : ByteArray)]) ?_ 2 _ rfl;(with_reducible repeat (first | refine blk_drewN ?_ _ | refine blk_drew ?_ | refine blk_alloc ?_ _));refine blk_put (cs := #[.int .i64 ((rd_T149 l0 x13_1).f0),.bool false,.int .i64 0,.string (⟨#[]⟩ : ByteArray)]) ?_ 1 _ rfl;(with_reducible repeat (first | refine blk_drewN ?_ _ | refine blk_drew ?_ | refine blk_alloc ?_ _));refine blk_put (cs := #[.int .i64 0,.bool false,.int .i64 0,.string (⟨#[]⟩ : ByteArray)]) ?_ 0 _ rfl;(with_reducible repeat (first | refine blk_drewN ?_ _ | refine blk_drew ?_ | refine blk_alloc ?_ _));exact BK114.out) hb);have n1_ := Aside0.mk (below_step (by repeat (first | (with_reducible first | exact HB.out | apply below_alloc | apply pw_below_drewN | apply below_drew1 | refine below_set ?_ GE114.out) | exact HB.out)) hb);have n2_ := Aside0.mk (hbox);have n3_ := Aside0.mk ((by rw [hg];exact (below_size (by repeat (first | (with_reducible first | exact HB.out | apply below_alloc | apply pw_below_drewN | apply below_drew1 | refine below_set ?_ GE114.out) | exact HB.out))) : w.heap.size ≤ gb116));have n4_ := Aside0.mk ((by rw [hg];exact (below_size (by repeat (first | (with_reducible first | exact HB.out | apply below_alloc | apply pw_below_drewN | apply below_drew1 | refine below_set ?_ GE114.out) | exact HB.out))) : w.heap.size ≤ gb116));have n5_ := Aside0.mk ((by rw [hg];exact Nat.ne_of_lt (blk_lt (g := gb114) (o := .cells #[.int .i64 ((rd_T149 l0 x13_1).f0),.bool ((rd_T149 l0 x13_1).f1),.int .i64 ((rd_T149 l0 x13_1).f2),.string ((rd_T149 l0 x13_1).f3)] 149 (0,0)) (by (with_reducible repeat (first | refine blk_drewN ?_ _ | refine blk_drew ?_ | refine blk_alloc ?_ _));refine blk_put (cs := #[.int .i64 ((rd_T149 l0 x13_1).f0),.bool ((rd_T149 l0 x13_1).f1),.int .i64 ((rd_T149 l0 x13_1).f2),.string (⟨#[]⟩ : ByteArray)]) ?_ 3 _ rfl;(with_reducible repeat (first | refine blk_drewN ?_ _ | refine blk_drew ?_ | refine blk_alloc ?_ _));refine blk_put (cs := #[.int .i64 ((rd_T149 l0 x13_1).f0),.bool ((rd_T149 l0 x13_1).f1),.int .i64 0,.string (⟨#[]⟩ : ByteArray)]) ?_ 2 _ rfl;(with_reducible repeat (first | refine blk_drewN ?_ _ | refine blk_drew ?_ | refine blk_alloc ?_ _));refine blk_put (cs := #[.int .i64 ((rd_T149 l0 x13_1).f0),.bool false,.int .i64 0,.string (⟨#[]⟩ : ByteArray)]) ?_ 1 _ rfl;(with_reducible repeat (first | refine blk_drewN ?_ _ | refine blk_drew ?_ | refine blk_alloc ?_ _));refine blk_put (cs := #[.int .i64 0,.bool false,.int .i64 0,.string (⟨#[]⟩ : ByteArray)]) ?_ 0 _ rfl;(with_reducible repeat (first | refine blk_drewN ?_ _ | refine blk_drew ?_ | refine blk_alloc ?_ _));exact BK114.out)) : gb114 ≠ gb116));have n6_ := Aside0.mk ((by rw [hg];exact Nat.ne_of_gt (blk_lt (g := gb114) (o := .cells #[.int .i64 ((rd_T149 l0 x13_1).f0),.bool ((rd_T149 l0 x13_1).f1),.int .i64 ((rd_T149 l0 x13_1).f2),.string ((rd_T149 l0 x13_1).f3)] 149 (0,0)) (by (with_reducible repeat (first | refine blk_drewN ?_ _ | refine blk_drew ?_ | refine blk_alloc ?_ _));refine blk_put (cs := #[.int .i64 ((rd_T149 l0 x13_1).f0),.bool ((rd_T149 l0 x13_1).f1),.int .i64 ((rd_T149 l0 x13_1).f2),.string (⟨#[]⟩ : ByteArray)]) ?_ 3 _ rfl;(with_reducible repeat (first | refine blk_drewN ?_ _ | refine blk_drew ?_ | refine blk_alloc ?_ _));refine blk_put (cs := #[.int .i64 ((rd_T149 l0 x13_1).f0),.bool ((rd_T149 l0 x13_1).f1),.int .i64 0,.string (⟨#[]⟩ : ByteArray)]) ?_ 2 _ rfl;(with_reducible repeat (first | refine blk_drewN ?_ _ | refine blk_drew ?_ | refine blk_alloc ?_ _));refine blk_put (cs := #[.int .i64 ((rd_T149 l0 x13_1).f0),.bool false,.int .i64 0,.string (⟨#[]⟩ : ByteArray)]) ?_ 1 _ rfl;(with_reducible repeat (first | refine blk_drewN ?_ _ | refine blk_drew ?_ | refine blk_alloc ?_ _));refine blk_put (cs := #[.int .i64 0,.bool false,.int .i64 0,.string (⟨#[]⟩ : ByteArray)]) ?_ 0 _ rfl;(with_reducible repeat (first | refine blk_drewN ?_ _ | refine blk_drew ?_ | refine blk_alloc ?_ _));exact BK114.out)) : gb116 ≠ gb114));clear BK114;clear HB;have BK114 := n0_;have HB := n1_;have BK116 := n2_;have GW116 := n3_;have GE116 := n4_;have NB114_116 := n5_;have NB116_114 := n6_;clear n0_ n1_ n2_ n3_ n4_ n5_ n6_;clear hb hbox hg;have hnb16 := NB116_114.out;have hnc16 := NB114_116.out;have hcz17_0 : w15.cell? ⟨gb116,0,none⟩ = some (.int .i64 0) := (blk_cell BK116.out 0).trans rfl;have hcz17_1 : w15.cell? ⟨gb116,1,none⟩ = some (.bool false) := (blk_cell BK116.out 1).trans rfl;have hcz17_2 : w15.cell? ⟨gb116,2,none⟩ = some (.int .i64 0) := (blk_cell BK116.out 2).trans rfl;have hcz17_3 : w15.cell? ⟨gb116,3,none⟩ = some (.string (⟨#[]⟩ : ByteArray)) := (blk_cell BK116.out 3).trans rfl;have hfz17_0 := blk_frozen BK116.out 0;have hfz17_1 := blk_frozen BK116.out 1;have hfz17_2 := blk_frozen BK116.out 2;have hfz17_3 := blk_frozen BK116.out 3;have hcz18_0 : w15.cell? ⟨gb114,0,none⟩ = some (.int .i64 ((rd_T149 l0 x13_1).f0)) := (blk_cell BK114.out 0).trans rfl;have hcz18_1 : w15.cell? ⟨gb114,1,none⟩ = some (.bool ((rd_T149 l0 x13_1).f1)) := (blk_cell BK114.out 1).trans rfl;have hcz18_2 : w15.cell? ⟨gb114,2,none⟩ = some (.int .i64 ((rd_T149 l0 x13_1).f2)) := (blk_cell BK114.out 2).trans rfl;have hcz18_3 : w15.cell? ⟨gb114,3,none⟩ = some (.string ((rd_T149 l0 x13_1).f3)) := (blk_cell BK114.out 3).trans rfl;have hfz18_0 := blk_frozen BK114.out 0;have hfz18_1 := blk_frozen BK114.out 1;have hfz18_2 := blk_frozen BK114.out 2;have hfz18_3 := blk_frozen BK114.out 3) | ((with_reducible refine gate_tmp (n := 26) rfl ?_);refine goesT_ (some 29) rfl rfl Try.func134 (by kernel_rfl) rfl #[.agg #[.int .i64 ((rd_T149 l0 x13_1).f0),.bool ((rd_T149 l0 x13_1).f1),.int .i64 ((rd_T149 l0 x13_1).f2),.string ((rd_T149 l0 x13_1).f3)],.agg #[.int .i64 ((rd_T149 l1 x13_1).f0),.bool ((rd_T149 l1 x13_1).f1),.int .i64 ((rd_T149 l1 x13_1).f2),.string ((rd_T149 l1 x13_1).f3)]] rfl rfl (by (try simp only [List.map_toArray,List.map_cons,List.map_nil]);first | done | rfl | (simp only [List.length_drop,List.length_take];rfl)) ?_;(with_reducible refine (value_Compare.calls ((rd_T149 l0 x13_1).f0) ((rd_T149 l0 x13_1).f1) ((rd_T149 l0 x13_1).f2) ((rd_T149 l0 x13_1).f3) ((rd_T149 l1 x13_1).f0) ((rd_T149 l1 x13_1).f1) ((rd_T149 l1 x13_1).f2) ((rd_T149 l1 x13_1).f3) t117 _ A11.out).mono ?_);rintro e w19 ⟨rfl,hb⟩;refine ⟨_,rfl,?_⟩;have n0_ := Aside0.mk (blk_below (g := gb114) (o := .cells #[.int .i64 ((rd_T149 l0 x13_1).f0),.bool ((rd_T149 l0 x13_1).f1),.int .i64 ((rd_T149 l0 x13_1).f2),.string ((rd_T149 l0 x13_1).f3)] 149 (0,0)) (by (with_reducible repeat (first | refine blk_drewN ?_ _ | refine blk_drew ?_ | refine blk_alloc ?_ _));refine blk_far ?_ NB114_116.out _;(with_reducible repeat (first | refine blk_drewN ?_ _ | refine blk_drew ?_ | refine blk_alloc ?_ _));refine blk_far ?_ NB114_116.out _;(with_reducible repeat (first | refine blk_drewN ?_ _ | refine blk_drew ?_ | refine blk_alloc ?_ _));refine blk_far ?_ NB114_116.out _;(with_reducible repeat (first | refine blk_drewN ?_ _ | refine blk_drew ?_ | refine blk_alloc ?_ _));refine blk_far ?_ NB114_116.out _;(with_reducible repeat (first | refine blk_drewN ?_ _ | refine blk_drew ?_ | refine blk_alloc ?_ _));exact BK114.out) hb);have n1_ := Aside0.mk (blk_below (g := gb116) (o := .cells #[.int .i64 ((rd_T149 l1 x13_1).f0),.bool ((rd_T149 l1 x13_1).f1),.int .i64 ((rd_T149 l1 x13_1).f2),.string ((rd_T149 l1 x13_1).f3)] 149 (0,0)) (by (with_reducible repeat (first | refine blk_drewN ?_ _ | refine blk_drew ?_ | refine blk_alloc ?_ _));refine blk_put (cs := #[.int .i64 ((rd_T149 l1 x13_1).f0),.bool ((rd_T149 l1 x13_1).f1),.int .i64 ((rd_T149 l1 x13_1).f2),.string (⟨#[]⟩ : ByteArray)]) ?_ 3 _ rfl;(with_reducible repeat (first | refine blk_drewN ?_ _ | refine blk_drew ?_ | refine blk_alloc ?_ _));refine blk_put (cs := #[.int .i64 ((rd_T149 l1 x13_1).f0),.bool ((rd_T149 l1 x13_1).f1),.int .i64 0,.string (⟨#[]⟩ : ByteArray)]) ?_ 2 _ rfl;(with_reducible repeat (first | refine blk_drewN ?_ _ | refine blk_drew ?_ | refine blk_alloc ?_ _));refine blk_put (cs := #[.int .i64 ((rd_T149 l1 x13_1).f0),.bool false,.int .i64 0,.string (⟨#[]⟩ : ByteArray)]) ?_ 1 _ rfl;(with_reducible repeat (first | refine blk_drewN ?_ _ | refine blk_drew ?_ | refine blk_alloc ?_ _));refine blk_put (cs := #[.int .i64 0,.bool false,.int .i64 0,.string (⟨#[]⟩ : ByteArray)]) ?_ 0 _ rfl;(with_reducible repeat (first | refine blk_drewN ?_ _ | refine blk_drew ?_ | refine blk_alloc ?_ _));exact BK116.out) hb);have n2_ := Aside0.mk (below_step (by repeat (first | (with_reducible first | exact HB.out | apply below_alloc | apply pw_below_drewN | apply below_drew1 | refine below_set ?_ GE114.out | refine below_set ?_ GE116.out) | exact HB.out)) hb);clear BK114;clear BK116;clear HB;have BK114 := n0_;have BK116 := n1_;have HB := n2_;clear n0_ n1_ n2_;(try clear hb);(try clear hb2);(try clear hk);(try clear hi)))
                  go_roundg k1
                  case measure => have := HK1.out;omega
                  case rel => exact ⟨(wrap64 (x13_1 + 1)),(by first | rfl | (simp;done) | (simp [*];done)),H',⟨by have := HK1.out;omega⟩,⟨by repeat (first | (with_reducible first | exact HB.out | apply below_alloc | apply pw_below_drewN | apply below_drew1 | refine below_set ?_ GE114.out | refine below_set ?_ GE116.out) | exact HB.out)⟩⟩
                · rw [if_neg c12] at H
                  have c12b0 : (t117 == 0) = false := beq_eq_false_iff_ne.mpr c12
                  have c12b1 : (t117 != 0) = true := bne_iff_ne.mpr c12
                  obtain rfl := Option.some.inj H
                  have p113 : 0 ≤ (x13_1 : Int) := of_decide_eq_true (by first | (with_reducible assumption) | assumption)
                  have q113 : x13_1 < (l0.length : Int) := of_decide_eq_true (by first | (with_reducible assumption) | assumption)
                  obtain ⟨ad113,e113,hx113_0,hx113_1,hx113_2,hx113_3⟩ := at_T149 HR0.out x13_1 p113 q113
                  cases e113
                  replace hx113_0 := (HB.out.cell (World.block_lt_of_cell? w _ hx113_0)).trans hx113_0
                  replace hx113_1 := (HB.out.cell (World.block_lt_of_cell? w _ hx113_1)).trans hx113_1
                  replace hx113_2 := (HB.out.cell (World.block_lt_of_cell? w _ hx113_2)).trans hx113_2
                  replace hx113_3 := (HB.out.cell (World.block_lt_of_cell? w _ hx113_3)).trans hx113_3
                  replace p113 := eq_true p113
                  replace q113 := eq_true q113
                  go_wp2_with (first | ((with_reducible refine gate_dst (N := 8) rfl ?_);refine box_event ?hg (N := 8) ?hd (cs := #[.int .i64 0,.bool false,.int .i64 0,.string (⟨#[]⟩ : ByteArray)]) (t := 149) ?hr ?_;(case hd => rfl);(case hg => rfl);(case hr => first | (go_simp;done) | (go_simp;rfl));intro gb114 hg w20 hbox hb;have n0_ := Aside0.mk (below_step (by repeat (first | (with_reducible first | exact HB.out | apply below_alloc | apply pw_below_drewN | apply below_drew1) | exact HB.out)) hb);have n1_ := Aside0.mk (hbox);have n2_ := Aside0.mk ((by rw [hg];exact (below_size (by repeat (first | (with_reducible first | exact HB.out | apply below_alloc | apply pw_below_drewN | apply below_drew1) | exact HB.out))) : w.heap.size ≤ gb114));have n3_ := Aside0.mk ((by rw [hg];exact (below_size (by repeat (first | (with_reducible first | exact HB.out | apply below_alloc | apply pw_below_drewN | apply below_drew1) | exact HB.out))) : w.heap.size ≤ gb114));clear HB;have HB := n0_;have BK114 := n1_;have GW114 := n2_;have GE114 := n3_;clear n0_ n1_ n2_ n3_;clear hb hbox hg;have hcz21_0 : w20.cell? ⟨gb114,0,none⟩ = some (.int .i64 0) := (blk_cell BK114.out 0).trans rfl;have hcz21_1 : w20.cell? ⟨gb114,1,none⟩ = some (.bool false) := (blk_cell BK114.out 1).trans rfl;have hcz21_2 : w20.cell? ⟨gb114,2,none⟩ = some (.int .i64 0) := (blk_cell BK114.out 2).trans rfl;have hcz21_3 : w20.cell? ⟨gb114,3,none⟩ = some (.string (⟨#[]⟩ : ByteArray)) := (blk_cell BK114.out 3).trans rfl;have hfz21_0 := blk_frozen BK114.out 0;have hfz21_1 := blk_frozen BK114.out 1;have hfz21_2 := blk_frozen BK114.out 2;have hfz21_3 := blk_frozen BK114.out 3;have p115 : 0 ≤ (x13_1 : Int) := of_decide_eq_true (by first | (with_reducible assumption) | assumption);have q115 : x13_1 < (l1.length : Int) := of_decide_eq_true (by first | (with_reducible assumption) | assumption);obtain ⟨ad115,e115,hx115_0,hx115_1,hx115_2,hx115_3⟩ := at_T149 HR1.out x13_1 p115 q115;cases e115;have hn115_0 : ad115.block ≠ gb114 := Nat.ne_of_lt (Nat.lt_of_lt_of_le (by have := World.block_lt_of_cell? _ _ hx115_0;first | rwa [add_block] at this | exact this) GW114.out);have hn115_1 : ad115.block ≠ gb114 := Nat.ne_of_lt (Nat.lt_of_lt_of_le (by have := World.block_lt_of_cell? _ _ hx115_0;first | rwa [add_block] at this | exact this) GW114.out);have hn115_2 : ad115.block ≠ gb114 := Nat.ne_of_lt (Nat.lt_of_lt_of_le (by have := World.block_lt_of_cell? _ _ hx115_0;first | rwa [add_block] at this | exact this) GW114.out);have hn115_3 : ad115.block ≠ gb114 := Nat.ne_of_lt (Nat.lt_of_lt_of_le (by have := World.block_lt_of_cell? _ _ hx115_0;first | rwa [add_block] at this | exact this) GW114.out);replace hx115_0 := (HB.out.cell (World.block_lt_of_cell? w _ hx115_0)).trans hx115_0;replace hx115_1 := (HB.out.cell (World.block_lt_of_cell? w _ hx115_1)).trans hx115_1;replace hx115_2 := (HB.out.cell (World.block_lt_of_cell? w _ hx115_2)).trans hx115_2;replace hx115_3 := (HB.out.cell (World.block_lt_of_cell? w _ hx115_3)).trans hx115_3;replace hx115_0 := (cell_far (p := ⟨gb114,0,none⟩) (by first | (rw [add_block];exact hn115_0) | (show (Addr.add _ _).block ≠ _;rw [add_block];exact hn115_0) | exact hn115_0) (.int .i64 ((rd_T149 l0 x13_1).f0))).trans hx115_0;replace hx115_1 := (cell_far (p := ⟨gb114,0,none⟩) (by first | (rw [add_block];exact hn115_0) | (show (Addr.add _ _).block ≠ _;rw [add_block];exact hn115_0) | exact hn115_0) (.int .i64 ((rd_T149 l0 x13_1).f0))).trans hx115_1;replace hx115_2 := (cell_far (p := ⟨gb114,0,none⟩) (by first | (rw [add_block];exact hn115_0) | (show (Addr.add _ _).block ≠ _;rw [add_block];exact hn115_0) | exact hn115_0) (.int .i64 ((rd_T149 l0 x13_1).f0))).trans hx115_2;replace hx115_3 := (cell_far (p := ⟨gb114,0,none⟩) (by first | (rw [add_block];exact hn115_0) | (show (Addr.add _ _).block ≠ _;rw [add_block];exact hn115_0) | exact hn115_0) (.int .i64 ((rd_T149 l0 x13_1).f0))).trans hx115_3;replace hx115_0 := (cell_far (p := ⟨gb114,1,none⟩) (by first | (rw [add_block];exact hn115_1) | (show (Addr.add _ _).block ≠ _;rw [add_block];exact hn115_1) | exact hn115_1) (.bool ((rd_T149 l0 x13_1).f1))).trans hx115_0;replace hx115_1 := (cell_far (p := ⟨gb114,1,none⟩) (by first | (rw [add_block];exact hn115_1) | (show (Addr.add _ _).block ≠ _;rw [add_block];exact hn115_1) | exact hn115_1) (.bool ((rd_T149 l0 x13_1).f1))).trans hx115_1;replace hx115_2 := (cell_far (p := ⟨gb114,1,none⟩) (by first | (rw [add_block];exact hn115_1) | (show (Addr.add _ _).block ≠ _;rw [add_block];exact hn115_1) | exact hn115_1) (.bool ((rd_T149 l0 x13_1).f1))).trans hx115_2;replace hx115_3 := (cell_far (p := ⟨gb114,1,none⟩) (by first | (rw [add_block];exact hn115_1) | (show (Addr.add _ _).block ≠ _;rw [add_block];exact hn115_1) | exact hn115_1) (.bool ((rd_T149 l0 x13_1).f1))).trans hx115_3;replace hx115_0 := (cell_far (p := ⟨gb114,2,none⟩) (by first | (rw [add_block];exact hn115_2) | (show (Addr.add _ _).block ≠ _;rw [add_block];exact hn115_2) | exact hn115_2) (.int .i64 ((rd_T149 l0 x13_1).f2))).trans hx115_0;replace hx115_1 := (cell_far (p := ⟨gb114,2,none⟩) (by first | (rw [add_block];exact hn115_2) | (show (Addr.add _ _).block ≠ _;rw [add_block];exact hn115_2) | exact hn115_2) (.int .i64 ((rd_T149 l0 x13_1).f2))).trans hx115_1;replace hx115_2 := (cell_far (p := ⟨gb114,2,none⟩) (by first | (rw [add_block];exact hn115_2) | (show (Addr.add _ _).block ≠ _;rw [add_block];exact hn115_2) | exact hn115_2) (.int .i64 ((rd_T149 l0 x13_1).f2))).trans hx115_2;replace hx115_3 := (cell_far (p := ⟨gb114,2,none⟩) (by first | (rw [add_block];exact hn115_2) | (show (Addr.add _ _).block ≠ _;rw [add_block];exact hn115_2) | exact hn115_2) (.int .i64 ((rd_T149 l0 x13_1).f2))).trans hx115_3;replace hx115_0 := (cell_far (p := ⟨gb114,3,none⟩) (by first | (rw [add_block];exact hn115_3) | (show (Addr.add _ _).block ≠ _;rw [add_block];exact hn115_3) | exact hn115_3) (.string ((rd_T149 l0 x13_1).f3))).trans hx115_0;replace hx115_1 := (cell_far (p := ⟨gb114,3,none⟩) (by first | (rw [add_block];exact hn115_3) | (show (Addr.add _ _).block ≠ _;rw [add_block];exact hn115_3) | exact hn115_3) (.string ((rd_T149 l0 x13_1).f3))).trans hx115_1;replace hx115_2 := (cell_far (p := ⟨gb114,3,none⟩) (by first | (rw [add_block];exact hn115_3) | (show (Addr.add _ _).block ≠ _;rw [add_block];exact hn115_3) | exact hn115_3) (.string ((rd_T149 l0 x13_1).f3))).trans hx115_2;replace hx115_3 := (cell_far (p := ⟨gb114,3,none⟩) (by first | (rw [add_block];exact hn115_3) | (show (Addr.add _ _).block ≠ _;rw [add_block];exact hn115_3) | exact hn115_3) (.string ((rd_T149 l0 x13_1).f3))).trans hx115_3;clear hn115_0;clear hn115_1;clear hn115_2;clear hn115_3;replace p115 := eq_true p115;replace q115 := eq_true q115) | ((with_reducible refine gate_dst (N := 9) rfl ?_);refine box_event ?hg (N := 9) ?hd (cs := #[.int .i64 0,.bool false,.int .i64 0,.string (⟨#[]⟩ : ByteArray)]) (t := 149) ?hr ?_;(case hd => rfl);(case hg => rfl);(case hr => first | (go_simp;done) | (go_simp;rfl));intro gb116 hg w22 hbox hb;have n0_ := Aside0.mk (blk_below (g := gb114) (o := .cells #[.int .i64 ((rd_T149 l0 x13_1).f0),.bool ((rd_T149 l0 x13_1).f1),.int .i64 ((rd_T149 l0 x13_1).f2),.string ((rd_T149 l0 x13_1).f3)] 149 (0,0)) (by (with_reducible repeat (first | refine blk_drewN ?_ _ | refine blk_drew ?_ | refine blk_alloc ?_ _));refine blk_put (cs := #[.int .i64 ((rd_T149 l0 x13_1).f0),.bool ((rd_T149 l0 x13_1).f1),.int .i64 ((rd_T149 l0 x13_1).f2),.string (⟨#[]⟩ : ByteArray)]) ?_ 3 _ rfl;(with_reducible repeat (first | refine blk_drewN ?_ _ | refine blk_drew ?_ | refine blk_alloc ?_ _));refine blk_put (cs := #[.int .i64 ((rd_T149 l0 x13_1).f0),.bool ((rd_T149 l0 x13_1).f1),.int .i64 0,.string (⟨#[]⟩ : ByteArray)]) ?_ 2 _ rfl;(with_reducible repeat (first | refine blk_drewN ?_ _ | refine blk_drew ?_ | refine blk_alloc ?_ _));refine blk_put (cs := #[.int .i64 ((rd_T149 l0 x13_1).f0),.bool false,.int .i64 0,.string (⟨#[]⟩ : ByteArray)]) ?_ 1 _ rfl;(with_reducible repeat (first | refine blk_drewN ?_ _ | refine blk_drew ?_ | refine blk_alloc ?_ _));refine blk_put (cs := #[.int .i64 0,.bool false,.int .i64 0,.string (⟨#[]⟩ : ByteArray)]) ?_ 0 _ rfl;(with_reducible repeat (first | refine blk_drewN ?_ _ | refine blk_drew ?_ | refine blk_alloc ?_ _));exact BK114.out) hb);have n1_ := Aside0.mk (below_step (by repeat (first | (with_reducible first | exact HB.out | apply below_alloc | apply pw_below_drewN | apply below_drew1 | refine below_set ?_ GE114.out) | exact HB.out)) hb);have n2_ := Aside0.mk (hbox);have n3_ := Aside0.mk ((by rw [hg];exact (below_size (by repeat (first | (with_reducible first | exact HB.out | apply below_alloc | apply pw_below_drewN | apply below_drew1 | refine below_set ?_ GE114.out) | exact HB.out))) : w.heap.size ≤ gb116));have n4_ := Aside0.mk ((by rw [hg];exact (below_size (by repeat (first | (with_reducible first | exact HB.out | apply below_alloc | apply pw_below_drewN | apply below_drew1 | refine below_set ?_ GE114.out) | exact HB.out))) : w.heap.size ≤ gb116));have n5_ := Aside0.mk ((by rw [hg];exact Nat.ne_of_lt (blk_lt (g := gb114) (o := .cells #[.int .i64 ((rd_T149 l0 x13_1).f0),.bool ((rd_T149 l0 x13_1).f1),.int .i64 ((rd_T149 l0 x13_1).f2),.string ((rd_T149 l0 x13_1).f3)] 149 (0,0)) (by (with_reducible repeat (first | refine blk_drewN ?_ _ | refine blk_drew ?_ | refine blk_alloc ?_ _));refine blk_put (cs := #[.int .i64 ((rd_T149 l0 x13_1).f0),.bool ((rd_T149 l0 x13_1).f1),.int .i64 ((rd_T149 l0 x13_1).f2),.string (⟨#[]⟩ : ByteArray)]) ?_ 3 _ rfl;(with_reducible repeat (first | refine blk_drewN ?_ _ | refine blk_drew ?_ | refine blk_alloc ?_ _));refine blk_put (cs := #[.int .i64 ((rd_T149 l0 x13_1).f0),.bool ((rd_T149 l0 x13_1).f1),.int .i64 0,.string (⟨#[]⟩ : ByteArray)]) ?_ 2 _ rfl;(with_reducible repeat (first | refine blk_drewN ?_ _ | refine blk_drew ?_ | refine blk_alloc ?_ _));refine blk_put (cs := #[.int .i64 ((rd_T149 l0 x13_1).f0),.bool false,.int .i64 0,.string (⟨#[]⟩ : ByteArray)]) ?_ 1 _ rfl;(with_reducible repeat (first | refine blk_drewN ?_ _ | refine blk_drew ?_ | refine blk_alloc ?_ _));refine blk_put (cs := #[.int .i64 0,.bool false,.int .i64 0,.string (⟨#[]⟩ : ByteArray)]) ?_ 0 _ rfl;(with_reducible repeat (first | refine blk_drewN ?_ _ | refine blk_drew ?_ | refine blk_alloc ?_ _));exact BK114.out)) : gb114 ≠ gb116));have n6_ := Aside0.mk ((by rw [hg];exact Nat.ne_of_gt (blk_lt (g := gb114) (o := .cells #[.int .i64 ((rd_T149 l0 x13_1).f0),.bool ((rd_T149 l0 x13_1).f1),.int .i64 ((rd_T149 l0 x13_1).f2),.string ((rd_T149 l0 x13_1).f3)] 149 (0,0)) (by (with_reducible repeat (first | refine blk_drewN ?_ _ | refine blk_drew ?_ | refine blk_alloc ?_ _));refine blk_put (cs := #[.int .i64 ((rd_T149 l0 x13_1).f0),.bool ((rd_T149 l0 x13_1).f1),.int .i64 ((rd_T149 l0 x13_1).f2),.string (⟨#[]⟩ : ByteArray)]) ?_ 3 _ rfl;(with_reducible repeat (first | refine blk_drewN ?_ _ | refine blk_drew ?_ | refine blk_alloc ?_ _));refine blk_put (cs := #[.int .i64 ((rd_T149 l0 x13_1).f0),.bool ((rd_T149 l0 x13_1).f1),.int .i64 0,.string (⟨#[]⟩ : ByteArray)]) ?_ 2 _ rfl;(with_reducible repeat (first | refine blk_drewN ?_ _ | refine blk_drew ?_ | refine blk_alloc ?_ _));refine blk_put (cs := #[.int .i64 ((rd_T149 l0 x13_1).f0),.bool false,.int .i64 0,.string (⟨#[]⟩ : ByteArray)]) ?_ 1 _ rfl;(with_reducible repeat (first | refine blk_drewN ?_ _ | refine blk_drew ?_ | refine blk_alloc ?_ _));refine blk_put (cs := #[.int .i64 0,.bool false,.int .i64 0,.string (⟨#[]⟩ : ByteArray)]) ?_ 0 _ rfl;(with_reducible repeat (first | refine blk_drewN ?_ _ | refine blk_drew ?_ | refine blk_alloc ?_ _));exact BK114.out)) : gb116 ≠ gb114));clear BK114;clear HB;have BK114 := n0_;have HB := n1_;have BK116 := n2_;have GW116 := n3_;have GE116 := n4_;have NB114_116 := n5_;have NB116_114 := n6_;clear n0_ n1_ n2_ n3_ n4_ n5_ n6_;clear hb hbox hg;have hnb23 := NB116_114.out;have hnc23 := NB114_116.out;have hcz24_0 : w22.cell? ⟨gb116,0,none⟩ = some (.int .i64 0) := (blk_cell BK116.out 0).trans rfl;have hcz24_1 : w22.cell? ⟨gb116,1,none⟩ = some (.bool false) := (blk_cell BK116.out 1).trans rfl;have hcz24_2 : w22.cell? ⟨gb116,2,none⟩ = some (.int .i64 0) := (blk_cell BK116.out 2).trans rfl;have hcz24_3 : w22.cell? ⟨gb116,3,none⟩ = some (.string (⟨#[]⟩ : ByteArray)) := (blk_cell BK116.out 3).trans rfl;have hfz24_0 := blk_frozen BK116.out 0;have hfz24_1 := blk_frozen BK116.out 1;have hfz24_2 := blk_frozen BK116.out 2;have hfz24_3 := blk_frozen BK116.out 3;have hcz25_0 : w22.cell? ⟨gb114,0,none⟩ = some (.int .i64 ((rd_T149 l0 x13_1).f0)) := (blk_cell BK114.out 0).trans rfl;have hcz25_1 : w22.cell? ⟨gb114,1,none⟩ = some (.bool ((rd_T149 l0 x13_1).f1)) := (blk_cell BK114.out 1).trans rfl;have hcz25_2 : w22.cell? ⟨gb114,2,none⟩ = some (.int .i64 ((rd_T149 l0 x13_1).f2)) := (blk_cell BK114.out 2).trans rfl;have hcz25_3 : w22.cell? ⟨gb114,3,none⟩ = some (.string ((rd_T149 l0 x13_1).f3)) := (blk_cell BK114.out 3).trans rfl;have hfz25_0 := blk_frozen BK114.out 0;have hfz25_1 := blk_frozen BK114.out 1;have hfz25_2 := blk_frozen BK114.out 2;have hfz25_3 := blk_frozen BK114.out 3) | ((with_reducible refine gate_tmp (n := 26) rfl ?_);refine goesT_ (some 29) rfl rfl Try.func134 (by kernel_rfl) rfl #[.agg #[.int .i64 ((rd_T149 l0 x13_1).f0),.bool ((rd_T149 l0 x13_1).f1),.int .i64 ((rd_T149 l0 x13_1).f2),.string ((rd_T149 l0 x13_1).f3)],.agg #[.int .i64 ((rd_T149 l1 x13_1).f0),.bool ((rd_T149 l1 x13_1).f1),.int .i64 ((rd_T149 l1 x13_1).f2),.string ((rd_T149 l1 x13_1).f3)]] rfl rfl (by (try simp only [List.map_toArray,List.map_cons,List.map_nil]);first | done | rfl | (simp only [List.length_drop,List.length_take];rfl)) ?_;(with_reducible refine (value_Compare.calls ((rd_T149 l0 x13_1).f0) ((rd_T149 l0 x13_1).f1) ((rd_T149 l0 x13_1).f2) ((rd_T149 l0 x13_1).f3) ((rd_T149 l1 x13_1).f0) ((rd_T149 l1 x13_1).f1) ((rd_T149 l1 x13_1).f2) ((rd_T149 l1 x13_1).f3) t117 _ A11.out).mono ?_);rintro e w26 ⟨rfl,hb⟩;refine ⟨_,rfl,?_⟩;have n0_ := Aside0.mk (blk_below (g := gb114) (o := .cells #[.int .i64 ((rd_T149 l0 x13_1).f0),.bool ((rd_T149 l0 x13_1).f1),.int .i64 ((rd_T149 l0 x13_1).f2),.string ((rd_T149 l0 x13_1).f3)] 149 (0,0)) (by (with_reducible repeat (first | refine blk_drewN ?_ _ | refine blk_drew ?_ | refine blk_alloc ?_ _));refine blk_far ?_ NB114_116.out _;(with_reducible repeat (first | refine blk_drewN ?_ _ | refine blk_drew ?_ | refine blk_alloc ?_ _));refine blk_far ?_ NB114_116.out _;(with_reducible repeat (first | refine blk_drewN ?_ _ | refine blk_drew ?_ | refine blk_alloc ?_ _));refine blk_far ?_ NB114_116.out _;(with_reducible repeat (first | refine blk_drewN ?_ _ | refine blk_drew ?_ | refine blk_alloc ?_ _));refine blk_far ?_ NB114_116.out _;(with_reducible repeat (first | refine blk_drewN ?_ _ | refine blk_drew ?_ | refine blk_alloc ?_ _));exact BK114.out) hb);have n1_ := Aside0.mk (blk_below (g := gb116) (o := .cells #[.int .i64 ((rd_T149 l1 x13_1).f0),.bool ((rd_T149 l1 x13_1).f1),.int .i64 ((rd_T149 l1 x13_1).f2),.string ((rd_T149 l1 x13_1).f3)] 149 (0,0)) (by (with_reducible repeat (first | refine blk_drewN ?_ _ | refine blk_drew ?_ | refine blk_alloc ?_ _));refine blk_put (cs := #[.int .i64 ((rd_T149 l1 x13_1).f0),.bool ((rd_T149 l1 x13_1).f1),.int .i64 ((rd_T149 l1 x13_1).f2),.string (⟨#[]⟩ : ByteArray)]) ?_ 3 _ rfl;(with_reducible repeat (first | refine blk_drewN ?_ _ | refine blk_drew ?_ | refine blk_alloc ?_ _));refine blk_put (cs := #[.int .i64 ((rd_T149 l1 x13_1).f0),.bool ((rd_T149 l1 x13_1).f1),.int .i64 0,.string (⟨#[]⟩ : ByteArray)]) ?_ 2 _ rfl;(with_reducible repeat (first | refine blk_drewN ?_ _ | refine blk_drew ?_ | refine blk_alloc ?_ _));refine blk_put (cs := #[.int .i64 ((rd_T149 l1 x13_1).f0),.bool false,.int .i64 0,.string (⟨#[]⟩ : ByteArray)]) ?_ 1 _ rfl;(with_reducible repeat (first | refine blk_drewN ?_ _ | refine blk_drew ?_ | refine blk_alloc ?_ _));refine blk_put (cs := #[.int .i64 0,.bool false,.int .i64 0,.string (⟨#[]⟩ : ByteArray)]) ?_ 0 _ rfl;(with_reducible repeat (first | refine blk_drewN ?_ _ | refine blk_drew ?_ | refine blk_alloc ?_ _));exact BK116.out) hb);have n2_ := Aside0.mk (below_step (by repeat (first | (with_reducible first | exact HB.out | apply below_alloc | apply pw_below_drewN | apply below_drew1 | refine below_set ?_ GE114.out | refine below_set ?_ GE116.out) | exact HB.out)) hb);clear BK114;clear BK116;clear HB;have BK114 := n0_;have BK116 := n1_;have HB := n2_;clear n0_ n1_ n2_;(try clear hb);(try clear hb2);(try clear hk);(try clear hi)))
                  go_ret
                  exact ⟨by first | rfl | (simp [errW_none,errW_some] <;> rfl) | (simp [*,errW_none,errW_some] <;> rfl),by repeat (first | (with_reducible first | exact HB.out | apply below_alloc | apply pw_below_drewN | apply below_drew1 | refine below_set ?_ GE114.out | refine below_set ?_ GE116.out) | exact HB.out)⟩
              · rw [if_neg c10] at H
                exact absurd H (by simp)
          · rw [if_neg c6] at H
            exact absurd H (by simp)
        · rw [if_neg c5] at H
          exact absurd H (by simp)
      · rw [if_neg c4] at H
        have c4b0 : decide (x13_1 < (l0.length : Int)) = false := decide_eq_false c4
        clear c4
        by_cases c27 : (l0.length : Int) < (l1.length : Int)
        · rw [if_pos c27] at H
          have c27b0 : decide ((l0.length : Int) < (l1.length : Int)) = true := decide_eq_true c27
          have c27b1 : decide (l0.length < l1.length) = true := decide_eq_true (Int.ofNat_lt.mp c27)
          clear c27
          obtain rfl := Option.some.inj H
          go_wp2
          go_ret
          exact ⟨by first | rfl | (simp [errW_none,errW_some] <;> rfl) | (simp [*,errW_none,errW_some] <;> rfl),by repeat (first | (with_reducible first | exact HB.out | apply below_alloc | apply pw_below_drewN | apply below_drew1) | exact HB.out)⟩
        · rw [if_neg c27] at H
          have c27b0 : decide ((l0.length : Int) < (l1.length : Int)) = false := decide_eq_false c27
          have c27b1 : decide (l0.length < l1.length) = false := decide_eq_false (fun h => c27 (Int.ofNat_lt.mpr h))
          clear c27
          obtain rfl := Option.some.inj H
          go_wp2
          go_ret
          exact ⟨by first | rfl | (simp [errW_none,errW_some] <;> rfl) | (simp [*,errW_none,errW_some] <;> rfl),by repeat (first | (with_reducible first | exact HB.out | apply below_alloc | apply pw_below_drewN | apply below_drew1) | exact HB.out)⟩
end Go.Proofs.Ythfaimomcbmniaa.Z
end
section
namespace Go.Proofs.Ythfaimomcbmniaa.Z
open Go.RowKit Go.Proofs.YthfaimomcbmniaaW.PrintWords Go.Proofs.YthfaimomcbmniaaW.PrintLast Go.Proofs.YthfaimomcbmniaaW.PrintMore
attribute [local go_sem] max2_int min2_int max_two min_two max_three min_three max_four min_four
set_option linter.unusedVariables false
set_option linter.unusedSimpArgs false
def row_Compare.f (k : Nat) (l0 : List (S149)) (l1 : List (S149)) : Option (Int) := (slices_CompareFunc.f k l0 l1 4242134).bind fun t118 => (some t118)
theorem row_Compare.mono : ∀ a0 a1 k,LeO (row_Compare.f k a0 a1) (row_Compare.f (k + 1) a0 a1) := by
  intro a0 a1 k
  unfold row_Compare.f
  repeat' first
      | (with_reducible exact slices_CompareFunc.mono _ _ _ _)
      | (with_reducible exact LeO.refl _)
      | (with_reducible exact LeO.none _)
      | (with_reducible refine LeO.ite ?_ ?_)
      | (with_reducible refine LeO.bind ?_ (fun _ => ?_))
      | exact slices_CompareFunc.mono _ _ _ _
      | exact LeO.none _
      | refine LeO.ite ?_ ?_
      | refine LeO.bind ?_ (fun _ => ?_)
set_option maxHeartbeats 8000000 in
set_option maxRecDepth 100000 in
theorem row_Compare.calls (k : Nat) (A0 : Option Addr) (c0 : Nat) (l0 : List (S149)) (A1 : Option Addr) (c1 : Nat) (l1 : List (S149)) (r : Int) (w : World) (hr0 : Kd.C k149 w A0 l0.length l0) (hc0 : l0.length ≤ c0) (hr1 : Kd.C k149 w A1 l1.length l1) (hc1 : l1.length ≤ c1) (h : row_Compare.f k l0 l1 = some r) :
    Calls Try.prog 116 #[.slice A0 l0.length c0,.slice A1 l1.length c1] w fun e w' => e = .returned (.int .i64 r) ∧ Below w.heap.size w w' := by
  have HR0 := Aside0.mk hr0
  have HC0 := Aside0.mk hc0
  clear hr0 hc0
  have HR1 := Aside0.mk hr1
  have HC1 := Aside0.mk hc1
  clear hr1 hc1
  have HB := Aside0.mk (Below.refl w.heap.size w)
  have H : ((slices_CompareFunc.f k l0 l1 4242134).bind fun t118 => (some t118)) = some r := h
  clear h
  replace H := Option.bind_eq_some_iff.mp H
  obtain ⟨t118,A30,H⟩ := H
  replace H : (some t118) = some r := H
  have A3 := Aside0.mk A30
  clear A30
  obtain rfl := Option.some.inj H
  go_enter Try.func116,Try.ntmps116
  go_wp2_with (first | ((with_reducible refine gate_callee (f := 133) rfl ?_);refine goesL_ (some 7) rfl rfl Try.func133 (by kernel_rfl) rfl #[.slice A0 l0.length c0,.slice A1 l1.length c1,.func (.func 134) #[] #[]] rfl (by (try simp only [List.map_toArray,List.map_cons,List.map_nil]);first | done | rfl | (simp only [List.length_drop,List.length_take];rfl)) ?_;(with_reducible refine (slices_CompareFunc.calls k _ _ l0 _ _ l1 4242134 t118 _ ?side1 ?side2 ?side3 ?side4 A3.out).mono ?_);(case side1 => repeat (first | exact HR0.out | (with_reducible refine Kd.C_alloc ?_ _) | (with_reducible refine Kd.C_drewN ?_ _) | (with_reducible refine Kd.C_drew ?_)));(case side2 => exact HC0.out);(case side3 => repeat (first | exact HR1.out | (with_reducible refine Kd.C_alloc ?_ _) | (with_reducible refine Kd.C_drewN ?_ _) | (with_reducible refine Kd.C_drew ?_)));(case side4 => exact HC1.out);rintro e w4 ⟨rfl,hb⟩;refine ⟨_,rfl,?_⟩;have n0_ := Aside0.mk (below_step (by repeat (first | (with_reducible first | exact HB.out | apply below_alloc | apply pw_below_drewN | apply below_drew1) | exact HB.out)) hb);clear HB;have HB := n0_;clear n0_;(try clear hb);(try clear hb2);(try clear hk);(try clear hi)))
  go_ret
  exact ⟨by first | rfl | (simp [errW_none,errW_some] <;> rfl) | (simp [*,errW_none,errW_some] <;> rfl),by repeat (first | (with_reducible first | exact HB.out | apply below_alloc | apply pw_below_drewN | apply below_drew1) | exact HB.out)⟩
end Go.Proofs.Ythfaimomcbmniaa.Z
end
section
namespace Go.Proofs.Ythfaimomcbmniaa.Cmp
structure CmpLaw {α : Type} (c : α → α → Int) : Prop where
  lo : ∀ a b,-1 ≤ c a b
  anti : ∀ a b,c b a = - c a b
  le : ∀ a b d,c a b ≤ 0 → c b d ≤ 0 → c a d ≤ 0
variable {α : Type} {c : α → α → Int}
theorem CmpLaw.hi (h : CmpLaw c) (a b : α) : c a b ≤ 1 := by have := h.lo b a;have := h.anti b a;omega
theorem CmpLaw.self (h : CmpLaw c) (a : α) : c a a = 0 := by have := h.anti a a;omega
theorem CmpLaw.lt_le (h : CmpLaw c) {a b d : α} (h1 : c a b < 0) (h2 : c b d ≤ 0) : c a d < 0 := by
  have h3 := h.le a b d (by omega) h2
  rcases Int.lt_or_eq_of_le h3 with h4 | h4
  · exact h4
  · have h5 := h.anti a d
    have h6 := h.le b d a h2 (by omega)
    have h7 := h.anti a b
    omega
theorem CmpLaw.le_lt (h : CmpLaw c) {a b d : α} (h1 : c a b ≤ 0) (h2 : c b d < 0) : c a d < 0 := by
  have h3 := h.le a b d h1 (by omega)
  rcases Int.lt_or_eq_of_le h3 with h4 | h4
  · exact h4
  · have h5 := h.anti a d
    have h6 := h.le d a b (by omega) h1
    have h7 := h.anti b d
    omega
theorem CmpLaw.eq_left (h : CmpLaw c) {a b : α} (d : α) (h1 : c a b = 0) : c a d = c b d := by
  have a1 := h.anti a b
  have lo1 := h.lo a d
  have hi1 := h.hi a d
  have lo2 := h.lo b d
  have hi2 := h.hi b d
  rcases Int.lt_trichotomy (c b d) 0 with h2 | h2 | h2
  · have := h.le_lt (a := a) (b := b) (d := d) (by omega) h2
    omega
  · have h3 := h.le a b d (by omega) (by omega)
    have h4 := h.le d b a (by have := h.anti b d;omega) (by omega)
    have := h.anti a d
    omega
  · have h3 : c d b < 0 := by have := h.anti b d;omega
    have := h.lt_le h3 (show c b a ≤ 0 by omega)
    have := h.anti a d
    omega
def cmpI (a b : Int) : Int := if a < b then -1 else if b < a then 1 else 0
theorem cmpI_law : CmpLaw cmpI := by
  refine ⟨fun a b => ?_,fun a b => ?_,fun a b d h1 h2 => ?_⟩ <;> unfold cmpI at * <;> repeat' split at * <;> omega
theorem cmpI_eq {a b : Int} : cmpI a b = 0 ↔ a = b := by unfold cmpI;repeat' split <;> omega
theorem CmpLaw.on {β : Type} (f : β → α) (h : CmpLaw c) : CmpLaw (fun x y => c (f x) (f y)) := ⟨fun _ _ => h.lo _ _,fun _ _ => h.anti _ _,fun _ _ _ => h.le _ _ _⟩
def andThenC (c d : α → α → Int) (a b : α) : Int := if c a b = 0 then d a b else c a b
theorem CmpLaw.andThen {d : α → α → Int} (hc : CmpLaw c) (hd : CmpLaw d) : CmpLaw (andThenC c d) := by
  refine ⟨fun a b => ?_,fun a b => ?_,fun a b e h1 h2 => ?_⟩
  · unfold andThenC;split
    · exact hd.lo a b
    · exact hc.lo a b
  · unfold andThenC
    have h1 := hc.anti a b
    have h2 := hd.anti a b
    by_cases h : c a b = 0
    · rw [if_pos h,if_pos (by omega)];exact h2
    · rw [if_neg h,if_neg (by omega)];exact h1
  · unfold andThenC at *
    by_cases ha : c a b = 0
    · rw [if_pos ha] at h1
      rw [hc.eq_left e ha]
      by_cases hb : c b e = 0
      · rw [if_pos hb] at h2 ⊢
        exact hd.le _ _ _ h1 h2
      · rw [if_neg hb] at h2 ⊢
        exact h2
    · rw [if_neg ha] at h1
      have h3 : c b e ≤ 0 := by
        by_cases hb : c b e = 0
        · omega
        · rw [if_neg hb] at h2;exact h2
      have h4 := hc.lt_le (show c a b < 0 by omega) h3
      rw [if_neg (by omega)]
      omega
def lexC (c : α → α → Int) : List α → List α → Int
  | [],[] => 0
  | [],_ :: _ => -1
  | _ :: _,[] => 1
  | a :: as_,b :: bs => if c a b = 0 then lexC c as_ bs else c a b
theorem lexC_law (h : CmpLaw c) : CmpLaw (lexC c) := by
  have lo : ∀ a b,-1 ≤ lexC c a b := by
    intro a
    induction a with
    | nil => intro b;cases b <;> simp [lexC]
    | cons x a ih =>
      intro b
      cases b with
      | nil => simp [lexC]
      | cons y b =>
        simp only [lexC]
        split
        · exact ih b
        · exact h.lo x y
  have anti : ∀ a b,lexC c b a = - lexC c a b := by
    intro a
    induction a with
    | nil => intro b;cases b <;> simp [lexC]
    | cons x a ih =>
      intro b
      cases b with
      | nil => simp [lexC]
      | cons y b =>
        simp only [lexC]
        have h1 := h.anti x y
        by_cases h0 : c x y = 0
        · rw [if_pos h0,if_pos (by omega)];exact ih b
        · rw [if_neg h0,if_neg (by omega)];exact h1
  refine ⟨lo,anti,?_⟩
  intro a
  induction a with
  | nil =>
    intro b d h1 h2
    cases d with
    | nil => simp [lexC]
    | cons => simp [lexC]
  | cons x a ih =>
    intro b d h1 h2
    cases b with
    | nil => simp [lexC] at h1
    | cons y b =>
      cases d with
      | nil => simp [lexC] at h2
      | cons z d =>
        simp only [lexC] at h1 h2 ⊢
        by_cases hxy : c x y = 0
        · rw [if_pos hxy] at h1
          rw [h.eq_left z hxy]
          by_cases hyz : c y z = 0
          · rw [if_pos hyz] at h2 ⊢
            exact ih b d h1 h2
          · rw [if_neg hyz] at h2 ⊢
            exact h2
        · rw [if_neg hxy] at h1
          have h3 : c y z ≤ 0 := by
            by_cases hyz : c y z = 0
            · omega
            · rw [if_neg hyz] at h2;exact h2
          have h4 := h.lt_le (show c x y < 0 by omega) h3
          rw [if_neg (by omega)]
          omega
theorem lexC_eq (hc : ∀ a b,c a b = 0 → a = b) : ∀ a b,lexC c a b = 0 → a = b := by
  intro a
  induction a with
  | nil => intro b h;cases b with | nil => rfl | cons => simp [lexC] at h
  | cons x a ih =>
    intro b h
    cases b with
    | nil => simp [lexC] at h
    | cons y b =>
      simp only [lexC] at h
      by_cases h0 : c x y = 0
      · rw [if_pos h0] at h
        rw [hc _ _ h0,ih _ h]
      · rw [if_neg h0] at h
        exact absurd h h0
def cmpB (a b : List UInt8) : Int := lexC (fun x y : UInt8 => cmpI x.toNat y.toNat) a b
theorem cmpB_law : CmpLaw cmpB := lexC_law (cmpI_law.on fun x : UInt8 => (x.toNat : Int))
theorem cmpB_eq {a b : List UInt8} (h : cmpB a b = 0) : a = b := lexC_eq (fun x y hxy => by have := cmpI_eq.1 hxy;exact UInt8.toNat_inj.1 (by omega)) a b h
end Go.Proofs.Ythfaimomcbmniaa.Cmp
end
section
namespace Go.Proofs.Ythfaimomcbmniaa.Z
open Go.RowKit Go.Proofs.YthfaimomcbmniaaW.PrintWords Go.Proofs.YthfaimomcbmniaaW.PrintLast Go.Proofs.YthfaimomcbmniaaW.PrintMore Go.Proofs.Ythfaimomcbmniaa.Cmp
end Go.Proofs.Ythfaimomcbmniaa.Z
end
section
namespace Go.Proofs.Ythfaimomcbmniaa.Z
set_option linter.unusedVariables false
set_option linter.unusedSimpArgs false
open Go.RowKit Go.Proofs.YthfaimomcbmniaaW.PrintWords Go.Proofs.YthfaimomcbmniaaW.PrintLast Go.Proofs.YthfaimomcbmniaaW.PrintMore Go.Proofs.Ythfaimomcbmniaa.Cmp
abbrev Rw := List S149
structure RowC (w : World) (A : Option Addr) (c : Nat) (r : List S149) : Prop where
  cap : r.length ≤ c
  row : Kd.C k149 w A r.length r
theorem RowC.below {w w1 : World} {A : Option Addr} {c : Nat} {r : List S149} (h : RowC w A c r) (hb : Below w.heap.size w w1) : RowC w1 A c r := ⟨h.cap,Kd.C_below h.row hb⟩
theorem RowC.max {w : World} {A : Option Addr} {c : Nat} {r : List S149} (h : RowC w A c r) : r.length ≤ 9223372036854775807 := h.row.2.1
theorem add_block (a : Addr) (n : Nat) : (a.add n).block = a.block := by unfold Addr.add;split <;> rfl
structure SameW (w w' : World) : Prop where
  heap : w'.heap = w.heap
  os : w'.os = w.os
  tape : w'.tape = w.tape
  output : w'.output = w.output
structure NextW (N : Nat) (w w' : World) : Prop where
  below : Below N w w'
  le : N ≤ w'.heap.size
theorem NextW.refl (w : World) : NextW w.heap.size w w := ⟨Below.refl _ _,Nat.le_refl _⟩
theorem NextW.next {N : Nat} {w w1 w2 W : World} (h : NextW N w w1) (hb : Below W.heap.size W w2) (e : SameW w1 W := by exact ⟨rfl,rfl,rfl,rfl⟩) : NextW N w w2 := by
  have h1 : Below N w W := ⟨e.os.trans h.below.os,e.tape.trans h.below.tape,e.output.trans h.below.output,by rw [e.heap];exact h.below.size,fun k hk => by rw [e.heap];exact h.below.block k hk⟩
  have hs : N ≤ W.heap.size := by rw [e.heap];exact h.le
  exact ⟨h1.trans (hb.mono hs),Nat.le_trans hs hb.size⟩
theorem NextW.nextN {N : Nat} {w w1 w2 W : World} (h : NextW N w w1) (hb : Below N W w2) (e : SameW w1 W := by exact ⟨rfl,rfl,rfl,rfl⟩) : NextW N w w2 := by
  have h1 : Below N w W := ⟨e.os.trans h.below.os,e.tape.trans h.below.tape,e.output.trans h.below.output,by rw [e.heap];exact h.below.size,fun k hk => by rw [e.heap];exact h.below.block k hk⟩
  have hs : N ≤ W.heap.size := by rw [e.heap];exact h.le
  exact ⟨h1.trans hb,Nat.le_trans hs hb.size⟩
theorem NextW.at_ {N : Nat} {w w1 W : World} (h : NextW N w w1) (e : SameW w1 W := by exact ⟨rfl,rfl,rfl,rfl⟩) : Below N w W :=
  ⟨e.os.trans h.below.os,e.tape.trans h.below.tape,e.output.trans h.below.output,by rw [e.heap];exact h.below.size,fun k hk => by rw [e.heap];exact h.below.block k hk⟩
theorem SameW.below {w W : World} (e : SameW w W) (N : Nat) : Below N w W := ⟨e.os,e.tape,e.output,by rw [e.heap];exact Nat.le_refl _,fun k _ => by rw [e.heap]⟩
theorem SameW.refl (w : World) : SameW w w := ⟨rfl,rfl,rfl,rfl⟩
theorem SameW.drew (w : World) : SameW w w.drew := ⟨rfl,rfl,rfl,rfl⟩
theorem SameW.drewN (w : World) (n : Nat) : SameW w (w.drewN n) := ⟨rfl,rfl,rfl,rfl⟩
theorem own_new2 {v1 v2 : Value} {N M : Nat} (h1 : ∀ k,v1.ownBlock = some k → N ≤ k) (hm : N ≤ M) (h : v2.ownBlock = v1.ownBlock ∨ ∃ b,v2.ownBlock = some b ∧ M ≤ b) : ∀ k,v2.ownBlock = some k → N ≤ k := fun k e => by
  rcases h with h | ⟨b,h2,h3⟩
  · exact h1 k (h ▸ e)
  · rw [h2] at e;injection e with e;omega
end Go.Proofs.Ythfaimomcbmniaa.Z
end
section
namespace Go.Proofs.Ythfaimomcbmniaa.Z
set_option linter.unusedVariables false
set_option linter.unusedSimpArgs false
open Go.RowKit Go.Proofs.YthfaimomcbmniaaW.PrintWords Go.Proofs.YthfaimomcbmniaaW.PrintLast Go.Proofs.YthfaimomcbmniaaW.PrintMore
structure Fe where
  f0 : ByteArray
  A : Option Addr
  c : Nat
  row : Rw
abbrev El := Fe × Nat
def zEl : El := (⟨⟨#[]⟩,none,0,[]⟩,0)
def atL (L : List El) (i : Nat) : El := L.getD i zEl
def Gd (w : World) (blk : Nat) (u : Fe) : Prop := ∀ W',(∀ k,k < w.heap.size → k ≠ blk → W'.heap[k]? = w.heap[k]?) → RowC W' u.A u.c u.row
theorem Gd.now {w : World} {blk : Nat} {u : Fe} (h : Gd w blk u) : RowC w u.A u.c u.row := h w (fun _ _ _ => rfl)
theorem Gd.step {w w1 : World} {blk : Nat} {u : Fe} (h : Gd w blk u) (hs : w.heap.size ≤ w1.heap.size) (hb : ∀ k,k < w.heap.size → k ≠ blk → w1.heap[k]? = w.heap[k]?) : Gd w1 blk u := fun W' hW => h W' (fun k hk hn => (hW k (Nat.lt_of_lt_of_le hk hs) hn).trans (hb k hk hn))
structure RowAt (w : World) (blk : Nat) (L : List El) : Prop where
  out : ∃ cells : Array Value,w.heap[blk]? = some (.cells cells 56 (0,0)) ∧ ∀ i,i < L.length → cells[i * 2]? = some (.string (atL L i).1.f0) ∧ cells[i * 2 + 1]? = some (.slice (atL L i).1.A (atL L i).1.row.length (atL L i).1.c)
  good : ∀ i,i < L.length → Gd w blk (atL L i).1
theorem RowAt.cell {w : World} {blk : Nat} {L : List El} (h : RowAt w blk L) {i : Nat} (hi : i < L.length) : w.cell? ⟨blk,i * 2,none⟩ = some (.string (atL L i).1.f0) ∧ w.cell? ⟨blk,i * 2 + 1,none⟩ = some (.slice (atL L i).1.A (atL L i).1.row.length (atL L i).1.c) ∧ (∀ o,w.frozen? ⟨blk,o,none⟩ = false) ∧ blk < w.heap.size ∧ Gd w blk (atL L i).1 := by
  obtain ⟨cells,hb,hc⟩ := h.out
  obtain ⟨h0,h1⟩ := hc i hi
  exact ⟨(blk_cell hb _).trans h0,(blk_cell hb _).trans h1,fun o => blk_frozen hb o,blk_lt hb,h.good i hi⟩
theorem RowAt.heap {w w' : World} {blk : Nat} {L : List El} (h : RowAt w blk L) (e : ∀ k,k < w.heap.size → w'.heap[k]? = w.heap[k]?) : RowAt w' blk L := by
  obtain ⟨cells,hb,hc⟩ := h.out
  exact ⟨⟨cells,(e blk (blk_lt hb)).trans hb,hc⟩,fun i hi W' hW => h.good i hi W' (fun k hk hn => (hW k (Nat.lt_of_not_le (fun hge => by have h1 := e k hk;rw [Array.getElem?_eq_none hge,Array.getElem?_eq_getElem hk] at h1;cases h1)) hn).trans (e k hk))⟩
theorem RowAt.drew {w : World} {blk : Nat} {L : List El} (h : RowAt w blk L) : RowAt w.drew blk L := h.heap (fun _ _ => rfl)
def putN (w : World) (blk i : Nat) (u : Fe) : World := (w.setCell ⟨blk,i * 2,none⟩ (.string u.f0)).setCell ⟨blk,i * 2 + 1,none⟩ (.slice u.A u.row.length u.c)
theorem putN_off (w : World) (blk i : Nat) (u : Fe) (k : Nat) (hn : k ≠ blk) : (putN w blk i u).heap[k]? = w.heap[k]? := by
  unfold putN
  rw [Below.heap_setCell _ _ _ k hn,Below.heap_setCell _ _ _ k hn]
theorem putN_size (w : World) (blk i : Nat) (u : Fe) : w.heap.size ≤ (putN w blk i u).heap.size := by
  unfold putN
  simp [World.setCell]
theorem atL_set (L : List El) (i : Nat) (x : El) (hi : i < L.length) (j : Nat) : atL (L.set i x) j = if j = i then x else atL L j := by
  unfold atL
  by_cases e : j = i
  · subst e;simp [List.getD,hi]
  · rw [if_neg e];simp [List.getD,List.getElem?_set_ne (fun q => e q.symm)]
theorem RowAt.put {w : World} {blk : Nat} {L : List El} (h : RowAt w blk L) {i : Nat} (hi : i < L.length) (x : El) (hx : Gd w blk x.1) : RowAt (putN w blk i x.1) blk (L.set i x) := by
  obtain ⟨cells,hb,hc⟩ := h.out
  refine ⟨⟨(cells.setIfInBounds (i * 2) (.string x.1.f0)).setIfInBounds (i * 2 + 1) (.slice x.1.A x.1.row.length x.1.c),?_,?_⟩,?_⟩
  · exact blk_put (blk_put hb _ _ rfl) _ _ rfl
  · intro j hj
    rw [List.length_set] at hj
    obtain ⟨g0,g1⟩ := hc i hi
    have s0 := (Array.getElem?_eq_some_iff.1 g0).1
    have s1 := (Array.getElem?_eq_some_iff.1 g1).1
    rw [atL_set L i x hi]
    by_cases e : j = i
    · subst e
      rw [if_pos rfl]
      simp only [Array.getElem?_setIfInBounds,Array.size_setIfInBounds]
      refine ⟨?_,?_⟩ <;> simp <;> omega
    · rw [if_neg e]
      obtain ⟨k0,k1⟩ := hc j hj
      simp only [Array.getElem?_setIfInBounds,Array.size_setIfInBounds]
      refine ⟨?_,?_⟩ <;> (repeat rw [if_neg (by omega)]) <;> assumption
  · intro j hj
    rw [List.length_set] at hj
    rw [atL_set L i x hi]
    split
    · exact hx.step (putN_size _ _ _ _) (fun k _ hn => putN_off _ _ _ _ k hn)
    · exact (h.good j hj).step (putN_size _ _ _ _) (fun k _ hn => putN_off _ _ _ _ k hn)
def swp (L : List El) (i j : Nat) : List El := (L.set i (atL L j)).set j (atL L i)
def swpR (L : List El) (a b : Nat) : Nat → List El
  | 0 => L
  | k + 1 => swp (swpR L a b k) (a + k) (b + k)
end Go.Proofs.Ythfaimomcbmniaa.Z
end
section
namespace Go.Proofs.Ythfaimomcbmniaa.Z
set_option linter.unusedVariables false
set_option linter.unusedSimpArgs false
set_option linter.unnecessarySimpa false
theorem atL_mid (P S : List El) (x : El) : atL (P ++ x :: S) P.length = x := by
  unfold atL
  rw [List.getD_eq_getElem?_getD,List.getElem?_append_right (Nat.le_refl _),Nat.sub_self]
  rfl
theorem atL_app (P S : List El) (n : Nat) : atL (P ++ S) (P.length + n) = atL S n := by
  unfold atL
  rw [List.getD_eq_getElem?_getD,List.getD_eq_getElem?_getD,List.getElem?_append_right (Nat.le_add_right _ _),Nat.add_sub_cancel_left]
theorem set_mid (P S : List El) (x y : El) : (P ++ x :: S).set P.length y = P ++ y :: S := by
  rw [List.set_append_right _ _ (Nat.le_refl _),Nat.sub_self]
  rfl
theorem swp_split (P M S : List El) (x y : El) : swp (P ++ x :: (M ++ y :: S)) P.length (P.length + (M.length + 1)) = P ++ y :: (M ++ x :: S) := by
  have e1 : atL (P ++ x :: (M ++ y :: S)) P.length = x := atL_mid _ _ _
  have e2 : atL (P ++ x :: (M ++ y :: S)) (P.length + (M.length + 1)) = y := by
    rw [atL_app]
    show atL (x :: (M ++ y :: S)) (M.length + 1) = y
    have := atL_mid (x :: M) S y
    simpa using this
  unfold swp
  rw [e1,e2,set_mid]
  have := set_mid (P ++ y :: M) S y x
  rw [List.length_append,List.length_cons] at this
  simpa using this
theorem swpR_split (m : Nat) : ∀ (P X M Y S : List El),X.length = m → Y.length = m → swpR (P ++ X ++ M ++ Y ++ S) P.length (P.length + X.length + M.length) m = P ++ Y ++ M ++ X ++ S := by
  induction m with
  | zero =>
    intro P X M Y S hx hy
    obtain rfl := List.length_eq_zero_iff.1 hx
    obtain rfl := List.length_eq_zero_iff.1 hy
    rfl
  | succ m ih =>
    intro P X M Y S hx hy
    rcases List.eq_nil_or_concat X with rfl | ⟨X1,x,rfl⟩
    · simp at hx
    rcases List.eq_nil_or_concat Y with rfl | ⟨Y1,y,rfl⟩
    · simp at hy
    rw [List.concat_eq_append] at *
    rw [List.concat_eq_append] at *
    have hx1 : X1.length = m := by simpa using hx
    have hy1 : Y1.length = m := by simpa using hy
    have h := ih P X1 ([x] ++ M) Y1 ([y] ++ S) hx1 hy1
    have e : P ++ X1 ++ ([x] ++ M) ++ Y1 ++ ([y] ++ S) = P ++ (X1 ++ [x]) ++ M ++ (Y1 ++ [y]) ++ S := by simp
    rw [e] at h
    have eb : P.length + X1.length + ([x] ++ M).length = P.length + (X1 ++ [x]).length + M.length := by simp;omega
    rw [eb] at h
    rw [swpR,h]
    have h2 := swp_split (P ++ Y1) (M ++ X1) S x y
    have e1 : P.length + m = (P ++ Y1).length := by simp [hy1]
    have e2 : P.length + (X1 ++ [x]).length + M.length + m = (P ++ Y1).length + ((M ++ X1).length + 1) := by simp [hx1,hy1];omega
    rw [e1,e2]
    have e3 : P ++ Y1 ++ ([x] ++ M) ++ X1 ++ ([y] ++ S) = P ++ Y1 ++ x :: (M ++ X1 ++ y :: S) := by simp
    rw [e3,h2]
    simp
structure Ord3 (cf : Fe → Fe → Int) : Prop where
  anti : ∀ x y,cf y x = -cf x y
  trans : ∀ x y z,cf x y ≤ 0 → cf y z ≤ 0 → cf x z ≤ 0
def Lx (cf : Fe → Fe → Int) (x y : El) : Prop := cf x.1 y.1 < 0 ∨ (cf x.1 y.1 = 0 ∧ x.2 < y.2)
theorem Lx.trans {cf : Fe → Fe → Int} (o : Ord3 cf) {x y z : El} (h1 : Lx cf x y) (h2 : Lx cf y z) : Lx cf x z := by
  unfold Lx at *
  have a1 := o.trans x.1 y.1 z.1
  have a2 := o.trans z.1 x.1 y.1
  have a3 := o.trans y.1 z.1 x.1
  have b1 := o.anti x.1 y.1
  have b2 := o.anti y.1 z.1
  have b3 := o.anti x.1 z.1
  omega
def Sorted (cf : Fe → Fe → Int) (l : List El) : Prop := l.Pairwise (Lx cf)
end Go.Proofs.Ythfaimomcbmniaa.Z
end
section
namespace Go.Proofs.Ythfaimomcbmniaa.Z
set_option linter.unusedVariables false
set_option linter.unusedSimpArgs false
open Go.RowKit Go.Proofs.YthfaimomcbmniaaW.PrintWords Go.Proofs.YthfaimomcbmniaaW.PrintLast Go.Proofs.YthfaimomcbmniaaW.PrintMore
structure Turn (R : List El) (m i j : Nat) (L : List El) : Prop where
  out : ∃ P X Y S,L = P ++ X ++ Y ++ S ∧ X.length = i ∧ Y.length = j ∧ P.length + i = m ∧ 0 < i ∧ 0 < j ∧ P ++ Y ++ X ++ S = R
theorem Turn.len {R : List El} {m i j : Nat} {L : List El} (h : Turn R m i j L) : i ≤ m ∧ m + j ≤ L.length ∧ 0 < i ∧ 0 < j ∧ R.length = L.length := by
  obtain ⟨P,X,Y,S,rfl,hx,hy,hp,h0,h1,hR⟩ := h.out
  have := congrArg List.length hR
  simp at this ⊢
  omega
theorem Turn.done {R : List El} {m i : Nat} {L : List El} (h : Turn R m i i L) : swpR L (m - i) m i = R := by
  obtain ⟨P,X,Y,S,rfl,hx,hy,hp,h0,h1,hR⟩ := h.out
  have hs := swpR_split i P X [] Y S hx hy
  have e2 : m - i = P.length := by omega
  have e3 : m = P.length + X.length + ([] : List El).length := by simp;omega
  rw [e2]
  rw [← e3] at hs
  rw [List.append_nil] at hs
  rw [hs,← hR]
  simp
end Go.Proofs.Ythfaimomcbmniaa.Z
end
section
namespace Go.Proofs.Ythfaimomcbmniaa.Z
set_option linter.unusedVariables false
set_option linter.unusedSimpArgs false
set_option linter.unnecessarySimpa false
def Tags (X : List El) : Prop := X.Pairwise (fun x y => x.2 < y.2)
theorem swp_comm (L : List El) {i j : Nat} (h : i ≠ j) : swp L i j = swp L j i := by
  unfold swp
  rw [List.set_comm _ _ h]
structure InsO (cf : Fe → Fe → Int) (P X S : List El) (i : Nat) (L : List El) : Prop where
  out : ∃ X1 X2 Y1,L = P ++ X1 ++ X2 ++ S ∧ P.length + X1.length = i ∧ Sorted cf X1 ∧ X = Y1 ++ X2 ∧ X1.Perm Y1
structure InsI (cf : Fe → Fe → Int) (P X S : List El) (i j : Nat) (L : List El) : Prop where
  out : ∃ L1 x R1 X2 Y1,L = P ++ L1 ++ x :: (R1 ++ X2 ++ S) ∧ P.length + L1.length = j ∧ P.length + L1.length + R1.length = i ∧ Sorted cf (L1 ++ R1) ∧ (∀ r ∈ R1,Lx cf x r) ∧ X = Y1 ++ x :: X2 ∧ (L1 ++ R1).Perm Y1
theorem InsO.enter {cf : Fe → Fe → Int} {P X S L : List El} {i : Nat} (h : InsO cf P X S i L) (hi : i < P.length + X.length) : InsI cf P X S i i L := by
  obtain ⟨X1,X2,Y1,rfl,h1,h2,rfl,h3⟩ := h.out
  have := h3.length_eq
  cases X2 with
  | nil => simp at hi;omega
  | cons x X2 => exact ⟨X1,x,[],X2,Y1,by simp,h1,by simpa using h1,by simpa using h2,fun r hr => (by cases hr),rfl,by simpa using h3⟩
theorem InsI.len {cf : Fe → Fe → Int} {P X S L : List El} {i j : Nat} (h : InsI cf P X S i j L) : P.length ≤ j ∧ j ≤ i ∧ i < L.length := by
  obtain ⟨L1,x,R1,X2,Y1,rfl,h1,h2,h3,h4,rfl,h5⟩ := h.out
  simp
  omega
end Go.Proofs.Ythfaimomcbmniaa.Z
end
section
namespace Go.Proofs.Ythfaimomcbmniaa.Z
set_option linter.unusedVariables false
set_option linter.unusedSimpArgs false
open Go.RowKit Go.Proofs.YthfaimomcbmniaaW.PrintWords Go.Proofs.YthfaimomcbmniaaW.PrintLast Go.Proofs.YthfaimomcbmniaaW.PrintMore
structure CmpOk (g : Nat) (cf : Fe → Fe → Int) : Prop where
  ord : Ord3 cf
  calls : ∀ (u v : Fe) (W : World) (blk : Nat),Gd W blk u → Gd W blk v → Calls Try.prog g #[.agg #[.string u.f0,.slice u.A u.row.length u.c],.agg #[.string v.f0,.slice v.A v.row.length v.c]] W fun e w' => e = .returned (.int .i64 (cf u v)) ∧ Below W.heap.size W w'
theorem RowAt.below {w w' : World} {blk : Nat} {L : List El} (h : RowAt w blk L) (hb : Below w.heap.size w w') : RowAt w' blk L := by
  exact h.heap (fun k hk => hb.block k hk)
theorem RowAt.lt {w : World} {blk : Nat} {L : List El} (h : RowAt w blk L) : blk < w.heap.size := by
  obtain ⟨cells,hc,_⟩ := h.out
  exact blk_lt hc
structure SameX (w w' : World) : Prop where
  heap : w'.heap = w.heap
  os : w'.os = w.os
  tape : w'.tape = w.tape
  output : w'.output = w.output
end Go.Proofs.Ythfaimomcbmniaa.Z
end
section
namespace Go.Proofs.Ythfaimomcbmniaa.Z
set_option linter.unusedVariables false
set_option linter.unusedSimpArgs false
set_option linter.unnecessarySimpa false
structure Srch (pred : Nat → Prop) (lo hi i j : Nat) : Prop where
  h1 : lo ≤ i
  h2 : i ≤ j
  h3 : j ≤ hi
  yes : ∀ h,lo ≤ h → h < i → pred h
  no : ∀ h,j ≤ h → h < hi → ¬ pred h
structure Two (cf : Fe → Fe → Int) (P A B S : List El) : Prop where
  ord : Ord3 cf
  sa : Sorted cf A
  sb : Sorted cf B
  tags : ∀ x ∈ A,∀ y ∈ B,x.2 < y.2
end Go.Proofs.Ythfaimomcbmniaa.Z
end
section
namespace Go.Proofs.Ythfaimomcbmniaa.Z
set_option linter.unusedVariables false
set_option linter.unusedSimpArgs false
set_option linter.unnecessarySimpa false
structure GoR (P : List El) (x : El) (B1 T : List El) (k : Nat) (L : List El) : Prop where
  out : ∃ U V,L = P ++ U ++ x :: (V ++ T) ∧ B1 = U ++ V ∧ P.length + U.length = k
theorem GoR.step {P : List El} {x : El} {B1 T L : List El} {k : Nat} (h : GoR P x B1 T k L) (hk : k < P.length + B1.length) : GoR P x B1 T (k + 1) (swp L k (k + 1)) := by
  obtain ⟨U,V,rfl,rfl,h3⟩ := h.out
  cases V with
  | nil => simp at hk;omega
  | cons v V =>
    have hs := swp_split (P ++ U) [] (V ++ T) x v
    have e : (P ++ U).length = k := by simp;omega
    rw [e] at hs
    rw [show k + (([] : List El).length + 1) = k + 1 by rfl] at hs
    refine ⟨U ++ [v],V,?_,by simp,by simp;omega⟩
    rw [List.nil_append] at hs
    rw [show P ++ U ++ x :: (v :: V ++ T) = P ++ U ++ x :: v :: (V ++ T) by simp,hs]
    simp
theorem GoR.done {P : List El} {x : El} {B1 T L : List El} {k : Nat} (h : GoR P x B1 T k L) (hk : P.length + B1.length ≤ k) : L = P ++ B1 ++ x :: T := by
  obtain ⟨U,V,rfl,rfl,h3⟩ := h.out
  have : V = [] := List.length_eq_zero_iff.1 (by simp at hk;omega)
  subst this
  simp
structure GoL (P : List El) (y : El) (A2 T : List El) (k : Nat) (L : List El) : Prop where
  out : ∃ U V,L = P ++ U ++ y :: (V ++ T) ∧ A2 = U ++ V ∧ P.length + U.length = k
theorem GoL.step {P : List El} {y : El} {A2 T L : List El} {k : Nat} (h : GoL P y A2 T (k + 1) L) (hk : P.length < k + 1) : GoL P y A2 T k (swp L (k + 1) k) := by
  obtain ⟨U,V,rfl,rfl,h3⟩ := h.out
  rcases List.eq_nil_or_concat U with rfl | ⟨U0,u,rfl⟩
  · simp at h3;omega
  rw [List.concat_eq_append] at *
  have hs := swp_split (P ++ U0) [] (V ++ T) u y
  have e : (P ++ U0).length = k := by simp at h3 ⊢;omega
  rw [e] at hs
  rw [show k + (([] : List El).length + 1) = k + 1 by rfl] at hs
  rw [List.nil_append] at hs
  refine ⟨U0,u :: V,?_,by simp,by simp at h3;omega⟩
  rw [swp_comm _ (by omega),show P ++ (U0 ++ [u]) ++ y :: (V ++ T) = P ++ U0 ++ u :: y :: (V ++ T) by simp,hs]
  simp
theorem GoL.done {P : List El} {y : El} {A2 T L : List El} {k : Nat} (h : GoL P y A2 T k L) (hk : k ≤ P.length) : L = P ++ y :: (A2 ++ T) := by
  obtain ⟨U,V,rfl,rfl,h3⟩ := h.out
  have : U = [] := List.length_eq_zero_iff.1 (by omega)
  subst this
  simp
end Go.Proofs.Ythfaimomcbmniaa.Z
end
section
namespace Go.Proofs.Ythfaimomcbmniaa.Z
set_option linter.unusedVariables false
set_option linter.unusedSimpArgs false
open Go.RowKit Go.Proofs.YthfaimomcbmniaaW.PrintWords Go.Proofs.YthfaimomcbmniaaW.PrintLast Go.Proofs.YthfaimomcbmniaaW.PrintMore
end Go.Proofs.Ythfaimomcbmniaa.Z
end
section
namespace Go.Proofs.Ythfaimomcbmniaa.Z
set_option linter.unusedVariables false
set_option linter.unusedSimpArgs false
open Go.RowKit Go.Proofs.YthfaimomcbmniaaW.PrintWords Go.Proofs.YthfaimomcbmniaaW.PrintLast Go.Proofs.YthfaimomcbmniaaW.PrintMore
end Go.Proofs.Ythfaimomcbmniaa.Z
end
section
namespace Go.Proofs.Ythfaimomcbmniaa.Z
set_option linter.unusedVariables false
set_option linter.unusedSimpArgs false
set_option linter.unnecessarySimpa false
structure Cut (cf : Fe → Fe → Int) (A B A1 A2 B1 B2 : List El) : Prop where
  eA : A = A1 ++ A2
  eB : B = B1 ++ B2
  ab : ∀ x ∈ A1,∀ y ∈ B2,Lx cf x y
  ba : ∀ y ∈ B1,∀ x ∈ A2,Lx cf y x
end Go.Proofs.Ythfaimomcbmniaa.Z
end
section
namespace Go.Proofs.Ythfaimomcbmniaa.Z
set_option linter.unusedVariables false
set_option linter.unusedSimpArgs false
open Go.RowKit Go.Proofs.YthfaimomcbmniaaW.PrintWords Go.Proofs.YthfaimomcbmniaaW.PrintLast Go.Proofs.YthfaimomcbmniaaW.PrintMore
end Go.Proofs.Ythfaimomcbmniaa.Z
end
section
namespace Go.Proofs.Ythfaimomcbmniaa.Z
set_option linter.unusedVariables false
set_option linter.unusedSimpArgs false
set_option linter.unnecessarySimpa false
open Go.RowKit Go.Proofs.YthfaimomcbmniaaW.PrintWords Go.Proofs.YthfaimomcbmniaaW.PrintLast Go.Proofs.YthfaimomcbmniaaW.PrintMore
structure Segs (cf : Fe → Fe → Int) (X : List El) (Gs : List (List El)) : Prop where
  perm : Gs.flatten.Perm X
  srt : ∀ g ∈ Gs,Sorted cf g
  apart : Gs.Pairwise (fun c d => ∀ x ∈ c,∀ y ∈ d,x.2 < y.2)
theorem Segs.merge {cf : Fe → Fe → Int} {X : List El} {E D : List (List El)} {c d C : List El} (h : Segs cf X (E ++ c :: d :: D)) (hp : C.Perm (c ++ d)) (hs : Sorted cf C) : Segs cf X (E ++ C :: D) := by
  refine ⟨?_,?_,?_⟩
  · refine List.Perm.trans ?_ h.perm
    rw [List.flatten_append,List.flatten_append,List.flatten_cons,List.flatten_cons,List.flatten_cons]
    refine List.Perm.append_left _ ?_
    rw [← List.append_assoc]
    exact List.Perm.append_right _ hp
  · intro g hg
    rcases List.mem_append.1 hg with hg | hg
    · exact h.srt g (by simp [hg])
    · rcases List.mem_cons.1 hg with rfl | hg
      · exact hs
      · exact h.srt g (by simp [hg])
  · obtain ⟨h1,h2,h3⟩ := List.pairwise_append.1 h.apart
    obtain ⟨k1,k2⟩ := List.pairwise_cons.1 h2
    obtain ⟨k3,k4⟩ := List.pairwise_cons.1 k2
    refine List.pairwise_append.2 ⟨h1,List.pairwise_cons.2 ⟨?_,k4⟩,?_⟩
    · intro g hg x hx y hy
      rcases List.mem_append.1 (hp.mem_iff.1 hx) with hx | hx
      · exact k1 g (by simp [hg]) x hx y hy
      · exact k3 g hg x hx y hy
    · intro e he g hg
      rcases List.mem_cons.1 hg with rfl | hg
      · intro x hx y hy
        rcases List.mem_append.1 (hp.mem_iff.1 hy) with hy | hy
        · exact h3 e he c (by simp) x hx y hy
        · exact h3 e he d (by simp) x hx y hy
      · exact h3 e he g (by simp [hg])
structure Half (cf : Fe → Fe → Int) (X : List El) (Gs : List (List El)) (R : List El) : Prop where
  perm : (Gs.flatten ++ R).Perm X
  srt : ∀ g ∈ Gs,Sorted cf g
  apart : Gs.Pairwise (fun c d => ∀ x ∈ c,∀ y ∈ d,x.2 < y.2)
  tags : Tags R
  ahead : ∀ g ∈ Gs,∀ x ∈ g,∀ y ∈ R,x.2 < y.2
theorem Half.step {cf : Fe → Fe → Int} {X R1 R2 C : List El} {Gs : List (List El)} (h : Half cf X Gs (R1 ++ R2)) (hp : C.Perm R1) (hs : Sorted cf C) : Half cf X (Gs ++ [C]) R2 := by
  obtain ⟨t1,t2,t3⟩ := List.pairwise_append.1 h.tags
  refine ⟨?_,?_,?_,t2,?_⟩
  · refine List.Perm.trans ?_ h.perm
    rw [List.flatten_append,List.append_assoc]
    refine List.Perm.append_left _ ?_
    simpa using List.Perm.append_right R2 hp
  · intro g hg
    rcases List.mem_append.1 hg with hg | hg
    · exact h.srt g hg
    · rw [List.mem_singleton.1 hg];exact hs
  · refine List.pairwise_append.2 ⟨h.apart,List.pairwise_singleton _ _,?_⟩
    intro c hc d hd x hx y hy
    rw [List.mem_singleton.1 hd] at hy
    exact h.ahead c hc x hx y (List.mem_append_left _ (hp.mem_iff.1 hy))
  · intro g hg x hx y hy
    rcases List.mem_append.1 hg with hg | hg
    · exact h.ahead g hg x hx y (List.mem_append_right _ hy)
    · rw [List.mem_singleton.1 hg] at hx
      exact t3 x (hp.mem_iff.1 hx) y hy
theorem Half.segs {cf : Fe → Fe → Int} {X R C : List El} {Gs : List (List El)} (h : Half cf X Gs R) (hp : C.Perm R) (hs : Sorted cf C) : Segs cf X (Gs ++ [C]) := by
  have k := Half.step (R1 := R) (R2 := []) (C := C) (show Half cf X Gs (R ++ []) by rw [List.append_nil];exact h) hp hs
  exact ⟨by simpa using k.perm,k.srt,k.apart⟩
def AllLen (s : Nat) (Gs : List (List El)) : Prop := ∀ g ∈ Gs,g.length = s
theorem AllLen.flat {s : Nat} : ∀ {Gs : List (List El)},AllLen s Gs → Gs.flatten.length = Gs.length * s
  | [],_ => by simp
  | g :: Gs,h => by
    have e := AllLen.flat (s := s) (Gs := Gs) fun d hd => h d (by simp [hd])
    have := h g (by simp)
    rw [List.flatten_cons,List.length_append,e,this,List.length_cons,Nat.succ_mul,Nat.add_comm]
theorem AllLen.app {s : Nat} {Gs : List (List El)} {C : List El} (h : AllLen s Gs) (hc : C.length = s) : AllLen s (Gs ++ [C]) := by
  intro g hg
  rcases List.mem_append.1 hg with hg | hg
  · exact h g hg
  · rw [List.mem_singleton.1 hg];exact hc
end Go.Proofs.Ythfaimomcbmniaa.Z
end
section
namespace Go.Proofs.Ythfaimomcbmniaa.Z
set_option linter.unusedVariables false
set_option linter.unusedSimpArgs false
set_option linter.unnecessarySimpa false
open Go.RowKit Go.Proofs.YthfaimomcbmniaaW.PrintWords Go.Proofs.YthfaimomcbmniaaW.PrintLast Go.Proofs.YthfaimomcbmniaaW.PrintMore
theorem AllLen.small {s : Nat} {Ds : List (List El)} (h : AllLen s Ds) (r : Nat) (hb : Ds.flatten.length + r < 2 * s) : Ds = [] ∨ ∃ d,Ds = [d] ∧ d.length = s := by
  match Ds,h with
  | [],_ => exact Or.inl rfl
  | [c],h => exact Or.inr ⟨c,rfl,h c (by simp)⟩
  | c :: d :: D,h =>
    have := h c (by simp)
    have := h d (by simp)
    simp at hb
    omega
structure MidAt (cf : Fe → Fe → Int) (X : List El) (s a : Nat) (Es Ds : List (List El)) (R : List El) (n : Nat) (L : List El) : Prop where
  segs : Segs cf X (Es ++ (Ds ++ [R]))
  le : AllLen (2 * s) Es
  ld : AllLen s Ds
  lr : R.length < s
  la : Es.flatten.length = a
  ll : a + (Ds.flatten.length + R.length) = n
  flat : L = (Es ++ (Ds ++ [R])).flatten
structure OutAt (cf : Fe → Fe → Int) (X : List El) (s : Nat) (n : Nat) (L : List El) : Prop where
  out : ∃ Gs R,Segs cf X (Gs ++ [R]) ∧ AllLen s Gs ∧ R.length < s ∧ Gs.flatten.length + R.length = n ∧ L = (Gs ++ [R]).flatten
theorem OutAt.enter {cf : Fe → Fe → Int} {X : List El} {s n : Nat} {L : List El} (h : OutAt cf X s n L) : ∃ Ds R,MidAt cf X s 0 [] Ds R n L := by
  obtain ⟨Gs,R,h1,h2,h3,h4,h5⟩ := h.out
  exact ⟨Gs,R,h1,fun g hg => absurd hg (by simp),h2,h3,rfl,by omega,h5⟩
theorem OutAt.done {cf : Fe → Fe → Int} {X : List El} {s n : Nat} {L : List El} (h : OutAt cf X s n L) (hs : n ≤ s) (hp : 0 < s) : L.Perm X ∧ Sorted cf L := by
  obtain ⟨Gs,R,h1,h2,h3,h4,h5⟩ := h.out
  subst h5
  refine ⟨h1.perm,?_⟩
  rcases h2.small R.length (by omega) with rfl | ⟨d,rfl,hd⟩
  · simpa using h1.srt R (by simp)
  · have : R = [] := List.length_eq_zero_iff.1 (by simp at h4;omega)
    subst this
    simpa using h1.srt d (by simp)
theorem MidAt.len {cf : Fe → Fe → Int} {X : List El} {s a n : Nat} {Es Ds : List (List El)} {R L : List El} (h : MidAt cf X s a Es Ds R n L) : L.length = n := by
  have h1 := h.la
  have h2 := h.ll
  rw [h.flat,List.flatten_append,List.flatten_append,List.length_append,List.length_append]
  simp [-List.length_flatten]
  omega
theorem MidAt.step {cf : Fe → Fe → Int} {X : List El} {s a n : Nat} {Es D : List (List El)} {c d R L C : List El} (h : MidAt cf X s a Es (c :: d :: D) R n L) (hp : C.Perm (c ++ d)) (hs : Sorted cf C) : MidAt cf X s (a + 2 * s) (Es ++ [C]) D R n (Es.flatten ++ C ++ (D ++ [R]).flatten) := by
  have hc := h.ld c (by simp)
  have hd := h.ld d (by simp)
  have hl : C.length = 2 * s := by rw [hp.length_eq,List.length_append];omega
  have h1 := h.la
  have h2 := h.ll
  refine ⟨?_,h.le.app hl,fun g hg => h.ld g (by simp [hg]),h.lr,?_,?_,?_⟩
  · have := h.segs.merge (E := Es) (D := D ++ [R]) hp hs
    simpa using this
  · rw [List.flatten_append,List.length_append];simp [-List.length_flatten];omega
  · simp [-List.length_flatten] at h2 ⊢;omega
  · simp
structure BegAt (cf : Fe → Fe → Int) (X : List El) (a n : Nat) (L : List El) : Prop where
  out : ∃ Gs R,Half cf X Gs R ∧ AllLen 20 Gs ∧ Gs.flatten.length = a ∧ a + R.length = n ∧ L = Gs.flatten ++ R
end Go.Proofs.Ythfaimomcbmniaa.Z
end
section
namespace Go.Proofs.Ythfaimomcbmniaa.Z
set_option linter.unusedVariables false
set_option linter.unusedSimpArgs false
open Go.RowKit Go.Proofs.YthfaimomcbmniaaW.PrintWords Go.Proofs.YthfaimomcbmniaaW.PrintLast Go.Proofs.YthfaimomcbmniaaW.PrintMore
end Go.Proofs.Ythfaimomcbmniaa.Z
end
section
namespace Go.Proofs.Ythfaimomcbmniaa.Z
set_option linter.unusedVariables false
set_option linter.unusedSimpArgs false
open Go.RowKit Go.Proofs.YthfaimomcbmniaaW.PrintWords Go.Proofs.YthfaimomcbmniaaW.PrintLast Go.Proofs.YthfaimomcbmniaaW.PrintMore
structure SameOk (g : Nat) (cf : Fe → Fe → Int) : Prop where
  calls : ∀ (u v : Fe) (W : World) (blk : Nat),Gd W blk u → Gd W blk v → Calls Try.prog g #[.agg #[.string u.f0,.slice u.A u.row.length u.c],.agg #[.string v.f0,.slice v.A v.row.length v.c]] W fun e w' => e = .returned (.bool (decide (cf u v = 0))) ∧ Below W.heap.size W w'
def keepJ (cf : Fe → Fe → Int) (L : List El) (j : Nat) : Bool := decide (j = 0) || !decide (cf (atL L j).1 (atL L (j - 1)).1 = 0)
def compU (cf : Fe → Fe → Int) (L : List El) (m : Nat) : List El := ((List.range m).filter (keepJ cf L)).map (atL L)
def compL (cf : Fe → Fe → Int) (L : List El) : List El := compU cf L L.length
theorem compU_succ (cf : Fe → Fe → Int) (L : List El) (m : Nat) : compU cf L (m + 1) = compU cf L m ++ (if keepJ cf L m = true then [atL L m] else []) := by
  unfold compU
  rw [List.range_succ,List.filter_append,List.map_append]
  congr 1
  by_cases h : keepJ cf L m = true
  · simp [h]
  · simp [h]
structure CI (cf : Fe → Fe → Int) (L : List El) (m kk : Nat) (Lk : List El) : Prop where
  len : Lk.length = L.length
  cnt : (compU cf L m).length = kk
  pre : Lk.take kk = compU cf L m
  lt : kk < m
  mle : m ≤ L.length
  high : ∀ j,m ≤ j + 1 → j < L.length → atL Lk j = atL L j
theorem CI.skip {cf : Fe → Fe → Int} {L Lk : List El} {m kk : Nat} (h : CI cf L m kk Lk) (hm : m < L.length) (hn : keepJ cf L m = false) : CI cf L (m + 1) kk Lk := by
  have h2 : compU cf L (m + 1) = compU cf L m := by rw [compU_succ,hn];simp
  exact ⟨h.len,by rw [h2,h.cnt],by rw [h2,h.pre],by have := h.lt;omega,hm,fun j h1 h2 => h.high j (by omega) h2⟩
theorem CI.done {cf : Fe → Fe → Int} {L Lk : List El} {m kk : Nat} (h : CI cf L m kk Lk) (hm : m = L.length) : Lk.take kk = compL cf L ∧ (compL cf L).length = kk := by
  subst hm
  exact ⟨h.pre,h.cnt⟩
theorem setCells_blk {blk : Nat} : ∀ (vs : List Value) (o : Nat) (w : World) (cells : Array Value),w.heap[blk]? = some (.cells cells 56 (0,0)) → ∃ cells',(w.setCells blk o vs).heap[blk]? = some (.cells cells' 56 (0,0))
  | [],_,_,cells,h => ⟨cells,h⟩
  | v :: r,o,w,cells,h => setCells_blk r (o + 1) _ _ (blk_set h o v)
theorem atL_take (L : List El) (m i : Nat) (h : i < m) : atL (L.take m) i = atL L i := by
  unfold atL
  rw [List.getD_eq_getElem?_getD,List.getD_eq_getElem?_getD,List.getElem?_take_of_lt h]
theorem RowAt.pre {w : World} {blk : Nat} {L : List El} (h : RowAt w blk L) (m : Nat) : RowAt w blk (L.take m) := by
  obtain ⟨cells,hb,hc⟩ := h.out
  refine ⟨⟨cells,hb,fun i hi => ?_⟩,fun i hi => ?_⟩
  · rw [List.length_take] at hi
    rw [atL_take L m i (by omega)]
    exact hc i (by omega)
  · rw [List.length_take] at hi
    rw [atL_take L m i (by omega)]
    exact h.good i (by omega)
theorem RowAt.clear {w : World} {blk : Nat} {L : List El} (h : RowAt w blk L) (m : Nat) (hm : m ≤ L.length) (vs : List Value) (o : Nat) (ho : m * 2 ≤ o) : RowAt (w.setCells blk o vs) blk (L.take m) := by
  have hsz := (setCells_same blk vs o w).2.2.2
  have key : ∀ i j,i < m → j < 2 → (w.setCells blk o vs).cell? ⟨blk,i * 2 + j,none⟩ = w.cell? ⟨blk,i * 2 + j,none⟩ := fun i j hi hj => World.cell?_setCells_out blk vs o w ⟨blk,i * 2 + j,none⟩ (fun _ _ => .inl (by show i * 2 + j < o;omega))
  obtain ⟨cells,hb,hc⟩ := h.out
  have hb2 : ∃ cells',(w.setCells blk o vs).heap[blk]? = some (.cells cells' 56 (0,0)) := setCells_blk vs o w cells hb
  obtain ⟨cells',hb'⟩ := hb2
  refine ⟨⟨cells',hb',fun i hi => ?_⟩,fun i hi => ?_⟩
  · rw [List.length_take] at hi
    rw [atL_take L m i (by omega)]
    have h1 := hc i (by omega)
    have k2 : ∀ j,j < 2 → cells'[i * 2 + j]? = cells[i * 2 + j]? := fun j hj => by
      have := key i j (by omega) hj
      rw [blk_cell hb',blk_cell hb] at this
      exact this
    exact ⟨(k2 0 (by omega)).trans h1.1,(k2 1 (by omega)).trans h1.2⟩
  · rw [List.length_take] at hi
    rw [atL_take L m i (by omega)]
    exact (h.good i (by omega)).step (Nat.le_of_eq hsz.symm) (fun k _ hn => setCells_far vs o k hn)
end Go.Proofs.Ythfaimomcbmniaa.Z
end
section
namespace Go.Proofs.Ythfaimomcbmniaa.Z
set_option linter.unusedVariables false
set_option linter.unusedSimpArgs false
section
variable {α β : Type}
structure Law3 (cf : α → α → Int) : Prop where
  anti : ∀ x y,cf y x = -cf x y
  trans : ∀ x y z,cf x y ≤ 0 → cf y z ≤ 0 → cf x z ≤ 0
end
end Go.Proofs.Ythfaimomcbmniaa.Z
end
section
namespace Go.Proofs.Ythfaimomcbmniaa.Z
open Go.RowKit Go.Proofs.YthfaimomcbmniaaW.PrintWords Go.Proofs.YthfaimomcbmniaaW.PrintLast Go.Proofs.YthfaimomcbmniaaW.PrintMore
attribute [local go_sem] max2_int min2_int max_two min_two max_three min_three max_four min_four
set_option linter.unusedVariables false
set_option linter.unusedSimpArgs false
def cmp_isNaN_132.f (a0 : ByteArray) : Option (Bool) := some (a0.toList != a0.toList)
set_option maxHeartbeats 8000000 in
set_option maxRecDepth 100000 in
theorem cmp_isNaN_132.calls (a0 : ByteArray) (r : Bool) (w : World) (h : cmp_isNaN_132.f a0 = some r) :
    Calls Try.prog 132 #[.string a0] w fun e w' => e = .returned (.bool r) ∧ Drawn0 w w' := by
  have H : (some (a0.toList != a0.toList)) = some r := h
  clear h
  obtain rfl := Option.some.inj H
  go_enter Try.func132,Try.ntmps132
  go_wp2
  go_ret
  exact ⟨by first | rfl | (simp;done) | (simp [*];done),by repeat (first | exact Drawn0.refl _ | apply Drawn0.step)⟩
end Go.Proofs.Ythfaimomcbmniaa.Z
end
section
namespace Go.Proofs.Ythfaimomcbmniaa.Z
set_option linter.unusedVariables false
open Go.RowKit Go.Proofs.YthfaimomcbmniaaW.PrintWords Go.Proofs.YthfaimomcbmniaaW.PrintLast Go.Proofs.YthfaimomcbmniaaW.PrintMore Go.Proofs.Ythfaimomcbmniaa.Cmp
def cmp_Compare_115.f (a0 a1 : ByteArray) : Option Int := some (cmpB a0.data.toList a1.data.toList)
theorem less_cmp : ∀ a b : List UInt8,(Op.bytesLess a b = true ↔ cmpB a b < 0)
  | [],[] => by simp [Op.bytesLess,cmpB,lexC]
  | [],b :: bs => by simp [Op.bytesLess,cmpB,lexC]
  | a :: as',[] => by simp [Op.bytesLess,cmpB,lexC]
  | a :: as',b :: bs => by
    have ih := less_cmp as' bs
    simp only [Op.bytesLess,cmpB,lexC,Bool.or_eq_true,Bool.and_eq_true,decide_eq_true_eq,beq_iff_eq] at ih ⊢
    have hlt : a < b ↔ a.toNat < b.toNat := UInt8.lt_iff_toNat_lt
    have heq : a = b ↔ a.toNat = b.toNat := UInt8.toNat_inj.symm
    rw [hlt,heq]
    by_cases h1 : a.toNat = b.toNat
    · have h0 : cmpI (a.toNat : Int) (b.toNat : Int) = 0 := cmpI_eq.2 (by omega)
      rw [if_pos h0,← ih]
      constructor
      · rintro (h | ⟨_,h⟩)
        · omega
        · exact h
      · exact fun h => .inr ⟨h1,h⟩
    · have h0 : ¬ cmpI (a.toNat : Int) (b.toNat : Int) = 0 := fun h => h1 (by have := cmpI_eq.1 h;omega)
      rw [if_neg h0]
      unfold cmpI
      constructor
      · rintro (h | ⟨h,_⟩)
        · rw [if_pos (by omega)];omega
        · exact absurd h h1
      · intro h
        refine .inl ?_
        split at h
        · omega
        · split at h <;> omega
theorem cmpB_gt (a b : List UInt8) : Op.bytesLess b a = true ↔ 0 < cmpB a b := by
  rw [less_cmp b a,cmpB_law.anti a b]
  omega
theorem cmpB_lo (a b : List UInt8) : -1 ≤ cmpB a b ∧ cmpB a b ≤ 1 := ⟨cmpB_law.lo a b,cmpB_law.hi a b⟩
set_option maxHeartbeats 1000000 in
theorem cmp_Compare_115.calls (a0 a1 : ByteArray) (r : Int) (w : World) (h : cmp_Compare_115.f a0 a1 = some r) :
    Calls Try.prog 115 #[.string a0,.string a1] w fun e w' => e = .returned (.int .i64 r) ∧ Below w.heap.size w w' := by
  obtain rfl := Option.some.inj h
  have N0 := Aside0.mk (fun W => cmp_isNaN_132.calls a0 false W (by unfold cmp_isNaN_132.f;simp))
  have N1 := Aside0.mk (fun W => cmp_isNaN_132.calls a1 false W (by unfold cmp_isNaN_132.f;simp))
  have l1 := cmpB_lo a0.data.toList a1.data.toList
  have h1 := less_cmp a0.data.toList a1.data.toList
  have h2 := cmpB_gt a0.data.toList a1.data.toList
  have h3 : (a0.toList == a1.toList) = decide (cmpB a0.data.toList a1.data.toList = 0) := by
    rw [ByteArray.toList_eq,ByteArray.toList_eq]
    by_cases e : a0.data.toList = a1.data.toList
    · rw [e,cmpB_law.self];simp
    · have : ¬ cmpB a0.data.toList a1.data.toList = 0 := fun q => e (cmpB_eq q)
      rw [decide_eq_false this]
      exact beq_eq_false_iff_ne.2 e
  rw [← ByteArray.toList_eq,← ByteArray.toList_eq] at *
  generalize cmpB a0.toList a1.toList = q at *
  by_cases c1 : q < 0
  · obtain rfl : q = -1 := by omega
    have b1 : Op.bytesLess a0.toList a1.toList = true := h1.2 c1
    clear h3 h1 h2 l1 c1 h
    go_enter Try.func115,Try.ntmps115
    go_wp2_with (fail)
    refine (N0.out _).mono ?_
    rintro e w1 ⟨rfl,hd⟩
    have B1 := Aside0.mk hd.below
    clear hd
    go_wp2_with (fail)
    refine (N1.out _).mono ?_
    rintro e w2 ⟨rfl,hd⟩
    have B2 := Aside0.mk (B1.out.trans (hd.below.mono B1.out.size))
    clear hd B1
    go_wp2_with (fail)
    go_ret
    exact ⟨rfl,B2.out⟩
  · have b1 : Op.bytesLess a0.toList a1.toList = false := Bool.eq_false_iff.2 (fun h => c1 (h1.1 h))
    by_cases c2 : 0 < q
    · obtain rfl : q = 1 := by omega
      have b2 : Op.bytesLess a1.toList a0.toList = true := h2.2 c2
      have b3 : (a0.toList == a1.toList) = false := h3.trans (by decide)
      clear h3 h1 h2 l1 c1 c2 h
      go_enter Try.func115,Try.ntmps115
      go_wp2_with (fail)
      refine (N0.out _).mono ?_
      rintro e w1 ⟨rfl,hd⟩
      have B1 := Aside0.mk hd.below
      clear hd
      go_wp2_with (fail)
      refine (N1.out _).mono ?_
      rintro e w2 ⟨rfl,hd⟩
      have B2 := Aside0.mk (B1.out.trans (hd.below.mono B1.out.size))
      clear hd B1
      go_wp2_with (fail)
      go_ret
      exact ⟨rfl,B2.out⟩
    · obtain rfl : q = 0 := by omega
      have b2 : Op.bytesLess a1.toList a0.toList = false := Bool.eq_false_iff.2 (fun h => c2 (h2.1 h))
      have b3 : (a0.toList == a1.toList) = true := h3.trans (by decide)
      clear h3 h1 h2 l1 c1 c2 h
      go_enter Try.func115,Try.ntmps115
      go_wp2_with (fail)
      refine (N0.out _).mono ?_
      rintro e w1 ⟨rfl,hd⟩
      have B1 := Aside0.mk hd.below
      clear hd
      go_wp2_with (fail)
      refine (N1.out _).mono ?_
      rintro e w2 ⟨rfl,hd⟩
      have B2 := Aside0.mk (B1.out.trans (hd.below.mono B1.out.size))
      clear hd B1
      go_wp2_with (fail)
      go_ret
      exact ⟨rfl,B2.out⟩
end Go.Proofs.Ythfaimomcbmniaa.Z
end
section
namespace Go.Proofs.Ythfaimomcbmniaa.Z
open Go.RowKit Go.Proofs.YthfaimomcbmniaaW.PrintWords Go.Proofs.YthfaimomcbmniaaW.PrintLast Go.Proofs.YthfaimomcbmniaaW.PrintMore
attribute [local go_sem] max2_int min2_int max_two min_two max_three min_three max_four min_four
set_option linter.unusedVariables false
set_option linter.unusedSimpArgs false
def cmp_Or.l0 : Nat → Int → List Int → Int → Int → Option (Int)
  | 0,_,_,_,_ => none
  | k + 1,x3,x6,x7,x8 => if x8 < x7 then (if 0 ≤ x8 then (if x8 < (x6.length : Int) then (if (rd x6 x8) = x3 then (cmp_Or.l0 k x3 x6 x7 (wrap64 (x8 + 1))) else (some (rd x6 x8))) else (none)) else (none)) else (some x3)
def cmp_Or.f (k : Nat) (l0 : List Int) : Option (Int) := cmp_Or.l0 k 0 l0 (l0.length : Int) 0
theorem cmp_Or.mono_l : ∀ k,(∀ y0 y1 y2 y3,LeO (cmp_Or.l0 k y0 y1 y2 y3) (cmp_Or.l0 (k + 1) y0 y1 y2 y3))
  | 0 => fun _ _ _ _ r h => by simp [cmp_Or.l0] at h
  | k + 1 => by
    have ih0 := cmp_Or.mono_l k
    · intro y0 y1 y2 y3
      unfold cmp_Or.l0
      repeat' first
      | (with_reducible exact ih0 _ _ _ _)
      | (with_reducible exact LeO.refl _)
      | (with_reducible exact LeO.none _)
      | (with_reducible refine LeO.ite ?_ ?_)
      | (with_reducible refine LeO.bind ?_ (fun _ => ?_))
      | exact ih0 _ _ _ _
      | exact LeO.none _
      | refine LeO.ite ?_ ?_
      | refine LeO.bind ?_ (fun _ => ?_)
theorem cmp_Or.mono : ∀ a0 k,LeO (cmp_Or.f k a0) (cmp_Or.f (k + 1) a0) := by
  intro a0 k
  have ih0 := cmp_Or.mono_l k
  unfold cmp_Or.f
  repeat' first
      | (with_reducible exact ih0 _ _ _ _)
      | (with_reducible exact LeO.refl _)
      | (with_reducible exact LeO.none _)
      | (with_reducible refine LeO.ite ?_ ?_)
      | (with_reducible refine LeO.bind ?_ (fun _ => ?_))
      | exact ih0 _ _ _ _
      | exact LeO.none _
      | refine LeO.ite ?_ ?_
      | refine LeO.bind ?_ (fun _ => ?_)
set_option maxHeartbeats 8000000 in
set_option maxRecDepth 100000 in
theorem cmp_Or.calls (k : Nat) (A0 : Option Addr) (c0 : Nat) (l0 : List Int) (r : Int) (w : World) (hr0 : Kd.C (Kd.int .i64) w A0 l0.length l0) (hc0 : l0.length ≤ c0) (h : cmp_Or.f k l0 = some r) :
    Calls Try.prog 114 #[.slice A0 l0.length c0] w fun e w' => e = .returned (.int .i64 r) ∧ Drawn0 w w' := by
  have HR0 := Aside0.mk hr0
  have HC0 := Aside0.mk hc0
  clear hr0 hc0
  have H : (cmp_Or.l0 k 0 l0 (l0.length : Int) 0) = some r := h
  clear h
  have H' := Aside0.mk H
  clear H
  go_enter Try.func114,Try.ntmps114
  go_wp2
  go_loopg [8] k (fun kq v8 w' => ∃ (x8_1 : Int),v8 = .int .i64 x8_1 ∧ Aside0 (cmp_Or.l0 kq 0 l0 (l0.length : Int) x8_1 = some r) ∧ Aside0 (kq ≤ k) ∧ Drawn0 w w')
  case atStart => exact ⟨(0),(by first | rfl | (simp;done) | (simp [*];done)),H',⟨Nat.le_refl _⟩,by repeat (first | exact Drawn0.refl _ | apply Drawn0.step)⟩
  case round =>
    clear H'
    try clear c1
    obtain ⟨x8_1,rfl,HA,HK1,⟨m1,rfl⟩⟩ := hrel
    cases gk with
    | zero => exact absurd HA.out (by simp [cmp_Or.l0])
    | succ k1 =>
      have H := HA.out
      clear HA
      simp only [cmp_Or.l0] at H
      by_cases c2 : x8_1 < (l0.length : Int)
      · rw [if_pos c2] at H
        have c2b0 : decide (x8_1 < (l0.length : Int)) = true := decide_eq_true c2
        clear c2
        by_cases c3 : 0 ≤ x8_1
        · rw [if_pos c3] at H
          have c3b0 : decide (0 ≤ x8_1) = true := decide_eq_true c3
          clear c3
          by_cases c4 : x8_1 < (l0.length : Int)
          · rw [if_pos c4] at H
            have c4b0 : decide (x8_1 < (l0.length : Int)) = true := decide_eq_true c4
            clear c4
            by_cases c5 : (rd l0 x8_1) = 0
            · rw [if_pos c5] at H
              have c5b0 : ((rd l0 x8_1) == 0) = true := beq_iff_eq.mpr c5
              have c5b1 : ((rd l0 x8_1) != 0) = false := bne_eq_false_iff_eq.mpr c5
              clear c5
              have H' := Aside0.mk H
              clear H
              have p237 : 0 ≤ (x8_1 : Int) := of_decide_eq_true (by first | (with_reducible assumption) | assumption)
              have q237 : x8_1 < (l0.length : Int) := of_decide_eq_true (by first | (with_reducible assumption) | assumption)
              obtain ⟨ad237,e237,hx237_0⟩ := Kd.at_int HR0.out x8_1 p237 q237
              cases e237
              replace p237 := eq_true p237
              replace q237 := eq_true q237
              go_wp2
              go_roundg k1
              case measure => have := HK1.out;omega
              case rel => exact ⟨(wrap64 (x8_1 + 1)),(by first | rfl | (simp;done) | (simp [*];done)),H',⟨by have := HK1.out;omega⟩,by repeat (first | exact Drawn0.refl _ | apply Drawn0.step)⟩
            · rw [if_neg c5] at H
              have c5b0 : ((rd l0 x8_1) == 0) = false := beq_eq_false_iff_ne.mpr c5
              have c5b1 : ((rd l0 x8_1) != 0) = true := bne_iff_ne.mpr c5
              obtain rfl := Option.some.inj H
              have p237 : 0 ≤ (x8_1 : Int) := of_decide_eq_true (by first | (with_reducible assumption) | assumption)
              have q237 : x8_1 < (l0.length : Int) := of_decide_eq_true (by first | (with_reducible assumption) | assumption)
              obtain ⟨ad237,e237,hx237_0⟩ := Kd.at_int HR0.out x8_1 p237 q237
              cases e237
              replace p237 := eq_true p237
              replace q237 := eq_true q237
              go_wp2
              go_ret
              exact ⟨by first | rfl | (simp;done) | (simp [*];done),by repeat (first | exact Drawn0.refl _ | apply Drawn0.step)⟩
          · rw [if_neg c4] at H
            exact absurd H (by simp)
        · rw [if_neg c3] at H
          exact absurd H (by simp)
      · rw [if_neg c2] at H
        have c2b0 : decide (x8_1 < (l0.length : Int)) = false := decide_eq_false c2
        clear c2
        obtain rfl := Option.some.inj H
        go_wp2
        go_ret
        exact ⟨by first | rfl | (simp;done) | (simp [*];done),by repeat (first | exact Drawn0.refl _ | apply Drawn0.step)⟩
end Go.Proofs.Ythfaimomcbmniaa.Z
end
section
namespace Go.Proofs.Ythfaimomcbmniaa.Z
open Go.RowKit Go.Proofs.YthfaimomcbmniaaW.PrintWords Go.Proofs.YthfaimomcbmniaaW.PrintLast Go.Proofs.YthfaimomcbmniaaW.PrintMore
attribute [local go_sem] max2_int min2_int max_two min_two max_three min_three max_four min_four
set_option linter.unusedVariables false
set_option linter.unusedSimpArgs false
def feed_ahead.f (k : Nat) (a0_0 : ByteArray) (l0_1 : List (S149)) (a1_0 : ByteArray) (l1_1 : List (S149)) : Option (Int) := (cmp_Compare_115.f a0_0 a1_0).bind fun t240 => ((row_Compare.f k l0_1 l1_1).bind fun t241 => ((cmp_Or.f k (([t240,t241] : List Int))).bind fun t245 => (some t245)))
theorem feed_ahead.mono : ∀ a0 a1 a2 a3 k,LeO (feed_ahead.f k a0 a1 a2 a3) (feed_ahead.f (k + 1) a0 a1 a2 a3) := by
  intro a0 a1 a2 a3 k
  unfold feed_ahead.f
  repeat' first
      | (with_reducible exact cmp_Or.mono _ _)
      | (with_reducible exact row_Compare.mono _ _ _)
      | (with_reducible exact LeO.refl _)
      | (with_reducible exact LeO.none _)
      | (with_reducible refine LeO.ite ?_ ?_)
      | (with_reducible refine LeO.bind ?_ (fun _ => ?_))
      | exact cmp_Or.mono _ _
      | exact row_Compare.mono _ _ _
      | exact LeO.none _
      | refine LeO.ite ?_ ?_
      | refine LeO.bind ?_ (fun _ => ?_)
def feed_ahead.T1 : Bool × List (List Nat × List Nat) := (true,[([],[]),([0],[0]),([],[]),([2],[2]),([1,3],[1,3]),([],[]),([5],[5]),([],[]),([7],[7]),([6,8,4],[6,8]),([4,9],[4,9]),([10,9],[10]),([11,11,0,1,2,3,4,5,6,7,8,9,10,11],[11])])
def feed_ahead.B1 : List Nat := [0,1,0,4,15,0,32,0,128,511,1023,2047,4095]
theorem feed_ahead.tab1 : rtab .any (opsOf Try.f69 1) = feed_ahead.T1 := by kernel_rfl
theorem feed_ahead.bits1 : waitsOk feed_ahead.T1.2 feed_ahead.B1 = true := by kernel_rfl
set_option maxHeartbeats 8000000 in
set_option maxRecDepth 100000 in
theorem feed_ahead.calls (k : Nat) (a0_0 : ByteArray) (A0_1 : Option Addr) (c0_1 : Nat) (l0_1 : List (S149)) (a1_0 : ByteArray) (A1_1 : Option Addr) (c1_1 : Nat) (l1_1 : List (S149)) (r : Int) (w : World) (hr0_1 : Kd.C k149 w A0_1 l0_1.length l0_1) (hc0_1 : l0_1.length ≤ c0_1) (hr1_1 : Kd.C k149 w A1_1 l1_1.length l1_1) (hc1_1 : l1_1.length ≤ c1_1) (h : feed_ahead.f k a0_0 l0_1 a1_0 l1_1 = some r) :
    Calls Try.prog 69 #[.agg #[.string a0_0,.slice A0_1 l0_1.length c0_1],.agg #[.string a1_0,.slice A1_1 l1_1.length c1_1]] w fun e w' => e = .returned (.int .i64 r) ∧ Below w.heap.size w w' := by
  have hu56 := Try.underlying56
  have HR0_1 := Aside0.mk hr0_1
  have HC0_1 := Aside0.mk hc0_1
  clear hr0_1 hc0_1
  have HR1_1 := Aside0.mk hr1_1
  have HC1_1 := Aside0.mk hc1_1
  clear hr1_1 hc1_1
  have HB := Aside0.mk (Below.refl w.heap.size w)
  have H : ((cmp_Compare_115.f a0_0 a1_0).bind fun t240 => ((row_Compare.f k l0_1 l1_1).bind fun t241 => ((cmp_Or.f k (([t240,t241] : List Int))).bind fun t245 => (some t245)))) = some r := h
  clear h
  replace H := Option.bind_eq_some_iff.mp H
  obtain ⟨t240,A30,H⟩ := H
  replace H : ((row_Compare.f k l0_1 l1_1).bind fun t241 => ((cmp_Or.f k (([t240,t241] : List Int))).bind fun t245 => (some t245))) = some r := H
  have A3 := Aside0.mk A30
  clear A30
  replace H := Option.bind_eq_some_iff.mp H
  obtain ⟨t241,A40,H⟩ := H
  replace H : ((cmp_Or.f k (([t240,t241] : List Int))).bind fun t245 => (some t245)) = some r := H
  have A4 := Aside0.mk A40
  clear A40
  obtain ⟨y242,hy242⟩ : ∃ y_ : List Int,y_ = (([t240,t241] : List Int)) := ⟨_,rfl⟩
  replace H : ((cmp_Or.f k y242).bind fun t245 => (some t245)) = some r := by first | (rw [hy242];with_reducible exact H) | (have H2_ := (Option.bind_some _ _).symm.trans H;rw [hy242];with_reducible exact H2_) | (have H2_ := (Option.bind_some _ _).symm.trans H;with_reducible exact H2_) | with_reducible exact H | (rw [hy242];exact H) | exact H
  have Ny242 := Aside0.mk hy242
  clear hy242
  replace H := Option.bind_eq_some_iff.mp H
  obtain ⟨t245,A50,H⟩ := H
  replace H : (some t245) = some r := H
  have A5 := Aside0.mk A50
  clear A50
  obtain rfl := Option.some.inj H
  go_enter Try.func69,Try.ntmps69
  try go_wp2_with (first | ((with_reducible refine gate_dst (N := 2) rfl ?_);refine box_event ?hg (N := 2) ?hd (cs := #[.string a0_0,.slice A0_1 l0_1.length c0_1]) (t := 56) ?hr ?_;(case hd => rfl);(case hg => rfl);(case hr => first | (go_simp;done) | (go_simp;rfl));intro gb238 hg w6 hbox hb;have n0_ := Aside0.mk (below_step (by repeat (first | (with_reducible first | exact HB.out | apply below_alloc | apply pw_below_drewN | apply below_drew1) | exact HB.out)) hb);have n1_ := Aside0.mk (hbox);have n2_ := Aside0.mk ((by rw [hg];exact (below_size (by repeat (first | (with_reducible first | exact HB.out | apply below_alloc | apply pw_below_drewN | apply below_drew1) | exact HB.out))) : w.heap.size ≤ gb238));have n3_ := Aside0.mk ((by rw [hg];exact (below_size (by repeat (first | (with_reducible first | exact HB.out | apply below_alloc | apply pw_below_drewN | apply below_drew1) | exact HB.out))) : w.heap.size ≤ gb238));clear HB;have HB := n0_;have BK238 := n1_;have GW238 := n2_;have GE238 := n3_;clear n0_ n1_ n2_ n3_;clear hb hbox hg) | ((with_reducible refine gate_dst (N := 3) rfl ?_);refine box_event ?hg (N := 3) ?hd (cs := #[.string a1_0,.slice A1_1 l1_1.length c1_1]) (t := 56) ?hr ?_;(case hd => rfl);(case hg => rfl);(case hr => first | (go_simp;done) | (go_simp;rfl));intro gb239 hg w7 hbox hb;have n0_ := Aside0.mk (blk_below (g := gb238) (o := .cells #[.string a0_0,.slice A0_1 l0_1.length c0_1] 56 (0,0)) (by (with_reducible repeat (first | refine blk_drewN ?_ _ | refine blk_drew ?_ | refine blk_alloc ?_ _));exact BK238.out) hb);have n1_ := Aside0.mk (below_step (by repeat (first | (with_reducible first | exact HB.out | apply below_alloc | apply pw_below_drewN | apply below_drew1 | refine below_set ?_ GE238.out) | exact HB.out)) hb);have n2_ := Aside0.mk (hbox);have n3_ := Aside0.mk ((by rw [hg];exact (below_size (by repeat (first | (with_reducible first | exact HB.out | apply below_alloc | apply pw_below_drewN | apply below_drew1 | refine below_set ?_ GE238.out) | exact HB.out))) : w.heap.size ≤ gb239));have n4_ := Aside0.mk ((by rw [hg];exact (below_size (by repeat (first | (with_reducible first | exact HB.out | apply below_alloc | apply pw_below_drewN | apply below_drew1 | refine below_set ?_ GE238.out) | exact HB.out))) : w.heap.size ≤ gb239));have n5_ := Aside0.mk ((by rw [hg];exact Nat.ne_of_lt (blk_lt (g := gb238) (o := .cells #[.string a0_0,.slice A0_1 l0_1.length c0_1] 56 (0,0)) (by (with_reducible repeat (first | refine blk_drewN ?_ _ | refine blk_drew ?_ | refine blk_alloc ?_ _));exact BK238.out)) : gb238 ≠ gb239));have n6_ := Aside0.mk ((by rw [hg];exact Nat.ne_of_gt (blk_lt (g := gb238) (o := .cells #[.string a0_0,.slice A0_1 l0_1.length c0_1] 56 (0,0)) (by (with_reducible repeat (first | refine blk_drewN ?_ _ | refine blk_drew ?_ | refine blk_alloc ?_ _));exact BK238.out)) : gb239 ≠ gb238));clear BK238;clear HB;have BK238 := n0_;have HB := n1_;have BK239 := n2_;have GW239 := n3_;have GE239 := n4_;have NB238_239 := n5_;have NB239_238 := n6_;clear n0_ n1_ n2_ n3_ n4_ n5_ n6_;clear hb hbox hg))
  have n0_ := Aside0.mk (blk_drew BK238.out)
  have n1_ := Aside0.mk (blk_drew BK239.out)
  have n2_ := Aside0.mk (below_drew1 HB.out)
  clear BK238
  clear BK239
  clear HB
  have BK238 := n0_
  have BK239 := n1_
  have HB := n2_
  clear n0_ n1_ n2_
  refine start_ (n := 13) (S := fun w' => w'.cell? ⟨gb238,0,none⟩ = some (.string a0_0) ∧ w'.cell? ⟨gb238,1,none⟩ = some (.slice A0_1 l0_1.length c0_1) ∧ w'.cell? ⟨gb239,0,none⟩ = some (.string a1_0) ∧ w'.cell? ⟨gb239,1,none⟩ = some (.slice A1_1 l1_1.length c1_1)) (ds := []) #[false,false,false,false,false,false,false,false,false,false,false,false,false] (by kernel_rfl) rfl rfl ⟨(blk_cell BK238.out 0).trans rfl,(blk_cell BK238.out 1).trans rfl,(blk_cell BK239.out 0).trans rfl,(blk_cell BK239.out 1).trans rfl⟩ (fun hHeld => ?_);refine with_tabW feed_ahead.tab1 feed_ahead.bits1 (fun HT_ HW_ => ?_)
  generalize w7.drew = w8 at BK238 BK239 HB hHeld ⊢
  refine pure_ (i := 0) (N := some 5) (v := ?_) (a' := ?_) #[true,false,false,false,false,false,false,false,false,false,false,false,false] rfl rfl (any_of HT_.out (by kernel_rfl)) (fun _ _ _ h => h) (Or.inl ⟨by rfl,?_⟩) ?_ ?_
  rotate_left
  · intro w'
    go_simp
    with_reducible rfl
  rotate_left
  · simp only [Act.put,zA,zB,zC,i64_w,i32_w]
    rfl
  refine pure_ (i := 2) (N := some 7) (v := ?_) (a' := ?_) #[true,false,true,false,false,false,false,false,false,false,false,false,false] rfl rfl (any_of HT_.out (by kernel_rfl)) (fun _ _ _ h => h) (Or.inl ⟨by rfl,?_⟩) ?_ ?_
  rotate_left
  · intro w'
    go_simp
    with_reducible rfl
  rotate_left
  · simp only [Act.put,zA,zB,zC,i64_w,i32_w]
    rfl
  refine pure_ (i := 5) (N := some 10) (v := ?_) (a' := ?_) #[true,false,true,false,false,true,false,false,false,false,false,false,false] rfl rfl (any_of HT_.out (by kernel_rfl)) (fun _ _ _ h => h) (Or.inl ⟨by rfl,?_⟩) ?_ ?_
  rotate_left
  · intro w'
    go_simp
    with_reducible rfl
  rotate_left
  · simp only [Act.put,zA,zB,zC,i64_w,i32_w]
    rfl
  refine pure_ (i := 7) (N := some 12) (v := ?_) (a' := ?_) #[true,false,true,false,false,true,false,true,false,false,false,false,false] rfl rfl (any_of HT_.out (by kernel_rfl)) (fun _ _ _ h => h) (Or.inl ⟨by rfl,?_⟩) ?_ ?_
  rotate_left
  · intro w'
    go_simp
    with_reducible rfl
  rotate_left
  · simp only [Act.put,zA,zB,zC,i64_w,i32_w]
    rfl
  refine take_ (i := 1) (N := some 6) (v := ?_) (a' := ?_) #[true,true,true,false,false,true,false,true,false,false,false,false,false] rfl rfl (take_ofW HT_.out HW_.out (by kernel_rfl)) (fun _ _ _ h => h) (Or.inl ⟨by rfl,?_⟩) hHeld ?_ ?_
  rotate_left
  · rintro w' ⟨s0,s1,s2,s3⟩
    go_simp
    with_reducible rfl
  rotate_left
  · simp only [Act.put,zA,zB,zC,i64_w,i32_w]
    rfl
  refine take_ (i := 3) (N := some 8) (v := ?_) (a' := ?_) #[true,true,true,true,false,true,false,true,false,false,false,false,false] rfl rfl (take_ofW HT_.out HW_.out (by kernel_rfl)) (fun _ _ _ h => h) (Or.inl ⟨by rfl,?_⟩) hHeld ?_ ?_
  rotate_left
  · rintro w' ⟨s0,s1,s2,s3⟩
    go_simp
    with_reducible rfl
  rotate_left
  · simp only [Act.put,zA,zB,zC,i64_w,i32_w]
    rfl
  refine take_ (i := 6) (N := some 11) (v := ?_) (a' := ?_) #[true,true,true,true,false,true,true,true,false,false,false,false,false] rfl rfl (take_ofW HT_.out HW_.out (by kernel_rfl)) (fun _ _ _ h => h) (Or.inl ⟨by rfl,?_⟩) hHeld ?_ ?_
  rotate_left
  · rintro w' ⟨s0,s1,s2,s3⟩
    go_simp
    with_reducible rfl
  rotate_left
  · simp only [Act.put,zA,zB,zC,i64_w,i32_w]
    rfl
  refine take_ (i := 8) (N := some 13) (v := ?_) (a' := ?_) #[true,true,true,true,false,true,true,true,true,false,false,false,false] rfl rfl (take_ofW HT_.out HW_.out (by kernel_rfl)) (fun _ _ _ h => h) (Or.inl ⟨by rfl,?_⟩) hHeld ?_ ?_
  rotate_left
  · rintro w' ⟨s0,s1,s2,s3⟩
    go_simp
    with_reducible rfl
  rotate_left
  · simp only [Act.put,zA,zB,zC,i64_w,i32_w]
    rfl
  refine one_ (i := 4) (N := some 9) #[true,true,true,true,true,true,true,true,true,false,false,false,false] rfl rfl (one_of HT_.out (by kernel_rfl)) (by decide) (fun K hK => ?_)
  refine goes_ Try.func115 (by kernel_rfl) rfl #[.string a0_0,.string a1_0] (by rfl) rfl rfl (by (try simp only [List.map_toArray,List.map_cons,List.map_nil]);first | done | rfl | (simp only [List.length_drop,List.length_take];rfl)) ?_
  with_reducible refine (cmp_Compare_115.calls a0_0 a1_0 t240 _ A3.out).mono ?_
  rintro e w9 ⟨rfl,hb⟩
  refine ⟨_,rfl,?_⟩
  have n0_ := Aside0.mk (blk_below (g := gb238) (o := .cells #[.string a0_0,.slice A0_1 l0_1.length c0_1] 56 (0,0)) (by (with_reducible repeat (first | refine blk_drewN ?_ _ | refine blk_drew ?_ | refine blk_alloc ?_ _));exact BK238.out) hb)
  have n1_ := Aside0.mk (blk_below (g := gb239) (o := .cells #[.string a1_0,.slice A1_1 l1_1.length c1_1] 56 (0,0)) (by (with_reducible repeat (first | refine blk_drewN ?_ _ | refine blk_drew ?_ | refine blk_alloc ?_ _));exact BK239.out) hb)
  have n2_ := Aside0.mk (below_step (by repeat (first | (with_reducible first | exact HB.out | apply below_alloc | apply pw_below_drewN | apply below_drew1 | refine below_set ?_ GE238.out | refine below_set ?_ GE239.out) | exact HB.out)) hb)
  clear BK238
  clear BK239
  clear HB
  have BK238 := n0_
  have BK239 := n1_
  have HB := n2_
  clear n0_ n1_ n2_
  (try clear hb)
  (try clear hb2)
  (try clear hk)
  (try clear hi)
  refine hK.out _ _ ⟨(blk_cell BK238.out 0).trans rfl,(blk_cell BK238.out 1).trans rfl,(blk_cell BK239.out 0).trans rfl,(blk_cell BK239.out 1).trans rfl⟩ (fun hHeld => ?_)
  clear hK K
  refine norm_ (a' := ?_) ?_ ?_
  rotate_left
  · show Act.put _ (some 9) _ = _
    simp only [Act.put,zA,zB,zC,i64_w,i32_w]
    rfl
  refine one_ (i := 9) (N := some 14) #[true,true,true,true,true,true,true,true,true,true,false,false,false] rfl rfl (one_of HT_.out (by kernel_rfl)) (by decide) (fun K hK => ?_)
  refine goes_ Try.func116 (by kernel_rfl) rfl #[.slice A0_1 l0_1.length c0_1,.slice A1_1 l1_1.length c1_1] (by rfl) rfl rfl (by (try simp only [List.map_toArray,List.map_cons,List.map_nil]);first | done | rfl | (simp only [List.length_drop,List.length_take];rfl)) ?_
  with_reducible refine (row_Compare.calls k _ _ l0_1 _ _ l1_1 t241 _ ?side1 ?side2 ?side3 ?side4 A4.out).mono ?_
  (case side1 => repeat (first | exact (Kd.C_below HR0_1.out HB.out) | (with_reducible refine Kd.C_alloc ?_ _) | (with_reducible refine Kd.C_drewN ?_ _) | (with_reducible refine Kd.C_drew ?_)))
  (case side2 => exact HC0_1.out)
  (case side3 => repeat (first | exact (Kd.C_below HR1_1.out HB.out) | (with_reducible refine Kd.C_alloc ?_ _) | (with_reducible refine Kd.C_drewN ?_ _) | (with_reducible refine Kd.C_drew ?_)))
  (case side4 => exact HC1_1.out)
  rintro e w10 ⟨rfl,hb⟩
  refine ⟨_,rfl,?_⟩
  have n0_ := Aside0.mk (blk_below (g := gb238) (o := .cells #[.string a0_0,.slice A0_1 l0_1.length c0_1] 56 (0,0)) (by (with_reducible repeat (first | refine blk_drewN ?_ _ | refine blk_drew ?_ | refine blk_alloc ?_ _));exact BK238.out) hb)
  have n1_ := Aside0.mk (blk_below (g := gb239) (o := .cells #[.string a1_0,.slice A1_1 l1_1.length c1_1] 56 (0,0)) (by (with_reducible repeat (first | refine blk_drewN ?_ _ | refine blk_drew ?_ | refine blk_alloc ?_ _));exact BK239.out) hb)
  have n2_ := Aside0.mk (below_step (by repeat (first | (with_reducible first | exact HB.out | apply below_alloc | apply pw_below_drewN | apply below_drew1 | refine below_set ?_ GE238.out | refine below_set ?_ GE239.out) | exact HB.out)) hb)
  clear BK238
  clear BK239
  clear HB
  have BK238 := n0_
  have BK239 := n1_
  have HB := n2_
  clear n0_ n1_ n2_
  (try clear hb)
  (try clear hb2)
  (try clear hk)
  (try clear hi)
  refine hK.out _ _ ⟨(blk_cell BK238.out 0).trans rfl,(blk_cell BK238.out 1).trans rfl,(blk_cell BK239.out 0).trans rfl,(blk_cell BK239.out 1).trans rfl⟩ (fun hHeld => ?_)
  clear hK K
  refine norm_ (a' := ?_) ?_ ?_
  rotate_left
  · show Act.put _ (some 14) _ = _
    simp only [Act.put,zA,zB,zC,i64_w,i32_w]
    rfl
  refine one_ (i := 10) (N := some 15) #[true,true,true,true,true,true,true,true,true,true,true,false,false] rfl rfl (one_of HT_.out (by kernel_rfl)) (by decide) (fun K hK => ?_)
  refine Kd.R_lit_step (Kd.int .i64) _ 3 ?hg (N := 15) ?hd (xs := ([t240,t241] : List Int)) (inner := [.int .i64 t240,.int .i64 t241]) (ok := fun _ => True) (okp := fun _ => True) ?hr ?hp (fun _ hk => hk) trivial (Below.refl _ _) (Nat.le_refl _) (by simp) ?_;(case hd => rfl);(case hg => rfl);(case hr => first | (go_simp;done) | (go_simp;rfl));(case hp => exact (Reps.one (show Kd.M (Kd.int .i64) _ _ _ t240 [.int .i64 t240] from rfl) (Reps.one (show Kd.M (Kd.int .i64) _ _ _ t241 [.int .i64 t241] from rfl) (Reps.none _ _))))
  intro v243 w11 ho12 hb hg_ hnew_
  clear hg_ hnew_
  (first | rw [← Ny242.out] at ho12 | (simp only [Int.reduceToNat] at ho12;rw [← Ny242.out] at ho12))
  have n0_ := Aside0.mk (Kd.R_lower ho12 (below_size (by repeat (first | (with_reducible first | exact HB.out | apply below_alloc | apply pw_below_drewN | apply below_drew1 | refine below_set ?_ GE238.out | refine below_set ?_ GE239.out) | exact HB.out))))
  have n1_ := Aside0.mk (blk_below (g := gb238) (o := .cells #[.string a0_0,.slice A0_1 l0_1.length c0_1] 56 (0,0)) (by (with_reducible repeat (first | refine blk_drewN ?_ _ | refine blk_drew ?_ | refine blk_alloc ?_ _));exact BK238.out) hb)
  have n2_ := Aside0.mk (blk_below (g := gb239) (o := .cells #[.string a1_0,.slice A1_1 l1_1.length c1_1] 56 (0,0)) (by (with_reducible repeat (first | refine blk_drewN ?_ _ | refine blk_drew ?_ | refine blk_alloc ?_ _));exact BK239.out) hb)
  have n3_ := Aside0.mk (below_step (by repeat (first | (with_reducible first | exact HB.out | apply below_alloc | apply pw_below_drewN | apply below_drew1 | refine below_set ?_ GE238.out | refine below_set ?_ GE239.out) | exact HB.out)) hb)
  clear BK238
  clear BK239
  clear HB
  have HO244 := n0_
  have BK238 := n1_
  have BK239 := n2_
  have HB := n3_
  clear n0_ n1_ n2_ n3_
  clear hb ho12
  obtain ⟨Ao13,co13,eo13⟩ := Kd.R_slice HO244.out
  (first | subst eo13 | (injection eo13 with f1_ f2_ f3_;have f4_ := f1_.symm;have f5_ := f3_.symm;clear f1_ f2_ f3_;subst f4_;subst f5_))
  refine hK.out _ _ ⟨(blk_cell BK238.out 0).trans rfl,(blk_cell BK238.out 1).trans rfl,(blk_cell BK239.out 0).trans rfl,(blk_cell BK239.out 1).trans rfl⟩ (fun hHeld => ?_)
  clear hK K
  refine norm_ (a' := ?_) ?_ ?_
  rotate_left
  · show Act.put _ (some 15) _ = _
    simp only [Act.put,zA,zB,zC,i64_w,i32_w]
    rfl
  refine one_ (i := 11) (N := some 16) #[true,true,true,true,true,true,true,true,true,true,true,true,false] rfl rfl (one_of HT_.out (by kernel_rfl)) (by decide) (fun K hK => ?_)
  refine goes_ Try.func114 (by kernel_rfl) rfl #[.slice Ao13 y242.length co13] (by rfl) rfl rfl (by (try simp only [List.map_toArray,List.map_cons,List.map_nil]);first | done | rfl | (simp only [List.length_drop,List.length_take];rfl)) ?_
  with_reducible refine (cmp_Or.calls k _ _ y242 t245 _ ?side1 ?side2 A5.out).mono ?_
  (case side1 => repeat (first | exact (Kd.R_reads' HO244.out).2.2 | (with_reducible refine Kd.C_alloc ?_ _) | (with_reducible refine Kd.C_drewN ?_ _) | (with_reducible refine Kd.C_drew ?_)))
  (case side2 => exact (Kd.R_reads' HO244.out).2.1)
  rintro e w' ⟨rfl,⟨nd,rfl⟩⟩
  refine ⟨_,rfl,?_⟩
  refine hK.out _ _ ⟨(blk_cell BK238.out 0).trans rfl,(blk_cell BK238.out 1).trans rfl,(blk_cell BK239.out 0).trans rfl,(blk_cell BK239.out 1).trans rfl⟩ (fun hHeld => ?_)
  clear hK K
  refine norm_ (a' := ?_) ?_ ?_
  rotate_left
  · show Act.put _ (some 16) _ = _
    simp only [Act.put,zA,zB,zC,i64_w,i32_w]
    rfl
  refine pure_ (i := 12) (N := some 4) (v := ?_) (a' := ?_) #[true,true,true,true,true,true,true,true,true,true,true,true,true] rfl rfl (any_of HT_.out (by kernel_rfl)) (fun _ _ _ h => h) (Or.inl ⟨by rfl,?_⟩) ?_ ?_
  rotate_left
  · intro w'
    go_simp
    with_reducible rfl
  rotate_left
  · simp only [Act.put,zA,zB,zC,i64_w,i32_w]
    rfl
  refine done_ (done_of HT_.out (by kernel_rfl)) ?_
  try go_wp2
  go_ret
  exact ⟨by first | rfl | (simp [errW_none,errW_some] <;> rfl) | (simp [*,errW_none,errW_some] <;> rfl),by repeat (first | (with_reducible first | exact HB.out | apply below_alloc | apply pw_below_drewN | apply below_drew1 | refine below_set ?_ GE238.out | refine below_set ?_ GE239.out) | exact HB.out)⟩
end Go.Proofs.Ythfaimomcbmniaa.Z
end
section
namespace Go.Proofs.Ythfaimomcbmniaa.Z
open Go.RowKit Go.Proofs.YthfaimomcbmniaaW.PrintWords Go.Proofs.YthfaimomcbmniaaW.PrintLast Go.Proofs.YthfaimomcbmniaaW.PrintMore
attribute [local go_sem] max2_int min2_int max_two min_two max_three min_three max_four min_four
set_option linter.unusedVariables false
set_option linter.unusedSimpArgs false
def feed_same.f (k : Nat) (a0_0 : ByteArray) (l0_1 : List (S149)) (a1_0 : ByteArray) (l1_1 : List (S149)) : Option (Bool) := (feed_ahead.f k a0_0 l0_1 a1_0 l1_1).bind fun t248 => (some (t248 == 0))
theorem feed_same.mono : ∀ a0 a1 a2 a3 k,LeO (feed_same.f k a0 a1 a2 a3) (feed_same.f (k + 1) a0 a1 a2 a3) := by
  intro a0 a1 a2 a3 k
  unfold feed_same.f
  repeat' first
      | (with_reducible exact feed_ahead.mono _ _ _ _ _)
      | (with_reducible exact LeO.refl _)
      | (with_reducible exact LeO.none _)
      | (with_reducible refine LeO.ite ?_ ?_)
      | (with_reducible refine LeO.bind ?_ (fun _ => ?_))
      | exact feed_ahead.mono _ _ _ _ _
      | exact LeO.none _
      | refine LeO.ite ?_ ?_
      | refine LeO.bind ?_ (fun _ => ?_)
set_option maxHeartbeats 8000000 in
set_option maxRecDepth 100000 in
theorem feed_same.calls (k : Nat) (a0_0 : ByteArray) (A0_1 : Option Addr) (c0_1 : Nat) (l0_1 : List (S149)) (a1_0 : ByteArray) (A1_1 : Option Addr) (c1_1 : Nat) (l1_1 : List (S149)) (r : Bool) (w : World) (hr0_1 : Kd.C k149 w A0_1 l0_1.length l0_1) (hc0_1 : l0_1.length ≤ c0_1) (hr1_1 : Kd.C k149 w A1_1 l1_1.length l1_1) (hc1_1 : l1_1.length ≤ c1_1) (h : feed_same.f k a0_0 l0_1 a1_0 l1_1 = some r) :
    Calls Try.prog 80 #[.agg #[.string a0_0,.slice A0_1 l0_1.length c0_1],.agg #[.string a1_0,.slice A1_1 l1_1.length c1_1]] w fun e w' => e = .returned (.bool r) ∧ Below w.heap.size w w' := by
  have hu56 := Try.underlying56
  have HR0_1 := Aside0.mk hr0_1
  have HC0_1 := Aside0.mk hc0_1
  clear hr0_1 hc0_1
  have HR1_1 := Aside0.mk hr1_1
  have HC1_1 := Aside0.mk hc1_1
  clear hr1_1 hc1_1
  have HB := Aside0.mk (Below.refl w.heap.size w)
  have H : ((feed_ahead.f k a0_0 l0_1 a1_0 l1_1).bind fun t248 => (some (t248 == 0))) = some r := h
  clear h
  replace H := Option.bind_eq_some_iff.mp H
  obtain ⟨t248,A30,H⟩ := H
  replace H : (some (t248 == 0)) = some r := H
  have A3 := Aside0.mk A30
  clear A30
  obtain rfl := Option.some.inj H
  go_enter Try.func80,Try.ntmps80
  go_wp2_with (first | ((with_reducible refine gate_dst (N := 2) rfl ?_);refine box_event ?hg (N := 2) ?hd (cs := #[.string a0_0,.slice A0_1 l0_1.length c0_1]) (t := 56) ?hr ?_;(case hd => rfl);(case hg => rfl);(case hr => first | (go_simp;done) | (go_simp;rfl));intro gb246 hg w4 hbox hb;have n0_ := Aside0.mk (below_step (by repeat (first | (with_reducible first | exact HB.out | apply below_alloc | apply pw_below_drewN | apply below_drew1) | exact HB.out)) hb);have n1_ := Aside0.mk (hbox);have n2_ := Aside0.mk ((by rw [hg];exact (below_size (by repeat (first | (with_reducible first | exact HB.out | apply below_alloc | apply pw_below_drewN | apply below_drew1) | exact HB.out))) : w.heap.size ≤ gb246));have n3_ := Aside0.mk ((by rw [hg];exact (below_size (by repeat (first | (with_reducible first | exact HB.out | apply below_alloc | apply pw_below_drewN | apply below_drew1) | exact HB.out))) : w.heap.size ≤ gb246));clear HB;have HB := n0_;have BK246 := n1_;have GW246 := n2_;have GE246 := n3_;clear n0_ n1_ n2_ n3_;clear hb hbox hg) | ((with_reducible refine gate_dst (N := 3) rfl ?_);refine box_event ?hg (N := 3) ?hd (cs := #[.string a1_0,.slice A1_1 l1_1.length c1_1]) (t := 56) ?hr ?_;(case hd => rfl);(case hg => rfl);(case hr => first | (go_simp;done) | (go_simp;rfl));intro gb247 hg w5 hbox hb;have n0_ := Aside0.mk (blk_below (g := gb246) (o := .cells #[.string a0_0,.slice A0_1 l0_1.length c0_1] 56 (0,0)) (by (with_reducible repeat (first | refine blk_drewN ?_ _ | refine blk_drew ?_ | refine blk_alloc ?_ _));exact BK246.out) hb);have n1_ := Aside0.mk (below_step (by repeat (first | (with_reducible first | exact HB.out | apply below_alloc | apply pw_below_drewN | apply below_drew1 | refine below_set ?_ GE246.out) | exact HB.out)) hb);have n2_ := Aside0.mk (hbox);have n3_ := Aside0.mk ((by rw [hg];exact (below_size (by repeat (first | (with_reducible first | exact HB.out | apply below_alloc | apply pw_below_drewN | apply below_drew1 | refine below_set ?_ GE246.out) | exact HB.out))) : w.heap.size ≤ gb247));have n4_ := Aside0.mk ((by rw [hg];exact (below_size (by repeat (first | (with_reducible first | exact HB.out | apply below_alloc | apply pw_below_drewN | apply below_drew1 | refine below_set ?_ GE246.out) | exact HB.out))) : w.heap.size ≤ gb247));have n5_ := Aside0.mk ((by rw [hg];exact Nat.ne_of_lt (blk_lt (g := gb246) (o := .cells #[.string a0_0,.slice A0_1 l0_1.length c0_1] 56 (0,0)) (by (with_reducible repeat (first | refine blk_drewN ?_ _ | refine blk_drew ?_ | refine blk_alloc ?_ _));exact BK246.out)) : gb246 ≠ gb247));have n6_ := Aside0.mk ((by rw [hg];exact Nat.ne_of_gt (blk_lt (g := gb246) (o := .cells #[.string a0_0,.slice A0_1 l0_1.length c0_1] 56 (0,0)) (by (with_reducible repeat (first | refine blk_drewN ?_ _ | refine blk_drew ?_ | refine blk_alloc ?_ _));exact BK246.out)) : gb247 ≠ gb246));clear BK246;clear HB;have BK246 := n0_;have HB := n1_;have BK247 := n2_;have GW247 := n3_;have GE247 := n4_;have NB246_247 := n5_;have NB247_246 := n6_;clear n0_ n1_ n2_ n3_ n4_ n5_ n6_;clear hb hbox hg;have hnb6 := NB246_247.out;have hnc6 := NB247_246.out;have hcz7_0 : w5.cell? ⟨gb246,0,none⟩ = some (.string a0_0) := (blk_cell BK246.out 0).trans rfl;have hcz7_1 : w5.cell? ⟨gb246,1,none⟩ = some (.slice A0_1 l0_1.length c0_1) := (blk_cell BK246.out 1).trans rfl;have hfz7_0 := blk_frozen BK246.out 0;have hfz7_1 := blk_frozen BK246.out 1;have hcz8_0 : w5.cell? ⟨gb247,0,none⟩ = some (.string a1_0) := (blk_cell BK247.out 0).trans rfl;have hcz8_1 : w5.cell? ⟨gb247,1,none⟩ = some (.slice A1_1 l1_1.length c1_1) := (blk_cell BK247.out 1).trans rfl;have hfz8_0 := blk_frozen BK247.out 0;have hfz8_1 := blk_frozen BK247.out 1) | ((with_reducible refine gate_callee (f := 69) rfl ?_);refine goesL_ (some 7) rfl rfl Try.func69 (by kernel_rfl) rfl #[.agg #[.string a0_0,.slice A0_1 l0_1.length c0_1],.agg #[.string a1_0,.slice A1_1 l1_1.length c1_1]] rfl (by (try simp only [List.map_toArray,List.map_cons,List.map_nil]);first | done | rfl | (simp only [List.length_drop,List.length_take];rfl)) ?_;(with_reducible refine (feed_ahead.calls k a0_0 _ _ l0_1 a1_0 _ _ l1_1 t248 _ ?side1 ?side2 ?side3 ?side4 A3.out).mono ?_);(case side1 => repeat (first | exact (Kd.C_below HR0_1.out HB.out) | (with_reducible refine Kd.C_alloc ?_ _) | (with_reducible refine Kd.C_drewN ?_ _) | (with_reducible refine Kd.C_drew ?_)));(case side2 => exact HC0_1.out);(case side3 => repeat (first | exact (Kd.C_below HR1_1.out HB.out) | (with_reducible refine Kd.C_alloc ?_ _) | (with_reducible refine Kd.C_drewN ?_ _) | (with_reducible refine Kd.C_drew ?_)));(case side4 => exact HC1_1.out);rintro e w9 ⟨rfl,hb⟩;refine ⟨_,rfl,?_⟩;have n0_ := Aside0.mk (blk_below (g := gb246) (o := .cells #[.string a0_0,.slice A0_1 l0_1.length c0_1] 56 (0,0)) (by (with_reducible repeat (first | refine blk_drewN ?_ _ | refine blk_drew ?_ | refine blk_alloc ?_ _));exact BK246.out) hb);have n1_ := Aside0.mk (blk_below (g := gb247) (o := .cells #[.string a1_0,.slice A1_1 l1_1.length c1_1] 56 (0,0)) (by (with_reducible repeat (first | refine blk_drewN ?_ _ | refine blk_drew ?_ | refine blk_alloc ?_ _));exact BK247.out) hb);have n2_ := Aside0.mk (below_step (by repeat (first | (with_reducible first | exact HB.out | apply below_alloc | apply pw_below_drewN | apply below_drew1 | refine below_set ?_ GE246.out | refine below_set ?_ GE247.out) | exact HB.out)) hb);clear BK246;clear BK247;clear HB;have BK246 := n0_;have BK247 := n1_;have HB := n2_;clear n0_ n1_ n2_;(try clear hb);(try clear hb2);(try clear hk);(try clear hi)))
  go_ret
  exact ⟨by first | rfl | (simp [errW_none,errW_some] <;> rfl) | (simp [*,errW_none,errW_some] <;> rfl),by repeat (first | (with_reducible first | exact HB.out | apply below_alloc | apply pw_below_drewN | apply below_drew1 | refine below_set ?_ GE246.out | refine below_set ?_ GE247.out) | exact HB.out)⟩
end Go.Proofs.Ythfaimomcbmniaa.Z
end
section
namespace Go.Proofs.Ythfaimomcbmniaa.Z
set_option linter.unusedVariables false
set_option linter.unusedSimpArgs false
set_option linter.unnecessarySimpa false
open Go.RowKit Go.Proofs.YthfaimomcbmniaaW.PrintWords Go.Proofs.YthfaimomcbmniaaW.PrintLast Go.Proofs.YthfaimomcbmniaaW.PrintMore Go.Proofs.Ythfaimomcbmniaa.Cmp
abbrev Vl := S56
abbrev kEl : Kd Vl := k56
theorem kEl_heap : Kd.Heap kEl := k56_heap
def vl (e : Fe) : Vl := ⟨e.f0,e.row⟩
def encF (e : Fe) : List Value := [.string e.f0,.slice e.A e.row.length e.c]
theorem el_mk {w : World} (e : Fe) (h : RowC w e.A e.c e.row) : kEl.K w (vl e) (encF e) := by
  exact k56_mk w (vl e) h.cap h.row
theorem RowAt.reads {w : World} {g : Nat} {L : List El} (h : RowAt w g L) (hn : L.length ≤ 1000000) : Kd.C kEl w (some ⟨g,0,none⟩) L.length (L.map (fun e => vl e.1)) := by
  obtain ⟨cells,hb,hc⟩ := h.out
  refine ⟨by simp,by omega,fun _ => ⟨_,rfl,?_⟩⟩
  intro j p hp
  have hj : j < L.length := by
    have := (List.getElem?_eq_some_iff.1 hp).1
    simpa using this
  have ep : vl (atL L j).1 = p := by
    rw [List.getElem?_map,List.getElem?_eq_getElem hj] at hp
    unfold atL
    rw [List.getD_eq_getElem?_getD,List.getElem?_eq_getElem hj]
    simpa using hp
  subst ep
  have hcj := hc j hj
  refine ⟨_,rfl,el_mk (atL L j).1 (h.good j hj).now,?_⟩
  intro i u hu
  have e : (Addr.add ⟨g,0,none⟩ (j * kEl.sz + i)) = ⟨g,j * 2 + i,none⟩ := by
    rw [Addr.add_lit,Nat.zero_add]
    rfl
  rw [e]
  match i,hu with
  | 0,hu => cases hu;exact (blk_cell hb _).trans hcj.1
  | 1,hu => cases hu;exact (blk_cell hb _).trans hcj.2
set_option maxHeartbeats 4000000 in
set_option maxRecDepth 100000 in
theorem clone_nil (c : Nat) (w : World) : Calls Try.prog 77 #[.slice none 0 c] w fun e w' => e = .returned (.slice none 0 0) ∧ Below w.heap.size w w' := by
  have HB := Aside0.mk (Below.refl w.heap.size w)
  have hq : (binOp .eql 22 (.slice none 0 c) (.slice none 0 0)).run Try.prog w = .ok (.bool true) w := Lib.run_eql_slice_nil w 22 56 none 0 c 0 0 (by kernel_rfl)
  go_enter Try.func77,Try.ntmps77
  go_wp2
  go_ret
  exact ⟨rfl,HB.out⟩
theorem C_F0 {w W : World} {A : Option Addr} {n : Nat} {l : List Vl} (h : Kd.C kEl w A n l) (hb : Below w.heap.size w W) : Kd.F kEl W (fun k => k < w.heap.size) A n l := fun W' hW =>
  kEl_heap.C (fun k hk => (hW k hk (Nat.lt_of_lt_of_le hk hb.size)).trans (hb.block k hk)) h
set_option maxHeartbeats 4000000 in
set_option maxRecDepth 100000 in
theorem insertionE (A : Option Addr) (cap : Nat) (w : World) :
    Calls Try.prog 136 #[.slice A 0 cap,.int .i64 0,.int .i64 0,.func (.func 69) #[] #[]] w fun e w' => e = .returned (.tuple #[]) ∧ Below w.heap.size w w' := by
  have HB := Aside0.mk (Below.refl w.heap.size w)
  go_enter Try.func136,Try.ntmps136
  go_wp2
  go_loopw [8] (fun iv wr => iv = .int .i64 1 ∧ Aside0 (Below w.heap.size w wr)) (fun iv _ => 0)
  case atStart => exact ⟨rfl,HB⟩
  case round =>
    clear HB
    obtain ⟨rfl,HB⟩ := hrel
    go_wp2
    go_end0
    exact ⟨rfl,HB.out⟩
set_option maxHeartbeats 4000000 in
set_option maxRecDepth 100000 in
theorem stableE (A : Option Addr) (cap : Nat) (w : World) :
    Calls Try.prog 119 #[.slice A 0 cap,.int .i64 0,.func (.func 69) #[] #[]] w fun e w' => e = .returned (.tuple #[]) ∧ Below w.heap.size w w' := by
  have HB := Aside0.mk (Below.refl w.heap.size w)
  go_enter Try.func119,Try.ntmps119
  go_wp2
  go_loopw [7,8] (fun iv jv wr => iv = .int .i64 0 ∧ jv = .int .i64 20 ∧ Aside0 (Below w.heap.size w wr)) (fun iv jv _ => 0)
  case atStart => exact ⟨rfl,rfl,HB⟩
  case round =>
    clear HB
    obtain ⟨rfl,rfl,HB⟩ := hrel
    go_wp2_with (fail)
    refine (insertionE A cap wr).mono ?_
    rintro e w1 ⟨rfl,hb⟩
    have HB1 := Aside0.mk (HB.out.trans (hb.mono HB.out.size))
    clear HB hb
    go_wp2_with (fail)
    go_loopw [6] (fun iv wr => iv = .int .i64 20 ∧ Aside0 (Below w.heap.size w wr)) (fun iv _ => 0)
    case atStart => exact ⟨rfl,HB1⟩
    case round =>
      clear HB1
      obtain ⟨rfl,HB⟩ := hrel
      go_wp2
      go_end0
      exact ⟨rfl,HB.out⟩
set_option maxHeartbeats 4000000 in
set_option maxRecDepth 100000 in
theorem sort_funcE (A : Option Addr) (cap : Nat) (w : World) :
    Calls Try.prog 78 #[.slice A 0 cap,.func (.func 69) #[] #[]] w fun e w' => e = .returned (.tuple #[]) ∧ Below w.heap.size w w' := by
  have H := Aside0.mk (stableE A cap w)
  go_enter Try.func78,Try.ntmps78
  go_wp2_with (fail)
  refine H.out.mono ?_
  rintro e w1 ⟨rfl,h1⟩
  have R1 := Aside0.mk h1
  clear h1
  go_wp2_with (fail)
  go_end0
  exact ⟨rfl,R1.out⟩
set_option maxHeartbeats 4000000 in
set_option maxRecDepth 100000 in
theorem compactE (A : Option Addr) (cap : Nat) (w : World) :
    Calls Try.prog 79 #[.slice A 0 cap,.func (.func 80) #[] #[]] w fun e w' => e = .returned (.slice A 0 cap) ∧ Below w.heap.size w w' := by
  have HB := Aside0.mk (Below.refl w.heap.size w)
  go_enter Try.func79,Try.ntmps79
  go_wp2
  go_ret
  exact ⟨rfl,HB.out⟩
end Go.Proofs.Ythfaimomcbmniaa.Z
end
section
namespace Go.Proofs.Ythfaimomcbmniaa.Z
open Go.RowKit Go.Proofs.YthfaimomcbmniaaW.PrintWords Go.Proofs.YthfaimomcbmniaaW.PrintLast Go.Proofs.YthfaimomcbmniaaW.PrintMore
attribute [local go_sem] max2_int min2_int max_two min_two max_three min_three max_four min_four
set_option linter.unusedVariables false
set_option linter.unusedSimpArgs false
mutual
def verdererref01_Text.l0 : Nat → ByteArray → ByteArray → Int → Option (Int)
  | 0,_,_,_ => none
  | k + 1,x0,x1,x5 => if x5 < (x0.size : Int) then (verdererref01_Text.j1 k x0 x1 x5 (decide (x5 < (x1.size : Int)))) else (verdererref01_Text.j1 k x0 x1 x5 false)
def verdererref01_Text.j1 : Nat → ByteArray → ByteArray → Int → Bool → Option (Int)
  | 0,_,_,_,_ => none
  | k + 1,x0,x1,x5,x15 => if x15 = true then (if 0 ≤ x5 then (if x5 < (x0.size : Int) then (if x5 < (x1.size : Int) then (if (bt x0 x5) < (bt x1 x5) then (some (-1)) else (if (bt x0 x5) > (bt x1 x5) then (some 1) else (verdererref01_Text.l0 k x0 x1 (wrap64 (x5 + 1))))) else (none)) else (none)) else (none)) else (if (x0.size : Int) < (x1.size : Int) then (some (-1)) else (if (x0.size : Int) > (x1.size : Int) then (some 1) else (some 0)))
end
def verdererref01_Text.f (k : Nat) (a0 : ByteArray) (a1 : ByteArray) : Option (Int) := verdererref01_Text.l0 k a0 a1 0
theorem verdererref01_Text.mono_l : ∀ k,(∀ y0 y1 y2,LeO (verdererref01_Text.l0 k y0 y1 y2) (verdererref01_Text.l0 (k + 1) y0 y1 y2)) ∧ (∀ y0 y1 y2 y3,LeO (verdererref01_Text.j1 k y0 y1 y2 y3) (verdererref01_Text.j1 (k + 1) y0 y1 y2 y3))
  | 0 => ⟨fun _ _ _ r h => by simp [verdererref01_Text.l0] at h,fun _ _ _ _ r h => by simp [verdererref01_Text.j1] at h⟩
  | k + 1 => by
    obtain ⟨ih0,ih1⟩ := verdererref01_Text.mono_l k
    refine ⟨?_,?_⟩
    · intro y0 y1 y2
      unfold verdererref01_Text.l0
      repeat' first
      | (with_reducible exact ih0 _ _ _)
      | (with_reducible exact ih1 _ _ _ _)
      | (with_reducible exact LeO.refl _)
      | (with_reducible exact LeO.none _)
      | (with_reducible refine LeO.ite ?_ ?_)
      | (with_reducible refine LeO.bind ?_ (fun _ => ?_))
      | exact ih0 _ _ _
      | exact ih1 _ _ _ _
      | exact LeO.none _
      | refine LeO.ite ?_ ?_
      | refine LeO.bind ?_ (fun _ => ?_)
    · intro y0 y1 y2 y3
      unfold verdererref01_Text.j1
      repeat' first
      | (with_reducible exact ih0 _ _ _)
      | (with_reducible exact ih1 _ _ _ _)
      | (with_reducible exact LeO.refl _)
      | (with_reducible exact LeO.none _)
      | (with_reducible refine LeO.ite ?_ ?_)
      | (with_reducible refine LeO.bind ?_ (fun _ => ?_))
      | exact ih0 _ _ _
      | exact ih1 _ _ _ _
      | exact LeO.none _
      | refine LeO.ite ?_ ?_
      | refine LeO.bind ?_ (fun _ => ?_)
theorem verdererref01_Text.mono : ∀ a0 a1 k,LeO (verdererref01_Text.f k a0 a1) (verdererref01_Text.f (k + 1) a0 a1) := by
  intro a0 a1 k
  obtain ⟨ih0,ih1⟩ := verdererref01_Text.mono_l k
  unfold verdererref01_Text.f
  repeat' first
      | (with_reducible exact ih0 _ _ _)
      | (with_reducible exact ih1 _ _ _ _)
      | (with_reducible exact LeO.refl _)
      | (with_reducible exact LeO.none _)
      | (with_reducible refine LeO.ite ?_ ?_)
      | (with_reducible refine LeO.bind ?_ (fun _ => ?_))
      | exact ih0 _ _ _
      | exact ih1 _ _ _ _
      | exact LeO.none _
      | refine LeO.ite ?_ ?_
      | refine LeO.bind ?_ (fun _ => ?_)
set_option maxHeartbeats 8000000 in
set_option maxRecDepth 100000 in
theorem verdererref01_Text.calls (k : Nat) (a0 : ByteArray) (a1 : ByteArray) (r : Int) (w : World) (h : verdererref01_Text.f k a0 a1 = some r) :
    Calls Try.prog 81 #[.string a0,.string a1] w fun e w' => e = .returned (.int .i64 r) ∧ Drawn0 w w' := by
  have H : (verdererref01_Text.l0 k a0 a1 0) = some r := h
  clear h
  have H' := Aside0.mk H
  clear H
  go_enter Try.func81,Try.ntmps81
  go_wp2
  repeat (go_quiet (fail);try go_wp2)
  go_loopg [5] k (fun kq v5 w' => ∃ (x5_1 : Int),v5 = .int .i64 x5_1 ∧ Aside0 (verdererref01_Text.l0 kq a0 a1 x5_1 = some r) ∧ Aside0 (kq ≤ k) ∧ Drawn0 w w')
  case atStart => exact ⟨(0),(by first | rfl | (simp;done) | (simp [*];done)),H',⟨Nat.le_refl _⟩,by repeat (first | exact Drawn0.refl _ | apply Drawn0.step)⟩
  case round =>
    clear H'
    try clear p2
    obtain ⟨x5_1,rfl,HA,HK1,⟨m1,rfl⟩⟩ := hrel
    cases gk with
    | zero => exact absurd HA.out (by simp [verdererref01_Text.l0])
    | succ k1 =>
      have H := HA.out
      clear HA
      simp only [verdererref01_Text.l0] at H
      have HC3 := Aside0.mk H
      clear H
      go_upto_region 2 with (fail)
      repeat (go_quiet (fail);go_upto_region 2 with (fail))
      go_cut [15] (fun v15 wc => ∃ (kq : Nat) (x15_2 : Bool),v15 = .bool x15_2 ∧ Aside0 (verdererref01_Text.j1 kq a0 a1 x5_1 x15_2 = some r) ∧ Aside0 (kq ≤ k1) ∧ Drawn0 w wc)
      case first =>
        have H := HC3.out
        clear HC3
        by_cases c4 : x5_1 < (a0.size : Int)
        · rw [if_pos c4] at H
          have c4b0 : decide (x5_1 < (a0.size : Int)) = true := decide_eq_true c4
          clear c4
          (first | rw [c4b0] | (simp only [i64_w,i32_w];rw [c4b0]) | skip)
          have H' := Aside0.mk H
          clear H
          go_wp2
          repeat (go_quiet (fail);try go_wp2)
          go_meet
          case rel => exact ⟨_,(decide (x5_1 < (a1.size : Int))),(by first | rfl | (simp;done) | (simp [*];done)),H',⟨by have := HK1.out;first | omega | exact Nat.le_refl _⟩,by repeat (first | exact Drawn0.refl _ | apply Drawn0.step)⟩
        · rw [if_neg c4] at H
          have c4b0 : decide (x5_1 < (a0.size : Int)) = false := decide_eq_false c4
          clear c4
          (first | rw [c4b0] | (simp only [i64_w,i32_w];rw [c4b0]) | skip)
          have H' := Aside0.mk H
          clear H
          go_wp2
          repeat (go_quiet (fail);try go_wp2)
          go_meet
          case rel => exact ⟨_,(false),(by first | rfl | (simp;done) | (simp [*];done)),H',⟨by have := HK1.out;first | omega | exact Nat.le_refl _⟩,by repeat (first | exact Drawn0.refl _ | apply Drawn0.step)⟩
      case rest =>
        clear HC3
        try clear p2
        try clear c4
        try clear c4b0
        try clear p2
        obtain ⟨kq,x15_2,rfl,HA,HJ2,⟨mc2,rfl⟩⟩ := hcut
        cases kq with
        | zero => exact absurd HA.out (by simp [verdererref01_Text.j1])
        | succ kj2 =>
          have H := HA.out
          clear HA
          simp only [verdererref01_Text.j1] at H
          by_cases c5 : x15_2 = true
          · subst c5
            have H1 : (if 0 ≤ x5_1 then (if x5_1 < (a0.size : Int) then (if x5_1 < (a1.size : Int) then (if (bt a0 x5_1) < (bt a1 x5_1) then (some (-1)) else (if (bt a0 x5_1) > (bt a1 x5_1) then (some 1) else (verdererref01_Text.l0 kj2 a0 a1 (wrap64 (x5_1 + 1))))) else (none)) else (none)) else (none)) = some r := by rw [if_pos rfl] at H;exact H
            clear H
            have H := H1
            clear H1
            by_cases c6 : 0 ≤ x5_1
            · rw [if_pos c6] at H
              have c6b0 : decide (0 ≤ x5_1) = true := decide_eq_true c6
              clear c6
              by_cases c7 : x5_1 < (a0.size : Int)
              · rw [if_pos c7] at H
                have c7b0 : decide (x5_1 < (a0.size : Int)) = true := decide_eq_true c7
                clear c7
                by_cases c9 : x5_1 < (a1.size : Int)
                · rw [if_pos c9] at H
                  have c9b0 : decide (x5_1 < (a1.size : Int)) = true := decide_eq_true c9
                  clear c9
                  by_cases c11 : (bt a0 x5_1) < (bt a1 x5_1)
                  · rw [if_pos c11] at H
                    have c11b0 : decide ((bt a0 x5_1) < (bt a1 x5_1)) = true := decide_eq_true c11
                    clear c11
                    obtain rfl := Option.some.inj H
                    have p8 : 0 ≤ (x5_1 : Int) := of_decide_eq_true (by first | (with_reducible assumption) | assumption)
                    have q8 : x5_1 < (a0.size : Int) := of_decide_eq_true (by first | (with_reducible assumption) | assumption)
                    have hx8 := bt_at a0 x5_1
                    replace p8 := eq_true p8
                    replace q8 := eq_true q8
                    have p10 : 0 ≤ (x5_1 : Int) := of_decide_eq_true (by first | (with_reducible assumption) | assumption)
                    have q10 : x5_1 < (a1.size : Int) := of_decide_eq_true (by first | (with_reducible assumption) | assumption)
                    have hx10 := bt_at a1 x5_1
                    replace p10 := eq_true p10
                    replace q10 := eq_true q10
                    go_wp2
                    repeat (go_quiet (fail);try go_wp2)
                    go_ret
                    exact ⟨by first | rfl | (simp;done) | (simp [*];done),by repeat (first | exact Drawn0.refl _ | apply Drawn0.step)⟩
                  · rw [if_neg c11] at H
                    have c11b0 : decide ((bt a0 x5_1) < (bt a1 x5_1)) = false := decide_eq_false c11
                    clear c11
                    by_cases c14 : (bt a0 x5_1) > (bt a1 x5_1)
                    · rw [if_pos c14] at H
                      have c14b0 : decide ((bt a1 x5_1) < (bt a0 x5_1)) = true := decide_eq_true c14
                      clear c14
                      obtain rfl := Option.some.inj H
                      have p8 : 0 ≤ (x5_1 : Int) := of_decide_eq_true (by first | (with_reducible assumption) | assumption)
                      have q8 : x5_1 < (a0.size : Int) := of_decide_eq_true (by first | (with_reducible assumption) | assumption)
                      have hx8 := bt_at a0 x5_1
                      replace p8 := eq_true p8
                      replace q8 := eq_true q8
                      have p10 : 0 ≤ (x5_1 : Int) := of_decide_eq_true (by first | (with_reducible assumption) | assumption)
                      have q10 : x5_1 < (a1.size : Int) := of_decide_eq_true (by first | (with_reducible assumption) | assumption)
                      have hx10 := bt_at a1 x5_1
                      replace p10 := eq_true p10
                      replace q10 := eq_true q10
                      have p12 : 0 ≤ (x5_1 : Int) := of_decide_eq_true (by first | (with_reducible assumption) | assumption)
                      have q12 : x5_1 < (a0.size : Int) := of_decide_eq_true (by first | (with_reducible assumption) | assumption)
                      have hx12 := bt_at a0 x5_1
                      replace p12 := eq_true p12
                      replace q12 := eq_true q12
                      have p13 : 0 ≤ (x5_1 : Int) := of_decide_eq_true (by first | (with_reducible assumption) | assumption)
                      have q13 : x5_1 < (a1.size : Int) := of_decide_eq_true (by first | (with_reducible assumption) | assumption)
                      have hx13 := bt_at a1 x5_1
                      replace p13 := eq_true p13
                      replace q13 := eq_true q13
                      go_wp2
                      repeat (go_quiet (fail);try go_wp2)
                      go_ret
                      exact ⟨by first | rfl | (simp;done) | (simp [*];done),by repeat (first | exact Drawn0.refl _ | apply Drawn0.step)⟩
                    · rw [if_neg c14] at H
                      have c14b0 : decide ((bt a1 x5_1) < (bt a0 x5_1)) = false := decide_eq_false c14
                      clear c14
                      have H' := Aside0.mk H
                      clear H
                      have p8 : 0 ≤ (x5_1 : Int) := of_decide_eq_true (by first | (with_reducible assumption) | assumption)
                      have q8 : x5_1 < (a0.size : Int) := of_decide_eq_true (by first | (with_reducible assumption) | assumption)
                      have hx8 := bt_at a0 x5_1
                      replace p8 := eq_true p8
                      replace q8 := eq_true q8
                      have p10 : 0 ≤ (x5_1 : Int) := of_decide_eq_true (by first | (with_reducible assumption) | assumption)
                      have q10 : x5_1 < (a1.size : Int) := of_decide_eq_true (by first | (with_reducible assumption) | assumption)
                      have hx10 := bt_at a1 x5_1
                      replace p10 := eq_true p10
                      replace q10 := eq_true q10
                      have p12 : 0 ≤ (x5_1 : Int) := of_decide_eq_true (by first | (with_reducible assumption) | assumption)
                      have q12 : x5_1 < (a0.size : Int) := of_decide_eq_true (by first | (with_reducible assumption) | assumption)
                      have hx12 := bt_at a0 x5_1
                      replace p12 := eq_true p12
                      replace q12 := eq_true q12
                      have p13 : 0 ≤ (x5_1 : Int) := of_decide_eq_true (by first | (with_reducible assumption) | assumption)
                      have q13 : x5_1 < (a1.size : Int) := of_decide_eq_true (by first | (with_reducible assumption) | assumption)
                      have hx13 := bt_at a1 x5_1
                      replace p13 := eq_true p13
                      replace q13 := eq_true q13
                      go_wp2
                      repeat (go_quiet (fail);try go_wp2)
                      go_roundg kj2
                      case measure => have := HK1.out;have := HJ2.out;omega
                      case rel => exact ⟨(wrap64 (x5_1 + 1)),(by first | rfl | (simp;done) | (simp [*];done)),H',⟨by have := HK1.out;have := HJ2.out;omega⟩,by repeat (first | exact Drawn0.refl _ | apply Drawn0.step)⟩
                · rw [if_neg c9] at H
                  exact absurd H (by simp)
              · rw [if_neg c7] at H
                exact absurd H (by simp)
            · rw [if_neg c6] at H
              exact absurd H (by simp)
          · replace c5 := Bool.eq_false_iff.mpr c5
            subst c5
            have H1 : (if (a0.size : Int) < (a1.size : Int) then (some (-1)) else (if (a0.size : Int) > (a1.size : Int) then (some 1) else (some 0))) = some r := by rw [if_neg (show ¬ (false = true) by decide)] at H;exact H
            clear H
            have H := H1
            clear H1
            by_cases c15 : (a0.size : Int) < (a1.size : Int)
            · rw [if_pos c15] at H
              have c15b0 : decide ((a0.size : Int) < (a1.size : Int)) = true := decide_eq_true c15
              have c15b1 : decide (a0.size < a1.size) = true := decide_eq_true (Int.ofNat_lt.mp c15)
              clear c15
              obtain rfl := Option.some.inj H
              go_wp2
              repeat (go_quiet (fail);try go_wp2)
              go_ret
              exact ⟨by first | rfl | (simp;done) | (simp [*];done),by repeat (first | exact Drawn0.refl _ | apply Drawn0.step)⟩
            · rw [if_neg c15] at H
              have c15b0 : decide ((a0.size : Int) < (a1.size : Int)) = false := decide_eq_false c15
              have c15b1 : decide (a0.size < a1.size) = false := decide_eq_false (fun h => c15 (Int.ofNat_lt.mpr h))
              clear c15
              by_cases c16 : (a0.size : Int) > (a1.size : Int)
              · rw [if_pos c16] at H
                have c16b0 : decide ((a1.size : Int) < (a0.size : Int)) = true := decide_eq_true c16
                have c16b1 : decide (a1.size < a0.size) = true := decide_eq_true (Int.ofNat_lt.mp c16)
                clear c16
                obtain rfl := Option.some.inj H
                go_wp2
                repeat (go_quiet (fail);try go_wp2)
                go_ret
                exact ⟨by first | rfl | (simp;done) | (simp [*];done),by repeat (first | exact Drawn0.refl _ | apply Drawn0.step)⟩
              · rw [if_neg c16] at H
                have c16b0 : decide ((a1.size : Int) < (a0.size : Int)) = false := decide_eq_false c16
                have c16b1 : decide (a1.size < a0.size) = false := decide_eq_false (fun h => c16 (Int.ofNat_lt.mpr h))
                clear c16
                obtain rfl := Option.some.inj H
                go_wp2
                repeat (go_quiet (fail);try go_wp2)
                go_ret
                exact ⟨by first | rfl | (simp;done) | (simp [*];done),by repeat (first | exact Drawn0.refl _ | apply Drawn0.step)⟩
end Go.Proofs.Ythfaimomcbmniaa.Z
end
