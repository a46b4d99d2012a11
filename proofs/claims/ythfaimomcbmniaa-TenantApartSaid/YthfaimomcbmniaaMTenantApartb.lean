/- Parts of the proof of TenantApart: what its functions answer. -/
import Derived.Test.YthfaimomcbmniaaMTenantAparta
import Derived.Laws.MakeOwn
import Derived.Lib.SliceRun
import Derived.Laws.Slices
import Derived.Lib.Bytealg
import Derived.RegionTactic
import Derived.BigRegion
import Derived.Deep.QuietTactic
import Derived.BigQuiet
import Derived.ChangeAlike
import Derived.StillTailTactics
import Derived.Deep.LoopGhost
import Derived.Deep.RegionHeld3
import Derived.Lib.Hide
import Derived.RangeFuncNested
import Derived.RangeFuncBound
import Derived.RangeFuncCalls
import Derived.RangeFuncLeaves
import Derived.Shelf.Abstract
import Derived.WalkKit
import Derived.OwnWalkIn
import Derived.TacticsInMore
import Derived.LoopNIn
import Derived.LoopIn
import Derived.Maps.OwnOps
import Derived.Maps.OwnSet
import Derived.Maps.StringElems
import Derived.Maps.RangeWalk
import Derived.Maps.OwnIn
import Derived.RangeFuncBox
import Derived.Maps.AppendAt
import Derived.Shelf.Sort.Plain
import Derived.Shelf.Slices.In.SortNone
import Derived.Test.YthfaimomcbmniaaProg
import Derived.Sort.KeysCollected
import Derived.Sort.OwnSorted
import Derived.Maps.Ext
section
namespace Go.Proofs.Ythfaimomcbmniaa.Z
open Go.RowKit Go.Proofs.YthfaimomcbmniaaW.PrintWords Go.Proofs.YthfaimomcbmniaaW.PrintLast Go.Proofs.YthfaimomcbmniaaW.PrintMore
attribute [local go_sem] max2_int min2_int max_two min_two max_three min_three max_four min_four
set_option linter.unusedVariables false
set_option linter.unusedSimpArgs false
def value_Compare.f (a0_0 : Int) (a0_1 : Bool) (a0_2 : Int) (a0_3 : ByteArray) (a1_0 : Int) (a1_1 : Bool) (a1_2 : Int) (a1_3 : ByteArray) : Option (Int) := if a0_0 = a1_0 then (if a0_0 = 1 then ((value_truth.f a0_1).bind fun t108 => ((value_truth.f a1_1).bind fun t109 => ((cmp_Compare_149.f t108 t109).bind fun t110 => (some t110)))) else (if a0_0 = 2 then ((cmp_Compare_151.f a0_2 a1_2).bind fun t111 => (some t111)) else (if a0_0 = 3 then ((strings_Compare.f a0_3 a1_3).bind fun t112 => (some t112)) else (some 0)))) else ((cmp_Compare_149.f a0_0 a1_0).bind fun t107 => (some t107))
set_option maxHeartbeats 8000000 in
set_option maxRecDepth 100000 in
theorem value_Compare.calls (a0_0 : Int) (a0_1 : Bool) (a0_2 : Int) (a0_3 : ByteArray) (a1_0 : Int) (a1_1 : Bool) (a1_2 : Int) (a1_3 : ByteArray) (r : Int) (w : World) (h : value_Compare.f a0_0 a0_1 a0_2 a0_3 a1_0 a1_1 a1_2 a1_3 = some r) :
    Calls Try.prog 134 #[.agg #[.int .i64 a0_0,.bool a0_1,.int .i64 a0_2,.string a0_3],.agg #[.int .i64 a1_0,.bool a1_1,.int .i64 a1_2,.string a1_3]] w fun e w' => e = .returned (.int .i64 r) ∧ Below w.heap.size w w' := by
  have hu149 := Try.underlying149
  have HB := Aside0.mk (Below.refl w.heap.size w)
  have H : (if a0_0 = a1_0 then (if a0_0 = 1 then ((value_truth.f a0_1).bind fun t108 => ((value_truth.f a1_1).bind fun t109 => ((cmp_Compare_149.f t108 t109).bind fun t110 => (some t110)))) else (if a0_0 = 2 then ((cmp_Compare_151.f a0_2 a1_2).bind fun t111 => (some t111)) else (if a0_0 = 3 then ((strings_Compare.f a0_3 a1_3).bind fun t112 => (some t112)) else (some 0)))) else ((cmp_Compare_149.f a0_0 a1_0).bind fun t107 => (some t107))) = some r := h
  clear h
  by_cases c3 : a0_0 = a1_0
  · rw [if_pos c3] at H
    have c3b0 : (a0_0 == a1_0) = true := beq_iff_eq.mpr c3
    have c3b1 : (a0_0 != a1_0) = false := bne_eq_false_iff_eq.mpr c3
    clear c3
    by_cases c4 : a0_0 = 1
    · rw [if_pos c4] at H
      have c4b0 : (a0_0 == 1) = true := beq_iff_eq.mpr c4
      have c4b1 : (a0_0 != 1) = false := bne_eq_false_iff_eq.mpr c4
      clear c4
      replace H := Option.bind_eq_some_iff.mp H
      obtain ⟨t108,A50,H⟩ := H
      replace H : ((value_truth.f a1_1).bind fun t109 => ((cmp_Compare_149.f t108 t109).bind fun t110 => (some t110))) = some r := H
      have A5 := Aside0.mk A50
      clear A50
      replace H := Option.bind_eq_some_iff.mp H
      obtain ⟨t109,A60,H⟩ := H
      replace H : ((cmp_Compare_149.f t108 t109).bind fun t110 => (some t110)) = some r := H
      have A6 := Aside0.mk A60
      clear A60
      replace H := Option.bind_eq_some_iff.mp H
      obtain ⟨t110,A70,H⟩ := H
      replace H : (some t110) = some r := H
      have A7 := Aside0.mk A70
      clear A70
      obtain rfl := Option.some.inj H
      go_enter Try.func134,Try.ntmps134
      go_wp2_with (first | ((with_reducible refine gate_dst (N := 2) rfl ?_);refine box_event ?hg (N := 2) ?hd (cs := #[.int .i64 a0_0,.bool a0_1,.int .i64 a0_2,.string a0_3]) (t := 149) ?hr ?_;(case hd => rfl);(case hg => rfl);(case hr => first | (go_simp;done) | (go_simp;rfl));intro gb105 hg w8 hbox hb;have n0_ := Aside0.mk (below_step (by repeat (first | (with_reducible first | exact HB.out | apply below_alloc | apply pw_below_drewN | apply below_drew1) | exact HB.out)) hb);have n1_ := Aside0.mk (hbox);have n2_ := Aside0.mk ((by rw [hg];exact (below_size (by repeat (first | (with_reducible first | exact HB.out | apply below_alloc | apply pw_below_drewN | apply below_drew1) | exact HB.out))) : w.heap.size ≤ gb105));have n3_ := Aside0.mk ((by rw [hg];exact (below_size (by repeat (first | (with_reducible first | exact HB.out | apply below_alloc | apply pw_below_drewN | apply below_drew1) | exact HB.out))) : w.heap.size ≤ gb105));clear HB;have HB := n0_;have BK105 := n1_;have GW105 := n2_;have GE105 := n3_;clear n0_ n1_ n2_ n3_;clear hb hbox hg) | ((with_reducible refine gate_dst (N := 3) rfl ?_);refine box_event ?hg (N := 3) ?hd (cs := #[.int .i64 a1_0,.bool a1_1,.int .i64 a1_2,.string a1_3]) (t := 149) ?hr ?_;(case hd => rfl);(case hg => rfl);(case hr => first | (go_simp;done) | (go_simp;rfl));intro gb106 hg w9 hbox hb;have n0_ := Aside0.mk (blk_below (g := gb105) (o := .cells #[.int .i64 a0_0,.bool a0_1,.int .i64 a0_2,.string a0_3] 149 (0,0)) (by (with_reducible repeat (first | refine blk_drewN ?_ _ | refine blk_drew ?_ | refine blk_alloc ?_ _));exact BK105.out) hb);have n1_ := Aside0.mk (below_step (by repeat (first | (with_reducible first | exact HB.out | apply below_alloc | apply pw_below_drewN | apply below_drew1 | refine below_set ?_ GE105.out) | exact HB.out)) hb);have n2_ := Aside0.mk (hbox);have n3_ := Aside0.mk ((by rw [hg];exact (below_size (by repeat (first | (with_reducible first | exact HB.out | apply below_alloc | apply pw_below_drewN | apply below_drew1 | refine below_set ?_ GE105.out) | exact HB.out))) : w.heap.size ≤ gb106));have n4_ := Aside0.mk ((by rw [hg];exact (below_size (by repeat (first | (with_reducible first | exact HB.out | apply below_alloc | apply pw_below_drewN | apply below_drew1 | refine below_set ?_ GE105.out) | exact HB.out))) : w.heap.size ≤ gb106));have n5_ := Aside0.mk ((by rw [hg];exact Nat.ne_of_lt (blk_lt (g := gb105) (o := .cells #[.int .i64 a0_0,.bool a0_1,.int .i64 a0_2,.string a0_3] 149 (0,0)) (by (with_reducible repeat (first | refine blk_drewN ?_ _ | refine blk_drew ?_ | refine blk_alloc ?_ _));exact BK105.out)) : gb105 ≠ gb106));have n6_ := Aside0.mk ((by rw [hg];exact Nat.ne_of_gt (blk_lt (g := gb105) (o := .cells #[.int .i64 a0_0,.bool a0_1,.int .i64 a0_2,.string a0_3] 149 (0,0)) (by (with_reducible repeat (first | refine blk_drewN ?_ _ | refine blk_drew ?_ | refine blk_alloc ?_ _));exact BK105.out)) : gb106 ≠ gb105));clear BK105;clear HB;have BK105 := n0_;have HB := n1_;have BK106 := n2_;have GW106 := n3_;have GE106 := n4_;have NB105_106 := n5_;have NB106_105 := n6_;clear n0_ n1_ n2_ n3_ n4_ n5_ n6_;clear hb hbox hg;have hnb10 := NB105_106.out;have hnc10 := NB106_105.out;have hcz11_0 : w9.cell? ⟨gb105,0,none⟩ = some (.int .i64 a0_0) := (blk_cell BK105.out 0).trans rfl;have hcz11_1 : w9.cell? ⟨gb105,1,none⟩ = some (.bool a0_1) := (blk_cell BK105.out 1).trans rfl;have hcz11_2 : w9.cell? ⟨gb105,2,none⟩ = some (.int .i64 a0_2) := (blk_cell BK105.out 2).trans rfl;have hcz11_3 : w9.cell? ⟨gb105,3,none⟩ = some (.string a0_3) := (blk_cell BK105.out 3).trans rfl;have hfz11_0 := blk_frozen BK105.out 0;have hfz11_1 := blk_frozen BK105.out 1;have hfz11_2 := blk_frozen BK105.out 2;have hfz11_3 := blk_frozen BK105.out 3;have hcz12_0 : w9.cell? ⟨gb106,0,none⟩ = some (.int .i64 a1_0) := (blk_cell BK106.out 0).trans rfl;have hcz12_1 : w9.cell? ⟨gb106,1,none⟩ = some (.bool a1_1) := (blk_cell BK106.out 1).trans rfl;have hcz12_2 : w9.cell? ⟨gb106,2,none⟩ = some (.int .i64 a1_2) := (blk_cell BK106.out 2).trans rfl;have hcz12_3 : w9.cell? ⟨gb106,3,none⟩ = some (.string a1_3) := (blk_cell BK106.out 3).trans rfl;have hfz12_0 := blk_frozen BK106.out 0;have hfz12_1 := blk_frozen BK106.out 1;have hfz12_2 := blk_frozen BK106.out 2;have hfz12_3 := blk_frozen BK106.out 3) | (go_at_call 150;(with_reducible refine (value_truth.calls a0_1 t108 _ A5.out).mono ?_);rintro e w' ⟨rfl,⟨nd,rfl⟩⟩;(try first | exact ⟨rfl,_,World.drewN_drewN _ _ _⟩ | exact ⟨rfl,_,Eq.trans (World.drewN_drewN _ _ _) (congrArg (World.drewN _) (Nat.add_assoc _ _ _))⟩)) | (go_at_call 150;(with_reducible refine (value_truth.calls a1_1 t109 _ A6.out).mono ?_);rintro e w' ⟨rfl,⟨nd,rfl⟩⟩;(try first | exact ⟨rfl,_,World.drewN_drewN _ _ _⟩ | exact ⟨rfl,_,Eq.trans (World.drewN_drewN _ _ _) (congrArg (World.drewN _) (Nat.add_assoc _ _ _))⟩)) | (go_at_call 149;(with_reducible refine (cmp_Compare_149.calls t108 t109 t110 _ A7.out).mono ?_);rintro e w' ⟨rfl,⟨nd,rfl⟩⟩;(try first | exact ⟨rfl,_,World.drewN_drewN _ _ _⟩ | exact ⟨rfl,_,Eq.trans (World.drewN_drewN _ _ _) (congrArg (World.drewN _) (Nat.add_assoc _ _ _))⟩)))
      repeat (go_quiet (first | ((with_reducible refine gate_dst (N := 2) rfl ?_);refine box_event ?hg (N := 2) ?hd (cs := #[.int .i64 a0_0,.bool a0_1,.int .i64 a0_2,.string a0_3]) (t := 149) ?hr ?_;(case hd => rfl);(case hg => rfl);(case hr => first | (go_simp;done) | (go_simp;rfl));intro gb105 hg w8 hbox hb;have n0_ := Aside0.mk (below_step (by repeat (first | (with_reducible first | exact HB.out | apply below_alloc | apply pw_below_drewN | apply below_drew1) | exact HB.out)) hb);have n1_ := Aside0.mk (hbox);have n2_ := Aside0.mk ((by rw [hg];exact (below_size (by repeat (first | (with_reducible first | exact HB.out | apply below_alloc | apply pw_below_drewN | apply below_drew1) | exact HB.out))) : w.heap.size ≤ gb105));have n3_ := Aside0.mk ((by rw [hg];exact (below_size (by repeat (first | (with_reducible first | exact HB.out | apply below_alloc | apply pw_below_drewN | apply below_drew1) | exact HB.out))) : w.heap.size ≤ gb105));clear HB;have HB := n0_;have BK105 := n1_;have GW105 := n2_;have GE105 := n3_;clear n0_ n1_ n2_ n3_;clear hb hbox hg) | ((with_reducible refine gate_dst (N := 3) rfl ?_);refine box_event ?hg (N := 3) ?hd (cs := #[.int .i64 a1_0,.bool a1_1,.int .i64 a1_2,.string a1_3]) (t := 149) ?hr ?_;(case hd => rfl);(case hg => rfl);(case hr => first | (go_simp;done) | (go_simp;rfl));intro gb106 hg w9 hbox hb;have n0_ := Aside0.mk (blk_below (g := gb105) (o := .cells #[.int .i64 a0_0,.bool a0_1,.int .i64 a0_2,.string a0_3] 149 (0,0)) (by (with_reducible repeat (first | refine blk_drewN ?_ _ | refine blk_drew ?_ | refine blk_alloc ?_ _));exact BK105.out) hb);have n1_ := Aside0.mk (below_step (by repeat (first | (with_reducible first | exact HB.out | apply below_alloc | apply pw_below_drewN | apply below_drew1 | refine below_set ?_ GE105.out) | exact HB.out)) hb);have n2_ := Aside0.mk (hbox);have n3_ := Aside0.mk ((by rw [hg];exact (below_size (by repeat (first | (with_reducible first | exact HB.out | apply below_alloc | apply pw_below_drewN | apply below_drew1 | refine below_set ?_ GE105.out) | exact HB.out))) : w.heap.size ≤ gb106));have n4_ := Aside0.mk ((by rw [hg];exact (below_size (by repeat (first | (with_reducible first | exact HB.out | apply below_alloc | apply pw_below_drewN | apply below_drew1 | refine below_set ?_ GE105.out) | exact HB.out))) : w.heap.size ≤ gb106));have n5_ := Aside0.mk ((by rw [hg];exact Nat.ne_of_lt (blk_lt (g := gb105) (o := .cells #[.int .i64 a0_0,.bool a0_1,.int .i64 a0_2,.string a0_3] 149 (0,0)) (by (with_reducible repeat (first | refine blk_drewN ?_ _ | refine blk_drew ?_ | refine blk_alloc ?_ _));exact BK105.out)) : gb105 ≠ gb106));have n6_ := Aside0.mk ((by rw [hg];exact Nat.ne_of_gt (blk_lt (g := gb105) (o := .cells #[.int .i64 a0_0,.bool a0_1,.int .i64 a0_2,.string a0_3] 149 (0,0)) (by (with_reducible repeat (first | refine blk_drewN ?_ _ | refine blk_drew ?_ | refine blk_alloc ?_ _));exact BK105.out)) : gb106 ≠ gb105));clear BK105;clear HB;have BK105 := n0_;have HB := n1_;have BK106 := n2_;have GW106 := n3_;have GE106 := n4_;have NB105_106 := n5_;have NB106_105 := n6_;clear n0_ n1_ n2_ n3_ n4_ n5_ n6_;clear hb hbox hg;have hnb10 := NB105_106.out;have hnc10 := NB106_105.out;have hcz11_0 : w9.cell? ⟨gb105,0,none⟩ = some (.int .i64 a0_0) := (blk_cell BK105.out 0).trans rfl;have hcz11_1 : w9.cell? ⟨gb105,1,none⟩ = some (.bool a0_1) := (blk_cell BK105.out 1).trans rfl;have hcz11_2 : w9.cell? ⟨gb105,2,none⟩ = some (.int .i64 a0_2) := (blk_cell BK105.out 2).trans rfl;have hcz11_3 : w9.cell? ⟨gb105,3,none⟩ = some (.string a0_3) := (blk_cell BK105.out 3).trans rfl;have hfz11_0 := blk_frozen BK105.out 0;have hfz11_1 := blk_frozen BK105.out 1;have hfz11_2 := blk_frozen BK105.out 2;have hfz11_3 := blk_frozen BK105.out 3;have hcz12_0 : w9.cell? ⟨gb106,0,none⟩ = some (.int .i64 a1_0) := (blk_cell BK106.out 0).trans rfl;have hcz12_1 : w9.cell? ⟨gb106,1,none⟩ = some (.bool a1_1) := (blk_cell BK106.out 1).trans rfl;have hcz12_2 : w9.cell? ⟨gb106,2,none⟩ = some (.int .i64 a1_2) := (blk_cell BK106.out 2).trans rfl;have hcz12_3 : w9.cell? ⟨gb106,3,none⟩ = some (.string a1_3) := (blk_cell BK106.out 3).trans rfl;have hfz12_0 := blk_frozen BK106.out 0;have hfz12_1 := blk_frozen BK106.out 1;have hfz12_2 := blk_frozen BK106.out 2;have hfz12_3 := blk_frozen BK106.out 3) | (go_at_call 150;(with_reducible refine (value_truth.calls a0_1 t108 _ A5.out).mono ?_);rintro e w' ⟨rfl,⟨nd,rfl⟩⟩;(try first | exact ⟨rfl,_,World.drewN_drewN _ _ _⟩ | exact ⟨rfl,_,Eq.trans (World.drewN_drewN _ _ _) (congrArg (World.drewN _) (Nat.add_assoc _ _ _))⟩)) | (go_at_call 150;(with_reducible refine (value_truth.calls a1_1 t109 _ A6.out).mono ?_);rintro e w' ⟨rfl,⟨nd,rfl⟩⟩;(try first | exact ⟨rfl,_,World.drewN_drewN _ _ _⟩ | exact ⟨rfl,_,Eq.trans (World.drewN_drewN _ _ _) (congrArg (World.drewN _) (Nat.add_assoc _ _ _))⟩)) | (go_at_call 149;(with_reducible refine (cmp_Compare_149.calls t108 t109 t110 _ A7.out).mono ?_);rintro e w' ⟨rfl,⟨nd,rfl⟩⟩;(try first | exact ⟨rfl,_,World.drewN_drewN _ _ _⟩ | exact ⟨rfl,_,Eq.trans (World.drewN_drewN _ _ _) (congrArg (World.drewN _) (Nat.add_assoc _ _ _))⟩)));try go_wp2_with (first | ((with_reducible refine gate_dst (N := 2) rfl ?_);refine box_event ?hg (N := 2) ?hd (cs := #[.int .i64 a0_0,.bool a0_1,.int .i64 a0_2,.string a0_3]) (t := 149) ?hr ?_;(case hd => rfl);(case hg => rfl);(case hr => first | (go_simp;done) | (go_simp;rfl));intro gb105 hg w8 hbox hb;have n0_ := Aside0.mk (below_step (by repeat (first | (with_reducible first | exact HB.out | apply below_alloc | apply pw_below_drewN | apply below_drew1) | exact HB.out)) hb);have n1_ := Aside0.mk (hbox);have n2_ := Aside0.mk ((by rw [hg];exact (below_size (by repeat (first | (with_reducible first | exact HB.out | apply below_alloc | apply pw_below_drewN | apply below_drew1) | exact HB.out))) : w.heap.size ≤ gb105));have n3_ := Aside0.mk ((by rw [hg];exact (below_size (by repeat (first | (with_reducible first | exact HB.out | apply below_alloc | apply pw_below_drewN | apply below_drew1) | exact HB.out))) : w.heap.size ≤ gb105));clear HB;have HB := n0_;have BK105 := n1_;have GW105 := n2_;have GE105 := n3_;clear n0_ n1_ n2_ n3_;clear hb hbox hg) | ((with_reducible refine gate_dst (N := 3) rfl ?_);refine box_event ?hg (N := 3) ?hd (cs := #[.int .i64 a1_0,.bool a1_1,.int .i64 a1_2,.string a1_3]) (t := 149) ?hr ?_;(case hd => rfl);(case hg => rfl);(case hr => first | (go_simp;done) | (go_simp;rfl));intro gb106 hg w9 hbox hb;have n0_ := Aside0.mk (blk_below (g := gb105) (o := .cells #[.int .i64 a0_0,.bool a0_1,.int .i64 a0_2,.string a0_3] 149 (0,0)) (by (with_reducible repeat (first | refine blk_drewN ?_ _ | refine blk_drew ?_ | refine blk_alloc ?_ _));exact BK105.out) hb);have n1_ := Aside0.mk (below_step (by repeat (first | (with_reducible first | exact HB.out | apply below_alloc | apply pw_below_drewN | apply below_drew1 | refine below_set ?_ GE105.out) | exact HB.out)) hb);have n2_ := Aside0.mk (hbox);have n3_ := Aside0.mk ((by rw [hg];exact (below_size (by repeat (first | (with_reducible first | exact HB.out | apply below_alloc | apply pw_below_drewN | apply below_drew1 | refine below_set ?_ GE105.out) | exact HB.out))) : w.heap.size ≤ gb106));have n4_ := Aside0.mk ((by rw [hg];exact (below_size (by repeat (first | (with_reducible first | exact HB.out | apply below_alloc | apply pw_below_drewN | apply below_drew1 | refine below_set ?_ GE105.out) | exact HB.out))) : w.heap.size ≤ gb106));have n5_ := Aside0.mk ((by rw [hg];exact Nat.ne_of_lt (blk_lt (g := gb105) (o := .cells #[.int .i64 a0_0,.bool a0_1,.int .i64 a0_2,.string a0_3] 149 (0,0)) (by (with_reducible repeat (first | refine blk_drewN ?_ _ | refine blk_drew ?_ | refine blk_alloc ?_ _));exact BK105.out)) : gb105 ≠ gb106));have n6_ := Aside0.mk ((by rw [hg];exact Nat.ne_of_gt (blk_lt (g := gb105) (o := .cells #[.int .i64 a0_0,.bool a0_1,.int .i64 a0_2,.string a0_3] 149 (0,0)) (by (with_reducible repeat (first | refine blk_drewN ?_ _ | refine blk_drew ?_ | refine blk_alloc ?_ _));exact BK105.out)) : gb106 ≠ gb105));clear BK105;clear HB;have BK105 := n0_;have HB := n1_;have BK106 := n2_;have GW106 := n3_;have GE106 := n4_;have NB105_106 := n5_;have NB106_105 := n6_;clear n0_ n1_ n2_ n3_ n4_ n5_ n6_;clear hb hbox hg;have hnb10 := NB105_106.out;have hnc10 := NB106_105.out;have hcz11_0 : w9.cell? ⟨gb105,0,none⟩ = some (.int .i64 a0_0) := (blk_cell BK105.out 0).trans rfl;have hcz11_1 : w9.cell? ⟨gb105,1,none⟩ = some (.bool a0_1) := (blk_cell BK105.out 1).trans rfl;have hcz11_2 : w9.cell? ⟨gb105,2,none⟩ = some (.int .i64 a0_2) := (blk_cell BK105.out 2).trans rfl;have hcz11_3 : w9.cell? ⟨gb105,3,none⟩ = some (.string a0_3) := (blk_cell BK105.out 3).trans rfl;have hfz11_0 := blk_frozen BK105.out 0;have hfz11_1 := blk_frozen BK105.out 1;have hfz11_2 := blk_frozen BK105.out 2;have hfz11_3 := blk_frozen BK105.out 3;have hcz12_0 : w9.cell? ⟨gb106,0,none⟩ = some (.int .i64 a1_0) := (blk_cell BK106.out 0).trans rfl;have hcz12_1 : w9.cell? ⟨gb106,1,none⟩ = some (.bool a1_1) := (blk_cell BK106.out 1).trans rfl;have hcz12_2 : w9.cell? ⟨gb106,2,none⟩ = some (.int .i64 a1_2) := (blk_cell BK106.out 2).trans rfl;have hcz12_3 : w9.cell? ⟨gb106,3,none⟩ = some (.string a1_3) := (blk_cell BK106.out 3).trans rfl;have hfz12_0 := blk_frozen BK106.out 0;have hfz12_1 := blk_frozen BK106.out 1;have hfz12_2 := blk_frozen BK106.out 2;have hfz12_3 := blk_frozen BK106.out 3) | (go_at_call 150;(with_reducible refine (value_truth.calls a0_1 t108 _ A5.out).mono ?_);rintro e w' ⟨rfl,⟨nd,rfl⟩⟩;(try first | exact ⟨rfl,_,World.drewN_drewN _ _ _⟩ | exact ⟨rfl,_,Eq.trans (World.drewN_drewN _ _ _) (congrArg (World.drewN _) (Nat.add_assoc _ _ _))⟩)) | (go_at_call 150;(with_reducible refine (value_truth.calls a1_1 t109 _ A6.out).mono ?_);rintro e w' ⟨rfl,⟨nd,rfl⟩⟩;(try first | exact ⟨rfl,_,World.drewN_drewN _ _ _⟩ | exact ⟨rfl,_,Eq.trans (World.drewN_drewN _ _ _) (congrArg (World.drewN _) (Nat.add_assoc _ _ _))⟩)) | (go_at_call 149;(with_reducible refine (cmp_Compare_149.calls t108 t109 t110 _ A7.out).mono ?_);rintro e w' ⟨rfl,⟨nd,rfl⟩⟩;(try first | exact ⟨rfl,_,World.drewN_drewN _ _ _⟩ | exact ⟨rfl,_,Eq.trans (World.drewN_drewN _ _ _) (congrArg (World.drewN _) (Nat.add_assoc _ _ _))⟩))))
      go_ret
      exact ⟨by first | rfl | (simp [errW_none,errW_some] <;> rfl) | (simp [*,errW_none,errW_some] <;> rfl),by repeat (first | (with_reducible first | exact HB.out | apply below_alloc | apply pw_below_drewN | apply below_drew1 | refine below_set ?_ GE105.out | refine below_set ?_ GE106.out) | exact HB.out)⟩
    · rw [if_neg c4] at H
      have c4b0 : (a0_0 == 1) = false := beq_eq_false_iff_ne.mpr c4
      have c4b1 : (a0_0 != 1) = true := bne_iff_ne.mpr c4
      by_cases c13 : a0_0 = 2
      · rw [if_pos c13] at H
        have c13b0 : (a0_0 == 2) = true := beq_iff_eq.mpr c13
        have c13b1 : (a0_0 != 2) = false := bne_eq_false_iff_eq.mpr c13
        clear c13
        replace H := Option.bind_eq_some_iff.mp H
        obtain ⟨t111,A140,H⟩ := H
        replace H : (some t111) = some r := H
        have A14 := Aside0.mk A140
        clear A140
        obtain rfl := Option.some.inj H
        go_enter Try.func134,Try.ntmps134
        go_wp2_with (first | ((with_reducible refine gate_dst (N := 2) rfl ?_);refine box_event ?hg (N := 2) ?hd (cs := #[.int .i64 a0_0,.bool a0_1,.int .i64 a0_2,.string a0_3]) (t := 149) ?hr ?_;(case hd => rfl);(case hg => rfl);(case hr => first | (go_simp;done) | (go_simp;rfl));intro gb105 hg w15 hbox hb;have n0_ := Aside0.mk (below_step (by repeat (first | (with_reducible first | exact HB.out | apply below_alloc | apply pw_below_drewN | apply below_drew1) | exact HB.out)) hb);have n1_ := Aside0.mk (hbox);have n2_ := Aside0.mk ((by rw [hg];exact (below_size (by repeat (first | (with_reducible first | exact HB.out | apply below_alloc | apply pw_below_drewN | apply below_drew1) | exact HB.out))) : w.heap.size ≤ gb105));have n3_ := Aside0.mk ((by rw [hg];exact (below_size (by repeat (first | (with_reducible first | exact HB.out | apply below_alloc | apply pw_below_drewN | apply below_drew1) | exact HB.out))) : w.heap.size ≤ gb105));clear HB;have HB := n0_;have BK105 := n1_;have GW105 := n2_;have GE105 := n3_;clear n0_ n1_ n2_ n3_;clear hb hbox hg) | ((with_reducible refine gate_dst (N := 3) rfl ?_);refine box_event ?hg (N := 3) ?hd (cs := #[.int .i64 a1_0,.bool a1_1,.int .i64 a1_2,.string a1_3]) (t := 149) ?hr ?_;(case hd => rfl);(case hg => rfl);(case hr => first | (go_simp;done) | (go_simp;rfl));intro gb106 hg w16 hbox hb;have n0_ := Aside0.mk (blk_below (g := gb105) (o := .cells #[.int .i64 a0_0,.bool a0_1,.int .i64 a0_2,.string a0_3] 149 (0,0)) (by (with_reducible repeat (first | refine blk_drewN ?_ _ | refine blk_drew ?_ | refine blk_alloc ?_ _));exact BK105.out) hb);have n1_ := Aside0.mk (below_step (by repeat (first | (with_reducible first | exact HB.out | apply below_alloc | apply pw_below_drewN | apply below_drew1 | refine below_set ?_ GE105.out) | exact HB.out)) hb);have n2_ := Aside0.mk (hbox);have n3_ := Aside0.mk ((by rw [hg];exact (below_size (by repeat (first | (with_reducible first | exact HB.out | apply below_alloc | apply pw_below_drewN | apply below_drew1 | refine below_set ?_ GE105.out) | exact HB.out))) : w.heap.size ≤ gb106));have n4_ := Aside0.mk ((by rw [hg];exact (below_size (by repeat (first | (with_reducible first | exact HB.out | apply below_alloc | apply pw_below_drewN | apply below_drew1 | refine below_set ?_ GE105.out) | exact HB.out))) : w.heap.size ≤ gb106));have n5_ := Aside0.mk ((by rw [hg];exact Nat.ne_of_lt (blk_lt (g := gb105) (o := .cells #[.int .i64 a0_0,.bool a0_1,.int .i64 a0_2,.string a0_3] 149 (0,0)) (by (with_reducible repeat (first | refine blk_drewN ?_ _ | refine blk_drew ?_ | refine blk_alloc ?_ _));exact BK105.out)) : gb105 ≠ gb106));have n6_ := Aside0.mk ((by rw [hg];exact Nat.ne_of_gt (blk_lt (g := gb105) (o := .cells #[.int .i64 a0_0,.bool a0_1,.int .i64 a0_2,.string a0_3] 149 (0,0)) (by (with_reducible repeat (first | refine blk_drewN ?_ _ | refine blk_drew ?_ | refine blk_alloc ?_ _));exact BK105.out)) : gb106 ≠ gb105));clear BK105;clear HB;have BK105 := n0_;have HB := n1_;have BK106 := n2_;have GW106 := n3_;have GE106 := n4_;have NB105_106 := n5_;have NB106_105 := n6_;clear n0_ n1_ n2_ n3_ n4_ n5_ n6_;clear hb hbox hg;have hnb17 := NB105_106.out;have hnc17 := NB106_105.out;have hcz18_0 : w16.cell? ⟨gb105,0,none⟩ = some (.int .i64 a0_0) := (blk_cell BK105.out 0).trans rfl;have hcz18_1 : w16.cell? ⟨gb105,1,none⟩ = some (.bool a0_1) := (blk_cell BK105.out 1).trans rfl;have hcz18_2 : w16.cell? ⟨gb105,2,none⟩ = some (.int .i64 a0_2) := (blk_cell BK105.out 2).trans rfl;have hcz18_3 : w16.cell? ⟨gb105,3,none⟩ = some (.string a0_3) := (blk_cell BK105.out 3).trans rfl;have hfz18_0 := blk_frozen BK105.out 0;have hfz18_1 := blk_frozen BK105.out 1;have hfz18_2 := blk_frozen BK105.out 2;have hfz18_3 := blk_frozen BK105.out 3;have hcz19_0 : w16.cell? ⟨gb106,0,none⟩ = some (.int .i64 a1_0) := (blk_cell BK106.out 0).trans rfl;have hcz19_1 : w16.cell? ⟨gb106,1,none⟩ = some (.bool a1_1) := (blk_cell BK106.out 1).trans rfl;have hcz19_2 : w16.cell? ⟨gb106,2,none⟩ = some (.int .i64 a1_2) := (blk_cell BK106.out 2).trans rfl;have hcz19_3 : w16.cell? ⟨gb106,3,none⟩ = some (.string a1_3) := (blk_cell BK106.out 3).trans rfl;have hfz19_0 := blk_frozen BK106.out 0;have hfz19_1 := blk_frozen BK106.out 1;have hfz19_2 := blk_frozen BK106.out 2;have hfz19_3 := blk_frozen BK106.out 3) | (go_at_call 151;(with_reducible refine (cmp_Compare_151.calls a0_2 a1_2 t111 _ A14.out).mono ?_);rintro e w' ⟨rfl,⟨nd,rfl⟩⟩;(try first | exact ⟨rfl,_,World.drewN_drewN _ _ _⟩ | exact ⟨rfl,_,Eq.trans (World.drewN_drewN _ _ _) (congrArg (World.drewN _) (Nat.add_assoc _ _ _))⟩)))
        repeat (go_quiet (first | ((with_reducible refine gate_dst (N := 2) rfl ?_);refine box_event ?hg (N := 2) ?hd (cs := #[.int .i64 a0_0,.bool a0_1,.int .i64 a0_2,.string a0_3]) (t := 149) ?hr ?_;(case hd => rfl);(case hg => rfl);(case hr => first | (go_simp;done) | (go_simp;rfl));intro gb105 hg w15 hbox hb;have n0_ := Aside0.mk (below_step (by repeat (first | (with_reducible first | exact HB.out | apply below_alloc | apply pw_below_drewN | apply below_drew1) | exact HB.out)) hb);have n1_ := Aside0.mk (hbox);have n2_ := Aside0.mk ((by rw [hg];exact (below_size (by repeat (first | (with_reducible first | exact HB.out | apply below_alloc | apply pw_below_drewN | apply below_drew1) | exact HB.out))) : w.heap.size ≤ gb105));have n3_ := Aside0.mk ((by rw [hg];exact (below_size (by repeat (first | (with_reducible first | exact HB.out | apply below_alloc | apply pw_below_drewN | apply below_drew1) | exact HB.out))) : w.heap.size ≤ gb105));clear HB;have HB := n0_;have BK105 := n1_;have GW105 := n2_;have GE105 := n3_;clear n0_ n1_ n2_ n3_;clear hb hbox hg) | ((with_reducible refine gate_dst (N := 3) rfl ?_);refine box_event ?hg (N := 3) ?hd (cs := #[.int .i64 a1_0,.bool a1_1,.int .i64 a1_2,.string a1_3]) (t := 149) ?hr ?_;(case hd => rfl);(case hg => rfl);(case hr => first | (go_simp;done) | (go_simp;rfl));intro gb106 hg w16 hbox hb;have n0_ := Aside0.mk (blk_below (g := gb105) (o := .cells #[.int .i64 a0_0,.bool a0_1,.int .i64 a0_2,.string a0_3] 149 (0,0)) (by (with_reducible repeat (first | refine blk_drewN ?_ _ | refine blk_drew ?_ | refine blk_alloc ?_ _));exact BK105.out) hb);have n1_ := Aside0.mk (below_step (by repeat (first | (with_reducible first | exact HB.out | apply below_alloc | apply pw_below_drewN | apply below_drew1 | refine below_set ?_ GE105.out) | exact HB.out)) hb);have n2_ := Aside0.mk (hbox);have n3_ := Aside0.mk ((by rw [hg];exact (below_size (by repeat (first | (with_reducible first | exact HB.out | apply below_alloc | apply pw_below_drewN | apply below_drew1 | refine below_set ?_ GE105.out) | exact HB.out))) : w.heap.size ≤ gb106));have n4_ := Aside0.mk ((by rw [hg];exact (below_size (by repeat (first | (with_reducible first | exact HB.out | apply below_alloc | apply pw_below_drewN | apply below_drew1 | refine below_set ?_ GE105.out) | exact HB.out))) : w.heap.size ≤ gb106));have n5_ := Aside0.mk ((by rw [hg];exact Nat.ne_of_lt (blk_lt (g := gb105) (o := .cells #[.int .i64 a0_0,.bool a0_1,.int .i64 a0_2,.string a0_3] 149 (0,0)) (by (with_reducible repeat (first | refine blk_drewN ?_ _ | refine blk_drew ?_ | refine blk_alloc ?_ _));exact BK105.out)) : gb105 ≠ gb106));have n6_ := Aside0.mk ((by rw [hg];exact Nat.ne_of_gt (blk_lt (g := gb105) (o := .cells #[.int .i64 a0_0,.bool a0_1,.int .i64 a0_2,.string a0_3] 149 (0,0)) (by (with_reducible repeat (first | refine blk_drewN ?_ _ | refine blk_drew ?_ | refine blk_alloc ?_ _));exact BK105.out)) : gb106 ≠ gb105));clear BK105;clear HB;have BK105 := n0_;have HB := n1_;have BK106 := n2_;have GW106 := n3_;have GE106 := n4_;have NB105_106 := n5_;have NB106_105 := n6_;clear n0_ n1_ n2_ n3_ n4_ n5_ n6_;clear hb hbox hg;have hnb17 := NB105_106.out;have hnc17 := NB106_105.out;have hcz18_0 : w16.cell? ⟨gb105,0,none⟩ = some (.int .i64 a0_0) := (blk_cell BK105.out 0).trans rfl;have hcz18_1 : w16.cell? ⟨gb105,1,none⟩ = some (.bool a0_1) := (blk_cell BK105.out 1).trans rfl;have hcz18_2 : w16.cell? ⟨gb105,2,none⟩ = some (.int .i64 a0_2) := (blk_cell BK105.out 2).trans rfl;have hcz18_3 : w16.cell? ⟨gb105,3,none⟩ = some (.string a0_3) := (blk_cell BK105.out 3).trans rfl;have hfz18_0 := blk_frozen BK105.out 0;have hfz18_1 := blk_frozen BK105.out 1;have hfz18_2 := blk_frozen BK105.out 2;have hfz18_3 := blk_frozen BK105.out 3;have hcz19_0 : w16.cell? ⟨gb106,0,none⟩ = some (.int .i64 a1_0) := (blk_cell BK106.out 0).trans rfl;have hcz19_1 : w16.cell? ⟨gb106,1,none⟩ = some (.bool a1_1) := (blk_cell BK106.out 1).trans rfl;have hcz19_2 : w16.cell? ⟨gb106,2,none⟩ = some (.int .i64 a1_2) := (blk_cell BK106.out 2).trans rfl;have hcz19_3 : w16.cell? ⟨gb106,3,none⟩ = some (.string a1_3) := (blk_cell BK106.out 3).trans rfl;have hfz19_0 := blk_frozen BK106.out 0;have hfz19_1 := blk_frozen BK106.out 1;have hfz19_2 := blk_frozen BK106.out 2;have hfz19_3 := blk_frozen BK106.out 3) | (go_at_call 151;(with_reducible refine (cmp_Compare_151.calls a0_2 a1_2 t111 _ A14.out).mono ?_);rintro e w' ⟨rfl,⟨nd,rfl⟩⟩;(try first | exact ⟨rfl,_,World.drewN_drewN _ _ _⟩ | exact ⟨rfl,_,Eq.trans (World.drewN_drewN _ _ _) (congrArg (World.drewN _) (Nat.add_assoc _ _ _))⟩)));try go_wp2_with (first | ((with_reducible refine gate_dst (N := 2) rfl ?_);refine box_event ?hg (N := 2) ?hd (cs := #[.int .i64 a0_0,.bool a0_1,.int .i64 a0_2,.string a0_3]) (t := 149) ?hr ?_;(case hd => rfl);(case hg => rfl);(case hr => first | (go_simp;done) | (go_simp;rfl));intro gb105 hg w15 hbox hb;have n0_ := Aside0.mk (below_step (by repeat (first | (with_reducible first | exact HB.out | apply below_alloc | apply pw_below_drewN | apply below_drew1) | exact HB.out)) hb);have n1_ := Aside0.mk (hbox);have n2_ := Aside0.mk ((by rw [hg];exact (below_size (by repeat (first | (with_reducible first | exact HB.out | apply below_alloc | apply pw_below_drewN | apply below_drew1) | exact HB.out))) : w.heap.size ≤ gb105));have n3_ := Aside0.mk ((by rw [hg];exact (below_size (by repeat (first | (with_reducible first | exact HB.out | apply below_alloc | apply pw_below_drewN | apply below_drew1) | exact HB.out))) : w.heap.size ≤ gb105));clear HB;have HB := n0_;have BK105 := n1_;have GW105 := n2_;have GE105 := n3_;clear n0_ n1_ n2_ n3_;clear hb hbox hg) | ((with_reducible refine gate_dst (N := 3) rfl ?_);refine box_event ?hg (N := 3) ?hd (cs := #[.int .i64 a1_0,.bool a1_1,.int .i64 a1_2,.string a1_3]) (t := 149) ?hr ?_;(case hd => rfl);(case hg => rfl);(case hr => first | (go_simp;done) | (go_simp;rfl));intro gb106 hg w16 hbox hb;have n0_ := Aside0.mk (blk_below (g := gb105) (o := .cells #[.int .i64 a0_0,.bool a0_1,.int .i64 a0_2,.string a0_3] 149 (0,0)) (by (with_reducible repeat (first | refine blk_drewN ?_ _ | refine blk_drew ?_ | refine blk_alloc ?_ _));exact BK105.out) hb);have n1_ := Aside0.mk (below_step (by repeat (first | (with_reducible first | exact HB.out | apply below_alloc | apply pw_below_drewN | apply below_drew1 | refine below_set ?_ GE105.out) | exact HB.out)) hb);have n2_ := Aside0.mk (hbox);have n3_ := Aside0.mk ((by rw [hg];exact (below_size (by repeat (first | (with_reducible first | exact HB.out | apply below_alloc | apply pw_below_drewN | apply below_drew1 | refine below_set ?_ GE105.out) | exact HB.out))) : w.heap.size ≤ gb106));have n4_ := Aside0.mk ((by rw [hg];exact (below_size (by repeat (first | (with_reducible first | exact HB.out | apply below_alloc | apply pw_below_drewN | apply below_drew1 | refine below_set ?_ GE105.out) | exact HB.out))) : w.heap.size ≤ gb106));have n5_ := Aside0.mk ((by rw [hg];exact Nat.ne_of_lt (blk_lt (g := gb105) (o := .cells #[.int .i64 a0_0,.bool a0_1,.int .i64 a0_2,.string a0_3] 149 (0,0)) (by (with_reducible repeat (first | refine blk_drewN ?_ _ | refine blk_drew ?_ | refine blk_alloc ?_ _));exact BK105.out)) : gb105 ≠ gb106));have n6_ := Aside0.mk ((by rw [hg];exact Nat.ne_of_gt (blk_lt (g := gb105) (o := .cells #[.int .i64 a0_0,.bool a0_1,.int .i64 a0_2,.string a0_3] 149 (0,0)) (by (with_reducible repeat (first | refine blk_drewN ?_ _ | refine blk_drew ?_ | refine blk_alloc ?_ _));exact BK105.out)) : gb106 ≠ gb105));clear BK105;clear HB;have BK105 := n0_;have HB := n1_;have BK106 := n2_;have GW106 := n3_;have GE106 := n4_;have NB105_106 := n5_;have NB106_105 := n6_;clear n0_ n1_ n2_ n3_ n4_ n5_ n6_;clear hb hbox hg;have hnb17 := NB105_106.out;have hnc17 := NB106_105.out;have hcz18_0 : w16.cell? ⟨gb105,0,none⟩ = some (.int .i64 a0_0) := (blk_cell BK105.out 0).trans rfl;have hcz18_1 : w16.cell? ⟨gb105,1,none⟩ = some (.bool a0_1) := (blk_cell BK105.out 1).trans rfl;have hcz18_2 : w16.cell? ⟨gb105,2,none⟩ = some (.int .i64 a0_2) := (blk_cell BK105.out 2).trans rfl;have hcz18_3 : w16.cell? ⟨gb105,3,none⟩ = some (.string a0_3) := (blk_cell BK105.out 3).trans rfl;have hfz18_0 := blk_frozen BK105.out 0;have hfz18_1 := blk_frozen BK105.out 1;have hfz18_2 := blk_frozen BK105.out 2;have hfz18_3 := blk_frozen BK105.out 3;have hcz19_0 : w16.cell? ⟨gb106,0,none⟩ = some (.int .i64 a1_0) := (blk_cell BK106.out 0).trans rfl;have hcz19_1 : w16.cell? ⟨gb106,1,none⟩ = some (.bool a1_1) := (blk_cell BK106.out 1).trans rfl;have hcz19_2 : w16.cell? ⟨gb106,2,none⟩ = some (.int .i64 a1_2) := (blk_cell BK106.out 2).trans rfl;have hcz19_3 : w16.cell? ⟨gb106,3,none⟩ = some (.string a1_3) := (blk_cell BK106.out 3).trans rfl;have hfz19_0 := blk_frozen BK106.out 0;have hfz19_1 := blk_frozen BK106.out 1;have hfz19_2 := blk_frozen BK106.out 2;have hfz19_3 := blk_frozen BK106.out 3) | (go_at_call 151;(with_reducible refine (cmp_Compare_151.calls a0_2 a1_2 t111 _ A14.out).mono ?_);rintro e w' ⟨rfl,⟨nd,rfl⟩⟩;(try first | exact ⟨rfl,_,World.drewN_drewN _ _ _⟩ | exact ⟨rfl,_,Eq.trans (World.drewN_drewN _ _ _) (congrArg (World.drewN _) (Nat.add_assoc _ _ _))⟩))))
        go_ret
        exact ⟨by first | rfl | (simp [errW_none,errW_some] <;> rfl) | (simp [*,errW_none,errW_some] <;> rfl),by repeat (first | (with_reducible first | exact HB.out | apply below_alloc | apply pw_below_drewN | apply below_drew1 | refine below_set ?_ GE105.out | refine below_set ?_ GE106.out) | exact HB.out)⟩
      · rw [if_neg c13] at H
        have c13b0 : (a0_0 == 2) = false := beq_eq_false_iff_ne.mpr c13
        have c13b1 : (a0_0 != 2) = true := bne_iff_ne.mpr c13
        by_cases c20 : a0_0 = 3
        · rw [if_pos c20] at H
          have c20b0 : (a0_0 == 3) = true := beq_iff_eq.mpr c20
          have c20b1 : (a0_0 != 3) = false := bne_eq_false_iff_eq.mpr c20
          clear c20
          replace H := Option.bind_eq_some_iff.mp H
          obtain ⟨t112,A210,H⟩ := H
          replace H : (some t112) = some r := H
          have A21 := Aside0.mk A210
          clear A210
          obtain rfl := Option.some.inj H
          go_enter Try.func134,Try.ntmps134
          go_wp2_with (first | ((with_reducible refine gate_dst (N := 2) rfl ?_);refine box_event ?hg (N := 2) ?hd (cs := #[.int .i64 a0_0,.bool a0_1,.int .i64 a0_2,.string a0_3]) (t := 149) ?hr ?_;(case hd => rfl);(case hg => rfl);(case hr => first | (go_simp;done) | (go_simp;rfl));intro gb105 hg w22 hbox hb;have n0_ := Aside0.mk (below_step (by repeat (first | (with_reducible first | exact HB.out | apply below_alloc | apply pw_below_drewN | apply below_drew1) | exact HB.out)) hb);have n1_ := Aside0.mk (hbox);have n2_ := Aside0.mk ((by rw [hg];exact (below_size (by repeat (first | (with_reducible first | exact HB.out | apply below_alloc | apply pw_below_drewN | apply below_drew1) | exact HB.out))) : w.heap.size ≤ gb105));have n3_ := Aside0.mk ((by rw [hg];exact (below_size (by repeat (first | (with_reducible first | exact HB.out | apply below_alloc | apply pw_below_drewN | apply below_drew1) | exact HB.out))) : w.heap.size ≤ gb105));clear HB;have HB := n0_;have BK105 := n1_;have GW105 := n2_;have GE105 := n3_;clear n0_ n1_ n2_ n3_;clear hb hbox hg) | ((with_reducible refine gate_dst (N := 3) rfl ?_);refine box_event ?hg (N := 3) ?hd (cs := #[.int .i64 a1_0,.bool a1_1,.int .i64 a1_2,.string a1_3]) (t := 149) ?hr ?_;(case hd => rfl);(case hg => rfl);(case hr => first | (go_simp;done) | (go_simp;rfl));intro gb106 hg w23 hbox hb;have n0_ := Aside0.mk (blk_below (g := gb105) (o := .cells #[.int .i64 a0_0,.bool a0_1,.int .i64 a0_2,.string a0_3] 149 (0,0)) (by (with_reducible repeat (first | refine blk_drewN ?_ _ | refine blk_drew ?_ | refine blk_alloc ?_ _));exact BK105.out) hb);have n1_ := Aside0.mk (below_step (by repeat (first | (with_reducible first | exact HB.out | apply below_alloc | apply pw_below_drewN | apply below_drew1 | refine below_set ?_ GE105.out) | exact HB.out)) hb);have n2_ := Aside0.mk (hbox);have n3_ := Aside0.mk ((by rw [hg];exact (below_size (by repeat (first | (with_reducible first | exact HB.out | apply below_alloc | apply pw_below_drewN | apply below_drew1 | refine below_set ?_ GE105.out) | exact HB.out))) : w.heap.size ≤ gb106));have n4_ := Aside0.mk ((by rw [hg];exact (below_size (by repeat (first | (with_reducible first | exact HB.out | apply below_alloc | apply pw_below_drewN | apply below_drew1 | refine below_set ?_ GE105.out) | exact HB.out))) : w.heap.size ≤ gb106));have n5_ := Aside0.mk ((by rw [hg];exact Nat.ne_of_lt (blk_lt (g := gb105) (o := .cells #[.int .i64 a0_0,.bool a0_1,.int .i64 a0_2,.string a0_3] 149 (0,0)) (by (with_reducible repeat (first | refine blk_drewN ?_ _ | refine blk_drew ?_ | refine blk_alloc ?_ _));exact BK105.out)) : gb105 ≠ gb106));have n6_ := Aside0.mk ((by rw [hg];exact Nat.ne_of_gt (blk_lt (g := gb105) (o := .cells #[.int .i64 a0_0,.bool a0_1,.int .i64 a0_2,.string a0_3] 149 (0,0)) (by (with_reducible repeat (first | refine blk_drewN ?_ _ | refine blk_drew ?_ | refine blk_alloc ?_ _));exact BK105.out)) : gb106 ≠ gb105));clear BK105;clear HB;have BK105 := n0_;have HB := n1_;have BK106 := n2_;have GW106 := n3_;have GE106 := n4_;have NB105_106 := n5_;have NB106_105 := n6_;clear n0_ n1_ n2_ n3_ n4_ n5_ n6_;clear hb hbox hg;have hnb24 := NB105_106.out;have hnc24 := NB106_105.out;have hcz25_0 : w23.cell? ⟨gb105,0,none⟩ = some (.int .i64 a0_0) := (blk_cell BK105.out 0).trans rfl;have hcz25_1 : w23.cell? ⟨gb105,1,none⟩ = some (.bool a0_1) := (blk_cell BK105.out 1).trans rfl;have hcz25_2 : w23.cell? ⟨gb105,2,none⟩ = some (.int .i64 a0_2) := (blk_cell BK105.out 2).trans rfl;have hcz25_3 : w23.cell? ⟨gb105,3,none⟩ = some (.string a0_3) := (blk_cell BK105.out 3).trans rfl;have hfz25_0 := blk_frozen BK105.out 0;have hfz25_1 := blk_frozen BK105.out 1;have hfz25_2 := blk_frozen BK105.out 2;have hfz25_3 := blk_frozen BK105.out 3;have hcz26_0 : w23.cell? ⟨gb106,0,none⟩ = some (.int .i64 a1_0) := (blk_cell BK106.out 0).trans rfl;have hcz26_1 : w23.cell? ⟨gb106,1,none⟩ = some (.bool a1_1) := (blk_cell BK106.out 1).trans rfl;have hcz26_2 : w23.cell? ⟨gb106,2,none⟩ = some (.int .i64 a1_2) := (blk_cell BK106.out 2).trans rfl;have hcz26_3 : w23.cell? ⟨gb106,3,none⟩ = some (.string a1_3) := (blk_cell BK106.out 3).trans rfl;have hfz26_0 := blk_frozen BK106.out 0;have hfz26_1 := blk_frozen BK106.out 1;have hfz26_2 := blk_frozen BK106.out 2;have hfz26_3 := blk_frozen BK106.out 3) | (go_at_call 152;(with_reducible refine (strings_Compare.calls a0_3 a1_3 t112 _ A21.out).mono ?_);rintro e w27 ⟨rfl,hb⟩;have n0_ := Aside0.mk (blk_below (g := gb105) (o := .cells #[.int .i64 a0_0,.bool a0_1,.int .i64 a0_2,.string a0_3] 149 (0,0)) (by (with_reducible repeat (first | refine blk_drewN ?_ _ | refine blk_drew ?_ | refine blk_alloc ?_ _));exact BK105.out) hb);have n1_ := Aside0.mk (blk_below (g := gb106) (o := .cells #[.int .i64 a1_0,.bool a1_1,.int .i64 a1_2,.string a1_3] 149 (0,0)) (by (with_reducible repeat (first | refine blk_drewN ?_ _ | refine blk_drew ?_ | refine blk_alloc ?_ _));exact BK106.out) hb);have n2_ := Aside0.mk (below_step (by repeat (first | (with_reducible first | exact HB.out | apply below_alloc | apply pw_below_drewN | apply below_drew1 | refine below_set ?_ GE105.out | refine below_set ?_ GE106.out) | exact HB.out)) hb);clear BK105;clear BK106;clear HB;have BK105 := n0_;have BK106 := n1_;have HB := n2_;clear n0_ n1_ n2_;(try clear hb);(try clear hb2);(try clear hk);(try clear hi)))
          repeat (go_quiet (first | ((with_reducible refine gate_dst (N := 2) rfl ?_);refine box_event ?hg (N := 2) ?hd (cs := #[.int .i64 a0_0,.bool a0_1,.int .i64 a0_2,.string a0_3]) (t := 149) ?hr ?_;(case hd => rfl);(case hg => rfl);(case hr => first | (go_simp;done) | (go_simp;rfl));intro gb105 hg w22 hbox hb;have n0_ := Aside0.mk (below_step (by repeat (first | (with_reducible first | exact HB.out | apply below_alloc | apply pw_below_drewN | apply below_drew1) | exact HB.out)) hb);have n1_ := Aside0.mk (hbox);have n2_ := Aside0.mk ((by rw [hg];exact (below_size (by repeat (first | (with_reducible first | exact HB.out | apply below_alloc | apply pw_below_drewN | apply below_drew1) | exact HB.out))) : w.heap.size ≤ gb105));have n3_ := Aside0.mk ((by rw [hg];exact (below_size (by repeat (first | (with_reducible first | exact HB.out | apply below_alloc | apply pw_below_drewN | apply below_drew1) | exact HB.out))) : w.heap.size ≤ gb105));clear HB;have HB := n0_;have BK105 := n1_;have GW105 := n2_;have GE105 := n3_;clear n0_ n1_ n2_ n3_;clear hb hbox hg) | ((with_reducible refine gate_dst (N := 3) rfl ?_);refine box_event ?hg (N := 3) ?hd (cs := #[.int .i64 a1_0,.bool a1_1,.int .i64 a1_2,.string a1_3]) (t := 149) ?hr ?_;(case hd => rfl);(case hg => rfl);(case hr => first | (go_simp;done) | (go_simp;rfl));intro gb106 hg w23 hbox hb;have n0_ := Aside0.mk (blk_below (g := gb105) (o := .cells #[.int .i64 a0_0,.bool a0_1,.int .i64 a0_2,.string a0_3] 149 (0,0)) (by (with_reducible repeat (first | refine blk_drewN ?_ _ | refine blk_drew ?_ | refine blk_alloc ?_ _));exact BK105.out) hb);have n1_ := Aside0.mk (below_step (by repeat (first | (with_reducible first | exact HB.out | apply below_alloc | apply pw_below_drewN | apply below_drew1 | refine below_set ?_ GE105.out) | exact HB.out)) hb);have n2_ := Aside0.mk (hbox);have n3_ := Aside0.mk ((by rw [hg];exact (below_size (by repeat (first | (with_reducible first | exact HB.out | apply below_alloc | apply pw_below_drewN | apply below_drew1 | refine below_set ?_ GE105.out) | exact HB.out))) : w.heap.size ≤ gb106));have n4_ := Aside0.mk ((by rw [hg];exact (below_size (by repeat (first | (with_reducible first | exact HB.out | apply below_alloc | apply pw_below_drewN | apply below_drew1 | refine below_set ?_ GE105.out) | exact HB.out))) : w.heap.size ≤ gb106));have n5_ := Aside0.mk ((by rw [hg];exact Nat.ne_of_lt (blk_lt (g := gb105) (o := .cells #[.int .i64 a0_0,.bool a0_1,.int .i64 a0_2,.string a0_3] 149 (0,0)) (by (with_reducible repeat (first | refine blk_drewN ?_ _ | refine blk_drew ?_ | refine blk_alloc ?_ _));exact BK105.out)) : gb105 ≠ gb106));have n6_ := Aside0.mk ((by rw [hg];exact Nat.ne_of_gt (blk_lt (g := gb105) (o := .cells #[.int .i64 a0_0,.bool a0_1,.int .i64 a0_2,.string a0_3] 149 (0,0)) (by (with_reducible repeat (first | refine blk_drewN ?_ _ | refine blk_drew ?_ | refine blk_alloc ?_ _));exact BK105.out)) : gb106 ≠ gb105));clear BK105;clear HB;have BK105 := n0_;have HB := n1_;have BK106 := n2_;have GW106 := n3_;have GE106 := n4_;have NB105_106 := n5_;have NB106_105 := n6_;clear n0_ n1_ n2_ n3_ n4_ n5_ n6_;clear hb hbox hg;have hnb24 := NB105_106.out;have hnc24 := NB106_105.out;have hcz25_0 : w23.cell? ⟨gb105,0,none⟩ = some (.int .i64 a0_0) := (blk_cell BK105.out 0).trans rfl;have hcz25_1 : w23.cell? ⟨gb105,1,none⟩ = some (.bool a0_1) := (blk_cell BK105.out 1).trans rfl;have hcz25_2 : w23.cell? ⟨gb105,2,none⟩ = some (.int .i64 a0_2) := (blk_cell BK105.out 2).trans rfl;have hcz25_3 : w23.cell? ⟨gb105,3,none⟩ = some (.string a0_3) := (blk_cell BK105.out 3).trans rfl;have hfz25_0 := blk_frozen BK105.out 0;have hfz25_1 := blk_frozen BK105.out 1;have hfz25_2 := blk_frozen BK105.out 2;have hfz25_3 := blk_frozen BK105.out 3;have hcz26_0 : w23.cell? ⟨gb106,0,none⟩ = some (.int .i64 a1_0) := (blk_cell BK106.out 0).trans rfl;have hcz26_1 : w23.cell? ⟨gb106,1,none⟩ = some (.bool a1_1) := (blk_cell BK106.out 1).trans rfl;have hcz26_2 : w23.cell? ⟨gb106,2,none⟩ = some (.int .i64 a1_2) := (blk_cell BK106.out 2).trans rfl;have hcz26_3 : w23.cell? ⟨gb106,3,none⟩ = some (.string a1_3) := (blk_cell BK106.out 3).trans rfl;have hfz26_0 := blk_frozen BK106.out 0;have hfz26_1 := blk_frozen BK106.out 1;have hfz26_2 := blk_frozen BK106.out 2;have hfz26_3 := blk_frozen BK106.out 3) | (go_at_call 152;(with_reducible refine (strings_Compare.calls a0_3 a1_3 t112 _ A21.out).mono ?_);rintro e w27 ⟨rfl,hb⟩;have n0_ := Aside0.mk (blk_below (g := gb105) (o := .cells #[.int .i64 a0_0,.bool a0_1,.int .i64 a0_2,.string a0_3] 149 (0,0)) (by (with_reducible repeat (first | refine blk_drewN ?_ _ | refine blk_drew ?_ | refine blk_alloc ?_ _));exact BK105.out) hb);have n1_ := Aside0.mk (blk_below (g := gb106) (o := .cells #[.int .i64 a1_0,.bool a1_1,.int .i64 a1_2,.string a1_3] 149 (0,0)) (by (with_reducible repeat (first | refine blk_drewN ?_ _ | refine blk_drew ?_ | refine blk_alloc ?_ _));exact BK106.out) hb);have n2_ := Aside0.mk (below_step (by repeat (first | (with_reducible first | exact HB.out | apply below_alloc | apply pw_below_drewN | apply below_drew1 | refine below_set ?_ GE105.out | refine below_set ?_ GE106.out) | exact HB.out)) hb);clear BK105;clear BK106;clear HB;have BK105 := n0_;have BK106 := n1_;have HB := n2_;clear n0_ n1_ n2_;(try clear hb);(try clear hb2);(try clear hk);(try clear hi)));try go_wp2_with (first | ((with_reducible refine gate_dst (N := 2) rfl ?_);refine box_event ?hg (N := 2) ?hd (cs := #[.int .i64 a0_0,.bool a0_1,.int .i64 a0_2,.string a0_3]) (t := 149) ?hr ?_;(case hd => rfl);(case hg => rfl);(case hr => first | (go_simp;done) | (go_simp;rfl));intro gb105 hg w22 hbox hb;have n0_ := Aside0.mk (below_step (by repeat (first | (with_reducible first | exact HB.out | apply below_alloc | apply pw_below_drewN | apply below_drew1) | exact HB.out)) hb);have n1_ := Aside0.mk (hbox);have n2_ := Aside0.mk ((by rw [hg];exact (below_size (by repeat (first | (with_reducible first | exact HB.out | apply below_alloc | apply pw_below_drewN | apply below_drew1) | exact HB.out))) : w.heap.size ≤ gb105));have n3_ := Aside0.mk ((by rw [hg];exact (below_size (by repeat (first | (with_reducible first | exact HB.out | apply below_alloc | apply pw_below_drewN | apply below_drew1) | exact HB.out))) : w.heap.size ≤ gb105));clear HB;have HB := n0_;have BK105 := n1_;have GW105 := n2_;have GE105 := n3_;clear n0_ n1_ n2_ n3_;clear hb hbox hg) | ((with_reducible refine gate_dst (N := 3) rfl ?_);refine box_event ?hg (N := 3) ?hd (cs := #[.int .i64 a1_0,.bool a1_1,.int .i64 a1_2,.string a1_3]) (t := 149) ?hr ?_;(case hd => rfl);(case hg => rfl);(case hr => first | (go_simp;done) | (go_simp;rfl));intro gb106 hg w23 hbox hb;have n0_ := Aside0.mk (blk_below (g := gb105) (o := .cells #[.int .i64 a0_0,.bool a0_1,.int .i64 a0_2,.string a0_3] 149 (0,0)) (by (with_reducible repeat (first | refine blk_drewN ?_ _ | refine blk_drew ?_ | refine blk_alloc ?_ _));exact BK105.out) hb);have n1_ := Aside0.mk (below_step (by repeat (first | (with_reducible first | exact HB.out | apply below_alloc | apply pw_below_drewN | apply below_drew1 | refine below_set ?_ GE105.out) | exact HB.out)) hb);have n2_ := Aside0.mk (hbox);have n3_ := Aside0.mk ((by rw [hg];exact (below_size (by repeat (first | (with_reducible first | exact HB.out | apply below_alloc | apply pw_below_drewN | apply below_drew1 | refine below_set ?_ GE105.out) | exact HB.out))) : w.heap.size ≤ gb106));have n4_ := Aside0.mk ((by rw [hg];exact (below_size (by repeat (first | (with_reducible first | exact HB.out | apply below_alloc | apply pw_below_drewN | apply below_drew1 | refine below_set ?_ GE105.out) | exact HB.out))) : w.heap.size ≤ gb106));have n5_ := Aside0.mk ((by rw [hg];exact Nat.ne_of_lt (blk_lt (g := gb105) (o := .cells #[.int .i64 a0_0,.bool a0_1,.int .i64 a0_2,.string a0_3] 149 (0,0)) (by (with_reducible repeat (first | refine blk_drewN ?_ _ | refine blk_drew ?_ | refine blk_alloc ?_ _));exact BK105.out)) : gb105 ≠ gb106));have n6_ := Aside0.mk ((by rw [hg];exact Nat.ne_of_gt (blk_lt (g := gb105) (o := .cells #[.int .i64 a0_0,.bool a0_1,.int .i64 a0_2,.string a0_3] 149 (0,0)) (by (with_reducible repeat (first | refine blk_drewN ?_ _ | refine blk_drew ?_ | refine blk_alloc ?_ _));exact BK105.out)) : gb106 ≠ gb105));clear BK105;clear HB;have BK105 := n0_;have HB := n1_;have BK106 := n2_;have GW106 := n3_;have GE106 := n4_;have NB105_106 := n5_;have NB106_105 := n6_;clear n0_ n1_ n2_ n3_ n4_ n5_ n6_;clear hb hbox hg;have hnb24 := NB105_106.out;have hnc24 := NB106_105.out;have hcz25_0 : w23.cell? ⟨gb105,0,none⟩ = some (.int .i64 a0_0) := (blk_cell BK105.out 0).trans rfl;have hcz25_1 : w23.cell? ⟨gb105,1,none⟩ = some (.bool a0_1) := (blk_cell BK105.out 1).trans rfl;have hcz25_2 : w23.cell? ⟨gb105,2,none⟩ = some (.int .i64 a0_2) := (blk_cell BK105.out 2).trans rfl;have hcz25_3 : w23.cell? ⟨gb105,3,none⟩ = some (.string a0_3) := (blk_cell BK105.out 3).trans rfl;have hfz25_0 := blk_frozen BK105.out 0;have hfz25_1 := blk_frozen BK105.out 1;have hfz25_2 := blk_frozen BK105.out 2;have hfz25_3 := blk_frozen BK105.out 3;have hcz26_0 : w23.cell? ⟨gb106,0,none⟩ = some (.int .i64 a1_0) := (blk_cell BK106.out 0).trans rfl;have hcz26_1 : w23.cell? ⟨gb106,1,none⟩ = some (.bool a1_1) := (blk_cell BK106.out 1).trans rfl;have hcz26_2 : w23.cell? ⟨gb106,2,none⟩ = some (.int .i64 a1_2) := (blk_cell BK106.out 2).trans rfl;have hcz26_3 : w23.cell? ⟨gb106,3,none⟩ = some (.string a1_3) := (blk_cell BK106.out 3).trans rfl;have hfz26_0 := blk_frozen BK106.out 0;have hfz26_1 := blk_frozen BK106.out 1;have hfz26_2 := blk_frozen BK106.out 2;have hfz26_3 := blk_frozen BK106.out 3) | (go_at_call 152;(with_reducible refine (strings_Compare.calls a0_3 a1_3 t112 _ A21.out).mono ?_);rintro e w27 ⟨rfl,hb⟩;have n0_ := Aside0.mk (blk_below (g := gb105) (o := .cells #[.int .i64 a0_0,.bool a0_1,.int .i64 a0_2,.string a0_3] 149 (0,0)) (by (with_reducible repeat (first | refine blk_drewN ?_ _ | refine blk_drew ?_ | refine blk_alloc ?_ _));exact BK105.out) hb);have n1_ := Aside0.mk (blk_below (g := gb106) (o := .cells #[.int .i64 a1_0,.bool a1_1,.int .i64 a1_2,.string a1_3] 149 (0,0)) (by (with_reducible repeat (first | refine blk_drewN ?_ _ | refine blk_drew ?_ | refine blk_alloc ?_ _));exact BK106.out) hb);have n2_ := Aside0.mk (below_step (by repeat (first | (with_reducible first | exact HB.out | apply below_alloc | apply pw_below_drewN | apply below_drew1 | refine below_set ?_ GE105.out | refine below_set ?_ GE106.out) | exact HB.out)) hb);clear BK105;clear BK106;clear HB;have BK105 := n0_;have BK106 := n1_;have HB := n2_;clear n0_ n1_ n2_;(try clear hb);(try clear hb2);(try clear hk);(try clear hi))))
          go_ret
          exact ⟨by first | rfl | (simp [errW_none,errW_some] <;> rfl) | (simp [*,errW_none,errW_some] <;> rfl),by repeat (first | (with_reducible first | exact HB.out | apply below_alloc | apply pw_below_drewN | apply below_drew1 | refine below_set ?_ GE105.out | refine below_set ?_ GE106.out) | exact HB.out)⟩
        · rw [if_neg c20] at H
          have c20b0 : (a0_0 == 3) = false := beq_eq_false_iff_ne.mpr c20
          have c20b1 : (a0_0 != 3) = true := bne_iff_ne.mpr c20
          obtain rfl := Option.some.inj H
          go_enter Try.func134,Try.ntmps134
          go_wp2_with (first | ((with_reducible refine gate_dst (N := 2) rfl ?_);refine box_event ?hg (N := 2) ?hd (cs := #[.int .i64 a0_0,.bool a0_1,.int .i64 a0_2,.string a0_3]) (t := 149) ?hr ?_;(case hd => rfl);(case hg => rfl);(case hr => first | (go_simp;done) | (go_simp;rfl));intro gb105 hg w28 hbox hb;have n0_ := Aside0.mk (below_step (by repeat (first | (with_reducible first | exact HB.out | apply below_alloc | apply pw_below_drewN | apply below_drew1) | exact HB.out)) hb);have n1_ := Aside0.mk (hbox);have n2_ := Aside0.mk ((by rw [hg];exact (below_size (by repeat (first | (with_reducible first | exact HB.out | apply below_alloc | apply pw_below_drewN | apply below_drew1) | exact HB.out))) : w.heap.size ≤ gb105));have n3_ := Aside0.mk ((by rw [hg];exact (below_size (by repeat (first | (with_reducible first | exact HB.out | apply below_alloc | apply pw_below_drewN | apply below_drew1) | exact HB.out))) : w.heap.size ≤ gb105));clear HB;have HB := n0_;have BK105 := n1_;have GW105 := n2_;have GE105 := n3_;clear n0_ n1_ n2_ n3_;clear hb hbox hg) | ((with_reducible refine gate_dst (N := 3) rfl ?_);refine box_event ?hg (N := 3) ?hd (cs := #[.int .i64 a1_0,.bool a1_1,.int .i64 a1_2,.string a1_3]) (t := 149) ?hr ?_;(case hd => rfl);(case hg => rfl);(case hr => first | (go_simp;done) | (go_simp;rfl));intro gb106 hg w29 hbox hb;have n0_ := Aside0.mk (blk_below (g := gb105) (o := .cells #[.int .i64 a0_0,.bool a0_1,.int .i64 a0_2,.string a0_3] 149 (0,0)) (by (with_reducible repeat (first | refine blk_drewN ?_ _ | refine blk_drew ?_ | refine blk_alloc ?_ _));exact BK105.out) hb);have n1_ := Aside0.mk (below_step (by repeat (first | (with_reducible first | exact HB.out | apply below_alloc | apply pw_below_drewN | apply below_drew1 | refine below_set ?_ GE105.out) | exact HB.out)) hb);have n2_ := Aside0.mk (hbox);have n3_ := Aside0.mk ((by rw [hg];exact (below_size (by repeat (first | (with_reducible first | exact HB.out | apply below_alloc | apply pw_below_drewN | apply below_drew1 | refine below_set ?_ GE105.out) | exact HB.out))) : w.heap.size ≤ gb106));have n4_ := Aside0.mk ((by rw [hg];exact (below_size (by repeat (first | (with_reducible first | exact HB.out | apply below_alloc | apply pw_below_drewN | apply below_drew1 | refine below_set ?_ GE105.out) | exact HB.out))) : w.heap.size ≤ gb106));have n5_ := Aside0.mk ((by rw [hg];exact Nat.ne_of_lt (blk_lt (g := gb105) (o := .cells #[.int .i64 a0_0,.bool a0_1,.int .i64 a0_2,.string a0_3] 149 (0,0)) (by (with_reducible repeat (first | refine blk_drewN ?_ _ | refine blk_drew ?_ | refine blk_alloc ?_ _));exact BK105.out)) : gb105 ≠ gb106));have n6_ := Aside0.mk ((by rw [hg];exact Nat.ne_of_gt (blk_lt (g := gb105) (o := .cells #[.int .i64 a0_0,.bool a0_1,.int .i64 a0_2,.string a0_3] 149 (0,0)) (by (with_reducible repeat (first | refine blk_drewN ?_ _ | refine blk_drew ?_ | refine blk_alloc ?_ _));exact BK105.out)) : gb106 ≠ gb105));clear BK105;clear HB;have BK105 := n0_;have HB := n1_;have BK106 := n2_;have GW106 := n3_;have GE106 := n4_;have NB105_106 := n5_;have NB106_105 := n6_;clear n0_ n1_ n2_ n3_ n4_ n5_ n6_;clear hb hbox hg;have hnb30 := NB105_106.out;have hnc30 := NB106_105.out;have hcz31_0 : w29.cell? ⟨gb105,0,none⟩ = some (.int .i64 a0_0) := (blk_cell BK105.out 0).trans rfl;have hcz31_1 : w29.cell? ⟨gb105,1,none⟩ = some (.bool a0_1) := (blk_cell BK105.out 1).trans rfl;have hcz31_2 : w29.cell? ⟨gb105,2,none⟩ = some (.int .i64 a0_2) := (blk_cell BK105.out 2).trans rfl;have hcz31_3 : w29.cell? ⟨gb105,3,none⟩ = some (.string a0_3) := (blk_cell BK105.out 3).trans rfl;have hfz31_0 := blk_frozen BK105.out 0;have hfz31_1 := blk_frozen BK105.out 1;have hfz31_2 := blk_frozen BK105.out 2;have hfz31_3 := blk_frozen BK105.out 3;have hcz32_0 : w29.cell? ⟨gb106,0,none⟩ = some (.int .i64 a1_0) := (blk_cell BK106.out 0).trans rfl;have hcz32_1 : w29.cell? ⟨gb106,1,none⟩ = some (.bool a1_1) := (blk_cell BK106.out 1).trans rfl;have hcz32_2 : w29.cell? ⟨gb106,2,none⟩ = some (.int .i64 a1_2) := (blk_cell BK106.out 2).trans rfl;have hcz32_3 : w29.cell? ⟨gb106,3,none⟩ = some (.string a1_3) := (blk_cell BK106.out 3).trans rfl;have hfz32_0 := blk_frozen BK106.out 0;have hfz32_1 := blk_frozen BK106.out 1;have hfz32_2 := blk_frozen BK106.out 2;have hfz32_3 := blk_frozen BK106.out 3))
          repeat (go_quiet (first | ((with_reducible refine gate_dst (N := 2) rfl ?_);refine box_event ?hg (N := 2) ?hd (cs := #[.int .i64 a0_0,.bool a0_1,.int .i64 a0_2,.string a0_3]) (t := 149) ?hr ?_;(case hd => rfl);(case hg => rfl);(case hr => first | (go_simp;done) | (go_simp;rfl));intro gb105 hg w28 hbox hb;have n0_ := Aside0.mk (below_step (by repeat (first | (with_reducible first | exact HB.out | apply below_alloc | apply pw_below_drewN | apply below_drew1) | exact HB.out)) hb);have n1_ := Aside0.mk (hbox);have n2_ := Aside0.mk ((by rw [hg];exact (below_size (by repeat (first | (with_reducible first | exact HB.out | apply below_alloc | apply pw_below_drewN | apply below_drew1) | exact HB.out))) : w.heap.size ≤ gb105));have n3_ := Aside0.mk ((by rw [hg];exact (below_size (by repeat (first | (with_reducible first | exact HB.out | apply below_alloc | apply pw_below_drewN | apply below_drew1) | exact HB.out))) : w.heap.size ≤ gb105));clear HB;have HB := n0_;have BK105 := n1_;have GW105 := n2_;have GE105 := n3_;clear n0_ n1_ n2_ n3_;clear hb hbox hg) | ((with_reducible refine gate_dst (N := 3) rfl ?_);refine box_event ?hg (N := 3) ?hd (cs := #[.int .i64 a1_0,.bool a1_1,.int .i64 a1_2,.string a1_3]) (t := 149) ?hr ?_;(case hd => rfl);(case hg => rfl);(case hr => first | (go_simp;done) | (go_simp;rfl));intro gb106 hg w29 hbox hb;have n0_ := Aside0.mk (blk_below (g := gb105) (o := .cells #[.int .i64 a0_0,.bool a0_1,.int .i64 a0_2,.string a0_3] 149 (0,0)) (by (with_reducible repeat (first | refine blk_drewN ?_ _ | refine blk_drew ?_ | refine blk_alloc ?_ _));exact BK105.out) hb);have n1_ := Aside0.mk (below_step (by repeat (first | (with_reducible first | exact HB.out | apply below_alloc | apply pw_below_drewN | apply below_drew1 | refine below_set ?_ GE105.out) | exact HB.out)) hb);have n2_ := Aside0.mk (hbox);have n3_ := Aside0.mk ((by rw [hg];exact (below_size (by repeat (first | (with_reducible first | exact HB.out | apply below_alloc | apply pw_below_drewN | apply below_drew1 | refine below_set ?_ GE105.out) | exact HB.out))) : w.heap.size ≤ gb106));have n4_ := Aside0.mk ((by rw [hg];exact (below_size (by repeat (first | (with_reducible first | exact HB.out | apply below_alloc | apply pw_below_drewN | apply below_drew1 | refine below_set ?_ GE105.out) | exact HB.out))) : w.heap.size ≤ gb106));have n5_ := Aside0.mk ((by rw [hg];exact Nat.ne_of_lt (blk_lt (g := gb105) (o := .cells #[.int .i64 a0_0,.bool a0_1,.int .i64 a0_2,.string a0_3] 149 (0,0)) (by (with_reducible repeat (first | refine blk_drewN ?_ _ | refine blk_drew ?_ | refine blk_alloc ?_ _));exact BK105.out)) : gb105 ≠ gb106));have n6_ := Aside0.mk ((by rw [hg];exact Nat.ne_of_gt (blk_lt (g := gb105) (o := .cells #[.int .i64 a0_0,.bool a0_1,.int .i64 a0_2,.string a0_3] 149 (0,0)) (by (with_reducible repeat (first | refine blk_drewN ?_ _ | refine blk_drew ?_ | refine blk_alloc ?_ _));exact BK105.out)) : gb106 ≠ gb105));clear BK105;clear HB;have BK105 := n0_;have HB := n1_;have BK106 := n2_;have GW106 := n3_;have GE106 := n4_;have NB105_106 := n5_;have NB106_105 := n6_;clear n0_ n1_ n2_ n3_ n4_ n5_ n6_;clear hb hbox hg;have hnb30 := NB105_106.out;have hnc30 := NB106_105.out;have hcz31_0 : w29.cell? ⟨gb105,0,none⟩ = some (.int .i64 a0_0) := (blk_cell BK105.out 0).trans rfl;have hcz31_1 : w29.cell? ⟨gb105,1,none⟩ = some (.bool a0_1) := (blk_cell BK105.out 1).trans rfl;have hcz31_2 : w29.cell? ⟨gb105,2,none⟩ = some (.int .i64 a0_2) := (blk_cell BK105.out 2).trans rfl;have hcz31_3 : w29.cell? ⟨gb105,3,none⟩ = some (.string a0_3) := (blk_cell BK105.out 3).trans rfl;have hfz31_0 := blk_frozen BK105.out 0;have hfz31_1 := blk_frozen BK105.out 1;have hfz31_2 := blk_frozen BK105.out 2;have hfz31_3 := blk_frozen BK105.out 3;have hcz32_0 : w29.cell? ⟨gb106,0,none⟩ = some (.int .i64 a1_0) := (blk_cell BK106.out 0).trans rfl;have hcz32_1 : w29.cell? ⟨gb106,1,none⟩ = some (.bool a1_1) := (blk_cell BK106.out 1).trans rfl;have hcz32_2 : w29.cell? ⟨gb106,2,none⟩ = some (.int .i64 a1_2) := (blk_cell BK106.out 2).trans rfl;have hcz32_3 : w29.cell? ⟨gb106,3,none⟩ = some (.string a1_3) := (blk_cell BK106.out 3).trans rfl;have hfz32_0 := blk_frozen BK106.out 0;have hfz32_1 := blk_frozen BK106.out 1;have hfz32_2 := blk_frozen BK106.out 2;have hfz32_3 := blk_frozen BK106.out 3));try go_wp2_with (first | ((with_reducible refine gate_dst (N := 2) rfl ?_);refine box_event ?hg (N := 2) ?hd (cs := #[.int .i64 a0_0,.bool a0_1,.int .i64 a0_2,.string a0_3]) (t := 149) ?hr ?_;(case hd => rfl);(case hg => rfl);(case hr => first | (go_simp;done) | (go_simp;rfl));intro gb105 hg w28 hbox hb;have n0_ := Aside0.mk (below_step (by repeat (first | (with_reducible first | exact HB.out | apply below_alloc | apply pw_below_drewN | apply below_drew1) | exact HB.out)) hb);have n1_ := Aside0.mk (hbox);have n2_ := Aside0.mk ((by rw [hg];exact (below_size (by repeat (first | (with_reducible first | exact HB.out | apply below_alloc | apply pw_below_drewN | apply below_drew1) | exact HB.out))) : w.heap.size ≤ gb105));have n3_ := Aside0.mk ((by rw [hg];exact (below_size (by repeat (first | (with_reducible first | exact HB.out | apply below_alloc | apply pw_below_drewN | apply below_drew1) | exact HB.out))) : w.heap.size ≤ gb105));clear HB;have HB := n0_;have BK105 := n1_;have GW105 := n2_;have GE105 := n3_;clear n0_ n1_ n2_ n3_;clear hb hbox hg) | ((with_reducible refine gate_dst (N := 3) rfl ?_);refine box_event ?hg (N := 3) ?hd (cs := #[.int .i64 a1_0,.bool a1_1,.int .i64 a1_2,.string a1_3]) (t := 149) ?hr ?_;(case hd => rfl);(case hg => rfl);(case hr => first | (go_simp;done) | (go_simp;rfl));intro gb106 hg w29 hbox hb;have n0_ := Aside0.mk (blk_below (g := gb105) (o := .cells #[.int .i64 a0_0,.bool a0_1,.int .i64 a0_2,.string a0_3] 149 (0,0)) (by (with_reducible repeat (first | refine blk_drewN ?_ _ | refine blk_drew ?_ | refine blk_alloc ?_ _));exact BK105.out) hb);have n1_ := Aside0.mk (below_step (by repeat (first | (with_reducible first | exact HB.out | apply below_alloc | apply pw_below_drewN | apply below_drew1 | refine below_set ?_ GE105.out) | exact HB.out)) hb);have n2_ := Aside0.mk (hbox);have n3_ := Aside0.mk ((by rw [hg];exact (below_size (by repeat (first | (with_reducible first | exact HB.out | apply below_alloc | apply pw_below_drewN | apply below_drew1 | refine below_set ?_ GE105.out) | exact HB.out))) : w.heap.size ≤ gb106));have n4_ := Aside0.mk ((by rw [hg];exact (below_size (by repeat (first | (with_reducible first | exact HB.out | apply below_alloc | apply pw_below_drewN | apply below_drew1 | refine below_set ?_ GE105.out) | exact HB.out))) : w.heap.size ≤ gb106));have n5_ := Aside0.mk ((by rw [hg];exact Nat.ne_of_lt (blk_lt (g := gb105) (o := .cells #[.int .i64 a0_0,.bool a0_1,.int .i64 a0_2,.string a0_3] 149 (0,0)) (by (with_reducible repeat (first | refine blk_drewN ?_ _ | refine blk_drew ?_ | refine blk_alloc ?_ _));exact BK105.out)) : gb105 ≠ gb106));have n6_ := Aside0.mk ((by rw [hg];exact Nat.ne_of_gt (blk_lt (g := gb105) (o := .cells #[.int .i64 a0_0,.bool a0_1,.int .i64 a0_2,.string a0_3] 149 (0,0)) (by (with_reducible repeat (first | refine blk_drewN ?_ _ | refine blk_drew ?_ | refine blk_alloc ?_ _));exact BK105.out)) : gb106 ≠ gb105));clear BK105;clear HB;have BK105 := n0_;have HB := n1_;have BK106 := n2_;have GW106 := n3_;have GE106 := n4_;have NB105_106 := n5_;have NB106_105 := n6_;clear n0_ n1_ n2_ n3_ n4_ n5_ n6_;clear hb hbox hg;have hnb30 := NB105_106.out;have hnc30 := NB106_105.out;have hcz31_0 : w29.cell? ⟨gb105,0,none⟩ = some (.int .i64 a0_0) := (blk_cell BK105.out 0).trans rfl;have hcz31_1 : w29.cell? ⟨gb105,1,none⟩ = some (.bool a0_1) := (blk_cell BK105.out 1).trans rfl;have hcz31_2 : w29.cell? ⟨gb105,2,none⟩ = some (.int .i64 a0_2) := (blk_cell BK105.out 2).trans rfl;have hcz31_3 : w29.cell? ⟨gb105,3,none⟩ = some (.string a0_3) := (blk_cell BK105.out 3).trans rfl;have hfz31_0 := blk_frozen BK105.out 0;have hfz31_1 := blk_frozen BK105.out 1;have hfz31_2 := blk_frozen BK105.out 2;have hfz31_3 := blk_frozen BK105.out 3;have hcz32_0 : w29.cell? ⟨gb106,0,none⟩ = some (.int .i64 a1_0) := (blk_cell BK106.out 0).trans rfl;have hcz32_1 : w29.cell? ⟨gb106,1,none⟩ = some (.bool a1_1) := (blk_cell BK106.out 1).trans rfl;have hcz32_2 : w29.cell? ⟨gb106,2,none⟩ = some (.int .i64 a1_2) := (blk_cell BK106.out 2).trans rfl;have hcz32_3 : w29.cell? ⟨gb106,3,none⟩ = some (.string a1_3) := (blk_cell BK106.out 3).trans rfl;have hfz32_0 := blk_frozen BK106.out 0;have hfz32_1 := blk_frozen BK106.out 1;have hfz32_2 := blk_frozen BK106.out 2;have hfz32_3 := blk_frozen BK106.out 3)))
          go_ret
          exact ⟨by first | rfl | (simp [errW_none,errW_some] <;> rfl) | (simp [*,errW_none,errW_some] <;> rfl),by repeat (first | (with_reducible first | exact HB.out | apply below_alloc | apply pw_below_drewN | apply below_drew1 | refine below_set ?_ GE105.out | refine below_set ?_ GE106.out) | exact HB.out)⟩
  · rw [if_neg c3] at H
    have c3b0 : (a0_0 == a1_0) = false := beq_eq_false_iff_ne.mpr c3
    have c3b1 : (a0_0 != a1_0) = true := bne_iff_ne.mpr c3
    replace H := Option.bind_eq_some_iff.mp H
    obtain ⟨t107,A330,H⟩ := H
    replace H : (some t107) = some r := H
    have A33 := Aside0.mk A330
    clear A330
    obtain rfl := Option.some.inj H
    go_enter Try.func134,Try.ntmps134
    go_wp2_with (first | ((with_reducible refine gate_dst (N := 2) rfl ?_);refine box_event ?hg (N := 2) ?hd (cs := #[.int .i64 a0_0,.bool a0_1,.int .i64 a0_2,.string a0_3]) (t := 149) ?hr ?_;(case hd => rfl);(case hg => rfl);(case hr => first | (go_simp;done) | (go_simp;rfl));intro gb105 hg w34 hbox hb;have n0_ := Aside0.mk (below_step (by repeat (first | (with_reducible first | exact HB.out | apply below_alloc | apply pw_below_drewN | apply below_drew1) | exact HB.out)) hb);have n1_ := Aside0.mk (hbox);have n2_ := Aside0.mk ((by rw [hg];exact (below_size (by repeat (first | (with_reducible first | exact HB.out | apply below_alloc | apply pw_below_drewN | apply below_drew1) | exact HB.out))) : w.heap.size ≤ gb105));have n3_ := Aside0.mk ((by rw [hg];exact (below_size (by repeat (first | (with_reducible first | exact HB.out | apply below_alloc | apply pw_below_drewN | apply below_drew1) | exact HB.out))) : w.heap.size ≤ gb105));clear HB;have HB := n0_;have BK105 := n1_;have GW105 := n2_;have GE105 := n3_;clear n0_ n1_ n2_ n3_;clear hb hbox hg) | ((with_reducible refine gate_dst (N := 3) rfl ?_);refine box_event ?hg (N := 3) ?hd (cs := #[.int .i64 a1_0,.bool a1_1,.int .i64 a1_2,.string a1_3]) (t := 149) ?hr ?_;(case hd => rfl);(case hg => rfl);(case hr => first | (go_simp;done) | (go_simp;rfl));intro gb106 hg w35 hbox hb;have n0_ := Aside0.mk (blk_below (g := gb105) (o := .cells #[.int .i64 a0_0,.bool a0_1,.int .i64 a0_2,.string a0_3] 149 (0,0)) (by (with_reducible repeat (first | refine blk_drewN ?_ _ | refine blk_drew ?_ | refine blk_alloc ?_ _));exact BK105.out) hb);have n1_ := Aside0.mk (below_step (by repeat (first | (with_reducible first | exact HB.out | apply below_alloc | apply pw_below_drewN | apply below_drew1 | refine below_set ?_ GE105.out) | exact HB.out)) hb);have n2_ := Aside0.mk (hbox);have n3_ := Aside0.mk ((by rw [hg];exact (below_size (by repeat (first | (with_reducible first | exact HB.out | apply below_alloc | apply pw_below_drewN | apply below_drew1 | refine below_set ?_ GE105.out) | exact HB.out))) : w.heap.size ≤ gb106));have n4_ := Aside0.mk ((by rw [hg];exact (below_size (by repeat (first | (with_reducible first | exact HB.out | apply below_alloc | apply pw_below_drewN | apply below_drew1 | refine below_set ?_ GE105.out) | exact HB.out))) : w.heap.size ≤ gb106));have n5_ := Aside0.mk ((by rw [hg];exact Nat.ne_of_lt (blk_lt (g := gb105) (o := .cells #[.int .i64 a0_0,.bool a0_1,.int .i64 a0_2,.string a0_3] 149 (0,0)) (by (with_reducible repeat (first | refine blk_drewN ?_ _ | refine blk_drew ?_ | refine blk_alloc ?_ _));exact BK105.out)) : gb105 ≠ gb106));have n6_ := Aside0.mk ((by rw [hg];exact Nat.ne_of_gt (blk_lt (g := gb105) (o := .cells #[.int .i64 a0_0,.bool a0_1,.int .i64 a0_2,.string a0_3] 149 (0,0)) (by (with_reducible repeat (first | refine blk_drewN ?_ _ | refine blk_drew ?_ | refine blk_alloc ?_ _));exact BK105.out)) : gb106 ≠ gb105));clear BK105;clear HB;have BK105 := n0_;have HB := n1_;have BK106 := n2_;have GW106 := n3_;have GE106 := n4_;have NB105_106 := n5_;have NB106_105 := n6_;clear n0_ n1_ n2_ n3_ n4_ n5_ n6_;clear hb hbox hg;have hnb36 := NB105_106.out;have hnc36 := NB106_105.out;have hcz37_0 : w35.cell? ⟨gb105,0,none⟩ = some (.int .i64 a0_0) := (blk_cell BK105.out 0).trans rfl;have hcz37_1 : w35.cell? ⟨gb105,1,none⟩ = some (.bool a0_1) := (blk_cell BK105.out 1).trans rfl;have hcz37_2 : w35.cell? ⟨gb105,2,none⟩ = some (.int .i64 a0_2) := (blk_cell BK105.out 2).trans rfl;have hcz37_3 : w35.cell? ⟨gb105,3,none⟩ = some (.string a0_3) := (blk_cell BK105.out 3).trans rfl;have hfz37_0 := blk_frozen BK105.out 0;have hfz37_1 := blk_frozen BK105.out 1;have hfz37_2 := blk_frozen BK105.out 2;have hfz37_3 := blk_frozen BK105.out 3;have hcz38_0 : w35.cell? ⟨gb106,0,none⟩ = some (.int .i64 a1_0) := (blk_cell BK106.out 0).trans rfl;have hcz38_1 : w35.cell? ⟨gb106,1,none⟩ = some (.bool a1_1) := (blk_cell BK106.out 1).trans rfl;have hcz38_2 : w35.cell? ⟨gb106,2,none⟩ = some (.int .i64 a1_2) := (blk_cell BK106.out 2).trans rfl;have hcz38_3 : w35.cell? ⟨gb106,3,none⟩ = some (.string a1_3) := (blk_cell BK106.out 3).trans rfl;have hfz38_0 := blk_frozen BK106.out 0;have hfz38_1 := blk_frozen BK106.out 1;have hfz38_2 := blk_frozen BK106.out 2;have hfz38_3 := blk_frozen BK106.out 3) | (go_at_call 149;(with_reducible refine (cmp_Compare_149.calls a0_0 a1_0 t107 _ A33.out).mono ?_);rintro e w' ⟨rfl,⟨nd,rfl⟩⟩;(try first | exact ⟨rfl,_,World.drewN_drewN _ _ _⟩ | exact ⟨rfl,_,Eq.trans (World.drewN_drewN _ _ _) (congrArg (World.drewN _) (Nat.add_assoc _ _ _))⟩)))
    repeat (go_quiet (first | ((with_reducible refine gate_dst (N := 2) rfl ?_);refine box_event ?hg (N := 2) ?hd (cs := #[.int .i64 a0_0,.bool a0_1,.int .i64 a0_2,.string a0_3]) (t := 149) ?hr ?_;(case hd => rfl);(case hg => rfl);(case hr => first | (go_simp;done) | (go_simp;rfl));intro gb105 hg w34 hbox hb;have n0_ := Aside0.mk (below_step (by repeat (first | (with_reducible first | exact HB.out | apply below_alloc | apply pw_below_drewN | apply below_drew1) | exact HB.out)) hb);have n1_ := Aside0.mk (hbox);have n2_ := Aside0.mk ((by rw [hg];exact (below_size (by repeat (first | (with_reducible first | exact HB.out | apply below_alloc | apply pw_below_drewN | apply below_drew1) | exact HB.out))) : w.heap.size ≤ gb105));have n3_ := Aside0.mk ((by rw [hg];exact (below_size (by repeat (first | (with_reducible first | exact HB.out | apply below_alloc | apply pw_below_drewN | apply below_drew1) | exact HB.out))) : w.heap.size ≤ gb105));clear HB;have HB := n0_;have BK105 := n1_;have GW105 := n2_;have GE105 := n3_;clear n0_ n1_ n2_ n3_;clear hb hbox hg) | ((with_reducible refine gate_dst (N := 3) rfl ?_);refine box_event ?hg (N := 3) ?hd (cs := #[.int .i64 a1_0,.bool a1_1,.int .i64 a1_2,.string a1_3]) (t := 149) ?hr ?_;(case hd => rfl);(case hg => rfl);(case hr => first | (go_simp;done) | (go_simp;rfl));intro gb106 hg w35 hbox hb;have n0_ := Aside0.mk (blk_below (g := gb105) (o := .cells #[.int .i64 a0_0,.bool a0_1,.int .i64 a0_2,.string a0_3] 149 (0,0)) (by (with_reducible repeat (first | refine blk_drewN ?_ _ | refine blk_drew ?_ | refine blk_alloc ?_ _));exact BK105.out) hb);have n1_ := Aside0.mk (below_step (by repeat (first | (with_reducible first | exact HB.out | apply below_alloc | apply pw_below_drewN | apply below_drew1 | refine below_set ?_ GE105.out) | exact HB.out)) hb);have n2_ := Aside0.mk (hbox);have n3_ := Aside0.mk ((by rw [hg];exact (below_size (by repeat (first | (with_reducible first | exact HB.out | apply below_alloc | apply pw_below_drewN | apply below_drew1 | refine below_set ?_ GE105.out) | exact HB.out))) : w.heap.size ≤ gb106));have n4_ := Aside0.mk ((by rw [hg];exact (below_size (by repeat (first | (with_reducible first | exact HB.out | apply below_alloc | apply pw_below_drewN | apply below_drew1 | refine below_set ?_ GE105.out) | exact HB.out))) : w.heap.size ≤ gb106));have n5_ := Aside0.mk ((by rw [hg];exact Nat.ne_of_lt (blk_lt (g := gb105) (o := .cells #[.int .i64 a0_0,.bool a0_1,.int .i64 a0_2,.string a0_3] 149 (0,0)) (by (with_reducible repeat (first | refine blk_drewN ?_ _ | refine blk_drew ?_ | refine blk_alloc ?_ _));exact BK105.out)) : gb105 ≠ gb106));have n6_ := Aside0.mk ((by rw [hg];exact Nat.ne_of_gt (blk_lt (g := gb105) (o := .cells #[.int .i64 a0_0,.bool a0_1,.int .i64 a0_2,.string a0_3] 149 (0,0)) (by (with_reducible repeat (first | refine blk_drewN ?_ _ | refine blk_drew ?_ | refine blk_alloc ?_ _));exact BK105.out)) : gb106 ≠ gb105));clear BK105;clear HB;have BK105 := n0_;have HB := n1_;have BK106 := n2_;have GW106 := n3_;have GE106 := n4_;have NB105_106 := n5_;have NB106_105 := n6_;clear n0_ n1_ n2_ n3_ n4_ n5_ n6_;clear hb hbox hg;have hnb36 := NB105_106.out;have hnc36 := NB106_105.out;have hcz37_0 : w35.cell? ⟨gb105,0,none⟩ = some (.int .i64 a0_0) := (blk_cell BK105.out 0).trans rfl;have hcz37_1 : w35.cell? ⟨gb105,1,none⟩ = some (.bool a0_1) := (blk_cell BK105.out 1).trans rfl;have hcz37_2 : w35.cell? ⟨gb105,2,none⟩ = some (.int .i64 a0_2) := (blk_cell BK105.out 2).trans rfl;have hcz37_3 : w35.cell? ⟨gb105,3,none⟩ = some (.string a0_3) := (blk_cell BK105.out 3).trans rfl;have hfz37_0 := blk_frozen BK105.out 0;have hfz37_1 := blk_frozen BK105.out 1;have hfz37_2 := blk_frozen BK105.out 2;have hfz37_3 := blk_frozen BK105.out 3;have hcz38_0 : w35.cell? ⟨gb106,0,none⟩ = some (.int .i64 a1_0) := (blk_cell BK106.out 0).trans rfl;have hcz38_1 : w35.cell? ⟨gb106,1,none⟩ = some (.bool a1_1) := (blk_cell BK106.out 1).trans rfl;have hcz38_2 : w35.cell? ⟨gb106,2,none⟩ = some (.int .i64 a1_2) := (blk_cell BK106.out 2).trans rfl;have hcz38_3 : w35.cell? ⟨gb106,3,none⟩ = some (.string a1_3) := (blk_cell BK106.out 3).trans rfl;have hfz38_0 := blk_frozen BK106.out 0;have hfz38_1 := blk_frozen BK106.out 1;have hfz38_2 := blk_frozen BK106.out 2;have hfz38_3 := blk_frozen BK106.out 3) | (go_at_call 149;(with_reducible refine (cmp_Compare_149.calls a0_0 a1_0 t107 _ A33.out).mono ?_);rintro e w' ⟨rfl,⟨nd,rfl⟩⟩;(try first | exact ⟨rfl,_,World.drewN_drewN _ _ _⟩ | exact ⟨rfl,_,Eq.trans (World.drewN_drewN _ _ _) (congrArg (World.drewN _) (Nat.add_assoc _ _ _))⟩)));try go_wp2_with (first | ((with_reducible refine gate_dst (N := 2) rfl ?_);refine box_event ?hg (N := 2) ?hd (cs := #[.int .i64 a0_0,.bool a0_1,.int .i64 a0_2,.string a0_3]) (t := 149) ?hr ?_;(case hd => rfl);(case hg => rfl);(case hr => first | (go_simp;done) | (go_simp;rfl));intro gb105 hg w34 hbox hb;have n0_ := Aside0.mk (below_step (by repeat (first | (with_reducible first | exact HB.out | apply below_alloc | apply pw_below_drewN | apply below_drew1) | exact HB.out)) hb);have n1_ := Aside0.mk (hbox);have n2_ := Aside0.mk ((by rw [hg];exact (below_size (by repeat (first | (with_reducible first | exact HB.out | apply below_alloc | apply pw_below_drewN | apply below_drew1) | exact HB.out))) : w.heap.size ≤ gb105));have n3_ := Aside0.mk ((by rw [hg];exact (below_size (by repeat (first | (with_reducible first | exact HB.out | apply below_alloc | apply pw_below_drewN | apply below_drew1) | exact HB.out))) : w.heap.size ≤ gb105));clear HB;have HB := n0_;have BK105 := n1_;have GW105 := n2_;have GE105 := n3_;clear n0_ n1_ n2_ n3_;clear hb hbox hg) | ((with_reducible refine gate_dst (N := 3) rfl ?_);refine box_event ?hg (N := 3) ?hd (cs := #[.int .i64 a1_0,.bool a1_1,.int .i64 a1_2,.string a1_3]) (t := 149) ?hr ?_;(case hd => rfl);(case hg => rfl);(case hr => first | (go_simp;done) | (go_simp;rfl));intro gb106 hg w35 hbox hb;have n0_ := Aside0.mk (blk_below (g := gb105) (o := .cells #[.int .i64 a0_0,.bool a0_1,.int .i64 a0_2,.string a0_3] 149 (0,0)) (by (with_reducible repeat (first | refine blk_drewN ?_ _ | refine blk_drew ?_ | refine blk_alloc ?_ _));exact BK105.out) hb);have n1_ := Aside0.mk (below_step (by repeat (first | (with_reducible first | exact HB.out | apply below_alloc | apply pw_below_drewN | apply below_drew1 | refine below_set ?_ GE105.out) | exact HB.out)) hb);have n2_ := Aside0.mk (hbox);have n3_ := Aside0.mk ((by rw [hg];exact (below_size (by repeat (first | (with_reducible first | exact HB.out | apply below_alloc | apply pw_below_drewN | apply below_drew1 | refine below_set ?_ GE105.out) | exact HB.out))) : w.heap.size ≤ gb106));have n4_ := Aside0.mk ((by rw [hg];exact (below_size (by repeat (first | (with_reducible first | exact HB.out | apply below_alloc | apply pw_below_drewN | apply below_drew1 | refine below_set ?_ GE105.out) | exact HB.out))) : w.heap.size ≤ gb106));have n5_ := Aside0.mk ((by rw [hg];exact Nat.ne_of_lt (blk_lt (g := gb105) (o := .cells #[.int .i64 a0_0,.bool a0_1,.int .i64 a0_2,.string a0_3] 149 (0,0)) (by (with_reducible repeat (first | refine blk_drewN ?_ _ | refine blk_drew ?_ | refine blk_alloc ?_ _));exact BK105.out)) : gb105 ≠ gb106));have n6_ := Aside0.mk ((by rw [hg];exact Nat.ne_of_gt (blk_lt (g := gb105) (o := .cells #[.int .i64 a0_0,.bool a0_1,.int .i64 a0_2,.string a0_3] 149 (0,0)) (by (with_reducible repeat (first | refine blk_drewN ?_ _ | refine blk_drew ?_ | refine blk_alloc ?_ _));exact BK105.out)) : gb106 ≠ gb105));clear BK105;clear HB;have BK105 := n0_;have HB := n1_;have BK106 := n2_;have GW106 := n3_;have GE106 := n4_;have NB105_106 := n5_;have NB106_105 := n6_;clear n0_ n1_ n2_ n3_ n4_ n5_ n6_;clear hb hbox hg;have hnb36 := NB105_106.out;have hnc36 := NB106_105.out;have hcz37_0 : w35.cell? ⟨gb105,0,none⟩ = some (.int .i64 a0_0) := (blk_cell BK105.out 0).trans rfl;have hcz37_1 : w35.cell? ⟨gb105,1,none⟩ = some (.bool a0_1) := (blk_cell BK105.out 1).trans rfl;have hcz37_2 : w35.cell? ⟨gb105,2,none⟩ = some (.int .i64 a0_2) := (blk_cell BK105.out 2).trans rfl;have hcz37_3 : w35.cell? ⟨gb105,3,none⟩ = some (.string a0_3) := (blk_cell BK105.out 3).trans rfl;have hfz37_0 := blk_frozen BK105.out 0;have hfz37_1 := blk_frozen BK105.out 1;have hfz37_2 := blk_frozen BK105.out 2;have hfz37_3 := blk_frozen BK105.out 3;have hcz38_0 : w35.cell? ⟨gb106,0,none⟩ = some (.int .i64 a1_0) := (blk_cell BK106.out 0).trans rfl;have hcz38_1 : w35.cell? ⟨gb106,1,none⟩ = some (.bool a1_1) := (blk_cell BK106.out 1).trans rfl;have hcz38_2 : w35.cell? ⟨gb106,2,none⟩ = some (.int .i64 a1_2) := (blk_cell BK106.out 2).trans rfl;have hcz38_3 : w35.cell? ⟨gb106,3,none⟩ = some (.string a1_3) := (blk_cell BK106.out 3).trans rfl;have hfz38_0 := blk_frozen BK106.out 0;have hfz38_1 := blk_frozen BK106.out 1;have hfz38_2 := blk_frozen BK106.out 2;have hfz38_3 := blk_frozen BK106.out 3) | (go_at_call 149;(with_reducible refine (cmp_Compare_149.calls a0_0 a1_0 t107 _ A33.out).mono ?_);rintro e w' ⟨rfl,⟨nd,rfl⟩⟩;(try first | exact ⟨rfl,_,World.drewN_drewN _ _ _⟩ | exact ⟨rfl,_,Eq.trans (World.drewN_drewN _ _ _) (congrArg (World.drewN _) (Nat.add_assoc _ _ _))⟩))))
    go_ret
    exact ⟨by first | rfl | (simp [errW_none,errW_some] <;> rfl) | (simp [*,errW_none,errW_some] <;> rfl),by repeat (first | (with_reducible first | exact HB.out | apply below_alloc | apply pw_below_drewN | apply below_drew1 | refine below_set ?_ GE105.out | refine below_set ?_ GE106.out) | exact HB.out)⟩
end Go.Proofs.Ythfaimomcbmniaa.Z
end
section
namespace Go.Proofs.YthfaimomcbmniaaW.PrintMore
open Go.RowKit Go.Proofs.YthfaimomcbmniaaW.PrintWords Go.Proofs.YthfaimomcbmniaaW.PrintLast
section
variable {P : Program} {ops : Array Oper} {Q : Exit → Act → World → Prop}
theorem gate_tmp {rest : List Oper} {o : Oper} {a : Act} {W : World} {n : Nat} {as_ : Array Operand} {ts : Array TypeId} (_ho : o.op = .call { callee := .value (.tmp n),args := as_,argTypes := ts }) (h : wpList P ops Q (o :: rest) a W) : wpList P ops Q (o :: rest) a W := h
theorem goesT_ {rest : List Oper} {oi : Oper} {a : Act} {w : World} (N : Option Tmp) (hd : oi.dst = N) (hg : oi.guard = none) {x : Operand} {f : FuncId} {lb : Array Value} {fn : Func} {as_ : Array Operand} {ts : Array TypeId} (hf : P.funcs[f]? = some fn) (hname : (fn.name == "runtime.NumGoroutine") = false) (hb : fn.body.isSome = true) (args : Array Value)
    (hop : oi.op = .call { callee := .value x,args := as_,argTypes := ts }) (hx : a.eval x = .func (.func f) #[] lb) (hargs : as_.map a.eval ++ lb = args)
    (h : Calls P f args w fun e w' => ∃ v,e = .returned v ∧ wpList P ops Q rest (a.put N v) w') : wpList P ops Q (oi :: rest) a w := by
  refine wpList_plain hg fun K hK => ?_
  have he := enters_ hf hname hb args w
  have hrun : (execOp a.eval oi).run P w = .ok (.enter f args) w := by
    unfold execOp
    simp [hop,resolve,Deferred.ofValue,invoke,hx,hargs,he]
  unfold Oper.wp
  rw [hrun,Oper.upon_enter]
  refine h.mono fun e w'' hh => ?_
  obtain ⟨v,rfl,hk⟩ := hh
  subst hd
  exact hK _ _ hk
end
end Go.Proofs.YthfaimomcbmniaaW.PrintMore
namespace Go.Proofs.YthfaimomcbmniaaW.PrintWords
open Go.RowKit
section
variable {P : Program} {ops : Array Oper} {Q : Exit → Act → World → Prop} {o : Oper} {rest : List Oper} {a : Act}
end
end Go.Proofs.YthfaimomcbmniaaW.PrintWords
namespace Go.Proofs.YthfaimomcbmniaaW.PrintWords
open Go.RowKit
end Go.Proofs.YthfaimomcbmniaaW.PrintWords
end
section
namespace Go.Proofs.Ythfaimomcbmniaa.Z
open Go.RowKit Go.Proofs.YthfaimomcbmniaaW.PrintWords Go.Proofs.YthfaimomcbmniaaW.PrintLast Go.Proofs.YthfaimomcbmniaaW.PrintMore
attribute [local go_sem] max2_int min2_int max_two min_two max_three min_three max_four min_four
set_option linter.unusedVariables false
set_option linter.unusedSimpArgs false
def slices_CompareFunc.l0 : Nat → List (S149) → List (S149) → List (S149) → Int → Int → Option (Int)
  | 0,_,_,_,_,_ => none
  | k + 1,x0,x1,x11,x12,x13 => if x13 < x12 then (if 0 ≤ x13 then (if x13 < (x11.length : Int) then (if x13 ≥ (x1.length : Int) then (some 1) else (if x13 < (x1.length : Int) then ((value_Compare.f ((rd_T149 x11 x13).f0) ((rd_T149 x11 x13).f1) ((rd_T149 x11 x13).f2) ((rd_T149 x11 x13).f3) ((rd_T149 x1 x13).f0) ((rd_T149 x1 x13).f1) ((rd_T149 x1 x13).f2) ((rd_T149 x1 x13).f3)).bind fun t117 => (if t117 = 0 then (slices_CompareFunc.l0 k x0 x1 x11 x12 (wrap64 (x13 + 1))) else (some t117))) else (none))) else (none)) else (none)) else (if (x0.length : Int) < (x1.length : Int) then (some (-1)) else (some 0))
def slices_CompareFunc.f (k : Nat) (l0 : List (S149)) (l1 : List (S149)) (a2 : Int) : Option (Int) := slices_CompareFunc.l0 k l0 l1 l0 (l0.length : Int) 0
theorem slices_CompareFunc.mono_l : ∀ k,(∀ y0 y1 y2 y3 y4,LeO (slices_CompareFunc.l0 k y0 y1 y2 y3 y4) (slices_CompareFunc.l0 (k + 1) y0 y1 y2 y3 y4))
  | 0 => fun _ _ _ _ _ r h => by simp [slices_CompareFunc.l0] at h
  | k + 1 => by
    have ih0 := slices_CompareFunc.mono_l k
    · intro y0 y1 y2 y3 y4
      unfold slices_CompareFunc.l0
      repeat' first
      | (with_reducible exact ih0 _ _ _ _ _)
      | (with_reducible exact LeO.refl _)
      | (with_reducible exact LeO.none _)
      | (with_reducible refine LeO.ite ?_ ?_)
      | (with_reducible refine LeO.bind ?_ (fun _ => ?_))
      | exact ih0 _ _ _ _ _
      | exact LeO.none _
      | refine LeO.ite ?_ ?_
      | refine LeO.bind ?_ (fun _ => ?_)
theorem slices_CompareFunc.mono : ∀ a0 a1 a2 k,LeO (slices_CompareFunc.f k a0 a1 a2) (slices_CompareFunc.f (k + 1) a0 a1 a2) := by
  intro a0 a1 a2 k
  have ih0 := slices_CompareFunc.mono_l k
  unfold slices_CompareFunc.f
  repeat' first
      | (with_reducible exact ih0 _ _ _ _ _)
      | (with_reducible exact LeO.refl _)
      | (with_reducible exact LeO.none _)
      | (with_reducible refine LeO.ite ?_ ?_)
      | (with_reducible refine LeO.bind ?_ (fun _ => ?_))
      | exact ih0 _ _ _ _ _
      | exact LeO.none _
      | refine LeO.ite ?_ ?_
      | refine LeO.bind ?_ (fun _ => ?_)
set_option maxHeartbeats 8000000 in
set_option maxRecDepth 100000 in
theorem slices_CompareFunc.calls (k : Nat) (A0 : Option Addr) (c0 : Nat) (l0 : List (S149)) (A1 : Option Addr) (c1 : Nat) (l1 : List (S149)) (a2 : Int) (r : Int) (w : World) (hr0 : Kd.C k149 w A0 l0.length l0) (hc0 : l0.length ≤ c0) (hr1 : Kd.C k149 w A1 l1.length l1) (hc1 : l1.length ≤ c1) (h : slices_CompareFunc.f k l0 l1 a2 = some r) :
    Calls Try.prog 133 #[.slice A0 l0.length c0,.slice A1 l1.length c1,.func (.func 134) #[] #[]] w fun e w' => e = .returned (.int .i64 r) ∧ Below w.heap.size w w' := by
  have hu149 := Try.underlying149
  have HR0 := Aside0.mk hr0
  have HC0 := Aside0.mk hc0
  clear hr0 hc0
  have HR1 := Aside0.mk hr1
  have HC1 := Aside0.mk hc1
  clear hr1 hc1
  have HB := Aside0.mk (Below.refl w.heap.size w)
  have H : (slices_CompareFunc.l0 k l0 l1 l0 (l0.length : Int) 0) = some r := h
  clear h
  have H' := Aside0.mk H
  clear H
  go_enter Try.func133,Try.ntmps133
  go_wp2
  go_loopg [13] k (fun kq v13 w' => ∃ (x13_1 : Int),v13 = .int .i64 x13_1 ∧ Aside0 (slices_CompareFunc.l0 kq l0 l1 l0 (l0.length : Int) x13_1 = some r) ∧ Aside0 (kq ≤ k) ∧ Aside0 (Below w.heap.size w w'))
  case atStart => exact ⟨(0),(by first | rfl | (simp;done) | (simp [*];done)),H',⟨Nat.le_refl _⟩,⟨by repeat (first | (with_reducible first | exact HB.out | apply below_alloc | apply pw_below_drewN | apply below_drew1) | exact HB.out)⟩⟩
  case round =>
    clear H'
    try clear c1
    try clear p2
    obtain ⟨x13_1,rfl,HA,HK1,HB⟩ := hrel
    cases gk with
    | zero => exact absurd HA.out (by simp [slices_CompareFunc.l0])
    | succ k1 =>
      have H := HA.out
      clear HA
      simp only [slices_CompareFunc.l0] at H
      by_cases c4 : x13_1 < (l0.length : Int)
      · rw [if_pos c4] at H
        have c4b0 : decide (x13_1 < (l0.length : Int)) = true := decide_eq_true c4
        clear c4
        by_cases c5 : 0 ≤ x13_1
        · rw [if_pos c5] at H
          have c5b0 : decide (0 ≤ x13_1) = true := decide_eq_true c5
          clear c5
          by_cases c6 : x13_1 < (l0.length : Int)
          · rw [if_pos c6] at H
            have c6b0 : decide (x13_1 < (l0.length : Int)) = true := decide_eq_true c6
            clear c6
            by_cases c7 : x13_1 ≥ (l1.length : Int)
            · rw [if_pos c7] at H
              have c7b0 : decide ((l1.length : Int) ≤ x13_1) = true := decide_eq_true c7
              clear c7
              obtain rfl := Option.some.inj H
              have p113 : 0 ≤ (x13_1 : Int) := of_decide_eq_true (by first | (with_reducible assumption) | assumption)
              have q113 : x13_1 < (l0.length : Int) := of_decide_eq_true (by first | (with_reducible assumption) | assumption)
              obtain ⟨ad113,e113,hx113_0,hx113_1,hx113_2,hx113_3⟩ := at_T149 HR0.out x13_1 p113 q113
              cases e113
              replace hx113_0 := (HB.out.cell (World.block_lt_of_cell? w _ hx113_0)).trans hx113_0
              replace hx113_1 := (HB.out.cell (World.block_lt_of_cell? w _ hx113_1)).trans hx113_1
              replace hx113_2 := (HB.out.cell (World.block_lt_of_cell? w _ hx113_2)).trans hx113_2
              replace hx113_3 := (HB.out.cell (World.block_lt_of_cell? w _ hx113_3)).trans hx113_3
              replace p113 := eq_true p113
              replace q113 := eq_true q113
              go_wp2_with (first | ((with_reducible refine gate_dst (N := 8) rfl ?_);refine box_event ?hg (N := 8) ?hd (cs := #[.int .i64 0,.bool false,.int .i64 0,.string (⟨#[]⟩ : ByteArray)]) (t := 149) ?hr ?_;(case hd => rfl);(case hg => rfl);(case hr => first | (go_simp;done) | (go_simp;rfl));intro gb114 hg w8 hbox hb;have n0_ := Aside0.mk (below_step (by repeat (first | (with_reducible first | exact HB.out | apply below_alloc | apply pw_below_drewN | apply below_drew1) | exact HB.out)) hb);have n1_ := Aside0.mk (hbox);have n2_ := Aside0.mk ((by rw [hg];exact (below_size (by repeat (first | (with_reducible first | exact HB.out | apply below_alloc | apply pw_below_drewN | apply below_drew1) | exact HB.out))) : w.heap.size ≤ gb114));have n3_ := Aside0.mk ((by rw [hg];exact (below_size (by repeat (first | (with_reducible first | exact HB.out | apply below_alloc | apply pw_below_drewN | apply below_drew1) | exact HB.out))) : w.heap.size ≤ gb114));clear HB;have HB := n0_;have BK114 := n1_;have GW114 := n2_;have GE114 := n3_;clear n0_ n1_ n2_ n3_;clear hb hbox hg;have hcz9_0 : w8.cell? ⟨gb114,0,none⟩ = some (.int .i64 0) := (blk_cell BK114.out 0).trans rfl;have hcz9_1 : w8.cell? ⟨gb114,1,none⟩ = some (.bool false) := (blk_cell BK114.out 1).trans rfl;have hcz9_2 : w8.cell? ⟨gb114,2,none⟩ = some (.int .i64 0) := (blk_cell BK114.out 2).trans rfl;have hcz9_3 : w8.cell? ⟨gb114,3,none⟩ = some (.string (⟨#[]⟩ : ByteArray)) := (blk_cell BK114.out 3).trans rfl;have hfz9_0 := blk_frozen BK114.out 0;have hfz9_1 := blk_frozen BK114.out 1;have hfz9_2 := blk_frozen BK114.out 2;have hfz9_3 := blk_frozen BK114.out 3))
              go_ret
              exact ⟨by first | rfl | (simp [errW_none,errW_some] <;> rfl) | (simp [*,errW_none,errW_some] <;> rfl),by repeat (first | (with_reducible first | exact HB.out | apply below_alloc | apply pw_below_drewN | apply below_drew1 | refine below_set ?_ GE114.out) | exact HB.out)⟩
            · rw [if_neg c7] at H
              have c7b0 : decide ((l1.length : Int) ≤ x13_1) = false := decide_eq_false c7
              clear c7
              by_cases c10 : x13_1 < (l1.length : Int)
              · rw [if_pos c10] at H
                have c10b0 : decide (x13_1 < (l1.length : Int)) = true := decide_eq_true c10
                clear c10
                replace H := Option.bind_eq_some_iff.mp H
                obtain ⟨t117,A110,H⟩ := H
                replace H : (if t117 = 0 then (slices_CompareFunc.l0 k1 l0 l1 l0 (l0.length : Int) (wrap64 (x13_1 + 1))) else (some t117)) = some r := H
                have A11 := Aside0.mk A110
                clear A110
                by_cases c12 : t117 = 0
                · rw [if_pos c12] at H
                  have c12b0 : (t117 == 0) = true := beq_iff_eq.mpr c12
                  have c12b1 : (t117 != 0) = false := bne_eq_false_iff_eq.mpr c12
                  clear c12
                  have H' := Aside0.mk H
                  clear H
                  have p113 : 0 ≤ (x13_1 : Int) := of_decide_eq_true (by first | (with_reducible assumption) | assumption)
                  have q113 : x13_1 < (l0.length : Int) := of_decide_eq_true (by first | (with_reducible assumption) | assumption)
                  obtain ⟨ad113,e113,hx113_0,hx113_1,hx113_2,hx113_3⟩ := at_T149 HR0.out x13_1 p113 q113
                  cases e113
                  replace hx113_0 := (HB.out.cell (World.block_lt_of_cell? w _ hx113_0)).trans hx113_0
                  replace hx113_1 := (HB.out.cell (World.block_lt_of_cell? w _ hx113_1)).trans hx113_1
                  replace hx113_2 := (HB.out.cell (World.block_lt_of_cell? w _ hx113_2)).trans hx113_2
                  replace hx113_3 := (HB.out.cell (World.block_lt_of_cell? w _ hx113_3)).trans hx113_3
                  replace p113 := eq_true p113
                  replace q113 := eq_true q113
                  go_wp2_with (first | ((with_reducible refine gate_dst (N := 8) rfl ?_);refine box_event ?hg (N := 8) ?hd (cs := #[.int .i64 0,.bool false,.int .i64 0,.string (⟨#[]⟩ : ByteArray)]) (t := 149) ?hr ?_;(case hd => rfl);(case hg => rfl);(case hr => first | (go_simp;done) | (go_simp;rfl));intro gb114 hg w13 hbox hb;have n0_ := Aside0.mk (below_step (by repeat (first | (with_reducible first | exact HB.out | apply below_alloc | apply pw_below_drewN | apply below_drew1) | exact HB.out)) hb);have n1_ := Aside0.mk (hbox);have n2_ := Aside0.mk ((by rw [hg];exact (below_size (by repeat (first | (with_reducible first | exact HB.out | apply below_alloc | apply pw_below_drewN | apply below_drew1) | exact HB.out))) : w.heap.size ≤ gb114));have n3_ := Aside0.mk ((by rw [hg];exact (below_size (by repeat (first | (with_reducible first | exact HB.out | apply below_alloc | apply pw_below_drewN | apply below_drew1) | exact HB.out))) : w.heap.size ≤ gb114));clear HB;have HB := n0_;have BK114 := n1_;have GW114 := n2_;have GE114 := n3_;clear n0_ n1_ n2_ n3_;clear hb hbox hg;have hcz14_0 : w13.cell? ⟨gb114,0,none⟩ = some (.int .i64 0) := (blk_cell BK114.out 0).trans rfl;have hcz14_1 : w13.cell? ⟨gb114,1,none⟩ = some (.bool false) := (blk_cell BK114.out 1).trans rfl;have hcz14_2 : w13.cell? ⟨gb114,2,none⟩ = some (.int .i64 0) := (blk_cell BK114.out 2).trans rfl;have hcz14_3 : w13.cell? ⟨gb114,3,none⟩ = some (.string (⟨#[]⟩ : ByteArray)) := (blk_cell BK114.out 3).trans rfl;have hfz14_0 := blk_frozen BK114.out 0;have hfz14_1 := blk_frozen BK114.out 1;have hfz14_2 := blk_frozen BK114.out 2;have hfz14_3 := blk_frozen BK114.out 3;have p115 : 0 ≤ (x13_1 : Int) := of_decide_eq_true (by first | (with_reducible assumption) | assumption);have q115 : x13_1 < (l1.length : Int) := of_decide_eq_true (by first | (with_reducible assumption) | assumption);obtain ⟨ad115,e115,hx115_0,hx115_1,hx115_2,hx115_3⟩ := at_T149 HR1.out x13_1 p115 q115;cases e115;have hn115_0 : ad115.block ≠ gb114 := Nat.ne_of_lt (Nat.lt_of_lt_of_le (by have := World.block_lt_of_cell? _ _ hx115_0;first | rwa [add_block] at this | exact this) GW114.out);have hn115_1 : ad115.block ≠ gb114 := Nat.ne_of_lt (Nat.lt_of_lt_of_le (by have := World.block_lt_of_cell? _ _ hx115_0;first | rwa [add_block] at this | exact this) GW114.out);have hn115_2 : ad115.block ≠ gb114 := Nat.ne_of_lt (Nat.lt_of_lt_of_le (by have := World.block_lt_of_cell? _ _ hx115_0;first | rwa [add_block] at this | exact this) GW114.out);have hn115_3 : ad115.block ≠ gb114 := Nat.ne_of_lt (Nat.lt_of_lt_of_le (by have := World.block_lt_of_cell? _ _ hx115_0;first | rwa [add_block] at this | exact this) GW114.out);replace hx115_0 := (HB.out.cell (World.block_lt_of_cell? w _ hx115_0)).trans hx115_0;replace hx115_1 := (HB.out.cell (World.block_lt_of_cell? w _ hx115_1)).trans hx115_1;replace hx115_2 := (HB.out.cell (World.block_lt_of_cell? w _ hx115_2)).trans hx115_2;replace hx115_3 := (HB.out.cell (World.block_lt_of_cell? w _ hx115_3)).trans hx115_3;replace hx115_0 := (cell_far (p := ⟨gb114,0,none⟩) (by first | (rw [add_block];exact hn115_0) | (show (Addr.add _ _).block ≠ _;rw [add_block];exact hn115_0) | exact hn115_0) (.int .i64 ((rd_T149 l0 x13_1).f0))).trans hx115_0;replace hx115_1 := (cell_far (p := ⟨gb114,0,none⟩) (by first | (rw [add_block];exact hn115_0) | (show (Addr.add _ _).block ≠ _;rw [add_block];exact hn115_0) | exact hn115_0) (.int .i64 ((rd_T149 l0 x13_1).f0))).trans hx115_1;replace hx115_2 := (cell_far (p := ⟨gb114,0,none⟩) (by first | (rw [add_block];exact hn115_0) | (show (Addr.add _ _).block ≠ _;rw [add_block];exact hn115_0) | exact hn115_0) (.int .i64 ((rd_T149 l0 x13_1).f0))).trans hx115_2;replace hx115_3 := (cell_far (p := ⟨gb114,0,none⟩) (by first | (rw [add_block];exact hn115_0) | (show (Addr.add _ _).block ≠ _;rw [add_block];exact hn115_0) | exact hn115_0) (.int .i64 ((rd_T149 l0 x13_1).f0))).trans hx115_3;replace hx115_0 := (cell_far (p := ⟨gb114,1,none⟩) (by first | (rw [add_block];exact hn115_1) | (show (Addr.add _ _).block ≠ _;rw [add_block];exact hn115_1) | exact hn115_1) (.bool ((rd_T149 l0 x13_1).f1))).trans hx115_0;replace hx115_1 := (cell_far (p := ⟨gb114,1,none⟩) (by first | (rw [add_block];exact hn115_1) | (show (Addr.add _ _).block ≠ _;rw [add_block];exact hn115_1) | exact hn115_1) (.bool ((rd_T149 l0 x13_1).f1))).trans hx115_1;replace hx115_2 := (cell_far (p := ⟨gb114,1,none⟩) (by first | (rw [add_block];exact hn115_1) | (show (Addr.add _ _).block ≠ _;rw [add_block];exact hn115_1) | exact hn115_1) (.bool ((rd_T149 l0 x13_1).f1))).trans hx115_2;replace hx115_3 := (cell_far (p := ⟨gb114,1,none⟩) (by first | (rw [add_block];exact hn115_1) | (show (Addr.add _ _).block ≠ _;rw [add_block];exact hn115_1) | exact hn115_1) (.bool ((rd_T149 l0 x13_1).f1))).trans hx115_3;replace hx115_0 := (cell_far (p := ⟨gb114,2,none⟩) (by first | (rw [add_block];exact hn115_2) | (show (Addr.add _ _).block ≠ _;rw [add_block];exact hn115_2) | exact hn115_2) (.int .i64 ((rd_T149 l0 x13_1).f2))).trans hx115_0;replace hx115_1 := (cell_far (p := ⟨gb114,2,none⟩) (by first | (rw [add_block];exact hn115_2) | (show (Addr.add _ _).block ≠ _;rw [add_block];exact hn115_2) | exact hn115_2) (.int .i64 ((rd_T149 l0 x13_1).f2))).trans hx115_1;replace hx115_2 := (cell_far (p := ⟨gb114,2,none⟩) (by first | (rw [add_block];exact hn115_2) | (show (Addr.add _ _).block ≠ _;rw [add_block];exact hn115_2) | exact hn115_2) (.int .i64 ((rd_T149 l0 x13_1).f2))).trans hx115_2;replace hx115_3 := (cell_far (p := ⟨gb114,2,none⟩) (by first | (rw [add_block];exact hn115_2) | (show (Addr.add _ _).block ≠ _;rw [add_block];exact hn115_2) | exact hn115_2) (.int .i64 ((rd_T149 l0 x13_1).f2))).trans hx115_3;replace hx115_0 := (cell_far (p := ⟨gb114,3,none⟩) (by first | (rw [add_block];exact hn115_3) | (show (Addr.add _ _).block ≠ _;rw [add_block];exact hn115_3) | exact hn115_3) (.string ((rd_T149 l0 x13_1).f3))).trans hx115_0;replace hx115_1 := (cell_far (p := ⟨gb114,3,none⟩) (by first | (rw [add_block];exact hn115_3) | (show (Addr.add _ _).block ≠ _;rw [add_block];exact hn115_3) | exact hn115_3) (.string ((rd_T149 l0 x13_1).f3))).trans hx115_1;replace hx115_2 := (cell_far (p := ⟨gb114,3,none⟩) (by first | (rw [add_block];exact hn115_3) | (show (Addr.add _ _).block ≠ _;rw [add_block];exact hn115_3) | exact hn115_3) (.string ((rd_T149 l0 x13_1).f3))).trans hx115_2;replace hx115_3 := (cell_far (p := ⟨gb114,3,none⟩) (by first | (rw [add_block];exact hn115_3) | (show (Addr.add _ _).block ≠ _;rw [add_block];exact hn115_3) | exact hn115_3) (.string ((rd_T149 l0 x13_1).f3))).trans hx115_3;clear hn115_0;clear hn115_1;clear hn115_2;clear hn115_3;replace p115 := eq_true p115;replace q115 := eq_true q115) | ((with_reducible refine gate_dst (N := 9) rfl ?_);refine box_event ?hg (N := 9) ?hd (cs := #[.int .i64 0,.bool false,.int .i64 0,.string (⟨#[]⟩ : ByteArray)]) (t := 149) ?hr ?_;(case hd => rfl);(case hg => rfl);(case hr => first | (go_simp;done) | (go_simp;rfl));intro gb116 hg w15 hbox hb;have n0_ := Aside0.mk (blk_below (g := gb114) (o := .cells #[.int .i64 ((rd_T149 l0 x13_1).f0),.bool ((rd_T149 l0 x13_1).f1),.int .i64 ((rd_T149 l0 x13_1).f2),.string ((rd_T149 l0 x13_1).f3)] 149 (0,0)) (by (with_reducible repeat (first | refine blk_drewN ?_ _ | refine blk_drew ?_ | refine blk_alloc ?_ _));refine blk_put (cs := #[.int .i64 ((rd_T149 l0 x13_1).f0),.bool ((rd_T149 l0 x13_1).f1),.int .i64 ((rd_T149 l0 x13_1).f2),.string (⟨#[]⟩ : ByteArray)]) ?_ 3 _ rfl;(with_reducible repeat (first | refine blk_drewN ?_ _ | refine blk_drew ?_ | refine blk_alloc ?_ _));refine blk_put (cs := #[.int .i64 ((rd_T149 l0 x13_1).f0),.bool ((rd_T149 l0 x13_1).f1),.int .i64 0,.string (⟨#[]⟩ : ByteArray)]) ?_ 2 _ rfl;(with_reducible repeat (first | refine blk_drewN ?_ _ | refine blk_drew ?_ | refine blk_alloc ?_ _));refine blk_put (cs := #[.int .i64 ((rd_T149 l0 x13_1).f0),.bool false,.int .i64 0,.string (⟨#[]⟩ : ByteArray)]) ?_ 1 _ rfl;(with_reducible repeat (first | refine blk_drewN ?_ _ | refine blk_drew ?_ | refine blk_alloc ?_ _));refine blk_put (cs := #[.int .i64 0,.bool false,.int .i64 0,.string (⟨#[]⟩ : ByteArray)]) ?_ 0 _ rfl;(with_reducible repeat (first | refine blk_drewN ?_ _ | refine blk_drew ?_ | refine blk_alloc ?_ _));exact BK114.out) hb);have n1_ := Aside0.mk (below_step (by repeat (first | (with_reducible first | exact HB.out | apply below_alloc | apply pw_below_drewN | apply below_drew1 | refine below_set ?_ GE114.out) | exact HB.out)) hb);have n2_ := Aside0.mk (hbox);have n3_ := Aside0.mk ((by rw [hg];exact (below_size (by repeat (first | (with_reducible first | exact HB.out | apply below_alloc | apply pw_below_drewN | apply below_drew1 | refine below_set ?_ GE114.out) | exact HB.out))) : w.heap.size ≤ gb116));have n4_ := Aside0.mk ((by rw [hg];exact (below_size (by repeat (first | (with_reducible first | exact HB.out | apply below_alloc | apply pw_below_drewN | apply below_drew1 | refine below_set ?_ GE114.out) | exact HB.out))) : w.heap.size ≤ gb116));have n5_ := Aside0.mk ((by rw [hg];exact Nat.ne_of_lt (blk_lt (g := gb114) (o := .cells #[.int .i64 ((rd_T149 l0 x13_1).f0),.bool ((rd_T149 l0 x13_1).f1),.int .i64 ((rd_T149 l0 x13_1).f2),.string ((rd_T149 l0 x13_1).f3)] 149 (0,0)) (by (with_reducible repeat (first | refine blk_drewN ?_ _ | refine blk_drew ?_ | refine blk_alloc ?_ _));refine blk_put (cs := #[.int .i64 ((rd_T149 l0 x13_1).f0),.bool ((rd_T149 l0 x13_1).f1),.int .i64 ((rd_T149 l0 x13_1).f2),.string (⟨#[]⟩ : ByteArray)]) ?_ 3 _ rfl;(with_reducible repeat (first | refine blk_drewN ?_ _ | refine blk_drew ?_ | refine blk_alloc ?_ _));refine blk_put (cs := #[.int .i64 ((rd_T149 l0 x13_1).f0),.bool ((rd_T149 l0 x13_1).f1),.int .i64 0,.string (⟨#[]⟩ : ByteArray)]) ?_ 2 _ rfl;(with_reducible repeat (first | refine blk_drewN ?_ _ | refine blk_drew ?_ | refine blk_alloc ?_ _));refine blk_put (cs := #[.int .i64 ((rd_T149 l0 x13_1).f0),.bool false,.int .i64 0,.string (⟨#[]⟩ : ByteArray)]) ?_ 1 _ rfl;(with_reducible repeat (first | refine blk_drewN ?_ _ | refine blk_drew ?_ | refine blk_alloc ?_ _));refine blk_put (cs := #[.int .i64 0,.bool false,.int .i64 0,.string (⟨#[]⟩ : ByteArray)]) ?_ 0 _ rfl;(with_reducible repeat (first | refine blk_drewN ?_ _ | refine blk_drew ?_ | refine blk_alloc ?_ _));exact BK114.out)) : gb114 ≠ gb116));have n6_ := Aside0.mk ((by rw [hg];exact Nat.ne_of_gt (blk_lt (g := gb114) (o := .cells #[.int .i64 ((rd_T149 l0 x13_1).f0),.bool ((rd_T149 l0 x13_1).f1),.int .i64 ((rd_T149 l0 x13_1).f2),.string ((rd_T149 l0 x13_1).f3)] 149 (0,0)) (by (with_reducible repeat (first | refine blk_drewN ?_ _ | refine blk_drew ?_ | refine blk_alloc ?_ _));refine blk_put (cs := #[.int .i64 ((rd_T149 l0 x13_1).f0),.bool ((rd_T149 l0 x13_1).f1),.int .i64 ((rd_T149 l0 x13_1).f2),.string (⟨#[]⟩ : ByteArray)]) ?_ 3 _ rfl;(with_reducible repeat (first | refine blk_drewN ?_ _ | refine blk_drew ?_ | refine blk_alloc ?_ _));refine blk_put (cs := #[.int .i64 ((rd_T149 l0 x13_1).f0),.bool ((rd_T149 l0 x13_1).f1),.int .i64 0,.string (⟨#[]⟩ : ByteArray)]) ?_ 2 _ rfl;(with_reducible repeat (first | refine blk_drewN ?_ _ | refine blk_drew ?_ | refine blk_alloc ?_ _));refine blk_put (cs := #[.int .i64 ((rd_T149 l0 x13_1).f0),.bool false,.int .i64 0,.string (⟨#[]⟩ : ByteArray)]) ?_ 1 _ rfl;(with_reducible repeat (first | refine blk_drewN ?_ _ | refine blk_drew ?_ | refine blk_alloc ?_ _));refine blk_put (cs := #[.int .i64 0,.bool false,.int .i64 0,.string (⟨#[]⟩ : ByteArray)]) ?_ 0 _ rfl;(with_reducible repeat (first | refine blk_drewN ?_ _ | refine blk_drew ?_ | refine blk_alloc ?_ _));exact BK114.out)) : gb116 ≠ gb114));clear BK114;clear HB;have BK114 := n0_;have HB := n1_;have BK116 := n2_;have GW116 := n3_;have GE116 := n4_;have NB114_116 := n5_;have NB116_114 := n6_;clear n0_ n1_ n2_ n3_ n4_ n5_ n6_;clear hb hbox hg;have hnb16 := NB116_114.out;have hnc16 := NB114_116.out;have hcz17_0 : w15.cell? ⟨gb116,0,none⟩ = some (.int .i64 0) := (blk_cell BK116.out 0).trans rfl;have hcz17_1 : w15.cell? ⟨gb116,1,none⟩ = some (.bool false) := (blk_cell BK116.out 1).trans rfl;have hcz17_2 : w15.cell? ⟨gb116,2,none⟩ = some (.int .i64 0) := (blk_cell BK116.out 2).trans rfl;have hcz17_3 : w15.cell? ⟨gb116,3,none⟩ = some (.string (⟨#[]⟩ : ByteArray)) := (blk_cell BK116.out 3).trans rfl;have hfz17_0 := blk_frozen BK116.out 0;have hfz17_1 := blk_frozen BK116.out 1;have hfz17_2 := blk_frozen BK116.out 2;have hfz17_3 := blk_frozen BK116.out 3;have hcz18_0 : w15.cell? ⟨gb114,0,none⟩ = some (.int .i64 ((rd_T149 l0 x13_1).f0)) := (blk_cell BK114.out 0).trans rfl;have hcz18_1 : w15.cell? ⟨gb114,1,none⟩ = some (.bool ((rd_T149 l0 x13_1).f1)) := (blk_cell BK114.out 1).trans rfl;have hcz18_2 : w15.cell? ⟨gb114,2,none⟩ = some (.int .i64 ((rd_T149 l0 x13_1).f2)) := (blk_cell BK114.out 2).trans rfl;have hcz18_3 : w15.cell? ⟨gb114,3,none⟩ = some (.string ((rd_T149 l0 x13_1).f3)) := (blk_cell BK114.out 3).trans rfl;have hfz18_0 := blk_frozen BK114.out 0;have hfz18_1 := blk_frozen BK114.out 1;have hfz18_2 := blk_frozen BK114.out 2;have hfz18_3 := blk_frozen BK114.out 3) | ((with_reducible refine gate_tmp (n := 26) rfl ?_);refine goesT_ (some 29) rfl rfl Try.func134 (by kernel_rfl) rfl #[.agg #[.int .i64 ((rd_T149 l0 x13_1).f0),.bool ((rd_T149 l0 x13_1).f1),.int .i64 ((rd_T149 l0 x13_1).f2),.string ((rd_T149 l0 x13_1).f3)],.agg #[.int .i64 ((rd_T149 l1 x13_1).f0),.bool ((rd_T149 l1 x13_1).f1),.int .i64 ((rd_T149 l1 x13_1).f2),.string ((rd_T149 l1 x13_1).f3)]] rfl rfl (by (try simp only [List.map_toArray,List.map_cons,List.map_nil]);first | done | rfl | (simp only [List.length_drop,List.length_take];rfl)) ?_;(with_reducible refine (value_Compare.calls ((rd_T149 l0 x13_1).f0) ((rd_T149 l0 x13_1).f1) ((rd_T149 l0 x13_1).f2) ((rd_T149 l0 x13_1).f3) ((rd_T149 l1 x13_1).f0) ((rd_T149 l1 x13_1).f1) ((rd_T149 l1 x13_1).f2) ((rd_T149 l1 x13_1).f3) t117 _ A11.out).mono ?_);rintro e w19 ⟨rfl,hb⟩;refine ⟨_,rfl,?_⟩;have n0_ := Aside0.mk (blk_below (g := gb114) (o := .cells #[.int .i64 ((rd_T149 l0 x13_1).f0),.bool ((rd_T149 l0 x13_1).f1),.int .i64 ((rd_T149 l0 x13_1).f2),.string ((rd_T149 l0 x13_1).f3)] 149 (0,0)) (by (with_reducible repeat (first | refine blk_drewN ?_ _ | refine blk_drew ?_ | refine blk_alloc ?_ _));refine blk_far ?_ NB114_116.out _;(with_reducible repeat (first | refine blk_drewN ?_ _ | refine blk_drew ?_ | refine blk_alloc ?_ _));refine blk_far ?_ NB114_116.out _;(with_reducible repeat (first | refine blk_drewN ?_ _ | refine blk_drew ?_ | refine blk_alloc ?_ _));refine blk_far ?_ NB114_116.out _;(with_reducible repeat (first | refine blk_drewN ?_ _ | refine blk_drew ?_ | refine blk_alloc ?_ _));refine blk_far ?_ NB114_116.out _;(with_reducible repeat (first | refine blk_drewN ?_ _ | refine blk_drew ?_ | refine blk_alloc ?_ _));exact BK114.out) hb);have n1_ := Aside0.mk (blk_below (g := gb116) (o := .cells #[.int .i64 ((rd_T149 l1 x13_1).f0),.bool ((rd_T149 l1 x13_1).f1),.int .i64 ((rd_T149 l1 x13_1).f2),.string ((rd_T149 l1 x13_1).f3)] 149 (0,0)) (by (with_reducible repeat (first | refine blk_drewN ?_ _ | refine blk_drew ?_ | refine blk_alloc ?_ _));refine blk_put (cs := #[.int .i64 ((rd_T149 l1 x13_1).f0),.bool ((rd_T149 l1 x13_1).f1),.int .i64 ((rd_T149 l1 x13_1).f2),.string (⟨#[]⟩ : ByteArray)]) ?_ 3 _ rfl;(with_reducible repeat (first | refine blk_drewN ?_ _ | refine blk_drew ?_ | refine blk_alloc ?_ _));refine blk_put (cs := #[.int .i64 ((rd_T149 l1 x13_1).f0),.bool ((rd_T149 l1 x13_1).f1),.int .i64 0,.string (⟨#[]⟩ : ByteArray)]) ?_ 2 _ rfl;(with_reducible repeat (first | refine blk_drewN ?_ _ | refine blk_drew ?_ | refine blk_alloc ?_ _));refine blk_put (cs := #[.int .i64 ((rd_T149 l1 x13_1).f0),.bool false,.int .i64 0,.string (⟨#[]⟩ : ByteArray)]) ?_ 1 _ rfl;(with_reducible repeat (first | refine blk_drewN ?_ _ | refine blk_drew ?_ | refine blk_alloc ?_ _));refine blk_put (cs := #[.int .i64 0,.bool false,.int .i64 0,.string (⟨#[]⟩ : ByteArray)]) ?_ 0 _ rfl;(with_reducible repeat (first | refine blk_drewN ?_ _ | refine blk_drew ?_ | refine blk_alloc ?_ _));exact BK116.out) hb);have n2_ := Aside0.mk (below_step (by repeat (first | (with_reducible first | exact HB.out | apply below_alloc | apply pw_below_drewN | apply below_drew1 | refine below_set ?_ GE114.out | refine below_set ?_ GE116.out) | exact HB.out)) hb);clear BK114;clear BK116;clear HB;have BK114 := n0_;have BK116 := n1_;have HB := n2_;clear n0_ n1_ n2_;(try clear hb);(try clear hb2);(try clear hk);(try clear hi)))
                  go_roundg k1
                  case measure => have := HK1.out;omega
                  case rel => exact ⟨(wrap64 (x13_1 + 1)),(by first | rfl | (simp;done) | (simp [*];done)),H',⟨by have := HK1.out;omega⟩,⟨by repeat (first | (with_reducible first | exact HB.out | apply below_alloc | apply pw_below_drewN | apply below_drew1 | refine below_set ?_ GE114.out | refine below_set ?_ GE116.out) | exact HB.out)⟩⟩
                · rw [if_neg c12] at H
                  have c12b0 : (t117 == 0) = false := beq_eq_false_iff_ne.mpr c12
                  have c12b1 : (t117 != 0) = true := bne_iff_ne.mpr c12
                  obtain rfl := Option.some.inj H
                  have p113 : 0 ≤ (x13_1 : Int) := of_decide_eq_true (by first | (with_reducible assumption) | assumption)
                  have q113 : x13_1 < (l0.length : Int) := of_decide_eq_true (by first | (with_reducible assumption) | assumption)
                  obtain ⟨ad113,e113,hx113_0,hx113_1,hx113_2,hx113_3⟩ := at_T149 HR0.out x13_1 p113 q113
                  cases e113
                  replace hx113_0 := (HB.out.cell (World.block_lt_of_cell? w _ hx113_0)).trans hx113_0
                  replace hx113_1 := (HB.out.cell (World.block_lt_of_cell? w _ hx113_1)).trans hx113_1
                  replace hx113_2 := (HB.out.cell (World.block_lt_of_cell? w _ hx113_2)).trans hx113_2
                  replace hx113_3 := (HB.out.cell (World.block_lt_of_cell? w _ hx113_3)).trans hx113_3
                  replace p113 := eq_true p113
                  replace q113 := eq_true q113
                  go_wp2_with (first | ((with_reducible refine gate_dst (N := 8) rfl ?_);refine box_event ?hg (N := 8) ?hd (cs := #[.int .i64 0,.bool false,.int .i64 0,.string (⟨#[]⟩ : ByteArray)]) (t := 149) ?hr ?_;(case hd => rfl);(case hg => rfl);(case hr => first | (go_simp;done) | (go_simp;rfl));intro gb114 hg w20 hbox hb;have n0_ := Aside0.mk (below_step (by repeat (first | (with_reducible first | exact HB.out | apply below_alloc | apply pw_below_drewN | apply below_drew1) | exact HB.out)) hb);have n1_ := Aside0.mk (hbox);have n2_ := Aside0.mk ((by rw [hg];exact (below_size (by repeat (first | (with_reducible first | exact HB.out | apply below_alloc | apply pw_below_drewN | apply below_drew1) | exact HB.out))) : w.heap.size ≤ gb114));have n3_ := Aside0.mk ((by rw [hg];exact (below_size (by repeat (first | (with_reducible first | exact HB.out | apply below_alloc | apply pw_below_drewN | apply below_drew1) | exact HB.out))) : w.heap.size ≤ gb114));clear HB;have HB := n0_;have BK114 := n1_;have GW114 := n2_;have GE114 := n3_;clear n0_ n1_ n2_ n3_;clear hb hbox hg;have hcz21_0 : w20.cell? ⟨gb114,0,none⟩ = some (.int .i64 0) := (blk_cell BK114.out 0).trans rfl;have hcz21_1 : w20.cell? ⟨gb114,1,none⟩ = some (.bool false) := (blk_cell BK114.out 1).trans rfl;have hcz21_2 : w20.cell? ⟨gb114,2,none⟩ = some (.int .i64 0) := (blk_cell BK114.out 2).trans rfl;have hcz21_3 : w20.cell? ⟨gb114,3,none⟩ = some (.string (⟨#[]⟩ : ByteArray)) := (blk_cell BK114.out 3).trans rfl;have hfz21_0 := blk_frozen BK114.out 0;have hfz21_1 := blk_frozen BK114.out 1;have hfz21_2 := blk_frozen BK114.out 2;have hfz21_3 := blk_frozen BK114.out 3;have p115 : 0 ≤ (x13_1 : Int) := of_decide_eq_true (by first | (with_reducible assumption) | assumption);have q115 : x13_1 < (l1.length : Int) := of_decide_eq_true (by first | (with_reducible assumption) | assumption);obtain ⟨ad115,e115,hx115_0,hx115_1,hx115_2,hx115_3⟩ := at_T149 HR1.out x13_1 p115 q115;cases e115;have hn115_0 : ad115.block ≠ gb114 := Nat.ne_of_lt (Nat.lt_of_lt_of_le (by have := World.block_lt_of_cell? _ _ hx115_0;first | rwa [add_block] at this | exact this) GW114.out);have hn115_1 : ad115.block ≠ gb114 := Nat.ne_of_lt (Nat.lt_of_lt_of_le (by have := World.block_lt_of_cell? _ _ hx115_0;first | rwa [add_block] at this | exact this) GW114.out);have hn115_2 : ad115.block ≠ gb114 := Nat.ne_of_lt (Nat.lt_of_lt_of_le (by have := World.block_lt_of_cell? _ _ hx115_0;first | rwa [add_block] at this | exact this) GW114.out);have hn115_3 : ad115.block ≠ gb114 := Nat.ne_of_lt (Nat.lt_of_lt_of_le (by have := World.block_lt_of_cell? _ _ hx115_0;first | rwa [add_block] at this | exact this) GW114.out);replace hx115_0 := (HB.out.cell (World.block_lt_of_cell? w _ hx115_0)).trans hx115_0;replace hx115_1 := (HB.out.cell (World.block_lt_of_cell? w _ hx115_1)).trans hx115_1;replace hx115_2 := (HB.out.cell (World.block_lt_of_cell? w _ hx115_2)).trans hx115_2;replace hx115_3 := (HB.out.cell (World.block_lt_of_cell? w _ hx115_3)).trans hx115_3;replace hx115_0 := (cell_far (p := ⟨gb114,0,none⟩) (by first | (rw [add_block];exact hn115_0) | (show (Addr.add _ _).block ≠ _;rw [add_block];exact hn115_0) | exact hn115_0) (.int .i64 ((rd_T149 l0 x13_1).f0))).trans hx115_0;replace hx115_1 := (cell_far (p := ⟨gb114,0,none⟩) (by first | (rw [add_block];exact hn115_0) | (show (Addr.add _ _).block ≠ _;rw [add_block];exact hn115_0) | exact hn115_0) (.int .i64 ((rd_T149 l0 x13_1).f0))).trans hx115_1;replace hx115_2 := (cell_far (p := ⟨gb114,0,none⟩) (by first | (rw [add_block];exact hn115_0) | (show (Addr.add _ _).block ≠ _;rw [add_block];exact hn115_0) | exact hn115_0) (.int .i64 ((rd_T149 l0 x13_1).f0))).trans hx115_2;replace hx115_3 := (cell_far (p := ⟨gb114,0,none⟩) (by first | (rw [add_block];exact hn115_0) | (show (Addr.add _ _).block ≠ _;rw [add_block];exact hn115_0) | exact hn115_0) (.int .i64 ((rd_T149 l0 x13_1).f0))).trans hx115_3;replace hx115_0 := (cell_far (p := ⟨gb114,1,none⟩) (by first | (rw [add_block];exact hn115_1) | (show (Addr.add _ _).block ≠ _;rw [add_block];exact hn115_1) | exact hn115_1) (.bool ((rd_T149 l0 x13_1).f1))).trans hx115_0;replace hx115_1 := (cell_far (p := ⟨gb114,1,none⟩) (by first | (rw [add_block];exact hn115_1) | (show (Addr.add _ _).block ≠ _;rw [add_block];exact hn115_1) | exact hn115_1) (.bool ((rd_T149 l0 x13_1).f1))).trans hx115_1;replace hx115_2 := (cell_far (p := ⟨gb114,1,none⟩) (by first | (rw [add_block];exact hn115_1) | (show (Addr.add _ _).block ≠ _;rw [add_block];exact hn115_1) | exact hn115_1) (.bool ((rd_T149 l0 x13_1).f1))).trans hx115_2;replace hx115_3 := (cell_far (p := ⟨gb114,1,none⟩) (by first | (rw [add_block];exact hn115_1) | (show (Addr.add _ _).block ≠ _;rw [add_block];exact hn115_1) | exact hn115_1) (.bool ((rd_T149 l0 x13_1).f1))).trans hx115_3;replace hx115_0 := (cell_far (p := ⟨gb114,2,none⟩) (by first | (rw [add_block];exact hn115_2) | (show (Addr.add _ _).block ≠ _;rw [add_block];exact hn115_2) | exact hn115_2) (.int .i64 ((rd_T149 l0 x13_1).f2))).trans hx115_0;replace hx115_1 := (cell_far (p := ⟨gb114,2,none⟩) (by first | (rw [add_block];exact hn115_2) | (show (Addr.add _ _).block ≠ _;rw [add_block];exact hn115_2) | exact hn115_2) (.int .i64 ((rd_T149 l0 x13_1).f2))).trans hx115_1;replace hx115_2 := (cell_far (p := ⟨gb114,2,none⟩) (by first | (rw [add_block];exact hn115_2) | (show (Addr.add _ _).block ≠ _;rw [add_block];exact hn115_2) | exact hn115_2) (.int .i64 ((rd_T149 l0 x13_1).f2))).trans hx115_2;replace hx115_3 := (cell_far (p := ⟨gb114,2,none⟩) (by first | (rw [add_block];exact hn115_2) | (show (Addr.add _ _).block ≠ _;rw [add_block];exact hn115_2) | exact hn115_2) (.int .i64 ((rd_T149 l0 x13_1).f2))).trans hx115_3;replace hx115_0 := (cell_far (p := ⟨gb114,3,none⟩) (by first | (rw [add_block];exact hn115_3) | (show (Addr.add _ _).block ≠ _;rw [add_block];exact hn115_3) | exact hn115_3) (.string ((rd_T149 l0 x13_1).f3))).trans hx115_0;replace hx115_1 := (cell_far (p := ⟨gb114,3,none⟩) (by first | (rw [add_block];exact hn115_3) | (show (Addr.add _ _).block ≠ _;rw [add_block];exact hn115_3) | exact hn115_3) (.string ((rd_T149 l0 x13_1).f3))).trans hx115_1;replace hx115_2 := (cell_far (p := ⟨gb114,3,none⟩) (by first | (rw [add_block];exact hn115_3) | (show (Addr.add _ _).block ≠ _;rw [add_block];exact hn115_3) | exact hn115_3) (.string ((rd_T149 l0 x13_1).f3))).trans hx115_2;replace hx115_3 := (cell_far (p := ⟨gb114,3,none⟩) (by first | (rw [add_block];exact hn115_3) | (show (Addr.add _ _).block ≠ _;rw [add_block];exact hn115_3) | exact hn115_3) (.string ((rd_T149 l0 x13_1).f3))).trans hx115_3;clear hn115_0;clear hn115_1;clear hn115_2;clear hn115_3;replace p115 := eq_true p115;replace q115 := eq_true q115) | ((with_reducible refine gate_dst (N := 9) rfl ?_);refine box_event ?hg (N := 9) ?hd (cs := #[.int .i64 0,.bool false,.int .i64 0,.string (⟨#[]⟩ : ByteArray)]) (t := 149) ?hr ?_;(case hd => rfl);(case hg => rfl);(case hr => first | (go_simp;done) | (go_simp;rfl));intro gb116 hg w22 hbox hb;have n0_ := Aside0.mk (blk_below (g := gb114) (o := .cells #[.int .i64 ((rd_T149 l0 x13_1).f0),.bool ((rd_T149 l0 x13_1).f1),.int .i64 ((rd_T149 l0 x13_1).f2),.string ((rd_T149 l0 x13_1).f3)] 149 (0,0)) (by (with_reducible repeat (first | refine blk_drewN ?_ _ | refine blk_drew ?_ | refine blk_alloc ?_ _));refine blk_put (cs := #[.int .i64 ((rd_T149 l0 x13_1).f0),.bool ((rd_T149 l0 x13_1).f1),.int .i64 ((rd_T149 l0 x13_1).f2),.string (⟨#[]⟩ : ByteArray)]) ?_ 3 _ rfl;(with_reducible repeat (first | refine blk_drewN ?_ _ | refine blk_drew ?_ | refine blk_alloc ?_ _));refine blk_put (cs := #[.int .i64 ((rd_T149 l0 x13_1).f0),.bool ((rd_T149 l0 x13_1).f1),.int .i64 0,.string (⟨#[]⟩ : ByteArray)]) ?_ 2 _ rfl;(with_reducible repeat (first | refine blk_drewN ?_ _ | refine blk_drew ?_ | refine blk_alloc ?_ _));refine blk_put (cs := #[.int .i64 ((rd_T149 l0 x13_1).f0),.bool false,.int .i64 0,.string (⟨#[]⟩ : ByteArray)]) ?_ 1 _ rfl;(with_reducible repeat (first | refine blk_drewN ?_ _ | refine blk_drew ?_ | refine blk_alloc ?_ _));refine blk_put (cs := #[.int .i64 0,.bool false,.int .i64 0,.string (⟨#[]⟩ : ByteArray)]) ?_ 0 _ rfl;(with_reducible repeat (first | refine blk_drewN ?_ _ | refine blk_drew ?_ | refine blk_alloc ?_ _));exact BK114.out) hb);have n1_ := Aside0.mk (below_step (by repeat (first | (with_reducible first | exact HB.out | apply below_alloc | apply pw_below_drewN | apply below_drew1 | refine below_set ?_ GE114.out) | exact HB.out)) hb);have n2_ := Aside0.mk (hbox);have n3_ := Aside0.mk ((by rw [hg];exact (below_size (by repeat (first | (with_reducible first | exact HB.out | apply below_alloc | apply pw_below_drewN | apply below_drew1 | refine below_set ?_ GE114.out) | exact HB.out))) : w.heap.size ≤ gb116));have n4_ := Aside0.mk ((by rw [hg];exact (below_size (by repeat (first | (with_reducible first | exact HB.out | apply below_alloc | apply pw_below_drewN | apply below_drew1 | refine below_set ?_ GE114.out) | exact HB.out))) : w.heap.size ≤ gb116));have n5_ := Aside0.mk ((by rw [hg];exact Nat.ne_of_lt (blk_lt (g := gb114) (o := .cells #[.int .i64 ((rd_T149 l0 x13_1).f0),.bool ((rd_T149 l0 x13_1).f1),.int .i64 ((rd_T149 l0 x13_1).f2),.string ((rd_T149 l0 x13_1).f3)] 149 (0,0)) (by (with_reducible repeat (first | refine blk_drewN ?_ _ | refine blk_drew ?_ | refine blk_alloc ?_ _));refine blk_put (cs := #[.int .i64 ((rd_T149 l0 x13_1).f0),.bool ((rd_T149 l0 x13_1).f1),.int .i64 ((rd_T149 l0 x13_1).f2),.string (⟨#[]⟩ : ByteArray)]) ?_ 3 _ rfl;(with_reducible repeat (first | refine blk_drewN ?_ _ | refine blk_drew ?_ | refine blk_alloc ?_ _));refine blk_put (cs := #[.int .i64 ((rd_T149 l0 x13_1).f0),.bool ((rd_T149 l0 x13_1).f1),.int .i64 0,.string (⟨#[]⟩ : ByteArray)]) ?_ 2 _ rfl;(with_reducible repeat (first | refine blk_drewN ?_ _ | refine blk_drew ?_ | refine blk_alloc ?_ _));refine blk_put (cs := #[.int .i64 ((rd_T149 l0 x13_1).f0),.bool false,.int .i64 0,.string (⟨#[]⟩ : ByteArray)]) ?_ 1 _ rfl;(with_reducible repeat (first | refine blk_drewN ?_ _ | refine blk_drew ?_ | refine blk_alloc ?_ _));refine blk_put (cs := #[.int .i64 0,.bool false,.int .i64 0,.string (⟨#[]⟩ : ByteArray)]) ?_ 0 _ rfl;(with_reducible repeat (first | refine blk_drewN ?_ _ | refine blk_drew ?_ | refine blk_alloc ?_ _));exact BK114.out)) : gb114 ≠ gb116));have n6_ := Aside0.mk ((by rw [hg];exact Nat.ne_of_gt (blk_lt (g := gb114) (o := .cells #[.int .i64 ((rd_T149 l0 x13_1).f0),.bool ((rd_T149 l0 x13_1).f1),.int .i64 ((rd_T149 l0 x13_1).f2),.string ((rd_T149 l0 x13_1).f3)] 149 (0,0)) (by (with_reducible repeat (first | refine blk_drewN ?_ _ | refine blk_drew ?_ | refine blk_alloc ?_ _));refine blk_put (cs := #[.int .i64 ((rd_T149 l0 x13_1).f0),.bool ((rd_T149 l0 x13_1).f1),.int .i64 ((rd_T149 l0 x13_1).f2),.string (⟨#[]⟩ : ByteArray)]) ?_ 3 _ rfl;(with_reducible repeat (first | refine blk_drewN ?_ _ | refine blk_drew ?_ | refine blk_alloc ?_ _));refine blk_put (cs := #[.int .i64 ((rd_T149 l0 x13_1).f0),.bool ((rd_T149 l0 x13_1).f1),.int .i64 0,.string (⟨#[]⟩ : ByteArray)]) ?_ 2 _ rfl;(with_reducible repeat (first | refine blk_drewN ?_ _ | refine blk_drew ?_ | refine blk_alloc ?_ _));refine blk_put (cs := #[.int .i64 ((rd_T149 l0 x13_1).f0),.bool false,.int .i64 0,.string (⟨#[]⟩ : ByteArray)]) ?_ 1 _ rfl;(with_reducible repeat (first | refine blk_drewN ?_ _ | refine blk_drew ?_ | refine blk_alloc ?_ _));refine blk_put (cs := #[.int .i64 0,.bool false,.int .i64 0,.string (⟨#[]⟩ : ByteArray)]) ?_ 0 _ rfl;(with_reducible repeat (first | refine blk_drewN ?_ _ | refine blk_drew ?_ | refine blk_alloc ?_ _));exact BK114.out)) : gb116 ≠ gb114));clear BK114;clear HB;have BK114 := n0_;have HB := n1_;have BK116 := n2_;have GW116 := n3_;have GE116 := n4_;have NB114_116 := n5_;have NB116_114 := n6_;clear n0_ n1_ n2_ n3_ n4_ n5_ n6_;clear hb hbox hg;have hnb23 := NB116_114.out;have hnc23 := NB114_116.out;have hcz24_0 : w22.cell? ⟨gb116,0,none⟩ = some (.int .i64 0) := (blk_cell BK116.out 0).trans rfl;have hcz24_1 : w22.cell? ⟨gb116,1,none⟩ = some (.bool false) := (blk_cell BK116.out 1).trans rfl;have hcz24_2 : w22.cell? ⟨gb116,2,none⟩ = some (.int .i64 0) := (blk_cell BK116.out 2).trans rfl;have hcz24_3 : w22.cell? ⟨gb116,3,none⟩ = some (.string (⟨#[]⟩ : ByteArray)) := (blk_cell BK116.out 3).trans rfl;have hfz24_0 := blk_frozen BK116.out 0;have hfz24_1 := blk_frozen BK116.out 1;have hfz24_2 := blk_frozen BK116.out 2;have hfz24_3 := blk_frozen BK116.out 3;have hcz25_0 : w22.cell? ⟨gb114,0,none⟩ = some (.int .i64 ((rd_T149 l0 x13_1).f0)) := (blk_cell BK114.out 0).trans rfl;have hcz25_1 : w22.cell? ⟨gb114,1,none⟩ = some (.bool ((rd_T149 l0 x13_1).f1)) := (blk_cell BK114.out 1).trans rfl;have hcz25_2 : w22.cell? ⟨gb114,2,none⟩ = some (.int .i64 ((rd_T149 l0 x13_1).f2)) := (blk_cell BK114.out 2).trans rfl;have hcz25_3 : w22.cell? ⟨gb114,3,none⟩ = some (.string ((rd_T149 l0 x13_1).f3)) := (blk_cell BK114.out 3).trans rfl;have hfz25_0 := blk_frozen BK114.out 0;have hfz25_1 := blk_frozen BK114.out 1;have hfz25_2 := blk_frozen BK114.out 2;have hfz25_3 := blk_frozen BK114.out 3) | ((with_reducible refine gate_tmp (n := 26) rfl ?_);refine goesT_ (some 29) rfl rfl Try.func134 (by kernel_rfl) rfl #[.agg #[.int .i64 ((rd_T149 l0 x13_1).f0),.bool ((rd_T149 l0 x13_1).f1),.int .i64 ((rd_T149 l0 x13_1).f2),.string ((rd_T149 l0 x13_1).f3)],.agg #[.int .i64 ((rd_T149 l1 x13_1).f0),.bool ((rd_T149 l1 x13_1).f1),.int .i64 ((rd_T149 l1 x13_1).f2),.string ((rd_T149 l1 x13_1).f3)]] rfl rfl (by (try simp only [List.map_toArray,List.map_cons,List.map_nil]);first | done | rfl | (simp only [List.length_drop,List.length_take];rfl)) ?_;(with_reducible refine (value_Compare.calls ((rd_T149 l0 x13_1).f0) ((rd_T149 l0 x13_1).f1) ((rd_T149 l0 x13_1).f2) ((rd_T149 l0 x13_1).f3) ((rd_T149 l1 x13_1).f0) ((rd_T149 l1 x13_1).f1) ((rd_T149 l1 x13_1).f2) ((rd_T149 l1 x13_1).f3) t117 _ A11.out).mono ?_);rintro e w26 ⟨rfl,hb⟩;refine ⟨_,rfl,?_⟩;have n0_ := Aside0.mk (blk_below (g := gb114) (o := .cells #[.int .i64 ((rd_T149 l0 x13_1).f0),.bool ((rd_T149 l0 x13_1).f1),.int .i64 ((rd_T149 l0 x13_1).f2),.string ((rd_T149 l0 x13_1).f3)] 149 (0,0)) (by (with_reducible repeat (first | refine blk_drewN ?_ _ | refine blk_drew ?_ | refine blk_alloc ?_ _));refine blk_far ?_ NB114_116.out _;(with_reducible repeat (first | refine blk_drewN ?_ _ | refine blk_drew ?_ | refine blk_alloc ?_ _));refine blk_far ?_ NB114_116.out _;(with_reducible repeat (first | refine blk_drewN ?_ _ | refine blk_drew ?_ | refine blk_alloc ?_ _));refine blk_far ?_ NB114_116.out _;(with_reducible repeat (first | refine blk_drewN ?_ _ | refine blk_drew ?_ | refine blk_alloc ?_ _));refine blk_far ?_ NB114_116.out _;(with_reducible repeat (first | refine blk_drewN ?_ _ | refine blk_drew ?_ | refine blk_alloc ?_ _));exact BK114.out) hb);have n1_ := Aside0.mk (blk_below (g := gb116) (o := .cells #[.int .i64 ((rd_T149 l1 x13_1).f0),.bool ((rd_T149 l1 x13_1).f1),.int .i64 ((rd_T149 l1 x13_1).f2),.string ((rd_T149 l1 x13_1).f3)] 149 (0,0)) (by (with_reducible repeat (first | refine blk_drewN ?_ _ | refine blk_drew ?_ | refine blk_alloc ?_ _));refine blk_put (cs := #[.int .i64 ((rd_T149 l1 x13_1).f0),.bool ((rd_T149 l1 x13_1).f1),.int .i64 ((rd_T149 l1 x13_1).f2),.string (⟨#[]⟩ : ByteArray)]) ?_ 3 _ rfl;(with_reducible repeat (first | refine blk_drewN ?_ _ | refine blk_drew ?_ | refine blk_alloc ?_ _));refine blk_put (cs := #[.int .i64 ((rd_T149 l1 x13_1).f0),.bool ((rd_T149 l1 x13_1).f1),.int .i64 0,.string (⟨#[]⟩ : ByteArray)]) ?_ 2 _ rfl;(with_reducible repeat (first | refine blk_drewN ?_ _ | refine blk_drew ?_ | refine blk_alloc ?_ _));refine blk_put (cs := #[.int .i64 ((rd_T149 l1 x13_1).f0),.bool false,.int .i64 0,.string (⟨#[]⟩ : ByteArray)]) ?_ 1 _ rfl;(with_reducible repeat (first | refine blk_drewN ?_ _ | refine blk_drew ?_ | refine blk_alloc ?_ _));refine blk_put (cs := #[.int .i64 0,.bool false,.int .i64 0,.string (⟨#[]⟩ : ByteArray)]) ?_ 0 _ rfl;(with_reducible repeat (first | refine blk_drewN ?_ _ | refine blk_drew ?_ | refine blk_alloc ?_ _));exact BK116.out) hb);have n2_ := Aside0.mk (below_step (by repeat (first | (with_reducible first | exact HB.out | apply below_alloc | apply pw_below_drewN | apply below_drew1 | refine below_set ?_ GE114.out | refine below_set ?_ GE116.out) | exact HB.out)) hb);clear BK114;clear BK116;clear HB;have BK114 := n0_;have BK116 := n1_;have HB := n2_;clear n0_ n1_ n2_;(try clear hb);(try clear hb2);(try clear hk);(try clear hi)))
                  go_ret
                  exact ⟨by first | rfl | (simp [errW_none,errW_some] <;> rfl) | (simp [*,errW_none,errW_some] <;> rfl),by repeat (first | (with_reducible first | exact HB.out | apply below_alloc | apply pw_below_drewN | apply below_drew1 | refine below_set ?_ GE114.out | refine below_set ?_ GE116.out) | exact HB.out)⟩
              · rw [if_neg c10] at H
                exact absurd H (by simp)
          · rw [if_neg c6] at H
            exact absurd H (by simp)
        · rw [if_neg c5] at H
          exact absurd H (by simp)
      · rw [if_neg c4] at H
        have c4b0 : decide (x13_1 < (l0.length : Int)) = false := decide_eq_false c4
        clear c4
        by_cases c27 : (l0.length : Int) < (l1.length : Int)
        · rw [if_pos c27] at H
          have c27b0 : decide ((l0.length : Int) < (l1.length : Int)) = true := decide_eq_true c27
          have c27b1 : decide (l0.length < l1.length) = true := decide_eq_true (Int.ofNat_lt.mp c27)
          clear c27
          obtain rfl := Option.some.inj H
          go_wp2
          go_ret
          exact ⟨by first | rfl | (simp [errW_none,errW_some] <;> rfl) | (simp [*,errW_none,errW_some] <;> rfl),by repeat (first | (with_reducible first | exact HB.out | apply below_alloc | apply pw_below_drewN | apply below_drew1) | exact HB.out)⟩
        · rw [if_neg c27] at H
          have c27b0 : decide ((l0.length : Int) < (l1.length : Int)) = false := decide_eq_false c27
          have c27b1 : decide (l0.length < l1.length) = false := decide_eq_false (fun h => c27 (Int.ofNat_lt.mpr h))
          clear c27
          obtain rfl := Option.some.inj H
          go_wp2
          go_ret
          exact ⟨by first | rfl | (simp [errW_none,errW_some] <;> rfl) | (simp [*,errW_none,errW_some] <;> rfl),by repeat (first | (with_reducible first | exact HB.out | apply below_alloc | apply pw_below_drewN | apply below_drew1) | exact HB.out)⟩
end Go.Proofs.Ythfaimomcbmniaa.Z
end
section
namespace Go.Proofs.Ythfaimomcbmniaa.Z
open Go.RowKit Go.Proofs.YthfaimomcbmniaaW.PrintWords Go.Proofs.YthfaimomcbmniaaW.PrintLast Go.Proofs.YthfaimomcbmniaaW.PrintMore
attribute [local go_sem] max2_int min2_int max_two min_two max_three min_three max_four min_four
set_option linter.unusedVariables false
set_option linter.unusedSimpArgs false
def row_Compare.f (k : Nat) (l0 : List (S149)) (l1 : List (S149)) : Option (Int) := (slices_CompareFunc.f k l0 l1 4242134).bind fun t118 => (some t118)
theorem row_Compare.mono : ∀ a0 a1 k,LeO (row_Compare.f k a0 a1) (row_Compare.f (k + 1) a0 a1) := by
  intro a0 a1 k
  unfold row_Compare.f
  repeat' first
      | (with_reducible exact slices_CompareFunc.mono _ _ _ _)
      | (with_reducible exact LeO.refl _)
      | (with_reducible exact LeO.none _)
      | (with_reducible refine LeO.ite ?_ ?_)
      | (with_reducible refine LeO.bind ?_ (fun _ => ?_))
      | exact slices_CompareFunc.mono _ _ _ _
      | exact LeO.none _
      | refine LeO.ite ?_ ?_
      | refine LeO.bind ?_ (fun _ => ?_)
set_option maxHeartbeats 8000000 in
set_option maxRecDepth 100000 in
theorem row_Compare.calls (k : Nat) (A0 : Option Addr) (c0 : Nat) (l0 : List (S149)) (A1 : Option Addr) (c1 : Nat) (l1 : List (S149)) (r : Int) (w : World) (hr0 : Kd.C k149 w A0 l0.length l0) (hc0 : l0.length ≤ c0) (hr1 : Kd.C k149 w A1 l1.length l1) (hc1 : l1.length ≤ c1) (h : row_Compare.f k l0 l1 = some r) :
    Calls Try.prog 116 #[.slice A0 l0.length c0,.slice A1 l1.length c1] w fun e w' => e = .returned (.int .i64 r) ∧ Below w.heap.size w w' := by
  have HR0 := Aside0.mk hr0
  have HC0 := Aside0.mk hc0
  clear hr0 hc0
  have HR1 := Aside0.mk hr1
  have HC1 := Aside0.mk hc1
  clear hr1 hc1
  have HB := Aside0.mk (Below.refl w.heap.size w)
  have H : ((slices_CompareFunc.f k l0 l1 4242134).bind fun t118 => (some t118)) = some r := h
  clear h
  replace H := Option.bind_eq_some_iff.mp H
  obtain ⟨t118,A30,H⟩ := H
  replace H : (some t118) = some r := H
  have A3 := Aside0.mk A30
  clear A30
  obtain rfl := Option.some.inj H
  go_enter Try.func116,Try.ntmps116
  go_wp2_with (first | ((with_reducible refine gate_callee (f := 133) rfl ?_);refine goesL_ (some 7) rfl rfl Try.func133 (by kernel_rfl) rfl #[.slice A0 l0.length c0,.slice A1 l1.length c1,.func (.func 134) #[] #[]] rfl (by (try simp only [List.map_toArray,List.map_cons,List.map_nil]);first | done | rfl | (simp only [List.length_drop,List.length_take];rfl)) ?_;(with_reducible refine (slices_CompareFunc.calls k _ _ l0 _ _ l1 4242134 t118 _ ?side1 ?side2 ?side3 ?side4 A3.out).mono ?_);(case side1 => repeat (first | exact HR0.out | (with_reducible refine Kd.C_alloc ?_ _) | (with_reducible refine Kd.C_drewN ?_ _) | (with_reducible refine Kd.C_drew ?_)));(case side2 => exact HC0.out);(case side3 => repeat (first | exact HR1.out | (with_reducible refine Kd.C_alloc ?_ _) | (with_reducible refine Kd.C_drewN ?_ _) | (with_reducible refine Kd.C_drew ?_)));(case side4 => exact HC1.out);rintro e w4 ⟨rfl,hb⟩;refine ⟨_,rfl,?_⟩;have n0_ := Aside0.mk (below_step (by repeat (first | (with_reducible first | exact HB.out | apply below_alloc | apply pw_below_drewN | apply below_drew1) | exact HB.out)) hb);clear HB;have HB := n0_;clear n0_;(try clear hb);(try clear hb2);(try clear hk);(try clear hi)))
  go_ret
  exact ⟨by first | rfl | (simp [errW_none,errW_some] <;> rfl) | (simp [*,errW_none,errW_some] <;> rfl),by repeat (first | (with_reducible first | exact HB.out | apply below_alloc | apply pw_below_drewN | apply below_drew1) | exact HB.out)⟩
end Go.Proofs.Ythfaimomcbmniaa.Z
end
section
namespace Go.Proofs.Ythfaimomcbmniaa.Cmp
structure CmpLaw {α : Type} (c : α → α → Int) : Prop where
  lo : ∀ a b,-1 ≤ c a b
  anti : ∀ a b,c b a = - c a b
  le : ∀ a b d,c a b ≤ 0 → c b d ≤ 0 → c a d ≤ 0
variable {α : Type} {c : α → α → Int}
theorem CmpLaw.hi (h : CmpLaw c) (a b : α) : c a b ≤ 1 := by have := h.lo b a;have := h.anti b a;omega
theorem CmpLaw.self (h : CmpLaw c) (a : α) : c a a = 0 := by have := h.anti a a;omega
theorem CmpLaw.lt_le (h : CmpLaw c) {a b d : α} (h1 : c a b < 0) (h2 : c b d ≤ 0) : c a d < 0 := by
  have h3 := h.le a b d (by omega) h2
  rcases Int.lt_or_eq_of_le h3 with h4 | h4
  · exact h4
  · have h5 := h.anti a d
    have h6 := h.le b d a h2 (by omega)
    have h7 := h.anti a b
    omega
theorem CmpLaw.le_lt (h : CmpLaw c) {a b d : α} (h1 : c a b ≤ 0) (h2 : c b d < 0) : c a d < 0 := by
  have h3 := h.le a b d h1 (by omega)
  rcases Int.lt_or_eq_of_le h3 with h4 | h4
  · exact h4
  · have h5 := h.anti a d
    have h6 := h.le d a b (by omega) h1
    have h7 := h.anti b d
    omega
theorem CmpLaw.eq_left (h : CmpLaw c) {a b : α} (d : α) (h1 : c a b = 0) : c a d = c b d := by
  have a1 := h.anti a b
  have lo1 := h.lo a d
  have hi1 := h.hi a d
  have lo2 := h.lo b d
  have hi2 := h.hi b d
  rcases Int.lt_trichotomy (c b d) 0 with h2 | h2 | h2
  · have := h.le_lt (a := a) (b := b) (d := d) (by omega) h2
    omega
  · have h3 := h.le a b d (by omega) (by omega)
    have h4 := h.le d b a (by have := h.anti b d;omega) (by omega)
    have := h.anti a d
    omega
  · have h3 : c d b < 0 := by have := h.anti b d;omega
    have := h.lt_le h3 (show c b a ≤ 0 by omega)
    have := h.anti a d
    omega
def cmpI (a b : Int) : Int := if a < b then -1 else if b < a then 1 else 0
theorem cmpI_law : CmpLaw cmpI := by
  refine ⟨fun a b => ?_,fun a b => ?_,fun a b d h1 h2 => ?_⟩ <;> unfold cmpI at * <;> repeat' split at * <;> omega
theorem cmpI_eq {a b : Int} : cmpI a b = 0 ↔ a = b := by unfold cmpI;repeat' split <;> omega
theorem CmpLaw.on {β : Type} (f : β → α) (h : CmpLaw c) : CmpLaw (fun x y => c (f x) (f y)) := ⟨fun _ _ => h.lo _ _,fun _ _ => h.anti _ _,fun _ _ _ => h.le _ _ _⟩
def andThenC (c d : α → α → Int) (a b : α) : Int := if c a b = 0 then d a b else c a b
theorem CmpLaw.andThen {d : α → α → Int} (hc : CmpLaw c) (hd : CmpLaw d) : CmpLaw (andThenC c d) := by
  refine ⟨fun a b => ?_,fun a b => ?_,fun a b e h1 h2 => ?_⟩
  · unfold andThenC;split
    · exact hd.lo a b
    · exact hc.lo a b
  · unfold andThenC
    have h1 := hc.anti a b
    have h2 := hd.anti a b
    by_cases h : c a b = 0
    · rw [if_pos h,if_pos (by omega)];exact h2
    · rw [if_neg h,if_neg (by omega)];exact h1
  · unfold andThenC at *
    by_cases ha : c a b = 0
    · rw [if_pos ha] at h1
      rw [hc.eq_left e ha]
      by_cases hb : c b e = 0
      · rw [if_pos hb] at h2 ⊢
        exact hd.le _ _ _ h1 h2
      · rw [if_neg hb] at h2 ⊢
        exact h2
    · rw [if_neg ha] at h1
      have h3 : c b e ≤ 0 := by
        by_cases hb : c b e = 0
        · omega
        · rw [if_neg hb] at h2;exact h2
      have h4 := hc.lt_le (show c a b < 0 by omega) h3
      rw [if_neg (by omega)]
      omega
def lexC (c : α → α → Int) : List α → List α → Int
  | [],[] => 0
  | [],_ :: _ => -1
  | _ :: _,[] => 1
  | a :: as_,b :: bs => if c a b = 0 then lexC c as_ bs else c a b
theorem lexC_law (h : CmpLaw c) : CmpLaw (lexC c) := by
  have lo : ∀ a b,-1 ≤ lexC c a b := by
    intro a
    induction a with
    | nil => intro b;cases b <;> simp [lexC]
    | cons x a ih =>
      intro b
      cases b with
      | nil => simp [lexC]
      | cons y b =>
        simp only [lexC]
        split
        · exact ih b
        · exact h.lo x y
  have anti : ∀ a b,lexC c b a = - lexC c a b := by
    intro a
    induction a with
    | nil => intro b;cases b <;> simp [lexC]
    | cons x a ih =>
      intro b
      cases b with
      | nil => simp [lexC]
      | cons y b =>
        simp only [lexC]
        have h1 := h.anti x y
        by_cases h0 : c x y = 0
        · rw [if_pos h0,if_pos (by omega)];exact ih b
        · rw [if_neg h0,if_neg (by omega)];exact h1
  refine ⟨lo,anti,?_⟩
  intro a
  induction a with
  | nil =>
    intro b d h1 h2
    cases d with
    | nil => simp [lexC]
    | cons => simp [lexC]
  | cons x a ih =>
    intro b d h1 h2
    cases b with
    | nil => simp [lexC] at h1
    | cons y b =>
      cases d with
      | nil => simp [lexC] at h2
      | cons z d =>
        simp only [lexC] at h1 h2 ⊢
        by_cases hxy : c x y = 0
        · rw [if_pos hxy] at h1
          rw [h.eq_left z hxy]
          by_cases hyz : c y z = 0
          · rw [if_pos hyz] at h2 ⊢
            exact ih b d h1 h2
          · rw [if_neg hyz] at h2 ⊢
            exact h2
        · rw [if_neg hxy] at h1
          have h3 : c y z ≤ 0 := by
            by_cases hyz : c y z = 0
            · omega
            · rw [if_neg hyz] at h2;exact h2
          have h4 := h.lt_le (show c x y < 0 by omega) h3
          rw [if_neg (by omega)]
          omega
theorem lexC_eq (hc : ∀ a b,c a b = 0 → a = b) : ∀ a b,lexC c a b = 0 → a = b := by
  intro a
  induction a with
  | nil => intro b h;cases b with | nil => rfl | cons => simp [lexC] at h
  | cons x a ih =>
    intro b h
    cases b with
    | nil => simp [lexC] at h
    | cons y b =>
      simp only [lexC] at h
      by_cases h0 : c x y = 0
      · rw [if_pos h0] at h
        rw [hc _ _ h0,ih _ h]
      · rw [if_neg h0] at h
        exact absurd h h0
def cmpB (a b : List UInt8) : Int := lexC (fun x y : UInt8 => cmpI x.toNat y.toNat) a b
theorem cmpB_law : CmpLaw cmpB := lexC_law (cmpI_law.on fun x : UInt8 => (x.toNat : Int))
theorem cmpB_eq {a b : List UInt8} (h : cmpB a b = 0) : a = b := lexC_eq (fun x y hxy => by have := cmpI_eq.1 hxy;exact UInt8.toNat_inj.1 (by omega)) a b h
end Go.Proofs.Ythfaimomcbmniaa.Cmp
end
section
namespace Go.Proofs.Ythfaimomcbmniaa.Z
open Go.RowKit Go.Proofs.YthfaimomcbmniaaW.PrintWords Go.Proofs.YthfaimomcbmniaaW.PrintLast Go.Proofs.YthfaimomcbmniaaW.PrintMore Go.Proofs.Ythfaimomcbmniaa.Cmp
theorem wrap_id {x : Int} (h0 : -9223372036854775808 ≤ x) (h1 : x ≤ 9223372036854775807) : wrap64 x = x := by unfold wrap64;omega
theorem wrap_succ {n : Nat} {m : Nat} (h : n < m) (hm : m ≤ 9223372036854775807) : wrap64 ((n : Int) + 1) = ((n + 1 : Nat) : Int) := by rw [wrap_id (by omega) (by omega)];omega
end Go.Proofs.Ythfaimomcbmniaa.Z
end
section
namespace Go.Proofs.Ythfaimomcbmniaa.Z
set_option linter.unusedVariables false
set_option linter.unusedSimpArgs false
open Go.RowKit Go.Proofs.YthfaimomcbmniaaW.PrintWords Go.Proofs.YthfaimomcbmniaaW.PrintLast Go.Proofs.YthfaimomcbmniaaW.PrintMore Go.Proofs.Ythfaimomcbmniaa.Cmp
structure RowC (w : World) (A : Option Addr) (c : Nat) (r : List S149) : Prop where
  cap : r.length ≤ c
  row : Kd.C k149 w A r.length r
theorem RowC.below {w w1 : World} {A : Option Addr} {c : Nat} {r : List S149} (h : RowC w A c r) (hb : Below w.heap.size w w1) : RowC w1 A c r := ⟨h.cap,Kd.C_below h.row hb⟩
theorem RowC.max {w : World} {A : Option Addr} {c : Nat} {r : List S149} (h : RowC w A c r) : r.length ≤ 9223372036854775807 := h.row.2.1
theorem add_block (a : Addr) (n : Nat) : (a.add n).block = a.block := by unfold Addr.add;split <;> rfl
structure SameW (w w' : World) : Prop where
  heap : w'.heap = w.heap
  os : w'.os = w.os
  tape : w'.tape = w.tape
  output : w'.output = w.output
structure NextW (N : Nat) (w w' : World) : Prop where
  below : Below N w w'
  le : N ≤ w'.heap.size
theorem NextW.refl (w : World) : NextW w.heap.size w w := ⟨Below.refl _ _,Nat.le_refl _⟩
theorem NextW.next {N : Nat} {w w1 w2 W : World} (h : NextW N w w1) (hb : Below W.heap.size W w2) (e : SameW w1 W := by exact ⟨rfl,rfl,rfl,rfl⟩) : NextW N w w2 := by
  have h1 : Below N w W := ⟨e.os.trans h.below.os,e.tape.trans h.below.tape,e.output.trans h.below.output,by rw [e.heap];exact h.below.size,fun k hk => by rw [e.heap];exact h.below.block k hk⟩
  have hs : N ≤ W.heap.size := by rw [e.heap];exact h.le
  exact ⟨h1.trans (hb.mono hs),Nat.le_trans hs hb.size⟩
theorem NextW.nextN {N : Nat} {w w1 w2 W : World} (h : NextW N w w1) (hb : Below N W w2) (e : SameW w1 W := by exact ⟨rfl,rfl,rfl,rfl⟩) : NextW N w w2 := by
  have h1 : Below N w W := ⟨e.os.trans h.below.os,e.tape.trans h.below.tape,e.output.trans h.below.output,by rw [e.heap];exact h.below.size,fun k hk => by rw [e.heap];exact h.below.block k hk⟩
  have hs : N ≤ W.heap.size := by rw [e.heap];exact h.le
  exact ⟨h1.trans hb,Nat.le_trans hs hb.size⟩
theorem NextW.at_ {N : Nat} {w w1 W : World} (h : NextW N w w1) (e : SameW w1 W := by exact ⟨rfl,rfl,rfl,rfl⟩) : Below N w W :=
  ⟨e.os.trans h.below.os,e.tape.trans h.below.tape,e.output.trans h.below.output,by rw [e.heap];exact h.below.size,fun k hk => by rw [e.heap];exact h.below.block k hk⟩
theorem SameW.below {w W : World} (e : SameW w W) (N : Nat) : Below N w W := ⟨e.os,e.tape,e.output,by rw [e.heap];exact Nat.le_refl _,fun k _ => by rw [e.heap]⟩
theorem SameW.refl (w : World) : SameW w w := ⟨rfl,rfl,rfl,rfl⟩
theorem SameW.drew (w : World) : SameW w w.drew := ⟨rfl,rfl,rfl,rfl⟩
theorem SameW.drewN (w : World) (n : Nat) : SameW w (w.drewN n) := ⟨rfl,rfl,rfl,rfl⟩
theorem own_new2 {v1 v2 : Value} {N M : Nat} (h1 : ∀ k,v1.ownBlock = some k → N ≤ k) (hm : N ≤ M) (h : v2.ownBlock = v1.ownBlock ∨ ∃ b,v2.ownBlock = some b ∧ M ≤ b) : ∀ k,v2.ownBlock = some k → N ≤ k := fun k e => by
  rcases h with h | ⟨b,h2,h3⟩
  · exact h1 k (h ▸ e)
  · rw [h2] at e;injection e with e;omega
end Go.Proofs.Ythfaimomcbmniaa.Z
end
section
namespace Go.Proofs.Ythfaimomcbmniaa.Z
set_option linter.unusedVariables false
set_option linter.unusedSimpArgs false
abbrev Nm := ByteArray
abbrev Tn := ByteArray × ByteArray
def getT : List Tn → Nm → Option Nm
  | [],_ => none
  | p :: r,n => if p.1 = n then some p.2 else getT r n
theorem getT_cons (q : Tn) (r : List Tn) (n : Nm) : getT (q :: r) n = if q.1 = n then some q.2 else getT r n := rfl
def upL (L : List Tn) : Nat → Nm → List Nm
  | 0,_ => []
  | k + 1,n => match getT L n with
    | none => []
    | some p => n :: upL L k p
def Shallow (L : List Tn) : Prop := ∀ n,(upL L 6 n).length ≤ 5
def abv (L : List Tn) (n : Nm) : List Nm := upL L 6 n
theorem upL_stop (L : List Tn) : ∀ k n,(upL L k n).length < k → upL L (k + 1) n = upL L k n
  | 0,_,h => absurd h (Nat.not_lt_zero _)
  | k + 1,n,h => by
    unfold upL at h ⊢
    cases hg : getT L n with
    | none => rfl
    | some p =>
      rw [hg] at h
      show n :: upL L (k + 1) p = n :: upL L k p
      rw [upL_stop L k p (by simpa using h)]
theorem abv_none {L : List Tn} {n : Nm} (h : getT L n = none) : abv L n = [] := by
  unfold abv upL
  rw [h]
theorem abv_some {L : List Tn} {n p : Nm} (hs : Shallow L) (h : getT L n = some p) : abv L n = n :: abv L p := by
  have h1 : upL L 6 n = n :: upL L 5 p := by
    show (match getT L n with | none => [] | some p => n :: upL L 5 p) = _
    rw [h]
  have h2 := hs n
  rw [h1] at h2
  have h3 : (upL L 5 p).length < 5 := by simp at h2;omega
  unfold abv
  rw [h1,upL_stop L 5 p h3]
theorem abv_len {L : List Tn} (hs : Shallow L) (n : Nm) : (abv L n).length ≤ 5 := hs n
theorem getT_mem : ∀ (L : List Tn) (n p : Nm),getT L n = some p → (n,p) ∈ L
  | [],_,_,h => by cases h
  | q :: r,n,p,h => by
    unfold getT at h
    by_cases e : q.1 = n
    · rw [if_pos e] at h
      injection h with h
      subst e
      subst h
      exact List.mem_cons_self
    · rw [if_neg e] at h
      exact List.mem_cons_of_mem _ (getT_mem r n p h)
theorem getT_none : ∀ (L : List Tn) (n : Nm),getT L n = none ↔ ∀ p ∈ L,p.1 ≠ n
  | [],_ => by simp [getT]
  | q :: r,n => by
    unfold getT
    by_cases e : q.1 = n
    · rw [if_pos e]
      constructor
      · intro h;cases h
      · intro h;exact absurd e (h q List.mem_cons_self)
    · rw [if_neg e,getT_none r n]
      constructor
      · intro h p hp
        rcases List.mem_cons.1 hp with rfl | hp
        · exact e
        · exact h p hp
      · intro h p hp
        exact h p (List.mem_cons_of_mem _ hp)
theorem abv_head {L : List Tn} (hs : Shallow L) {n : Nm} (h : getT L n ≠ none) : ∃ r,abv L n = n :: r := by
  cases hg : getT L n with
  | none => exact absurd hg h
  | some p => exact ⟨_,abv_some hs hg⟩
def hasN (l : List Nm) (n : Nm) : Bool := l.any (fun x => decide (x = n))
theorem hasN_iff (l : List Nm) (n : Nm) : hasN l n = true ↔ n ∈ l := by
  unfold hasN
  rw [List.any_eq_true]
  constructor
  · rintro ⟨x,hx,h⟩
    have := of_decide_eq_true h
    subst this
    exact hx
  · intro h
    exact ⟨n,h,decide_eq_true rfl⟩
def undL (L : List Tn) (n : Nm) : List Nm := (L.map Prod.fst).filter (fun x => hasN (abv L x) n)
end Go.Proofs.Ythfaimomcbmniaa.Z
end
section
namespace Go.Proofs.YthfaimomcbmniaaW.PrintMore
set_option linter.unusedVariables false
open Go.RowKit Go.Proofs.YthfaimomcbmniaaW.PrintWords Go.Proofs.YthfaimomcbmniaaW.PrintLast
def SeqBox {α : Type} (F : Fence) (n : Nat) (P : Program) (g : Nat) (lb : Array Value) (encs : α → Array Value) (Kp : World → World → Prop) (S Sp : List α → Prop) (N Bn : Nat) (w : World) : Prop :=
  ∀ (l : Nat) (J Jx : List α → World → Prop) (W : World),Below w.heap.size w W → AbidesFrom W.heap.size J → (∀ s A v,J s A → J s (A.setCell ⟨Bn,0,none⟩ v)) →
    (∀ pre x W1,J pre W1 → pre.length < N → YieldAt F (n - 1) P l (encs x) W1 fun e W' =>
      (e = .returned (.bool true) ∧ J (pre ++ [x]) W' ∧ Kp W1 W') ∨ (e = .returned (.bool false) ∧ Jx (pre ++ [x]) W')) →
    J [] W →
    CallsIn F n P g (#[.func (.yield l) #[] #[]] ++ lb) W fun e W' => (∃ v,e = .returned v) ∧ ((∃ xs,S xs ∧ J xs W') ∨ (∃ pre,Sp pre ∧ Jx pre W'))
section
variable {F : Fence} {n : Nat} {P : Program} {w : World}
theorem range_box {α : Type} {g : Operand} {ps : Array Tmp} {assign body : Code} {Q : Exit → Act → World → Prop} {a : Act}
    (hro : F.round = none) (h1 : 1 ≤ n) {gf : Nat} {lb : Array Value} (hg : a.eval g = .func (.func gf) #[] lb) (hFg : F.fn gf) (eg : ∀ args w,(callFunc gf args).run P w = .ok (.enter gf args) w)
    {encs : α → Array Value} {Kp : World → World → Prop} {S Sp : List α → Prop} {N Bn : Nat} {w0 : World} (hseq : SeqBox F (n - 1) P gf lb encs Kp S Sp N Bn w0) (hBn : Bn < w.heap.size)
    (hKt : ∀ {A B C : World},Kp A B → Kp B C → Kp A C) (hKb : ∀ (W : World) (l : Nat) (o o' : Obj),w.heap.size ≤ l → W.heap[l]? = some o → o.isCells = false → o.isWalk = false → Kp W (W.putObj l o')) (hb0 : Below w0.heap.size w0 w) (hps : ∀ x,(encs x).size = ps.size)
    (I : List α → World → Prop) (Ix : Code → List α → World → Prop) (hI : OwnFrom w.heap.size I) (hIx : ∀ c,OwnFrom w.heap.size (Ix c)) (hIB : ∀ pre A v,I pre A → I pre (A.setCell ⟨Bn,0,none⟩ v)) (h0 : I [] w) (a₁ : α → Act)
    (hassign : ∀ (l : Nat) (x : α) (W : World) (K : Act → World → Prop),K (a₁ x) W →
      assign.wpIn (F.inRound l) (n - 1 - 1) P (Exit.then K (fun _ _ _ => False)) { tmps := (ps.zip (encs x)).foldl (fun t (p,v) => t.setIfInBounds p v) a.tmps,defers := [] } W)
    (hbody : ∀ (l : Nat) (pre : List α) (x : α) (W : World),I pre W → pre.length < N → body.wpIn (F.inRound l) (n - 1 - 1) P (ownPostG w.heap.size Kp I Ix (pre ++ [x]) W) (a₁ x) W)
    (hdone : ∀ (D : Nat) (xs : List α) (W : World),w.heap.size ≤ D → S xs → I xs W → W.heap[D]? = some (.deferred (some [])) → Q .normal { a with defers := { target := .collected D,args := #[] } :: a.defers } W)
    (hstop : ∀ (D : Nat) (c : Code) (pre : List α) (W : World),w.heap.size ≤ D → Sp pre → Ix c pre W → W.heap[D]? = some (.deferred (some [])) → c.wpIn F n P Q { a with defers := { target := .collected D,args := #[] } :: a.defers } W) :
    (Code.rangeFunc g ps assign body).wpIn F n P Q a w := by
  refine wpIn_rangeFunc fun fn hfn => ?_
  rw [hro]
  let R : LoopState → Option Code → Loop := fun st pe => { state := st,pending := pe,fn,tmps := a.tmps,params := ps,assign,body,defers := w.heap.size }
  obtain ⟨rec,hrec⟩ : ∃ rec,rec = R := ⟨_,rfl⟩
  obtain ⟨W1,hW1⟩ : ∃ W1,(w.alloc (.deferred (some []))).alloc (.loop (rec .ready none)) = W1 := ⟨_,rfl⟩
  have sz : W1.heap.size = w.heap.size + 2 := by rw [← hW1];simp
  have bL : W1.heap[w.heap.size + 1]? = some (.loop (rec .ready none)) := by
    have := World.alloc_heap_new (w.alloc (.deferred (some []))) (.loop (rec .ready none))
    rw [World.size_alloc] at this
    rw [← hW1];exact this
  have bD : W1.heap[w.heap.size]? = some (.deferred (some [])) := by
    rw [← hW1];exact (Below.heap_alloc _ _ _ (by simp)).trans (World.alloc_heap_new w _)
  have i1 : I [] W1 := by rw [← hW1];exact hI.alloc _ (hI.alloc _ h0)
  have b1 : Below w0.heap.size w0 W1 := by
    rw [← hW1];exact hb0.trans ((((Below.refl _ w).alloc (Nat.le_refl _) _).alloc (by simp) _).mono hb0.size)
  have turn : ∀ {A : World} {row : Option Nat},(∀ r,row = some r → W1.heap.size ≤ r ∧ ∃ o : Obj,A.heap[r]? = some o ∧ o.isWalk = true) → ∀ r,row = some r → w.heap.size ≤ r ∧ ∃ o : Obj,A.heap[r]? = some o ∧ o.isCells = false := fun hr r e => by
    obtain ⟨hB,o,ho,hw⟩ := hr r e
    exact ⟨by omega,o,ho,Obj.not_cells_of_walk hw⟩
  refine ⟨w.heap.size + 1,[{ target := .collected w.heap.size,args := #[] }],W1,{ target := .fn (.func gf) lb,args := #[.func (.yield (w.heap.size + 1)) #[] #[]] },W1,gf,
    #[.func (.yield (w.heap.size + 1)) #[] #[]] ++ lb,W1,by rw [← hW1,hrec];exact run_enterLoop_outer _ _ _ _ _,?_,?_,?_,fun _ => h1,?_⟩
  · simp only [resolve,hg]
    simp [go_sem]
  · intro f' hf'
    simp [Target.leads] at hf'
    subst hf'
    exact hFg
  · simp [invoke,go_sem,eg]
  refine (hseq (w.heap.size + 1)
    (fun pre W => I pre W ∧ W.heap[w.heap.size + 1]? = some (.loop (rec .ready none)) ∧ W.heap[w.heap.size]? = some (.deferred (some [])))
    (fun pre W => ∃ c,Ix c pre W ∧ W.heap[w.heap.size + 1]? = some (.loop (rec .done (some c))) ∧ W.heap[w.heap.size]? = some (.deferred (some [])))
    W1 b1
    (fun s A B row hs hg' hr => ⟨hI s A B row hs.1 hg' (turn hr),(grownBy_keeps hg' (fun r e => (hr r e).2) hs.2.1 rfl).trans hs.2.1,(grownBy_keeps hg' (fun r e => (hr r e).2) hs.2.2 rfl).trans hs.2.2⟩)
    (fun s A v hs => ⟨hIB s A v hs.1,(Below.heap_setCell A ⟨Bn,0,none⟩ v _ (show w.heap.size + 1 ≠ Bn by omega)).trans hs.2.1,(Below.heap_setCell A ⟨Bn,0,none⟩ v _ (show w.heap.size ≠ Bn by omega)).trans hs.2.2⟩)
    ?_ ⟨i1,bL,bD⟩).mono ?_
  · rintro pre x W ⟨hi,hl,hk⟩ hlen
    have lt : w.heap.size + 1 < W.heap.size := (Array.getElem?_eq_some_iff.1 hl).1
    have hy := run_yield (P := P) (args := encs x) hl (by rw [hrec];exact hps x)
    rw [hrec] at hy
    refine ⟨fn,_,assign,body,hy,roundIn_of_wpIn hfn (hassign _ x W _ ⟨_,run_beginRound hl (by rw [hrec]),?_⟩)⟩
    clear hy
    obtain ⟨V,hV⟩ : ∃ V,W.putObj (w.heap.size + 1) (.loop { rec .ready none with state := .busy }) = V := ⟨_,rfl⟩
    have vL : V.heap[w.heap.size + 1]? = some (.loop { rec .ready none with state := .busy }) := by rw [← hV];exact World.putObj_heap_same lt
    have vD : V.heap[w.heap.size]? = some (.deferred (some [])) := by rw [← hV];exact (World.putObj_heap_other (by omega)).trans hk
    have vK : Kp W V := by rw [← hV];exact hKb _ _ _ _ (by omega) hl rfl rfl
    have vI : I pre V := by rw [← hV];exact hI.putObj _ hi (by omega) hl rfl
    rw [hV]
    have fin : ∀ (jump : Option Code) (X : World),KeepsFrom w.heap.size V X → ∃ Y,Y = X.putObj (w.heap.size + 1) (.loop (rec (if jump.isNone then .ready else .done) jump)) ∧
        (Instr.endRound (w.heap.size + 1) jump).run P X = .ok (.bool jump.isNone) Y ∧ X.heap[w.heap.size + 1]? = some (.loop { rec .ready none with state := .busy }) ∧
        Y.heap[w.heap.size + 1]? = some (.loop (rec (if jump.isNone then .ready else .done) jump)) ∧ Y.heap[w.heap.size]? = some (.deferred (some [])) := fun jump X hk3 => by
      have hl3 := hk3.same _ _ (by omega) vL rfl
      refine ⟨_,rfl,?_,hl3,World.putObj_heap_same (Array.getElem?_eq_some_iff.1 hl3).1,(World.putObj_heap_other (by omega)).trans (hk3.same _ _ (Nat.le_refl _) vD rfl)⟩
      have := run_endRound (P := P) jump hl3
      rw [hrec] at this ⊢
      exact this
    refine wpIn_mono (hbody _ pre x V vI hlen) ?_
    have out : ∀ (c : Code) (X : World),KeepsFrom w.heap.size V X → Ix c (pre ++ [x]) X → ∃ v Y,(Instr.endRound (w.heap.size + 1) (some c)).run P X = .ok v Y ∧ ((Ending.returned v = .returned (.bool true) ∧ (I (pre ++ [x]) Y ∧ Y.heap[w.heap.size + 1]? = some (.loop (rec .ready none)) ∧ Y.heap[w.heap.size]? = some (.deferred (some []))) ∧ Kp W Y) ∨ (Ending.returned v = .returned (.bool false) ∧ ∃ c,Ix c (pre ++ [x]) Y ∧ Y.heap[w.heap.size + 1]? = some (.loop (rec .done (some c))) ∧ Y.heap[w.heap.size]? = some (.deferred (some [])))) := fun c X hk3 hi3 => by
      obtain ⟨Y,hY,hr,hl3,hl4,hk4⟩ := fin (some c) X hk3
      exact ⟨_,Y,hr,.inr ⟨rfl,c,by rw [hY];exact (hIx c).putObj _ hi3 (by omega) hl3 rfl,hl4,hk4⟩⟩
    rintro e a3 X hp
    cases e with
    | normal =>
      obtain ⟨hk3,hkp3,hi3⟩ := hp
      obtain ⟨Y,hY,hr,hl3,hl4,hk4⟩ := fin none X hk3
      exact ⟨_,Y,hr,.inl ⟨rfl,⟨by rw [hY];exact hI.putObj _ hi3 (by omega) hl3 rfl,hl4,hk4⟩,hKt vK (hKt hkp3 (by rw [hY];exact hKb _ _ _ _ (by omega) hl3 rfl rfl))⟩⟩
    | ret => exact out .ret X hp.1 hp.2
    | exit id => exact out (.exit id) X hp.1 hp.2
    | goto t => exact out (.goto t) X hp.1 hp.2
    | panic ch => exact hp.elim
    | outgrown => exact hp.elim
  · rintro e X ⟨⟨v,rfl⟩,(⟨xs,hS,hi,hl,hk⟩ | ⟨pre,hSp,c,hi,hl,hk⟩)⟩
    · exact ⟨none,_,by have := run_endLoop (P := P) hl (by rw [hrec];simp [R]);rw [hrec] at this;exact this,hdone _ xs _ (Nat.le_refl _) hS (hI.putObj _ hi (by omega) hl rfl) ((World.putObj_heap_other (by omega)).trans hk)⟩
    · exact ⟨some c,_,by have := run_endLoop (P := P) hl (by rw [hrec];simp [R]);rw [hrec] at this;exact this,hstop _ c pre _ (Nat.le_refl _) hSp ((hIx c).putObj _ hi (by omega) hl rfl) ((World.putObj_heap_other (by omega)).trans hk)⟩
end
end Go.Proofs.YthfaimomcbmniaaW.PrintMore
end
section
namespace Go.Proofs.Ythfaimomcbmniaa.Z
set_option linter.unusedVariables false
set_option linter.unusedSimpArgs false
open Go.RowKit Go.Shelf Go.Maps Go.Proofs.YthfaimomcbmniaaW.PrintWords Go.Proofs.YthfaimomcbmniaaW.PrintLast Go.Proofs.YthfaimomcbmniaaW.PrintMore Go.Proofs.Ythfaimomcbmniaa.Cmp
attribute [local go_sem] Oper.semAt_some
abbrev tT : Nat := 138
abbrev tM : Nat := 136
def lk (n : Nm) : Lit := .string n.data.toList
theorem lk_inj {a b : Nm} (h : lk a = lk b) : a = b := by
  unfold lk at h
  injection h with h
  cases a;cases b
  simpa using congrArg List.toArray h
def mapD (L : List Tn) : DataW Unit := .map (L.map fun p => (lk p.1,.lit (lk p.2)))
theorem lawS : Keyed Try.prog 9 := string_keyed Try.underlying9
structure TreeAt (w : World) (t b : Nat) (L : List Tn) : Prop where
  blk : w.heap[t]? = some (.cells #[.map (some b)] tT (0,0))
  map : w.ownsMap Try.prog 9 (plainElem Try.prog 9) b L.length (mapD L)
theorem TreeAt.below {w w1 : World} {t b : Nat} {L : List Tn} (h : TreeAt w t b L) (hb : Below w.heap.size w w1) : TreeAt w1 t b L :=
  ⟨(hb.block t (blk_lt h.blk)).trans h.blk,h.map.kept (row := none) ⟨hb.os,hb.tape,hb.output,hb.size,fun k hk _ => hb.block k hk⟩ (by simp)⟩
theorem TreeAt.stay {w w1 : World} {t b n₀ : Nat} {L : List Tn} (h : TreeAt w t b L) (hb : Below n₀ w w1) (ht : t < n₀) (hbn : b < n₀) : TreeAt w1 t b L := by
  refine ⟨(hb.block t ht).trans h.blk,?_⟩
  obtain ⟨es,clock,h1,h2⟩ := h.map
  exact ⟨es,clock,(hb.block b hbn).trans h1,h2⟩
theorem same_lk (a b : Nm) : (lk a).sameKey (lk b) = decide (a = b) := by
  unfold lk Lit.sameKey
  by_cases h : a = b
  · subst h;simp
  · rw [decide_eq_false h]
    apply Bool.eq_false_iff.2
    intro e
    exact h (lk_inj (by unfold lk;rw [eq_of_beq e]))
theorem find_mapD (n : Nm) : ∀ L : List Tn,(L.map fun p => (lk p.1,(DataW.lit (lk p.2) : DataW Unit))).find? (fun p => p.1.sameKey (lk n)) = (getT L n).map (fun p => (lk n,.lit (lk p)))
  | [] => rfl
  | q :: r => by
    unfold getT
    rw [List.map_cons,List.find?_cons]
    show (match (lk q.1).sameKey (lk n) with | true => _ | false => _) = _
    rw [same_lk]
    by_cases e : q.1 = n
    · rw [decide_eq_true e,if_pos e,e];rfl
    · rw [decide_eq_false e,if_neg e]
      exact find_mapD n r
theorem at_mapD (L : List Tn) (n : Nm) (z : DataW Unit) : (mapD L).atKey (lk n) z = match getT L n with | some p => .lit (lk p) | none => z := by
  unfold mapD DataW.atKey
  simp only [find_mapD]
  cases getT L n <;> rfl
theorem has_mapD (L : List Tn) (n : Nm) : Maps.has (mapD L) (lk n) = (getT L n).isSome := by
  unfold mapD
  rw [has_eq]
  induction L with
  | nil => rfl
  | cons q r ih =>
    rw [List.map_cons,List.any_cons,ih]
    show ((lk q.1).sameKey (lk n) || _) = _
    rw [same_lk]
    rw [getT_cons]
    by_cases e : q.1 = n
    · rw [decide_eq_true e,if_pos e];rfl
    · rw [decide_eq_false e,if_neg e];rfl
theorem zeroS (w : World) : (zeroValue 9).run Try.prog w = .ok (.string ⟨#[]⟩) w := Try.zeroValue9 w
theorem plainS (s : Nm) (h : s.size ≤ maxLen) : plainElem (H := Unit) Try.prog 9 (.string s) = some (.lit (lk s),[]) := plainElem_string Try.underlying9 h
def emp : Nm := ⟨#[]⟩
theorem TreeAt.look2 {w : World} {t b : Nat} {L : List Tn} (h : TreeAt w t b L) (n : Nm) (hn : n.size ≤ maxLen) :
    (Instr.lookup tM (.map (some b)) (.string n) true).run Try.prog w = .ok (.tuple #[.string ((getT L n).getD emp),.bool (getT L n).isSome]) w := by
  obtain ⟨v,ps,h1,h2⟩ := h.map.look_ok lawS Try.underlying136 (zeroS w) (plainS emp (by decide)) (Go.WideMaps.keyOf_string_mk Try.underlying9 hn)
  obtain ⟨s,rfl,h3,_⟩ := plainElem_string_inv Try.underlying9 h2
  have h4 : (mapD L).atKey (lk n) (.lit (lk emp)) = .lit (lk s) := congrArg Prod.fst h3
  rw [at_mapD] at h4
  have h5 : s = (getT L n).getD emp := by
    cases hg : getT L n with
    | none => rw [hg] at h4;exact (lk_inj (DataW.lit.inj h4)).symm
    | some p => rw [hg] at h4;exact (lk_inj (DataW.lit.inj h4)).symm
  have h6 : Maps.has (mapD L) (.string n.data.toList) = (getT L n).isSome := has_mapD L n
  rw [h6,h5] at h1
  exact h1
theorem TreeAt.look {w : World} {t b : Nat} {L : List Tn} (h : TreeAt w t b L) (n : Nm) (hn : n.size ≤ maxLen) :
    (Instr.lookup tM (.map (some b)) (.string n) false).run Try.prog w = .ok (.string ((getT L n).getD emp)) w := by
  obtain ⟨v,ps,h1,h2⟩ := h.map.lookup lawS Try.underlying136 (zeroS w) (plainS emp (by decide)) (Go.WideMaps.keyOf_string_mk Try.underlying9 hn)
  obtain ⟨s,rfl,h3,_⟩ := plainElem_string_inv Try.underlying9 h2
  have h4 : (mapD L).atKey (lk n) (.lit (lk emp)) = .lit (lk s) := congrArg Prod.fst h3
  rw [at_mapD] at h4
  have h5 : s = (getT L n).getD emp := by
    cases hg : getT L n with
    | none => rw [hg] at h4;exact (lk_inj (DataW.lit.inj h4)).symm
    | some p => rw [hg] at h4;exact (lk_inj (DataW.lit.inj h4)).symm
  rw [h5] at h1
  exact h1
def TreeV (w : World) (n₀ : Nat) (v : Value) (L : List Tn) : Prop := (v = .pointer none ∧ L = []) ∨ ∃ t b,v = .pointer (some ⟨t,0,none⟩) ∧ t < n₀ ∧ b < n₀ ∧ TreeAt w t b L
theorem TreeV.stay {w w1 : World} {n₀ : Nat} {v : Value} {L : List Tn} (h : TreeV w n₀ v L) (hb : Below n₀ w w1) : TreeV w1 n₀ v L := by
  rcases h with h | ⟨t,b,e,h1,h2,h3⟩
  · exact .inl h
  · exact .inr ⟨t,b,e,h1,h2,h3.stay hb h1 h2⟩
theorem TreeAt.v {w : World} {t b : Nat} {L : List Tn} (h : TreeAt w t b L) : TreeV w w.heap.size (.pointer (some ⟨t,0,none⟩)) L := .inr ⟨t,b,rfl,blk_lt h.blk,h.map.lt,h⟩
set_option maxHeartbeats 2000000 in
set_option maxRecDepth 100000 in
theorem ten_has {w : World} {n₀ : Nat} {v : Value} {L : List Tn} (h : TreeV w n₀ v L) (n : Nm) (hn : n.size ≤ maxLen) : Calls Try.prog 59 #[v,.string n] w fun e w' => e = .returned (.bool (getT L n).isSome) ∧ w' = w := by
  rcases h with ⟨rfl,rfl⟩ | ⟨t,b,rfl,_,_,h⟩
  · go_enter Try.func59,Try.ntmps59
    go_wp2
    go_ret
    exact ⟨rfl,rfl⟩
  · have x0 : w.cell? ⟨t,0,none⟩ = some (.map (some b)) := blk_cell h.blk 0
    have hl := h.look2 n hn
    clear h
    go_enter Try.func59,Try.ntmps59
    go_wp2
    go_ret
    exact ⟨rfl,rfl⟩
end Go.Proofs.Ythfaimomcbmniaa.Z
end
section
namespace Go.Proofs.Ythfaimomcbmniaa.Z
set_option linter.unusedVariables false
set_option linter.unusedSimpArgs false
open Go.RowKit Go.Shelf Go.Maps Go.Proofs.YthfaimomcbmniaaW.PrintWords Go.Proofs.YthfaimomcbmniaaW.PrintLast Go.Proofs.YthfaimomcbmniaaW.PrintMore Go.Proofs.Ythfaimomcbmniaa.Cmp
attribute [local go_sem] Oper.semAt_some
abbrev tP : Nat := 75
def encN (x : Nm) : Array Value := #[.string x]
structure KpU (n₀ Bt Bn : Nat) (W W' : World) : Prop where
  below : Below n₀ W W'
  bt : W'.heap[Bt]? = W.heap[Bt]?
  bn : W'.heap[Bn]? = W.heap[Bn]?
theorem KpU.trans {n₀ Bt Bn : Nat} {A B C : World} (h : KpU n₀ Bt Bn A B) (k : KpU n₀ Bt Bn B C) : KpU n₀ Bt Bn A C := ⟨h.below.trans k.below,k.bt.trans h.bt,k.bn.trans h.bn⟩
set_option maxHeartbeats 2000000 in
set_option maxRecDepth 100000 in
theorem ten_up (v : Value) (hv : v = .pointer none ∨ ∃ t : Nat,v = .pointer (some ⟨t,0,none⟩)) (n : Nm) (w : World) : Calls Try.prog 107 #[v,.string n] w fun e w' => e = .returned (.func (.func 129) #[] #[.pointer (some ⟨w.heap.size,0,none⟩),.pointer (some ⟨w.heap.size + 1,0,none⟩)]) ∧ w' = (w.alloc (.cells #[v] tP)).alloc (.cells #[.string n] 9) := by
  rcases hv with rfl | ⟨t,rfl⟩
  · go_enter Try.func107,Try.ntmps107
    go_wp2
    go_ret
    exact ⟨rfl,rfl⟩
  · go_enter Try.func107,Try.ntmps107
    go_wp2
    go_ret
    exact ⟨rfl,rfl⟩
def leftU (L : List Tn) (Bn : Nat) (w : World) : Nat := match w.cell? ⟨Bn,0,none⟩ with
  | some (.string s) => (abv L s).length
  | _ => 0
theorem leftU_eq {L : List Tn} {Bn : Nat} {w : World} {s : Nm} (h : w.cell? ⟨Bn,0,none⟩ = some (.string s)) : leftU L Bn w = (abv L s).length := by
  unfold leftU
  rw [h]
set_option maxRecDepth 100000 in
set_option maxHeartbeats 4000000 in
theorem up_walk (n l Bt Bn n₀ N : Nat) (v : Value) (L : List Tn) (nm : Nm) (hs : Shallow L) (hk : ∀ p ∈ L,p.2.size ≤ maxLen) (hnm : nm.size ≤ maxLen) (hne : Bt ≠ Bn) (hN : n₀ ≤ Bn) (hNN : (abv L nm).length ≤ N) (J Jx : List Nm → World → Prop)
    (hJB : ∀ s A u,J s A → J s (A.setCell ⟨Bn,0,none⟩ u)) (hJd : ∀ s A,J s A → J s A.drew)
    (hY : ∀ pre x W,J pre W → pre.length < N → YieldAt Fence.wide (n - 1) Try.prog l (encN x) W fun e W' =>
      (e = .returned (.bool true) ∧ J (pre ++ [x]) W' ∧ KpU n₀ Bt Bn W W') ∨ (e = .returned (.bool false) ∧ Jx (pre ++ [x]) W'))
    (W : World) (hT : TreeV W n₀ v L) (hBt : W.heap[Bt]? = some (.cells #[v] tP (0,0))) (hBn : W.heap[Bn]? = some (.cells #[.string nm] 9 (0,0))) (h0 : J [] W) :
    CallsIn Fence.wide n Try.prog 129 #[.func (.yield l) #[] #[],.pointer (some ⟨Bt,0,none⟩),.pointer (some ⟨Bn,0,none⟩)] W fun e W' => (∃ v,e = .returned v) ∧
      ((∃ ys,ys = abv L nm ∧ J ys W') ∨ (∃ pre,pre <+: abv L nm ∧ Jx pre W')) := by
  have hdd : ∀ k : Nat,(Fence.wide.depth.isSome = true → 1 ≤ k) := fun k h => by cases h
  have hwH : Fence.wide.fn 59 := trivial
  refine callsIn_of_wp Try.func129 rfl trivial ?_ rfl
  simp only [Try.ntmps129,List.size_toArray,List.length_cons,List.length_nil,Nat.reduceAdd,Nat.reduceSub,Array.replicate_succ,Array.replicate_zero,List.push_toArray,List.append_toArray,List.nil_append,List.cons_append]
  gi_wp2
  gi_loopw [4] (fun _ wr => ∃ (pre : List Nm) (x : Nm),Aside0 (abv L nm = pre ++ abv L x ∧ x.size ≤ maxLen) ∧ Aside0 (TreeV wr n₀ v L) ∧ Aside0 (wr.heap[Bt]? = some (.cells #[v] tP (0,0))) ∧ Aside0 (wr.heap[Bn]? = some (.cells #[.string x] 9 (0,0))) ∧ Aside0 (J pre wr)) (fun _ wr => leftU L Bn wr)
  case atStart => exact ⟨[],nm,⟨⟨rfl,hnm⟩⟩,⟨hT⟩,⟨hBt⟩,⟨hBn⟩,⟨h0⟩⟩
  case round =>
    rename World => wr
    clear hT hBt hBn h0
    obtain ⟨pre,x,HX,HT,HBT,HBN,HJ⟩ := hrel
    have b0 : wr.cell? ⟨Bt,0,none⟩ = some v := blk_cell HBT.out 0
    have b1 : wr.cell? ⟨Bn,0,none⟩ = some (.string x) := blk_cell HBN.out 0
    cases hg : getT L x with
    | none =>
      have HH := Aside0.mk (callsIn_wide (n := n - 1)|>.2 (ten_has HT.out x HX.out.2))
      rw [hg] at HH
      gi_wp2_with ((try refine ⟨hdd _,?_⟩);gi_at_call 59;refine HH.out.mono ?_;rintro e w' ⟨rfl,rfl⟩)
      refine ⟨(fun _ h => by cases h),?_⟩
      gi_wp2
      go_end0
      exact ⟨⟨_,rfl⟩,.inl ⟨pre,by rw [HX.out.1,abv_none hg,List.append_nil],HJ.out⟩⟩
    | some p =>
      have HH := Aside0.mk (callsIn_wide (n := n - 1)|>.2 (ten_has HT.out x HX.out.2))
      rw [hg] at HH
      have HG := Aside0.mk hg
      have HA := Aside0.mk (abv_some hs hg)
      have HP := Aside0.mk (hk _ (getT_mem L x p hg))
      obtain ⟨fn,tmps,assign,body,hy,hR⟩ := hY pre x wr HJ.out (by have h1 := congrArg List.length HX.out.1;rw [HA.out,List.length_append,List.length_cons] at h1;omega)
      dsimp only [encN] at hy
      gi_wp2_with (first
        | ((try refine ⟨hdd _,?_⟩);gi_at_call 59;refine HH.out.mono ?_;clear HH;rintro e w' ⟨rfl,rfl⟩)
        | ((try refine ⟨hdd _,?_⟩);refine hR.mono ?_;clear hR;rintro e W2 (⟨rfl,hJ2,hK2⟩ | ⟨rfl,hx2⟩)))
      · rcases HT.out with ⟨rfl,rfl⟩ | ⟨t,b,rfl,ht,hb,hA⟩
        · cases hg
        · have A2 := Aside0.mk (hA.stay hK2.below ht hb)
          have J2 := Aside0.mk hJ2
          have BT2 := Aside0.mk (hK2.bt.trans HBT.out)
          have BN2 := Aside0.mk (hK2.bn.trans HBN.out)
          have T2 := Aside0.mk (HT.out.stay hK2.below)
          have TN := Aside0.mk (show t ≠ Bn by omega)
          have c0 : W2.cell? ⟨Bt,0,none⟩ = some (.pointer (some ⟨t,0,none⟩)) := blk_cell BT2.out 0
          have c1 : W2.cell? ⟨Bn,0,none⟩ = some (.string x) := blk_cell BN2.out 0
          have c2 : W2.cell? ⟨t,0,none⟩ = some (.map (some b)) := blk_cell A2.out.blk 0
          have z0 : ∀ o,W2.frozen? ⟨Bn,o,none⟩ = false := fun o => blk_frozen BN2.out o
          have l0 := (A2.out.below (below_drew (Below.refl _ _))).look x HX.out.2
          have l1 := A2.out.look x HX.out.2
          rw [hg] at l0 l1
          clear hg hA hJ2 hK2 HT HBT HBN HJ b0 ht hb
          refine wpIn_wide.2 ?_
          go_region
          have BNE := Aside0.mk (show ((W2.setCell ⟨Bn,0,none⟩ (.string p)).drew).heap[Bn]? = some (.cells #[.string p] 9 (0,0)) from blk_put BN2.out 0 _ rfl)
          have BTE := Aside0.mk (show ((W2.setCell ⟨Bn,0,none⟩ (.string p)).drew).heap[Bt]? = some (.cells #[.pointer (some ⟨t,0,none⟩)] tP (0,0)) from (Below.heap_setCell W2 ⟨Bn,0,none⟩ (.string p) Bt hne).trans BT2.out)
          have HBE : Below n₀ W2 ((W2.setCell ⟨Bn,0,none⟩ (.string p)).drew) := below_drew ⟨rfl,rfl,rfl,by simp [World.setCell],fun k hk => Below.heap_setCell W2 ⟨Bn,0,none⟩ (.string p) k (show k ≠ Bn by omega)⟩
          have TE := Aside0.mk (T2.out.stay HBE)
          have JE := Aside0.mk (hJd _ _ (hJB _ _ (.string p) J2.out))
          have XE := Aside0.mk (show abv L nm = (pre ++ [x]) ++ abv L p ∧ p.size ≤ maxLen from ⟨by rw [HX.out.1,HA.out];simp,HP.out⟩)
          have M1 := leftU_eq (L := L) (blk_cell BNE.out 0)
          have M0 := leftU_eq (L := L) b1
          rw [HA.out,List.length_cons] at M0
          clear c0 c1 c2 z0 l0 l1 HBE
          generalize (W2.setCell ⟨Bn,0,none⟩ (.string p)).drew = WE at BNE BTE TE JE M1 ⊢
          go_roundw
          case rel => exact ⟨_,_,_,_,_,_,_,_,_,_,_,_,_,_,⟨pre ++ [x],p,XE,TE,BTE,BNE,JE⟩,rfl⟩
          case measure => rw [M1,M0];omega
      · go_end0
        exact ⟨⟨_,rfl⟩,.inr ⟨pre ++ [x],⟨abv L p,by rw [HX.out.1,HA.out];simp⟩,hx2⟩⟩
theorem up_seq (n Bt Bn n₀ : Nat) (v : Value) (L : List Tn) (nm : Nm) (w : World) (hs : Shallow L) (hk : ∀ p ∈ L,p.2.size ≤ maxLen) (hnm : nm.size ≤ maxLen) (hne : Bt ≠ Bn) (hN : n₀ ≤ Bn) (hT : TreeV w n₀ v L) (hn : n₀ ≤ w.heap.size)
    (hBt : w.heap[Bt]? = some (.cells #[v] tP (0,0))) (hBn : w.heap[Bn]? = some (.cells #[.string nm] 9 (0,0))) :
    SeqBox Fence.wide n Try.prog 129 #[.pointer (some ⟨Bt,0,none⟩),.pointer (some ⟨Bn,0,none⟩)] encN (KpU n₀ Bt Bn) (fun ys => ys = abv L nm) (fun pre => pre <+: abv L nm) (abv L nm).length Bn w := fun l J Jx W hW hJ hJB hY h0 =>
  up_walk n l Bt Bn n₀ (abv L nm).length v L nm hs hk hnm hne hN (Nat.le_refl _) J Jx hJB (fun s A h => hJ s A A.drew none h ⟨rfl,rfl,rfl,Nat.le_refl _,fun _ _ _ => rfl⟩ (fun r e => by cases e)) hY W (hT.stay (hW.mono hn))
    ((hW.block Bt (blk_lt hBt)).trans hBt) ((hW.block Bn (blk_lt hBn)).trans hBn) h0
end Go.Proofs.Ythfaimomcbmniaa.Z
end
section
namespace Go.Proofs.Ythfaimomcbmniaa.Z
set_option linter.unusedVariables false
set_option linter.unusedSimpArgs false
open Go.RowKit Go.Shelf Go.Maps Go.Proofs.YthfaimomcbmniaaW.PrintWords Go.Proofs.YthfaimomcbmniaaW.PrintLast Go.Proofs.YthfaimomcbmniaaW.PrintMore Go.Proofs.Ythfaimomcbmniaa.Cmp
attribute [local go_sem] Oper.semAt_some
theorem TreeV.ptr {w : World} {n₀ : Nat} {v : Value} {L : List Tn} (h : TreeV w n₀ v L) : v = .pointer none ∨ ∃ t : Nat,v = .pointer (some ⟨t,0,none⟩) := by
  rcases h with ⟨h,_⟩ | ⟨t,b,h,_⟩
  · exact .inl h
  · exact .inr ⟨t,h⟩
theorem kpU_b {n₀ Bt Bn : Nat} {w : World} (h1 : n₀ ≤ w.heap.size) (hBt : Bt < w.heap.size) (hBn : Bn < w.heap.size) (W : World) (l : Nat) (o o' : Obj) (hl : w.heap.size ≤ l) (h : W.heap[l]? = some o) (hc : o.isCells = false) (hw : o.isWalk = false) : KpU n₀ Bt Bn W (W.putObj l o') :=
  ⟨belowK_b h1 W l o o' hl h hc hw,World.putObj_heap_other (by omega),World.putObj_heap_other (by omega)⟩
theorem range_up {n : Nat} {g : Operand} {p : Tmp} {assign body : Code} {Q : Exit → Act → World → Prop} {a : Act} {w : World} {n₀ Bt Bn : Nat} {v : Value} {L : List Tn} {nm : Nm} (h1 : 1 ≤ n)
    (hg : a.eval g = .func (.func 129) #[] #[.pointer (some ⟨Bt,0,none⟩),.pointer (some ⟨Bn,0,none⟩)]) (hs : Shallow L) (hk : ∀ p ∈ L,p.2.size ≤ maxLen) (hnm : nm.size ≤ maxLen) (hne : Bt ≠ Bn) (hN : n₀ ≤ Bn) (hT : TreeV w n₀ v L) (hn : n₀ ≤ w.heap.size)
    (hBt : w.heap[Bt]? = some (.cells #[v] tP (0,0))) (hBn : w.heap[Bn]? = some (.cells #[.string nm] 9 (0,0)))
    (I : List Nm → World → Prop) (Ix : Code → List Nm → World → Prop) (hI : OwnFrom w.heap.size I) (hIx : ∀ c,OwnFrom w.heap.size (Ix c)) (hIB : ∀ pre A u,I pre A → I pre (A.setCell ⟨Bn,0,none⟩ u)) (h0 : I [] w) (a₁ : Nm → Act)
    (hassign : ∀ (l : Nat) (x : Nm) (W : World) (K : Act → World → Prop),K (a₁ x) W →
      assign.wpIn (Fence.wide.inRound l) (n - 1 - 1) Try.prog (Exit.then K (fun _ _ _ => False)) { tmps := ((#[p] : Array Tmp).zip (encN x)).foldl (fun t (p,v) => t.setIfInBounds p v) a.tmps,defers := [] } W)
    (hbody : ∀ (l : Nat) (pre : List Nm) (x : Nm) (W : World),I pre W → pre.length < (abv L nm).length → body.wpIn (Fence.wide.inRound l) (n - 1 - 1) Try.prog (ownPostG w.heap.size (KpU n₀ Bt Bn) I Ix (pre ++ [x]) W) (a₁ x) W)
    (hdone : ∀ (D : Nat) (W : World),w.heap.size ≤ D → I (abv L nm) W → W.heap[D]? = some (.deferred (some [])) → Q .normal { a with defers := { target := .collected D,args := #[] } :: a.defers } W)
    (hstop : ∀ (D : Nat) (c : Code) (pre : List Nm) (W : World),w.heap.size ≤ D → pre <+: abv L nm → Ix c pre W → W.heap[D]? = some (.deferred (some [])) → c.wpIn Fence.wide n Try.prog Q { a with defers := { target := .collected D,args := #[] } :: a.defers } W) :
    (Code.rangeFunc g #[p] assign body).wpIn Fence.wide n Try.prog Q a w :=
  range_box rfl h1 hg trivial (enters_of Try.func129 (by kernel_rfl) rfl) (up_seq (n - 1) Bt Bn n₀ v L nm w hs hk hnm hne hN hT hn hBt hBn) (blk_lt hBn) KpU.trans (kpU_b hn (blk_lt hBt) (blk_lt hBn)) (Below.refl _ _) (fun _ => rfl)
    I Ix hI hIx hIB h0 a₁ (fun l x W K hK => hassign l x W K hK) hbody (fun D xs W h1 h2 h3 h4 => by subst h2;exact hdone D W h1 h3 h4) hstop
theorem cells_own {W W' : World} {row : Option Nat} {k : Nat} {cs : Array Value} {q : TypeId} (hk : W.heap[k]? = some (.cells cs q (0,0))) (hg : W.grownBy W' row) {B : Nat} (hr : ∀ r,row = some r → B ≤ r ∧ ∃ o : Obj,W.heap[r]? = some o ∧ o.isCells = false) : W'.heap[k]? = some (.cells cs q (0,0)) :=
  (hg.block k (blk_lt hk) (fun e => by
    obtain ⟨_,o,ho,hc⟩ := hr k e.symm
    rw [hk] at ho
    cases ho
    cases hc)).trans hk
theorem below_set {N : Nat} {w W : World} (h : Below N w W) {p : Addr} (hp : N ≤ p.block) (u : Value) : Below N w (W.setCell p u) :=
  ⟨h.os,h.tape,h.output,by simpa [World.setCell] using h.size,fun k hk => (Below.heap_setCell W p u k (by omega)).trans (h.block k hk)⟩
set_option maxRecDepth 100000 in
set_option maxHeartbeats 4000000 in
theorem ten_depth {w : World} {v : Value} {L : List Tn} (h : TreeV w w.heap.size v L) (hs : Shallow L) (hk : ∀ p ∈ L,p.2.size ≤ maxLen) (nm : Nm) (hn : nm.size ≤ maxLen) :
    Calls Try.prog 52 #[v,.string nm] w fun e w' => e = .returned (.int .i64 ((abv L nm).length : Int)) ∧ Below w.heap.size w w' := by
  have HT := Aside0.mk h
  have hp := h.ptr
  have UP := Aside0.mk (fun w' => ten_up v hp nm w')
  obtain ⟨q,hq⟩ : ∃ q,v = .pointer q := by rcases hp with h | ⟨t,h⟩ <;> exact ⟨_,h⟩
  subst hq
  have HL := Aside0.mk (abv_len hs nm)
  have hdd : ∀ k : Nat,(Fence.wide.depth.isSome = true → 1 ≤ k) := fun k h => by cases h
  have hwU : Fence.wide.fn 107 := trivial
  clear h hp
  refine (callsIn_wide (n := 3)).1 ?_
  refine callsIn_of_wp_marks Try.func52 rfl trivial ?_ rfl
  simp only [Try.ntmps52,List.size_toArray,List.length_cons,List.length_nil,Nat.reduceAdd,Nat.reduceSub,Array.replicate_succ,Array.replicate_zero,List.push_toArray,List.append_toArray,List.nil_append,List.cons_append]
  gi_wp2_with ((try refine ⟨hdd _,?_⟩);gi_at_call 107;refine (callsIn_wide.2 (UP.out _)).mono ?_;rintro e w' ⟨rfl,rfl⟩)
  obtain ⟨W0,hW0⟩ : ∃ W0,(((w.alloc (.cells #[.int .i64 0] 3)).alloc (.cells #[.pointer q] tP)).alloc (.cells #[.string nm] 9)) = W0 := ⟨_,rfl⟩
  have sz : W0.heap.size = w.heap.size + 3 := by rw [← hW0];simp
  have hB0 : Below w.heap.size w W0 := by rw [← hW0];exact below_alloc (below_alloc (below_alloc (Below.refl _ _) _) _) _
  have k0 : W0.heap[w.heap.size]? = some (.cells #[.int .i64 0] 3 (0,0)) := by rw [← hW0];exact blk_alloc (blk_alloc (blk_new w _) _) _
  have k1 : W0.heap[w.heap.size + 1]? = some (.cells #[.pointer q] tP (0,0)) := by
    rw [← hW0]
    have := blk_new (w.alloc (.cells #[.int .i64 0] 3)) (.cells #[.pointer q] tP)
    rw [World.size_alloc] at this
    exact blk_alloc this _
  have k2 : W0.heap[w.heap.size + 1 + 1]? = some (.cells #[.string nm] 9 (0,0)) := by
    rw [← hW0]
    have := blk_new ((w.alloc (.cells #[.int .i64 0] 3)).alloc (.cells #[.pointer q] tP)) (.cells #[.string nm] 9)
    rw [World.size_alloc,World.size_alloc] at this
    exact this
  rw [hW0]
  have T0 := HT.out.stay hB0
  have HB0 := Aside0.mk hB0
  clear hW0
  refine range_up (n := 3) (n₀ := w.heap.size) (v := .pointer q) (L := L) (nm := nm) (by omega) rfl hs hk hn (by omega) (by omega) T0 (by omega) k1 k2
    (fun pre W => W.heap[w.heap.size]? = some (.cells #[.int .i64 (pre.length : Int)] 3 (0,0)) ∧ Below w.heap.size w W) (fun _ _ _ => False)
    (fun s A B row hs hg hr => ⟨cells_own hs.1 hg hr,hs.2.grown hg hs.2.size (fun k e => by have := (hr k e).1;omega)⟩) (fun _ _ _ _ _ hs _ _ => hs)
    (fun pre A u hs => ⟨(Below.heap_setCell A ⟨w.heap.size + 1 + 1,0,none⟩ u w.heap.size (show w.heap.size ≠ w.heap.size + 1 + 1 by omega)).trans hs.1,below_set hs.2 (p := ⟨w.heap.size + 1 + 1,0,none⟩) (show w.heap.size ≤ w.heap.size + 1 + 1 by omega) u⟩)
    ⟨k0,hB0⟩
    (fun x => { tmps := #[.pointer q,.string nm,undef,undef,.int .i64 0,.pointer (some ⟨w.heap.size,0,none⟩),.pointer q,.string nm,.func (.func 129) #[] #[.pointer (some ⟨w.heap.size + 1,0,none⟩),.pointer (some ⟨w.heap.size + 1 + 1,0,none⟩)],.string x,undef,undef,undef],defers := [] }) ?assign ?body ?done ?stop
  case assign =>
    intro l x W K hK
    simp only [encN]
    gi_wp2
    first | exact hK | simpa using hK
  case body =>
    rintro l pre x W ⟨hc,hB⟩ hlt
    have c0 := blk_cell hc 0
    have f0 := fun o => blk_frozen hc o
    have HLT := Aside0.mk hlt
    have HC := Aside0.mk hc
    have HB := Aside0.mk hB
    clear hc hB hlt
    have hlt : (pre.length : Int) < 1000 := by have := HLT.out;have := HL.out;omega
    gi_wp2
    have e1 : ((pre ++ [x]).length : Int) = (pre.length : Int) + 1 := by rw [List.length_append,List.length_singleton];omega
    refine ⟨(KeepsOthers.setCell _ _ _).from _,⟨below_set (Below.refl _ _) (p := ⟨w.heap.size,0,none⟩) (Nat.le_refl _) _,Below.heap_setCell W ⟨w.heap.size,0,none⟩ _ _ (show w.heap.size + 1 ≠ w.heap.size by omega),Below.heap_setCell W ⟨w.heap.size,0,none⟩ _ _ (show w.heap.size + 1 + 1 ≠ w.heap.size by omega)⟩,?_,below_set HB.out (p := ⟨w.heap.size,0,none⟩) (Nat.le_refl _) _⟩
    rw [e1]
    exact blk_put HC.out 0 _ rfl
  case done =>
    rintro D W hD ⟨hc,hB⟩ hK
    have c0 := blk_cell hc 0
    have HB := Aside0.mk hB
    have HK := Aside0.mk hK
    clear hc hB hK
    gi_wp2
    refine ⟨by simp,.inl ⟨_,_,rfl,run_takeDeferred HK.out,?_⟩⟩
    exact ⟨_,results_tmp rfl _ _ _,rfl,HB.out.trans (belowK_b (w := w) (Nat.le_refl _) W D _ _ (by omega) HK.out rfl rfl)⟩
  case stop =>
    rintro D c pre W _ _ h _
    exact h.elim
theorem eqS (x y : Nm) : (ByteArray.toList x == ByteArray.toList y) = decide (x = y) := by
  rw [ByteArray.toList_eq,ByteArray.toList_eq]
  by_cases h : x = y
  · subst h;simp
  · rw [decide_eq_false h]
    apply Bool.eq_false_iff.2
    intro e
    exact h (lk_inj (by unfold lk;rw [eq_of_beq e]))
set_option maxRecDepth 100000 in
set_option maxHeartbeats 4000000 in
theorem ten_below {w : World} {v : Value} {L : List Tn} (h : TreeV w w.heap.size v L) (hs : Shallow L) (hk : ∀ p ∈ L,p.2.size ≤ maxLen) (nm ab : Nm) (hn : nm.size ≤ maxLen) :
    Calls Try.prog 102 #[v,.string nm,.string ab] w fun e w' => e = .returned (.bool (hasN (abv L nm) ab)) ∧ Below w.heap.size w w' := by
  have HT := Aside0.mk h
  have hp := h.ptr
  have UP := Aside0.mk (fun w' => ten_up v hp nm w')
  obtain ⟨q,hq⟩ : ∃ q,v = .pointer q := by rcases hp with h | ⟨t,h⟩ <;> exact ⟨_,h⟩
  subst hq
  have hdd : ∀ k : Nat,(Fence.wide.depth.isSome = true → 1 ≤ k) := fun k h => by cases h
  have hwU : Fence.wide.fn 107 := trivial
  clear h hp
  refine (callsIn_wide (n := 3)).1 ?_
  refine callsIn_of_wp_marks Try.func102 rfl trivial ?_ rfl
  simp only [Try.ntmps102,List.size_toArray,List.length_cons,List.length_nil,Nat.reduceAdd,Nat.reduceSub,Array.replicate_succ,Array.replicate_zero,List.push_toArray,List.append_toArray,List.nil_append,List.cons_append]
  gi_wp2_with ((try refine ⟨hdd _,?_⟩);gi_at_call 107;refine (callsIn_wide.2 (UP.out _)).mono ?_;rintro e w' ⟨rfl,rfl⟩)
  obtain ⟨W0,hW0⟩ : ∃ W0,((((w.alloc (.cells #[.string ab] 9)).alloc (.cells #[.bool false] 4)).alloc (.cells #[.pointer q] tP)).alloc (.cells #[.string nm] 9)) = W0 := ⟨_,rfl⟩
  have sz : W0.heap.size = w.heap.size + 4 := by rw [← hW0];simp
  have hB0 : Below w.heap.size w W0 := by rw [← hW0];exact below_alloc (below_alloc (below_alloc (below_alloc (Below.refl _ _) _) _) _) _
  have k0 : W0.heap[w.heap.size]? = some (.cells #[.string ab] 9 (0,0)) := by rw [← hW0];exact blk_alloc (blk_alloc (blk_alloc (blk_new w _) _) _) _
  have k3 : W0.heap[w.heap.size + 1]? = some (.cells #[.bool false] 4 (0,0)) := by
    rw [← hW0]
    have := blk_new (w.alloc (.cells #[.string ab] 9)) (.cells #[.bool false] 4)
    rw [World.size_alloc] at this
    exact blk_alloc (blk_alloc this _) _
  have k1 : W0.heap[w.heap.size + 1 + 1]? = some (.cells #[.pointer q] tP (0,0)) := by
    rw [← hW0]
    have := blk_new ((w.alloc (.cells #[.string ab] 9)).alloc (.cells #[.bool false] 4)) (.cells #[.pointer q] tP)
    rw [World.size_alloc,World.size_alloc] at this
    exact blk_alloc this _
  have k2 : W0.heap[w.heap.size + 1 + 1 + 1]? = some (.cells #[.string nm] 9 (0,0)) := by
    rw [← hW0]
    have := blk_new (((w.alloc (.cells #[.string ab] 9)).alloc (.cells #[.bool false] 4)).alloc (.cells #[.pointer q] tP)) (.cells #[.string nm] 9)
    rw [World.size_alloc,World.size_alloc,World.size_alloc] at this
    exact this
  rw [hW0]
  have T0 := HT.out.stay hB0
  have HB0 := Aside0.mk hB0
  clear hW0
  refine range_up (n := 3) (n₀ := w.heap.size) (v := .pointer q) (L := L) (nm := nm) (by omega) rfl hs hk hn (by omega) (by omega) T0 (by omega) k1 k2
    (fun pre W => W.heap[w.heap.size]? = some (.cells #[.string ab] 9 (0,0)) ∧ W.heap[w.heap.size + 1]? = some (.cells #[.bool false] 4 (0,0)) ∧ Below w.heap.size w W ∧ hasN pre ab = false)
    (fun c pre W => c = .ret ∧ W.heap[w.heap.size + 1]? = some (.cells #[.bool true] 4 (0,0)) ∧ Below w.heap.size w W ∧ hasN pre ab = true)
    (fun s A B row hs hg hr => ⟨cells_own hs.1 hg hr,cells_own hs.2.1 hg hr,hs.2.2.1.grown hg hs.2.2.1.size (fun k e => by have := (hr k e).1;omega),hs.2.2.2⟩)
    (fun c s A B row hs hg hr => ⟨hs.1,cells_own hs.2.1 hg hr,hs.2.2.1.grown hg hs.2.2.1.size (fun k e => by have := (hr k e).1;omega),hs.2.2.2⟩)
    (fun pre A u hs => ⟨(Below.heap_setCell A ⟨w.heap.size + 1 + 1 + 1,0,none⟩ u w.heap.size (show w.heap.size ≠ w.heap.size + 1 + 1 + 1 by omega)).trans hs.1,(Below.heap_setCell A ⟨w.heap.size + 1 + 1 + 1,0,none⟩ u (w.heap.size + 1) (show w.heap.size + 1 ≠ w.heap.size + 1 + 1 + 1 by omega)).trans hs.2.1,below_set hs.2.2.1 (p := ⟨w.heap.size + 1 + 1 + 1,0,none⟩) (show w.heap.size ≤ w.heap.size + 1 + 1 + 1 by omega) u,hs.2.2.2⟩)
    ⟨k0,k3,hB0,rfl⟩
    (fun x => { tmps := #[.pointer q,.string nm,.string ab,undef,undef,.pointer (some ⟨w.heap.size,0,none⟩),.pointer (some ⟨w.heap.size + 1,0,none⟩),.string x,.pointer q,.string nm,.func (.func 129) #[] #[.pointer (some ⟨w.heap.size + 1 + 1,0,none⟩),.pointer (some ⟨w.heap.size + 1 + 1 + 1,0,none⟩)],.string x,undef,undef,undef],defers := [] }) ?assign ?body ?done ?stop
  case assign =>
    intro l x W K hK
    simp only [encN]
    gi_wp2
    first | exact hK | simpa using hK
  case body =>
    rintro l pre x W ⟨hc,hd,hB,hno⟩ hlt
    have c0 := blk_cell hc 0
    have d0 := blk_cell hd 0
    have f0 := fun o => blk_frozen hd o
    have HC := Aside0.mk hc
    have HD := Aside0.mk hd
    have HB := Aside0.mk hB
    have HNO := Aside0.mk hno
    clear hc hB hlt hd hno
    have hh : hasN (pre ++ [x]) ab = decide (x = ab) := by
      have := HNO.out
      unfold hasN at this ⊢
      rw [List.any_append,this]
      simp
    have HH := Aside0.mk hh
    clear hh
    by_cases hx : x = ab
    · have q0 : (ByteArray.toList x == ByteArray.toList ab) = true := by rw [eqS,decide_eq_true hx]
      have HX := Aside0.mk hx
      clear hx
      gi_wp2
      exact ⟨(KeepsOthers.setCell _ _ _).from _,rfl,blk_put HD.out 0 _ rfl,below_set HB.out (p := ⟨w.heap.size + 1,0,none⟩) (show w.heap.size ≤ w.heap.size + 1 by omega) _,by rw [HH.out,decide_eq_true HX.out]⟩
    · have q0 : (ByteArray.toList x == ByteArray.toList ab) = false := by rw [eqS,decide_eq_false hx]
      have HX := Aside0.mk hx
      clear hx
      gi_wp2
      exact ⟨KeepsFrom.refl _ _,⟨Below.refl _ _,rfl,rfl⟩,HC.out,HD.out,HB.out,by rw [HH.out,decide_eq_false HX.out]⟩
  case done =>
    rintro D W hD ⟨hc,hd,hB,hno⟩ hK
    have d0 := blk_cell hd 0
    have f0 := fun o => blk_frozen hd o
    have HK := Aside0.mk hK
    have HB := Aside0.mk hB
    have HD := Aside0.mk hd
    have HNO := Aside0.mk hno
    clear hc hd hB hno hK
    gi_wp2
    refine ⟨by simp,.inl ⟨_,_,rfl,run_takeDeferred ((Below.heap_setCell W ⟨w.heap.size + 1,0,none⟩ (.bool false) D (show D ≠ w.heap.size + 1 by omega)).trans HK.out),?_⟩⟩
    have hK2 := (Below.heap_setCell W ⟨w.heap.size + 1,0,none⟩ (.bool false) D (show D ≠ w.heap.size + 1 by omega)).trans HK.out
    have hE : ((W.setCell ⟨w.heap.size + 1,0,none⟩ (.bool false)).putObj D (Obj.deferred none)).heap[w.heap.size + 1]? = some (.cells #[.bool false] 4 (0,0)) := (World.putObj_heap_other (show w.heap.size + 1 ≠ D by omega)).trans (blk_put HD.out 0 _ rfl)
    have hc5 := blk_cell hE 0
    simp only [List.getElem?_toArray,List.getElem?_cons_zero] at hc5
    refine ⟨.bool false,?_,by rw [HNO.out],?_⟩
    · simp [results,Try.f102,go_sem,hc5]
    · exact (below_set HB.out (p := ⟨w.heap.size + 1,0,none⟩) (show w.heap.size ≤ w.heap.size + 1 by omega) _).trans (belowK_b (w := w) (Nat.le_refl _) _ D _ _ (by omega) hK2 rfl rfl)
  case stop =>
    rintro D c pre W hD hpre ⟨rfl,hd,hB,hyes⟩ hK
    have d0 := blk_cell hd 0
    have HK := Aside0.mk hK
    have HB := Aside0.mk hB
    have HD := Aside0.mk hd
    have HYE := Aside0.mk hyes
    have HPR := Aside0.mk hpre
    clear hd hB hyes hK hpre
    gi_wp2
    refine ⟨by simp,.inl ⟨_,_,rfl,run_takeDeferred HK.out,?_⟩⟩
    have hE : (W.putObj D (Obj.deferred none)).heap[w.heap.size + 1]? = some (.cells #[.bool true] 4 (0,0)) := (World.putObj_heap_other (show w.heap.size + 1 ≠ D by omega)).trans HD.out
    have hc5 := blk_cell hE 0
    simp only [List.getElem?_toArray,List.getElem?_cons_zero] at hc5
    have hin : hasN (abv L nm) ab = true := by
      obtain ⟨r,hr⟩ := HPR.out
      rw [← hr]
      have := HYE.out
      unfold hasN at this ⊢
      rw [List.any_append,this]
      rfl
    refine ⟨.bool true,?_,by rw [hin],?_⟩
    · simp [results,Try.f102,go_sem,hc5]
    · exact HB.out.trans (belowK_b (w := w) (Nat.le_refl _) _ D _ _ (by omega) HK.out rfl rfl)
end Go.Proofs.Ythfaimomcbmniaa.Z
end
section
namespace Go.Proofs.Ythfaimomcbmniaa.Z
set_option linter.unusedVariables false
set_option linter.unusedSimpArgs false
open Go.RowKit Go.Shelf Go.Maps Go.Proofs.YthfaimomcbmniaaW.PrintWords Go.Proofs.YthfaimomcbmniaaW.PrintLast Go.Proofs.YthfaimomcbmniaaW.PrintMore Go.Proofs.Ythfaimomcbmniaa.Cmp
attribute [local go_sem] Oper.semAt_some
abbrev tS : Nat := 59
def strV (x : Nm) : Value := .string x
def SRow (w : World) (base : Nat) (v : Value) (l : List Nm) : Prop := w.ownsRow base 9 1 v l.length (l.map strV)
theorem SRow.reads {w : World} {base : Nat} {v : Value} {l : List Nm} (h : SRow w base v l) : ∃ A c,v = .slice A l.length c ∧ l.length ≤ c ∧ Kd.C Kd.string w A l.length l := by
  obtain ⟨h1,h2⟩ := h
  rcases h2 with ⟨rfl,h2⟩ | ⟨g,cap,cur,rfl,_,hb,hle,hm,hs,ht⟩
  · have : l = [] := List.length_eq_zero_iff.1 h2
    subst this
    exact ⟨none,0,rfl,Nat.le_refl _,Kd.C_nil _ _⟩
  · refine ⟨_,_,rfl,hle,rfl,by unfold maxLen at hm;omega,fun _ => ⟨_,rfl,fun j p hp => ⟨[.string p],rfl,rfl,fun i u hu => ?_⟩⟩⟩
    cases i with
    | succ i => simp at hu
    | zero =>
      simp only [List.getElem?_cons_zero,Option.some.injEq] at hu
      subst hu
      have hj : j < l.length := (List.getElem?_eq_some_iff.1 hp).1
      rw [Addr.add_lit]
      have e : (0 + (j * Kd.string.sz + 0)) = j := by show 0 + (j * 1 + 0) = j;omega
      rw [e,blk_cell hb j]
      have h3 : (cur.toList.take (l.length * 1))[j]? = (l.map strV)[j]? := by rw [ht]
      rw [List.getElem?_take_of_lt (by omega),List.getElem?_map,hp] at h3
      simpa [strV] using h3
theorem SRow.lt {w : World} {base : Nat} {v : Value} {l : List Nm} (h : SRow w base v l) : ∀ k,v.ownBlock = some k → base ≤ k := by
  intro k hk
  rcases h.2 with ⟨rfl,_⟩ | ⟨g,cap,cur,rfl,hb,_⟩
  · simp [Value.ownBlock] at hk
  · have : g = k := by simpa [Value.ownBlock] using hk
    omega
theorem info9 : (Try.prog.info? 9).map (fun i => (i.zero,i.size,i.bytes)) = some (some (.string ⟨#[]⟩),1,16) := by kernel_rfl
def AppI (w : World) (n₁ : Nat) (pre : List Nm) (W : World) : Prop := (∃ v,Boxed W w.heap.size tS v ∧ SRow W w.heap.size v pre) ∧ Below n₁ w W
theorem SRow.set {w : World} {base : Nat} {v : Value} {l : List Nm} (h : SRow w base v l) {k : Nat} (hk : k < base) (u : Value) : SRow (w.setCell ⟨k,0,none⟩ u) base v l :=
  World.ownsRow.kept h (grownBy_setCell' w k u) (by
    cases hv : v.ownBlock with
    | none => exact .inl rfl
    | some j => exact .inr (fun e => by have := h.lt j hv;injection e with e;omega))
set_option maxRecDepth 100000 in
set_option maxHeartbeats 4000000 in
theorem ten_append {w : World} {n₁ Bt Bn : Nat} {q : Option Addr} {L : List Tn} {nm : Nm} (hs : Shallow L) (hk : ∀ p ∈ L,p.2.size ≤ maxLen) (hnm : nm.size ≤ maxLen) (hne : Bt ≠ Bn) (hN : n₁ ≤ Bn) (hT : TreeV w n₁ (.pointer q) L) (hn : n₁ ≤ w.heap.size)
    (hBt : w.heap[Bt]? = some (.cells #[.pointer q] tP (0,0))) (hBn : w.heap[Bn]? = some (.cells #[.string nm] 9 (0,0))) :
    Calls Try.prog 128 #[.slice none 0 0,.func (.func 129) #[] #[.pointer (some ⟨Bt,0,none⟩),.pointer (some ⟨Bn,0,none⟩)]] w fun e w' => ∃ v,e = .returned v ∧ SRow w' w.heap.size v (abv L nm) ∧ Below n₁ w w' := by
  have HLEN := Aside0.mk (abv_len hs nm)
  have hbt := blk_lt hBt
  have hbn := blk_lt hBn
  refine (callsIn_wide (n := 3)).1 ?_
  refine callsIn_of_wp_marks Try.func128 rfl trivial ?_ rfl
  simp only [Try.ntmps128,List.size_toArray,List.length_cons,List.length_nil,Nat.reduceAdd,Nat.reduceSub,Array.replicate_succ,Array.replicate_zero,List.push_toArray,List.append_toArray,List.nil_append,List.cons_append]
  gi_wp2
  obtain ⟨W0,hW0⟩ : ∃ W0,w.alloc (.cells #[.slice none 0 0] tS) = W0 := ⟨_,rfl⟩
  have sz : W0.heap.size = w.heap.size + 1 := by rw [← hW0];simp
  have hB0 : Below w.heap.size w W0 := by rw [← hW0];exact below_alloc (Below.refl _ _) _
  have k0 : Boxed W0 w.heap.size tS (.slice none 0 0) := by rw [← hW0];exact Boxed.new w tS _
  rw [hW0]
  have T0 := hT.stay (hB0.mono hn)
  have HB0 := Aside0.mk hB0
  clear hW0
  refine range_up (n := 3) (n₀ := n₁) (v := .pointer q) (L := L) (nm := nm) (by omega) rfl hs hk hnm hne hN T0 (by omega) ((hB0.block Bt hbt).trans hBt) ((hB0.block Bn hbn).trans hBn)
    (AppI w n₁) (fun _ _ _ => False)
    (fun s A B row hs hg hr => ⟨holdsRow_own w.heap.size w.heap.size tS 9 1 (fun pre : List Nm => pre.length) (fun pre => pre.map strV) (fun _ _ => True) s A B row (by obtain ⟨⟨v,h1,h2⟩,_⟩ := hs;exact ⟨v,h1,h2,trivial⟩) hg (fun r e => (hr r e).2) |> (fun ⟨v,h1,h2,_⟩ => ⟨v,h1,h2⟩),hs.2.grown hg (Nat.le_trans hn hs.2.size) (fun k e => by have := (hr k e).1;omega)⟩)
    (fun _ _ _ _ _ hs _ _ => hs)
    (fun pre A u hs => by
      obtain ⟨⟨v,h1,h2⟩,h3⟩ := hs
      exact ⟨⟨v,(Below.heap_setCell A ⟨Bn,0,none⟩ u w.heap.size (show w.heap.size ≠ Bn by omega)).trans h1,h2.set hbn u⟩,below_set h3 (p := ⟨Bn,0,none⟩) hN u⟩)
    ⟨⟨_,k0,World.ownsRow_nil _ _ _ _⟩,hB0.mono hn⟩
    (fun x => { tmps := #[.slice none 0 0,.func (.func 129) #[] #[.pointer (some ⟨Bt,0,none⟩),.pointer (some ⟨Bn,0,none⟩)],.pointer (some ⟨w.heap.size,0,none⟩),undef,.slice none 0 0,.string x,.func (.func 129) #[] #[.pointer (some ⟨Bt,0,none⟩),.pointer (some ⟨Bn,0,none⟩)],.string x,undef,undef,undef,undef,undef],defers := [] }) ?assign ?body ?done ?stop
  case assign =>
    intro l x W K hK
    simp only [encN]
    gi_wp2
    first | exact hK | simpa using hK
  case body =>
    rintro l pre x W ⟨⟨v,hv,hrow⟩,hB⟩ hlt
    obtain ⟨i0,hi,hz0,hz1,hz2⟩ := info_parts info9
    have hc := hv.cell
    have HLT := Aside0.mk (show pre.length < 5 by have := HLEN.out;omega)
    have hle : w.heap.size ≤ W.heap.size := Nat.le_of_lt hv.lt
    obtain ⟨Av,cv,rfl,_⟩ := hrow.reads
    obtain ⟨k,hkl⟩ : ∃ k,pre.length = k := ⟨_,rfl⟩
    have HKL := Aside0.mk hkl
    have HR := Aside0.mk (show W.ownsRow w.heap.size 9 1 (.slice Av k cv) k (pre.map strV) by rw [← hkl];exact hrow)
    rw [hkl] at hc hv
    have HV := Aside0.mk hv
    have HB := Aside0.mk hB
    clear hrow hkl hv hB hlt
    gi_wp2_with (gi_at_builtin;refine wpListIn_append_own _ rfl _ _ tS rfl w.heap.size 9 i0 (.string ⟨#[]⟩) 1 16 Try.underlying59 hi hz0 hz1 hz2 rfl (by decide) _ _ _ rfl (HR.out.alloc _) ⟨W.heap.size,0,none⟩ 1 1 [.string x] rfl rfl (cell_one_new _ _ _) (by simp [Value.oneCell']) (by have := HLT.out;have := HKL.out;unfold maxLen;omega) (by have := HLT.out;have := HKL.out;omega) (by simp;omega) ?_;intro v' w1 hown' hgrow _;obtain ⟨g',cap',rfl⟩ := ownsRow_succ hown';obtain ⟨hv1,hv2,hr2,hk2,hb2⟩ := HV.out.appended (by decide) HR.out hle (Nat.le_refl _) hown' hgrow;have hc1 := hv1.cell;have hf1 := hv1.frozen)
    have e1 : (pre ++ [x]).length = k + 1 := by rw [List.length_append,HKL.out];rfl
    have e2 : (pre ++ [x]).map strV = pre.map strV ++ [.string x] := by rw [List.map_append];rfl
    exact ⟨hk2.from _,⟨hb2.mono hn,hb2.block Bt hbt,hb2.block Bn hbn⟩,⟨_,hv2,by unfold SRow;rw [e1,e2];exact hr2⟩,HB.out.trans (hb2.mono hn)⟩
  case done =>
    rintro D W hD ⟨⟨v,hv,hrow⟩,hB⟩ hK
    obtain ⟨R,hR⟩ : ∃ R,abv L nm = R := ⟨_,rfl⟩
    have HR := Aside0.mk hR
    rw [hR] at hrow
    obtain ⟨Av,cv,rfl,_⟩ := hrow.reads
    have hc := hv.cell
    have HK := Aside0.mk hK
    have HB := Aside0.mk hB
    have HRW := Aside0.mk hrow
    clear hv hB hK hrow hR
    gi_wp2
    refine ⟨by simp,.inl ⟨_,_,rfl,run_takeDeferred HK.out,?_⟩⟩
    exact ⟨_,results_tmp rfl _ _ _,_,rfl,by rw [HR.out];exact ownsRow_putObj HRW.out _ HK.out rfl,HB.out.trans (belowK_b (w := w) hn W D _ _ (by omega) HK.out rfl rfl)⟩
  case stop =>
    rintro D c pre W _ _ h _
    exact h.elim
theorem World.ownsRow.lower {w : World} {base base' : Nat} {v : Value} {l : List Nm} (h : SRow w base v l) (hb : base' ≤ base) : SRow w base' v l := by
  obtain ⟨h1,h2⟩ := h
  refine ⟨h1,?_⟩
  rcases h2 with h2 | ⟨g,cap,cur,h3,h4,h5⟩
  · exact .inl h2
  · exact .inr ⟨g,cap,cur,h3,Nat.le_trans hb h4,h5⟩
set_option maxRecDepth 100000 in
set_option maxHeartbeats 4000000 in
theorem ten_collect {w : World} {n₁ Bt Bn : Nat} {q : Option Addr} {L : List Tn} {nm : Nm} (hs : Shallow L) (hk : ∀ p ∈ L,p.2.size ≤ maxLen) (hnm : nm.size ≤ maxLen) (hne : Bt ≠ Bn) (hN : n₁ ≤ Bn) (hT : TreeV w n₁ (.pointer q) L) (hn : n₁ ≤ w.heap.size)
    (hBt : w.heap[Bt]? = some (.cells #[.pointer q] tP (0,0))) (hBn : w.heap[Bn]? = some (.cells #[.string nm] 9 (0,0))) :
    Calls Try.prog 106 #[.func (.func 129) #[] #[.pointer (some ⟨Bt,0,none⟩),.pointer (some ⟨Bn,0,none⟩)]] w fun e w' => ∃ v,e = .returned v ∧ SRow w' w.heap.size v (abv L nm) ∧ Below n₁ w w' := by
  have AP := Aside0.mk (ten_append (q := q) hs hk hnm hne hN hT hn hBt hBn)
  clear hs hk hnm hne hN hT hn hBt hBn
  go_enter Try.func106,Try.ntmps106
  go_wp2_with (fail)
  refine AP.out.mono ?_
  rintro e w2 ⟨v,rfl,hrow,hb⟩
  obtain ⟨Av,cv,rfl,_⟩ := hrow.reads
  have HRW := Aside0.mk hrow
  have HB := Aside0.mk hb
  clear hrow hb
  go_wp2_with (fail)
  go_ret
  exact ⟨_,rfl,HRW.out,HB.out⟩
set_option maxRecDepth 100000 in
set_option maxHeartbeats 4000000 in
theorem ten_above {w : World} {v : Value} {L : List Tn} (h : TreeV w w.heap.size v L) (hs : Shallow L) (hk : ∀ p ∈ L,p.2.size ≤ maxLen) (nm : Nm) (hn : nm.size ≤ maxLen) :
    Calls Try.prog 51 #[v,.string nm] w fun e w' => ∃ v,e = .returned v ∧ SRow w' w.heap.size v (abv L nm) ∧ Below w.heap.size w w' := by
  have HT := Aside0.mk h
  have hp := h.ptr
  have UP := Aside0.mk (fun w' => ten_up v hp nm w')
  obtain ⟨q,hq⟩ : ∃ q,v = .pointer q := by rcases hp with h | ⟨t,h⟩ <;> exact ⟨_,h⟩
  subst hq
  clear h hp
  go_enter Try.func51,Try.ntmps51
  go_wp2_with (fail)
  refine (UP.out w).mono ?_
  rintro e w' ⟨rfl,rfl⟩
  obtain ⟨W0,hW0⟩ : ∃ W0,((w.alloc (.cells #[.pointer q] tP)).alloc (.cells #[.string nm] 9)) = W0 := ⟨_,rfl⟩
  have hB0 : Below w.heap.size w W0 := by rw [← hW0];exact below_alloc (below_alloc (Below.refl _ _) _) _
  have k1 : W0.heap[w.heap.size]? = some (.cells #[.pointer q] tP (0,0)) := by rw [← hW0];exact blk_alloc (blk_new w _) _
  have k2 : W0.heap[w.heap.size + 1]? = some (.cells #[.string nm] 9 (0,0)) := by
    rw [← hW0]
    have := blk_new (w.alloc (.cells #[.pointer q] tP)) (.cells #[.string nm] 9)
    rw [World.size_alloc] at this
    exact this
  rw [hW0]
  have CO := Aside0.mk (ten_collect (q := q) hs hk hn (show w.heap.size ≠ w.heap.size + 1 by omega) (show w.heap.size ≤ w.heap.size + 1 by omega) (HT.out.stay hB0) hB0.size k1 k2)
  have HB0 := Aside0.mk hB0
  clear hW0 k1 k2 hB0
  go_wp2_with (fail)
  refine CO.out.mono ?_
  rintro e w2 ⟨v,rfl,hrow,hb⟩
  obtain ⟨Av,cv,rfl,_⟩ := hrow.reads
  have HRW := Aside0.mk hrow
  have HB := Aside0.mk (HB0.out.trans hb)
  clear hrow hb
  go_wp2_with (fail)
  go_ret
  exact ⟨_,rfl,World.ownsRow.lower HRW.out HB0.out.size,HB.out⟩
end Go.Proofs.Ythfaimomcbmniaa.Z
end
section
namespace Go.Proofs
open Go.Shelf
def Try.lays190_ren : Go.Shelf.Ren := ⟨fun | 190 => 86 | 125 => 124 | 258 => 123 | 128 => 147 | 129 => 148 | 302 => 138 | 303 => 139 | 304 => 140 | 305 => 141 | 306 => 142 | 307 => 143 | 308 => 144 | 309 => 145 | 310 => 146 | 333 => 155 | 329 => 156 | 330 => 157 | 334 => 158 | 335 => 159 | 336 => 132 | 344 => 164 | n => n,fun | 31 => 59 | 9 => 9 | 3 => 3 | 46 => 150 | 0 => 0 | 51 => 174 | 53 => 176 | 4 => 4 | 183 => 168 | 182 => 167 | 131 => 101 | 5 => 5 | 218 => 181 | 222 => 185 | 228 => 188 | 229 => 189 | n => n,fun | n => n⟩
theorem Try.lays190 : Go.Proofs.Lays.n190 Try.prog Try.lays190_ren := {
  mixed := by kernel_rfl
  f125 := Try.func124.trans (congrArg some (by kernel_rfl))
  f128 := Try.func147.trans (congrArg some (by kernel_rfl))
  f129 := Try.func148.trans (congrArg some (by kernel_rfl))
  f190 := Try.func86.trans (congrArg some (by kernel_rfl))
  f258 := Try.func123.trans (congrArg some (by kernel_rfl))
  f302 := Try.func138.trans (congrArg some (by kernel_rfl))
  f303 := Try.func139.trans (congrArg some (by kernel_rfl))
  f304 := Try.func140.trans (congrArg some (by kernel_rfl))
  f305 := Try.func141.trans (congrArg some (by kernel_rfl))
  f306 := Try.func142.trans (congrArg some (by kernel_rfl))
  f307 := Try.func143.trans (congrArg some (by kernel_rfl))
  f308 := Try.func144.trans (congrArg some (by kernel_rfl))
  f309 := Try.func145.trans (congrArg some (by kernel_rfl))
  f310 := Try.func146.trans (congrArg some (by kernel_rfl))
  f329 := Try.func156.trans (congrArg some (by kernel_rfl))
  f330 := Try.func157.trans (congrArg some (by kernel_rfl))
  f333 := Try.func155.trans (congrArg some (by kernel_rfl))
  f334 := Try.func158.trans (congrArg some (by kernel_rfl))
  f335 := Try.func159.trans (congrArg some (by kernel_rfl))
  f336 := Try.func132.trans (congrArg some (by kernel_rfl))
  f344 := Try.func164.trans (congrArg some (by kernel_rfl))
  t0 := Try.underlying0
  a0 := Try.isAgg0
  z0 := Try.sizeOf0
  v0 := Try.zeroValue0
  t3 := Try.underlying3
  a3 := Try.isAgg3
  z3 := Try.sizeOf3
  v3 := Try.zeroValue3
  t4 := Try.underlying4
  a4 := Try.isAgg4
  z4 := Try.sizeOf4
  v4 := Try.zeroValue4
  t5 := Try.underlying5
  a5 := Try.isAgg5
  z5 := Try.sizeOf5
  v5 := Try.zeroValue5
  t9 := Try.underlying9
  a9 := Try.isAgg9
  z9 := Try.sizeOf9
  v9 := Try.zeroValue9
  t31 := Try.underlying59
  a31 := Try.isAgg59
  z31 := Try.sizeOf59
  v31 := Try.zeroValue59
  t46 := Try.underlying150
  a46 := Try.isAgg150
  z46 := Try.sizeOf150
  v46 := Try.zeroValue150
  t51 := Try.underlying174
  a51 := Try.isAgg174
  z51 := Try.sizeOf174
  v51 := Try.zeroValue174
  t53 := Try.underlying176
  a53 := Try.isAgg176
  z53 := Try.sizeOf176
  v53 := Try.zeroValue176
  t131 := Try.underlying101
  a131 := Try.isAgg101
  z131 := Try.sizeOf101
  v131 := Try.zeroValue101
  t182 := Try.underlying167
  a182 := Try.isAgg167
  z182 := Try.sizeOf167
  v182 := Try.zeroValue167
  t183 := Try.underlying168
  a183 := Try.isAgg168
  z183 := Try.sizeOf168
  v183 := Try.zeroValue168
  t218 := Try.underlying181
  a218 := Try.isAgg181
  z218 := Try.sizeOf181
  v218 := Try.zeroValue181
  t222 := Try.underlying185
  a222 := Try.isAgg185
  z222 := Try.sizeOf185
  v222 := Try.zeroValue185
  t228 := Try.underlying188
  a228 := Try.isAgg188
  z228 := Try.sizeOf188
  v228 := Try.zeroValue188
  t229 := Try.underlying189
  a229 := Try.isAgg189
  z229 := Try.sizeOf189
  v229 := Try.zeroValue189 }
open Go.Sort Go.RowKit in
theorem Try.slices_Sort_string (blk off cap : Nat) (ss : List (List UInt8)) (w : World) (hH : Holds encStr w blk off ss.toArray) (hblk : blk < w.heap.size) (hsz : ss.length < 4611686018427387904) :
    Calls Try.prog 86 #[.slice (some ⟨blk,off,none⟩) ss.length cap] w fun e w' =>
      e = .returned (.tuple #[]) ∧ ∃ n os,w' = grow (putRow encStr (Sort.ahead w n) blk off (ss.mergeSort fun x y => decide (x ≤ y)).toArray) os := Any.slices_Sort_string Try.lays190 blk off cap ss w hH hblk hsz
open Go.RowKit Go.Sort in
theorem Try.slices_Sort_string_none (p : Option Addr) (cap : Nat) (w : World) :
    Calls Try.prog 86 #[.slice p 0 cap] w fun e w' => e = .returned (.tuple #[]) ∧ w' = w := Any.slices_Sort_string_none Try.lays190 p cap w
end Go.Proofs
end
section
namespace Go.Proofs.Ythfaimomcbmniaa.Z
set_option linter.unusedVariables false
set_option linter.unusedSimpArgs false
open Go.RowKit Go.Shelf Go.Maps Go.Proofs.YthfaimomcbmniaaW.PrintWords Go.Proofs.YthfaimomcbmniaaW.PrintLast Go.Proofs.YthfaimomcbmniaaW.PrintMore Go.Proofs.Ythfaimomcbmniaa.Cmp
def toB (s : Nm) : List UInt8 := s.data.toList
def ofB (b : List UInt8) : Nm := ⟨b.toArray⟩
theorem of_to (s : Nm) : ofB (toB s) = s := by unfold ofB toB;cases s;simp
theorem to_of (b : List UInt8) : toB (ofB b) = b := by unfold ofB toB;simp
theorem toB_inj {a b : Nm} (h : toB a = toB b) : a = b := by rw [← of_to a,← of_to b,h]
theorem enc_to (s : Nm) : encStr (toB s) = strV s := by unfold encStr strV toB;cases s;simp
def sortN (l : List Nm) : List Nm := ((l.map toB).mergeSort leB).map ofB
theorem sortN_len (l : List Nm) : (sortN l).length = l.length := by unfold sortN;simp
theorem map_to_of (l : List (List UInt8)) : (l.map ofB).map toB = l := by rw [List.map_map];exact (List.map_congr_left (fun x _ => to_of x)).trans (List.map_id l)
theorem map_of_to (l : List Nm) : (l.map toB).map ofB = l := by rw [List.map_map];exact (List.map_congr_left (fun x _ => of_to x)).trans (List.map_id l)
theorem sortN_eq {l l' : List Nm} (hp : l.Perm l') (hs : l'.Pairwise (fun a b => toB a ≤ toB b)) : sortN l = l' := by
  have tr : ∀ a b c : List UInt8,leB a b = true → leB b c = true → leB a c = true := fun a b c h1 h2 => by simp only [leB,decide_eq_true_eq] at *;exact List.le_trans h1 h2
  have tot : ∀ a b : List UInt8,(leB a b || leB b a) = true := fun a b => by simp only [leB,Bool.or_eq_true,decide_eq_true_eq];exact List.le_total a b
  have h1 : (l.map toB).mergeSort leB = l'.map toB := by
    refine List.Perm.eq_of_pairwise (le := fun a b => leB a b = true) (fun a b _ _ h1 h2 => ?_) (List.pairwise_mergeSort tr tot (l.map toB)) ?_ ((List.mergeSort_perm (l.map toB) leB).trans (hp.map toB))
    · simp only [leB,decide_eq_true_eq] at h1 h2
      exact List.le_antisymm h1 h2
    · exact List.pairwise_map.2 (hs.imp (fun h => by simpa [leB] using h))
  unfold sortN
  rw [h1,map_of_to]
theorem before_lt : ∀ a b : List UInt8,bytesBefore a b = true → a < b
  | [],[],h => by cases h
  | [],b :: s,_ => List.nil_lt_cons b s
  | a :: r,[],h => by cases h
  | a :: r,b :: s,h => by
    rw [List.cons_lt_cons_iff]
    unfold bytesBefore at h
    rw [Bool.or_eq_true,Bool.and_eq_true] at h
    rcases h with h | ⟨h1,h2⟩
    · exact .inl (of_decide_eq_true h)
    · exact .inr ⟨eq_of_beq h1,before_lt r s h2⟩
theorem TreeAt.rise {w : World} {t b : Nat} {L : List Tn} (h : TreeAt w t b L) : L.Pairwise (fun p q => toB p.1 < toB q.1) := by
  obtain ⟨es,h1,h2,_⟩ := h.map.canon lawS
  unfold mapD at h1
  injection h1 with h1
  rw [← h1] at h2
  exact (List.pairwise_map.1 h2).imp (fun h => before_lt _ _ h)
theorem TreeAt.names {w : World} {t b : Nat} {L : List Tn} (h : TreeAt w t b L) : (L.map Prod.fst).Nodup :=
  List.pairwise_map.2 (h.rise.imp (fun {p q} h e => by rw [e] at h;exact List.lt_irrefl _ h))
theorem undL_rise {w : World} {t b : Nat} {L : List Tn} (h : TreeAt w t b L) (n : Nm) : (undL L n).Pairwise (fun a b => toB a ≤ toB b) := by
  unfold undL
  refine List.Pairwise.filter _ (List.pairwise_map.2 (h.rise.imp (fun h => List.le_of_lt h)))
set_option maxHeartbeats 2000000 in
set_option maxRecDepth 100000 in
theorem srow_sort {w : World} {base : Nat} {v : Value} {l : List Nm} (h : SRow w base v l) (hl : l.length ≤ 1000000) :
    Calls Try.prog 86 #[v] w fun e w' => e = .returned (.tuple #[]) ∧ SRow w' base v (sortN l) ∧ w.grownBy w' v.ownBlock := by
  obtain ⟨h1,h2⟩ := h
  rcases h2 with ⟨rfl,h2⟩ | ⟨g,cap,cur,rfl,hb,hg,hle,hm,hs,ht⟩
  · have : l = [] := List.length_eq_zero_iff.1 h2
    subst this
    refine (Try.slices_Sort_string_none none 0 w).mono ?_
    rintro e w' ⟨rfl,rfl⟩
    exact ⟨rfl,⟨by simp [sortN],.inl ⟨rfl,by simp [sortN]⟩⟩,⟨rfl,rfl,rfl,Nat.le_refl _,fun _ _ _ => rfl⟩⟩
  · have e0 : (l.map toB).length = l.length := List.length_map _
    have ht2 : cur.toList.take (l.map toB).length = (l.map toB).map encStr := by
      rw [e0,List.map_map]
      rw [Nat.mul_one] at ht
      exact ht.trans (List.map_congr_left (fun x _ => (enc_to x).symm))
    have hc := Try.slices_Sort_string g 0 cap (l.map toB) w (holds_of_block hg ht2) (blk_lt hg) (by rw [e0];omega)
    rw [e0] at hc
    refine hc.mono ?_
    rintro e w' ⟨rfl,n,os,rfl⟩
    refine ⟨rfl,?_,grownBy_sorted _⟩
    have ho := ownsRow_sorted (base := base) (n := n) (os := os) (e := 9) (ss := l.map toB) (ts := (l.map toB).mergeSort leB) (by simp) hb hg (by rw [e0];exact hle) hm hs
    unfold SRow
    rw [sortN_len]
    rw [e0] at ho
    have e1 : (sortN l).map strV = ((l.map toB).mergeSort leB).map encStr := by
      unfold sortN
      rw [List.map_map]
      exact List.map_congr_left (fun x _ => by show strV (ofB x) = encStr x;rw [← enc_to,to_of])
    rw [e1]
    exact ho
end Go.Proofs.Ythfaimomcbmniaa.Z
end
section
namespace Go.Proofs.Ythfaimomcbmniaa.Z
set_option linter.unusedVariables false
set_option linter.unusedSimpArgs false
open Go.RowKit Go.Shelf Go.Maps Go.Proofs.YthfaimomcbmniaaW.PrintWords Go.Proofs.YthfaimomcbmniaaW.PrintLast Go.Proofs.YthfaimomcbmniaaW.PrintMore Go.Proofs.Ythfaimomcbmniaa.Cmp
noncomputable abbrev RvS : Value → Option (DataW Unit × List MemPlace) := plainElem Try.prog 9
theorem invKS : ∀ key kl,keyOf Try.prog 9 key = some kl → ∃ x : Nm,key = .string x := fun key kl h => by
  obtain ⟨x,hx,_⟩ := Maps.keyOf_str Try.underlying9 h
  exact ⟨_,hx⟩
theorem invVS : ∀ (v : Value) (y : DataW Unit × List MemPlace),RvS v = some y → ∃ c : Nm,v = .string c := fun v y h => by
  obtain ⟨s,rfl,_⟩ := plainElem_string_inv Try.underlying9 h
  exact ⟨s,rfl⟩
theorem keyS {x : Nm} {kl : Lit} (h : keyOf Try.prog 9 (.string x) = some kl) : kl = .string (toB x) ∧ x.size ≤ maxLen := by
  obtain ⟨y,hy,rfl,hl⟩ := Maps.keyOf_str Try.underlying9 h
  have : y = toB x := by
    have h1 : encStr (toB x) = encStr y := by rw [enc_to];exact hy
    exact (encStr_inj h1).symm
  subst this
  refine ⟨rfl,?_⟩
  unfold toB at hl
  rw [Array.length_toList] at hl
  exact hl
theorem strKeys_mapD (L : List Tn) : strKeys (mapD L) = (L.map Prod.fst).map toB := by
  show (L.map fun p => (lk p.1,(DataW.lit (lk p.2) : DataW Unit))).map (fun p => strOf p.1) = _
  rw [List.map_map,List.map_map]
  rfl
theorem TreeAt.grown {w w1 : World} {t b : Nat} {L : List Tn} {row : Option Nat} (h : TreeAt w t b L) (hg : w.grownBy w1 row) (ht : some t ≠ row) (hb : some b ≠ row) : TreeAt w1 t b L :=
  ⟨(hg.block t (blk_lt h.blk) ht).trans h.blk,h.map.kept hg hb⟩
theorem below_none {w w1 : World} (h : Below w.heap.size w w1) : w.grownBy w1 none := ⟨h.os,h.tape,h.output,h.size,fun k hk _ => h.block k hk⟩
structure UnderR (w wr : World) (b t : Nat) (L : List Tn) (nm : Nm) (ov : Value) (left : Lit → Bool) (cnt : Nat) (ms : List Nm) : Prop where
  rg : wr.ranges Try.prog 9 RvS b w.heap.size L.length (mapD L) left cnt
  col : Collected (mapD L) left (ms.map toB)
  row : SRow wr w.heap.size ov (ms.filter fun x => hasN (abv L x) nm)
  below : Below w.heap.size w wr
  tree : TreeAt wr t b L
  le : w.heap.size ≤ wr.heap.size
  cnt : ms.length + cnt ≤ L.length
theorem size_mapD (L : List Tn) : Maps.size (mapD L) = L.length := by
  unfold mapD
  rw [size_eq,List.length_map]
set_option maxHeartbeats 8000000 in
set_option maxRecDepth 100000 in
theorem ten_under {w : World} {t b : Nat} {L : List Tn} (h : TreeAt w t b L) (hs : Shallow L) (hk : ∀ p ∈ L,p.2.size ≤ maxLen) (hL : L.length ≤ 1000) (nm : Nm) :
    Calls Try.prog 54 #[.pointer (some ⟨t,0,none⟩),.string nm] w fun e w' => ∃ v,e = .returned v ∧ SRow w' w.heap.size v (undL L nm) ∧ Below w.heap.size w w' := by
  have HA := Aside0.mk h
  have x0 : w.cell? ⟨t,0,none⟩ = some (.map (some b)) := blk_cell h.blk 0
  clear h
  go_enter Try.func54,Try.ntmps54
  go_wp2_with (first | (at_range;refine wpList_range_own w rfl _ tM rfl 9 9 lawS Try.underlying136 RvS b L.length (mapD L) rfl HA.out.map ?_;intro w0 hrg0 hg0 hs0))
  go_frame
  have U0 : UnderR w w0 b t L nm (.slice none 0 0) (Maps.has (mapD L)) (Maps.size (mapD L)) [] := ⟨hrg0,Collected.start _,World.ownsRow_nil _ _ _ _,(Below.refl _ _).grown hg0 (Nat.le_refl _) (fun k e => by cases e),HA.out.grown hg0 (by simp) (by simp),by omega,by rw [size_mapD];simp⟩
  have HU0 := Aside0.mk U0
  clear U0 hrg0 hg0 hs0
  go_loopw [5,14] (fun ov _ wr => ∃ left cnt ms,Aside0 (UnderR w wr b t L nm ov left cnt ms)) (fun _ _ wr => wr.rangeLeft b w.heap.size)
  case atStart => exact ⟨_,_,_,HU0⟩
  case round =>
    rename World => wr
    clear HU0 x0
    obtain ⟨left,cnt,ms,HU⟩ := hrel
    obtain ⟨KL,hKL⟩ : ∃ KL,ms.filter (fun x => hasN (abv L x) nm) = KL := ⟨_,rfl⟩
    have HKL := Aside0.mk hKL
    have hrow := HU.out.row
    rw [hKL] at hrow
    obtain ⟨Av,cv,rfl,_⟩ := hrow.reads
    have KLN := Aside0.mk (show KL.length ≤ 1000 by rw [← hKL];have h1 := List.length_filter_le (fun x => hasN (abv L x) nm) ms;have := HU.out.cnt;omega)
    have HR := Aside0.mk hrow
    clear hKL hrow
    go_wp2_with (first | (at_next;refine wpList_next_ranges wr rfl _ rfl 9 lawS RvS Value.string Value.string invKS invVS b w.heap.size L.length (mapD L) left cnt rfl HU.out.rg ?_ ?_))
    · intro hc0 hl0
      have HE := Aside0.mk (show sortN KL = undL L nm by
        have hp := HU.out.col.perm HU.out.rg.owns lawS Try.underlying9 hl0
        rw [strKeys_mapD] at hp
        have hp2 := hp.map ofB
        rw [map_of_to,map_of_to] at hp2
        rw [← HKL.out]
        exact sortN_eq (hp2.filter _) (undL_rise HA.out nm))
      have HB := Aside0.mk HU.out.below
      have SR := Aside0.mk (srow_sort HR.out (by have := KLN.out;omega))
      clear hc0 hl0 HU
      go_wp2_with (fail)
      refine SR.out.mono ?_
      rintro e w2 ⟨rfl,hrow2,hg2⟩
      have HR2 := Aside0.mk hrow2
      have HB2 := Aside0.mk (HB.out.grown hg2 HB.out.size (fun k e => HR.out.lt k e))
      clear hrow2 hg2
      go_wp2_with (fail)
      go_ret
      exact ⟨_,rfl,by rw [← HE.out];have h1 := HR2.out;exact h1,HB2.out⟩
    · intro x c kl yd yp w1 cnt1 hkey hlk hv hat hrg1 hlt1 hg1 hs1 hen
      obtain ⟨rfl,hx⟩ := keyS hkey
      have A1 := Aside0.mk (HU.out.tree.grown hg1 (fun e => by have h1 := blk_lt HA.out.blk;injection e with e;omega) (fun e => hrg1.ne (by injection e with e;exact e.symm)))
      have C1 := Aside0.mk (show Collected (mapD L) (fun z => left z && !z.sameKey (.string (toB x))) ((ms ++ [x]).map toB) by rw [List.map_append];exact HU.out.col.step hlk hat)
      have B1 := Aside0.mk (HU.out.below.grown hg1 HU.out.le (fun k e => by cases e;exact Nat.le_refl _))
      have R1 := Aside0.mk (show SRow w1 w.heap.size (.slice Av KL.length cv) KL from World.ownsRow.kept HR.out hg1 (.inr (fun e => row_ne_iter HR.out HU.out.rg e.symm)))
      have G1 := Aside0.mk hrg1
      have L1 := Aside0.mk (show w.heap.size ≤ w1.heap.size from Nat.le_trans HU.out.le hg1.size)
      have N1 := Aside0.mk (show (ms ++ [x]).length + cnt1 ≤ L.length by have := HU.out.cnt;rw [List.length_append,List.length_singleton];omega)
      have M1 := Aside0.mk (show cnt1 < wr.rangeLeft b w.heap.size by rw [HU.out.rg.left_eq];exact hlt1)
      have HX := Aside0.mk hx
      clear hkey hlk hv hat hrg1 hlt1 hg1 hs1 HU HR hx
      go_wp2_with (fail)
      clear hen
      refine (ten_below (A1.out.v) hs hk x nm HX.out).mono ?_
      rintro e w2 ⟨rfl,hb2⟩
      have G2 := Aside0.mk (G1.out.kept (below_none hb2) (by simp) (by simp))
      have A2 := Aside0.mk (A1.out.below hb2)
      have B2 := Aside0.mk (B1.out.trans (hb2.mono L1.out))
      have R2 := Aside0.mk (show SRow w2 w.heap.size (.slice Av KL.length cv) KL from World.ownsRow.kept R1.out (below_none hb2) (by cases Av <;> simp [Value.ownBlock]))
      have L2 := Aside0.mk (show w.heap.size ≤ w2.heap.size from Nat.le_trans L1.out hb2.size)
      clear hb2 G1 A1 B1 R1 L1
      have hf : (ms ++ [x]).filter (fun x => hasN (abv L x) nm) = KL ++ (if hasN (abv L x) nm then [x] else []) := by
        rw [List.filter_append,HKL.out]
        simp only [List.filter_cons,List.filter_nil]
      cases hin : hasN (abv L x) nm with
      | true =>
        rw [hin,if_pos rfl] at hf
        have HF := Aside0.mk hf
        clear hf
        obtain ⟨i0,hi,hz0,hz1,hz2⟩ := info_parts info9
        obtain ⟨k,hkl⟩ : ∃ k,KL.length = k := ⟨_,rfl⟩
        have HK := Aside0.mk hkl
        have HR := Aside0.mk (show w2.ownsRow w.heap.size 9 1 (.slice Av k cv) k (KL.map strV) by rw [← hkl];exact R2.out)
        rw [hkl]
        clear hkl hin
        go_wp2_with (at_builtin;refine wpList_append_own _ rfl _ _ tS rfl w.heap.size 9 i0 (.string ⟨#[]⟩) 1 16 Try.underlying59 hi hz0 hz1 hz2 rfl (by decide) _ _ _ rfl (HR.out.alloc _) ⟨w2.heap.size,0,none⟩ 1 1 [.string x] rfl rfl (cell_one_new _ _ _) (by simp [Value.oneCell']) (by have := KLN.out;have := HK.out;unfold maxLen;omega) (by have := KLN.out;have := HK.out;omega) (by have := L2.out;simp;omega) ?_;intro v' w3 hown' hgrow _)
        obtain ⟨g',cap',rfl⟩ := ownsRow_succ hown'
        have hall := (World.grownBy_alloc w2 (Obj.cells #[.string x] 9) _).trans hgrow
        have hb : some b ≠ (Value.slice Av k cv).ownBlock := row_ne_low HR.out HA.out.map.lt
        have ht : some t ≠ (Value.slice Av k cv).ownBlock := row_ne_low HR.out (blk_lt HA.out.blk)
        have G3 := Aside0.mk (G2.out.kept hall hb (row_ne_iter HR.out G2.out))
        have A3 := Aside0.mk (A2.out.grown hall ht hb)
        have B3 := Aside0.mk (B2.out.grown hall L2.out (fun j e => R2.out.lt j (by rw [HK.out];exact e)))
        have R3 := Aside0.mk (show SRow w3 w.heap.size (.slice (some ⟨g',0,none⟩) (k + 1) cap') (KL ++ [x]) by
          unfold SRow
          rw [List.length_append,HK.out,List.map_append]
          exact hown')
        refine ⟨⟨_,cnt1,ms ++ [x],⟨⟨G3.out,C1.out,by rw [HF.out];exact R3.out,B3.out,A3.out,Nat.le_trans L2.out hall.size,N1.out⟩⟩⟩,by rw [G3.out.left_eq];exact M1.out⟩
      | false =>
        rw [hin,if_neg (by simp),List.append_nil] at hf
        have HF := Aside0.mk hf
        clear hf hin
        go_wp2_with (fail)
        go_roundw
        case rel => exact ⟨_,cnt1,ms ++ [x],⟨⟨G2.out,C1.out,by rw [HF.out];exact R2.out,B2.out,A2.out,L2.out,N1.out⟩⟩⟩
        case measure => rw [G2.out.left_eq];exact M1.out
end Go.Proofs.Ythfaimomcbmniaa.Z
end
section
namespace Go.Proofs.Ythfaimomcbmniaa.Z
open Go.RowKit Go.Proofs.YthfaimomcbmniaaW.PrintWords Go.Proofs.YthfaimomcbmniaaW.PrintLast Go.Proofs.YthfaimomcbmniaaW.PrintMore
attribute [local go_sem] max2_int min2_int max_two min_two max_three min_three max_four min_four
set_option linter.unusedVariables false
set_option linter.unusedSimpArgs false
def schema_letter.f (a0 : Int) : Option (Bool) := if a0 ≥ 97 then (some (decide (a0 ≤ 122))) else (some false)
set_option maxHeartbeats 8000000 in
set_option maxRecDepth 100000 in
theorem schema_letter.calls (a0 : Int) (r : Bool) (w : World) (h : schema_letter.f a0 = some r) :
    Calls Try.prog 126 #[.int .u8 a0] w fun e w' => e = .returned (.bool r) ∧ Drawn0 w w' := by
  have H : (if a0 ≥ 97 then (some (decide (a0 ≤ 122))) else (some false)) = some r := h
  clear h
  by_cases c2 : a0 ≥ 97
  · rw [if_pos c2] at H
    have c2b0 : decide (97 ≤ a0) = true := decide_eq_true c2
    clear c2
    obtain rfl := Option.some.inj H
    go_enter Try.func126,Try.ntmps126
    go_wp2
    go_ret
    exact ⟨by first | rfl | (simp;done) | (simp [*];done),by repeat (first | exact Drawn0.refl _ | apply Drawn0.step)⟩
  · rw [if_neg c2] at H
    have c2b0 : decide (97 ≤ a0) = false := decide_eq_false c2
    clear c2
    obtain rfl := Option.some.inj H
    go_enter Try.func126,Try.ntmps126
    go_wp2
    go_ret
    exact ⟨by first | rfl | (simp;done) | (simp [*];done),by repeat (first | exact Drawn0.refl _ | apply Drawn0.step)⟩
end Go.Proofs.Ythfaimomcbmniaa.Z
end
section
namespace Go.Proofs.Ythfaimomcbmniaa.Z
open Go.RowKit Go.Proofs.YthfaimomcbmniaaW.PrintWords Go.Proofs.YthfaimomcbmniaaW.PrintLast Go.Proofs.YthfaimomcbmniaaW.PrintMore
attribute [local go_sem] max2_int min2_int max_two min_two max_three min_three max_four min_four
set_option linter.unusedVariables false
set_option linter.unusedSimpArgs false
mutual
def schema_Name.j0 : Nat → ByteArray → Bool → Option (Bool)
  | 0,_,_ => none
  | k + 1,x0,x17 => if x17 = true then (some false) else (schema_Name.l0 k x0 (x0.size : Int) 0)
def schema_Name.l0 : Nat → ByteArray → Int → Int → Option (Bool)
  | 0,_,_,_ => none
  | k + 1,x0,x19,x20 => if x20 < x19 then (if 0 ≤ x20 then (if x20 < (x0.size : Int) then ((schema_letter.f (bt x0 x20)).bind fun t255 => (if t255 = true then (schema_Name.l0 k x0 x19 (wrap64 (x20 + 1))) else (if (bt x0 x20) < 48 then (if (bt x0 x20) = 95 then (schema_Name.l0 k x0 x19 (wrap64 (x20 + 1))) else (some false)) else (if (bt x0 x20) > 57 then (if (bt x0 x20) = 95 then (schema_Name.l0 k x0 x19 (wrap64 (x20 + 1))) else (some false)) else (schema_Name.l0 k x0 x19 (wrap64 (x20 + 1))))))) else (none)) else (none)) else (some true)
end
def schema_Name.f (k : Nat) (a0 : ByteArray) : Option (Bool) := if a0.toList = ([] : List UInt8) then (schema_Name.j0 k a0 true) else (if (a0.size : Int) > 16 then (schema_Name.j0 k a0 true) else (if 0 < (a0.size : Int) then ((schema_letter.f (bt a0 0)).bind fun t254 => (schema_Name.j0 k a0 (!t254))) else (none)))
theorem schema_Name.mono_l : ∀ k,(∀ y0 y1,LeO (schema_Name.j0 k y0 y1) (schema_Name.j0 (k + 1) y0 y1)) ∧ (∀ y0 y1 y2,LeO (schema_Name.l0 k y0 y1 y2) (schema_Name.l0 (k + 1) y0 y1 y2))
  | 0 => ⟨fun _ _ r h => by simp [schema_Name.j0] at h,fun _ _ _ r h => by simp [schema_Name.l0] at h⟩
  | k + 1 => by
    obtain ⟨ih0,ih1⟩ := schema_Name.mono_l k
    refine ⟨?_,?_⟩
    · intro y0 y1
      unfold schema_Name.j0
      repeat' first
      | (with_reducible exact ih0 _ _)
      | (with_reducible exact ih1 _ _ _)
      | (with_reducible exact LeO.refl _)
      | (with_reducible exact LeO.none _)
      | (with_reducible refine LeO.ite ?_ ?_)
      | (with_reducible refine LeO.bind ?_ (fun _ => ?_))
      | exact ih0 _ _
      | exact ih1 _ _ _
      | exact LeO.none _
      | refine LeO.ite ?_ ?_
      | refine LeO.bind ?_ (fun _ => ?_)
    · intro y0 y1 y2
      unfold schema_Name.l0
      repeat' first
      | (with_reducible exact ih0 _ _)
      | (with_reducible exact ih1 _ _ _)
      | (with_reducible exact LeO.refl _)
      | (with_reducible exact LeO.none _)
      | (with_reducible refine LeO.ite ?_ ?_)
      | (with_reducible refine LeO.bind ?_ (fun _ => ?_))
      | exact ih0 _ _
      | exact ih1 _ _ _
      | exact LeO.none _
      | refine LeO.ite ?_ ?_
      | refine LeO.bind ?_ (fun _ => ?_)
theorem schema_Name.mono : ∀ a0 k,LeO (schema_Name.f k a0) (schema_Name.f (k + 1) a0) := by
  intro a0 k
  obtain ⟨ih0,ih1⟩ := schema_Name.mono_l k
  unfold schema_Name.f
  repeat' first
      | (with_reducible exact ih0 _ _)
      | (with_reducible exact ih1 _ _ _)
      | (with_reducible exact LeO.refl _)
      | (with_reducible exact LeO.none _)
      | (with_reducible refine LeO.ite ?_ ?_)
      | (with_reducible refine LeO.bind ?_ (fun _ => ?_))
      | exact ih0 _ _
      | exact ih1 _ _ _
      | exact LeO.none _
      | refine LeO.ite ?_ ?_
      | refine LeO.bind ?_ (fun _ => ?_)
set_option maxHeartbeats 8000000 in
set_option maxRecDepth 100000 in
theorem schema_Name.calls (k : Nat) (a0 : ByteArray) (r : Bool) (w : World) (h : schema_Name.f k a0 = some r) :
    Calls Try.prog 100 #[.string a0] w fun e w' => e = .returned (.bool r) ∧ Drawn0 w w' := by
  have H : (if a0.toList = ([] : List UInt8) then (schema_Name.j0 k a0 true) else (if (a0.size : Int) > 16 then (schema_Name.j0 k a0 true) else (if 0 < (a0.size : Int) then ((schema_letter.f (bt a0 0)).bind fun t254 => (schema_Name.j0 k a0 (!t254))) else (none)))) = some r := h
  clear h
  have HC2 := Aside0.mk H
  clear H
  go_enter Try.func100,Try.ntmps100
  go_upto_region 1 with (fail)
  go_cut [17] (fun v17 wc => ∃ (kq : Nat) (x17_1 : Bool),v17 = .bool x17_1 ∧ Aside0 (schema_Name.j0 kq a0 x17_1 = some r) ∧ Aside0 (kq ≤ k) ∧ Drawn0 w wc)
  case first =>
    have H := HC2.out
    clear HC2
    by_cases c3 : a0.toList = ([] : List UInt8)
    · rw [if_pos c3] at H
      have c3b0 : (a0.toList == ([] : List UInt8)) = true := beq_iff_eq.mpr c3
      have c3b1 : (a0.toList != ([] : List UInt8)) = false := bne_eq_false_iff_eq.mpr c3
      clear c3
      (first | rw [c3b0] | (simp only [i64_w,i32_w];rw [c3b0]) | skip)
      have H' := Aside0.mk H
      clear H
      go_wp2
      go_meet
      case rel => exact ⟨_,(true),(by first | rfl | (simp;done) | (simp [*];done)),H',⟨by first | omega | exact Nat.le_refl _⟩,by repeat (first | exact Drawn0.refl _ | apply Drawn0.step)⟩
    · rw [if_neg c3] at H
      have c3b0 : (a0.toList == ([] : List UInt8)) = false := beq_eq_false_iff_ne.mpr c3
      have c3b1 : (a0.toList != ([] : List UInt8)) = true := bne_iff_ne.mpr c3
      (first | rw [c3b0] | (simp only [i64_w,i32_w];rw [c3b0]) | skip)
      by_cases c4 : (a0.size : Int) > 16
      · rw [if_pos c4] at H
        have c4b0 : decide (16 < (a0.size : Int)) = true := decide_eq_true c4
        have c4b1 : decide (16 < a0.size) = true := decide_eq_true (by omega)
        clear c4
        have H' := Aside0.mk H
        clear H
        go_wp2
        go_meet
        case rel => exact ⟨_,(true),(by first | rfl | (simp;done) | (simp [*];done)),H',⟨by first | omega | exact Nat.le_refl _⟩,by repeat (first | exact Drawn0.refl _ | apply Drawn0.step)⟩
      · rw [if_neg c4] at H
        have c4b0 : decide (16 < (a0.size : Int)) = false := decide_eq_false c4
        have c4b1 : decide (16 < a0.size) = false := decide_eq_false (by omega)
        clear c4
        by_cases c5 : 0 < (a0.size : Int)
        · rw [if_pos c5] at H
          have c5b0 : decide (0 < (a0.size : Int)) = true := decide_eq_true c5
          have c5b1 : decide (0 < a0.size) = true := decide_eq_true (by omega)
          clear c5
          replace H := Option.bind_eq_some_iff.mp H
          obtain ⟨t254,A70,H⟩ := H
          replace H : (schema_Name.j0 k a0 (!t254)) = some r := H
          have A7 := Aside0.mk A70
          clear A70
          have H' := Aside0.mk H
          clear H
          have p6 : 0 ≤ (0 : Int) := (by omega)
          have q6 : 0 < a0.size := (by have : (0 : Int) < (a0.size : Int) := of_decide_eq_true (by first | (with_reducible assumption) | assumption);omega)
          have hx6 : ∀ h : 0 < a0.size,((a0[0]'h).toNat : Int) = bt a0 0 := bt_at a0 0
          clear p6
          have qi6 : (0 < (a0.size : Int)) = True := eq_true (of_decide_eq_true (by first | (with_reducible assumption) | assumption))
          replace q6 := eq_true q6
          go_wp2_with (first | (go_at_call 126;(with_reducible refine (schema_letter.calls (bt a0 0) t254 _ A7.out).mono ?_);rintro e w' ⟨rfl,⟨nd,rfl⟩⟩))
          go_meet
          case rel => exact ⟨_,(!t254),(by first | rfl | (simp;done) | (simp [*];done)),H',⟨by first | omega | exact Nat.le_refl _⟩,by repeat (first | exact Drawn0.refl _ | apply Drawn0.step)⟩
        · rw [if_neg c5] at H
          exact absurd H (by simp)
  case rest =>
    clear HC2
    try clear c1
    try clear p2
    try clear c3
    try clear c3b0
    try clear c3b1
    try clear c4
    try clear c4b0
    try clear c4b1
    try clear c5
    try clear c5b0
    try clear c5b1
    try clear p6
    try clear q6
    try clear hx6
    try clear qi6
    try clear p6
    try clear q6
    obtain ⟨kq,x17_1,rfl,HA,HJ1,⟨mc1,rfl⟩⟩ := hcut
    cases kq with
    | zero => exact absurd HA.out (by simp [schema_Name.j0])
    | succ kj1 =>
      have H := HA.out
      clear HA
      simp only [schema_Name.j0] at H
      by_cases c8 : x17_1 = true
      · subst c8
        have H1 : (some false) = some r := by rw [if_pos rfl] at H;exact H
        clear H
        have H := H1
        clear H1
        obtain rfl := Option.some.inj H
        go_wp2
        go_ret
        exact ⟨by first | rfl | (simp;done) | (simp [*];done),by repeat (first | exact Drawn0.refl _ | apply Drawn0.step)⟩
      · replace c8 := Bool.eq_false_iff.mpr c8
        subst c8
        have H1 : (schema_Name.l0 kj1 a0 (a0.size : Int) 0) = some r := by rw [if_neg (show ¬ (false = true) by decide)] at H;exact H
        clear H
        have H := H1
        clear H1
        have H' := Aside0.mk H
        clear H
        go_wp2
        go_loopg [20] kj1 (fun kq v20 w' => ∃ (x20_2 : Int),v20 = .int .i64 x20_2 ∧ Aside0 (schema_Name.l0 kq a0 (a0.size : Int) x20_2 = some r) ∧ Aside0 (kq ≤ kj1) ∧ Drawn0 w w')
        case atStart => exact ⟨(0),(by first | rfl | (simp;done) | (simp [*];done)),H',⟨Nat.le_refl _⟩,by repeat (first | exact Drawn0.refl _ | apply Drawn0.step)⟩
        case round =>
          clear H'
          try clear c1
          try clear p2
          try clear c3
          try clear c3b0
          try clear c3b1
          try clear c4
          try clear c4b0
          try clear c4b1
          try clear c5
          try clear c5b0
          try clear c5b1
          try clear p6
          try clear q6
          try clear hx6
          try clear qi6
          try clear c8
          try clear p2
          try clear p6
          try clear q6
          obtain ⟨x20_2,rfl,HA,HK2,⟨m2,rfl⟩⟩ := hrel
          cases gk with
          | zero => exact absurd HA.out (by simp [schema_Name.l0])
          | succ k2 =>
            have H := HA.out
            clear HA
            simp only [schema_Name.l0] at H
            by_cases c9 : x20_2 < (a0.size : Int)
            · rw [if_pos c9] at H
              have c9b0 : decide (x20_2 < (a0.size : Int)) = true := decide_eq_true c9
              clear c9
              by_cases c10 : 0 ≤ x20_2
              · rw [if_pos c10] at H
                have c10b0 : decide (0 ≤ x20_2) = true := decide_eq_true c10
                clear c10
                by_cases c11 : x20_2 < (a0.size : Int)
                · rw [if_pos c11] at H
                  have c11b0 : decide (x20_2 < (a0.size : Int)) = true := decide_eq_true c11
                  clear c11
                  replace H := Option.bind_eq_some_iff.mp H
                  obtain ⟨t255,A130,H⟩ := H
                  replace H : (if t255 = true then (schema_Name.l0 k2 a0 (a0.size : Int) (wrap64 (x20_2 + 1))) else (if (bt a0 x20_2) < 48 then (if (bt a0 x20_2) = 95 then (schema_Name.l0 k2 a0 (a0.size : Int) (wrap64 (x20_2 + 1))) else (some false)) else (if (bt a0 x20_2) > 57 then (if (bt a0 x20_2) = 95 then (schema_Name.l0 k2 a0 (a0.size : Int) (wrap64 (x20_2 + 1))) else (some false)) else (schema_Name.l0 k2 a0 (a0.size : Int) (wrap64 (x20_2 + 1)))))) = some r := H
                  have A13 := Aside0.mk A130
                  clear A130
                  by_cases c14 : t255 = true
                  · subst c14
                    have H1 : (schema_Name.l0 k2 a0 (a0.size : Int) (wrap64 (x20_2 + 1))) = some r := by rw [if_pos rfl] at H;exact H
                    clear H
                    have H := H1
                    clear H1
                    have H' := Aside0.mk H
                    clear H
                    have p12 : 0 ≤ (x20_2 : Int) := of_decide_eq_true (by first | (with_reducible assumption) | assumption)
                    have q12 : x20_2 < (a0.size : Int) := of_decide_eq_true (by first | (with_reducible assumption) | assumption)
                    have hx12 := bt_at a0 x20_2
                    replace p12 := eq_true p12
                    replace q12 := eq_true q12
                    go_wp2_with (first | ((with_reducible refine gate_callee (f := 126) rfl ?_);refine goesL_ (some 27) rfl rfl Try.func126 (by kernel_rfl) rfl #[.int .u8 (bt a0 x20_2)] rfl (by (try simp only [List.map_toArray,List.map_cons,List.map_nil]);first | done | rfl | (simp only [List.length_drop,List.length_take];rfl)) ?_;(with_reducible refine (schema_letter.calls (bt a0 x20_2) true _ A13.out).mono ?_);rintro e w' ⟨rfl,⟨nd,rfl⟩⟩;refine ⟨_,rfl,?_⟩))
                    go_roundg k2
                    case measure => have := HJ1.out;have := HK2.out;omega
                    case rel => exact ⟨(wrap64 (x20_2 + 1)),(by first | rfl | (simp;done) | (simp [*];done)),H',⟨by have := HJ1.out;have := HK2.out;omega⟩,by repeat (first | exact Drawn0.refl _ | apply Drawn0.step)⟩
                  · replace c14 := Bool.eq_false_iff.mpr c14
                    subst c14
                    have H1 : (if (bt a0 x20_2) < 48 then (if (bt a0 x20_2) = 95 then (schema_Name.l0 k2 a0 (a0.size : Int) (wrap64 (x20_2 + 1))) else (some false)) else (if (bt a0 x20_2) > 57 then (if (bt a0 x20_2) = 95 then (schema_Name.l0 k2 a0 (a0.size : Int) (wrap64 (x20_2 + 1))) else (some false)) else (schema_Name.l0 k2 a0 (a0.size : Int) (wrap64 (x20_2 + 1))))) = some r := by rw [if_neg (show ¬ (false = true) by decide)] at H;exact H
                    clear H
                    have H := H1
                    clear H1
                    by_cases c15 : (bt a0 x20_2) < 48
                    · rw [if_pos c15] at H
                      have c15b0 : decide ((bt a0 x20_2) < 48) = true := decide_eq_true c15
                      clear c15
                      by_cases c16 : (bt a0 x20_2) = 95
                      · rw [if_pos c16] at H
                        have c16b0 : ((bt a0 x20_2) == 95) = true := beq_iff_eq.mpr c16
                        have c16b1 : ((bt a0 x20_2) != 95) = false := bne_eq_false_iff_eq.mpr c16
                        clear c16
                        have H' := Aside0.mk H
                        clear H
                        have p12 : 0 ≤ (x20_2 : Int) := of_decide_eq_true (by first | (with_reducible assumption) | assumption)
                        have q12 : x20_2 < (a0.size : Int) := of_decide_eq_true (by first | (with_reducible assumption) | assumption)
                        have hx12 := bt_at a0 x20_2
                        replace p12 := eq_true p12
                        replace q12 := eq_true q12
                        go_wp2_with (first | ((with_reducible refine gate_callee (f := 126) rfl ?_);refine goesL_ (some 27) rfl rfl Try.func126 (by kernel_rfl) rfl #[.int .u8 (bt a0 x20_2)] rfl (by (try simp only [List.map_toArray,List.map_cons,List.map_nil]);first | done | rfl | (simp only [List.length_drop,List.length_take];rfl)) ?_;(with_reducible refine (schema_letter.calls (bt a0 x20_2) false _ A13.out).mono ?_);rintro e w' ⟨rfl,⟨nd,rfl⟩⟩;refine ⟨_,rfl,?_⟩))
                        go_roundg k2
                        case measure => have := HJ1.out;have := HK2.out;omega
                        case rel => exact ⟨(wrap64 (x20_2 + 1)),(by first | rfl | (simp;done) | (simp [*];done)),H',⟨by have := HJ1.out;have := HK2.out;omega⟩,by repeat (first | exact Drawn0.refl _ | apply Drawn0.step)⟩
                      · rw [if_neg c16] at H
                        have c16b0 : ((bt a0 x20_2) == 95) = false := beq_eq_false_iff_ne.mpr c16
                        have c16b1 : ((bt a0 x20_2) != 95) = true := bne_iff_ne.mpr c16
                        obtain rfl := Option.some.inj H
                        have p12 : 0 ≤ (x20_2 : Int) := of_decide_eq_true (by first | (with_reducible assumption) | assumption)
                        have q12 : x20_2 < (a0.size : Int) := of_decide_eq_true (by first | (with_reducible assumption) | assumption)
                        have hx12 := bt_at a0 x20_2
                        replace p12 := eq_true p12
                        replace q12 := eq_true q12
                        go_wp2_with (first | ((with_reducible refine gate_callee (f := 126) rfl ?_);refine goesL_ (some 27) rfl rfl Try.func126 (by kernel_rfl) rfl #[.int .u8 (bt a0 x20_2)] rfl (by (try simp only [List.map_toArray,List.map_cons,List.map_nil]);first | done | rfl | (simp only [List.length_drop,List.length_take];rfl)) ?_;(with_reducible refine (schema_letter.calls (bt a0 x20_2) false _ A13.out).mono ?_);rintro e w' ⟨rfl,⟨nd,rfl⟩⟩;refine ⟨_,rfl,?_⟩))
                        go_ret
                        exact ⟨by first | rfl | (simp;done) | (simp [*];done),by repeat (first | exact Drawn0.refl _ | apply Drawn0.step)⟩
                    · rw [if_neg c15] at H
                      have c15b0 : decide ((bt a0 x20_2) < 48) = false := decide_eq_false c15
                      clear c15
                      by_cases c17 : (bt a0 x20_2) > 57
                      · rw [if_pos c17] at H
                        have c17b0 : decide (57 < (bt a0 x20_2)) = true := decide_eq_true c17
                        clear c17
                        by_cases c18 : (bt a0 x20_2) = 95
                        · rw [if_pos c18] at H
                          have c18b0 : ((bt a0 x20_2) == 95) = true := beq_iff_eq.mpr c18
                          have c18b1 : ((bt a0 x20_2) != 95) = false := bne_eq_false_iff_eq.mpr c18
                          clear c18
                          have H' := Aside0.mk H
                          clear H
                          have p12 : 0 ≤ (x20_2 : Int) := of_decide_eq_true (by first | (with_reducible assumption) | assumption)
                          have q12 : x20_2 < (a0.size : Int) := of_decide_eq_true (by first | (with_reducible assumption) | assumption)
                          have hx12 := bt_at a0 x20_2
                          replace p12 := eq_true p12
                          replace q12 := eq_true q12
                          go_wp2_with (first | ((with_reducible refine gate_callee (f := 126) rfl ?_);refine goesL_ (some 27) rfl rfl Try.func126 (by kernel_rfl) rfl #[.int .u8 (bt a0 x20_2)] rfl (by (try simp only [List.map_toArray,List.map_cons,List.map_nil]);first | done | rfl | (simp only [List.length_drop,List.length_take];rfl)) ?_;(with_reducible refine (schema_letter.calls (bt a0 x20_2) false _ A13.out).mono ?_);rintro e w' ⟨rfl,⟨nd,rfl⟩⟩;refine ⟨_,rfl,?_⟩))
                          go_roundg k2
                          case measure => have := HJ1.out;have := HK2.out;omega
                          case rel => exact ⟨(wrap64 (x20_2 + 1)),(by first | rfl | (simp;done) | (simp [*];done)),H',⟨by have := HJ1.out;have := HK2.out;omega⟩,by repeat (first | exact Drawn0.refl _ | apply Drawn0.step)⟩
                        · rw [if_neg c18] at H
                          have c18b0 : ((bt a0 x20_2) == 95) = false := beq_eq_false_iff_ne.mpr c18
                          have c18b1 : ((bt a0 x20_2) != 95) = true := bne_iff_ne.mpr c18
                          obtain rfl := Option.some.inj H
                          have p12 : 0 ≤ (x20_2 : Int) := of_decide_eq_true (by first | (with_reducible assumption) | assumption)
                          have q12 : x20_2 < (a0.size : Int) := of_decide_eq_true (by first | (with_reducible assumption) | assumption)
                          have hx12 := bt_at a0 x20_2
                          replace p12 := eq_true p12
                          replace q12 := eq_true q12
                          go_wp2_with (first | ((with_reducible refine gate_callee (f := 126) rfl ?_);refine goesL_ (some 27) rfl rfl Try.func126 (by kernel_rfl) rfl #[.int .u8 (bt a0 x20_2)] rfl (by (try simp only [List.map_toArray,List.map_cons,List.map_nil]);first | done | rfl | (simp only [List.length_drop,List.length_take];rfl)) ?_;(with_reducible refine (schema_letter.calls (bt a0 x20_2) false _ A13.out).mono ?_);rintro e w' ⟨rfl,⟨nd,rfl⟩⟩;refine ⟨_,rfl,?_⟩))
                          go_ret
                          exact ⟨by first | rfl | (simp;done) | (simp [*];done),by repeat (first | exact Drawn0.refl _ | apply Drawn0.step)⟩
                      · rw [if_neg c17] at H
                        have c17b0 : decide (57 < (bt a0 x20_2)) = false := decide_eq_false c17
                        clear c17
                        have H' := Aside0.mk H
                        clear H
                        have p12 : 0 ≤ (x20_2 : Int) := of_decide_eq_true (by first | (with_reducible assumption) | assumption)
                        have q12 : x20_2 < (a0.size : Int) := of_decide_eq_true (by first | (with_reducible assumption) | assumption)
                        have hx12 := bt_at a0 x20_2
                        replace p12 := eq_true p12
                        replace q12 := eq_true q12
                        go_wp2_with (first | ((with_reducible refine gate_callee (f := 126) rfl ?_);refine goesL_ (some 27) rfl rfl Try.func126 (by kernel_rfl) rfl #[.int .u8 (bt a0 x20_2)] rfl (by (try simp only [List.map_toArray,List.map_cons,List.map_nil]);first | done | rfl | (simp only [List.length_drop,List.length_take];rfl)) ?_;(with_reducible refine (schema_letter.calls (bt a0 x20_2) false _ A13.out).mono ?_);rintro e w' ⟨rfl,⟨nd,rfl⟩⟩;refine ⟨_,rfl,?_⟩))
                        go_roundg k2
                        case measure => have := HJ1.out;have := HK2.out;omega
                        case rel => exact ⟨(wrap64 (x20_2 + 1)),(by first | rfl | (simp;done) | (simp [*];done)),H',⟨by have := HJ1.out;have := HK2.out;omega⟩,by repeat (first | exact Drawn0.refl _ | apply Drawn0.step)⟩
                · rw [if_neg c11] at H
                  exact absurd H (by simp)
              · rw [if_neg c10] at H
                exact absurd H (by simp)
            · rw [if_neg c9] at H
              have c9b0 : decide (x20_2 < (a0.size : Int)) = false := decide_eq_false c9
              clear c9
              obtain rfl := Option.some.inj H
              go_wp2
              go_ret
              exact ⟨by first | rfl | (simp;done) | (simp [*];done),by repeat (first | exact Drawn0.refl _ | apply Drawn0.step)⟩
end Go.Proofs.Ythfaimomcbmniaa.Z
end
