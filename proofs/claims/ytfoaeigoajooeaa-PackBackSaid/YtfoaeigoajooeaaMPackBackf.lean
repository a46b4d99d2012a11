/-
  verdererlaw04.PackBack: for every input the law returns true, and each argument reads behind the call as it read before. No condition.
-/
import Derived.Test.YtfoaeigoajooeaaMPackBacka
import Derived.Test.YtfoaeigoajooeaaMPackBackb
import Derived.Test.YtfoaeigoajooeaaMPackBackc
import Derived.Test.YtfoaeigoajooeaaMPackBackd
import Derived.Test.YtfoaeigoajooeaaMPackBacke
import Derived.Laws.BitsLemmas
import Derived.Test.YtfoaeigoajooeaaRows
import Derived.WalkKit
import Derived.ProofKit
import Derived.OpenShut
import Derived.ShutString
import Derived.ChangeOld
import Derived.Below
section
namespace Go.Proofs.Ytfoaeigoajooeaa.Z
open Go.RowKit Go.Proofs.YtfoaeigoajooeaaW.PrintWords Go.Proofs.YtfoaeigoajooeaaW.PrintLast Go.Proofs.YtfoaeigoajooeaaW.PrintMore
attribute [local go_sem] max2_int min2_int max_two min_two max_three min_three max_four min_four
set_option linter.unusedVariables false
set_option linter.unusedSimpArgs false
def verdererref04_text.l0 : Nat → List Int → List Int → Int → Int → Bool → Int → ByteArray → Option (Int × Bool × Int × ByteArray × Int × Int)
  | 0,_,_,_,_,_,_,_ => none
  | k + 1,x0,x6,x7,x594000,x594001,x594002,x594003 => if x7 < (x0.length : Int) then (if 0 ≤ x7 then (if (rd x0 x7) = 0 then (if (wrap64 (x7 + 1)) ≥ (x0.length : Int) then (some (x594000,x594001,x594002,x594003,0,8)) else (if 0 ≤ (wrap64 (x7 + 1)) then (if (wrap64 (x7 + 1)) < (x0.length : Int) then (if (rd x0 (wrap64 (x7 + 1))) = 1 then (some (3,false,0,strOfNums x6,wrap64 ((wrap64 (x7 + 1)) + 1),0)) else (if (rd x0 (wrap64 (x7 + 1))) = 255 then (if (x6.length : Int) ≥ 60 then (some (x594000,x594001,x594002,x594003,0,9)) else (if x6.length < 140737488355328 then (verdererref04_text.l0 k x0 (x6 ++ [rd x0 x7]) (wrap64 ((wrap64 (x7 + 1)) + 1)) x594000 x594001 x594002 x594003) else (none))) else (some (x594000,x594001,x594002,x594003,0,7)))) else (none)) else (none))) else (if (x6.length : Int) ≥ 60 then (some (x594000,x594001,x594002,x594003,0,9)) else (if x6.length < 140737488355328 then (verdererref04_text.l0 k x0 (x6 ++ [rd x0 x7]) (wrap64 (x7 + 1)) x594000 x594001 x594002 x594003) else (none)))) else (none)) else (some (x594000,x594001,x594002,x594003,0,8))
def verdererref04_text.f (k : Nat) (l0 : List Int) : Option (Int × Bool × Int × ByteArray × Int × Int) := verdererref04_text.l0 k l0 ([] : List Int) 1 0 false 0 (⟨#[]⟩ : ByteArray)
theorem verdererref04_text.mono_l : ∀ k,(∀ y0 y1 y2 y3 y4 y5 y6,LeO (verdererref04_text.l0 k y0 y1 y2 y3 y4 y5 y6) (verdererref04_text.l0 (k + 1) y0 y1 y2 y3 y4 y5 y6))
  | 0 => fun _ _ _ _ _ _ _ r h => by simp [verdererref04_text.l0] at h
  | k + 1 => by
    have ih0 := verdererref04_text.mono_l k
    · intro y0 y1 y2 y3 y4 y5 y6
      unfold verdererref04_text.l0
      repeat' first
      | (with_reducible exact ih0 _ _ _ _ _ _ _)
      | (with_reducible exact LeO.refl _)
      | (with_reducible exact LeO.none _)
      | (with_reducible refine LeO.ite ?_ ?_)
      | (with_reducible refine LeO.bind ?_ (fun _ => ?_))
      | exact ih0 _ _ _ _ _ _ _
      | exact LeO.none _
      | refine LeO.ite ?_ ?_
      | refine LeO.bind ?_ (fun _ => ?_)
theorem verdererref04_text.mono : ∀ a0 k,LeO (verdererref04_text.f k a0) (verdererref04_text.f (k + 1) a0) := by
  intro a0 k
  have ih0 := verdererref04_text.mono_l k
  unfold verdererref04_text.f
  repeat' first
      | (with_reducible exact ih0 _ _ _ _ _ _ _)
      | (with_reducible exact LeO.refl _)
      | (with_reducible exact LeO.none _)
      | (with_reducible refine LeO.ite ?_ ?_)
      | (with_reducible refine LeO.bind ?_ (fun _ => ?_))
      | exact ih0 _ _ _ _ _ _ _
      | exact LeO.none _
      | refine LeO.ite ?_ ?_
      | refine LeO.bind ?_ (fun _ => ?_)
set_option maxHeartbeats 8000000 in
set_option maxRecDepth 100000 in
theorem verdererref04_text.calls (k : Nat) (A0 : Option Addr) (c0 : Nat) (l0 : List Int) (r1 : Int) (r2 : Bool) (r3 : Int) (r4 : ByteArray) (r5 : Int) (r6 : Int) (w : World) (hr0 : Kd.C (Kd.int .u8) w A0 l0.length l0) (hc0 : l0.length ≤ c0) (h : verdererref04_text.f k l0 = some (r1,r2,r3,r4,r5,r6)) :
    Calls Try.prog 62 #[.slice A0 l0.length c0] w fun e w' => e = .returned (.tuple #[.agg #[.int .i64 r1,.bool r2,.int .i64 r3,.string r4],.int .i64 r5,.int .i64 r6]) ∧ Below w.heap.size w w' := by
  have hu50 := Try.underlying50
  have HR0 := Aside0.mk hr0
  have HC0 := Aside0.mk hc0
  clear hr0 hc0
  have HB := Aside0.mk (Below.refl w.heap.size w)
  have H : (verdererref04_text.l0 k l0 ([] : List Int) 1 0 false 0 (⟨#[]⟩ : ByteArray)) = some (r1,r2,r3,r4,r5,r6) := h
  clear h
  have H' := Aside0.mk H
  clear H
  go_enter Try.func62,Try.ntmps62
  go_wp2_with (first | ((with_reducible refine gate_dst (N := 2) rfl ?_);refine box_event ?hg (N := 2) ?hd (cs := #[.int .i64 0,.bool false,.int .i64 0,.string (⟨#[]⟩ : ByteArray)]) (t := 50) ?hr ?_;(case hd => rfl);(case hg => rfl);(case hr => first | (go_simp;done) | (go_simp;rfl));intro gb592 hg w2 hbox hb;have n0_ := Aside0.mk (below_step (by repeat (first | (with_reducible first | exact HB.out | apply below_alloc | apply pw_below_drewN | apply below_drew1) | exact HB.out)) hb);have n1_ := Aside0.mk (hbox);have n2_ := Aside0.mk ((by rw [hg];exact (below_size (by repeat (first | (with_reducible first | exact HB.out | apply below_alloc | apply pw_below_drewN | apply below_drew1) | exact HB.out))) : w.heap.size ≤ gb592));have n3_ := Aside0.mk ((by rw [hg];exact (below_size (by repeat (first | (with_reducible first | exact HB.out | apply below_alloc | apply pw_below_drewN | apply below_drew1) | exact HB.out))) : w.heap.size ≤ gb592));clear HB;have HB := n0_;have BK592 := n1_;have GW592 := n2_;have GE592 := n3_;clear n0_ n1_ n2_ n3_;clear hb hbox hg) | ((with_reducible refine gate_dst (N := 5) rfl ?_);refine box_event ?hg (N := 5) ?hd (cs := #[.int .i64 0,.bool false,.int .i64 0,.string (⟨#[]⟩ : ByteArray)]) (t := 50) ?hr ?_;(case hd => rfl);(case hg => rfl);(case hr => first | (go_simp;done) | (go_simp;rfl));intro gb593 hg w3 hbox hb;have n0_ := Aside0.mk (blk_below (g := gb592) (o := .cells #[.int .i64 0,.bool false,.int .i64 0,.string (⟨#[]⟩ : ByteArray)] 50 (0,0)) (by (with_reducible repeat (first | refine blk_drewN ?_ _ | refine blk_drew ?_ | refine blk_alloc ?_ _));exact BK592.out) hb);have n1_ := Aside0.mk (below_step (by repeat (first | (with_reducible first | exact HB.out | apply below_alloc | apply pw_below_drewN | apply below_drew1 | refine below_set ?_ GE592.out) | exact HB.out)) hb);have n2_ := Aside0.mk (hbox);have n3_ := Aside0.mk ((by rw [hg];exact (below_size (by repeat (first | (with_reducible first | exact HB.out | apply below_alloc | apply pw_below_drewN | apply below_drew1 | refine below_set ?_ GE592.out) | exact HB.out))) : w.heap.size ≤ gb593));have n4_ := Aside0.mk ((by rw [hg];exact (below_size (by repeat (first | (with_reducible first | exact HB.out | apply below_alloc | apply pw_below_drewN | apply below_drew1 | refine below_set ?_ GE592.out) | exact HB.out))) : w.heap.size ≤ gb593));have n5_ := Aside0.mk ((by rw [hg];exact Nat.ne_of_lt (blk_lt (g := gb592) (o := .cells #[.int .i64 0,.bool false,.int .i64 0,.string (⟨#[]⟩ : ByteArray)] 50 (0,0)) (by (with_reducible repeat (first | refine blk_drewN ?_ _ | refine blk_drew ?_ | refine blk_alloc ?_ _));exact BK592.out)) : gb592 ≠ gb593));have n6_ := Aside0.mk ((by rw [hg];exact Nat.ne_of_gt (blk_lt (g := gb592) (o := .cells #[.int .i64 0,.bool false,.int .i64 0,.string (⟨#[]⟩ : ByteArray)] 50 (0,0)) (by (with_reducible repeat (first | refine blk_drewN ?_ _ | refine blk_drew ?_ | refine blk_alloc ?_ _));exact BK592.out)) : gb593 ≠ gb592));clear BK592;clear HB;have BK592 := n0_;have HB := n1_;have BK593 := n2_;have GW593 := n3_;have GE593 := n4_;have NB592_593 := n5_;have NB593_592 := n6_;clear n0_ n1_ n2_ n3_ n4_ n5_ n6_;clear hb hbox hg;have hnb4 := NB593_592.out;have hnc4 := NB592_593.out;have hcz5_0 : w3.cell? ⟨gb593,0,none⟩ = some (.int .i64 0) := (blk_cell BK593.out 0).trans rfl;have hcz5_1 : w3.cell? ⟨gb593,1,none⟩ = some (.bool false) := (blk_cell BK593.out 1).trans rfl;have hcz5_2 : w3.cell? ⟨gb593,2,none⟩ = some (.int .i64 0) := (blk_cell BK593.out 2).trans rfl;have hcz5_3 : w3.cell? ⟨gb593,3,none⟩ = some (.string (⟨#[]⟩ : ByteArray)) := (blk_cell BK593.out 3).trans rfl;have hfz5_0 := blk_frozen BK593.out 0;have hfz5_1 := blk_frozen BK593.out 1;have hfz5_2 := blk_frozen BK593.out 2;have hfz5_3 := blk_frozen BK593.out 3))
  go_loopg [6,7] k (fun kq v6 v7 w' => ∃ (x6_1 : List Int) (x7_1 : Int) (x593000_1 : Int) (x593001_1 : Bool) (x593002_1 : Int) (x593003_1 : ByteArray),v7 = .int .i64 x7_1 ∧ Aside0 (verdererref04_text.l0 kq l0 x6_1 x7_1 0 false 0 (⟨#[]⟩ : ByteArray) = some (r1,r2,r3,r4,r5,r6)) ∧ Aside0 (kq ≤ k) ∧ Aside0 (Kd.R (Kd.int .u8) 5 w' w.heap.size (fun _ => True) v6 x6_1) ∧ Aside0 (w'.heap[gb592]? = some (.cells #[.int .i64 x593000_1,.bool x593001_1,.int .i64 x593002_1,.string x593003_1] 50 (0,0))) ∧ Aside0 (w'.heap[gb593]? = some (.cells #[.int .i64 0,.bool false,.int .i64 0,.string (⟨#[]⟩ : ByteArray)] 50 (0,0))) ∧ Aside0 (Below w.heap.size w w'))
  case atStart => exact ⟨(([] : List Int)),(1),(0),(false),(0),((⟨#[]⟩ : ByteArray)),(by first | rfl | (simp;done) | (simp [*];done)),H',⟨Nat.le_refl _⟩,⟨by first | exact Kd.R_nil _ _ _ _ _ | exact Kd.N_nil _ _ _ _ _ | exact Kd.V_nil _ _ _ _ _ | exact Kd.Q_nil _ _ _ _ _ | exact Kd.S_nil _ _ _ _ _⟩,⟨by (with_reducible repeat (first | refine blk_drewN ?_ _ | refine blk_drew ?_ | refine blk_alloc ?_ _));refine blk_far ?_ NB592_593.out _;(with_reducible repeat (first | refine blk_drewN ?_ _ | refine blk_drew ?_ | refine blk_alloc ?_ _));refine blk_far ?_ NB592_593.out _;(with_reducible repeat (first | refine blk_drewN ?_ _ | refine blk_drew ?_ | refine blk_alloc ?_ _));refine blk_far ?_ NB592_593.out _;(with_reducible repeat (first | refine blk_drewN ?_ _ | refine blk_drew ?_ | refine blk_alloc ?_ _));refine blk_far ?_ NB592_593.out _;(with_reducible repeat (first | refine blk_drewN ?_ _ | refine blk_drew ?_ | refine blk_alloc ?_ _));exact BK592.out⟩,⟨by (with_reducible repeat (first | refine blk_drewN ?_ _ | refine blk_drew ?_ | refine blk_alloc ?_ _));refine blk_put (cs := #[.int .i64 0,.bool false,.int .i64 0,.string (⟨#[]⟩ : ByteArray)]) ?_ 3 _ rfl;(with_reducible repeat (first | refine blk_drewN ?_ _ | refine blk_drew ?_ | refine blk_alloc ?_ _));refine blk_put (cs := #[.int .i64 0,.bool false,.int .i64 0,.string (⟨#[]⟩ : ByteArray)]) ?_ 2 _ rfl;(with_reducible repeat (first | refine blk_drewN ?_ _ | refine blk_drew ?_ | refine blk_alloc ?_ _));refine blk_put (cs := #[.int .i64 0,.bool false,.int .i64 0,.string (⟨#[]⟩ : ByteArray)]) ?_ 1 _ rfl;(with_reducible repeat (first | refine blk_drewN ?_ _ | refine blk_drew ?_ | refine blk_alloc ?_ _));refine blk_put (cs := #[.int .i64 0,.bool false,.int .i64 0,.string (⟨#[]⟩ : ByteArray)]) ?_ 0 _ rfl;(with_reducible repeat (first | refine blk_drewN ?_ _ | refine blk_drew ?_ | refine blk_alloc ?_ _));exact BK593.out⟩,⟨by repeat (first | (with_reducible first | exact HB.out | apply below_alloc | apply pw_below_drewN | apply below_drew1 | refine below_set ?_ GE592.out | refine below_set ?_ GE593.out) | exact HB.out)⟩⟩
  case round =>
    clear H'
    try clear p2
    try clear c4
    try clear hcz5_0
    try clear hcz5_1
    try clear hcz5_2
    try clear hcz5_3
    try clear hfz5_0
    try clear hfz5_1
    try clear hfz5_2
    try clear hfz5_3
    obtain ⟨x6_1,x7_1,x593000_1,x593001_1,x593002_1,x593003_1,rfl,HA,HK1,HO_6,BK592,BK593,HB⟩ := hrel
    cases gk with
    | zero => exact absurd HA.out (by simp [verdererref04_text.l0])
    | succ k1 =>
      have H := HA.out
      clear HA
      simp only [verdererref04_text.l0] at H
      by_cases c6 : x7_1 < (l0.length : Int)
      · rw [if_pos c6] at H
        have c6b0 : decide (x7_1 < (l0.length : Int)) = true := decide_eq_true c6
        clear c6
        by_cases c7 : 0 ≤ x7_1
        · rw [if_pos c7] at H
          have c7b0 : decide (0 ≤ x7_1) = true := decide_eq_true c7
          clear c7
          by_cases c8 : (rd l0 x7_1) = 0
          · rw [if_pos c8] at H
            have c8b0 : ((rd l0 x7_1) == 0) = true := beq_iff_eq.mpr c8
            have c8b1 : ((rd l0 x7_1) != 0) = false := bne_eq_false_iff_eq.mpr c8
            clear c8
            by_cases c9 : (wrap64 (x7_1 + 1)) ≥ (l0.length : Int)
            · rw [if_pos c9] at H
              have c9b0 : decide ((l0.length : Int) ≤ (wrap64 (x7_1 + 1))) = true := decide_eq_true c9
              clear c9
              simp only [Option.some.injEq,Prod.mk.injEq] at H
              obtain ⟨rfl,rfl,rfl,rfl,rfl,rfl⟩ := H
              have p594 : 0 ≤ (x7_1 : Int) := of_decide_eq_true (by first | (with_reducible assumption) | assumption)
              have q594 : x7_1 < (l0.length : Int) := of_decide_eq_true (by first | (with_reducible assumption) | assumption)
              obtain ⟨ad594,e594,hx594_0⟩ := Kd.at_int HR0.out x7_1 p594 q594
              cases e594
              replace hx594_0 := (HB.out.cell (World.block_lt_of_cell? w _ hx594_0)).trans hx594_0
              replace p594 := eq_true p594
              replace q594 := eq_true q594
              have hnb10 := NB593_592.out
              have hnc10 := NB592_593.out
              have hcz11_0 : wr.cell? ⟨gb593,0,none⟩ = some (.int .i64 0) := (blk_cell BK593.out 0).trans rfl
              have hcz11_1 : wr.cell? ⟨gb593,1,none⟩ = some (.bool false) := (blk_cell BK593.out 1).trans rfl
              have hcz11_2 : wr.cell? ⟨gb593,2,none⟩ = some (.int .i64 0) := (blk_cell BK593.out 2).trans rfl
              have hcz11_3 : wr.cell? ⟨gb593,3,none⟩ = some (.string (⟨#[]⟩ : ByteArray)) := (blk_cell BK593.out 3).trans rfl
              have hfz11_0 := blk_frozen BK593.out 0
              have hfz11_1 := blk_frozen BK593.out 1
              have hfz11_2 := blk_frozen BK593.out 2
              have hfz11_3 := blk_frozen BK593.out 3
              have hcz12_0 : wr.cell? ⟨gb592,0,none⟩ = some (.int .i64 x593000_1) := (blk_cell BK592.out 0).trans rfl
              have hcz12_1 : wr.cell? ⟨gb592,1,none⟩ = some (.bool x593001_1) := (blk_cell BK592.out 1).trans rfl
              have hcz12_2 : wr.cell? ⟨gb592,2,none⟩ = some (.int .i64 x593002_1) := (blk_cell BK592.out 2).trans rfl
              have hcz12_3 : wr.cell? ⟨gb592,3,none⟩ = some (.string x593003_1) := (blk_cell BK592.out 3).trans rfl
              have hfz12_0 := blk_frozen BK592.out 0
              have hfz12_1 := blk_frozen BK592.out 1
              have hfz12_2 := blk_frozen BK592.out 2
              have hfz12_3 := blk_frozen BK592.out 3
              go_wp2
              refine bodyPost_ret (results_ctt rfl _ _ gb592 50 #[.int .i64 0,.bool false,.int .i64 0,.string (⟨#[]⟩ : ByteArray)] (0,0) _ rfl (by (with_reducible repeat (first | refine blk_drewN ?_ _ | refine blk_drew ?_ | refine blk_alloc ?_ _));refine blk_put (cs := #[.int .i64 0,.bool false,.int .i64 0,.string x593003_1]) ?_ 3 _ rfl;(with_reducible repeat (first | refine blk_drewN ?_ _ | refine blk_drew ?_ | refine blk_alloc ?_ _));refine blk_put (cs := #[.int .i64 0,.bool false,.int .i64 x593002_1,.string x593003_1]) ?_ 2 _ rfl;(with_reducible repeat (first | refine blk_drewN ?_ _ | refine blk_drew ?_ | refine blk_alloc ?_ _));refine blk_put (cs := #[.int .i64 0,.bool x593001_1,.int .i64 x593002_1,.string x593003_1]) ?_ 1 _ rfl;(with_reducible repeat (first | refine blk_drewN ?_ _ | refine blk_drew ?_ | refine blk_alloc ?_ _));refine blk_put (cs := #[.int .i64 x593000_1,.bool x593001_1,.int .i64 x593002_1,.string x593003_1]) ?_ 0 _ rfl;(with_reducible repeat (first | refine blk_drewN ?_ _ | refine blk_drew ?_ | refine blk_alloc ?_ _));exact BK592.out) Try.underlying50 rfl (by kernel_rfl)) rfl ?_
              exact ⟨by first | rfl | (simp [errW_none,errW_some] <;> rfl) | (simp [*,errW_none,errW_some] <;> rfl),by repeat (first | (with_reducible first | exact HB.out | apply below_alloc | apply pw_below_drewN | apply below_drew1 | refine below_set ?_ GE592.out | refine below_set ?_ GE593.out) | exact HB.out)⟩
            · rw [if_neg c9] at H
              have c9b0 : decide ((l0.length : Int) ≤ (wrap64 (x7_1 + 1))) = false := decide_eq_false c9
              clear c9
              obtain ⟨ji13,hji13⟩ : ∃ j_ : Int,(wrap64 (x7_1 + 1)) = j_ := ⟨_,rfl⟩
              replace H : (if 0 ≤ (ji13) then (if (ji13) < (l0.length : Int) then (if (rd l0 (ji13)) = 1 then (some (3,false,0,strOfNums x6_1,wrap64 ((ji13) + 1),0)) else (if (rd l0 (ji13)) = 255 then (if (x6_1.length : Int) ≥ 60 then (some (0,false,0,(⟨#[]⟩ : ByteArray),0,9)) else (if x6_1.length < 140737488355328 then (verdererref04_text.l0 k1 l0 (x6_1 ++ [rd l0 x7_1]) (wrap64 ((ji13) + 1)) 0 false 0 (⟨#[]⟩ : ByteArray)) else (none))) else (some (0,false,0,(⟨#[]⟩ : ByteArray),0,7)))) else (none)) else (none)) = some (r1,r2,r3,r4,r5,r6) := by first | (rw [hji13] at H;exact H) | (simp only [hji13] at H ⊢;exact H)
              (try rw [hji13] at c9b0)
              have hji13w : (IntKind.i64.wrap (x7_1 + 1)) = ji13 := (i64_w _).trans hji13
              by_cases c14 : 0 ≤ (ji13)
              · rw [if_pos c14] at H
                have c14b0 : decide (0 ≤ (ji13)) = true := decide_eq_true c14
                clear c14
                by_cases c15 : (ji13) < (l0.length : Int)
                · rw [if_pos c15] at H
                  have c15b0 : decide ((ji13) < (l0.length : Int)) = true := decide_eq_true c15
                  clear c15
                  by_cases c16 : (rd l0 (ji13)) = 1
                  · rw [if_pos c16] at H
                    have c16b0 : ((rd l0 (ji13)) == 1) = true := beq_iff_eq.mpr c16
                    have c16b1 : ((rd l0 (ji13)) != 1) = false := bne_eq_false_iff_eq.mpr c16
                    clear c16
                    simp only [Option.some.injEq,Prod.mk.injEq] at H
                    obtain ⟨rfl,rfl,rfl,rfl,rfl,rfl⟩ := H
                    have p594 : 0 ≤ (x7_1 : Int) := of_decide_eq_true (by first | (with_reducible assumption) | assumption)
                    have q594 : x7_1 < (l0.length : Int) := of_decide_eq_true (by first | (with_reducible assumption) | assumption)
                    obtain ⟨ad594,e594,hx594_0⟩ := Kd.at_int HR0.out x7_1 p594 q594
                    cases e594
                    replace hx594_0 := (HB.out.cell (World.block_lt_of_cell? w _ hx594_0)).trans hx594_0
                    replace p594 := eq_true p594
                    replace q594 := eq_true q594
                    have p595 : 0 ≤ ((ji13) : Int) := of_decide_eq_true (by first | (with_reducible assumption) | assumption)
                    have q595 : (ji13) < (l0.length : Int) := of_decide_eq_true (by first | (with_reducible assumption) | assumption)
                    obtain ⟨ad595,e595,hx595_0⟩ := Kd.at_int HR0.out (ji13) p595 q595
                    obtain rfl : ad594 = ad595 := (by injection e595)
                    replace hx595_0 := (HB.out.cell (World.block_lt_of_cell? w _ hx595_0)).trans hx595_0
                    replace p595 := eq_true p595
                    replace q595 := eq_true q595
                    have hcv17 := own_string (P := Try.prog) Try.underlying47 Try.underlying5 Try.underlying9 (Kd.own_of_R HO_6.out)
                    have hnb18 := NB592_593.out
                    have hnc18 := NB593_592.out
                    have hcz19_0 : wr.cell? ⟨gb592,0,none⟩ = some (.int .i64 x593000_1) := (blk_cell BK592.out 0).trans rfl
                    have hcz19_1 : wr.cell? ⟨gb592,1,none⟩ = some (.bool x593001_1) := (blk_cell BK592.out 1).trans rfl
                    have hcz19_2 : wr.cell? ⟨gb592,2,none⟩ = some (.int .i64 x593002_1) := (blk_cell BK592.out 2).trans rfl
                    have hcz19_3 : wr.cell? ⟨gb592,3,none⟩ = some (.string x593003_1) := (blk_cell BK592.out 3).trans rfl
                    have hfz19_0 := blk_frozen BK592.out 0
                    have hfz19_1 := blk_frozen BK592.out 1
                    have hfz19_2 := blk_frozen BK592.out 2
                    have hfz19_3 := blk_frozen BK592.out 3
                    go_wp2
                    refine bodyPost_ret (results_ctt rfl _ _ gb592 50 #[.int .i64 3,.bool false,.int .i64 0,.string (strOfNums x6_1)] (0,0) _ rfl (by (with_reducible repeat (first | refine blk_drewN ?_ _ | refine blk_drew ?_ | refine blk_alloc ?_ _));refine blk_put (cs := #[.int .i64 3,.bool false,.int .i64 0,.string x593003_1]) ?_ 3 _ rfl;(with_reducible repeat (first | refine blk_drewN ?_ _ | refine blk_drew ?_ | refine blk_alloc ?_ _));refine blk_put (cs := #[.int .i64 3,.bool false,.int .i64 x593002_1,.string x593003_1]) ?_ 2 _ rfl;(with_reducible repeat (first | refine blk_drewN ?_ _ | refine blk_drew ?_ | refine blk_alloc ?_ _));refine blk_put (cs := #[.int .i64 3,.bool x593001_1,.int .i64 x593002_1,.string x593003_1]) ?_ 1 _ rfl;(with_reducible repeat (first | refine blk_drewN ?_ _ | refine blk_drew ?_ | refine blk_alloc ?_ _));refine blk_put (cs := #[.int .i64 x593000_1,.bool x593001_1,.int .i64 x593002_1,.string x593003_1]) ?_ 0 _ rfl;(with_reducible repeat (first | refine blk_drewN ?_ _ | refine blk_drew ?_ | refine blk_alloc ?_ _));exact BK592.out) Try.underlying50 rfl (by kernel_rfl)) rfl ?_
                    exact ⟨by first | rfl | (simp [errW_none,errW_some] <;> rfl) | (simp only [← hji13];first | rfl | (simp [errW_none,errW_some] <;> rfl)) | (simp [*,errW_none,errW_some] <;> rfl),by repeat (first | (with_reducible first | exact HB.out | apply below_alloc | apply pw_below_drewN | apply below_drew1 | refine below_set ?_ GE592.out | refine below_set ?_ GE593.out) | exact HB.out)⟩
                  · rw [if_neg c16] at H
                    have c16b0 : ((rd l0 (ji13)) == 1) = false := beq_eq_false_iff_ne.mpr c16
                    have c16b1 : ((rd l0 (ji13)) != 1) = true := bne_iff_ne.mpr c16
                    by_cases c20 : (rd l0 (ji13)) = 255
                    · rw [if_pos c20] at H
                      have c20b0 : ((rd l0 (ji13)) == 255) = true := beq_iff_eq.mpr c20
                      have c20b1 : ((rd l0 (ji13)) != 255) = false := bne_eq_false_iff_eq.mpr c20
                      clear c20
                      by_cases c21 : (x6_1.length : Int) ≥ 60
                      · rw [if_pos c21] at H
                        have c21b0 : decide (60 ≤ (x6_1.length : Int)) = true := decide_eq_true c21
                        have c21b1 : decide (60 ≤ x6_1.length) = true := decide_eq_true (by omega)
                        clear c21
                        simp only [Option.some.injEq,Prod.mk.injEq] at H
                        obtain ⟨rfl,rfl,rfl,rfl,rfl,rfl⟩ := H
                        have p594 : 0 ≤ (x7_1 : Int) := of_decide_eq_true (by first | (with_reducible assumption) | assumption)
                        have q594 : x7_1 < (l0.length : Int) := of_decide_eq_true (by first | (with_reducible assumption) | assumption)
                        obtain ⟨ad594,e594,hx594_0⟩ := Kd.at_int HR0.out x7_1 p594 q594
                        cases e594
                        replace hx594_0 := (HB.out.cell (World.block_lt_of_cell? w _ hx594_0)).trans hx594_0
                        replace p594 := eq_true p594
                        replace q594 := eq_true q594
                        have p595 : 0 ≤ ((ji13) : Int) := of_decide_eq_true (by first | (with_reducible assumption) | assumption)
                        have q595 : (ji13) < (l0.length : Int) := of_decide_eq_true (by first | (with_reducible assumption) | assumption)
                        obtain ⟨ad595,e595,hx595_0⟩ := Kd.at_int HR0.out (ji13) p595 q595
                        obtain rfl : ad594 = ad595 := (by injection e595)
                        replace hx595_0 := (HB.out.cell (World.block_lt_of_cell? w _ hx595_0)).trans hx595_0
                        replace p595 := eq_true p595
                        replace q595 := eq_true q595
                        have p596 : 0 ≤ ((ji13) : Int) := of_decide_eq_true (by first | (with_reducible assumption) | assumption)
                        have q596 : (ji13) < (l0.length : Int) := of_decide_eq_true (by first | (with_reducible assumption) | assumption)
                        obtain ⟨ad596,e596,hx596_0⟩ := Kd.at_int HR0.out (ji13) p596 q596
                        obtain rfl : ad594 = ad596 := (by injection e596)
                        replace hx596_0 := (HB.out.cell (World.block_lt_of_cell? w _ hx596_0)).trans hx596_0
                        replace p596 := eq_true p596
                        replace q596 := eq_true q596
                        obtain ⟨Ao22,co22,eo22⟩ := Kd.R_slice HO_6.out
                        subst eo22
                        have hnb23 := NB593_592.out
                        have hnc23 := NB592_593.out
                        have hcz24_0 : wr.cell? ⟨gb593,0,none⟩ = some (.int .i64 0) := (blk_cell BK593.out 0).trans rfl
                        have hcz24_1 : wr.cell? ⟨gb593,1,none⟩ = some (.bool false) := (blk_cell BK593.out 1).trans rfl
                        have hcz24_2 : wr.cell? ⟨gb593,2,none⟩ = some (.int .i64 0) := (blk_cell BK593.out 2).trans rfl
                        have hcz24_3 : wr.cell? ⟨gb593,3,none⟩ = some (.string (⟨#[]⟩ : ByteArray)) := (blk_cell BK593.out 3).trans rfl
                        have hfz24_0 := blk_frozen BK593.out 0
                        have hfz24_1 := blk_frozen BK593.out 1
                        have hfz24_2 := blk_frozen BK593.out 2
                        have hfz24_3 := blk_frozen BK593.out 3
                        have hcz25_0 : wr.cell? ⟨gb592,0,none⟩ = some (.int .i64 x593000_1) := (blk_cell BK592.out 0).trans rfl
                        have hcz25_1 : wr.cell? ⟨gb592,1,none⟩ = some (.bool x593001_1) := (blk_cell BK592.out 1).trans rfl
                        have hcz25_2 : wr.cell? ⟨gb592,2,none⟩ = some (.int .i64 x593002_1) := (blk_cell BK592.out 2).trans rfl
                        have hcz25_3 : wr.cell? ⟨gb592,3,none⟩ = some (.string x593003_1) := (blk_cell BK592.out 3).trans rfl
                        have hfz25_0 := blk_frozen BK592.out 0
                        have hfz25_1 := blk_frozen BK592.out 1
                        have hfz25_2 := blk_frozen BK592.out 2
                        have hfz25_3 := blk_frozen BK592.out 3
                        go_wp2
                        refine bodyPost_ret (results_ctt rfl _ _ gb592 50 #[.int .i64 0,.bool false,.int .i64 0,.string (⟨#[]⟩ : ByteArray)] (0,0) _ rfl (by (with_reducible repeat (first | refine blk_drewN ?_ _ | refine blk_drew ?_ | refine blk_alloc ?_ _));refine blk_put (cs := #[.int .i64 0,.bool false,.int .i64 0,.string x593003_1]) ?_ 3 _ rfl;(with_reducible repeat (first | refine blk_drewN ?_ _ | refine blk_drew ?_ | refine blk_alloc ?_ _));refine blk_put (cs := #[.int .i64 0,.bool false,.int .i64 x593002_1,.string x593003_1]) ?_ 2 _ rfl;(with_reducible repeat (first | refine blk_drewN ?_ _ | refine blk_drew ?_ | refine blk_alloc ?_ _));refine blk_put (cs := #[.int .i64 0,.bool x593001_1,.int .i64 x593002_1,.string x593003_1]) ?_ 1 _ rfl;(with_reducible repeat (first | refine blk_drewN ?_ _ | refine blk_drew ?_ | refine blk_alloc ?_ _));refine blk_put (cs := #[.int .i64 x593000_1,.bool x593001_1,.int .i64 x593002_1,.string x593003_1]) ?_ 0 _ rfl;(with_reducible repeat (first | refine blk_drewN ?_ _ | refine blk_drew ?_ | refine blk_alloc ?_ _));exact BK592.out) Try.underlying50 rfl (by kernel_rfl)) rfl ?_
                        exact ⟨by first | rfl | (simp [errW_none,errW_some] <;> rfl) | (simp only [← hji13];first | rfl | (simp [errW_none,errW_some] <;> rfl)) | (simp [*,errW_none,errW_some] <;> rfl),by repeat (first | (with_reducible first | exact HB.out | apply below_alloc | apply pw_below_drewN | apply below_drew1 | refine below_set ?_ GE592.out | refine below_set ?_ GE593.out) | exact HB.out)⟩
                      · rw [if_neg c21] at H
                        have c21b0 : decide (60 ≤ (x6_1.length : Int)) = false := decide_eq_false c21
                        have c21b1 : decide (60 ≤ x6_1.length) = false := decide_eq_false (by omega)
                        clear c21
                        by_cases c26 : x6_1.length < 140737488355328
                        · rw [if_pos c26] at H
                          have LMc26 := Aside0.mk c26
                          clear c26
                          obtain ⟨y597,hy597⟩ : ∃ y_ : List Int,y_ = (x6_1 ++ [rd l0 x7_1]) := ⟨_,rfl⟩
                          replace H : (verdererref04_text.l0 k1 l0 y597 (wrap64 ((ji13) + 1)) 0 false 0 (⟨#[]⟩ : ByteArray)) = some (r1,r2,r3,r4,r5,r6) := by first | (rw [hy597];with_reducible exact H) | (have H2_ := (Option.bind_some _ _).symm.trans H;rw [hy597];with_reducible exact H2_) | (have H2_ := (Option.bind_some _ _).symm.trans H;with_reducible exact H2_) | with_reducible exact H | (rw [hy597];exact H) | exact H
                          have Ny597 := Aside0.mk hy597
                          clear hy597
                          have H' := Aside0.mk H
                          clear H
                          have p594 : 0 ≤ (x7_1 : Int) := of_decide_eq_true (by first | (with_reducible assumption) | assumption)
                          have q594 : x7_1 < (l0.length : Int) := of_decide_eq_true (by first | (with_reducible assumption) | assumption)
                          obtain ⟨ad594,e594,hx594_0⟩ := Kd.at_int HR0.out x7_1 p594 q594
                          cases e594
                          replace hx594_0 := (HB.out.cell (World.block_lt_of_cell? w _ hx594_0)).trans hx594_0
                          replace p594 := eq_true p594
                          replace q594 := eq_true q594
                          have p595 : 0 ≤ ((ji13) : Int) := of_decide_eq_true (by first | (with_reducible assumption) | assumption)
                          have q595 : (ji13) < (l0.length : Int) := of_decide_eq_true (by first | (with_reducible assumption) | assumption)
                          obtain ⟨ad595,e595,hx595_0⟩ := Kd.at_int HR0.out (ji13) p595 q595
                          obtain rfl : ad594 = ad595 := (by injection e595)
                          replace hx595_0 := (HB.out.cell (World.block_lt_of_cell? w _ hx595_0)).trans hx595_0
                          replace p595 := eq_true p595
                          replace q595 := eq_true q595
                          have p596 : 0 ≤ ((ji13) : Int) := of_decide_eq_true (by first | (with_reducible assumption) | assumption)
                          have q596 : (ji13) < (l0.length : Int) := of_decide_eq_true (by first | (with_reducible assumption) | assumption)
                          obtain ⟨ad596,e596,hx596_0⟩ := Kd.at_int HR0.out (ji13) p596 q596
                          obtain rfl : ad594 = ad596 := (by injection e596)
                          replace hx596_0 := (HB.out.cell (World.block_lt_of_cell? w _ hx596_0)).trans hx596_0
                          replace p596 := eq_true p596
                          replace q596 := eq_true q596
                          obtain ⟨Ao27,co27,eo27⟩ := Kd.R_slice HO_6.out
                          subst eo27
                          go_wp2_with (first | ((with_reducible refine gate_builtin (b := .append) (xs := #[.tmp 49,.tmp 51]) rfl ?_);at_builtin;refine Kd.R_append (Kd.int .u8) (w0 := w) w.heap.size rfl (.tmp 49) (.tmp 51) 47 5 (.int .u8 0) 1 rfl Try.underlying47 info5 rfl (by decide) (by omega) (.slice Ao27 x6_1.length co27) x6_1 (rd l0 x7_1) [.int .u8 (rd l0 x7_1)] (fun _ => True) (fun _ => False) rfl rfl ?aP (fun _ hk => hk.elim) ?aF ?aO ?aB ?aS ?aL ?_;(case aP => exact rfl);(case aB => exact (by repeat (first | (with_reducible first | exact HB.out | apply below_alloc | apply pw_below_drewN | apply below_drew1 | refine below_set ?_ GE592.out | refine below_set ?_ GE593.out) | exact HB.out)));(case aF => exact (fun _ _ => trivial));(case aO => exact (by (with_reducible repeat (first | apply Kd.R_alloc | apply Kd.R_drewN | apply Kd.R_drew));exact HO_6.out));(case aS => exact (below_size (by repeat (first | (with_reducible first | exact HB.out | apply below_alloc | apply pw_below_drewN | apply below_drew1 | refine below_set ?_ GE592.out | refine below_set ?_ GE593.out) | exact HB.out))));(case aL => have := LMc26.out;omega);intro v598 w28 ho hb hg hat;rw [← Ny597.out] at ho;have n0_ := Aside0.mk (blk_grown (g := gb592) (o := .cells #[.int .i64 x593000_1,.bool x593001_1,.int .i64 x593002_1,.string x593003_1] 50 (0,0)) (by (with_reducible repeat (first | refine blk_drewN ?_ _ | refine blk_drew ?_ | refine blk_alloc ?_ _));exact BK592.out) hg (Kd.R_ne HO_6.out BK592.out (by decide)));have n1_ := Aside0.mk (blk_grown (g := gb593) (o := .cells #[.int .i64 0,.bool false,.int .i64 0,.string (⟨#[]⟩ : ByteArray)] 50 (0,0)) (by (with_reducible repeat (first | refine blk_drewN ?_ _ | refine blk_drew ?_ | refine blk_alloc ?_ _));exact BK593.out) hg (Kd.R_ne HO_6.out BK593.out (by decide)));have n2_ := Aside0.mk (hb);have n3_ := Aside0.mk (ho);clear BK592;clear BK593;clear HB;clear HO_6;have BK592 := n0_;have BK593 := n1_;have HB := n2_;have HO599 := n3_;clear n0_ n1_ n2_ n3_;clear ho hb hg hat))
                          go_roundg k1
                          case measure => have := HK1.out;omega
                          case rel => exact ⟨(y597),(wrap64 ((ji13) + 1)),(x593000_1),(x593001_1),(x593002_1),(x593003_1),(by first | rfl | (simp;done) | (simp only [← hji13] <;> (first | rfl | simp)) | (simp [*];done)),H',⟨by have := HK1.out;omega⟩,⟨by (with_reducible repeat (first | apply Kd.R_alloc | apply Kd.R_drewN | apply Kd.R_drew));exact HO599.out⟩,⟨by (with_reducible repeat (first | refine blk_drewN ?_ _ | refine blk_drew ?_ | refine blk_alloc ?_ _));exact BK592.out⟩,⟨by (with_reducible repeat (first | refine blk_drewN ?_ _ | refine blk_drew ?_ | refine blk_alloc ?_ _));exact BK593.out⟩,⟨by repeat (first | (with_reducible first | exact HB.out | apply below_alloc | apply pw_below_drewN | apply below_drew1 | refine below_set ?_ GE592.out | refine below_set ?_ GE593.out) | exact HB.out)⟩⟩
                        · rw [if_neg c26] at H
                          exact absurd H (by simp)
                    · rw [if_neg c20] at H
                      have c20b0 : ((rd l0 (ji13)) == 255) = false := beq_eq_false_iff_ne.mpr c20
                      have c20b1 : ((rd l0 (ji13)) != 255) = true := bne_iff_ne.mpr c20
                      simp only [Option.some.injEq,Prod.mk.injEq] at H
                      obtain ⟨rfl,rfl,rfl,rfl,rfl,rfl⟩ := H
                      have p594 : 0 ≤ (x7_1 : Int) := of_decide_eq_true (by first | (with_reducible assumption) | assumption)
                      have q594 : x7_1 < (l0.length : Int) := of_decide_eq_true (by first | (with_reducible assumption) | assumption)
                      obtain ⟨ad594,e594,hx594_0⟩ := Kd.at_int HR0.out x7_1 p594 q594
                      cases e594
                      replace hx594_0 := (HB.out.cell (World.block_lt_of_cell? w _ hx594_0)).trans hx594_0
                      replace p594 := eq_true p594
                      replace q594 := eq_true q594
                      have p595 : 0 ≤ ((ji13) : Int) := of_decide_eq_true (by first | (with_reducible assumption) | assumption)
                      have q595 : (ji13) < (l0.length : Int) := of_decide_eq_true (by first | (with_reducible assumption) | assumption)
                      obtain ⟨ad595,e595,hx595_0⟩ := Kd.at_int HR0.out (ji13) p595 q595
                      obtain rfl : ad594 = ad595 := (by injection e595)
                      replace hx595_0 := (HB.out.cell (World.block_lt_of_cell? w _ hx595_0)).trans hx595_0
                      replace p595 := eq_true p595
                      replace q595 := eq_true q595
                      have p596 : 0 ≤ ((ji13) : Int) := of_decide_eq_true (by first | (with_reducible assumption) | assumption)
                      have q596 : (ji13) < (l0.length : Int) := of_decide_eq_true (by first | (with_reducible assumption) | assumption)
                      obtain ⟨ad596,e596,hx596_0⟩ := Kd.at_int HR0.out (ji13) p596 q596
                      obtain rfl : ad594 = ad596 := (by injection e596)
                      replace hx596_0 := (HB.out.cell (World.block_lt_of_cell? w _ hx596_0)).trans hx596_0
                      replace p596 := eq_true p596
                      replace q596 := eq_true q596
                      have hnb29 := NB593_592.out
                      have hnc29 := NB592_593.out
                      have hcz30_0 : wr.cell? ⟨gb593,0,none⟩ = some (.int .i64 0) := (blk_cell BK593.out 0).trans rfl
                      have hcz30_1 : wr.cell? ⟨gb593,1,none⟩ = some (.bool false) := (blk_cell BK593.out 1).trans rfl
                      have hcz30_2 : wr.cell? ⟨gb593,2,none⟩ = some (.int .i64 0) := (blk_cell BK593.out 2).trans rfl
                      have hcz30_3 : wr.cell? ⟨gb593,3,none⟩ = some (.string (⟨#[]⟩ : ByteArray)) := (blk_cell BK593.out 3).trans rfl
                      have hfz30_0 := blk_frozen BK593.out 0
                      have hfz30_1 := blk_frozen BK593.out 1
                      have hfz30_2 := blk_frozen BK593.out 2
                      have hfz30_3 := blk_frozen BK593.out 3
                      have hcz31_0 : wr.cell? ⟨gb592,0,none⟩ = some (.int .i64 x593000_1) := (blk_cell BK592.out 0).trans rfl
                      have hcz31_1 : wr.cell? ⟨gb592,1,none⟩ = some (.bool x593001_1) := (blk_cell BK592.out 1).trans rfl
                      have hcz31_2 : wr.cell? ⟨gb592,2,none⟩ = some (.int .i64 x593002_1) := (blk_cell BK592.out 2).trans rfl
                      have hcz31_3 : wr.cell? ⟨gb592,3,none⟩ = some (.string x593003_1) := (blk_cell BK592.out 3).trans rfl
                      have hfz31_0 := blk_frozen BK592.out 0
                      have hfz31_1 := blk_frozen BK592.out 1
                      have hfz31_2 := blk_frozen BK592.out 2
                      have hfz31_3 := blk_frozen BK592.out 3
                      go_wp2
                      refine bodyPost_ret (results_ctt rfl _ _ gb592 50 #[.int .i64 0,.bool false,.int .i64 0,.string (⟨#[]⟩ : ByteArray)] (0,0) _ rfl (by (with_reducible repeat (first | refine blk_drewN ?_ _ | refine blk_drew ?_ | refine blk_alloc ?_ _));refine blk_put (cs := #[.int .i64 0,.bool false,.int .i64 0,.string x593003_1]) ?_ 3 _ rfl;(with_reducible repeat (first | refine blk_drewN ?_ _ | refine blk_drew ?_ | refine blk_alloc ?_ _));refine blk_put (cs := #[.int .i64 0,.bool false,.int .i64 x593002_1,.string x593003_1]) ?_ 2 _ rfl;(with_reducible repeat (first | refine blk_drewN ?_ _ | refine blk_drew ?_ | refine blk_alloc ?_ _));refine blk_put (cs := #[.int .i64 0,.bool x593001_1,.int .i64 x593002_1,.string x593003_1]) ?_ 1 _ rfl;(with_reducible repeat (first | refine blk_drewN ?_ _ | refine blk_drew ?_ | refine blk_alloc ?_ _));refine blk_put (cs := #[.int .i64 x593000_1,.bool x593001_1,.int .i64 x593002_1,.string x593003_1]) ?_ 0 _ rfl;(with_reducible repeat (first | refine blk_drewN ?_ _ | refine blk_drew ?_ | refine blk_alloc ?_ _));exact BK592.out) Try.underlying50 rfl (by kernel_rfl)) rfl ?_
                      exact ⟨by first | rfl | (simp [errW_none,errW_some] <;> rfl) | (simp only [← hji13];first | rfl | (simp [errW_none,errW_some] <;> rfl)) | (simp [*,errW_none,errW_some] <;> rfl),by repeat (first | (with_reducible first | exact HB.out | apply below_alloc | apply pw_below_drewN | apply below_drew1 | refine below_set ?_ GE592.out | refine below_set ?_ GE593.out) | exact HB.out)⟩
                · rw [if_neg c15] at H
                  exact absurd H (by simp)
              · rw [if_neg c14] at H
                exact absurd H (by simp)
          · rw [if_neg c8] at H
            have c8b0 : ((rd l0 x7_1) == 0) = false := beq_eq_false_iff_ne.mpr c8
            have c8b1 : ((rd l0 x7_1) != 0) = true := bne_iff_ne.mpr c8
            by_cases c32 : (x6_1.length : Int) ≥ 60
            · rw [if_pos c32] at H
              have c32b0 : decide (60 ≤ (x6_1.length : Int)) = true := decide_eq_true c32
              have c32b1 : decide (60 ≤ x6_1.length) = true := decide_eq_true (by omega)
              clear c32
              simp only [Option.some.injEq,Prod.mk.injEq] at H
              obtain ⟨rfl,rfl,rfl,rfl,rfl,rfl⟩ := H
              have p594 : 0 ≤ (x7_1 : Int) := of_decide_eq_true (by first | (with_reducible assumption) | assumption)
              have q594 : x7_1 < (l0.length : Int) := of_decide_eq_true (by first | (with_reducible assumption) | assumption)
              obtain ⟨ad594,e594,hx594_0⟩ := Kd.at_int HR0.out x7_1 p594 q594
              cases e594
              replace hx594_0 := (HB.out.cell (World.block_lt_of_cell? w _ hx594_0)).trans hx594_0
              replace p594 := eq_true p594
              replace q594 := eq_true q594
              obtain ⟨Ao33,co33,eo33⟩ := Kd.R_slice HO_6.out
              subst eo33
              have hnb34 := NB593_592.out
              have hnc34 := NB592_593.out
              have hcz35_0 : wr.cell? ⟨gb593,0,none⟩ = some (.int .i64 0) := (blk_cell BK593.out 0).trans rfl
              have hcz35_1 : wr.cell? ⟨gb593,1,none⟩ = some (.bool false) := (blk_cell BK593.out 1).trans rfl
              have hcz35_2 : wr.cell? ⟨gb593,2,none⟩ = some (.int .i64 0) := (blk_cell BK593.out 2).trans rfl
              have hcz35_3 : wr.cell? ⟨gb593,3,none⟩ = some (.string (⟨#[]⟩ : ByteArray)) := (blk_cell BK593.out 3).trans rfl
              have hfz35_0 := blk_frozen BK593.out 0
              have hfz35_1 := blk_frozen BK593.out 1
              have hfz35_2 := blk_frozen BK593.out 2
              have hfz35_3 := blk_frozen BK593.out 3
              have hcz36_0 : wr.cell? ⟨gb592,0,none⟩ = some (.int .i64 x593000_1) := (blk_cell BK592.out 0).trans rfl
              have hcz36_1 : wr.cell? ⟨gb592,1,none⟩ = some (.bool x593001_1) := (blk_cell BK592.out 1).trans rfl
              have hcz36_2 : wr.cell? ⟨gb592,2,none⟩ = some (.int .i64 x593002_1) := (blk_cell BK592.out 2).trans rfl
              have hcz36_3 : wr.cell? ⟨gb592,3,none⟩ = some (.string x593003_1) := (blk_cell BK592.out 3).trans rfl
              have hfz36_0 := blk_frozen BK592.out 0
              have hfz36_1 := blk_frozen BK592.out 1
              have hfz36_2 := blk_frozen BK592.out 2
              have hfz36_3 := blk_frozen BK592.out 3
              go_wp2
              refine bodyPost_ret (results_ctt rfl _ _ gb592 50 #[.int .i64 0,.bool false,.int .i64 0,.string (⟨#[]⟩ : ByteArray)] (0,0) _ rfl (by (with_reducible repeat (first | refine blk_drewN ?_ _ | refine blk_drew ?_ | refine blk_alloc ?_ _));refine blk_put (cs := #[.int .i64 0,.bool false,.int .i64 0,.string x593003_1]) ?_ 3 _ rfl;(with_reducible repeat (first | refine blk_drewN ?_ _ | refine blk_drew ?_ | refine blk_alloc ?_ _));refine blk_put (cs := #[.int .i64 0,.bool false,.int .i64 x593002_1,.string x593003_1]) ?_ 2 _ rfl;(with_reducible repeat (first | refine blk_drewN ?_ _ | refine blk_drew ?_ | refine blk_alloc ?_ _));refine blk_put (cs := #[.int .i64 0,.bool x593001_1,.int .i64 x593002_1,.string x593003_1]) ?_ 1 _ rfl;(with_reducible repeat (first | refine blk_drewN ?_ _ | refine blk_drew ?_ | refine blk_alloc ?_ _));refine blk_put (cs := #[.int .i64 x593000_1,.bool x593001_1,.int .i64 x593002_1,.string x593003_1]) ?_ 0 _ rfl;(with_reducible repeat (first | refine blk_drewN ?_ _ | refine blk_drew ?_ | refine blk_alloc ?_ _));exact BK592.out) Try.underlying50 rfl (by kernel_rfl)) rfl ?_
              exact ⟨by first | rfl | (simp [errW_none,errW_some] <;> rfl) | (simp [*,errW_none,errW_some] <;> rfl),by repeat (first | (with_reducible first | exact HB.out | apply below_alloc | apply pw_below_drewN | apply below_drew1 | refine below_set ?_ GE592.out | refine below_set ?_ GE593.out) | exact HB.out)⟩
            · rw [if_neg c32] at H
              have c32b0 : decide (60 ≤ (x6_1.length : Int)) = false := decide_eq_false c32
              have c32b1 : decide (60 ≤ x6_1.length) = false := decide_eq_false (by omega)
              clear c32
              by_cases c37 : x6_1.length < 140737488355328
              · rw [if_pos c37] at H
                have LMc37 := Aside0.mk c37
                clear c37
                obtain ⟨y600,hy600⟩ : ∃ y_ : List Int,y_ = (x6_1 ++ [rd l0 x7_1]) := ⟨_,rfl⟩
                replace H : (verdererref04_text.l0 k1 l0 y600 (wrap64 (x7_1 + 1)) 0 false 0 (⟨#[]⟩ : ByteArray)) = some (r1,r2,r3,r4,r5,r6) := by first | (rw [hy600];with_reducible exact H) | (have H2_ := (Option.bind_some _ _).symm.trans H;rw [hy600];with_reducible exact H2_) | (have H2_ := (Option.bind_some _ _).symm.trans H;with_reducible exact H2_) | with_reducible exact H | (rw [hy600];exact H) | exact H
                have Ny600 := Aside0.mk hy600
                clear hy600
                have H' := Aside0.mk H
                clear H
                have p594 : 0 ≤ (x7_1 : Int) := of_decide_eq_true (by first | (with_reducible assumption) | assumption)
                have q594 : x7_1 < (l0.length : Int) := of_decide_eq_true (by first | (with_reducible assumption) | assumption)
                obtain ⟨ad594,e594,hx594_0⟩ := Kd.at_int HR0.out x7_1 p594 q594
                cases e594
                replace hx594_0 := (HB.out.cell (World.block_lt_of_cell? w _ hx594_0)).trans hx594_0
                replace p594 := eq_true p594
                replace q594 := eq_true q594
                obtain ⟨Ao38,co38,eo38⟩ := Kd.R_slice HO_6.out
                subst eo38
                go_wp2_with (first | ((with_reducible refine gate_builtin (b := .append) (xs := #[.tmp 49,.tmp 51]) rfl ?_);at_builtin;refine Kd.R_append (Kd.int .u8) (w0 := w) w.heap.size rfl (.tmp 49) (.tmp 51) 47 5 (.int .u8 0) 1 rfl Try.underlying47 info5 rfl (by decide) (by omega) (.slice Ao38 x6_1.length co38) x6_1 (rd l0 x7_1) [.int .u8 (rd l0 x7_1)] (fun _ => True) (fun _ => False) rfl rfl ?aP (fun _ hk => hk.elim) ?aF ?aO ?aB ?aS ?aL ?_;(case aP => exact rfl);(case aB => exact (by repeat (first | (with_reducible first | exact HB.out | apply below_alloc | apply pw_below_drewN | apply below_drew1 | refine below_set ?_ GE592.out | refine below_set ?_ GE593.out) | exact HB.out)));(case aF => exact (fun _ _ => trivial));(case aO => exact (by (with_reducible repeat (first | apply Kd.R_alloc | apply Kd.R_drewN | apply Kd.R_drew));exact HO_6.out));(case aS => exact (below_size (by repeat (first | (with_reducible first | exact HB.out | apply below_alloc | apply pw_below_drewN | apply below_drew1 | refine below_set ?_ GE592.out | refine below_set ?_ GE593.out) | exact HB.out))));(case aL => have := LMc37.out;omega);intro v601 w39 ho hb hg hat;rw [← Ny600.out] at ho;have n0_ := Aside0.mk (blk_grown (g := gb592) (o := .cells #[.int .i64 x593000_1,.bool x593001_1,.int .i64 x593002_1,.string x593003_1] 50 (0,0)) (by (with_reducible repeat (first | refine blk_drewN ?_ _ | refine blk_drew ?_ | refine blk_alloc ?_ _));exact BK592.out) hg (Kd.R_ne HO_6.out BK592.out (by decide)));have n1_ := Aside0.mk (blk_grown (g := gb593) (o := .cells #[.int .i64 0,.bool false,.int .i64 0,.string (⟨#[]⟩ : ByteArray)] 50 (0,0)) (by (with_reducible repeat (first | refine blk_drewN ?_ _ | refine blk_drew ?_ | refine blk_alloc ?_ _));exact BK593.out) hg (Kd.R_ne HO_6.out BK593.out (by decide)));have n2_ := Aside0.mk (hb);have n3_ := Aside0.mk (ho);clear BK592;clear BK593;clear HB;clear HO_6;have BK592 := n0_;have BK593 := n1_;have HB := n2_;have HO602 := n3_;clear n0_ n1_ n2_ n3_;clear ho hb hg hat))
                go_roundg k1
                case measure => have := HK1.out;omega
                case rel => exact ⟨(y600),(wrap64 (x7_1 + 1)),(x593000_1),(x593001_1),(x593002_1),(x593003_1),(by first | rfl | (simp;done) | (simp [*];done)),H',⟨by have := HK1.out;omega⟩,⟨by (with_reducible repeat (first | apply Kd.R_alloc | apply Kd.R_drewN | apply Kd.R_drew));exact HO602.out⟩,⟨by (with_reducible repeat (first | refine blk_drewN ?_ _ | refine blk_drew ?_ | refine blk_alloc ?_ _));exact BK592.out⟩,⟨by (with_reducible repeat (first | refine blk_drewN ?_ _ | refine blk_drew ?_ | refine blk_alloc ?_ _));exact BK593.out⟩,⟨by repeat (first | (with_reducible first | exact HB.out | apply below_alloc | apply pw_below_drewN | apply below_drew1 | refine below_set ?_ GE592.out | refine below_set ?_ GE593.out) | exact HB.out)⟩⟩
              · rw [if_neg c37] at H
                exact absurd H (by simp)
        · rw [if_neg c7] at H
          exact absurd H (by simp)
      · rw [if_neg c6] at H
        have c6b0 : decide (x7_1 < (l0.length : Int)) = false := decide_eq_false c6
        clear c6
        simp only [Option.some.injEq,Prod.mk.injEq] at H
        obtain ⟨rfl,rfl,rfl,rfl,rfl,rfl⟩ := H
        have hnb40 := NB593_592.out
        have hnc40 := NB592_593.out
        have hcz41_0 : wr.cell? ⟨gb593,0,none⟩ = some (.int .i64 0) := (blk_cell BK593.out 0).trans rfl
        have hcz41_1 : wr.cell? ⟨gb593,1,none⟩ = some (.bool false) := (blk_cell BK593.out 1).trans rfl
        have hcz41_2 : wr.cell? ⟨gb593,2,none⟩ = some (.int .i64 0) := (blk_cell BK593.out 2).trans rfl
        have hcz41_3 : wr.cell? ⟨gb593,3,none⟩ = some (.string (⟨#[]⟩ : ByteArray)) := (blk_cell BK593.out 3).trans rfl
        have hfz41_0 := blk_frozen BK593.out 0
        have hfz41_1 := blk_frozen BK593.out 1
        have hfz41_2 := blk_frozen BK593.out 2
        have hfz41_3 := blk_frozen BK593.out 3
        have hcz42_0 : wr.cell? ⟨gb592,0,none⟩ = some (.int .i64 x593000_1) := (blk_cell BK592.out 0).trans rfl
        have hcz42_1 : wr.cell? ⟨gb592,1,none⟩ = some (.bool x593001_1) := (blk_cell BK592.out 1).trans rfl
        have hcz42_2 : wr.cell? ⟨gb592,2,none⟩ = some (.int .i64 x593002_1) := (blk_cell BK592.out 2).trans rfl
        have hcz42_3 : wr.cell? ⟨gb592,3,none⟩ = some (.string x593003_1) := (blk_cell BK592.out 3).trans rfl
        have hfz42_0 := blk_frozen BK592.out 0
        have hfz42_1 := blk_frozen BK592.out 1
        have hfz42_2 := blk_frozen BK592.out 2
        have hfz42_3 := blk_frozen BK592.out 3
        go_wp2
        refine bodyPost_ret (results_ctt rfl _ _ gb592 50 #[.int .i64 0,.bool false,.int .i64 0,.string (⟨#[]⟩ : ByteArray)] (0,0) _ rfl (by (with_reducible repeat (first | refine blk_drewN ?_ _ | refine blk_drew ?_ | refine blk_alloc ?_ _));refine blk_put (cs := #[.int .i64 0,.bool false,.int .i64 0,.string x593003_1]) ?_ 3 _ rfl;(with_reducible repeat (first | refine blk_drewN ?_ _ | refine blk_drew ?_ | refine blk_alloc ?_ _));refine blk_put (cs := #[.int .i64 0,.bool false,.int .i64 x593002_1,.string x593003_1]) ?_ 2 _ rfl;(with_reducible repeat (first | refine blk_drewN ?_ _ | refine blk_drew ?_ | refine blk_alloc ?_ _));refine blk_put (cs := #[.int .i64 0,.bool x593001_1,.int .i64 x593002_1,.string x593003_1]) ?_ 1 _ rfl;(with_reducible repeat (first | refine blk_drewN ?_ _ | refine blk_drew ?_ | refine blk_alloc ?_ _));refine blk_put (cs := #[.int .i64 x593000_1,.bool x593001_1,.int .i64 x593002_1,.string x593003_1]) ?_ 0 _ rfl;(with_reducible repeat (first | refine blk_drewN ?_ _ | refine blk_drew ?_ | refine blk_alloc ?_ _));exact BK592.out) Try.underlying50 rfl (by kernel_rfl)) rfl ?_
        exact ⟨by first | rfl | (simp [errW_none,errW_some] <;> rfl) | (simp [*,errW_none,errW_some] <;> rfl),by repeat (first | (with_reducible first | exact HB.out | apply below_alloc | apply pw_below_drewN | apply below_drew1 | refine below_set ?_ GE592.out | refine below_set ?_ GE593.out) | exact HB.out)⟩
end Go.Proofs.Ytfoaeigoajooeaa.Z
end
section
namespace Go.Proofs.Ytfoaeigoajooeaa.Z
open Go.RowKit Go.Proofs.YtfoaeigoajooeaaW.PrintWords Go.Proofs.YtfoaeigoajooeaaW.PrintLast Go.Proofs.YtfoaeigoajooeaaW.PrintMore
attribute [local go_sem] max2_int min2_int max_two min_two max_three min_three max_four min_four
set_option linter.unusedVariables false
set_option linter.unusedSimpArgs false
def verdererref04_First.l0 : Nat → List Int → Int → Int → Option (Int × Bool × Int × ByteArray × Int × Int)
  | 0,_,_,_ => none
  | k + 1,x0,x6,x7 => if x7 < 9 then (if 0 ≤ x7 then (if x7 < (x0.length : Int) then (verdererref04_First.l0 k x0 (IntKind.u64.wrap ((IntKind.u64.wrap (x6 * 256)) + (IntKind.u64.wrap (rd x0 x7)))) (wrap64 (x7 + 1))) else (none)) else (none)) else (some (2,false,wrap64 (IntKind.u64.wrap (x6 - 9223372036854775808)),(⟨#[]⟩ : ByteArray),9,0))
def verdererref04_First.f (k : Nat) (l0 : List Int) : Option (Int × Bool × Int × ByteArray × Int × Int) := if (l0.length : Int) = 0 then (some (0,false,0,(⟨#[]⟩ : ByteArray),0,8)) else (if 0 < (l0.length : Int) then (if (rd l0 0) = 1 then (some (0,false,0,(⟨#[]⟩ : ByteArray),1,0)) else (if (rd l0 0) = 2 then (if (l0.length : Int) < 2 then (some (0,false,0,(⟨#[]⟩ : ByteArray),0,8)) else (if 1 < (l0.length : Int) then (if (rd l0 1) > 1 then (some (0,false,0,(⟨#[]⟩ : ByteArray),0,7)) else (some (1,((rd l0 1) == 1),0,(⟨#[]⟩ : ByteArray),2,0))) else (none))) else (if (rd l0 0) = 3 then (if (l0.length : Int) < 9 then (some (0,false,0,(⟨#[]⟩ : ByteArray),0,8)) else (verdererref04_First.l0 k l0 0 1)) else (if (rd l0 0) = 4 then ((verdererref04_text.f k l0).bind fun bt609 => (some (bt609.1,bt609.2.1,bt609.2.2.1,bt609.2.2.2.1,bt609.2.2.2.2.1,bt609.2.2.2.2.2))) else (some (0,false,0,(⟨#[]⟩ : ByteArray),0,7)))))) else (none))
theorem verdererref04_First.mono_l : ∀ k,(∀ y0 y1 y2,LeO (verdererref04_First.l0 k y0 y1 y2) (verdererref04_First.l0 (k + 1) y0 y1 y2))
  | 0 => fun _ _ _ r h => by simp [verdererref04_First.l0] at h
  | k + 1 => by
    have ih0 := verdererref04_First.mono_l k
    · intro y0 y1 y2
      unfold verdererref04_First.l0
      repeat' first
      | (with_reducible exact ih0 _ _ _)
      | (with_reducible exact verdererref04_text.mono _ _)
      | (with_reducible exact LeO.refl _)
      | (with_reducible exact LeO.none _)
      | (with_reducible refine LeO.ite ?_ ?_)
      | (with_reducible refine LeO.bind ?_ (fun _ => ?_))
      | exact ih0 _ _ _
      | exact verdererref04_text.mono _ _
      | exact LeO.none _
      | refine LeO.ite ?_ ?_
      | refine LeO.bind ?_ (fun _ => ?_)
theorem verdererref04_First.mono : ∀ a0 k,LeO (verdererref04_First.f k a0) (verdererref04_First.f (k + 1) a0) := by
  intro a0 k
  have ih0 := verdererref04_First.mono_l k
  unfold verdererref04_First.f
  repeat' first
      | (with_reducible exact ih0 _ _ _)
      | (with_reducible exact verdererref04_text.mono _ _)
      | (with_reducible exact LeO.refl _)
      | (with_reducible exact LeO.none _)
      | (with_reducible refine LeO.ite ?_ ?_)
      | (with_reducible refine LeO.bind ?_ (fun _ => ?_))
      | exact ih0 _ _ _
      | exact verdererref04_text.mono _ _
      | exact LeO.none _
      | refine LeO.ite ?_ ?_
      | refine LeO.bind ?_ (fun _ => ?_)
set_option maxHeartbeats 8000000 in
set_option maxRecDepth 100000 in
theorem verdererref04_First.calls (k : Nat) (A0 : Option Addr) (c0 : Nat) (l0 : List Int) (r1 : Int) (r2 : Bool) (r3 : Int) (r4 : ByteArray) (r5 : Int) (r6 : Int) (w : World) (hr0 : Kd.C (Kd.int .u8) w A0 l0.length l0) (hc0 : l0.length ≤ c0) (h : verdererref04_First.f k l0 = some (r1,r2,r3,r4,r5,r6)) :
    Calls Try.prog 38 #[.slice A0 l0.length c0] w fun e w' => e = .returned (.tuple #[.agg #[.int .i64 r1,.bool r2,.int .i64 r3,.string r4],.int .i64 r5,.int .i64 r6]) ∧ Below w.heap.size w w' := by
  have hu50 := Try.underlying50
  have HR0 := Aside0.mk hr0
  have HC0 := Aside0.mk hc0
  clear hr0 hc0
  have HB := Aside0.mk (Below.refl w.heap.size w)
  have H : (if (l0.length : Int) = 0 then (some (0,false,0,(⟨#[]⟩ : ByteArray),0,8)) else (if 0 < (l0.length : Int) then (if (rd l0 0) = 1 then (some (0,false,0,(⟨#[]⟩ : ByteArray),1,0)) else (if (rd l0 0) = 2 then (if (l0.length : Int) < 2 then (some (0,false,0,(⟨#[]⟩ : ByteArray),0,8)) else (if 1 < (l0.length : Int) then (if (rd l0 1) > 1 then (some (0,false,0,(⟨#[]⟩ : ByteArray),0,7)) else (some (1,((rd l0 1) == 1),0,(⟨#[]⟩ : ByteArray),2,0))) else (none))) else (if (rd l0 0) = 3 then (if (l0.length : Int) < 9 then (some (0,false,0,(⟨#[]⟩ : ByteArray),0,8)) else (verdererref04_First.l0 k l0 0 1)) else (if (rd l0 0) = 4 then ((verdererref04_text.f k l0).bind fun bt609 => (some (bt609.1,bt609.2.1,bt609.2.2.1,bt609.2.2.2.1,bt609.2.2.2.2.1,bt609.2.2.2.2.2))) else (some (0,false,0,(⟨#[]⟩ : ByteArray),0,7)))))) else (none))) = some (r1,r2,r3,r4,r5,r6) := h
  clear h
  by_cases c2 : (l0.length : Int) = 0
  · rw [if_pos c2] at H
    have c2b0 : ((l0.length : Int) == 0) = true := beq_iff_eq.mpr c2
    have c2b1 : ((l0.length : Int) != 0) = false := bne_eq_false_iff_eq.mpr c2
    clear c2
    simp only [Option.some.injEq,Prod.mk.injEq] at H
    obtain ⟨rfl,rfl,rfl,rfl,rfl,rfl⟩ := H
    go_enter Try.func38,Try.ntmps38
    go_wp2_with (first | ((with_reducible refine gate_dst (N := 2) rfl ?_);refine box_event ?hg (N := 2) ?hd (cs := #[.int .i64 0,.bool false,.int .i64 0,.string (⟨#[]⟩ : ByteArray)]) (t := 50) ?hr ?_;(case hd => rfl);(case hg => rfl);(case hr => first | (go_simp;done) | (go_simp;rfl));intro gb603 hg w3 hbox hb;have n0_ := Aside0.mk (below_step (by repeat (first | (with_reducible first | exact HB.out | apply below_alloc | apply pw_below_drewN | apply below_drew1) | exact HB.out)) hb);have n1_ := Aside0.mk (hbox);have n2_ := Aside0.mk ((by rw [hg];exact (below_size (by repeat (first | (with_reducible first | exact HB.out | apply below_alloc | apply pw_below_drewN | apply below_drew1) | exact HB.out))) : w.heap.size ≤ gb603));have n3_ := Aside0.mk ((by rw [hg];exact (below_size (by repeat (first | (with_reducible first | exact HB.out | apply below_alloc | apply pw_below_drewN | apply below_drew1) | exact HB.out))) : w.heap.size ≤ gb603));clear HB;have HB := n0_;have BK603 := n1_;have GW603 := n2_;have GE603 := n3_;clear n0_ n1_ n2_ n3_;clear hb hbox hg) | ((with_reducible refine gate_dst (N := 5) rfl ?_);refine box_event ?hg (N := 5) ?hd (cs := #[.int .i64 0,.bool false,.int .i64 0,.string (⟨#[]⟩ : ByteArray)]) (t := 50) ?hr ?_;(case hd => rfl);(case hg => rfl);(case hr => first | (go_simp;done) | (go_simp;rfl));intro gb604 hg w4 hbox hb;have n0_ := Aside0.mk (blk_below (g := gb603) (o := .cells #[.int .i64 0,.bool false,.int .i64 0,.string (⟨#[]⟩ : ByteArray)] 50 (0,0)) (by (with_reducible repeat (first | refine blk_drewN ?_ _ | refine blk_drew ?_ | refine blk_alloc ?_ _));exact BK603.out) hb);have n1_ := Aside0.mk (below_step (by repeat (first | (with_reducible first | exact HB.out | apply below_alloc | apply pw_below_drewN | apply below_drew1 | refine below_set ?_ GE603.out) | exact HB.out)) hb);have n2_ := Aside0.mk (hbox);have n3_ := Aside0.mk ((by rw [hg];exact (below_size (by repeat (first | (with_reducible first | exact HB.out | apply below_alloc | apply pw_below_drewN | apply below_drew1 | refine below_set ?_ GE603.out) | exact HB.out))) : w.heap.size ≤ gb604));have n4_ := Aside0.mk ((by rw [hg];exact (below_size (by repeat (first | (with_reducible first | exact HB.out | apply below_alloc | apply pw_below_drewN | apply below_drew1 | refine below_set ?_ GE603.out) | exact HB.out))) : w.heap.size ≤ gb604));have n5_ := Aside0.mk ((by rw [hg];exact Nat.ne_of_lt (blk_lt (g := gb603) (o := .cells #[.int .i64 0,.bool false,.int .i64 0,.string (⟨#[]⟩ : ByteArray)] 50 (0,0)) (by (with_reducible repeat (first | refine blk_drewN ?_ _ | refine blk_drew ?_ | refine blk_alloc ?_ _));exact BK603.out)) : gb603 ≠ gb604));have n6_ := Aside0.mk ((by rw [hg];exact Nat.ne_of_gt (blk_lt (g := gb603) (o := .cells #[.int .i64 0,.bool false,.int .i64 0,.string (⟨#[]⟩ : ByteArray)] 50 (0,0)) (by (with_reducible repeat (first | refine blk_drewN ?_ _ | refine blk_drew ?_ | refine blk_alloc ?_ _));exact BK603.out)) : gb604 ≠ gb603));clear BK603;clear HB;have BK603 := n0_;have HB := n1_;have BK604 := n2_;have GW604 := n3_;have GE604 := n4_;have NB603_604 := n5_;have NB604_603 := n6_;clear n0_ n1_ n2_ n3_ n4_ n5_ n6_;clear hb hbox hg;have hnb5 := NB604_603.out;have hnc5 := NB603_604.out;have hcz6_0 : w4.cell? ⟨gb604,0,none⟩ = some (.int .i64 0) := (blk_cell BK604.out 0).trans rfl;have hcz6_1 : w4.cell? ⟨gb604,1,none⟩ = some (.bool false) := (blk_cell BK604.out 1).trans rfl;have hcz6_2 : w4.cell? ⟨gb604,2,none⟩ = some (.int .i64 0) := (blk_cell BK604.out 2).trans rfl;have hcz6_3 : w4.cell? ⟨gb604,3,none⟩ = some (.string (⟨#[]⟩ : ByteArray)) := (blk_cell BK604.out 3).trans rfl;have hfz6_0 := blk_frozen BK604.out 0;have hfz6_1 := blk_frozen BK604.out 1;have hfz6_2 := blk_frozen BK604.out 2;have hfz6_3 := blk_frozen BK604.out 3;have hcz7_0 : w4.cell? ⟨gb603,0,none⟩ = some (.int .i64 0) := (blk_cell BK603.out 0).trans rfl;have hcz7_1 : w4.cell? ⟨gb603,1,none⟩ = some (.bool false) := (blk_cell BK603.out 1).trans rfl;have hcz7_2 : w4.cell? ⟨gb603,2,none⟩ = some (.int .i64 0) := (blk_cell BK603.out 2).trans rfl;have hcz7_3 : w4.cell? ⟨gb603,3,none⟩ = some (.string (⟨#[]⟩ : ByteArray)) := (blk_cell BK603.out 3).trans rfl;have hfz7_0 := blk_frozen BK603.out 0;have hfz7_1 := blk_frozen BK603.out 1;have hfz7_2 := blk_frozen BK603.out 2;have hfz7_3 := blk_frozen BK603.out 3))
    refine bodyPost_ret (results_ctt rfl _ _ gb603 50 #[.int .i64 0,.bool false,.int .i64 0,.string (⟨#[]⟩ : ByteArray)] (0,0) _ rfl (by (with_reducible repeat (first | refine blk_drewN ?_ _ | refine blk_drew ?_ | refine blk_alloc ?_ _));refine blk_put (cs := #[.int .i64 0,.bool false,.int .i64 0,.string (⟨#[]⟩ : ByteArray)]) ?_ 3 _ rfl;(with_reducible repeat (first | refine blk_drewN ?_ _ | refine blk_drew ?_ | refine blk_alloc ?_ _));refine blk_put (cs := #[.int .i64 0,.bool false,.int .i64 0,.string (⟨#[]⟩ : ByteArray)]) ?_ 2 _ rfl;(with_reducible repeat (first | refine blk_drewN ?_ _ | refine blk_drew ?_ | refine blk_alloc ?_ _));refine blk_put (cs := #[.int .i64 0,.bool false,.int .i64 0,.string (⟨#[]⟩ : ByteArray)]) ?_ 1 _ rfl;(with_reducible repeat (first | refine blk_drewN ?_ _ | refine blk_drew ?_ | refine blk_alloc ?_ _));refine blk_put (cs := #[.int .i64 0,.bool false,.int .i64 0,.string (⟨#[]⟩ : ByteArray)]) ?_ 0 _ rfl;(with_reducible repeat (first | refine blk_drewN ?_ _ | refine blk_drew ?_ | refine blk_alloc ?_ _));refine blk_far ?_ NB603_604.out _;(with_reducible repeat (first | refine blk_drewN ?_ _ | refine blk_drew ?_ | refine blk_alloc ?_ _));refine blk_far ?_ NB603_604.out _;(with_reducible repeat (first | refine blk_drewN ?_ _ | refine blk_drew ?_ | refine blk_alloc ?_ _));refine blk_far ?_ NB603_604.out _;(with_reducible repeat (first | refine blk_drewN ?_ _ | refine blk_drew ?_ | refine blk_alloc ?_ _));refine blk_far ?_ NB603_604.out _;(with_reducible repeat (first | refine blk_drewN ?_ _ | refine blk_drew ?_ | refine blk_alloc ?_ _));exact BK603.out) Try.underlying50 rfl (by kernel_rfl)) rfl ?_
    exact ⟨by first | rfl | (simp [errW_none,errW_some] <;> rfl) | (simp [*,errW_none,errW_some] <;> rfl),by repeat (first | (with_reducible first | exact HB.out | apply below_alloc | apply pw_below_drewN | apply below_drew1 | refine below_set ?_ GE603.out | refine below_set ?_ GE604.out) | exact HB.out)⟩
  · rw [if_neg c2] at H
    have c2b0 : ((l0.length : Int) == 0) = false := beq_eq_false_iff_ne.mpr c2
    have c2b1 : ((l0.length : Int) != 0) = true := bne_iff_ne.mpr c2
    have c2b2 : ¬ (l0 = []) := fun h_ => c2 (by rw [h_];rfl)
    by_cases c8 : 0 < (l0.length : Int)
    · rw [if_pos c8] at H
      have c8b0 : decide (0 < (l0.length : Int)) = true := decide_eq_true c8
      have c8b1 : decide (0 < l0.length) = true := decide_eq_true (by omega)
      clear c8
      by_cases c9 : (rd l0 0) = 1
      · rw [if_pos c9] at H
        have c9b0 : ((rd l0 0) == 1) = true := beq_iff_eq.mpr c9
        have c9b1 : ((rd l0 0) != 1) = false := bne_eq_false_iff_eq.mpr c9
        clear c9
        simp only [Option.some.injEq,Prod.mk.injEq] at H
        obtain ⟨rfl,rfl,rfl,rfl,rfl,rfl⟩ := H
        go_enter Try.func38,Try.ntmps38
        go_wp2_with (first | ((with_reducible refine gate_dst (N := 2) rfl ?_);refine box_event ?hg (N := 2) ?hd (cs := #[.int .i64 0,.bool false,.int .i64 0,.string (⟨#[]⟩ : ByteArray)]) (t := 50) ?hr ?_;(case hd => rfl);(case hg => rfl);(case hr => first | (go_simp;done) | (go_simp;rfl));intro gb603 hg w10 hbox hb;have n0_ := Aside0.mk (below_step (by repeat (first | (with_reducible first | exact HB.out | apply below_alloc | apply pw_below_drewN | apply below_drew1) | exact HB.out)) hb);have n1_ := Aside0.mk (hbox);have n2_ := Aside0.mk ((by rw [hg];exact (below_size (by repeat (first | (with_reducible first | exact HB.out | apply below_alloc | apply pw_below_drewN | apply below_drew1) | exact HB.out))) : w.heap.size ≤ gb603));have n3_ := Aside0.mk ((by rw [hg];exact (below_size (by repeat (first | (with_reducible first | exact HB.out | apply below_alloc | apply pw_below_drewN | apply below_drew1) | exact HB.out))) : w.heap.size ≤ gb603));clear HB;have HB := n0_;have BK603 := n1_;have GW603 := n2_;have GE603 := n3_;clear n0_ n1_ n2_ n3_;clear hb hbox hg) | ((with_reducible refine gate_dst (N := 5) rfl ?_);refine box_event ?hg (N := 5) ?hd (cs := #[.int .i64 0,.bool false,.int .i64 0,.string (⟨#[]⟩ : ByteArray)]) (t := 50) ?hr ?_;(case hd => rfl);(case hg => rfl);(case hr => first | (go_simp;done) | (go_simp;rfl));intro gb604 hg w11 hbox hb;have n0_ := Aside0.mk (blk_below (g := gb603) (o := .cells #[.int .i64 0,.bool false,.int .i64 0,.string (⟨#[]⟩ : ByteArray)] 50 (0,0)) (by (with_reducible repeat (first | refine blk_drewN ?_ _ | refine blk_drew ?_ | refine blk_alloc ?_ _));exact BK603.out) hb);have n1_ := Aside0.mk (below_step (by repeat (first | (with_reducible first | exact HB.out | apply below_alloc | apply pw_below_drewN | apply below_drew1 | refine below_set ?_ GE603.out) | exact HB.out)) hb);have n2_ := Aside0.mk (hbox);have n3_ := Aside0.mk ((by rw [hg];exact (below_size (by repeat (first | (with_reducible first | exact HB.out | apply below_alloc | apply pw_below_drewN | apply below_drew1 | refine below_set ?_ GE603.out) | exact HB.out))) : w.heap.size ≤ gb604));have n4_ := Aside0.mk ((by rw [hg];exact (below_size (by repeat (first | (with_reducible first | exact HB.out | apply below_alloc | apply pw_below_drewN | apply below_drew1 | refine below_set ?_ GE603.out) | exact HB.out))) : w.heap.size ≤ gb604));have n5_ := Aside0.mk ((by rw [hg];exact Nat.ne_of_lt (blk_lt (g := gb603) (o := .cells #[.int .i64 0,.bool false,.int .i64 0,.string (⟨#[]⟩ : ByteArray)] 50 (0,0)) (by (with_reducible repeat (first | refine blk_drewN ?_ _ | refine blk_drew ?_ | refine blk_alloc ?_ _));exact BK603.out)) : gb603 ≠ gb604));have n6_ := Aside0.mk ((by rw [hg];exact Nat.ne_of_gt (blk_lt (g := gb603) (o := .cells #[.int .i64 0,.bool false,.int .i64 0,.string (⟨#[]⟩ : ByteArray)] 50 (0,0)) (by (with_reducible repeat (first | refine blk_drewN ?_ _ | refine blk_drew ?_ | refine blk_alloc ?_ _));exact BK603.out)) : gb604 ≠ gb603));clear BK603;clear HB;have BK603 := n0_;have HB := n1_;have BK604 := n2_;have GW604 := n3_;have GE604 := n4_;have NB603_604 := n5_;have NB604_603 := n6_;clear n0_ n1_ n2_ n3_ n4_ n5_ n6_;clear hb hbox hg;have hnb12 := NB604_603.out;have hnc12 := NB603_604.out;have hcz13_0 : w11.cell? ⟨gb604,0,none⟩ = some (.int .i64 0) := (blk_cell BK604.out 0).trans rfl;have hcz13_1 : w11.cell? ⟨gb604,1,none⟩ = some (.bool false) := (blk_cell BK604.out 1).trans rfl;have hcz13_2 : w11.cell? ⟨gb604,2,none⟩ = some (.int .i64 0) := (blk_cell BK604.out 2).trans rfl;have hcz13_3 : w11.cell? ⟨gb604,3,none⟩ = some (.string (⟨#[]⟩ : ByteArray)) := (blk_cell BK604.out 3).trans rfl;have hfz13_0 := blk_frozen BK604.out 0;have hfz13_1 := blk_frozen BK604.out 1;have hfz13_2 := blk_frozen BK604.out 2;have hfz13_3 := blk_frozen BK604.out 3;have p605 : 0 ≤ (0 : Int) := (by omega);have q605 : 0 < (l0.length : Int) := of_decide_eq_true (by first | (with_reducible assumption) | assumption);obtain ⟨ad605,e605,hx605_0⟩ := Kd.at_int HR0.out 0 p605 q605;cases e605;have qi605 : (0 < l0.length) = True := eq_true (by omega);(try rw [show ((0 : Int)).toNat = 0 from rfl] at hx605_0);(try rw [Addr.add_zero'] at hx605_0);have hn605_0 : ad605.block ≠ gb604 := Nat.ne_of_lt (Nat.lt_of_lt_of_le (by have := World.block_lt_of_cell? _ _ hx605_0;first | rwa [add_block] at this | exact this) GW604.out);have hn605_1 : ad605.block ≠ gb604 := Nat.ne_of_lt (Nat.lt_of_lt_of_le (by have := World.block_lt_of_cell? _ _ hx605_0;first | rwa [add_block] at this | exact this) GW604.out);have hn605_2 : ad605.block ≠ gb604 := Nat.ne_of_lt (Nat.lt_of_lt_of_le (by have := World.block_lt_of_cell? _ _ hx605_0;first | rwa [add_block] at this | exact this) GW604.out);have hn605_3 : ad605.block ≠ gb604 := Nat.ne_of_lt (Nat.lt_of_lt_of_le (by have := World.block_lt_of_cell? _ _ hx605_0;first | rwa [add_block] at this | exact this) GW604.out);replace hx605_0 := (HB.out.cell (World.block_lt_of_cell? w _ hx605_0)).trans hx605_0;replace hx605_0 := (cell_far (p := ⟨gb604,0,none⟩) (by first | (rw [add_block];exact hn605_0) | (show (Addr.add _ _).block ≠ _;rw [add_block];exact hn605_0) | exact hn605_0) (.int .i64 0)).trans hx605_0;replace hx605_0 := (cell_far (p := ⟨gb604,1,none⟩) (by first | (rw [add_block];exact hn605_1) | (show (Addr.add _ _).block ≠ _;rw [add_block];exact hn605_1) | exact hn605_1) (.bool false)).trans hx605_0;replace hx605_0 := (cell_far (p := ⟨gb604,2,none⟩) (by first | (rw [add_block];exact hn605_2) | (show (Addr.add _ _).block ≠ _;rw [add_block];exact hn605_2) | exact hn605_2) (.int .i64 0)).trans hx605_0;replace hx605_0 := (cell_far (p := ⟨gb604,3,none⟩) (by first | (rw [add_block];exact hn605_3) | (show (Addr.add _ _).block ≠ _;rw [add_block];exact hn605_3) | exact hn605_3) (.string (⟨#[]⟩ : ByteArray))).trans hx605_0;clear hn605_0;clear hn605_1;clear hn605_2;clear hn605_3;replace p605 := eq_true p605;replace q605 := eq_true q605;have hcz14_0 : w11.cell? ⟨gb603,0,none⟩ = some (.int .i64 0) := (blk_cell BK603.out 0).trans rfl;have hcz14_1 : w11.cell? ⟨gb603,1,none⟩ = some (.bool false) := (blk_cell BK603.out 1).trans rfl;have hcz14_2 : w11.cell? ⟨gb603,2,none⟩ = some (.int .i64 0) := (blk_cell BK603.out 2).trans rfl;have hcz14_3 : w11.cell? ⟨gb603,3,none⟩ = some (.string (⟨#[]⟩ : ByteArray)) := (blk_cell BK603.out 3).trans rfl;have hfz14_0 := blk_frozen BK603.out 0;have hfz14_1 := blk_frozen BK603.out 1;have hfz14_2 := blk_frozen BK603.out 2;have hfz14_3 := blk_frozen BK603.out 3))
        refine bodyPost_ret (results_ctt rfl _ _ gb603 50 #[.int .i64 0,.bool false,.int .i64 0,.string (⟨#[]⟩ : ByteArray)] (0,0) _ rfl (by (with_reducible repeat (first | refine blk_drewN ?_ _ | refine blk_drew ?_ | refine blk_alloc ?_ _));refine blk_put (cs := #[.int .i64 0,.bool false,.int .i64 0,.string (⟨#[]⟩ : ByteArray)]) ?_ 3 _ rfl;(with_reducible repeat (first | refine blk_drewN ?_ _ | refine blk_drew ?_ | refine blk_alloc ?_ _));refine blk_put (cs := #[.int .i64 0,.bool false,.int .i64 0,.string (⟨#[]⟩ : ByteArray)]) ?_ 2 _ rfl;(with_reducible repeat (first | refine blk_drewN ?_ _ | refine blk_drew ?_ | refine blk_alloc ?_ _));refine blk_put (cs := #[.int .i64 0,.bool false,.int .i64 0,.string (⟨#[]⟩ : ByteArray)]) ?_ 1 _ rfl;(with_reducible repeat (first | refine blk_drewN ?_ _ | refine blk_drew ?_ | refine blk_alloc ?_ _));refine blk_put (cs := #[.int .i64 0,.bool false,.int .i64 0,.string (⟨#[]⟩ : ByteArray)]) ?_ 0 _ rfl;(with_reducible repeat (first | refine blk_drewN ?_ _ | refine blk_drew ?_ | refine blk_alloc ?_ _));refine blk_far ?_ NB603_604.out _;(with_reducible repeat (first | refine blk_drewN ?_ _ | refine blk_drew ?_ | refine blk_alloc ?_ _));refine blk_far ?_ NB603_604.out _;(with_reducible repeat (first | refine blk_drewN ?_ _ | refine blk_drew ?_ | refine blk_alloc ?_ _));refine blk_far ?_ NB603_604.out _;(with_reducible repeat (first | refine blk_drewN ?_ _ | refine blk_drew ?_ | refine blk_alloc ?_ _));refine blk_far ?_ NB603_604.out _;(with_reducible repeat (first | refine blk_drewN ?_ _ | refine blk_drew ?_ | refine blk_alloc ?_ _));exact BK603.out) Try.underlying50 rfl (by kernel_rfl)) rfl ?_
        exact ⟨by first | rfl | (simp [errW_none,errW_some] <;> rfl) | (simp [*,errW_none,errW_some] <;> rfl),by repeat (first | (with_reducible first | exact HB.out | apply below_alloc | apply pw_below_drewN | apply below_drew1 | refine below_set ?_ GE603.out | refine below_set ?_ GE604.out) | exact HB.out)⟩
      · rw [if_neg c9] at H
        have c9b0 : ((rd l0 0) == 1) = false := beq_eq_false_iff_ne.mpr c9
        have c9b1 : ((rd l0 0) != 1) = true := bne_iff_ne.mpr c9
        by_cases c15 : (rd l0 0) = 2
        · rw [if_pos c15] at H
          have c15b0 : ((rd l0 0) == 2) = true := beq_iff_eq.mpr c15
          have c15b1 : ((rd l0 0) != 2) = false := bne_eq_false_iff_eq.mpr c15
          clear c15
          by_cases c16 : (l0.length : Int) < 2
          · rw [if_pos c16] at H
            have c16b0 : decide ((l0.length : Int) < 2) = true := decide_eq_true c16
            have c16b1 : decide (l0.length < 2) = true := decide_eq_true (by omega)
            clear c16
            simp only [Option.some.injEq,Prod.mk.injEq] at H
            obtain ⟨rfl,rfl,rfl,rfl,rfl,rfl⟩ := H
            go_enter Try.func38,Try.ntmps38
            go_wp2_with (first | ((with_reducible refine gate_dst (N := 2) rfl ?_);refine box_event ?hg (N := 2) ?hd (cs := #[.int .i64 0,.bool false,.int .i64 0,.string (⟨#[]⟩ : ByteArray)]) (t := 50) ?hr ?_;(case hd => rfl);(case hg => rfl);(case hr => first | (go_simp;done) | (go_simp;rfl));intro gb603 hg w17 hbox hb;have n0_ := Aside0.mk (below_step (by repeat (first | (with_reducible first | exact HB.out | apply below_alloc | apply pw_below_drewN | apply below_drew1) | exact HB.out)) hb);have n1_ := Aside0.mk (hbox);have n2_ := Aside0.mk ((by rw [hg];exact (below_size (by repeat (first | (with_reducible first | exact HB.out | apply below_alloc | apply pw_below_drewN | apply below_drew1) | exact HB.out))) : w.heap.size ≤ gb603));have n3_ := Aside0.mk ((by rw [hg];exact (below_size (by repeat (first | (with_reducible first | exact HB.out | apply below_alloc | apply pw_below_drewN | apply below_drew1) | exact HB.out))) : w.heap.size ≤ gb603));clear HB;have HB := n0_;have BK603 := n1_;have GW603 := n2_;have GE603 := n3_;clear n0_ n1_ n2_ n3_;clear hb hbox hg) | ((with_reducible refine gate_dst (N := 5) rfl ?_);refine box_event ?hg (N := 5) ?hd (cs := #[.int .i64 0,.bool false,.int .i64 0,.string (⟨#[]⟩ : ByteArray)]) (t := 50) ?hr ?_;(case hd => rfl);(case hg => rfl);(case hr => first | (go_simp;done) | (go_simp;rfl));intro gb604 hg w18 hbox hb;have n0_ := Aside0.mk (blk_below (g := gb603) (o := .cells #[.int .i64 0,.bool false,.int .i64 0,.string (⟨#[]⟩ : ByteArray)] 50 (0,0)) (by (with_reducible repeat (first | refine blk_drewN ?_ _ | refine blk_drew ?_ | refine blk_alloc ?_ _));exact BK603.out) hb);have n1_ := Aside0.mk (below_step (by repeat (first | (with_reducible first | exact HB.out | apply below_alloc | apply pw_below_drewN | apply below_drew1 | refine below_set ?_ GE603.out) | exact HB.out)) hb);have n2_ := Aside0.mk (hbox);have n3_ := Aside0.mk ((by rw [hg];exact (below_size (by repeat (first | (with_reducible first | exact HB.out | apply below_alloc | apply pw_below_drewN | apply below_drew1 | refine below_set ?_ GE603.out) | exact HB.out))) : w.heap.size ≤ gb604));have n4_ := Aside0.mk ((by rw [hg];exact (below_size (by repeat (first | (with_reducible first | exact HB.out | apply below_alloc | apply pw_below_drewN | apply below_drew1 | refine below_set ?_ GE603.out) | exact HB.out))) : w.heap.size ≤ gb604));have n5_ := Aside0.mk ((by rw [hg];exact Nat.ne_of_lt (blk_lt (g := gb603) (o := .cells #[.int .i64 0,.bool false,.int .i64 0,.string (⟨#[]⟩ : ByteArray)] 50 (0,0)) (by (with_reducible repeat (first | refine blk_drewN ?_ _ | refine blk_drew ?_ | refine blk_alloc ?_ _));exact BK603.out)) : gb603 ≠ gb604));have n6_ := Aside0.mk ((by rw [hg];exact Nat.ne_of_gt (blk_lt (g := gb603) (o := .cells #[.int .i64 0,.bool false,.int .i64 0,.string (⟨#[]⟩ : ByteArray)] 50 (0,0)) (by (with_reducible repeat (first | refine blk_drewN ?_ _ | refine blk_drew ?_ | refine blk_alloc ?_ _));exact BK603.out)) : gb604 ≠ gb603));clear BK603;clear HB;have BK603 := n0_;have HB := n1_;have BK604 := n2_;have GW604 := n3_;have GE604 := n4_;have NB603_604 := n5_;have NB604_603 := n6_;clear n0_ n1_ n2_ n3_ n4_ n5_ n6_;clear hb hbox hg;have hnb19 := NB604_603.out;have hnc19 := NB603_604.out;have hcz20_0 : w18.cell? ⟨gb604,0,none⟩ = some (.int .i64 0) := (blk_cell BK604.out 0).trans rfl;have hcz20_1 : w18.cell? ⟨gb604,1,none⟩ = some (.bool false) := (blk_cell BK604.out 1).trans rfl;have hcz20_2 : w18.cell? ⟨gb604,2,none⟩ = some (.int .i64 0) := (blk_cell BK604.out 2).trans rfl;have hcz20_3 : w18.cell? ⟨gb604,3,none⟩ = some (.string (⟨#[]⟩ : ByteArray)) := (blk_cell BK604.out 3).trans rfl;have hfz20_0 := blk_frozen BK604.out 0;have hfz20_1 := blk_frozen BK604.out 1;have hfz20_2 := blk_frozen BK604.out 2;have hfz20_3 := blk_frozen BK604.out 3;have p605 : 0 ≤ (0 : Int) := (by omega);have q605 : 0 < (l0.length : Int) := of_decide_eq_true (by first | (with_reducible assumption) | assumption);obtain ⟨ad605,e605,hx605_0⟩ := Kd.at_int HR0.out 0 p605 q605;cases e605;have qi605 : (0 < l0.length) = True := eq_true (by omega);(try rw [show ((0 : Int)).toNat = 0 from rfl] at hx605_0);(try rw [Addr.add_zero'] at hx605_0);have hn605_0 : ad605.block ≠ gb604 := Nat.ne_of_lt (Nat.lt_of_lt_of_le (by have := World.block_lt_of_cell? _ _ hx605_0;first | rwa [add_block] at this | exact this) GW604.out);have hn605_1 : ad605.block ≠ gb604 := Nat.ne_of_lt (Nat.lt_of_lt_of_le (by have := World.block_lt_of_cell? _ _ hx605_0;first | rwa [add_block] at this | exact this) GW604.out);have hn605_2 : ad605.block ≠ gb604 := Nat.ne_of_lt (Nat.lt_of_lt_of_le (by have := World.block_lt_of_cell? _ _ hx605_0;first | rwa [add_block] at this | exact this) GW604.out);have hn605_3 : ad605.block ≠ gb604 := Nat.ne_of_lt (Nat.lt_of_lt_of_le (by have := World.block_lt_of_cell? _ _ hx605_0;first | rwa [add_block] at this | exact this) GW604.out);replace hx605_0 := (HB.out.cell (World.block_lt_of_cell? w _ hx605_0)).trans hx605_0;replace hx605_0 := (cell_far (p := ⟨gb604,0,none⟩) (by first | (rw [add_block];exact hn605_0) | (show (Addr.add _ _).block ≠ _;rw [add_block];exact hn605_0) | exact hn605_0) (.int .i64 0)).trans hx605_0;replace hx605_0 := (cell_far (p := ⟨gb604,1,none⟩) (by first | (rw [add_block];exact hn605_1) | (show (Addr.add _ _).block ≠ _;rw [add_block];exact hn605_1) | exact hn605_1) (.bool false)).trans hx605_0;replace hx605_0 := (cell_far (p := ⟨gb604,2,none⟩) (by first | (rw [add_block];exact hn605_2) | (show (Addr.add _ _).block ≠ _;rw [add_block];exact hn605_2) | exact hn605_2) (.int .i64 0)).trans hx605_0;replace hx605_0 := (cell_far (p := ⟨gb604,3,none⟩) (by first | (rw [add_block];exact hn605_3) | (show (Addr.add _ _).block ≠ _;rw [add_block];exact hn605_3) | exact hn605_3) (.string (⟨#[]⟩ : ByteArray))).trans hx605_0;clear hn605_0;clear hn605_1;clear hn605_2;clear hn605_3;replace p605 := eq_true p605;replace q605 := eq_true q605;have hcz21_0 : w18.cell? ⟨gb603,0,none⟩ = some (.int .i64 0) := (blk_cell BK603.out 0).trans rfl;have hcz21_1 : w18.cell? ⟨gb603,1,none⟩ = some (.bool false) := (blk_cell BK603.out 1).trans rfl;have hcz21_2 : w18.cell? ⟨gb603,2,none⟩ = some (.int .i64 0) := (blk_cell BK603.out 2).trans rfl;have hcz21_3 : w18.cell? ⟨gb603,3,none⟩ = some (.string (⟨#[]⟩ : ByteArray)) := (blk_cell BK603.out 3).trans rfl;have hfz21_0 := blk_frozen BK603.out 0;have hfz21_1 := blk_frozen BK603.out 1;have hfz21_2 := blk_frozen BK603.out 2;have hfz21_3 := blk_frozen BK603.out 3))
            refine bodyPost_ret (results_ctt rfl _ _ gb603 50 #[.int .i64 0,.bool false,.int .i64 0,.string (⟨#[]⟩ : ByteArray)] (0,0) _ rfl (by (with_reducible repeat (first | refine blk_drewN ?_ _ | refine blk_drew ?_ | refine blk_alloc ?_ _));refine blk_put (cs := #[.int .i64 0,.bool false,.int .i64 0,.string (⟨#[]⟩ : ByteArray)]) ?_ 3 _ rfl;(with_reducible repeat (first | refine blk_drewN ?_ _ | refine blk_drew ?_ | refine blk_alloc ?_ _));refine blk_put (cs := #[.int .i64 0,.bool false,.int .i64 0,.string (⟨#[]⟩ : ByteArray)]) ?_ 2 _ rfl;(with_reducible repeat (first | refine blk_drewN ?_ _ | refine blk_drew ?_ | refine blk_alloc ?_ _));refine blk_put (cs := #[.int .i64 0,.bool false,.int .i64 0,.string (⟨#[]⟩ : ByteArray)]) ?_ 1 _ rfl;(with_reducible repeat (first | refine blk_drewN ?_ _ | refine blk_drew ?_ | refine blk_alloc ?_ _));refine blk_put (cs := #[.int .i64 0,.bool false,.int .i64 0,.string (⟨#[]⟩ : ByteArray)]) ?_ 0 _ rfl;(with_reducible repeat (first | refine blk_drewN ?_ _ | refine blk_drew ?_ | refine blk_alloc ?_ _));refine blk_far ?_ NB603_604.out _;(with_reducible repeat (first | refine blk_drewN ?_ _ | refine blk_drew ?_ | refine blk_alloc ?_ _));refine blk_far ?_ NB603_604.out _;(with_reducible repeat (first | refine blk_drewN ?_ _ | refine blk_drew ?_ | refine blk_alloc ?_ _));refine blk_far ?_ NB603_604.out _;(with_reducible repeat (first | refine blk_drewN ?_ _ | refine blk_drew ?_ | refine blk_alloc ?_ _));refine blk_far ?_ NB603_604.out _;(with_reducible repeat (first | refine blk_drewN ?_ _ | refine blk_drew ?_ | refine blk_alloc ?_ _));exact BK603.out) Try.underlying50 rfl (by kernel_rfl)) rfl ?_
            exact ⟨by first | rfl | (simp [errW_none,errW_some] <;> rfl) | (simp [*,errW_none,errW_some] <;> rfl),by repeat (first | (with_reducible first | exact HB.out | apply below_alloc | apply pw_below_drewN | apply below_drew1 | refine below_set ?_ GE603.out | refine below_set ?_ GE604.out) | exact HB.out)⟩
          · rw [if_neg c16] at H
            have c16b0 : decide ((l0.length : Int) < 2) = false := decide_eq_false c16
            have c16b1 : decide (l0.length < 2) = false := decide_eq_false (by omega)
            clear c16
            by_cases c22 : 1 < (l0.length : Int)
            · rw [if_pos c22] at H
              have c22b0 : decide (1 < (l0.length : Int)) = true := decide_eq_true c22
              have c22b1 : decide (1 < l0.length) = true := decide_eq_true (by omega)
              clear c22
              by_cases c23 : (rd l0 1) > 1
              · rw [if_pos c23] at H
                have c23b0 : decide (1 < (rd l0 1)) = true := decide_eq_true c23
                clear c23
                simp only [Option.some.injEq,Prod.mk.injEq] at H
                obtain ⟨rfl,rfl,rfl,rfl,rfl,rfl⟩ := H
                go_enter Try.func38,Try.ntmps38
                go_wp2_with (first | ((with_reducible refine gate_dst (N := 2) rfl ?_);refine box_event ?hg (N := 2) ?hd (cs := #[.int .i64 0,.bool false,.int .i64 0,.string (⟨#[]⟩ : ByteArray)]) (t := 50) ?hr ?_;(case hd => rfl);(case hg => rfl);(case hr => first | (go_simp;done) | (go_simp;rfl));intro gb603 hg w24 hbox hb;have n0_ := Aside0.mk (below_step (by repeat (first | (with_reducible first | exact HB.out | apply below_alloc | apply pw_below_drewN | apply below_drew1) | exact HB.out)) hb);have n1_ := Aside0.mk (hbox);have n2_ := Aside0.mk ((by rw [hg];exact (below_size (by repeat (first | (with_reducible first | exact HB.out | apply below_alloc | apply pw_below_drewN | apply below_drew1) | exact HB.out))) : w.heap.size ≤ gb603));have n3_ := Aside0.mk ((by rw [hg];exact (below_size (by repeat (first | (with_reducible first | exact HB.out | apply below_alloc | apply pw_below_drewN | apply below_drew1) | exact HB.out))) : w.heap.size ≤ gb603));clear HB;have HB := n0_;have BK603 := n1_;have GW603 := n2_;have GE603 := n3_;clear n0_ n1_ n2_ n3_;clear hb hbox hg) | ((with_reducible refine gate_dst (N := 5) rfl ?_);refine box_event ?hg (N := 5) ?hd (cs := #[.int .i64 0,.bool false,.int .i64 0,.string (⟨#[]⟩ : ByteArray)]) (t := 50) ?hr ?_;(case hd => rfl);(case hg => rfl);(case hr => first | (go_simp;done) | (go_simp;rfl));intro gb604 hg w25 hbox hb;have n0_ := Aside0.mk (blk_below (g := gb603) (o := .cells #[.int .i64 0,.bool false,.int .i64 0,.string (⟨#[]⟩ : ByteArray)] 50 (0,0)) (by (with_reducible repeat (first | refine blk_drewN ?_ _ | refine blk_drew ?_ | refine blk_alloc ?_ _));exact BK603.out) hb);have n1_ := Aside0.mk (below_step (by repeat (first | (with_reducible first | exact HB.out | apply below_alloc | apply pw_below_drewN | apply below_drew1 | refine below_set ?_ GE603.out) | exact HB.out)) hb);have n2_ := Aside0.mk (hbox);have n3_ := Aside0.mk ((by rw [hg];exact (below_size (by repeat (first | (with_reducible first | exact HB.out | apply below_alloc | apply pw_below_drewN | apply below_drew1 | refine below_set ?_ GE603.out) | exact HB.out))) : w.heap.size ≤ gb604));have n4_ := Aside0.mk ((by rw [hg];exact (below_size (by repeat (first | (with_reducible first | exact HB.out | apply below_alloc | apply pw_below_drewN | apply below_drew1 | refine below_set ?_ GE603.out) | exact HB.out))) : w.heap.size ≤ gb604));have n5_ := Aside0.mk ((by rw [hg];exact Nat.ne_of_lt (blk_lt (g := gb603) (o := .cells #[.int .i64 0,.bool false,.int .i64 0,.string (⟨#[]⟩ : ByteArray)] 50 (0,0)) (by (with_reducible repeat (first | refine blk_drewN ?_ _ | refine blk_drew ?_ | refine blk_alloc ?_ _));exact BK603.out)) : gb603 ≠ gb604));have n6_ := Aside0.mk ((by rw [hg];exact Nat.ne_of_gt (blk_lt (g := gb603) (o := .cells #[.int .i64 0,.bool false,.int .i64 0,.string (⟨#[]⟩ : ByteArray)] 50 (0,0)) (by (with_reducible repeat (first | refine blk_drewN ?_ _ | refine blk_drew ?_ | refine blk_alloc ?_ _));exact BK603.out)) : gb604 ≠ gb603));clear BK603;clear HB;have BK603 := n0_;have HB := n1_;have BK604 := n2_;have GW604 := n3_;have GE604 := n4_;have NB603_604 := n5_;have NB604_603 := n6_;clear n0_ n1_ n2_ n3_ n4_ n5_ n6_;clear hb hbox hg;have hnb26 := NB604_603.out;have hnc26 := NB603_604.out;have hcz27_0 : w25.cell? ⟨gb604,0,none⟩ = some (.int .i64 0) := (blk_cell BK604.out 0).trans rfl;have hcz27_1 : w25.cell? ⟨gb604,1,none⟩ = some (.bool false) := (blk_cell BK604.out 1).trans rfl;have hcz27_2 : w25.cell? ⟨gb604,2,none⟩ = some (.int .i64 0) := (blk_cell BK604.out 2).trans rfl;have hcz27_3 : w25.cell? ⟨gb604,3,none⟩ = some (.string (⟨#[]⟩ : ByteArray)) := (blk_cell BK604.out 3).trans rfl;have hfz27_0 := blk_frozen BK604.out 0;have hfz27_1 := blk_frozen BK604.out 1;have hfz27_2 := blk_frozen BK604.out 2;have hfz27_3 := blk_frozen BK604.out 3;have p605 : 0 ≤ (0 : Int) := (by omega);have q605 : 0 < (l0.length : Int) := of_decide_eq_true (by first | (with_reducible assumption) | assumption);obtain ⟨ad605,e605,hx605_0⟩ := Kd.at_int HR0.out 0 p605 q605;cases e605;have qi605 : (0 < l0.length) = True := eq_true (by omega);(try rw [show ((0 : Int)).toNat = 0 from rfl] at hx605_0);(try rw [Addr.add_zero'] at hx605_0);have hn605_0 : ad605.block ≠ gb604 := Nat.ne_of_lt (Nat.lt_of_lt_of_le (by have := World.block_lt_of_cell? _ _ hx605_0;first | rwa [add_block] at this | exact this) GW604.out);have hn605_1 : ad605.block ≠ gb604 := Nat.ne_of_lt (Nat.lt_of_lt_of_le (by have := World.block_lt_of_cell? _ _ hx605_0;first | rwa [add_block] at this | exact this) GW604.out);have hn605_2 : ad605.block ≠ gb604 := Nat.ne_of_lt (Nat.lt_of_lt_of_le (by have := World.block_lt_of_cell? _ _ hx605_0;first | rwa [add_block] at this | exact this) GW604.out);have hn605_3 : ad605.block ≠ gb604 := Nat.ne_of_lt (Nat.lt_of_lt_of_le (by have := World.block_lt_of_cell? _ _ hx605_0;first | rwa [add_block] at this | exact this) GW604.out);replace hx605_0 := (HB.out.cell (World.block_lt_of_cell? w _ hx605_0)).trans hx605_0;replace hx605_0 := (cell_far (p := ⟨gb604,0,none⟩) (by first | (rw [add_block];exact hn605_0) | (show (Addr.add _ _).block ≠ _;rw [add_block];exact hn605_0) | exact hn605_0) (.int .i64 0)).trans hx605_0;replace hx605_0 := (cell_far (p := ⟨gb604,1,none⟩) (by first | (rw [add_block];exact hn605_1) | (show (Addr.add _ _).block ≠ _;rw [add_block];exact hn605_1) | exact hn605_1) (.bool false)).trans hx605_0;replace hx605_0 := (cell_far (p := ⟨gb604,2,none⟩) (by first | (rw [add_block];exact hn605_2) | (show (Addr.add _ _).block ≠ _;rw [add_block];exact hn605_2) | exact hn605_2) (.int .i64 0)).trans hx605_0;replace hx605_0 := (cell_far (p := ⟨gb604,3,none⟩) (by first | (rw [add_block];exact hn605_3) | (show (Addr.add _ _).block ≠ _;rw [add_block];exact hn605_3) | exact hn605_3) (.string (⟨#[]⟩ : ByteArray))).trans hx605_0;clear hn605_0;clear hn605_1;clear hn605_2;clear hn605_3;replace p605 := eq_true p605;replace q605 := eq_true q605;have p606 : 0 ≤ (1 : Int) := (by omega);have q606 : 1 < (l0.length : Int) := of_decide_eq_true (by first | (with_reducible assumption) | assumption);obtain ⟨ad606,e606,hx606_0⟩ := Kd.at_int HR0.out 1 p606 q606;obtain rfl : ad605 = ad606 := (by injection e606);(try simp only [show (1 : Int).toNat = 1 from rfl,Nat.reduceMul,Nat.reduceEqDiff,Go.Addr.add,↓reduceIte] at hx606_0);have qi606 : (1 < l0.length) = True := eq_true (by omega);(try rw [show ((1 : Int)).toNat = 1 from rfl] at hx606_0);have hn606_0 : ad605.block ≠ gb604 := Nat.ne_of_lt (Nat.lt_of_lt_of_le (by have := World.block_lt_of_cell? _ _ hx606_0;first | rwa [add_block] at this | exact this) GW604.out);have hn606_1 : ad605.block ≠ gb604 := Nat.ne_of_lt (Nat.lt_of_lt_of_le (by have := World.block_lt_of_cell? _ _ hx606_0;first | rwa [add_block] at this | exact this) GW604.out);have hn606_2 : ad605.block ≠ gb604 := Nat.ne_of_lt (Nat.lt_of_lt_of_le (by have := World.block_lt_of_cell? _ _ hx606_0;first | rwa [add_block] at this | exact this) GW604.out);have hn606_3 : ad605.block ≠ gb604 := Nat.ne_of_lt (Nat.lt_of_lt_of_le (by have := World.block_lt_of_cell? _ _ hx606_0;first | rwa [add_block] at this | exact this) GW604.out);replace hx606_0 := (HB.out.cell (World.block_lt_of_cell? w _ hx606_0)).trans hx606_0;replace hx606_0 := (cell_far (p := ⟨gb604,0,none⟩) (by first | (rw [add_block];exact hn606_0) | (show (Addr.add _ _).block ≠ _;rw [add_block];exact hn606_0) | exact hn606_0) (.int .i64 0)).trans hx606_0;replace hx606_0 := (cell_far (p := ⟨gb604,1,none⟩) (by first | (rw [add_block];exact hn606_1) | (show (Addr.add _ _).block ≠ _;rw [add_block];exact hn606_1) | exact hn606_1) (.bool false)).trans hx606_0;replace hx606_0 := (cell_far (p := ⟨gb604,2,none⟩) (by first | (rw [add_block];exact hn606_2) | (show (Addr.add _ _).block ≠ _;rw [add_block];exact hn606_2) | exact hn606_2) (.int .i64 0)).trans hx606_0;replace hx606_0 := (cell_far (p := ⟨gb604,3,none⟩) (by first | (rw [add_block];exact hn606_3) | (show (Addr.add _ _).block ≠ _;rw [add_block];exact hn606_3) | exact hn606_3) (.string (⟨#[]⟩ : ByteArray))).trans hx606_0;clear hn606_0;clear hn606_1;clear hn606_2;clear hn606_3;replace p606 := eq_true p606;replace q606 := eq_true q606;have hcz28_0 : w25.cell? ⟨gb603,0,none⟩ = some (.int .i64 0) := (blk_cell BK603.out 0).trans rfl;have hcz28_1 : w25.cell? ⟨gb603,1,none⟩ = some (.bool false) := (blk_cell BK603.out 1).trans rfl;have hcz28_2 : w25.cell? ⟨gb603,2,none⟩ = some (.int .i64 0) := (blk_cell BK603.out 2).trans rfl;have hcz28_3 : w25.cell? ⟨gb603,3,none⟩ = some (.string (⟨#[]⟩ : ByteArray)) := (blk_cell BK603.out 3).trans rfl;have hfz28_0 := blk_frozen BK603.out 0;have hfz28_1 := blk_frozen BK603.out 1;have hfz28_2 := blk_frozen BK603.out 2;have hfz28_3 := blk_frozen BK603.out 3))
                refine bodyPost_ret (results_ctt rfl _ _ gb603 50 #[.int .i64 0,.bool false,.int .i64 0,.string (⟨#[]⟩ : ByteArray)] (0,0) _ rfl (by (with_reducible repeat (first | refine blk_drewN ?_ _ | refine blk_drew ?_ | refine blk_alloc ?_ _));refine blk_put (cs := #[.int .i64 0,.bool false,.int .i64 0,.string (⟨#[]⟩ : ByteArray)]) ?_ 3 _ rfl;(with_reducible repeat (first | refine blk_drewN ?_ _ | refine blk_drew ?_ | refine blk_alloc ?_ _));refine blk_put (cs := #[.int .i64 0,.bool false,.int .i64 0,.string (⟨#[]⟩ : ByteArray)]) ?_ 2 _ rfl;(with_reducible repeat (first | refine blk_drewN ?_ _ | refine blk_drew ?_ | refine blk_alloc ?_ _));refine blk_put (cs := #[.int .i64 0,.bool false,.int .i64 0,.string (⟨#[]⟩ : ByteArray)]) ?_ 1 _ rfl;(with_reducible repeat (first | refine blk_drewN ?_ _ | refine blk_drew ?_ | refine blk_alloc ?_ _));refine blk_put (cs := #[.int .i64 0,.bool false,.int .i64 0,.string (⟨#[]⟩ : ByteArray)]) ?_ 0 _ rfl;(with_reducible repeat (first | refine blk_drewN ?_ _ | refine blk_drew ?_ | refine blk_alloc ?_ _));refine blk_far ?_ NB603_604.out _;(with_reducible repeat (first | refine blk_drewN ?_ _ | refine blk_drew ?_ | refine blk_alloc ?_ _));refine blk_far ?_ NB603_604.out _;(with_reducible repeat (first | refine blk_drewN ?_ _ | refine blk_drew ?_ | refine blk_alloc ?_ _));refine blk_far ?_ NB603_604.out _;(with_reducible repeat (first | refine blk_drewN ?_ _ | refine blk_drew ?_ | refine blk_alloc ?_ _));refine blk_far ?_ NB603_604.out _;(with_reducible repeat (first | refine blk_drewN ?_ _ | refine blk_drew ?_ | refine blk_alloc ?_ _));exact BK603.out) Try.underlying50 rfl (by kernel_rfl)) rfl ?_
                exact ⟨by first | rfl | (simp [errW_none,errW_some] <;> rfl) | (simp [*,errW_none,errW_some] <;> rfl),by repeat (first | (with_reducible first | exact HB.out | apply below_alloc | apply pw_below_drewN | apply below_drew1 | refine below_set ?_ GE603.out | refine below_set ?_ GE604.out) | exact HB.out)⟩
              · rw [if_neg c23] at H
                have c23b0 : decide (1 < (rd l0 1)) = false := decide_eq_false c23
                clear c23
                simp only [Option.some.injEq,Prod.mk.injEq] at H
                obtain ⟨rfl,rfl,rfl,rfl,rfl,rfl⟩ := H
                go_enter Try.func38,Try.ntmps38
                go_wp2_with (first | ((with_reducible refine gate_dst (N := 2) rfl ?_);refine box_event ?hg (N := 2) ?hd (cs := #[.int .i64 0,.bool false,.int .i64 0,.string (⟨#[]⟩ : ByteArray)]) (t := 50) ?hr ?_;(case hd => rfl);(case hg => rfl);(case hr => first | (go_simp;done) | (go_simp;rfl));intro gb603 hg w29 hbox hb;have n0_ := Aside0.mk (below_step (by repeat (first | (with_reducible first | exact HB.out | apply below_alloc | apply pw_below_drewN | apply below_drew1) | exact HB.out)) hb);have n1_ := Aside0.mk (hbox);have n2_ := Aside0.mk ((by rw [hg];exact (below_size (by repeat (first | (with_reducible first | exact HB.out | apply below_alloc | apply pw_below_drewN | apply below_drew1) | exact HB.out))) : w.heap.size ≤ gb603));have n3_ := Aside0.mk ((by rw [hg];exact (below_size (by repeat (first | (with_reducible first | exact HB.out | apply below_alloc | apply pw_below_drewN | apply below_drew1) | exact HB.out))) : w.heap.size ≤ gb603));clear HB;have HB := n0_;have BK603 := n1_;have GW603 := n2_;have GE603 := n3_;clear n0_ n1_ n2_ n3_;clear hb hbox hg) | ((with_reducible refine gate_dst (N := 5) rfl ?_);refine box_event ?hg (N := 5) ?hd (cs := #[.int .i64 0,.bool false,.int .i64 0,.string (⟨#[]⟩ : ByteArray)]) (t := 50) ?hr ?_;(case hd => rfl);(case hg => rfl);(case hr => first | (go_simp;done) | (go_simp;rfl));intro gb604 hg w30 hbox hb;have n0_ := Aside0.mk (blk_below (g := gb603) (o := .cells #[.int .i64 0,.bool false,.int .i64 0,.string (⟨#[]⟩ : ByteArray)] 50 (0,0)) (by (with_reducible repeat (first | refine blk_drewN ?_ _ | refine blk_drew ?_ | refine blk_alloc ?_ _));exact BK603.out) hb);have n1_ := Aside0.mk (below_step (by repeat (first | (with_reducible first | exact HB.out | apply below_alloc | apply pw_below_drewN | apply below_drew1 | refine below_set ?_ GE603.out) | exact HB.out)) hb);have n2_ := Aside0.mk (hbox);have n3_ := Aside0.mk ((by rw [hg];exact (below_size (by repeat (first | (with_reducible first | exact HB.out | apply below_alloc | apply pw_below_drewN | apply below_drew1 | refine below_set ?_ GE603.out) | exact HB.out))) : w.heap.size ≤ gb604));have n4_ := Aside0.mk ((by rw [hg];exact (below_size (by repeat (first | (with_reducible first | exact HB.out | apply below_alloc | apply pw_below_drewN | apply below_drew1 | refine below_set ?_ GE603.out) | exact HB.out))) : w.heap.size ≤ gb604));have n5_ := Aside0.mk ((by rw [hg];exact Nat.ne_of_lt (blk_lt (g := gb603) (o := .cells #[.int .i64 0,.bool false,.int .i64 0,.string (⟨#[]⟩ : ByteArray)] 50 (0,0)) (by (with_reducible repeat (first | refine blk_drewN ?_ _ | refine blk_drew ?_ | refine blk_alloc ?_ _));exact BK603.out)) : gb603 ≠ gb604));have n6_ := Aside0.mk ((by rw [hg];exact Nat.ne_of_gt (blk_lt (g := gb603) (o := .cells #[.int .i64 0,.bool false,.int .i64 0,.string (⟨#[]⟩ : ByteArray)] 50 (0,0)) (by (with_reducible repeat (first | refine blk_drewN ?_ _ | refine blk_drew ?_ | refine blk_alloc ?_ _));exact BK603.out)) : gb604 ≠ gb603));clear BK603;clear HB;have BK603 := n0_;have HB := n1_;have BK604 := n2_;have GW604 := n3_;have GE604 := n4_;have NB603_604 := n5_;have NB604_603 := n6_;clear n0_ n1_ n2_ n3_ n4_ n5_ n6_;clear hb hbox hg;have hnb31 := NB604_603.out;have hnc31 := NB603_604.out;have hcz32_0 : w30.cell? ⟨gb604,0,none⟩ = some (.int .i64 0) := (blk_cell BK604.out 0).trans rfl;have hcz32_1 : w30.cell? ⟨gb604,1,none⟩ = some (.bool false) := (blk_cell BK604.out 1).trans rfl;have hcz32_2 : w30.cell? ⟨gb604,2,none⟩ = some (.int .i64 0) := (blk_cell BK604.out 2).trans rfl;have hcz32_3 : w30.cell? ⟨gb604,3,none⟩ = some (.string (⟨#[]⟩ : ByteArray)) := (blk_cell BK604.out 3).trans rfl;have hfz32_0 := blk_frozen BK604.out 0;have hfz32_1 := blk_frozen BK604.out 1;have hfz32_2 := blk_frozen BK604.out 2;have hfz32_3 := blk_frozen BK604.out 3;have p605 : 0 ≤ (0 : Int) := (by omega);have q605 : 0 < (l0.length : Int) := of_decide_eq_true (by first | (with_reducible assumption) | assumption);obtain ⟨ad605,e605,hx605_0⟩ := Kd.at_int HR0.out 0 p605 q605;cases e605;have qi605 : (0 < l0.length) = True := eq_true (by omega);(try rw [show ((0 : Int)).toNat = 0 from rfl] at hx605_0);(try rw [Addr.add_zero'] at hx605_0);have hn605_0 : ad605.block ≠ gb604 := Nat.ne_of_lt (Nat.lt_of_lt_of_le (by have := World.block_lt_of_cell? _ _ hx605_0;first | rwa [add_block] at this | exact this) GW604.out);have hn605_1 : ad605.block ≠ gb604 := Nat.ne_of_lt (Nat.lt_of_lt_of_le (by have := World.block_lt_of_cell? _ _ hx605_0;first | rwa [add_block] at this | exact this) GW604.out);have hn605_2 : ad605.block ≠ gb604 := Nat.ne_of_lt (Nat.lt_of_lt_of_le (by have := World.block_lt_of_cell? _ _ hx605_0;first | rwa [add_block] at this | exact this) GW604.out);have hn605_3 : ad605.block ≠ gb604 := Nat.ne_of_lt (Nat.lt_of_lt_of_le (by have := World.block_lt_of_cell? _ _ hx605_0;first | rwa [add_block] at this | exact this) GW604.out);replace hx605_0 := (HB.out.cell (World.block_lt_of_cell? w _ hx605_0)).trans hx605_0;replace hx605_0 := (cell_far (p := ⟨gb604,0,none⟩) (by first | (rw [add_block];exact hn605_0) | (show (Addr.add _ _).block ≠ _;rw [add_block];exact hn605_0) | exact hn605_0) (.int .i64 0)).trans hx605_0;replace hx605_0 := (cell_far (p := ⟨gb604,1,none⟩) (by first | (rw [add_block];exact hn605_1) | (show (Addr.add _ _).block ≠ _;rw [add_block];exact hn605_1) | exact hn605_1) (.bool false)).trans hx605_0;replace hx605_0 := (cell_far (p := ⟨gb604,2,none⟩) (by first | (rw [add_block];exact hn605_2) | (show (Addr.add _ _).block ≠ _;rw [add_block];exact hn605_2) | exact hn605_2) (.int .i64 0)).trans hx605_0;replace hx605_0 := (cell_far (p := ⟨gb604,3,none⟩) (by first | (rw [add_block];exact hn605_3) | (show (Addr.add _ _).block ≠ _;rw [add_block];exact hn605_3) | exact hn605_3) (.string (⟨#[]⟩ : ByteArray))).trans hx605_0;clear hn605_0;clear hn605_1;clear hn605_2;clear hn605_3;replace p605 := eq_true p605;replace q605 := eq_true q605;have p606 : 0 ≤ (1 : Int) := (by omega);have q606 : 1 < (l0.length : Int) := of_decide_eq_true (by first | (with_reducible assumption) | assumption);obtain ⟨ad606,e606,hx606_0⟩ := Kd.at_int HR0.out 1 p606 q606;obtain rfl : ad605 = ad606 := (by injection e606);(try simp only [show (1 : Int).toNat = 1 from rfl,Nat.reduceMul,Nat.reduceEqDiff,Go.Addr.add,↓reduceIte] at hx606_0);have qi606 : (1 < l0.length) = True := eq_true (by omega);(try rw [show ((1 : Int)).toNat = 1 from rfl] at hx606_0);have hn606_0 : ad605.block ≠ gb604 := Nat.ne_of_lt (Nat.lt_of_lt_of_le (by have := World.block_lt_of_cell? _ _ hx606_0;first | rwa [add_block] at this | exact this) GW604.out);have hn606_1 : ad605.block ≠ gb604 := Nat.ne_of_lt (Nat.lt_of_lt_of_le (by have := World.block_lt_of_cell? _ _ hx606_0;first | rwa [add_block] at this | exact this) GW604.out);have hn606_2 : ad605.block ≠ gb604 := Nat.ne_of_lt (Nat.lt_of_lt_of_le (by have := World.block_lt_of_cell? _ _ hx606_0;first | rwa [add_block] at this | exact this) GW604.out);have hn606_3 : ad605.block ≠ gb604 := Nat.ne_of_lt (Nat.lt_of_lt_of_le (by have := World.block_lt_of_cell? _ _ hx606_0;first | rwa [add_block] at this | exact this) GW604.out);replace hx606_0 := (HB.out.cell (World.block_lt_of_cell? w _ hx606_0)).trans hx606_0;replace hx606_0 := (cell_far (p := ⟨gb604,0,none⟩) (by first | (rw [add_block];exact hn606_0) | (show (Addr.add _ _).block ≠ _;rw [add_block];exact hn606_0) | exact hn606_0) (.int .i64 0)).trans hx606_0;replace hx606_0 := (cell_far (p := ⟨gb604,1,none⟩) (by first | (rw [add_block];exact hn606_1) | (show (Addr.add _ _).block ≠ _;rw [add_block];exact hn606_1) | exact hn606_1) (.bool false)).trans hx606_0;replace hx606_0 := (cell_far (p := ⟨gb604,2,none⟩) (by first | (rw [add_block];exact hn606_2) | (show (Addr.add _ _).block ≠ _;rw [add_block];exact hn606_2) | exact hn606_2) (.int .i64 0)).trans hx606_0;replace hx606_0 := (cell_far (p := ⟨gb604,3,none⟩) (by first | (rw [add_block];exact hn606_3) | (show (Addr.add _ _).block ≠ _;rw [add_block];exact hn606_3) | exact hn606_3) (.string (⟨#[]⟩ : ByteArray))).trans hx606_0;clear hn606_0;clear hn606_1;clear hn606_2;clear hn606_3;replace p606 := eq_true p606;replace q606 := eq_true q606;have p607 : 0 ≤ (1 : Int) := (by omega);have q607 : 1 < (l0.length : Int) := of_decide_eq_true (by first | (with_reducible assumption) | assumption);obtain ⟨ad607,e607,hx607_0⟩ := Kd.at_int HR0.out 1 p607 q607;obtain rfl : ad605 = ad607 := (by injection e607);(try simp only [show (1 : Int).toNat = 1 from rfl,Nat.reduceMul,Nat.reduceEqDiff,Go.Addr.add,↓reduceIte] at hx607_0);have qi607 : (1 < l0.length) = True := eq_true (by omega);(try rw [show ((1 : Int)).toNat = 1 from rfl] at hx607_0);have hn607_0 : ad605.block ≠ gb604 := Nat.ne_of_lt (Nat.lt_of_lt_of_le (by have := World.block_lt_of_cell? _ _ hx607_0;first | rwa [add_block] at this | exact this) GW604.out);have hn607_1 : ad605.block ≠ gb604 := Nat.ne_of_lt (Nat.lt_of_lt_of_le (by have := World.block_lt_of_cell? _ _ hx607_0;first | rwa [add_block] at this | exact this) GW604.out);have hn607_2 : ad605.block ≠ gb604 := Nat.ne_of_lt (Nat.lt_of_lt_of_le (by have := World.block_lt_of_cell? _ _ hx607_0;first | rwa [add_block] at this | exact this) GW604.out);have hn607_3 : ad605.block ≠ gb604 := Nat.ne_of_lt (Nat.lt_of_lt_of_le (by have := World.block_lt_of_cell? _ _ hx607_0;first | rwa [add_block] at this | exact this) GW604.out);replace hx607_0 := (HB.out.cell (World.block_lt_of_cell? w _ hx607_0)).trans hx607_0;replace hx607_0 := (cell_far (p := ⟨gb604,0,none⟩) (by first | (rw [add_block];exact hn607_0) | (show (Addr.add _ _).block ≠ _;rw [add_block];exact hn607_0) | exact hn607_0) (.int .i64 0)).trans hx607_0;replace hx607_0 := (cell_far (p := ⟨gb604,1,none⟩) (by first | (rw [add_block];exact hn607_1) | (show (Addr.add _ _).block ≠ _;rw [add_block];exact hn607_1) | exact hn607_1) (.bool false)).trans hx607_0;replace hx607_0 := (cell_far (p := ⟨gb604,2,none⟩) (by first | (rw [add_block];exact hn607_2) | (show (Addr.add _ _).block ≠ _;rw [add_block];exact hn607_2) | exact hn607_2) (.int .i64 0)).trans hx607_0;replace hx607_0 := (cell_far (p := ⟨gb604,3,none⟩) (by first | (rw [add_block];exact hn607_3) | (show (Addr.add _ _).block ≠ _;rw [add_block];exact hn607_3) | exact hn607_3) (.string (⟨#[]⟩ : ByteArray))).trans hx607_0;clear hn607_0;clear hn607_1;clear hn607_2;clear hn607_3;replace p607 := eq_true p607;replace q607 := eq_true q607;have hcz33_0 : w30.cell? ⟨gb603,0,none⟩ = some (.int .i64 0) := (blk_cell BK603.out 0).trans rfl;have hcz33_1 : w30.cell? ⟨gb603,1,none⟩ = some (.bool false) := (blk_cell BK603.out 1).trans rfl;have hcz33_2 : w30.cell? ⟨gb603,2,none⟩ = some (.int .i64 0) := (blk_cell BK603.out 2).trans rfl;have hcz33_3 : w30.cell? ⟨gb603,3,none⟩ = some (.string (⟨#[]⟩ : ByteArray)) := (blk_cell BK603.out 3).trans rfl;have hfz33_0 := blk_frozen BK603.out 0;have hfz33_1 := blk_frozen BK603.out 1;have hfz33_2 := blk_frozen BK603.out 2;have hfz33_3 := blk_frozen BK603.out 3))
                refine bodyPost_ret (results_ctt rfl _ _ gb603 50 #[.int .i64 1,.bool ((rd l0 1) == 1),.int .i64 0,.string (⟨#[]⟩ : ByteArray)] (0,0) _ rfl (by (with_reducible repeat (first | refine blk_drewN ?_ _ | refine blk_drew ?_ | refine blk_alloc ?_ _));refine blk_put (cs := #[.int .i64 1,.bool ((rd l0 1) == 1),.int .i64 0,.string (⟨#[]⟩ : ByteArray)]) ?_ 3 _ rfl;(with_reducible repeat (first | refine blk_drewN ?_ _ | refine blk_drew ?_ | refine blk_alloc ?_ _));refine blk_put (cs := #[.int .i64 1,.bool ((rd l0 1) == 1),.int .i64 0,.string (⟨#[]⟩ : ByteArray)]) ?_ 2 _ rfl;(with_reducible repeat (first | refine blk_drewN ?_ _ | refine blk_drew ?_ | refine blk_alloc ?_ _));refine blk_put (cs := #[.int .i64 1,.bool false,.int .i64 0,.string (⟨#[]⟩ : ByteArray)]) ?_ 1 _ rfl;(with_reducible repeat (first | refine blk_drewN ?_ _ | refine blk_drew ?_ | refine blk_alloc ?_ _));refine blk_put (cs := #[.int .i64 0,.bool false,.int .i64 0,.string (⟨#[]⟩ : ByteArray)]) ?_ 0 _ rfl;(with_reducible repeat (first | refine blk_drewN ?_ _ | refine blk_drew ?_ | refine blk_alloc ?_ _));refine blk_far ?_ NB603_604.out _;(with_reducible repeat (first | refine blk_drewN ?_ _ | refine blk_drew ?_ | refine blk_alloc ?_ _));refine blk_far ?_ NB603_604.out _;(with_reducible repeat (first | refine blk_drewN ?_ _ | refine blk_drew ?_ | refine blk_alloc ?_ _));refine blk_far ?_ NB603_604.out _;(with_reducible repeat (first | refine blk_drewN ?_ _ | refine blk_drew ?_ | refine blk_alloc ?_ _));refine blk_far ?_ NB603_604.out _;(with_reducible repeat (first | refine blk_drewN ?_ _ | refine blk_drew ?_ | refine blk_alloc ?_ _));exact BK603.out) Try.underlying50 rfl (by kernel_rfl)) rfl ?_
                exact ⟨by first | rfl | (simp [errW_none,errW_some] <;> rfl) | (simp [*,errW_none,errW_some] <;> rfl),by repeat (first | (with_reducible first | exact HB.out | apply below_alloc | apply pw_below_drewN | apply below_drew1 | refine below_set ?_ GE603.out | refine below_set ?_ GE604.out) | exact HB.out)⟩
            · rw [if_neg c22] at H
              exact absurd H (by simp)
        · rw [if_neg c15] at H
          have c15b0 : ((rd l0 0) == 2) = false := beq_eq_false_iff_ne.mpr c15
          have c15b1 : ((rd l0 0) != 2) = true := bne_iff_ne.mpr c15
          by_cases c34 : (rd l0 0) = 3
          · rw [if_pos c34] at H
            have c34b0 : ((rd l0 0) == 3) = true := beq_iff_eq.mpr c34
            have c34b1 : ((rd l0 0) != 3) = false := bne_eq_false_iff_eq.mpr c34
            clear c34
            by_cases c35 : (l0.length : Int) < 9
            · rw [if_pos c35] at H
              have c35b0 : decide ((l0.length : Int) < 9) = true := decide_eq_true c35
              have c35b1 : decide (l0.length < 9) = true := decide_eq_true (by omega)
              clear c35
              simp only [Option.some.injEq,Prod.mk.injEq] at H
              obtain ⟨rfl,rfl,rfl,rfl,rfl,rfl⟩ := H
              go_enter Try.func38,Try.ntmps38
              go_wp2_with (first | ((with_reducible refine gate_dst (N := 2) rfl ?_);refine box_event ?hg (N := 2) ?hd (cs := #[.int .i64 0,.bool false,.int .i64 0,.string (⟨#[]⟩ : ByteArray)]) (t := 50) ?hr ?_;(case hd => rfl);(case hg => rfl);(case hr => first | (go_simp;done) | (go_simp;rfl));intro gb603 hg w36 hbox hb;have n0_ := Aside0.mk (below_step (by repeat (first | (with_reducible first | exact HB.out | apply below_alloc | apply pw_below_drewN | apply below_drew1) | exact HB.out)) hb);have n1_ := Aside0.mk (hbox);have n2_ := Aside0.mk ((by rw [hg];exact (below_size (by repeat (first | (with_reducible first | exact HB.out | apply below_alloc | apply pw_below_drewN | apply below_drew1) | exact HB.out))) : w.heap.size ≤ gb603));have n3_ := Aside0.mk ((by rw [hg];exact (below_size (by repeat (first | (with_reducible first | exact HB.out | apply below_alloc | apply pw_below_drewN | apply below_drew1) | exact HB.out))) : w.heap.size ≤ gb603));clear HB;have HB := n0_;have BK603 := n1_;have GW603 := n2_;have GE603 := n3_;clear n0_ n1_ n2_ n3_;clear hb hbox hg) | ((with_reducible refine gate_dst (N := 5) rfl ?_);refine box_event ?hg (N := 5) ?hd (cs := #[.int .i64 0,.bool false,.int .i64 0,.string (⟨#[]⟩ : ByteArray)]) (t := 50) ?hr ?_;(case hd => rfl);(case hg => rfl);(case hr => first | (go_simp;done) | (go_simp;rfl));intro gb604 hg w37 hbox hb;have n0_ := Aside0.mk (blk_below (g := gb603) (o := .cells #[.int .i64 0,.bool false,.int .i64 0,.string (⟨#[]⟩ : ByteArray)] 50 (0,0)) (by (with_reducible repeat (first | refine blk_drewN ?_ _ | refine blk_drew ?_ | refine blk_alloc ?_ _));exact BK603.out) hb);have n1_ := Aside0.mk (below_step (by repeat (first | (with_reducible first | exact HB.out | apply below_alloc | apply pw_below_drewN | apply below_drew1 | refine below_set ?_ GE603.out) | exact HB.out)) hb);have n2_ := Aside0.mk (hbox);have n3_ := Aside0.mk ((by rw [hg];exact (below_size (by repeat (first | (with_reducible first | exact HB.out | apply below_alloc | apply pw_below_drewN | apply below_drew1 | refine below_set ?_ GE603.out) | exact HB.out))) : w.heap.size ≤ gb604));have n4_ := Aside0.mk ((by rw [hg];exact (below_size (by repeat (first | (with_reducible first | exact HB.out | apply below_alloc | apply pw_below_drewN | apply below_drew1 | refine below_set ?_ GE603.out) | exact HB.out))) : w.heap.size ≤ gb604));have n5_ := Aside0.mk ((by rw [hg];exact Nat.ne_of_lt (blk_lt (g := gb603) (o := .cells #[.int .i64 0,.bool false,.int .i64 0,.string (⟨#[]⟩ : ByteArray)] 50 (0,0)) (by (with_reducible repeat (first | refine blk_drewN ?_ _ | refine blk_drew ?_ | refine blk_alloc ?_ _));exact BK603.out)) : gb603 ≠ gb604));have n6_ := Aside0.mk ((by rw [hg];exact Nat.ne_of_gt (blk_lt (g := gb603) (o := .cells #[.int .i64 0,.bool false,.int .i64 0,.string (⟨#[]⟩ : ByteArray)] 50 (0,0)) (by (with_reducible repeat (first | refine blk_drewN ?_ _ | refine blk_drew ?_ | refine blk_alloc ?_ _));exact BK603.out)) : gb604 ≠ gb603));clear BK603;clear HB;have BK603 := n0_;have HB := n1_;have BK604 := n2_;have GW604 := n3_;have GE604 := n4_;have NB603_604 := n5_;have NB604_603 := n6_;clear n0_ n1_ n2_ n3_ n4_ n5_ n6_;clear hb hbox hg;have hnb38 := NB604_603.out;have hnc38 := NB603_604.out;have hcz39_0 : w37.cell? ⟨gb604,0,none⟩ = some (.int .i64 0) := (blk_cell BK604.out 0).trans rfl;have hcz39_1 : w37.cell? ⟨gb604,1,none⟩ = some (.bool false) := (blk_cell BK604.out 1).trans rfl;have hcz39_2 : w37.cell? ⟨gb604,2,none⟩ = some (.int .i64 0) := (blk_cell BK604.out 2).trans rfl;have hcz39_3 : w37.cell? ⟨gb604,3,none⟩ = some (.string (⟨#[]⟩ : ByteArray)) := (blk_cell BK604.out 3).trans rfl;have hfz39_0 := blk_frozen BK604.out 0;have hfz39_1 := blk_frozen BK604.out 1;have hfz39_2 := blk_frozen BK604.out 2;have hfz39_3 := blk_frozen BK604.out 3;have p605 : 0 ≤ (0 : Int) := (by omega);have q605 : 0 < (l0.length : Int) := of_decide_eq_true (by first | (with_reducible assumption) | assumption);obtain ⟨ad605,e605,hx605_0⟩ := Kd.at_int HR0.out 0 p605 q605;cases e605;have qi605 : (0 < l0.length) = True := eq_true (by omega);(try rw [show ((0 : Int)).toNat = 0 from rfl] at hx605_0);(try rw [Addr.add_zero'] at hx605_0);have hn605_0 : ad605.block ≠ gb604 := Nat.ne_of_lt (Nat.lt_of_lt_of_le (by have := World.block_lt_of_cell? _ _ hx605_0;first | rwa [add_block] at this | exact this) GW604.out);have hn605_1 : ad605.block ≠ gb604 := Nat.ne_of_lt (Nat.lt_of_lt_of_le (by have := World.block_lt_of_cell? _ _ hx605_0;first | rwa [add_block] at this | exact this) GW604.out);have hn605_2 : ad605.block ≠ gb604 := Nat.ne_of_lt (Nat.lt_of_lt_of_le (by have := World.block_lt_of_cell? _ _ hx605_0;first | rwa [add_block] at this | exact this) GW604.out);have hn605_3 : ad605.block ≠ gb604 := Nat.ne_of_lt (Nat.lt_of_lt_of_le (by have := World.block_lt_of_cell? _ _ hx605_0;first | rwa [add_block] at this | exact this) GW604.out);replace hx605_0 := (HB.out.cell (World.block_lt_of_cell? w _ hx605_0)).trans hx605_0;replace hx605_0 := (cell_far (p := ⟨gb604,0,none⟩) (by first | (rw [add_block];exact hn605_0) | (show (Addr.add _ _).block ≠ _;rw [add_block];exact hn605_0) | exact hn605_0) (.int .i64 0)).trans hx605_0;replace hx605_0 := (cell_far (p := ⟨gb604,1,none⟩) (by first | (rw [add_block];exact hn605_1) | (show (Addr.add _ _).block ≠ _;rw [add_block];exact hn605_1) | exact hn605_1) (.bool false)).trans hx605_0;replace hx605_0 := (cell_far (p := ⟨gb604,2,none⟩) (by first | (rw [add_block];exact hn605_2) | (show (Addr.add _ _).block ≠ _;rw [add_block];exact hn605_2) | exact hn605_2) (.int .i64 0)).trans hx605_0;replace hx605_0 := (cell_far (p := ⟨gb604,3,none⟩) (by first | (rw [add_block];exact hn605_3) | (show (Addr.add _ _).block ≠ _;rw [add_block];exact hn605_3) | exact hn605_3) (.string (⟨#[]⟩ : ByteArray))).trans hx605_0;clear hn605_0;clear hn605_1;clear hn605_2;clear hn605_3;replace p605 := eq_true p605;replace q605 := eq_true q605;have hcz40_0 : w37.cell? ⟨gb603,0,none⟩ = some (.int .i64 0) := (blk_cell BK603.out 0).trans rfl;have hcz40_1 : w37.cell? ⟨gb603,1,none⟩ = some (.bool false) := (blk_cell BK603.out 1).trans rfl;have hcz40_2 : w37.cell? ⟨gb603,2,none⟩ = some (.int .i64 0) := (blk_cell BK603.out 2).trans rfl;have hcz40_3 : w37.cell? ⟨gb603,3,none⟩ = some (.string (⟨#[]⟩ : ByteArray)) := (blk_cell BK603.out 3).trans rfl;have hfz40_0 := blk_frozen BK603.out 0;have hfz40_1 := blk_frozen BK603.out 1;have hfz40_2 := blk_frozen BK603.out 2;have hfz40_3 := blk_frozen BK603.out 3))
              refine bodyPost_ret (results_ctt rfl _ _ gb603 50 #[.int .i64 0,.bool false,.int .i64 0,.string (⟨#[]⟩ : ByteArray)] (0,0) _ rfl (by (with_reducible repeat (first | refine blk_drewN ?_ _ | refine blk_drew ?_ | refine blk_alloc ?_ _));refine blk_put (cs := #[.int .i64 0,.bool false,.int .i64 0,.string (⟨#[]⟩ : ByteArray)]) ?_ 3 _ rfl;(with_reducible repeat (first | refine blk_drewN ?_ _ | refine blk_drew ?_ | refine blk_alloc ?_ _));refine blk_put (cs := #[.int .i64 0,.bool false,.int .i64 0,.string (⟨#[]⟩ : ByteArray)]) ?_ 2 _ rfl;(with_reducible repeat (first | refine blk_drewN ?_ _ | refine blk_drew ?_ | refine blk_alloc ?_ _));refine blk_put (cs := #[.int .i64 0,.bool false,.int .i64 0,.string (⟨#[]⟩ : ByteArray)]) ?_ 1 _ rfl;(with_reducible repeat (first | refine blk_drewN ?_ _ | refine blk_drew ?_ | refine blk_alloc ?_ _));refine blk_put (cs := #[.int .i64 0,.bool false,.int .i64 0,.string (⟨#[]⟩ : ByteArray)]) ?_ 0 _ rfl;(with_reducible repeat (first | refine blk_drewN ?_ _ | refine blk_drew ?_ | refine blk_alloc ?_ _));refine blk_far ?_ NB603_604.out _;(with_reducible repeat (first | refine blk_drewN ?_ _ | refine blk_drew ?_ | refine blk_alloc ?_ _));refine blk_far ?_ NB603_604.out _;(with_reducible repeat (first | refine blk_drewN ?_ _ | refine blk_drew ?_ | refine blk_alloc ?_ _));refine blk_far ?_ NB603_604.out _;(with_reducible repeat (first | refine blk_drewN ?_ _ | refine blk_drew ?_ | refine blk_alloc ?_ _));refine blk_far ?_ NB603_604.out _;(with_reducible repeat (first | refine blk_drewN ?_ _ | refine blk_drew ?_ | refine blk_alloc ?_ _));exact BK603.out) Try.underlying50 rfl (by kernel_rfl)) rfl ?_
              exact ⟨by first | rfl | (simp [errW_none,errW_some] <;> rfl) | (simp [*,errW_none,errW_some] <;> rfl),by repeat (first | (with_reducible first | exact HB.out | apply below_alloc | apply pw_below_drewN | apply below_drew1 | refine below_set ?_ GE603.out | refine below_set ?_ GE604.out) | exact HB.out)⟩
            · rw [if_neg c35] at H
              have c35b0 : decide ((l0.length : Int) < 9) = false := decide_eq_false c35
              have c35b1 : decide (l0.length < 9) = false := decide_eq_false (by omega)
              clear c35
              have H' := Aside0.mk H
              clear H
              go_enter Try.func38,Try.ntmps38
              go_wp2_with (first | ((with_reducible refine gate_dst (N := 2) rfl ?_);refine box_event ?hg (N := 2) ?hd (cs := #[.int .i64 0,.bool false,.int .i64 0,.string (⟨#[]⟩ : ByteArray)]) (t := 50) ?hr ?_;(case hd => rfl);(case hg => rfl);(case hr => first | (go_simp;done) | (go_simp;rfl));intro gb603 hg w41 hbox hb;have n0_ := Aside0.mk (below_step (by repeat (first | (with_reducible first | exact HB.out | apply below_alloc | apply pw_below_drewN | apply below_drew1) | exact HB.out)) hb);have n1_ := Aside0.mk (hbox);have n2_ := Aside0.mk ((by rw [hg];exact (below_size (by repeat (first | (with_reducible first | exact HB.out | apply below_alloc | apply pw_below_drewN | apply below_drew1) | exact HB.out))) : w.heap.size ≤ gb603));have n3_ := Aside0.mk ((by rw [hg];exact (below_size (by repeat (first | (with_reducible first | exact HB.out | apply below_alloc | apply pw_below_drewN | apply below_drew1) | exact HB.out))) : w.heap.size ≤ gb603));clear HB;have HB := n0_;have BK603 := n1_;have GW603 := n2_;have GE603 := n3_;clear n0_ n1_ n2_ n3_;clear hb hbox hg) | ((with_reducible refine gate_dst (N := 5) rfl ?_);refine box_event ?hg (N := 5) ?hd (cs := #[.int .i64 0,.bool false,.int .i64 0,.string (⟨#[]⟩ : ByteArray)]) (t := 50) ?hr ?_;(case hd => rfl);(case hg => rfl);(case hr => first | (go_simp;done) | (go_simp;rfl));intro gb604 hg w42 hbox hb;have n0_ := Aside0.mk (blk_below (g := gb603) (o := .cells #[.int .i64 0,.bool false,.int .i64 0,.string (⟨#[]⟩ : ByteArray)] 50 (0,0)) (by (with_reducible repeat (first | refine blk_drewN ?_ _ | refine blk_drew ?_ | refine blk_alloc ?_ _));exact BK603.out) hb);have n1_ := Aside0.mk (below_step (by repeat (first | (with_reducible first | exact HB.out | apply below_alloc | apply pw_below_drewN | apply below_drew1 | refine below_set ?_ GE603.out) | exact HB.out)) hb);have n2_ := Aside0.mk (hbox);have n3_ := Aside0.mk ((by rw [hg];exact (below_size (by repeat (first | (with_reducible first | exact HB.out | apply below_alloc | apply pw_below_drewN | apply below_drew1 | refine below_set ?_ GE603.out) | exact HB.out))) : w.heap.size ≤ gb604));have n4_ := Aside0.mk ((by rw [hg];exact (below_size (by repeat (first | (with_reducible first | exact HB.out | apply below_alloc | apply pw_below_drewN | apply below_drew1 | refine below_set ?_ GE603.out) | exact HB.out))) : w.heap.size ≤ gb604));have n5_ := Aside0.mk ((by rw [hg];exact Nat.ne_of_lt (blk_lt (g := gb603) (o := .cells #[.int .i64 0,.bool false,.int .i64 0,.string (⟨#[]⟩ : ByteArray)] 50 (0,0)) (by (with_reducible repeat (first | refine blk_drewN ?_ _ | refine blk_drew ?_ | refine blk_alloc ?_ _));exact BK603.out)) : gb603 ≠ gb604));have n6_ := Aside0.mk ((by rw [hg];exact Nat.ne_of_gt (blk_lt (g := gb603) (o := .cells #[.int .i64 0,.bool false,.int .i64 0,.string (⟨#[]⟩ : ByteArray)] 50 (0,0)) (by (with_reducible repeat (first | refine blk_drewN ?_ _ | refine blk_drew ?_ | refine blk_alloc ?_ _));exact BK603.out)) : gb604 ≠ gb603));clear BK603;clear HB;have BK603 := n0_;have HB := n1_;have BK604 := n2_;have GW604 := n3_;have GE604 := n4_;have NB603_604 := n5_;have NB604_603 := n6_;clear n0_ n1_ n2_ n3_ n4_ n5_ n6_;clear hb hbox hg;have hnb43 := NB604_603.out;have hnc43 := NB603_604.out;have hcz44_0 : w42.cell? ⟨gb604,0,none⟩ = some (.int .i64 0) := (blk_cell BK604.out 0).trans rfl;have hcz44_1 : w42.cell? ⟨gb604,1,none⟩ = some (.bool false) := (blk_cell BK604.out 1).trans rfl;have hcz44_2 : w42.cell? ⟨gb604,2,none⟩ = some (.int .i64 0) := (blk_cell BK604.out 2).trans rfl;have hcz44_3 : w42.cell? ⟨gb604,3,none⟩ = some (.string (⟨#[]⟩ : ByteArray)) := (blk_cell BK604.out 3).trans rfl;have hfz44_0 := blk_frozen BK604.out 0;have hfz44_1 := blk_frozen BK604.out 1;have hfz44_2 := blk_frozen BK604.out 2;have hfz44_3 := blk_frozen BK604.out 3;have p605 : 0 ≤ (0 : Int) := (by omega);have q605 : 0 < (l0.length : Int) := of_decide_eq_true (by first | (with_reducible assumption) | assumption);obtain ⟨ad605,e605,hx605_0⟩ := Kd.at_int HR0.out 0 p605 q605;cases e605;have qi605 : (0 < l0.length) = True := eq_true (by omega);(try rw [show ((0 : Int)).toNat = 0 from rfl] at hx605_0);(try rw [Addr.add_zero'] at hx605_0);have hn605_0 : ad605.block ≠ gb604 := Nat.ne_of_lt (Nat.lt_of_lt_of_le (by have := World.block_lt_of_cell? _ _ hx605_0;first | rwa [add_block] at this | exact this) GW604.out);have hn605_1 : ad605.block ≠ gb604 := Nat.ne_of_lt (Nat.lt_of_lt_of_le (by have := World.block_lt_of_cell? _ _ hx605_0;first | rwa [add_block] at this | exact this) GW604.out);have hn605_2 : ad605.block ≠ gb604 := Nat.ne_of_lt (Nat.lt_of_lt_of_le (by have := World.block_lt_of_cell? _ _ hx605_0;first | rwa [add_block] at this | exact this) GW604.out);have hn605_3 : ad605.block ≠ gb604 := Nat.ne_of_lt (Nat.lt_of_lt_of_le (by have := World.block_lt_of_cell? _ _ hx605_0;first | rwa [add_block] at this | exact this) GW604.out);replace hx605_0 := (HB.out.cell (World.block_lt_of_cell? w _ hx605_0)).trans hx605_0;replace hx605_0 := (cell_far (p := ⟨gb604,0,none⟩) (by first | (rw [add_block];exact hn605_0) | (show (Addr.add _ _).block ≠ _;rw [add_block];exact hn605_0) | exact hn605_0) (.int .i64 0)).trans hx605_0;replace hx605_0 := (cell_far (p := ⟨gb604,1,none⟩) (by first | (rw [add_block];exact hn605_1) | (show (Addr.add _ _).block ≠ _;rw [add_block];exact hn605_1) | exact hn605_1) (.bool false)).trans hx605_0;replace hx605_0 := (cell_far (p := ⟨gb604,2,none⟩) (by first | (rw [add_block];exact hn605_2) | (show (Addr.add _ _).block ≠ _;rw [add_block];exact hn605_2) | exact hn605_2) (.int .i64 0)).trans hx605_0;replace hx605_0 := (cell_far (p := ⟨gb604,3,none⟩) (by first | (rw [add_block];exact hn605_3) | (show (Addr.add _ _).block ≠ _;rw [add_block];exact hn605_3) | exact hn605_3) (.string (⟨#[]⟩ : ByteArray))).trans hx605_0;clear hn605_0;clear hn605_1;clear hn605_2;clear hn605_3;replace p605 := eq_true p605;replace q605 := eq_true q605))
              go_loopg [6,7] k (fun kq v6 v7 w' => ∃ (x6_1 : Int) (x7_1 : Int),v6 = .int .u64 x6_1 ∧ v7 = .int .i64 x7_1 ∧ Aside0 (verdererref04_First.l0 kq l0 x6_1 x7_1 = some (r1,r2,r3,r4,r5,r6)) ∧ Aside0 (kq ≤ k) ∧ Aside0 (w'.heap[gb603]? = some (.cells #[.int .i64 0,.bool false,.int .i64 0,.string (⟨#[]⟩ : ByteArray)] 50 (0,0))) ∧ Aside0 (w'.heap[gb604]? = some (.cells #[.int .i64 0,.bool false,.int .i64 0,.string (⟨#[]⟩ : ByteArray)] 50 (0,0))) ∧ Aside0 (Below w.heap.size w w'))
              case atStart => exact ⟨(0),(1),(by first | rfl | (simp;done) | (simp [*];done)),(by first | rfl | (simp;done) | (simp [*];done)),H',⟨Nat.le_refl _⟩,⟨by (with_reducible repeat (first | refine blk_drewN ?_ _ | refine blk_drew ?_ | refine blk_alloc ?_ _));refine blk_far ?_ NB603_604.out _;(with_reducible repeat (first | refine blk_drewN ?_ _ | refine blk_drew ?_ | refine blk_alloc ?_ _));refine blk_far ?_ NB603_604.out _;(with_reducible repeat (first | refine blk_drewN ?_ _ | refine blk_drew ?_ | refine blk_alloc ?_ _));refine blk_far ?_ NB603_604.out _;(with_reducible repeat (first | refine blk_drewN ?_ _ | refine blk_drew ?_ | refine blk_alloc ?_ _));refine blk_far ?_ NB603_604.out _;(with_reducible repeat (first | refine blk_drewN ?_ _ | refine blk_drew ?_ | refine blk_alloc ?_ _));exact BK603.out⟩,⟨by (with_reducible repeat (first | refine blk_drewN ?_ _ | refine blk_drew ?_ | refine blk_alloc ?_ _));refine blk_put (cs := #[.int .i64 0,.bool false,.int .i64 0,.string (⟨#[]⟩ : ByteArray)]) ?_ 3 _ rfl;(with_reducible repeat (first | refine blk_drewN ?_ _ | refine blk_drew ?_ | refine blk_alloc ?_ _));refine blk_put (cs := #[.int .i64 0,.bool false,.int .i64 0,.string (⟨#[]⟩ : ByteArray)]) ?_ 2 _ rfl;(with_reducible repeat (first | refine blk_drewN ?_ _ | refine blk_drew ?_ | refine blk_alloc ?_ _));refine blk_put (cs := #[.int .i64 0,.bool false,.int .i64 0,.string (⟨#[]⟩ : ByteArray)]) ?_ 1 _ rfl;(with_reducible repeat (first | refine blk_drewN ?_ _ | refine blk_drew ?_ | refine blk_alloc ?_ _));refine blk_put (cs := #[.int .i64 0,.bool false,.int .i64 0,.string (⟨#[]⟩ : ByteArray)]) ?_ 0 _ rfl;(with_reducible repeat (first | refine blk_drewN ?_ _ | refine blk_drew ?_ | refine blk_alloc ?_ _));exact BK604.out⟩,⟨by repeat (first | (with_reducible first | exact HB.out | apply below_alloc | apply pw_below_drewN | apply below_drew1 | refine below_set ?_ GE603.out | refine below_set ?_ GE604.out) | exact HB.out)⟩⟩
              case round =>
                clear H'
                try clear c1
                try clear c2
                try clear c2b0
                try clear c2b1
                try clear c2b2
                try clear p2
                try clear c3
                try clear c4
                try clear c5
                try clear p6
                try clear q6
                try clear hx6
                try clear qi6
                try clear c8
                try clear c8b0
                try clear c8b1
                try clear c9
                try clear c9b0
                try clear c9b1
                try clear c12
                try clear c15
                try clear c15b0
                try clear c15b1
                try clear c16
                try clear c16b0
                try clear c16b1
                try clear c19
                try clear c22
                try clear c22b0
                try clear c22b1
                try clear c23
                try clear c23b0
                try clear c26
                try clear c31
                try clear c34
                try clear c34b0
                try clear c34b1
                try clear c35
                try clear c35b0
                try clear c35b1
                try clear c38
                try clear c43
                try clear hcz13_0
                try clear hcz13_1
                try clear hcz13_2
                try clear hcz13_3
                try clear hcz14_0
                try clear hcz14_1
                try clear hcz14_2
                try clear hcz14_3
                try clear hcz20_0
                try clear hcz20_1
                try clear hcz20_2
                try clear hcz20_3
                try clear hcz21_0
                try clear hcz21_1
                try clear hcz21_2
                try clear hcz21_3
                try clear hcz27_0
                try clear hcz27_1
                try clear hcz27_2
                try clear hcz27_3
                try clear hcz28_0
                try clear hcz28_1
                try clear hcz28_2
                try clear hcz28_3
                try clear hcz32_0
                try clear hcz32_1
                try clear hcz32_2
                try clear hcz32_3
                try clear hcz33_0
                try clear hcz33_1
                try clear hcz33_2
                try clear hcz33_3
                try clear hcz39_0
                try clear hcz39_1
                try clear hcz39_2
                try clear hcz39_3
                try clear hcz40_0
                try clear hcz40_1
                try clear hcz40_2
                try clear hcz40_3
                try clear hcz44_0
                try clear hcz44_1
                try clear hcz44_2
                try clear hcz44_3
                try clear hcz6_0
                try clear hcz6_1
                try clear hcz6_2
                try clear hcz6_3
                try clear hcz7_0
                try clear hcz7_1
                try clear hcz7_2
                try clear hcz7_3
                try clear hfz13_0
                try clear hfz13_1
                try clear hfz13_2
                try clear hfz13_3
                try clear hfz14_0
                try clear hfz14_1
                try clear hfz14_2
                try clear hfz14_3
                try clear hfz20_0
                try clear hfz20_1
                try clear hfz20_2
                try clear hfz20_3
                try clear hfz21_0
                try clear hfz21_1
                try clear hfz21_2
                try clear hfz21_3
                try clear hfz27_0
                try clear hfz27_1
                try clear hfz27_2
                try clear hfz27_3
                try clear hfz28_0
                try clear hfz28_1
                try clear hfz28_2
                try clear hfz28_3
                try clear hfz32_0
                try clear hfz32_1
                try clear hfz32_2
                try clear hfz32_3
                try clear hfz33_0
                try clear hfz33_1
                try clear hfz33_2
                try clear hfz33_3
                try clear hfz39_0
                try clear hfz39_1
                try clear hfz39_2
                try clear hfz39_3
                try clear hfz40_0
                try clear hfz40_1
                try clear hfz40_2
                try clear hfz40_3
                try clear hfz44_0
                try clear hfz44_1
                try clear hfz44_2
                try clear hfz44_3
                try clear hfz6_0
                try clear hfz6_1
                try clear hfz6_2
                try clear hfz6_3
                try clear hfz7_0
                try clear hfz7_1
                try clear hfz7_2
                try clear hfz7_3
                try clear hx605_0
                try clear hx606_0
                try clear hx607_0
                try clear p605
                try clear p606
                try clear p607
                try clear q605
                try clear q606
                try clear q607
                obtain ⟨x6_1,x7_1,rfl,rfl,HA,HK1,BK603,BK604,HB⟩ := hrel
                cases gk with
                | zero => exact absurd HA.out (by simp [verdererref04_First.l0])
                | succ k1 =>
                  have H := HA.out
                  clear HA
                  simp only [verdererref04_First.l0] at H
                  by_cases c45 : x7_1 < 9
                  · rw [if_pos c45] at H
                    have c45b0 : decide (x7_1 < 9) = true := decide_eq_true c45
                    clear c45
                    by_cases c46 : 0 ≤ x7_1
                    · rw [if_pos c46] at H
                      have c46b0 : decide (0 ≤ x7_1) = true := decide_eq_true c46
                      clear c46
                      by_cases c47 : x7_1 < (l0.length : Int)
                      · rw [if_pos c47] at H
                        have c47b0 : decide (x7_1 < (l0.length : Int)) = true := decide_eq_true c47
                        clear c47
                        have H' := Aside0.mk H
                        clear H
                        have p608 : 0 ≤ (x7_1 : Int) := of_decide_eq_true (by first | (with_reducible assumption) | assumption)
                        have q608 : x7_1 < (l0.length : Int) := of_decide_eq_true (by first | (with_reducible assumption) | assumption)
                        obtain ⟨ad608,e608,hx608_0⟩ := Kd.at_int HR0.out x7_1 p608 q608
                        obtain rfl : ad605 = ad608 := (by injection e608)
                        replace hx608_0 := (HB.out.cell (World.block_lt_of_cell? w _ hx608_0)).trans hx608_0
                        replace p608 := eq_true p608
                        replace q608 := eq_true q608
                        go_wp2
                        go_roundg k1
                        case measure => have := HK1.out;omega
                        case rel => exact ⟨(IntKind.u64.wrap ((IntKind.u64.wrap (x6_1 * 256)) + (IntKind.u64.wrap (rd l0 x7_1)))),(wrap64 (x7_1 + 1)),(by first | rfl | (simp;done) | (simp [*];done)),(by first | rfl | (simp;done) | (simp [*];done)),H',⟨by have := HK1.out;omega⟩,⟨by (with_reducible repeat (first | refine blk_drewN ?_ _ | refine blk_drew ?_ | refine blk_alloc ?_ _));exact BK603.out⟩,⟨by (with_reducible repeat (first | refine blk_drewN ?_ _ | refine blk_drew ?_ | refine blk_alloc ?_ _));exact BK604.out⟩,⟨by repeat (first | (with_reducible first | exact HB.out | apply below_alloc | apply pw_below_drewN | apply below_drew1 | refine below_set ?_ GE603.out | refine below_set ?_ GE604.out) | exact HB.out)⟩⟩
                      · rw [if_neg c47] at H
                        exact absurd H (by simp)
                    · rw [if_neg c46] at H
                      exact absurd H (by simp)
                  · rw [if_neg c45] at H
                    have c45b0 : decide (x7_1 < 9) = false := decide_eq_false c45
                    clear c45
                    simp only [Option.some.injEq,Prod.mk.injEq] at H
                    obtain ⟨rfl,rfl,rfl,rfl,rfl,rfl⟩ := H
                    have hnb48 := NB603_604.out
                    have hnc48 := NB604_603.out
                    have hcz49_0 : wr.cell? ⟨gb603,0,none⟩ = some (.int .i64 0) := (blk_cell BK603.out 0).trans rfl
                    have hcz49_1 : wr.cell? ⟨gb603,1,none⟩ = some (.bool false) := (blk_cell BK603.out 1).trans rfl
                    have hcz49_2 : wr.cell? ⟨gb603,2,none⟩ = some (.int .i64 0) := (blk_cell BK603.out 2).trans rfl
                    have hcz49_3 : wr.cell? ⟨gb603,3,none⟩ = some (.string (⟨#[]⟩ : ByteArray)) := (blk_cell BK603.out 3).trans rfl
                    have hfz49_0 := blk_frozen BK603.out 0
                    have hfz49_1 := blk_frozen BK603.out 1
                    have hfz49_2 := blk_frozen BK603.out 2
                    have hfz49_3 := blk_frozen BK603.out 3
                    go_wp2
                    refine bodyPost_ret (results_ctt rfl _ _ gb603 50 #[.int .i64 2,.bool false,.int .i64 (wrap64 (IntKind.u64.wrap (x6_1 - 9223372036854775808))),.string (⟨#[]⟩ : ByteArray)] (0,0) _ rfl (by (with_reducible repeat (first | refine blk_drewN ?_ _ | refine blk_drew ?_ | refine blk_alloc ?_ _));refine blk_put (cs := #[.int .i64 2,.bool false,.int .i64 (wrap64 (IntKind.u64.wrap (x6_1 - 9223372036854775808))),.string (⟨#[]⟩ : ByteArray)]) ?_ 3 _ rfl;(with_reducible repeat (first | refine blk_drewN ?_ _ | refine blk_drew ?_ | refine blk_alloc ?_ _));refine blk_put (cs := #[.int .i64 2,.bool false,.int .i64 0,.string (⟨#[]⟩ : ByteArray)]) ?_ 2 _ rfl;(with_reducible repeat (first | refine blk_drewN ?_ _ | refine blk_drew ?_ | refine blk_alloc ?_ _));refine blk_put (cs := #[.int .i64 2,.bool false,.int .i64 0,.string (⟨#[]⟩ : ByteArray)]) ?_ 1 _ rfl;(with_reducible repeat (first | refine blk_drewN ?_ _ | refine blk_drew ?_ | refine blk_alloc ?_ _));refine blk_put (cs := #[.int .i64 0,.bool false,.int .i64 0,.string (⟨#[]⟩ : ByteArray)]) ?_ 0 _ rfl;(with_reducible repeat (first | refine blk_drewN ?_ _ | refine blk_drew ?_ | refine blk_alloc ?_ _));exact BK603.out) Try.underlying50 rfl (by kernel_rfl)) rfl ?_
                    exact ⟨by first | rfl | (simp [errW_none,errW_some] <;> rfl) | (simp [*,errW_none,errW_some] <;> rfl),by repeat (first | (with_reducible first | exact HB.out | apply below_alloc | apply pw_below_drewN | apply below_drew1 | refine below_set ?_ GE603.out | refine below_set ?_ GE604.out) | exact HB.out)⟩
          · rw [if_neg c34] at H
            have c34b0 : ((rd l0 0) == 3) = false := beq_eq_false_iff_ne.mpr c34
            have c34b1 : ((rd l0 0) != 3) = true := bne_iff_ne.mpr c34
            by_cases c50 : (rd l0 0) = 4
            · rw [if_pos c50] at H
              have c50b0 : ((rd l0 0) == 4) = true := beq_iff_eq.mpr c50
              have c50b1 : ((rd l0 0) != 4) = false := bne_eq_false_iff_eq.mpr c50
              clear c50
              replace H := Option.bind_eq_some_iff.mp H
              obtain ⟨⟨t609,t610,t611,t612,t613,t614⟩,A510,H⟩ := H
              replace H : (some (t609,t610,t611,t612,t613,t614)) = some (r1,r2,r3,r4,r5,r6) := H
              have A51 := Aside0.mk A510
              clear A510
              simp only [Option.some.injEq,Prod.mk.injEq] at H
              obtain ⟨rfl,rfl,rfl,rfl,rfl,rfl⟩ := H
              go_enter Try.func38,Try.ntmps38
              go_wp2_with (first | ((with_reducible refine gate_dst (N := 2) rfl ?_);refine box_event ?hg (N := 2) ?hd (cs := #[.int .i64 0,.bool false,.int .i64 0,.string (⟨#[]⟩ : ByteArray)]) (t := 50) ?hr ?_;(case hd => rfl);(case hg => rfl);(case hr => first | (go_simp;done) | (go_simp;rfl));intro gb603 hg w52 hbox hb;have n0_ := Aside0.mk (below_step (by repeat (first | (with_reducible first | exact HB.out | apply below_alloc | apply pw_below_drewN | apply below_drew1) | exact HB.out)) hb);have n1_ := Aside0.mk (hbox);have n2_ := Aside0.mk ((by rw [hg];exact (below_size (by repeat (first | (with_reducible first | exact HB.out | apply below_alloc | apply pw_below_drewN | apply below_drew1) | exact HB.out))) : w.heap.size ≤ gb603));have n3_ := Aside0.mk ((by rw [hg];exact (below_size (by repeat (first | (with_reducible first | exact HB.out | apply below_alloc | apply pw_below_drewN | apply below_drew1) | exact HB.out))) : w.heap.size ≤ gb603));clear HB;have HB := n0_;have BK603 := n1_;have GW603 := n2_;have GE603 := n3_;clear n0_ n1_ n2_ n3_;clear hb hbox hg) | ((with_reducible refine gate_dst (N := 5) rfl ?_);refine box_event ?hg (N := 5) ?hd (cs := #[.int .i64 0,.bool false,.int .i64 0,.string (⟨#[]⟩ : ByteArray)]) (t := 50) ?hr ?_;(case hd => rfl);(case hg => rfl);(case hr => first | (go_simp;done) | (go_simp;rfl));intro gb604 hg w53 hbox hb;have n0_ := Aside0.mk (blk_below (g := gb603) (o := .cells #[.int .i64 0,.bool false,.int .i64 0,.string (⟨#[]⟩ : ByteArray)] 50 (0,0)) (by (with_reducible repeat (first | refine blk_drewN ?_ _ | refine blk_drew ?_ | refine blk_alloc ?_ _));exact BK603.out) hb);have n1_ := Aside0.mk (below_step (by repeat (first | (with_reducible first | exact HB.out | apply below_alloc | apply pw_below_drewN | apply below_drew1 | refine below_set ?_ GE603.out) | exact HB.out)) hb);have n2_ := Aside0.mk (hbox);have n3_ := Aside0.mk ((by rw [hg];exact (below_size (by repeat (first | (with_reducible first | exact HB.out | apply below_alloc | apply pw_below_drewN | apply below_drew1 | refine below_set ?_ GE603.out) | exact HB.out))) : w.heap.size ≤ gb604));have n4_ := Aside0.mk ((by rw [hg];exact (below_size (by repeat (first | (with_reducible first | exact HB.out | apply below_alloc | apply pw_below_drewN | apply below_drew1 | refine below_set ?_ GE603.out) | exact HB.out))) : w.heap.size ≤ gb604));have n5_ := Aside0.mk ((by rw [hg];exact Nat.ne_of_lt (blk_lt (g := gb603) (o := .cells #[.int .i64 0,.bool false,.int .i64 0,.string (⟨#[]⟩ : ByteArray)] 50 (0,0)) (by (with_reducible repeat (first | refine blk_drewN ?_ _ | refine blk_drew ?_ | refine blk_alloc ?_ _));exact BK603.out)) : gb603 ≠ gb604));have n6_ := Aside0.mk ((by rw [hg];exact Nat.ne_of_gt (blk_lt (g := gb603) (o := .cells #[.int .i64 0,.bool false,.int .i64 0,.string (⟨#[]⟩ : ByteArray)] 50 (0,0)) (by (with_reducible repeat (first | refine blk_drewN ?_ _ | refine blk_drew ?_ | refine blk_alloc ?_ _));exact BK603.out)) : gb604 ≠ gb603));clear BK603;clear HB;have BK603 := n0_;have HB := n1_;have BK604 := n2_;have GW604 := n3_;have GE604 := n4_;have NB603_604 := n5_;have NB604_603 := n6_;clear n0_ n1_ n2_ n3_ n4_ n5_ n6_;clear hb hbox hg;have hnb54 := NB604_603.out;have hnc54 := NB603_604.out;have hcz55_0 : w53.cell? ⟨gb604,0,none⟩ = some (.int .i64 0) := (blk_cell BK604.out 0).trans rfl;have hcz55_1 : w53.cell? ⟨gb604,1,none⟩ = some (.bool false) := (blk_cell BK604.out 1).trans rfl;have hcz55_2 : w53.cell? ⟨gb604,2,none⟩ = some (.int .i64 0) := (blk_cell BK604.out 2).trans rfl;have hcz55_3 : w53.cell? ⟨gb604,3,none⟩ = some (.string (⟨#[]⟩ : ByteArray)) := (blk_cell BK604.out 3).trans rfl;have hfz55_0 := blk_frozen BK604.out 0;have hfz55_1 := blk_frozen BK604.out 1;have hfz55_2 := blk_frozen BK604.out 2;have hfz55_3 := blk_frozen BK604.out 3;have p605 : 0 ≤ (0 : Int) := (by omega);have q605 : 0 < (l0.length : Int) := of_decide_eq_true (by first | (with_reducible assumption) | assumption);obtain ⟨ad605,e605,hx605_0⟩ := Kd.at_int HR0.out 0 p605 q605;cases e605;have qi605 : (0 < l0.length) = True := eq_true (by omega);(try rw [show ((0 : Int)).toNat = 0 from rfl] at hx605_0);(try rw [Addr.add_zero'] at hx605_0);have hn605_0 : ad605.block ≠ gb604 := Nat.ne_of_lt (Nat.lt_of_lt_of_le (by have := World.block_lt_of_cell? _ _ hx605_0;first | rwa [add_block] at this | exact this) GW604.out);have hn605_1 : ad605.block ≠ gb604 := Nat.ne_of_lt (Nat.lt_of_lt_of_le (by have := World.block_lt_of_cell? _ _ hx605_0;first | rwa [add_block] at this | exact this) GW604.out);have hn605_2 : ad605.block ≠ gb604 := Nat.ne_of_lt (Nat.lt_of_lt_of_le (by have := World.block_lt_of_cell? _ _ hx605_0;first | rwa [add_block] at this | exact this) GW604.out);have hn605_3 : ad605.block ≠ gb604 := Nat.ne_of_lt (Nat.lt_of_lt_of_le (by have := World.block_lt_of_cell? _ _ hx605_0;first | rwa [add_block] at this | exact this) GW604.out);replace hx605_0 := (HB.out.cell (World.block_lt_of_cell? w _ hx605_0)).trans hx605_0;replace hx605_0 := (cell_far (p := ⟨gb604,0,none⟩) (by first | (rw [add_block];exact hn605_0) | (show (Addr.add _ _).block ≠ _;rw [add_block];exact hn605_0) | exact hn605_0) (.int .i64 0)).trans hx605_0;replace hx605_0 := (cell_far (p := ⟨gb604,1,none⟩) (by first | (rw [add_block];exact hn605_1) | (show (Addr.add _ _).block ≠ _;rw [add_block];exact hn605_1) | exact hn605_1) (.bool false)).trans hx605_0;replace hx605_0 := (cell_far (p := ⟨gb604,2,none⟩) (by first | (rw [add_block];exact hn605_2) | (show (Addr.add _ _).block ≠ _;rw [add_block];exact hn605_2) | exact hn605_2) (.int .i64 0)).trans hx605_0;replace hx605_0 := (cell_far (p := ⟨gb604,3,none⟩) (by first | (rw [add_block];exact hn605_3) | (show (Addr.add _ _).block ≠ _;rw [add_block];exact hn605_3) | exact hn605_3) (.string (⟨#[]⟩ : ByteArray))).trans hx605_0;clear hn605_0;clear hn605_1;clear hn605_2;clear hn605_3;replace p605 := eq_true p605;replace q605 := eq_true q605) | ((with_reducible refine gate_callee (f := 62) rfl ?_);refine goesL_ (some 61) rfl rfl Try.func62 (by kernel_rfl) rfl #[.slice (some ad605) l0.length c0] rfl (by (try simp only [List.map_toArray,List.map_cons,List.map_nil]);first | done | rfl | (simp only [List.length_drop,List.length_take];rfl)) ?_;(with_reducible refine (verdererref04_text.calls k _ _ l0 t609 t610 t611 t612 t613 t614 _ ?side1 ?side2 A51.out).mono ?_);(case side1 => exact Kd.C_below HR0.out (by repeat (first | (with_reducible first | exact HB.out | apply below_alloc | apply pw_below_drewN | apply below_drew1 | refine below_set ?_ GE603.out | refine below_set ?_ GE604.out) | exact HB.out)));(case side2 => exact HC0.out);rintro e w56 ⟨rfl,hb⟩;refine ⟨_,rfl,?_⟩;have n0_ := Aside0.mk (blk_below (g := gb603) (o := .cells #[.int .i64 0,.bool false,.int .i64 0,.string (⟨#[]⟩ : ByteArray)] 50 (0,0)) (by (with_reducible repeat (first | refine blk_drewN ?_ _ | refine blk_drew ?_ | refine blk_alloc ?_ _));refine blk_far ?_ NB603_604.out _;(with_reducible repeat (first | refine blk_drewN ?_ _ | refine blk_drew ?_ | refine blk_alloc ?_ _));refine blk_far ?_ NB603_604.out _;(with_reducible repeat (first | refine blk_drewN ?_ _ | refine blk_drew ?_ | refine blk_alloc ?_ _));refine blk_far ?_ NB603_604.out _;(with_reducible repeat (first | refine blk_drewN ?_ _ | refine blk_drew ?_ | refine blk_alloc ?_ _));refine blk_far ?_ NB603_604.out _;(with_reducible repeat (first | refine blk_drewN ?_ _ | refine blk_drew ?_ | refine blk_alloc ?_ _));exact BK603.out) hb);have n1_ := Aside0.mk (blk_below (g := gb604) (o := .cells #[.int .i64 0,.bool false,.int .i64 0,.string (⟨#[]⟩ : ByteArray)] 50 (0,0)) (by (with_reducible repeat (first | refine blk_drewN ?_ _ | refine blk_drew ?_ | refine blk_alloc ?_ _));refine blk_put (cs := #[.int .i64 0,.bool false,.int .i64 0,.string (⟨#[]⟩ : ByteArray)]) ?_ 3 _ rfl;(with_reducible repeat (first | refine blk_drewN ?_ _ | refine blk_drew ?_ | refine blk_alloc ?_ _));refine blk_put (cs := #[.int .i64 0,.bool false,.int .i64 0,.string (⟨#[]⟩ : ByteArray)]) ?_ 2 _ rfl;(with_reducible repeat (first | refine blk_drewN ?_ _ | refine blk_drew ?_ | refine blk_alloc ?_ _));refine blk_put (cs := #[.int .i64 0,.bool false,.int .i64 0,.string (⟨#[]⟩ : ByteArray)]) ?_ 1 _ rfl;(with_reducible repeat (first | refine blk_drewN ?_ _ | refine blk_drew ?_ | refine blk_alloc ?_ _));refine blk_put (cs := #[.int .i64 0,.bool false,.int .i64 0,.string (⟨#[]⟩ : ByteArray)]) ?_ 0 _ rfl;(with_reducible repeat (first | refine blk_drewN ?_ _ | refine blk_drew ?_ | refine blk_alloc ?_ _));exact BK604.out) hb);have n2_ := Aside0.mk (below_step (by repeat (first | (with_reducible first | exact HB.out | apply below_alloc | apply pw_below_drewN | apply below_drew1 | refine below_set ?_ GE603.out | refine below_set ?_ GE604.out) | exact HB.out)) hb);clear BK603;clear BK604;clear HB;have BK603 := n0_;have BK604 := n1_;have HB := n2_;clear n0_ n1_ n2_;(try clear hb);(try clear hb2);(try clear hk);(try clear hi);have hcz57_0 : w56.cell? ⟨gb603,0,none⟩ = some (.int .i64 0) := (blk_cell BK603.out 0).trans rfl;have hcz57_1 : w56.cell? ⟨gb603,1,none⟩ = some (.bool false) := (blk_cell BK603.out 1).trans rfl;have hcz57_2 : w56.cell? ⟨gb603,2,none⟩ = some (.int .i64 0) := (blk_cell BK603.out 2).trans rfl;have hcz57_3 : w56.cell? ⟨gb603,3,none⟩ = some (.string (⟨#[]⟩ : ByteArray)) := (blk_cell BK603.out 3).trans rfl;have hfz57_0 := blk_frozen BK603.out 0;have hfz57_1 := blk_frozen BK603.out 1;have hfz57_2 := blk_frozen BK603.out 2;have hfz57_3 := blk_frozen BK603.out 3))
              refine bodyPost_ret (results_ctt rfl _ _ gb603 50 #[.int .i64 t609,.bool t610,.int .i64 t611,.string t612] (0,0) _ rfl (by (with_reducible repeat (first | refine blk_drewN ?_ _ | refine blk_drew ?_ | refine blk_alloc ?_ _));refine blk_put (cs := #[.int .i64 t609,.bool t610,.int .i64 t611,.string (⟨#[]⟩ : ByteArray)]) ?_ 3 _ rfl;(with_reducible repeat (first | refine blk_drewN ?_ _ | refine blk_drew ?_ | refine blk_alloc ?_ _));refine blk_put (cs := #[.int .i64 t609,.bool t610,.int .i64 0,.string (⟨#[]⟩ : ByteArray)]) ?_ 2 _ rfl;(with_reducible repeat (first | refine blk_drewN ?_ _ | refine blk_drew ?_ | refine blk_alloc ?_ _));refine blk_put (cs := #[.int .i64 t609,.bool false,.int .i64 0,.string (⟨#[]⟩ : ByteArray)]) ?_ 1 _ rfl;(with_reducible repeat (first | refine blk_drewN ?_ _ | refine blk_drew ?_ | refine blk_alloc ?_ _));refine blk_put (cs := #[.int .i64 0,.bool false,.int .i64 0,.string (⟨#[]⟩ : ByteArray)]) ?_ 0 _ rfl;(with_reducible repeat (first | refine blk_drewN ?_ _ | refine blk_drew ?_ | refine blk_alloc ?_ _));exact BK603.out) Try.underlying50 rfl (by kernel_rfl)) rfl ?_
              exact ⟨by first | rfl | (simp [errW_none,errW_some] <;> rfl) | (simp [*,errW_none,errW_some] <;> rfl),by repeat (first | (with_reducible first | exact HB.out | apply below_alloc | apply pw_below_drewN | apply below_drew1 | refine below_set ?_ GE603.out | refine below_set ?_ GE604.out) | exact HB.out)⟩
            · rw [if_neg c50] at H
              have c50b0 : ((rd l0 0) == 4) = false := beq_eq_false_iff_ne.mpr c50
              have c50b1 : ((rd l0 0) != 4) = true := bne_iff_ne.mpr c50
              simp only [Option.some.injEq,Prod.mk.injEq] at H
              obtain ⟨rfl,rfl,rfl,rfl,rfl,rfl⟩ := H
              go_enter Try.func38,Try.ntmps38
              go_wp2_with (first | ((with_reducible refine gate_dst (N := 2) rfl ?_);refine box_event ?hg (N := 2) ?hd (cs := #[.int .i64 0,.bool false,.int .i64 0,.string (⟨#[]⟩ : ByteArray)]) (t := 50) ?hr ?_;(case hd => rfl);(case hg => rfl);(case hr => first | (go_simp;done) | (go_simp;rfl));intro gb603 hg w58 hbox hb;have n0_ := Aside0.mk (below_step (by repeat (first | (with_reducible first | exact HB.out | apply below_alloc | apply pw_below_drewN | apply below_drew1) | exact HB.out)) hb);have n1_ := Aside0.mk (hbox);have n2_ := Aside0.mk ((by rw [hg];exact (below_size (by repeat (first | (with_reducible first | exact HB.out | apply below_alloc | apply pw_below_drewN | apply below_drew1) | exact HB.out))) : w.heap.size ≤ gb603));have n3_ := Aside0.mk ((by rw [hg];exact (below_size (by repeat (first | (with_reducible first | exact HB.out | apply below_alloc | apply pw_below_drewN | apply below_drew1) | exact HB.out))) : w.heap.size ≤ gb603));clear HB;have HB := n0_;have BK603 := n1_;have GW603 := n2_;have GE603 := n3_;clear n0_ n1_ n2_ n3_;clear hb hbox hg) | ((with_reducible refine gate_dst (N := 5) rfl ?_);refine box_event ?hg (N := 5) ?hd (cs := #[.int .i64 0,.bool false,.int .i64 0,.string (⟨#[]⟩ : ByteArray)]) (t := 50) ?hr ?_;(case hd => rfl);(case hg => rfl);(case hr => first | (go_simp;done) | (go_simp;rfl));intro gb604 hg w59 hbox hb;have n0_ := Aside0.mk (blk_below (g := gb603) (o := .cells #[.int .i64 0,.bool false,.int .i64 0,.string (⟨#[]⟩ : ByteArray)] 50 (0,0)) (by (with_reducible repeat (first | refine blk_drewN ?_ _ | refine blk_drew ?_ | refine blk_alloc ?_ _));exact BK603.out) hb);have n1_ := Aside0.mk (below_step (by repeat (first | (with_reducible first | exact HB.out | apply below_alloc | apply pw_below_drewN | apply below_drew1 | refine below_set ?_ GE603.out) | exact HB.out)) hb);have n2_ := Aside0.mk (hbox);have n3_ := Aside0.mk ((by rw [hg];exact (below_size (by repeat (first | (with_reducible first | exact HB.out | apply below_alloc | apply pw_below_drewN | apply below_drew1 | refine below_set ?_ GE603.out) | exact HB.out))) : w.heap.size ≤ gb604));have n4_ := Aside0.mk ((by rw [hg];exact (below_size (by repeat (first | (with_reducible first | exact HB.out | apply below_alloc | apply pw_below_drewN | apply below_drew1 | refine below_set ?_ GE603.out) | exact HB.out))) : w.heap.size ≤ gb604));have n5_ := Aside0.mk ((by rw [hg];exact Nat.ne_of_lt (blk_lt (g := gb603) (o := .cells #[.int .i64 0,.bool false,.int .i64 0,.string (⟨#[]⟩ : ByteArray)] 50 (0,0)) (by (with_reducible repeat (first | refine blk_drewN ?_ _ | refine blk_drew ?_ | refine blk_alloc ?_ _));exact BK603.out)) : gb603 ≠ gb604));have n6_ := Aside0.mk ((by rw [hg];exact Nat.ne_of_gt (blk_lt (g := gb603) (o := .cells #[.int .i64 0,.bool false,.int .i64 0,.string (⟨#[]⟩ : ByteArray)] 50 (0,0)) (by (with_reducible repeat (first | refine blk_drewN ?_ _ | refine blk_drew ?_ | refine blk_alloc ?_ _));exact BK603.out)) : gb604 ≠ gb603));clear BK603;clear HB;have BK603 := n0_;have HB := n1_;have BK604 := n2_;have GW604 := n3_;have GE604 := n4_;have NB603_604 := n5_;have NB604_603 := n6_;clear n0_ n1_ n2_ n3_ n4_ n5_ n6_;clear hb hbox hg;have hnb60 := NB604_603.out;have hnc60 := NB603_604.out;have hcz61_0 : w59.cell? ⟨gb604,0,none⟩ = some (.int .i64 0) := (blk_cell BK604.out 0).trans rfl;have hcz61_1 : w59.cell? ⟨gb604,1,none⟩ = some (.bool false) := (blk_cell BK604.out 1).trans rfl;have hcz61_2 : w59.cell? ⟨gb604,2,none⟩ = some (.int .i64 0) := (blk_cell BK604.out 2).trans rfl;have hcz61_3 : w59.cell? ⟨gb604,3,none⟩ = some (.string (⟨#[]⟩ : ByteArray)) := (blk_cell BK604.out 3).trans rfl;have hfz61_0 := blk_frozen BK604.out 0;have hfz61_1 := blk_frozen BK604.out 1;have hfz61_2 := blk_frozen BK604.out 2;have hfz61_3 := blk_frozen BK604.out 3;have p605 : 0 ≤ (0 : Int) := (by omega);have q605 : 0 < (l0.length : Int) := of_decide_eq_true (by first | (with_reducible assumption) | assumption);obtain ⟨ad605,e605,hx605_0⟩ := Kd.at_int HR0.out 0 p605 q605;cases e605;have qi605 : (0 < l0.length) = True := eq_true (by omega);(try rw [show ((0 : Int)).toNat = 0 from rfl] at hx605_0);(try rw [Addr.add_zero'] at hx605_0);have hn605_0 : ad605.block ≠ gb604 := Nat.ne_of_lt (Nat.lt_of_lt_of_le (by have := World.block_lt_of_cell? _ _ hx605_0;first | rwa [add_block] at this | exact this) GW604.out);have hn605_1 : ad605.block ≠ gb604 := Nat.ne_of_lt (Nat.lt_of_lt_of_le (by have := World.block_lt_of_cell? _ _ hx605_0;first | rwa [add_block] at this | exact this) GW604.out);have hn605_2 : ad605.block ≠ gb604 := Nat.ne_of_lt (Nat.lt_of_lt_of_le (by have := World.block_lt_of_cell? _ _ hx605_0;first | rwa [add_block] at this | exact this) GW604.out);have hn605_3 : ad605.block ≠ gb604 := Nat.ne_of_lt (Nat.lt_of_lt_of_le (by have := World.block_lt_of_cell? _ _ hx605_0;first | rwa [add_block] at this | exact this) GW604.out);replace hx605_0 := (HB.out.cell (World.block_lt_of_cell? w _ hx605_0)).trans hx605_0;replace hx605_0 := (cell_far (p := ⟨gb604,0,none⟩) (by first | (rw [add_block];exact hn605_0) | (show (Addr.add _ _).block ≠ _;rw [add_block];exact hn605_0) | exact hn605_0) (.int .i64 0)).trans hx605_0;replace hx605_0 := (cell_far (p := ⟨gb604,1,none⟩) (by first | (rw [add_block];exact hn605_1) | (show (Addr.add _ _).block ≠ _;rw [add_block];exact hn605_1) | exact hn605_1) (.bool false)).trans hx605_0;replace hx605_0 := (cell_far (p := ⟨gb604,2,none⟩) (by first | (rw [add_block];exact hn605_2) | (show (Addr.add _ _).block ≠ _;rw [add_block];exact hn605_2) | exact hn605_2) (.int .i64 0)).trans hx605_0;replace hx605_0 := (cell_far (p := ⟨gb604,3,none⟩) (by first | (rw [add_block];exact hn605_3) | (show (Addr.add _ _).block ≠ _;rw [add_block];exact hn605_3) | exact hn605_3) (.string (⟨#[]⟩ : ByteArray))).trans hx605_0;clear hn605_0;clear hn605_1;clear hn605_2;clear hn605_3;replace p605 := eq_true p605;replace q605 := eq_true q605;have hcz62_0 : w59.cell? ⟨gb603,0,none⟩ = some (.int .i64 0) := (blk_cell BK603.out 0).trans rfl;have hcz62_1 : w59.cell? ⟨gb603,1,none⟩ = some (.bool false) := (blk_cell BK603.out 1).trans rfl;have hcz62_2 : w59.cell? ⟨gb603,2,none⟩ = some (.int .i64 0) := (blk_cell BK603.out 2).trans rfl;have hcz62_3 : w59.cell? ⟨gb603,3,none⟩ = some (.string (⟨#[]⟩ : ByteArray)) := (blk_cell BK603.out 3).trans rfl;have hfz62_0 := blk_frozen BK603.out 0;have hfz62_1 := blk_frozen BK603.out 1;have hfz62_2 := blk_frozen BK603.out 2;have hfz62_3 := blk_frozen BK603.out 3))
              refine bodyPost_ret (results_ctt rfl _ _ gb603 50 #[.int .i64 0,.bool false,.int .i64 0,.string (⟨#[]⟩ : ByteArray)] (0,0) _ rfl (by (with_reducible repeat (first | refine blk_drewN ?_ _ | refine blk_drew ?_ | refine blk_alloc ?_ _));refine blk_put (cs := #[.int .i64 0,.bool false,.int .i64 0,.string (⟨#[]⟩ : ByteArray)]) ?_ 3 _ rfl;(with_reducible repeat (first | refine blk_drewN ?_ _ | refine blk_drew ?_ | refine blk_alloc ?_ _));refine blk_put (cs := #[.int .i64 0,.bool false,.int .i64 0,.string (⟨#[]⟩ : ByteArray)]) ?_ 2 _ rfl;(with_reducible repeat (first | refine blk_drewN ?_ _ | refine blk_drew ?_ | refine blk_alloc ?_ _));refine blk_put (cs := #[.int .i64 0,.bool false,.int .i64 0,.string (⟨#[]⟩ : ByteArray)]) ?_ 1 _ rfl;(with_reducible repeat (first | refine blk_drewN ?_ _ | refine blk_drew ?_ | refine blk_alloc ?_ _));refine blk_put (cs := #[.int .i64 0,.bool false,.int .i64 0,.string (⟨#[]⟩ : ByteArray)]) ?_ 0 _ rfl;(with_reducible repeat (first | refine blk_drewN ?_ _ | refine blk_drew ?_ | refine blk_alloc ?_ _));refine blk_far ?_ NB603_604.out _;(with_reducible repeat (first | refine blk_drewN ?_ _ | refine blk_drew ?_ | refine blk_alloc ?_ _));refine blk_far ?_ NB603_604.out _;(with_reducible repeat (first | refine blk_drewN ?_ _ | refine blk_drew ?_ | refine blk_alloc ?_ _));refine blk_far ?_ NB603_604.out _;(with_reducible repeat (first | refine blk_drewN ?_ _ | refine blk_drew ?_ | refine blk_alloc ?_ _));refine blk_far ?_ NB603_604.out _;(with_reducible repeat (first | refine blk_drewN ?_ _ | refine blk_drew ?_ | refine blk_alloc ?_ _));exact BK603.out) Try.underlying50 rfl (by kernel_rfl)) rfl ?_
              exact ⟨by first | rfl | (simp [errW_none,errW_some] <;> rfl) | (simp [*,errW_none,errW_some] <;> rfl),by repeat (first | (with_reducible first | exact HB.out | apply below_alloc | apply pw_below_drewN | apply below_drew1 | refine below_set ?_ GE603.out | refine below_set ?_ GE604.out) | exact HB.out)⟩
    · rw [if_neg c8] at H
      exact absurd H (by simp)
end Go.Proofs.Ytfoaeigoajooeaa.Z
end
section
namespace Go.Proofs.Ytfoaeigoajooeaa.Z
open Go.RowKit Go.Proofs.YtfoaeigoajooeaaW.PrintWords Go.Proofs.YtfoaeigoajooeaaW.PrintLast Go.Proofs.YtfoaeigoajooeaaW.PrintMore
attribute [local go_sem] max2_int min2_int max_two min_two max_three min_three max_four min_four
set_option linter.unusedVariables false
set_option linter.unusedSimpArgs false
def verdererref04_Back.l0 : Nat → List Int → List (S50) → Int → Option ((List (S50)) × Int)
  | 0,_,_,_ => none
  | k + 1,x0,x4,x5 => if x5 < (x0.length : Int) then (if 0 ≤ x5 then (if (rd x0 x5) = 0 then (if (wrap64 (x5 + 1)) < (x0.length : Int) then (some (([] : List (S50)),7)) else (some (x4,0))) else (if x5 ≤ (x0.length : Int) then ((verdererref04_First.f k (x0.drop (x5 : Int).toNat)).bind fun bt617 => (if bt617.2.2.2.2.2 = 0 then (if x4.length < 3518437208883 then (verdererref04_Back.l0 k x0 (x4 ++ [(⟨bt617.1,bt617.2.1,bt617.2.2.1,bt617.2.2.2.1⟩ : S50)]) (wrap64 (x5 + bt617.2.2.2.2.1))) else (none)) else (some (([] : List (S50)),bt617.2.2.2.2.2)))) else (none))) else (none)) else (some (([] : List (S50)),8))
def verdererref04_Back.f (k : Nat) (l0 : List Int) : Option ((List (S50)) × Int) := verdererref04_Back.l0 k l0 ([] : List (S50)) 0
theorem verdererref04_Back.mono_l : ∀ k,(∀ y0 y1 y2,LeO (verdererref04_Back.l0 k y0 y1 y2) (verdererref04_Back.l0 (k + 1) y0 y1 y2))
  | 0 => fun _ _ _ r h => by simp [verdererref04_Back.l0] at h
  | k + 1 => by
    have ih0 := verdererref04_Back.mono_l k
    · intro y0 y1 y2
      unfold verdererref04_Back.l0
      repeat' first
      | (with_reducible exact ih0 _ _ _)
      | (with_reducible exact verdererref04_First.mono _ _)
      | (with_reducible exact LeO.refl _)
      | (with_reducible exact LeO.none _)
      | (with_reducible refine LeO.ite ?_ ?_)
      | (with_reducible refine LeO.bind ?_ (fun _ => ?_))
      | exact ih0 _ _ _
      | exact verdererref04_First.mono _ _
      | exact LeO.none _
      | refine LeO.ite ?_ ?_
      | refine LeO.bind ?_ (fun _ => ?_)
theorem verdererref04_Back.mono : ∀ a0 k,LeO (verdererref04_Back.f k a0) (verdererref04_Back.f (k + 1) a0) := by
  intro a0 k
  have ih0 := verdererref04_Back.mono_l k
  unfold verdererref04_Back.f
  repeat' first
      | (with_reducible exact ih0 _ _ _)
      | (with_reducible exact verdererref04_First.mono _ _)
      | (with_reducible exact LeO.refl _)
      | (with_reducible exact LeO.none _)
      | (with_reducible refine LeO.ite ?_ ?_)
      | (with_reducible refine LeO.bind ?_ (fun _ => ?_))
      | exact ih0 _ _ _
      | exact verdererref04_First.mono _ _
      | exact LeO.none _
      | refine LeO.ite ?_ ?_
      | refine LeO.bind ?_ (fun _ => ?_)
set_option maxHeartbeats 8000000 in
set_option maxRecDepth 100000 in
theorem verdererref04_Back.calls (k : Nat) (A0 : Option Addr) (c0 : Nat) (l0 : List Int) (r1 : List (S50)) (r2 : Int) (w : World) (hr0 : Kd.C (Kd.int .u8) w A0 l0.length l0) (hc0 : l0.length ≤ c0) (h : verdererref04_Back.f k l0 = some (r1,r2)) :
    Calls Try.prog 40 #[.slice A0 l0.length c0] w fun e w' => ∃ v0_ : Value,e = .returned (.tuple #[v0_,.int .i64 r2]) ∧ Kd.R k50 50 w' w.heap.size (fun _ => True) v0_ r1 ∧ Below w.heap.size w w' := by
  have hu50 := Try.underlying50
  have HR0 := Aside0.mk hr0
  have HC0 := Aside0.mk hc0
  clear hr0 hc0
  have HB := Aside0.mk (Below.refl w.heap.size w)
  have H : (verdererref04_Back.l0 k l0 ([] : List (S50)) 0) = some (r1,r2) := h
  clear h
  have H' := Aside0.mk H
  clear H
  go_enter Try.func40,Try.ntmps40
  go_wp2
  go_loopg [4,5] k (fun kq v4 v5 w' => ∃ (x4_1 : List (S50)) (x5_1 : Int),v5 = .int .i64 x5_1 ∧ Aside0 (verdererref04_Back.l0 kq l0 x4_1 x5_1 = some (r1,r2)) ∧ Aside0 (kq ≤ k) ∧ Aside0 (Kd.R k50 50 w' w.heap.size (fun _ => True) v4 x4_1) ∧ Aside0 (Below w.heap.size w w'))
  case atStart => exact ⟨(([] : List (S50))),(0),(by first | rfl | (simp;done) | (simp [*];done)),H',⟨Nat.le_refl _⟩,⟨by first | exact Kd.R_nil _ _ _ _ _ | exact Kd.N_nil _ _ _ _ _ | exact Kd.V_nil _ _ _ _ _ | exact Kd.Q_nil _ _ _ _ _ | exact Kd.S_nil _ _ _ _ _⟩,⟨by repeat (first | (with_reducible first | exact HB.out | apply below_alloc | apply pw_below_drewN | apply below_drew1) | exact HB.out)⟩⟩
  case round =>
    clear H'
    obtain ⟨x4_1,x5_1,rfl,HA,HK1,HO_4,HB⟩ := hrel
    cases gk with
    | zero => exact absurd HA.out (by simp [verdererref04_Back.l0])
    | succ k1 =>
      have H := HA.out
      clear HA
      simp only [verdererref04_Back.l0] at H
      by_cases c2 : x5_1 < (l0.length : Int)
      · rw [if_pos c2] at H
        have c2b0 : decide (x5_1 < (l0.length : Int)) = true := decide_eq_true c2
        clear c2
        by_cases c3 : 0 ≤ x5_1
        · rw [if_pos c3] at H
          have c3b0 : decide (0 ≤ x5_1) = true := decide_eq_true c3
          clear c3
          by_cases c4 : (rd l0 x5_1) = 0
          · rw [if_pos c4] at H
            have c4b0 : ((rd l0 x5_1) == 0) = true := beq_iff_eq.mpr c4
            have c4b1 : ((rd l0 x5_1) != 0) = false := bne_eq_false_iff_eq.mpr c4
            clear c4
            by_cases c5 : (wrap64 (x5_1 + 1)) < (l0.length : Int)
            · rw [if_pos c5] at H
              have c5b0 : decide ((wrap64 (x5_1 + 1)) < (l0.length : Int)) = true := decide_eq_true c5
              clear c5
              simp only [Option.some.injEq,Prod.mk.injEq] at H
              obtain ⟨rfl,rfl⟩ := H
              have p615 : 0 ≤ (x5_1 : Int) := of_decide_eq_true (by first | (with_reducible assumption) | assumption)
              have q615 : x5_1 < (l0.length : Int) := of_decide_eq_true (by first | (with_reducible assumption) | assumption)
              obtain ⟨ad615,e615,hx615_0⟩ := Kd.at_int HR0.out x5_1 p615 q615
              cases e615
              replace hx615_0 := (HB.out.cell (World.block_lt_of_cell? w _ hx615_0)).trans hx615_0
              replace p615 := eq_true p615
              replace q615 := eq_true q615
              go_wp2
              go_ret2
              exact ⟨_,by first | rfl | (simp [errW_none,errW_some] <;> rfl) | (simp [*,errW_none,errW_some] <;> rfl),by first | exact Kd.R_nil _ _ _ _ _ | exact Kd.N_nil _ _ _ _ _ | exact Kd.V_nil _ _ _ _ _ | exact Kd.Q_nil _ _ _ _ _ | exact Kd.S_nil _ _ _ _ _,by repeat (first | (with_reducible first | exact HB.out | apply below_alloc | apply pw_below_drewN | apply below_drew1) | exact HB.out)⟩
            · rw [if_neg c5] at H
              have c5b0 : decide ((wrap64 (x5_1 + 1)) < (l0.length : Int)) = false := decide_eq_false c5
              clear c5
              simp only [Option.some.injEq,Prod.mk.injEq] at H
              obtain ⟨rfl,rfl⟩ := H
              have p615 : 0 ≤ (x5_1 : Int) := of_decide_eq_true (by first | (with_reducible assumption) | assumption)
              have q615 : x5_1 < (l0.length : Int) := of_decide_eq_true (by first | (with_reducible assumption) | assumption)
              obtain ⟨ad615,e615,hx615_0⟩ := Kd.at_int HR0.out x5_1 p615 q615
              cases e615
              replace hx615_0 := (HB.out.cell (World.block_lt_of_cell? w _ hx615_0)).trans hx615_0
              replace p615 := eq_true p615
              replace q615 := eq_true q615
              go_wp2
              go_ret2
              exact ⟨_,by first | rfl | (simp [errW_none,errW_some] <;> rfl) | (simp [*,errW_none,errW_some] <;> rfl),by (with_reducible repeat (first | apply Kd.R_alloc | apply Kd.R_drewN | apply Kd.R_drew));exact HO_4.out,by repeat (first | (with_reducible first | exact HB.out | apply below_alloc | apply pw_below_drewN | apply below_drew1) | exact HB.out)⟩
          · rw [if_neg c4] at H
            have c4b0 : ((rd l0 x5_1) == 0) = false := beq_eq_false_iff_ne.mpr c4
            have c4b1 : ((rd l0 x5_1) != 0) = true := bne_iff_ne.mpr c4
            have c6b0 := eq_true (of_decide_eq_true (by first | (with_reducible assumption) | assumption) : 0 ≤ x5_1)
            by_cases c7 : x5_1 ≤ (l0.length : Int)
            · rw [if_pos c7] at H
              have c7b0 := eq_true c7
              have c7b1 : decide (x5_1 ≤ (l0.length : Int)) = true := decide_eq_true c7
              clear c7
              replace H := Option.bind_eq_some_iff.mp H
              obtain ⟨⟨t617,t618,t619,t620,t621,t622⟩,A80,H⟩ := H
              replace H : (if t622 = 0 then (if x4_1.length < 3518437208883 then (verdererref04_Back.l0 k1 l0 (x4_1 ++ [(⟨t617,t618,t619,t620⟩ : S50)]) (wrap64 (x5_1 + t621))) else (none)) else (some (([] : List (S50)),t622))) = some (r1,r2) := H
              have A8 := Aside0.mk A80
              clear A80
              by_cases c9 : t622 = 0
              · rw [if_pos c9] at H
                have c9b0 : (t622 == 0) = true := beq_iff_eq.mpr c9
                have c9b1 : (t622 != 0) = false := bne_eq_false_iff_eq.mpr c9
                clear c9
                by_cases c10 : x4_1.length < 3518437208883
                · rw [if_pos c10] at H
                  have LMc10 := Aside0.mk c10
                  clear c10
                  obtain ⟨y624,hy624⟩ : ∃ y_ : List (S50),y_ = (x4_1 ++ [(⟨t617,t618,t619,t620⟩ : S50)]) := ⟨_,rfl⟩
                  replace H : (verdererref04_Back.l0 k1 l0 y624 (wrap64 (x5_1 + t621))) = some (r1,r2) := by first | (rw [hy624];with_reducible exact H) | (have H2_ := (Option.bind_some _ _).symm.trans H;rw [hy624];with_reducible exact H2_) | (have H2_ := (Option.bind_some _ _).symm.trans H;with_reducible exact H2_) | with_reducible exact H | (rw [hy624];exact H) | exact H
                  have Ny624 := Aside0.mk hy624
                  clear hy624
                  have H' := Aside0.mk H
                  clear H
                  have p615 : 0 ≤ (x5_1 : Int) := of_decide_eq_true (by first | (with_reducible assumption) | assumption)
                  have q615 : x5_1 < (l0.length : Int) := of_decide_eq_true (by first | (with_reducible assumption) | assumption)
                  obtain ⟨ad615,e615,hx615_0⟩ := Kd.at_int HR0.out x5_1 p615 q615
                  cases e615
                  replace hx615_0 := (HB.out.cell (World.block_lt_of_cell? w _ hx615_0)).trans hx615_0
                  replace p615 := eq_true p615
                  replace q615 := eq_true q615
                  obtain ⟨i011,hi011,_,hsz11,_⟩ := info_parts info5
                  obtain ⟨A11,hcut11,hA11,hC11⟩ := print_drop_of (P := Try.prog) (Value.int .u8) 0 47 5 .i64 Try.underlying47 hi011 hsz11 (some ad615) c0 l0 x5_1 (of_decide_eq_true (by first | (with_reducible assumption) | assumption)) (of_decide_eq_true (by first | (with_reducible assumption) | assumption)) HC0.out
                  have HR616 := Aside0.mk (Kd.C_of_reads (h1 := fun _ => rfl) (hA11 _ (Kd.reads_of_C HR0.out)))
                  have HC616 := Aside0.mk hC11
                  clear hA11 hC11 hi011 hsz11
                  go_wp2_with (first | ((with_reducible refine gate_callee (f := 38) rfl ?_);refine goesL_ (some 28) rfl rfl Try.func38 (by kernel_rfl) rfl #[.slice A11 (l0.drop (x5_1 : Int).toNat).length (c0 - x5_1.toNat)] rfl (by (try simp only [List.map_toArray,List.map_cons,List.map_nil]);first | done | (rw [show (l0.drop (x5_1 : Int).toNat).length = (l0.length - x5_1.toNat) from List.length_drop] <;> rfl) | rfl | (simp only [List.length_drop,List.length_take];rfl)) ?_;(with_reducible refine (verdererref04_First.calls k1 _ _ (l0.drop (x5_1 : Int).toNat) t617 t618 t619 t620 t621 t622 _ ?side1 ?side2 A8.out).mono ?_);(case side1 => repeat (first | exact (Kd.C_below HR616.out HB.out) | (with_reducible refine Kd.C_alloc ?_ _) | (with_reducible refine Kd.C_drewN ?_ _) | (with_reducible refine Kd.C_drew ?_)));(case side2 => exact HC616.out);rintro e w12 ⟨rfl,hb⟩;refine ⟨_,rfl,?_⟩;have n0_ := Aside0.mk (Kd.R_below (by (with_reducible repeat (first | apply Kd.R_alloc | apply Kd.R_drewN | apply Kd.R_drew));exact HO_4.out) hb);have n1_ := Aside0.mk (below_step (by repeat (first | (with_reducible first | exact HB.out | apply below_alloc | apply pw_below_drewN | apply below_drew1) | exact HB.out)) hb);clear HO_4;clear HB;have HO_4 := n0_;have HB := n1_;clear n0_ n1_;(try clear hb);(try clear hb2);(try clear hk);(try clear hi)) | ((with_reducible refine gate_dst (N := 6) rfl ?_);refine box_event ?hg (N := 6) ?hd (cs := #[.int .i64 0,.bool false,.int .i64 0,.string (⟨#[]⟩ : ByteArray)]) (t := 50) ?hr ?_;(case hd => rfl);(case hg => rfl);(case hr => first | (go_simp;done) | (go_simp;rfl));intro gb623 hg w13 hbox hb;have n0_ := Aside0.mk (Kd.R_below (Kd.R_elderB (by (with_reducible repeat (first | apply Kd.R_alloc | apply Kd.R_drewN | apply Kd.R_drew));exact HO_4.out) gb623 (Nat.le_of_eq hg.symm)) hb);have n1_ := Aside0.mk (below_step (by repeat (first | (with_reducible first | exact HB.out | apply below_alloc | apply pw_below_drewN | apply below_drew1) | exact HB.out)) hb);have n2_ := Aside0.mk (hbox);have n3_ := Aside0.mk ((by rw [hg];exact (below_size (by repeat (first | (with_reducible first | exact HB.out | apply below_alloc | apply pw_below_drewN | apply below_drew1) | exact HB.out))) : w.heap.size ≤ gb623));have n4_ := Aside0.mk ((by rw [hg];exact (below_size (by repeat (first | (with_reducible first | exact HB.out | apply below_alloc | apply pw_below_drewN | apply below_drew1) | exact HB.out))) : w.heap.size ≤ gb623));clear HO_4;clear HB;have HO_4 := n0_;have HB := n1_;have BK623 := n2_;have GW623 := n3_;have GE623 := n4_;clear n0_ n1_ n2_ n3_ n4_;clear hb hbox hg;have hcz14_0 : w13.cell? ⟨gb623,0,none⟩ = some (.int .i64 0) := (blk_cell BK623.out 0).trans rfl;have hcz14_1 : w13.cell? ⟨gb623,1,none⟩ = some (.bool false) := (blk_cell BK623.out 1).trans rfl;have hcz14_2 : w13.cell? ⟨gb623,2,none⟩ = some (.int .i64 0) := (blk_cell BK623.out 2).trans rfl;have hcz14_3 : w13.cell? ⟨gb623,3,none⟩ = some (.string (⟨#[]⟩ : ByteArray)) := (blk_cell BK623.out 3).trans rfl;have hfz14_0 := blk_frozen BK623.out 0;have hfz14_1 := blk_frozen BK623.out 1;have hfz14_2 := blk_frozen BK623.out 2;have hfz14_3 := blk_frozen BK623.out 3) | ((with_reducible refine gate_builtin (b := .append) (xs := #[.tmp 35,.tmp 37]) rfl ?_);at_builtin;refine Kd.R_append k50 (w0 := w) w.heap.size rfl (.tmp 35) (.tmp 37) 22 50 (.agg #[(.int .i64 0),(.bool false),(.int .i64 0),(.string ⟨#[]⟩)]) 40 rfl Try.underlying22 info50 rfl (by decide) (by omega) u4 x4_1 (⟨t617,t618,t619,t620⟩ : S50) [.int .i64 t617,.bool t618,.int .i64 t619,.string t620] (fun k_ => k_ ≠ gb623) (fun _ => False) rfl (by first | (go_simp;done) | (go_simp;rfl)) ?aP (fun _ hk => hk.elim) ?aF ?aO ?aB ?aS ?aL ?_;(case aP => exact k50_mkM _ _ _ (⟨t617,t618,t619,t620⟩ : S50));(case aB => exact (by repeat (first | (with_reducible first | exact HB.out | apply below_alloc | apply pw_below_drewN | apply below_drew1 | refine below_set ?_ GE623.out) | exact HB.out)));(case aF => exact (fun k_ hk => Kd.freshB (g := gb623) (o := .cells #[.int .i64 t617,.bool t618,.int .i64 t619,.string t620] 50 (0,0)) (by (with_reducible repeat (first | refine blk_drewN ?_ _ | refine blk_drew ?_ | refine blk_alloc ?_ _));refine blk_put (cs := #[.int .i64 t617,.bool t618,.int .i64 t619,.string (⟨#[]⟩ : ByteArray)]) ?_ 3 _ rfl;(with_reducible repeat (first | refine blk_drewN ?_ _ | refine blk_drew ?_ | refine blk_alloc ?_ _));refine blk_put (cs := #[.int .i64 t617,.bool t618,.int .i64 0,.string (⟨#[]⟩ : ByteArray)]) ?_ 2 _ rfl;(with_reducible repeat (first | refine blk_drewN ?_ _ | refine blk_drew ?_ | refine blk_alloc ?_ _));refine blk_put (cs := #[.int .i64 t617,.bool false,.int .i64 0,.string (⟨#[]⟩ : ByteArray)]) ?_ 1 _ rfl;(with_reducible repeat (first | refine blk_drewN ?_ _ | refine blk_drew ?_ | refine blk_alloc ?_ _));refine blk_put (cs := #[.int .i64 0,.bool false,.int .i64 0,.string (⟨#[]⟩ : ByteArray)]) ?_ 0 _ rfl;(with_reducible repeat (first | refine blk_drewN ?_ _ | refine blk_drew ?_ | refine blk_alloc ?_ _));exact BK623.out) k_ hk));(case aO => exact (by (with_reducible repeat (first | apply Kd.R_alloc | apply Kd.R_drewN | apply Kd.R_drew));exact Kd.R_mono (Kd.R_far (p := ⟨gb623,3,none⟩) (Kd.R_far (p := ⟨gb623,2,none⟩) (Kd.R_far (p := ⟨gb623,1,none⟩) (Kd.R_far (p := ⟨gb623,0,none⟩) (Kd.R_mono HO_4.out (fun k_ hk => (⟨hk,hk.2⟩ : _ ∧ k_ ≠ gb623))) (fun _ hk => hk.2) (.int .i64 t617)) (fun _ hk => hk.2) (.bool t618)) (fun _ hk => hk.2) (.int .i64 t619)) (fun _ hk => hk.2) (.string t620)) (fun _ hk => hk.1.2)));(case aS => exact (below_size (by repeat (first | (with_reducible first | exact HB.out | apply below_alloc | apply pw_below_drewN | apply below_drew1 | refine below_set ?_ GE623.out) | exact HB.out))));(case aL => have := LMc10.out;omega);intro v625 w15 ho hb hg hat;rw [← Ny624.out] at ho;have n0_ := Aside0.mk (blk_grown (g := gb623) (o := .cells #[.int .i64 t617,.bool t618,.int .i64 t619,.string t620] 50 (0,0)) (by (with_reducible repeat (first | refine blk_drewN ?_ _ | refine blk_drew ?_ | refine blk_alloc ?_ _));refine blk_put (cs := #[.int .i64 t617,.bool t618,.int .i64 t619,.string (⟨#[]⟩ : ByteArray)]) ?_ 3 _ rfl;(with_reducible repeat (first | refine blk_drewN ?_ _ | refine blk_drew ?_ | refine blk_alloc ?_ _));refine blk_put (cs := #[.int .i64 t617,.bool t618,.int .i64 0,.string (⟨#[]⟩ : ByteArray)]) ?_ 2 _ rfl;(with_reducible repeat (first | refine blk_drewN ?_ _ | refine blk_drew ?_ | refine blk_alloc ?_ _));refine blk_put (cs := #[.int .i64 t617,.bool false,.int .i64 0,.string (⟨#[]⟩ : ByteArray)]) ?_ 1 _ rfl;(with_reducible repeat (first | refine blk_drewN ?_ _ | refine blk_drew ?_ | refine blk_alloc ?_ _));refine blk_put (cs := #[.int .i64 0,.bool false,.int .i64 0,.string (⟨#[]⟩ : ByteArray)]) ?_ 0 _ rfl;(with_reducible repeat (first | refine blk_drewN ?_ _ | refine blk_drew ?_ | refine blk_alloc ?_ _));exact BK623.out) hg (Kd.R_away HO_4.out (fun _ hk => hk.2)));have n1_ := Aside0.mk (hb);have n2_ := Aside0.mk (ho);clear BK623;clear HB;clear HO_4;have BK623 := n0_;have HB := n1_;have HO626 := n2_;clear n0_ n1_ n2_;clear ho hb hg hat))
                  go_roundg k1
                  case measure => have := HK1.out;omega
                  case rel => exact ⟨(y624),(wrap64 (x5_1 + t621)),(by first | rfl | (simp;done) | (simp [*];done)),H',⟨by have := HK1.out;omega⟩,⟨by (with_reducible repeat (first | apply Kd.R_alloc | apply Kd.R_drewN | apply Kd.R_drew));exact Kd.R_mono HO626.out (fun _ hk => trivial)⟩,⟨by repeat (first | (with_reducible first | exact HB.out | apply below_alloc | apply pw_below_drewN | apply below_drew1 | refine below_set ?_ GE623.out) | exact HB.out)⟩⟩
                · rw [if_neg c10] at H
                  exact absurd H (by simp)
              · rw [if_neg c9] at H
                have c9b0 : (t622 == 0) = false := beq_eq_false_iff_ne.mpr c9
                have c9b1 : (t622 != 0) = true := bne_iff_ne.mpr c9
                simp only [Option.some.injEq,Prod.mk.injEq] at H
                obtain ⟨rfl,rfl⟩ := H
                have p615 : 0 ≤ (x5_1 : Int) := of_decide_eq_true (by first | (with_reducible assumption) | assumption)
                have q615 : x5_1 < (l0.length : Int) := of_decide_eq_true (by first | (with_reducible assumption) | assumption)
                obtain ⟨ad615,e615,hx615_0⟩ := Kd.at_int HR0.out x5_1 p615 q615
                cases e615
                replace hx615_0 := (HB.out.cell (World.block_lt_of_cell? w _ hx615_0)).trans hx615_0
                replace p615 := eq_true p615
                replace q615 := eq_true q615
                obtain ⟨i016,hi016,_,hsz16,_⟩ := info_parts info5
                obtain ⟨A16,hcut16,hA16,hC16⟩ := print_drop_of (P := Try.prog) (Value.int .u8) 0 47 5 .i64 Try.underlying47 hi016 hsz16 (some ad615) c0 l0 x5_1 (of_decide_eq_true (by first | (with_reducible assumption) | assumption)) (of_decide_eq_true (by first | (with_reducible assumption) | assumption)) HC0.out
                have HR616 := Aside0.mk (Kd.C_of_reads (h1 := fun _ => rfl) (hA16 _ (Kd.reads_of_C HR0.out)))
                have HC616 := Aside0.mk hC16
                clear hA16 hC16 hi016 hsz16
                go_wp2_with (first | ((with_reducible refine gate_callee (f := 38) rfl ?_);refine goesL_ (some 28) rfl rfl Try.func38 (by kernel_rfl) rfl #[.slice A16 (l0.drop (x5_1 : Int).toNat).length (c0 - x5_1.toNat)] rfl (by (try simp only [List.map_toArray,List.map_cons,List.map_nil]);first | done | (rw [show (l0.drop (x5_1 : Int).toNat).length = (l0.length - x5_1.toNat) from List.length_drop] <;> rfl) | rfl | (simp only [List.length_drop,List.length_take];rfl)) ?_;(with_reducible refine (verdererref04_First.calls k1 _ _ (l0.drop (x5_1 : Int).toNat) t617 t618 t619 t620 t621 t622 _ ?side1 ?side2 A8.out).mono ?_);(case side1 => repeat (first | exact (Kd.C_below HR616.out HB.out) | (with_reducible refine Kd.C_alloc ?_ _) | (with_reducible refine Kd.C_drewN ?_ _) | (with_reducible refine Kd.C_drew ?_)));(case side2 => exact HC616.out);rintro e w17 ⟨rfl,hb⟩;refine ⟨_,rfl,?_⟩;have n0_ := Aside0.mk (Kd.R_below (by (with_reducible repeat (first | apply Kd.R_alloc | apply Kd.R_drewN | apply Kd.R_drew));exact HO_4.out) hb);have n1_ := Aside0.mk (below_step (by repeat (first | (with_reducible first | exact HB.out | apply below_alloc | apply pw_below_drewN | apply below_drew1) | exact HB.out)) hb);clear HO_4;clear HB;have HO_4 := n0_;have HB := n1_;clear n0_ n1_;(try clear hb);(try clear hb2);(try clear hk);(try clear hi)) | ((with_reducible refine gate_dst (N := 6) rfl ?_);refine box_event ?hg (N := 6) ?hd (cs := #[.int .i64 0,.bool false,.int .i64 0,.string (⟨#[]⟩ : ByteArray)]) (t := 50) ?hr ?_;(case hd => rfl);(case hg => rfl);(case hr => first | (go_simp;done) | (go_simp;rfl));intro gb623 hg w18 hbox hb;have n0_ := Aside0.mk (Kd.R_below (Kd.R_elderB (by (with_reducible repeat (first | apply Kd.R_alloc | apply Kd.R_drewN | apply Kd.R_drew));exact HO_4.out) gb623 (Nat.le_of_eq hg.symm)) hb);have n1_ := Aside0.mk (below_step (by repeat (first | (with_reducible first | exact HB.out | apply below_alloc | apply pw_below_drewN | apply below_drew1) | exact HB.out)) hb);have n2_ := Aside0.mk (hbox);have n3_ := Aside0.mk ((by rw [hg];exact (below_size (by repeat (first | (with_reducible first | exact HB.out | apply below_alloc | apply pw_below_drewN | apply below_drew1) | exact HB.out))) : w.heap.size ≤ gb623));have n4_ := Aside0.mk ((by rw [hg];exact (below_size (by repeat (first | (with_reducible first | exact HB.out | apply below_alloc | apply pw_below_drewN | apply below_drew1) | exact HB.out))) : w.heap.size ≤ gb623));clear HO_4;clear HB;have HO_4 := n0_;have HB := n1_;have BK623 := n2_;have GW623 := n3_;have GE623 := n4_;clear n0_ n1_ n2_ n3_ n4_;clear hb hbox hg;have hcz19_0 : w18.cell? ⟨gb623,0,none⟩ = some (.int .i64 0) := (blk_cell BK623.out 0).trans rfl;have hcz19_1 : w18.cell? ⟨gb623,1,none⟩ = some (.bool false) := (blk_cell BK623.out 1).trans rfl;have hcz19_2 : w18.cell? ⟨gb623,2,none⟩ = some (.int .i64 0) := (blk_cell BK623.out 2).trans rfl;have hcz19_3 : w18.cell? ⟨gb623,3,none⟩ = some (.string (⟨#[]⟩ : ByteArray)) := (blk_cell BK623.out 3).trans rfl;have hfz19_0 := blk_frozen BK623.out 0;have hfz19_1 := blk_frozen BK623.out 1;have hfz19_2 := blk_frozen BK623.out 2;have hfz19_3 := blk_frozen BK623.out 3))
                go_ret2
                exact ⟨_,by first | rfl | (simp [errW_none,errW_some] <;> rfl) | (simp [*,errW_none,errW_some] <;> rfl),by first | exact Kd.R_nil _ _ _ _ _ | exact Kd.N_nil _ _ _ _ _ | exact Kd.V_nil _ _ _ _ _ | exact Kd.Q_nil _ _ _ _ _ | exact Kd.S_nil _ _ _ _ _,by repeat (first | (with_reducible first | exact HB.out | apply below_alloc | apply pw_below_drewN | apply below_drew1 | refine below_set ?_ GE623.out) | exact HB.out)⟩
            · rw [if_neg c7] at H
              exact absurd H (by simp)
        · rw [if_neg c3] at H
          exact absurd H (by simp)
      · rw [if_neg c2] at H
        have c2b0 : decide (x5_1 < (l0.length : Int)) = false := decide_eq_false c2
        clear c2
        simp only [Option.some.injEq,Prod.mk.injEq] at H
        obtain ⟨rfl,rfl⟩ := H
        go_wp2
        go_ret2
        exact ⟨_,by first | rfl | (simp [errW_none,errW_some] <;> rfl) | (simp [*,errW_none,errW_some] <;> rfl),by first | exact Kd.R_nil _ _ _ _ _ | exact Kd.N_nil _ _ _ _ _ | exact Kd.V_nil _ _ _ _ _ | exact Kd.Q_nil _ _ _ _ _ | exact Kd.S_nil _ _ _ _ _,by repeat (first | (with_reducible first | exact HB.out | apply below_alloc | apply pw_below_drewN | apply below_drew1) | exact HB.out)⟩
end Go.Proofs.Ytfoaeigoajooeaa.Z
end
section
namespace Go.Proofs.Ytfoaeigoajooeaa.Z
set_option linter.unusedVariables false
open Go.RowKit Go.Proofs.YtfoaeigoajooeaaW.PrintWords Go.Proofs.YtfoaeigoajooeaaW.PrintLast Go.Proofs.YtfoaeigoajooeaaW.PrintMore Go.Proofs.Ytfoaeigoajooeaa.Cmp
theorem rdn_get {xs : List Int} {i : Nat} (h : i < xs.length) : rd xs (i : Int) = xs[i] := by unfold rd;simp [List.getD,List.getElem?_eq_getElem h]
theorem dropn_rd {xs : List Int} {i : Nat} (h : i < xs.length) : xs.drop i = rd xs (i : Int) :: xs.drop (i + 1) := by rw [rdn_get h];exact List.drop_eq_getElem_cons h
def Bs (l : List Int) : Prop := ∀ x ∈ l,0 ≤ x ∧ x < 256
theorem Bs.drop {l : List Int} (h : Bs l) (n : Nat) : Bs (l.drop n) := fun x hx => h x (List.mem_of_mem_drop hx)
theorem Bs.take {l : List Int} (h : Bs l) (n : Nat) : Bs (l.take n) := fun x hx => h x (List.mem_of_mem_take hx)
theorem bs_rd {l : List Int} (h : Bs l) {i : Nat} (hi : i < l.length) : 0 ≤ rd l (i : Int) ∧ rd l (i : Int) < 256 := by rw [rdn_get hi];exact h _ (List.getElem_mem hi)
def cnt : List Int → Int → Int
  | [],acc => acc
  | b :: bs,acc => cnt bs ((acc * 256 + b) % 18446744073709551616)
theorem or_step {x b : Int} (h0 : 0 ≤ b) (h1 : b < 256) : Go.bits .or .u64 (IntKind.u64.wrap (x * 256)) (IntKind.u64.wrap b) = (x * 256 + b) % 18446744073709551616 := by
  rw [Go.IntKind.wrap_u64,Go.IntKind.wrap_u64,show b % 18446744073709551616 = b by omega]
  rw [Go.bits_join .u64 64 (by decide) (fun n g0 g1 => by rw [Go.IntKind.wrap_u64];omega) 8 _ _ (by omega) (by omega) (by omega) h0 (by omega) (by omega)]
  omega
def numRes (X : Int) : Int × Bool × Int × ByteArray × Int × Int := (2,false,wrap64 (turn X),⟨#[]⟩,9,0)
theorem count_l0 (x : List Int) (hb : Bs x) (hl : x.length ≤ 20000) : ∀ d i k acc,x.length - i = d → i ≤ x.length → 0 ≤ acc → acc < 18446744073709551616 → d < k → pack_count.l0 k acc x (x.length : Int) (i : Int) = some (numRes (cnt (x.drop i) acc)) := by
  intro d
  induction d with
  | zero =>
    intro i k acc hd hi h0 h1 hk
    obtain ⟨k,rfl⟩ : ∃ m,k = m + 1 := ⟨k - 1,by omega⟩
    simp only [pack_count.l0]
    have e : IntKind.u64.wrap acc = acc := by rw [Go.IntKind.wrap_u64];omega
    have t := turn_xor acc
    rw [e] at t
    rw [if_neg (by omega),List.drop_eq_nil_of_le (by omega),t]
    rfl
  | succ d ih =>
    intro i k acc hd hi h0 h1 hk
    obtain ⟨k,rfl⟩ : ∃ m,k = m + 1 := ⟨k - 1,by omega⟩
    have hlt : i < x.length := by omega
    obtain ⟨b0,b1⟩ := bs_rd hb hlt
    simp only [pack_count.l0]
    rw [if_pos (by omega),if_pos (by omega),if_pos (by omega),or_step b0 b1,wrap_succ hlt (by omega),dropn_rd hlt]
    exact ih (i + 1) k _ (by omega) (by omega) (by omega) (by omega) (by omega)
def cutF : List Int → List Int → Int → ByteArray × Int × Int
  | [],_,_ => (⟨#[]⟩,0,8)
  | c :: cs,acc,i => if c = 0 then (match cs with
      | [] => (⟨#[]⟩,0,8)
      | d :: ds => if d = 1 then (strOfNums acc,i + 2,0) else if d = 255 then (if acc.length = 60 then (⟨#[]⟩,0,9) else cutF ds (acc ++ [c]) (i + 2)) else (⟨#[]⟩,0,7))
    else if acc.length = 60 then (⟨#[]⟩,0,9) else cutF cs (acc ++ [c]) (i + 1)
theorem cutF_nil (acc : List Int) (i : Int) : cutF [] acc i = (⟨#[]⟩,0,8) := by rw [cutF.eq_def]
theorem cutF_one (acc : List Int) (i : Int) : cutF [0] acc i = (⟨#[]⟩,0,8) := by rw [cutF.eq_def];rfl
theorem cutF_zero (d : Int) (ds acc : List Int) (i : Int) : cutF (0 :: d :: ds) acc i = if d = 1 then (strOfNums acc,i + 2,0) else if d = 255 then (if acc.length = 60 then (⟨#[]⟩,0,9) else cutF ds (acc ++ [0]) (i + 2)) else (⟨#[]⟩,0,7) := by rw [cutF.eq_def];rfl
theorem cutF_char {c : Int} (h : ¬ c = 0) (cs acc : List Int) (i : Int) : cutF (c :: cs) acc i = if acc.length = 60 then (⟨#[]⟩,0,9) else cutF cs (acc ++ [c]) (i + 1) := by rw [cutF.eq_def];simp only;rw [if_neg h]
theorem cutF_end : ∀ n (x acc : List Int) (i : Int),x.length ≤ n → ((cutF x acc i).2.2 = 0 → i + 2 ≤ (cutF x acc i).2.1 ∧ (cutF x acc i).2.1 ≤ i + x.length) := by
  intro n
  induction n with
  | zero =>
    intro x acc i hx h
    obtain rfl : x = [] := List.eq_nil_of_length_eq_zero (by omega)
    rw [cutF_nil] at h;cases h
  | succ n ih =>
    intro x acc i hx h
    cases x with
    | nil => rw [cutF_nil] at h;cases h
    | cons c cs =>
      by_cases h0 : c = 0
      · subst h0
        cases cs with
        | nil => rw [cutF_one] at h;cases h
        | cons d ds =>
          rw [cutF_zero] at h ⊢
          simp only [List.length_cons] at hx ⊢
          by_cases h1 : d = 1
          · rw [if_pos h1];simp only;omega
          · by_cases h2 : d = 255
            · rw [if_neg h1,if_pos h2] at h ⊢
              by_cases h3 : acc.length = 60
              · rw [if_pos h3] at h;cases h
              · rw [if_neg h3] at h ⊢
                have := ih ds _ _ (by omega) h
                omega
            · rw [if_neg h1,if_neg h2] at h;cases h
      · rw [cutF_char h0] at h ⊢
        simp only [List.length_cons] at hx ⊢
        by_cases h3 : acc.length = 60
        · rw [if_pos h3] at h;cases h
        · rw [if_neg h3] at h ⊢
          have := ih cs _ _ (by omega) h
          omega
theorem cut_l0 (x : List Int) (hl : x.length ≤ 20000) : ∀ d i k (acc : List Int),x.length - i ≤ d → i ≤ x.length → acc.length ≤ 60 → d < k → pack_cut.l0 k x acc (i : Int) = some (cutF (x.drop i) acc i) := by
  intro d
  induction d with
  | zero =>
    intro i k acc hd hi ha hk
    obtain ⟨k,rfl⟩ : ∃ m,k = m + 1 := ⟨k - 1,by omega⟩
    simp only [pack_cut.l0]
    rw [if_neg (by omega),List.drop_eq_nil_of_le (by omega),cutF_nil]
  | succ d ih =>
    intro i k acc hd hi ha hk
    obtain ⟨k,rfl⟩ : ∃ m,k = m + 1 := ⟨k - 1,by omega⟩
    simp only [pack_cut.l0]
    by_cases hlt : i < x.length
    · rw [if_pos (by omega),if_pos (by omega),wrap_succ hlt (by omega),dropn_rd hlt]
      by_cases h0 : rd x (i : Int) = 0
      · rw [if_pos h0,h0]
        by_cases h1 : ((i + 1 : Nat) : Int) = (x.length : Int)
        · rw [if_pos h1,List.drop_eq_nil_of_le (by omega),cutF_one]
        · have hlt1 : i + 1 < x.length := by omega
          rw [if_neg h1,if_pos (by omega),if_pos (by omega),dropn_rd hlt1,cutF_zero,wrap_succ hlt1 (by omega)]
          by_cases h2 : rd x ((i + 1 : Nat) : Int) = 1
          · rw [if_pos h2,if_pos h2]
            congr 1
          · rw [if_neg h2,if_neg h2]
            by_cases h3 : rd x ((i + 1 : Nat) : Int) = 255
            · rw [if_pos h3,if_pos h3]
              by_cases h4 : acc.length = 60
              · rw [if_pos h4,if_pos (by omega)]
              · rw [if_neg h4,if_neg (by omega),if_pos (by omega),ih (i + 1 + 1) k _ (by omega) (by omega) (by simp;omega) (by omega)]
                congr 1
            · rw [if_neg h3,if_neg h3]
      · rw [if_neg h0,cutF_char h0]
        by_cases h4 : acc.length = 60
        · rw [if_pos h4,if_pos (by omega)]
        · rw [if_neg h4,if_neg (by omega),if_pos (by omega),ih (i + 1) k _ (by omega) (by omega) (by simp;omega) (by omega)]
          congr 1
    · rw [if_neg (by omega),List.drop_eq_nil_of_le (by omega),cutF_nil]
def cutRes (r : ByteArray × Int × Int) : Int × Bool × Int × ByteArray × Int × Int := if r.2.2 = 0 then (3,false,0,r.1,1 + r.2.1,0) else (0,false,0,⟨#[]⟩,0,r.2.2)
def firstF (l : List Int) : Int × Bool × Int × ByteArray × Int × Int :=
  if l.length = 0 then (0,false,0,⟨#[]⟩,0,8)
  else if rd l 0 = 1 then (0,false,0,⟨#[]⟩,1,0)
  else if rd l 0 = 2 then (if l.length < 2 then (0,false,0,⟨#[]⟩,0,8) else if rd l 1 > 1 then (0,false,0,⟨#[]⟩,0,7) else (1,rd l 1 == 1,0,⟨#[]⟩,2,0))
  else if rd l 0 = 3 then (if l.length < 9 then (0,false,0,⟨#[]⟩,0,8) else numRes (cnt ((l.drop 1).take 8) 0))
  else if rd l 0 = 4 then cutRes (cutF (l.drop 1) [] 0)
  else (0,false,0,⟨#[]⟩,0,7)
theorem rd_drop (l : List Int) (i : Nat) (j : Nat) : rd (l.drop i) (j : Int) = rd l ((i + j : Nat) : Int) := by show (l.drop i).getD j 0 = l.getD (i + j) 0;simp [List.getD]
theorem packFirst_f (l : List Int) (hb : Bs l) (hl : l.length ≤ 20000) (k : Nat) (hk : 20010 ≤ k) : pack_First.f k l = some (firstF l) := by
  unfold pack_First.f firstF
  by_cases h : l.length = 0
  · rw [if_pos h,if_pos (by omega)]
  rw [if_neg h,if_neg (by omega),if_pos (by omega)]
  by_cases h1 : rd l 0 = 1
  · rw [if_pos h1,if_pos h1];rfl
  rw [if_neg h1,if_neg h1]
  by_cases h2 : rd l 0 = 2
  · rw [if_pos h2,if_pos h2,if_pos (by omega)]
    unfold pack_flag.f
    have e : rd (l.drop 1) 0 = rd l 1 := rd_drop l 1 0
    rw [e]
    by_cases h3 : l.length < 2
    · rw [if_pos h3,if_pos (by simp;omega)];rfl
    · rw [if_neg h3,if_neg (by simp;omega),if_pos (by simp;omega)]
      by_cases h4 : rd l 1 > 1
      · rw [if_pos h4,if_pos h4];rfl
      · rw [if_neg h4,if_neg h4];rfl
  rw [if_neg h2,if_neg h2]
  by_cases h3 : rd l 0 = 3
  · rw [if_pos h3,if_pos h3,if_pos (by omega)]
    unfold pack_count.f
    by_cases h4 : l.length < 9
    · rw [if_pos h4,if_pos (by simp;omega)];rfl
    · have e := count_l0 ((l.drop 1).take 8) ((hb.drop 1).take 8) (by simp;omega) ((l.drop 1).take 8).length 0 k 0 (by omega) (by omega) (by omega) (by omega) (by simp;omega)
      rw [show ((0 : Nat) : Int) = 0 from rfl,List.drop_zero] at e
      rw [if_neg h4,if_neg (by simp;omega),if_pos (by simp;omega),e]
      rfl
  rw [if_neg h3,if_neg h3]
  by_cases h4 : rd l 0 = 4
  · have e := cut_l0 (l.drop 1) (by simp;omega) (l.drop 1).length 0 k [] (by omega) (by omega) (by simp) (by simp;omega)
    rw [show ((0 : Nat) : Int) = 0 from rfl,List.drop_zero] at e
    have en := cutF_end _ (l.drop 1) [] 0 (Nat.le_refl _)
    rw [if_pos h4,if_pos h4,if_pos (by omega)]
    unfold pack_cut.f cutRes
    rw [e,Option.bind_some]
    by_cases h5 : (cutF (l.drop 1) [] 0).2.2 = 0
    · have := en h5
      rw [List.length_drop] at this
      rw [if_pos h5,if_pos h5,wrap_id (by omega) (by omega)]
      rfl
    · rw [if_neg h5,if_neg h5]
  rw [if_neg h4,if_neg h4]
theorem firstF_end (l : List Int) : (firstF l).2.2.2.2.2 = 0 → 1 ≤ (firstF l).2.2.2.2.1 ∧ (firstF l).2.2.2.2.1 ≤ (l.length : Int) := by
  unfold firstF
  intro h
  by_cases g : l.length = 0
  · rw [if_pos g] at h;cases h
  rw [if_neg g] at h ⊢
  by_cases h1 : rd l 0 = 1
  · rw [if_pos h1];simp only;omega
  rw [if_neg h1] at h ⊢
  by_cases h2 : rd l 0 = 2
  · rw [if_pos h2] at h ⊢
    by_cases h3 : l.length < 2
    · rw [if_pos h3] at h;cases h
    · rw [if_neg h3] at h ⊢
      by_cases h4 : rd l 1 > 1
      · rw [if_pos h4] at h;cases h
      · rw [if_neg h4];simp only;omega
  rw [if_neg h2] at h ⊢
  by_cases h3 : rd l 0 = 3
  · rw [if_pos h3] at h ⊢
    by_cases h4 : l.length < 9
    · rw [if_pos h4] at h;cases h
    · rw [if_neg h4];unfold numRes;simp only;omega
  rw [if_neg h3] at h ⊢
  by_cases h4 : rd l 0 = 4
  · rw [if_pos h4] at h ⊢
    unfold cutRes at h ⊢
    by_cases h5 : (cutF (l.drop 1) [] 0).2.2 = 0
    · have := cutF_end _ (l.drop 1) [] 0 (Nat.le_refl _) h5
      rw [List.length_drop] at this
      rw [if_pos h5];simp only;omega
    · rw [if_neg h5] at h;exact absurd h h5
  rw [if_neg h4] at h;cases h
def backF : Nat → List Int → List S50 → List S50 × Int
  | 0,_,_ => ([],8)
  | n + 1,x,acc => if x.length = 0 then ([],8) else if rd x 0 = 0 then (if x.length > 1 then ([],7) else (acc,0)) else if (firstF x).2.2.2.2.2 = 0 then backF n (x.drop (firstF x).2.2.2.2.1.toNat) (acc ++ [⟨(firstF x).1,(firstF x).2.1,(firstF x).2.2.1,(firstF x).2.2.2.1⟩]) else ([],(firstF x).2.2.2.2.2)
theorem packBack_l0 : ∀ n (x : List Int) (acc : List S50) k,Bs x → x.length ≤ 20000 → x.length ≤ n → acc.length + x.length ≤ 20000 → n + 20020 ≤ k → pack_Back.l0 k x acc = some (backF (n + 1) x acc) := by
  intro n
  induction n with
  | zero =>
    intro x acc k hb hl hx ha hk
    obtain ⟨k,rfl⟩ : ∃ m,k = m + 1 := ⟨k - 1,by omega⟩
    simp only [pack_Back.l0,backF]
    rw [if_neg (by omega),if_pos (by omega)]
  | succ n ih =>
    intro x acc k hb hl hx ha hk
    obtain ⟨k,rfl⟩ : ∃ m,k = m + 1 := ⟨k - 1,by omega⟩
    rw [backF]
    simp only [pack_Back.l0]
    by_cases h : x.length = 0
    · rw [if_neg (by omega),if_pos (by omega)]
    rw [if_pos (by omega),if_pos (by omega),if_neg h]
    by_cases h0 : rd x 0 = 0
    · rw [if_pos h0,if_pos h0]
      by_cases h1 : x.length > 1
      · rw [if_pos h1,if_pos (by omega)]
      · rw [if_neg h1,if_neg (by omega)]
    rw [if_neg h0,if_neg h0,packFirst_f x hb hl k (by omega),Option.bind_some]
    by_cases h1 : (firstF x).2.2.2.2.2 = 0
    · have he := firstF_end x h1
      rw [if_pos h1,if_pos h1,if_pos (by omega),if_pos (by omega),if_pos (by omega)]
      exact ih _ _ k (hb.drop _) (by simp;omega) (by simp;omega) (by simp;omega) (by omega)
    · rw [if_neg h1,if_neg h1]
theorem packBack_f (l : List Int) (hb : Bs l) (hl : l.length ≤ 20000) (k : Nat) (hk : 41000 ≤ k) : pack_Back.f k l = some (backF 20001 l []) := packBack_l0 20000 l [] k hb hl hl (by simpa using hl) (by omega)
end Go.Proofs.Ytfoaeigoajooeaa.Z
end
section
namespace Go.Proofs.Ytfoaeigoajooeaa.Z
set_option linter.unusedVariables false
open Go.RowKit Go.Proofs.YtfoaeigoajooeaaW.PrintWords Go.Proofs.YtfoaeigoajooeaaW.PrintLast Go.Proofs.YtfoaeigoajooeaaW.PrintMore Go.Proofs.Ytfoaeigoajooeaa.Cmp
theorem cnt_eight {X : Int} (h0 : 0 ≤ X) (h1 : X < 18446744073709551616) : cnt (eight X) 0 = X := by
  have st (n : Int) (hn : 0 < n) : (X / (n * 256) * 256 + X / n % 256) % 18446744073709551616 = X / n := by
    have h2 : 0 ≤ X / n := Int.ediv_nonneg h0 (by omega)
    have h3 : X / n ≤ X := Int.ediv_le_self _ h0
    rw [← Int.ediv_ediv_of_nonneg (by omega)]
    omega
  have s6 := st 281474976710656 (by decide)
  have s5 := st 1099511627776 (by decide)
  have s4 := st 4294967296 (by decide)
  have s3 := st 16777216 (by decide)
  have s2 := st 65536 (by decide)
  have s1 := st 256 (by decide)
  have s0 := st 1 (by decide)
  simp only [show (281474976710656 : Int) * 256 = 72057594037927936 from rfl,show (1099511627776 : Int) * 256 = 281474976710656 from rfl,show (4294967296 : Int) * 256 = 1099511627776 from rfl,show (16777216 : Int) * 256 = 4294967296 from rfl,show (65536 : Int) * 256 = 16777216 from rfl,show (256 : Int) * 256 = 65536 from rfl,show (1 : Int) * 256 = 256 from rfl,Int.ediv_one] at s6 s5 s4 s3 s2 s1 s0
  have e7 : (0 * 256 + X / 72057594037927936 % 256) % 18446744073709551616 = X / 72057594037927936 := by omega
  simp only [eight,cnt]
  rw [e7,s6,s5,s4,s3,s2,s1,s0]
theorem eight_cnt {a b c d e f g h : Int} (ha : 0 ≤ a ∧ a < 256) (hb : 0 ≤ b ∧ b < 256) (hc : 0 ≤ c ∧ c < 256) (hd : 0 ≤ d ∧ d < 256) (he : 0 ≤ e ∧ e < 256) (hf : 0 ≤ f ∧ f < 256) (hg : 0 ≤ g ∧ g < 256) (hh : 0 ≤ h ∧ h < 256) : ∃ X,cnt [a,b,c,d,e,f,g,h] 0 = X ∧ 0 ≤ X ∧ X < 18446744073709551616 ∧ eight X = [a,b,c,d,e,f,g,h] := by
  refine ⟨((((((a * 256 + b) * 256 + c) * 256 + d) * 256 + e) * 256 + f) * 256 + g) * 256 + h,?_,by omega,by omega,?_⟩
  · simp only [cnt]
    rw [show (0 * 256 + a) % 18446744073709551616 = a by omega,show (a * 256 + b) % 18446744073709551616 = a * 256 + b by omega,show ((a * 256 + b) * 256 + c) % 18446744073709551616 = (a * 256 + b) * 256 + c by omega,
      show (((a * 256 + b) * 256 + c) * 256 + d) % 18446744073709551616 = ((a * 256 + b) * 256 + c) * 256 + d by omega,show ((((a * 256 + b) * 256 + c) * 256 + d) * 256 + e) % 18446744073709551616 = (((a * 256 + b) * 256 + c) * 256 + d) * 256 + e by omega,
      show (((((a * 256 + b) * 256 + c) * 256 + d) * 256 + e) * 256 + f) % 18446744073709551616 = ((((a * 256 + b) * 256 + c) * 256 + d) * 256 + e) * 256 + f by omega,
      show ((((((a * 256 + b) * 256 + c) * 256 + d) * 256 + e) * 256 + f) * 256 + g) % 18446744073709551616 = (((((a * 256 + b) * 256 + c) * 256 + d) * 256 + e) * 256 + f) * 256 + g by omega]
    omega
  · unfold eight
    simp only [List.cons.injEq,and_true]
    refine ⟨?_,?_,?_,?_,?_,?_,?_,?_⟩ <;> omega
theorem wrap_turn {N : Int} (h0 : 0 ≤ N) (h1 : N < 18446744073709551616) : turn (wrap64 (turn N)) = N ∧ -9223372036854775808 ≤ wrap64 (turn N) ∧ wrap64 (turn N) ≤ 9223372036854775807 := by
  unfold turn wrap64
  omega
theorem turn_turn {x : Int} (h0 : -9223372036854775808 ≤ x) (h1 : x ≤ 9223372036854775807) : wrap64 (turn (turn x)) = x := by
  unfold turn wrap64
  omega
theorem cut_esc (s : List Int) : ∀ (bs : List UInt8) (acc : List Int) (i : Int),acc.length + bs.length ≤ 60 → cutF (esc bs ++ ([0,1] ++ s)) acc i = (strOfNums (acc ++ bs.map fun b => (b.toNat : Int)),i + (esc bs).length + 2,0) := by
  intro bs
  induction bs with
  | nil =>
    intro acc i h
    simp only [esc,List.nil_append,List.cons_append]
    rw [cutF_zero,if_pos rfl]
    simp
  | cons b bs ih =>
    intro acc i h
    simp only [List.length_cons] at h
    simp only [esc]
    by_cases hb : b.toNat = 0
    · rw [if_pos hb]
      simp only [List.cons_append,List.nil_append]
      rw [cutF_zero,if_neg (by decide),if_pos rfl,if_neg (by omega)]
      have e := ih (acc ++ [0]) (i + 2) (by simp;omega)
      simp only [List.cons_append,List.nil_append] at e
      rw [e]
      simp only [List.map_cons,hb,Prod.mk.injEq,and_true]
      refine ⟨by simp,?_⟩
      simp only [List.length_cons]
      omega
    · rw [if_neg hb]
      simp only [List.cons_append,List.nil_append]
      rw [cutF_char (show ¬ (b.toNat : Int) = 0 by omega),if_neg (by omega)]
      have e := ih (acc ++ [(b.toNat : Int)]) (i + 1) (by simp;omega)
      simp only [List.cons_append,List.nil_append] at e
      rw [e]
      simp only [List.map_cons,Prod.mk.injEq,and_true]
      refine ⟨by simp,?_⟩
      simp only [List.length_cons]
      omega
theorem str_back (t : ByteArray) : strOfNums (t.data.toList.map fun b => (b.toNat : Int)) = t := by
  apply ByteArray.ext
  apply Array.ext'
  rw [strOfNums_data,List.map_map]
  have e : ((fun n : Int => UInt8.ofNat n.toNat) ∘ fun b : UInt8 => (b.toNat : Int)) = id := by
    funext b
    simp
  rw [e,List.map_id]
theorem empty_of {t : ByteArray} (h : (t.toList == ([] : List UInt8)) = true) : t = ⟨#[]⟩ := by
  have h := eq_of_beq h
  apply ByteArray.ext
  apply Array.ext'
  rw [show t.data.toList = t.toList from by rw [ByteArray.toList_eq],h]
theorem vright_cases {v : S50} (h : vright v = true) : (v = ⟨0,false,0,⟨#[]⟩⟩) ∨ (∃ b,v = ⟨1,b,0,⟨#[]⟩⟩) ∨ (∃ n,v = ⟨2,false,n,⟨#[]⟩⟩) ∨ (∃ t : ByteArray,t.size ≤ 60 ∧ v = ⟨3,false,0,t⟩) := by
  obtain ⟨a,b,c,d⟩ := v
  unfold vright at h
  simp only at h
  by_cases h0 : a = 0
  · rw [if_pos h0] at h
    simp only [Bool.and_eq_true,Bool.not_eq_true'] at h
    obtain ⟨h1,h2,h3⟩ := h
    exact .inl (by rw [h0,h1,eq_of_beq h2,empty_of h3])
  · by_cases h1 : a = 1
    · rw [if_neg h0,if_pos h1] at h
      simp only [Bool.and_eq_true] at h
      exact .inr (.inl ⟨b,by rw [h1,eq_of_beq h.1,empty_of h.2]⟩)
    · by_cases h2 : a = 2
      · rw [if_neg h0,if_neg h1,if_pos h2] at h
        simp only [Bool.and_eq_true,Bool.not_eq_true'] at h
        exact .inr (.inr (.inl ⟨c,by rw [h2,h.1,empty_of h.2]⟩))
      · by_cases h3 : a = 3
        · rw [if_neg h0,if_neg h1,if_neg h2,if_pos h3] at h
          simp only [Bool.and_eq_true,Bool.not_eq_true',decide_eq_true_eq] at h
          exact .inr (.inr (.inr ⟨d,h.2.2,by rw [h3,h.1,eq_of_beq h.2.1]⟩))
        · rw [if_neg h0,if_neg h1,if_neg h2,if_neg h3] at h;cases h
theorem vright_size {v : S50} (h : vright v = true) : v.f3.size ≤ 60 := by
  rcases vright_cases h with rfl | ⟨b,rfl⟩ | ⟨n,rfl⟩ | ⟨t,ht,rfl⟩
  · exact Nat.zero_le 60
  · exact Nat.zero_le 60
  · exact Nat.zero_le 60
  · exact ht
theorem vr0 : vright ⟨0,false,0,⟨#[]⟩⟩ = true := by unfold vright;simp
theorem vr1 (b : Bool) : vright ⟨1,b,0,⟨#[]⟩⟩ = true := by unfold vright;simp
theorem vr2 (n : Int) : vright ⟨2,false,n,⟨#[]⟩⟩ = true := by unfold vright;simp
theorem rd0 (x : Int) (xs : List Int) : rd (x :: xs) 0 = x := rfl
theorem rd1 (x y : Int) (xs : List Int) : rd (x :: y :: xs) 1 = y := rfl
theorem first_enc {v : S50} (h : vright v = true) (g : -9223372036854775808 ≤ v.f2 ∧ v.f2 ≤ 9223372036854775807) (s : List Int) : firstF (encG v ++ s) = (v.f0,v.f1,v.f2,v.f3,((encG v).length : Int),0) := by
  rcases vright_cases h with rfl | ⟨b,rfl⟩ | ⟨n,rfl⟩ | ⟨t,ht,rfl⟩
  · rfl
  · cases b <;> simp [firstF,encG,b2i,rd0,rd1]
  · have e1 : encG ⟨2,false,n,⟨#[]⟩⟩ = 3 :: eight (turn n) := rfl
    have e2 : (3 :: eight (turn n) ++ s) = 3 :: (eight (turn n) ++ s) := rfl
    have e3 : (eight (turn n)).length = 8 := rfl
    rw [e1,e2]
    unfold firstF
    rw [if_neg (by simp),rd0,if_neg (by decide),if_neg (by decide),if_pos rfl,if_neg (by simp [e3]),show List.drop 1 (3 :: (eight (turn n) ++ s)) = eight (turn n) ++ s from rfl,List.take_append_of_le_length (by omega),List.take_of_length_le (by omega),cnt_eight (by unfold turn;omega) (by unfold turn;omega)]
    unfold numRes
    rw [turn_turn g.1 g.2]
    rfl
  · have e1 : encG ⟨3,false,0,t⟩ = 4 :: (esc t.data.toList ++ [0,1]) := rfl
    have e2 : (4 :: (esc t.data.toList ++ [0,1]) ++ s) = 4 :: (esc t.data.toList ++ ([0,1] ++ s)) := by simp
    rw [e1,e2]
    unfold firstF
    rw [if_neg (by simp),rd0,if_neg (by decide),if_neg (by decide),if_neg (by decide),if_pos rfl,show List.drop 1 (4 :: (esc t.data.toList ++ ([0,1] ++ s))) = esc t.data.toList ++ ([0,1] ++ s) from rfl,cut_esc s _ _ _ (by rw [data_length];simpa using ht),List.nil_append,str_back]
    unfold cutRes
    rw [if_pos rfl]
    simp only [Prod.mk.injEq,and_true,true_and,List.length_cons,List.length_append,List.length_nil]
    omega
theorem back_enc : ∀ (r : List S50) (n : Nat) (acc : List S50),r.length + 1 ≤ n → (∀ v ∈ r,vright v = true) → (∀ v ∈ r,-9223372036854775808 ≤ v.f2 ∧ v.f2 ≤ 9223372036854775807) → backF n (encA r) acc = (acc ++ r,0) := by
  intro r
  induction r with
  | nil =>
    intro n acc hn _ _
    obtain ⟨n,rfl⟩ : ∃ m,n = m + 1 := ⟨n - 1,by omega⟩
    rw [backF]
    simp [encA,rd0]
  | cons v vs ih =>
    intro n acc hn hr hg
    obtain ⟨n,rfl⟩ : ∃ m,n = m + 1 := ⟨n - 1,by omega⟩
    simp only [List.length_cons] at hn
    have hv := hr v List.mem_cons_self
    obtain ⟨x,q,hq,hx⟩ := encG_pos v
    have f := first_enc hv (hg v List.mem_cons_self) (encA vs)
    rw [show encA (v :: vs) = encG v ++ encA vs from rfl,backF,if_neg (show ¬ (encG v ++ encA vs).length = 0 by rw [hq];simp),if_neg (show ¬ rd (encG v ++ encA vs) 0 = 0 by rw [hq,List.cons_append,rd0];omega),f]
    simp only [if_true,Int.toNat_natCast,List.drop_left]
    rw [ih n _ (by omega) (fun u hu => hr u (List.mem_cons_of_mem _ hu)) (fun u hu => hg u (List.mem_cons_of_mem _ hu))]
    simp
theorem cut_inv : ∀ n (x acc : List Int) (i : Int),Bs x → x.length ≤ n → acc.length ≤ 60 → (cutF x acc i).2.2 = 0 → ∃ bs : List UInt8,cutF x acc i = (strOfNums (acc ++ bs.map fun b => (b.toNat : Int)),i + (esc bs).length + 2,0) ∧ x = esc bs ++ ([0,1] ++ x.drop ((esc bs).length + 2)) ∧ acc.length + bs.length ≤ 60 := by
  intro n
  induction n with
  | zero =>
    intro x acc i _ hx _ h
    obtain rfl : x = [] := List.eq_nil_of_length_eq_zero (by omega)
    rw [cutF_nil] at h;cases h
  | succ n ih =>
    intro x acc i hb hx ha h
    cases x with
    | nil => rw [cutF_nil] at h;cases h
    | cons c cs =>
      simp only [List.length_cons] at hx
      by_cases h0 : c = 0
      · subst h0
        cases cs with
        | nil => rw [cutF_one] at h;cases h
        | cons d ds =>
          simp only [List.length_cons] at hx
          rw [cutF_zero] at h ⊢
          by_cases h1 : d = 1
          · subst h1
            exact ⟨[],by simp [esc],by simp [esc],by simpa using ha⟩
          · by_cases h2 : d = 255
            · subst h2
              rw [if_neg h1,if_pos rfl] at h ⊢
              by_cases h3 : acc.length = 60
              · rw [if_pos h3] at h;cases h
              · rw [if_neg h3] at h ⊢
                obtain ⟨bs,e1,e2,e3⟩ := ih ds (acc ++ [0]) (i + 2) (fun z hz => hb z (List.mem_cons_of_mem _ (List.mem_cons_of_mem _ hz))) (by omega) (by simp;omega) h
                have ee : esc ((0 : UInt8) :: bs) = 0 :: 255 :: esc bs := rfl
                refine ⟨0 :: bs,?_,?_,by simp at e3 ⊢;omega⟩
                · rw [e1,ee]
                  simp only [Prod.mk.injEq,and_true,List.length_cons]
                  refine ⟨by simp,by omega⟩
                · rw [ee]
                  have e4 : (0 :: 255 :: ds).drop ((0 :: 255 :: esc bs).length + 2) = ds.drop ((esc bs).length + 2) := by simp
                  rw [e4]
                  simp only [List.cons_append]
                  rw [List.cons.injEq,List.cons.injEq]
                  exact ⟨rfl,rfl,e2⟩
            · rw [if_neg h1,if_neg h2] at h;cases h
      · rw [cutF_char h0] at h ⊢
        obtain ⟨c0,c1⟩ := hb c List.mem_cons_self
        by_cases h3 : acc.length = 60
        · rw [if_pos h3] at h;cases h
        · rw [if_neg h3] at h ⊢
          obtain ⟨bs,e1,e2,e3⟩ := ih cs (acc ++ [c]) (i + 1) (fun z hz => hb z (List.mem_cons_of_mem _ hz)) (by omega) (by simp;omega) h
          have ec : (((UInt8.ofNat c.toNat).toNat : Nat) : Int) = c := by rw [UInt8.toNat_ofNat'];omega
          have en : ¬ (UInt8.ofNat c.toNat).toNat = 0 := by omega
          have ee : esc (UInt8.ofNat c.toNat :: bs) = c :: esc bs := by simp only [esc];rw [if_neg en,ec];rfl
          refine ⟨UInt8.ofNat c.toNat :: bs,?_,?_,by simp at e3 ⊢;omega⟩
          · rw [e1,ee]
            simp only [Prod.mk.injEq,and_true,List.length_cons,List.map_cons,ec]
            refine ⟨by simp,by omega⟩
          · rw [ee]
            have e4 : (c :: cs).drop ((c :: esc bs).length + 2) = cs.drop ((esc bs).length + 2) := by simp
            rw [e4]
            simp only [List.cons_append]
            rw [List.cons.injEq]
            exact ⟨rfl,e2⟩
def firstV (x : List Int) : S50 := ⟨(firstF x).1,(firstF x).2.1,(firstF x).2.2.1,(firstF x).2.2.2.1⟩
theorem list_eight : ∀ l : List Int,l.length = 8 → ∃ a b c d e f g h,l = [a,b,c,d,e,f,g,h] := by
  intro l hl
  rcases l with _ | ⟨a,_ | ⟨b,_ | ⟨c,_ | ⟨d,_ | ⟨e,_ | ⟨f,_ | ⟨g,_ | ⟨h,_ | ⟨i,l⟩⟩⟩⟩⟩⟩⟩⟩⟩ <;> simp at hl
  exact ⟨_,_,_,_,_,_,_,_,rfl⟩
theorem first_inv {x : List Int} (hb : Bs x) (h : (firstF x).2.2.2.2.2 = 0) : vright (firstV x) = true ∧ (firstF x).2.2.2.2.1 = ((encG (firstV x)).length : Int) ∧ x = encG (firstV x) ++ x.drop (encG (firstV x)).length := by
  unfold firstV
  cases x with
  | nil => cases h
  | cons c cs =>
    by_cases h1 : c = 1
    · subst h1
      exact ⟨vr0,rfl,rfl⟩
    by_cases h2 : c = 2
    · subst h2
      cases cs with
      | nil => cases h
      | cons d ds =>
        obtain ⟨d0,d1⟩ := hb d (List.mem_cons_of_mem _ List.mem_cons_self)
        have e : firstF (2 :: d :: ds) = if d > 1 then (0,false,0,⟨#[]⟩,0,7) else (1,d == 1,0,⟨#[]⟩,2,0) := by
          unfold firstF
          rw [if_neg (by simp),rd0,if_neg (by decide),if_pos rfl,if_neg (by simp),rd1]
        rw [e] at h ⊢
        by_cases h3 : d > 1
        · rw [if_pos h3] at h;cases h
        · rw [if_neg h3]
          have : d = 0 ∨ d = 1 := by omega
          rcases this with rfl | rfl
          · exact ⟨vr1 _,rfl,rfl⟩
          · exact ⟨vr1 _,rfl,rfl⟩
    by_cases h3 : c = 3
    · subst h3
      have e : firstF (3 :: cs) = if (3 :: cs).length < 9 then (0,false,0,⟨#[]⟩,0,8) else numRes (cnt (cs.take 8) 0) := by
        unfold firstF
        rw [if_neg (by simp),rd0,if_neg (by decide),if_neg (by decide),if_pos rfl]
        rfl
      rw [e] at h ⊢
      by_cases h4 : (3 :: cs).length < 9
      · rw [if_pos h4] at h;cases h
      · rw [if_neg h4]
        simp only [List.length_cons] at h4
        obtain ⟨a,b,c,d,e,f,g,i,hl⟩ := list_eight (cs.take 8) (by simp;omega)
        have hq : ∀ z ∈ cs.take 8,0 ≤ z ∧ z < 256 := fun z hz => hb z (List.mem_cons_of_mem _ (List.mem_of_mem_take hz))
        rw [hl] at hq
        obtain ⟨X,hX,x0,x1,hE⟩ := eight_cnt (hq a (by simp)) (hq b (by simp)) (hq c (by simp)) (hq d (by simp)) (hq e (by simp)) (hq f (by simp)) (hq g (by simp)) (hq i (by simp))
        rw [hl,hX]
        have eg : encG ⟨(numRes X).1,(numRes X).2.1,(numRes X).2.2.1,(numRes X).2.2.2.1⟩ = 3 :: cs.take 8 := by
          have : encG ⟨(numRes X).1,(numRes X).2.1,(numRes X).2.2.1,(numRes X).2.2.2.1⟩ = 3 :: eight (turn (wrap64 (turn X))) := rfl
          rw [this,(wrap_turn x0 x1).1,hE,hl]
        rw [eg]
        refine ⟨vr2 _,?_,?_⟩
        · rw [hl];rfl
        · have : (3 :: cs.take 8).length = 9 := by rw [hl];rfl
          rw [this]
          simp
    by_cases h4 : c = 4
    · subst h4
      have e : firstF (4 :: cs) = cutRes (cutF cs [] 0) := by
        unfold firstF
        rw [if_neg (by simp),rd0,if_neg (by decide),if_neg (by decide),if_neg (by decide),if_pos rfl]
        rfl
      rw [e] at h ⊢
      have hz : (cutF cs [] 0).2.2 = 0 := by
        unfold cutRes at h
        by_cases hz : (cutF cs [] 0).2.2 = 0
        · exact hz
        · rw [if_neg hz] at h;exact absurd h hz
      obtain ⟨bs,e1,e2,e3⟩ := cut_inv _ cs [] 0 (fun z hz => hb z (List.mem_cons_of_mem _ hz)) (Nat.le_refl _) (by simp) hz
      have er : cutRes (cutF cs [] 0) = ((3 : Int),false,(0 : Int),strOfNums (bs.map fun b => (b.toNat : Int)),1 + (0 + ((esc bs).length : Int) + 2),(0 : Int)) := by
        rw [e1];rfl
      rw [er]
      simp only
      have eg : encG ⟨3,false,0,strOfNums (bs.map fun b => (b.toNat : Int))⟩ = 4 :: (esc bs ++ [0,1]) := by
        have : encG ⟨3,false,0,strOfNums (bs.map fun b => (b.toNat : Int))⟩ = 4 :: (esc (strOfNums (bs.map fun b => (b.toNat : Int))).data.toList ++ [0,1]) := rfl
        rw [this,strOfNums_data,List.map_map]
        have ef : ((fun n : Int => UInt8.ofNat n.toNat) ∘ fun b : UInt8 => (b.toNat : Int)) = id := by
          funext b
          simp
        rw [ef,List.map_id]
      rw [eg]
      refine ⟨?_,?_,?_⟩
      · have hs : (strOfNums (bs.map fun b => (b.toNat : Int))).size ≤ 60 := by rw [strOfNums_size,List.length_map];simpa using e3
        unfold vright
        simp [hs]
      · simp only [List.length_cons,List.length_append,List.length_nil]
        omega
      · have el : (4 :: (esc bs ++ [0,1])).length = ((esc bs).length + 2) + 1 := by simp
        rw [el,List.drop_succ_cons,List.cons_append,List.cons.injEq]
        refine ⟨rfl,?_⟩
        rw [List.append_assoc]
        exact e2
    · have e : firstF (c :: cs) = (0,false,0,⟨#[]⟩,0,7) := by
        unfold firstF
        rw [if_neg (by simp),rd0,if_neg h1,if_neg h2,if_neg h3,if_neg h4]
      rw [e] at h;cases h
theorem back_inv : ∀ n (x : List Int) (acc : List S50),Bs x → (backF n x acc).2 = 0 → ∃ zs,(backF n x acc).1 = acc ++ zs ∧ (∀ v ∈ zs,vright v = true) ∧ x = encA zs := by
  intro n
  induction n with
  | zero => intro x acc _ h;cases h
  | succ n ih =>
    intro x acc hb h
    rw [backF] at h ⊢
    by_cases h0 : x.length = 0
    · rw [if_pos h0] at h;cases h
    rw [if_neg h0] at h ⊢
    by_cases h1 : rd x 0 = 0
    · rw [if_pos h1] at h ⊢
      by_cases h2 : x.length > 1
      · rw [if_pos h2] at h;cases h
      · rw [if_neg h2]
        refine ⟨[],by simp,(fun v hv => by cases hv),?_⟩
        match x,h0,h1,h2 with
        | [a],_,h1,_ => rw [rd0] at h1;rw [h1];rfl
        | [],h0,_,_ => exact absurd rfl h0
        | a :: b :: l,_,_,h2 => simp at h2
    rw [if_neg h1] at h ⊢
    by_cases h2 : (firstF x).2.2.2.2.2 = 0
    · rw [if_pos h2] at h ⊢
      obtain ⟨f1,f2,f3⟩ := first_inv hb h2
      obtain ⟨zs,g1,g2,g3⟩ := ih _ _ (hb.drop _) h
      refine ⟨firstV x :: zs,?_,?_,?_⟩
      · rw [g1];simp [firstV]
      · intro v hv
        rcases List.mem_cons.1 hv with rfl | hv
        · exact f1
        · exact g2 v hv
      · simp only [encA]
        rw [f2,Int.toNat_natCast] at g3
        rw [← g3]
        exact f3
    · rw [if_neg h2] at h;exact absurd h h2
end Go.Proofs.Ytfoaeigoajooeaa.Z
end
section
namespace Go.Proofs.Ytfoaeigoajooeaa.Z
open Go.RowKit Go.Proofs.YtfoaeigoajooeaaW.PrintWords Go.Proofs.YtfoaeigoajooeaaW.PrintLast Go.Proofs.YtfoaeigoajooeaaW.PrintMore
theorem known04 (k : Nat) (hk : 60 ≤ k) : verdererlaw04_known.f k = some true := at_rounds (fun k => verdererlaw04_known.mono k) hk (by decide +kernel)
end Go.Proofs.Ytfoaeigoajooeaa.Z
end
section
namespace Go.Proofs.Ytfoaeigoajooeaa.Z
open Go.RowKit Go.Proofs.YtfoaeigoajooeaaW.PrintWords Go.Proofs.YtfoaeigoajooeaaW.PrintLast Go.Proofs.YtfoaeigoajooeaaW.PrintMore
theorem row_of_back (l : List Int) (hb : Bs l) (hl : l.length ≤ 3000) (h : (backF 20001 l []).2 = 0) (k : Nat) (hk : 10511 ≤ k) : pack_Row.f k (backF 20001 l []).1 = some l := by
  obtain ⟨zs,e1,e2,e3⟩ := back_inv 20001 l [] hb h
  rw [List.nil_append] at e1
  have hlen : zs.length ≤ (encA zs).length := by
    clear e1 e2 e3
    induction zs with
    | nil => simp
    | cons v vs ih =>
      obtain ⟨x,q,hq,_⟩ := encG_pos v
      simp only [encA,List.length_append,List.length_cons,hq]
      omega
  rw [← e3] at hlen
  rw [e1,packRow_g zs (by omega) (fun v hv => by have := vright_size (e2 v hv);omega) k hk]
  rcases encR_cases zs [] with ⟨_,v,hv,h1⟩ | ⟨h1,_⟩
  · rw [e2 v hv] at h1;cases h1
  · rw [h1,List.nil_append,← e3]
theorem packBack_end (l : List Int) (hb : Bs l) (hl : l.length ≤ 3000) (k : Nat) (hk : 41000 ≤ k) : ((pack_Back.f k l).bind fun bt => (if bt.2 = 0 then ((pack_Row.f k bt.1).bind fun t => (if (strOfNums t).toList = (strOfNums l).toList then ((verdererlaw04_known.f k).bind fun t1 => (some t1)) else (none))) else ((verdererlaw04_known.f k).bind fun t2 => (some t2)))) = some true := by
  rw [packBack_f l hb (by omega) k hk,known04 k (by omega)]
  simp only [Option.bind_some]
  by_cases h : (backF 20001 l []).2 = 0
  · rw [if_pos h,row_of_back l hb hl h k (by omega),Option.bind_some,if_pos rfl]
  · rw [if_neg h]
theorem packBack_j0 (a : List S50) (l : List Int) (hb : Bs l) (ga : ∀ v ∈ a,-9223372036854775808 ≤ v.f2 ∧ v.f2 ≤ 9223372036854775807) (q : Bool) (h : q = false → (a.length ≤ 100 ∧ ∀ v ∈ a,v.f3.size ≤ 500) ∧ l.length ≤ 3000) : verdererlaw04_PackBack.j0 41002 a l q = some true := by
  rw [verdererlaw04_PackBack.j0]
  cases q with
  | true => simp only [if_true,known04 41001 (by omega),Option.bind_some]
  | false =>
    obtain ⟨⟨ha,hsa⟩,hl⟩ := h rfl
    simp only [Bool.false_eq_true,if_false]
    rw [packRow_f a ha hsa 41001 (by omega),Option.bind_some]
    by_cases h0 : ((encR a []).length : Int) > 0
    · rw [if_pos h0]
      rcases encR_cases a [] with ⟨e,_⟩ | ⟨ea,ra⟩
      · rw [e] at h0;exact absurd h0 (by decide)
      rw [List.nil_append] at ea
      have hlen : (encA a).length ≤ 20000 := by
        have : ∀ r : List S50,(∀ v ∈ r,vright v = true) → (encA r).length ≤ 129 * r.length + 1 := by
          intro r
          induction r with
          | nil => intro _;simp [encA]
          | cons v vs ih =>
            intro hr
            have h1 := encG_len (vright_size (hr v List.mem_cons_self))
            have h2 := ih (fun u hu => hr u (List.mem_cons_of_mem _ hu))
            simp only [encA,List.length_append,List.length_cons]
            omega
        have := this a ra
        omega
      rw [ea,packBack_f (encA a) (encA_bytes a) hlen 41001 (by omega),Option.bind_some,back_enc a 20001 [] (by omega) ra ga]
      simp only [List.nil_append,if_true]
      rw [equal_self a (by omega) 41001 (by omega),Option.bind_some,verdererlaw04_PackBack.j1]
      simp only [Bool.not_true,Bool.false_eq_true,if_false]
      exact packBack_end l hb hl 41000 (by omega)
    · rw [if_neg h0]
      exact packBack_end l hb hl 41001 (by omega)
theorem packBack_pure : ∀ (l0 : (List S50)) (l1 : (List Int)),(l0.length ≤ maxLen ∧ ∀ x ∈ l0,G50 x) → (l1.length ≤ maxLen ∧ ∀ x ∈ l1,(Lit.int .u8 x).wf = true) → ∃ k,verdererlaw04_PackBack.f k l0 l1 = some true := by
  intro a l ⟨_,ga⟩ ⟨_,hw⟩
  have hb : Bs l := by
    intro x hx
    have := hw x hx
    simp [Lit.wf,IntKind.min,IntKind.max,IntKind.signed,IntKind.bits] at this
    omega
  have ga : ∀ v ∈ a,-9223372036854775808 ≤ v.f2 ∧ v.f2 ≤ 9223372036854775807 := by
    intro v hv
    have := (ga v hv).2.2.1
    simp [Lit.wf,IntKind.min,IntKind.max,IntKind.signed,IntKind.bits] at this
    omega
  refine ⟨41002,?_⟩
  unfold verdererlaw04_PackBack.f
  rcases few_f a 41002 (by omega) with h | ⟨h,ha⟩
  · rw [h,Option.bind_some,if_neg (by decide)]
    exact packBack_j0 a l hb ga _ (fun h => by cases h)
  · rw [h,Option.bind_some,if_pos rfl]
    exact packBack_j0 a l hb ga _ (fun h => ⟨ha,by have := of_decide_eq_false h;omega⟩)
end Go.Proofs.Ytfoaeigoajooeaa.Z
end
namespace Go.Proofs.Ytfoaeigoajooeaa.packBack
open Go.ChangeShapes Go.WideShapes Go.ChangeAt Go.RowKit Go.Proofs.YtfoaeigoajooeaaW.PrintWords
open Go.ChangeMaps (open_string shut_string)
set_option linter.unusedVariables false
theorem own : ownKnob Try.prog.godebug = none := by kernel_rfl
theorem laidOut : laidOutB Try.prog = true := by kernel_rfl
set_option maxRecDepth 100000 in
theorem lifted (os : Os) (started : os.Started) (H : Type) (enc : TypeId × Value → H) :
    ReturnsInHanded {} Try.checked os 10 .any (Rows.packBackSpec.pre6 enc Try.prog Try.f10 Rows.packBackRow.domain false) (Rows.packBackSpec.post enc Try.prog Try.f10 false true false false) := by
  refine returnsInHanded_of_change (C := Try.checked) own started (by kernel_rfl) Try.func10
    (ChangeSpec.witness6 (enc := enc) (C := Try.checked) false ⟨#[],#[.slice none 0 0,.slice none 0 0],[]⟩ 8 (by kernel_rfl) (by kernel_rfl) (by kernel_rfl) (by kernel_rfl)) ?_
  intro W base args ds gs before hval0 hW hcnd _
  have hval : ∀ (j : Nat) t v,Try.f10.params[j]? = some t → args[j]? = some v → Value.okWide Try.prog W .any base t v := hval0
  have hW' := hW
  obtain ⟨p,q,hA0,hV,rfl,hfz,hnd⟩ := hW
  have hA : DataW.TrodAll enc Try.prog W 0 (fun _ => true) true Try.f10.params.toList args.toList ds p := hA0
  rw [Try.params10] at hA hval
  obtain ⟨v0,vs0,d0,ds0,p0,q0,hargs,rfl,rfl,h0,r0⟩ := trodAll_cons hA
  obtain ⟨v1,vs1,d1,ds1,p1,q1,rfl,rfl,rfl,h1,r1⟩ := trodAll_cons r0
  obtain ⟨rfl,rfl,rfl⟩ := trodAll_nil r1
  obtain rfl : args = #[v0,v1] := by cases args;simp_all
  obtain ⟨rfl,rfl⟩ := trodVars_none hV
  obtain ⟨a0,len0,cap0,rfl⟩ := okWide_slice Try.underlying22 (hval 0 22 v0 rfl rfl)
  have k0 := h0
  have lt0 : ∀ x ∈ p0,x.block < W.heap.size := by obtain ⟨m,hm⟩ := k0;exact DataW.trod_lt m _ _ _ hm
  obtain ⟨l0,hK0,hG0⟩ : ∃ l,((Kd.slice 50 Z.k50) : Kd (List Z.S50)).K W l [.slice a0 len0 cap0] ∧ (l.length ≤ maxLen ∧ ∀ x ∈ l,Z.G50 x) := by obtain ⟨fuel,hf⟩ := h0;exact (show OfTrod Try.prog 22 (Kd.slice 50 Z.k50) _ from (ofTrod_slice Try.underlying22 (by kernel_rfl) Z.of50)) _ _ _ _ _ _ _ _ _ hf
  obtain ⟨A0,c0,he0,hl0,hC0⟩ := hK0
  simp only [List.cons.injEq,Value.slice.injEq,and_true] at he0
  obtain ⟨rfl,rfl,rfl⟩ := he0
  obtain ⟨a1,len1,cap1,rfl⟩ := okWide_slice Try.underlying47 (hval 1 47 v1 rfl rfl)
  have k1 := h1
  have lt1 : ∀ x ∈ p1,x.block < W.heap.size := by obtain ⟨m,hm⟩ := k1;exact DataW.trod_lt m _ _ _ hm
  obtain ⟨l1,hK1,hG1⟩ : ∃ l,((Kd.slice 5 (Kd.int .u8)) : Kd (List Int)).K W l [.slice a1 len1 cap1] ∧ (l.length ≤ maxLen ∧ ∀ x ∈ l,(Lit.int .u8 x).wf = true) := by obtain ⟨fuel,hf⟩ := h1;exact (show OfTrod Try.prog 47 (Kd.slice 5 (Kd.int .u8)) _ from (ofTrod_slice Try.underlying47 (by kernel_rfl) (ofTrod_int Try.underlying5))) _ _ _ _ _ _ _ _ _ hf
  obtain ⟨A1,c1,he1,hl1,hC1⟩ := hK1
  simp only [List.cons.injEq,Value.slice.injEq,and_true] at he1
  obtain ⟨rfl,rfl,rfl⟩ := he1
  clear hA0 hval0
  obtain ⟨k,h⟩ := Z.packBack_pure l0 l1 hG0 hG1
  refine (Z.verdererlaw04_PackBack.calls k _ _ l0 _ _ l1 true W hC0 hl0 hC1 hl1 h).mono fun e W' ⟨he,bel⟩ => ?_
  subst he
  exact ⟨_,rfl,_,_,_,[],_,[],hW',trodAll_mk1 (shut_bool Try.underlying4 _),(trodAll_cons_mk (Below.trod laidOut (by kernel_rfl) (of_decide_eq_true (by kernel_rfl)) k0 bel lt0) (trodAll_cons_mk (Below.trod laidOut (by kernel_rfl) (of_decide_eq_true (by kernel_rfl)) k1 bel lt1) trodAll_mk0)),rfl,bel.frame _,fun h => by cases h⟩
theorem over : Rows.packBackRow.holds Try.pinned (OpenSpec.ofChange Rows.packBackSpec) :=
  OpenClaim.holds_of_wide 10 Try.f10 rfl rfl rfl rfl rfl rfl rfl ⟨rfl,rfl,rfl,rfl,rfl⟩ rfl rfl rfl rfl rfl (by kernel_rfl) Try.func10 (by kernel_rfl)
    (of_decide_eq_true (by kernel_rfl)) (by unfold Func.isWrapper;first | (rw [if_pos (by decide +kernel)];kernel_rfl) | (rw [if_neg (by decide +kernel)];exact ⟨rfl,rfl⟩))
    (fun os started H enc _ => lifted os started H enc)
theorem proved : Rows.PackBackSaid := over
#print axioms proved
end Go.Proofs.Ytfoaeigoajooeaa.packBack
namespace Go.Proofs.Ytfoaeigoajooeaa
theorem packBack_holds : Rows.PackBackSaid := packBack.proved
end Go.Proofs.Ytfoaeigoajooeaa
