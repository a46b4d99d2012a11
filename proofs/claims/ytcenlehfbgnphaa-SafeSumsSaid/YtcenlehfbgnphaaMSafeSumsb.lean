/- Parts of the proof of SafeSums: what its functions answer. -/
import Derived.Test.YtcenlehfbgnphaaMSafeSumsa
section
namespace Go.Proofs.Ytcenlehfbgnphaa.Z
open Go.RowKit Go.Proofs.YtcenlehfbgnphaaW.PrintWords Go.Proofs.YtcenlehfbgnphaaW.PrintLast Go.Proofs.YtcenlehfbgnphaaW.PrintMore
attribute [local go_sem] max2_int min2_int max_two min_two max_three min_three max_four min_four
set_option linter.unusedVariables false
set_option linter.unusedSimpArgs false
def quota_Judge.l0 : Nat → List (S45) → List (S45) → Int → Int → Option (ByteArray × ByteArray × Int × Int × Int)
  | 0,_,_,_,_ => none
  | k + 1,x0,x11,x12,x13 => if x13 < x12 then (if 0 ≤ x13 then (if x13 < (x11.length : Int) then ((usage_Find.f ((rd_T45 x11 x13).f0) ((rd_T45 x11 x13).f1) x0).bind fun bt235 => (if bt235.2.2.2.2 = true then (if bt235.2.2.1 ≤ ((rd_T45 x11 x13).f3) then (some ((rd_T45 x11 x13).f0,(rd_T45 x11 x13).f1,(rd_T45 x11 x13).f2,(rd_T45 x11 x13).f3,16)) else (if bt235.2.2.1 < ((rd_T45 x11 x13).f2) then (some ((rd_T45 x11 x13).f0,(rd_T45 x11 x13).f1,(rd_T45 x11 x13).f2,(rd_T45 x11 x13).f3,16)) else (quota_Judge.l0 k x0 x11 x12 (wrap64 (x13 + 1))))) else (some ((rd_T45 x11 x13).f0,(rd_T45 x11 x13).f1,(rd_T45 x11 x13).f2,(rd_T45 x11 x13).f3,16)))) else (none)) else (none)) else (some ((⟨#[]⟩ : ByteArray),(⟨#[]⟩ : ByteArray),0,0,0))
def quota_Judge.f (k : Nat) (l0 : List (S45)) (l1 : List (S45)) : Option (ByteArray × ByteArray × Int × Int × Int) := (quota_Over.f k l1).bind fun t230 => (quota_Judge.l0 k l0 t230 (t230.length : Int) 0)
theorem quota_Judge.mono_l : ∀ k,(∀ y0 y1 y2 y3,LeO (quota_Judge.l0 k y0 y1 y2 y3) (quota_Judge.l0 (k + 1) y0 y1 y2 y3))
  | 0 => fun _ _ _ _ r h => by simp [quota_Judge.l0] at h
  | k + 1 => by
    have ih0 := quota_Judge.mono_l k
    · intro y0 y1 y2 y3
      unfold quota_Judge.l0
      repeat' first
      | (with_reducible exact ih0 _ _ _ _)
      | (with_reducible exact quota_Over.mono _ _)
      | (with_reducible exact LeO.refl _)
      | (with_reducible exact LeO.none _)
      | (with_reducible refine LeO.ite ?_ ?_)
      | (with_reducible refine LeO.bind ?_ (fun _ => ?_))
      | exact ih0 _ _ _ _
      | exact quota_Over.mono _ _
      | exact LeO.none _
      | refine LeO.ite ?_ ?_
      | refine LeO.bind ?_ (fun _ => ?_)
theorem quota_Judge.mono : ∀ a0 a1 k,LeO (quota_Judge.f k a0 a1) (quota_Judge.f (k + 1) a0 a1) := by
  intro a0 a1 k
  have ih0 := quota_Judge.mono_l k
  unfold quota_Judge.f
  repeat' first
      | (with_reducible exact ih0 _ _ _ _)
      | (with_reducible exact quota_Over.mono _ _)
      | (with_reducible exact LeO.refl _)
      | (with_reducible exact LeO.none _)
      | (with_reducible refine LeO.ite ?_ ?_)
      | (with_reducible refine LeO.bind ?_ (fun _ => ?_))
      | exact ih0 _ _ _ _
      | exact quota_Over.mono _ _
      | exact LeO.none _
      | refine LeO.ite ?_ ?_
      | refine LeO.bind ?_ (fun _ => ?_)
set_option maxHeartbeats 8000000 in
set_option maxRecDepth 100000 in
theorem quota_Judge.calls (k : Nat) (A0 : Option Addr) (c0 : Nat) (l0 : List (S45)) (A1 : Option Addr) (c1 : Nat) (l1 : List (S45)) (r1 : ByteArray) (r2 : ByteArray) (r3 : Int) (r4 : Int) (r5 : Int) (w : World) (hr0 : Kd.C k45 w A0 l0.length l0) (hc0 : l0.length ≤ c0) (hr1 : Kd.C k45 w A1 l1.length l1) (hc1 : l1.length ≤ c1) (h : quota_Judge.f k l0 l1 = some (r1,r2,r3,r4,r5)) :
    Calls Try.prog 45 #[.slice A0 l0.length c0,.slice A1 l1.length c1] w fun e w' => e = .returned (.tuple #[.agg #[.string r1,.string r2,.int .i64 r3,.int .i64 r4],.int .i64 r5]) ∧ Below w.heap.size w w' := by
  have hu45 := Try.underlying45
  have HR0 := Aside0.mk hr0
  have HC0 := Aside0.mk hc0
  clear hr0 hc0
  have HR1 := Aside0.mk hr1
  have HC1 := Aside0.mk hc1
  clear hr1 hc1
  have HB := Aside0.mk (Below.refl w.heap.size w)
  have H : ((quota_Over.f k l1).bind fun t230 => (quota_Judge.l0 k l0 t230 (t230.length : Int) 0)) = some (r1,r2,r3,r4,r5) := h
  clear h
  replace H := Option.bind_eq_some_iff.mp H
  obtain ⟨t230,A30,H⟩ := H
  replace H : (quota_Judge.l0 k l0 t230 (t230.length : Int) 0) = some (r1,r2,r3,r4,r5) := H
  have A3 := Aside0.mk A30
  clear A30
  have H' := Aside0.mk H
  clear H
  go_enter Try.func45,Try.ntmps45
  go_wp2_with (first | ((with_reducible refine gate_dst (N := 4) rfl ?_);refine box_event ?hg (N := 4) ?hd (cs := #[.string (⟨#[]⟩ : ByteArray),.string (⟨#[]⟩ : ByteArray),.int .i64 0,.int .i64 0]) (t := 45) ?hr ?_;(case hd => rfl);(case hg => rfl);(case hr => first | (go_simp;done) | (go_simp;rfl));intro gb229 hg w4 hbox hb;have n0_ := Aside0.mk (below_step (by repeat (first | (with_reducible first | exact HB.out | apply below_alloc | apply pw_below_drewN | apply below_drew1) | exact HB.out)) hb);have n1_ := Aside0.mk (hbox);have n2_ := Aside0.mk ((by rw [hg];exact (below_size (by repeat (first | (with_reducible first | exact HB.out | apply below_alloc | apply pw_below_drewN | apply below_drew1) | exact HB.out))) : w.heap.size ≤ gb229));have n3_ := Aside0.mk ((by rw [hg];exact (below_size (by repeat (first | (with_reducible first | exact HB.out | apply below_alloc | apply pw_below_drewN | apply below_drew1) | exact HB.out))) : w.heap.size ≤ gb229));clear HB;have HB := n0_;have BK229 := n1_;have GW229 := n2_;have GE229 := n3_;clear n0_ n1_ n2_ n3_;clear hb hbox hg) | ((with_reducible refine gate_callee (f := 49) rfl ?_);refine goesL_ (some 11) rfl rfl Try.func49 (by kernel_rfl) rfl #[.slice A1 l1.length c1] rfl (by (try simp only [List.map_toArray,List.map_cons,List.map_nil]);first | done | rfl | (simp only [List.length_drop,List.length_take];rfl)) ?_;(with_reducible refine (quota_Over.calls k _ _ l1 t230 _ ?side1 ?side2 A3.out).mono ?_);(case side1 => repeat (first | exact (Kd.C_below HR1.out HB.out) | (with_reducible refine Kd.C_alloc ?_ _) | (with_reducible refine Kd.C_drewN ?_ _) | (with_reducible refine Kd.C_drew ?_)));(case side2 => exact HC1.out);rintro e w5 ⟨v231,rfl,ho0,hb⟩;refine ⟨_,rfl,?_⟩;have n0_ := Aside0.mk (Kd.R_lower (Kd.R_newB ho0 (g := gb229) (o := .cells #[.string (⟨#[]⟩ : ByteArray),.string (⟨#[]⟩ : ByteArray),.int .i64 0,.int .i64 0] 45 (0,0)) (by (with_reducible repeat (first | refine blk_drewN ?_ _ | refine blk_drew ?_ | refine blk_alloc ?_ _));exact BK229.out)) (below_size (by repeat (first | (with_reducible first | exact HB.out | apply below_alloc | apply pw_below_drewN | apply below_drew1 | refine below_set ?_ GE229.out) | exact HB.out))));have n1_ := Aside0.mk (blk_below (g := gb229) (o := .cells #[.string (⟨#[]⟩ : ByteArray),.string (⟨#[]⟩ : ByteArray),.int .i64 0,.int .i64 0] 45 (0,0)) (by (with_reducible repeat (first | refine blk_drewN ?_ _ | refine blk_drew ?_ | refine blk_alloc ?_ _));exact BK229.out) hb);have n2_ := Aside0.mk (below_step (by repeat (first | (with_reducible first | exact HB.out | apply below_alloc | apply pw_below_drewN | apply below_drew1 | refine below_set ?_ GE229.out) | exact HB.out)) hb);clear BK229;clear HB;have HO232 := n0_;have BK229 := n1_;have HB := n2_;clear n0_ n1_ n2_;(try clear hb);(try clear hb2);(try clear hk);(try clear hi);(try clear ho0);obtain ⟨Ao6,co6,eo6⟩ := Kd.R_slice HO232.out;subst eo6))
  go_loopg [13] k (fun kq v13 w' => ∃ (x13_1 : Int) (x230000_1 : ByteArray) (x230001_1 : ByteArray) (x230002_1 : Int) (x230003_1 : Int),v13 = .int .i64 x13_1 ∧ Aside0 (quota_Judge.l0 kq l0 t230 (t230.length : Int) x13_1 = some (r1,r2,r3,r4,r5)) ∧ Aside0 (kq ≤ k) ∧ Aside0 (Kd.R k45 45 w' w.heap.size (fun k_ => k_ ≠ gb229) (.slice Ao6 t230.length co6) t230) ∧ Aside0 (w'.heap[gb229]? = some (.cells #[.string x230000_1,.string x230001_1,.int .i64 x230002_1,.int .i64 x230003_1] 45 (0,0))) ∧ Aside0 (Below w.heap.size w w'))
  case atStart => exact ⟨(0),((⟨#[]⟩ : ByteArray)),((⟨#[]⟩ : ByteArray)),(0),(0),(by first | rfl | (simp;done) | (simp [*];done)),H',⟨Nat.le_refl _⟩,⟨by (with_reducible repeat (first | apply Kd.R_alloc | apply Kd.R_drewN | apply Kd.R_drew));exact Kd.R_mono HO232.out (fun _ hk => hk.2)⟩,⟨by (with_reducible repeat (first | refine blk_drewN ?_ _ | refine blk_drew ?_ | refine blk_alloc ?_ _));exact BK229.out⟩,⟨by repeat (first | (with_reducible first | exact HB.out | apply below_alloc | apply pw_below_drewN | apply below_drew1 | refine below_set ?_ GE229.out) | exact HB.out)⟩⟩
  case round =>
    clear H'
    try clear c1
    try clear p2
    try clear c4
    obtain ⟨x13_1,x230000_1,x230001_1,x230002_1,x230003_1,rfl,HA,HK1,HO_11,BK229,HB⟩ := hrel
    cases gk with
    | zero => exact absurd HA.out (by simp [quota_Judge.l0])
    | succ k1 =>
      have H := HA.out
      clear HA
      simp only [quota_Judge.l0] at H
      by_cases c7 : x13_1 < (t230.length : Int)
      · rw [if_pos c7] at H
        have c7b0 : decide (x13_1 < (t230.length : Int)) = true := decide_eq_true c7
        clear c7
        by_cases c8 : 0 ≤ x13_1
        · rw [if_pos c8] at H
          have c8b0 : decide (0 ≤ x13_1) = true := decide_eq_true c8
          clear c8
          by_cases c9 : x13_1 < (t230.length : Int)
          · rw [if_pos c9] at H
            have c9b0 : decide (x13_1 < (t230.length : Int)) = true := decide_eq_true c9
            clear c9
            replace H := Option.bind_eq_some_iff.mp H
            obtain ⟨⟨t235,t236,t237,t238,t239⟩,A100,H⟩ := H
            replace H : (if t239 = true then (if t237 ≤ ((rd_T45 t230 x13_1).f3) then (some ((rd_T45 t230 x13_1).f0,(rd_T45 t230 x13_1).f1,(rd_T45 t230 x13_1).f2,(rd_T45 t230 x13_1).f3,16)) else (if t237 < ((rd_T45 t230 x13_1).f2) then (some ((rd_T45 t230 x13_1).f0,(rd_T45 t230 x13_1).f1,(rd_T45 t230 x13_1).f2,(rd_T45 t230 x13_1).f3,16)) else (quota_Judge.l0 k1 l0 t230 (t230.length : Int) (wrap64 (x13_1 + 1))))) else (some ((rd_T45 t230 x13_1).f0,(rd_T45 t230 x13_1).f1,(rd_T45 t230 x13_1).f2,(rd_T45 t230 x13_1).f3,16))) = some (r1,r2,r3,r4,r5) := H
            have A10 := Aside0.mk A100
            clear A100
            by_cases c11 : t239 = true
            · subst c11
              have H1 : (if t237 ≤ ((rd_T45 t230 x13_1).f3) then (some ((rd_T45 t230 x13_1).f0,(rd_T45 t230 x13_1).f1,(rd_T45 t230 x13_1).f2,(rd_T45 t230 x13_1).f3,16)) else (if t237 < ((rd_T45 t230 x13_1).f2) then (some ((rd_T45 t230 x13_1).f0,(rd_T45 t230 x13_1).f1,(rd_T45 t230 x13_1).f2,(rd_T45 t230 x13_1).f3,16)) else (quota_Judge.l0 k1 l0 t230 (t230.length : Int) (wrap64 (x13_1 + 1))))) = some (r1,r2,r3,r4,r5) := by rw [if_pos rfl] at H;exact H
              clear H
              have H := H1
              clear H1
              by_cases c12 : t237 ≤ ((rd_T45 t230 x13_1).f3)
              · rw [if_pos c12] at H
                have c12b0 : decide (t237 ≤ ((rd_T45 t230 x13_1).f3)) = true := decide_eq_true c12
                clear c12
                simp only [Option.some.injEq,Prod.mk.injEq] at H
                obtain ⟨rfl,rfl,rfl,rfl,rfl⟩ := H
                have p233 : 0 ≤ (x13_1 : Int) := of_decide_eq_true (by first | (with_reducible assumption) | assumption)
                have q233 : x13_1 < (t230.length : Int) := of_decide_eq_true (by first | (with_reducible assumption) | assumption)
                obtain ⟨ad233,e233,hx233_0,hx233_1,hx233_2,hx233_3⟩ := at_T45 (Kd.R_reads' HO_11.out).2.2 x13_1 p233 q233
                cases e233
                replace p233 := eq_true p233
                replace q233 := eq_true q233
                go_wp2_with (first | ((with_reducible refine gate_dst (N := 7) rfl ?_);refine box_event ?hg (N := 7) ?hd (cs := #[.string (⟨#[]⟩ : ByteArray),.string (⟨#[]⟩ : ByteArray),.int .i64 0,.int .i64 0]) (t := 45) ?hr ?_;(case hd => rfl);(case hg => rfl);(case hr => first | (go_simp;done) | (go_simp;rfl));intro gb234 hg w13 hbox hb;have n0_ := Aside0.mk (Kd.R_below (Kd.R_elderB (by (with_reducible repeat (first | apply Kd.R_alloc | apply Kd.R_drewN | apply Kd.R_drew));exact HO_11.out) gb234 (Nat.le_of_eq hg.symm)) hb);have n1_ := Aside0.mk (blk_below (g := gb229) (o := .cells #[.string x230000_1,.string x230001_1,.int .i64 x230002_1,.int .i64 x230003_1] 45 (0,0)) (by (with_reducible repeat (first | refine blk_drewN ?_ _ | refine blk_drew ?_ | refine blk_alloc ?_ _));exact BK229.out) hb);have n2_ := Aside0.mk (below_step (by repeat (first | (with_reducible first | exact HB.out | apply below_alloc | apply pw_below_drewN | apply below_drew1 | refine below_set ?_ GE229.out) | exact HB.out)) hb);have n3_ := Aside0.mk (hbox);have n4_ := Aside0.mk ((by rw [hg];exact (below_size (by repeat (first | (with_reducible first | exact HB.out | apply below_alloc | apply pw_below_drewN | apply below_drew1 | refine below_set ?_ GE229.out) | exact HB.out))) : w.heap.size ≤ gb234));have n5_ := Aside0.mk ((by rw [hg];exact (below_size (by repeat (first | (with_reducible first | exact HB.out | apply below_alloc | apply pw_below_drewN | apply below_drew1 | refine below_set ?_ GE229.out) | exact HB.out))) : w.heap.size ≤ gb234));have n6_ := Aside0.mk ((by rw [hg];exact Nat.ne_of_lt (blk_lt (g := gb229) (o := .cells #[.string x230000_1,.string x230001_1,.int .i64 x230002_1,.int .i64 x230003_1] 45 (0,0)) (by (with_reducible repeat (first | refine blk_drewN ?_ _ | refine blk_drew ?_ | refine blk_alloc ?_ _));exact BK229.out)) : gb229 ≠ gb234));have n7_ := Aside0.mk ((by rw [hg];exact Nat.ne_of_gt (blk_lt (g := gb229) (o := .cells #[.string x230000_1,.string x230001_1,.int .i64 x230002_1,.int .i64 x230003_1] 45 (0,0)) (by (with_reducible repeat (first | refine blk_drewN ?_ _ | refine blk_drew ?_ | refine blk_alloc ?_ _));exact BK229.out)) : gb234 ≠ gb229));clear HO_11;clear BK229;clear HB;have HO_11 := n0_;have BK229 := n1_;have HB := n2_;have BK234 := n3_;have GW234 := n4_;have GE234 := n5_;have NB229_234 := n6_;have NB234_229 := n7_;clear n0_ n1_ n2_ n3_ n4_ n5_ n6_ n7_;clear hb hbox hg;have hnb14 := NB234_229.out;have hnc14 := NB229_234.out;have hcz15_0 : w13.cell? ⟨gb234,0,none⟩ = some (.string (⟨#[]⟩ : ByteArray)) := (blk_cell BK234.out 0).trans rfl;have hcz15_1 : w13.cell? ⟨gb234,1,none⟩ = some (.string (⟨#[]⟩ : ByteArray)) := (blk_cell BK234.out 1).trans rfl;have hcz15_2 : w13.cell? ⟨gb234,2,none⟩ = some (.int .i64 0) := (blk_cell BK234.out 2).trans rfl;have hcz15_3 : w13.cell? ⟨gb234,3,none⟩ = some (.int .i64 0) := (blk_cell BK234.out 3).trans rfl;have hfz15_0 := blk_frozen BK234.out 0;have hfz15_1 := blk_frozen BK234.out 1;have hfz15_2 := blk_frozen BK234.out 2;have hfz15_3 := blk_frozen BK234.out 3) | ((with_reducible refine gate_callee (f := 55) rfl ?_);refine goesL_ (some 23) rfl rfl Try.func55 (by kernel_rfl) rfl #[.string ((rd_T45 t230 x13_1).f0),.string ((rd_T45 t230 x13_1).f1),.slice A0 l0.length c0] rfl (by (try simp only [List.map_toArray,List.map_cons,List.map_nil]);first | done | rfl | (simp only [List.length_drop,List.length_take];rfl)) ?_;(with_reducible refine (usage_Find.calls ((rd_T45 t230 x13_1).f0) ((rd_T45 t230 x13_1).f1) _ _ l0 t235 t236 t237 t238 true _ ?side1 ?side2 A10.out).mono ?_);(case side1 => exact Kd.C_below HR0.out (by repeat (first | (with_reducible first | exact HB.out | apply below_alloc | apply pw_below_drewN | apply below_drew1 | refine below_set ?_ GE229.out | refine below_set ?_ GE234.out) | exact HB.out)));(case side2 => exact HC0.out);rintro e w16 ⟨rfl,hb⟩;refine ⟨_,rfl,?_⟩;have n0_ := Aside0.mk (Kd.R_below (by (with_reducible repeat (first | apply Kd.R_alloc | apply Kd.R_drewN | apply Kd.R_drew));exact (Kd.R_mono (Kd.R_far (p := ⟨gb234,3,none⟩) (Kd.R_far (p := ⟨gb234,2,none⟩) (Kd.R_far (p := ⟨gb234,1,none⟩) (Kd.R_far (p := ⟨gb234,0,none⟩) (Kd.R_mono HO_11.out (fun k_ hk => (⟨hk,hk.2⟩ : _ ∧ k_ ≠ gb234))) (fun _ hk => hk.2) (.string ((rd_T45 t230 x13_1).f0))) (fun _ hk => hk.2) (.string ((rd_T45 t230 x13_1).f1))) (fun _ hk => hk.2) (.int .i64 ((rd_T45 t230 x13_1).f2))) (fun _ hk => hk.2) (.int .i64 ((rd_T45 t230 x13_1).f3))) (fun _ h_ => h_.1))) hb);have n1_ := Aside0.mk (blk_below (g := gb229) (o := .cells #[.string x230000_1,.string x230001_1,.int .i64 x230002_1,.int .i64 x230003_1] 45 (0,0)) (by (with_reducible repeat (first | refine blk_drewN ?_ _ | refine blk_drew ?_ | refine blk_alloc ?_ _));refine blk_far ?_ NB229_234.out _;(with_reducible repeat (first | refine blk_drewN ?_ _ | refine blk_drew ?_ | refine blk_alloc ?_ _));refine blk_far ?_ NB229_234.out _;(with_reducible repeat (first | refine blk_drewN ?_ _ | refine blk_drew ?_ | refine blk_alloc ?_ _));refine blk_far ?_ NB229_234.out _;(with_reducible repeat (first | refine blk_drewN ?_ _ | refine blk_drew ?_ | refine blk_alloc ?_ _));refine blk_far ?_ NB229_234.out _;(with_reducible repeat (first | refine blk_drewN ?_ _ | refine blk_drew ?_ | refine blk_alloc ?_ _));exact BK229.out) hb);have n2_ := Aside0.mk (blk_below (g := gb234) (o := .cells #[.string ((rd_T45 t230 x13_1).f0),.string ((rd_T45 t230 x13_1).f1),.int .i64 ((rd_T45 t230 x13_1).f2),.int .i64 ((rd_T45 t230 x13_1).f3)] 45 (0,0)) (by (with_reducible repeat (first | refine blk_drewN ?_ _ | refine blk_drew ?_ | refine blk_alloc ?_ _));refine blk_put (cs := #[.string ((rd_T45 t230 x13_1).f0),.string ((rd_T45 t230 x13_1).f1),.int .i64 ((rd_T45 t230 x13_1).f2),.int .i64 0]) ?_ 3 _ rfl;(with_reducible repeat (first | refine blk_drewN ?_ _ | refine blk_drew ?_ | refine blk_alloc ?_ _));refine blk_put (cs := #[.string ((rd_T45 t230 x13_1).f0),.string ((rd_T45 t230 x13_1).f1),.int .i64 0,.int .i64 0]) ?_ 2 _ rfl;(with_reducible repeat (first | refine blk_drewN ?_ _ | refine blk_drew ?_ | refine blk_alloc ?_ _));refine blk_put (cs := #[.string ((rd_T45 t230 x13_1).f0),.string (⟨#[]⟩ : ByteArray),.int .i64 0,.int .i64 0]) ?_ 1 _ rfl;(with_reducible repeat (first | refine blk_drewN ?_ _ | refine blk_drew ?_ | refine blk_alloc ?_ _));refine blk_put (cs := #[.string (⟨#[]⟩ : ByteArray),.string (⟨#[]⟩ : ByteArray),.int .i64 0,.int .i64 0]) ?_ 0 _ rfl;(with_reducible repeat (first | refine blk_drewN ?_ _ | refine blk_drew ?_ | refine blk_alloc ?_ _));exact BK234.out) hb);have n3_ := Aside0.mk (below_step (by repeat (first | (with_reducible first | exact HB.out | apply below_alloc | apply pw_below_drewN | apply below_drew1 | refine below_set ?_ GE229.out | refine below_set ?_ GE234.out) | exact HB.out)) hb);clear HO_11;clear BK229;clear BK234;clear HB;have HO_11 := n0_;have BK229 := n1_;have BK234 := n2_;have HB := n3_;clear n0_ n1_ n2_ n3_;(try clear hb);(try clear hb2);(try clear hk);(try clear hi)) | ((with_reducible refine gate_dst (N := 8) rfl ?_);refine box_event ?hg (N := 8) ?hd (cs := #[.string (⟨#[]⟩ : ByteArray),.string (⟨#[]⟩ : ByteArray),.int .i64 0,.int .i64 0]) (t := 45) ?hr ?_;(case hd => rfl);(case hg => rfl);(case hr => first | (go_simp;done) | (go_simp;rfl));intro gb240 hg w17 hbox hb;have n0_ := Aside0.mk (Kd.R_below (Kd.R_elderB (by (with_reducible repeat (first | apply Kd.R_alloc | apply Kd.R_drewN | apply Kd.R_drew));exact HO_11.out) gb240 (Nat.le_of_eq hg.symm)) hb);have n1_ := Aside0.mk (blk_below (g := gb229) (o := .cells #[.string x230000_1,.string x230001_1,.int .i64 x230002_1,.int .i64 x230003_1] 45 (0,0)) (by (with_reducible repeat (first | refine blk_drewN ?_ _ | refine blk_drew ?_ | refine blk_alloc ?_ _));exact BK229.out) hb);have n2_ := Aside0.mk (blk_below (g := gb234) (o := .cells #[.string ((rd_T45 t230 x13_1).f0),.string ((rd_T45 t230 x13_1).f1),.int .i64 ((rd_T45 t230 x13_1).f2),.int .i64 ((rd_T45 t230 x13_1).f3)] 45 (0,0)) (by (with_reducible repeat (first | refine blk_drewN ?_ _ | refine blk_drew ?_ | refine blk_alloc ?_ _));exact BK234.out) hb);have n3_ := Aside0.mk (below_step (by repeat (first | (with_reducible first | exact HB.out | apply below_alloc | apply pw_below_drewN | apply below_drew1 | refine below_set ?_ GE229.out | refine below_set ?_ GE234.out) | exact HB.out)) hb);have n4_ := Aside0.mk (hbox);have n5_ := Aside0.mk ((by rw [hg];exact (below_size (by repeat (first | (with_reducible first | exact HB.out | apply below_alloc | apply pw_below_drewN | apply below_drew1 | refine below_set ?_ GE229.out | refine below_set ?_ GE234.out) | exact HB.out))) : w.heap.size ≤ gb240));have n6_ := Aside0.mk ((by rw [hg];exact (below_size (by repeat (first | (with_reducible first | exact HB.out | apply below_alloc | apply pw_below_drewN | apply below_drew1 | refine below_set ?_ GE229.out | refine below_set ?_ GE234.out) | exact HB.out))) : w.heap.size ≤ gb240));have n7_ := Aside0.mk ((by rw [hg];exact Nat.ne_of_lt (blk_lt (g := gb229) (o := .cells #[.string x230000_1,.string x230001_1,.int .i64 x230002_1,.int .i64 x230003_1] 45 (0,0)) (by (with_reducible repeat (first | refine blk_drewN ?_ _ | refine blk_drew ?_ | refine blk_alloc ?_ _));exact BK229.out)) : gb229 ≠ gb240));have n8_ := Aside0.mk ((by rw [hg];exact Nat.ne_of_gt (blk_lt (g := gb229) (o := .cells #[.string x230000_1,.string x230001_1,.int .i64 x230002_1,.int .i64 x230003_1] 45 (0,0)) (by (with_reducible repeat (first | refine blk_drewN ?_ _ | refine blk_drew ?_ | refine blk_alloc ?_ _));exact BK229.out)) : gb240 ≠ gb229));have n9_ := Aside0.mk ((by rw [hg];exact Nat.ne_of_lt (blk_lt (g := gb234) (o := .cells #[.string ((rd_T45 t230 x13_1).f0),.string ((rd_T45 t230 x13_1).f1),.int .i64 ((rd_T45 t230 x13_1).f2),.int .i64 ((rd_T45 t230 x13_1).f3)] 45 (0,0)) (by (with_reducible repeat (first | refine blk_drewN ?_ _ | refine blk_drew ?_ | refine blk_alloc ?_ _));exact BK234.out)) : gb234 ≠ gb240));have n10_ := Aside0.mk ((by rw [hg];exact Nat.ne_of_gt (blk_lt (g := gb234) (o := .cells #[.string ((rd_T45 t230 x13_1).f0),.string ((rd_T45 t230 x13_1).f1),.int .i64 ((rd_T45 t230 x13_1).f2),.int .i64 ((rd_T45 t230 x13_1).f3)] 45 (0,0)) (by (with_reducible repeat (first | refine blk_drewN ?_ _ | refine blk_drew ?_ | refine blk_alloc ?_ _));exact BK234.out)) : gb240 ≠ gb234));clear HO_11;clear BK229;clear BK234;clear HB;have HO_11 := n0_;have BK229 := n1_;have BK234 := n2_;have HB := n3_;have BK240 := n4_;have GW240 := n5_;have GE240 := n6_;have NB229_240 := n7_;have NB240_229 := n8_;have NB234_240 := n9_;have NB240_234 := n10_;clear n0_ n1_ n2_ n3_ n4_ n5_ n6_ n7_ n8_ n9_ n10_;clear hb hbox hg;have hnb18 := NB240_229.out;have hnc18 := NB229_240.out;have hnb19 := NB240_234.out;have hnc19 := NB234_240.out;have hcz20_0 : w17.cell? ⟨gb240,0,none⟩ = some (.string (⟨#[]⟩ : ByteArray)) := (blk_cell BK240.out 0).trans rfl;have hcz20_1 : w17.cell? ⟨gb240,1,none⟩ = some (.string (⟨#[]⟩ : ByteArray)) := (blk_cell BK240.out 1).trans rfl;have hcz20_2 : w17.cell? ⟨gb240,2,none⟩ = some (.int .i64 0) := (blk_cell BK240.out 2).trans rfl;have hcz20_3 : w17.cell? ⟨gb240,3,none⟩ = some (.int .i64 0) := (blk_cell BK240.out 3).trans rfl;have hfz20_0 := blk_frozen BK240.out 0;have hfz20_1 := blk_frozen BK240.out 1;have hfz20_2 := blk_frozen BK240.out 2;have hfz20_3 := blk_frozen BK240.out 3;have hcz21_0 : w17.cell? ⟨gb234,0,none⟩ = some (.string ((rd_T45 t230 x13_1).f0)) := (blk_cell BK234.out 0).trans rfl;have hcz21_1 : w17.cell? ⟨gb234,1,none⟩ = some (.string ((rd_T45 t230 x13_1).f1)) := (blk_cell BK234.out 1).trans rfl;have hcz21_2 : w17.cell? ⟨gb234,2,none⟩ = some (.int .i64 ((rd_T45 t230 x13_1).f2)) := (blk_cell BK234.out 2).trans rfl;have hcz21_3 : w17.cell? ⟨gb234,3,none⟩ = some (.int .i64 ((rd_T45 t230 x13_1).f3)) := (blk_cell BK234.out 3).trans rfl;have hfz21_0 := blk_frozen BK234.out 0;have hfz21_1 := blk_frozen BK234.out 1;have hfz21_2 := blk_frozen BK234.out 2;have hfz21_3 := blk_frozen BK234.out 3;have hcz22_0 : w17.cell? ⟨gb229,0,none⟩ = some (.string x230000_1) := (blk_cell BK229.out 0).trans rfl;have hcz22_1 : w17.cell? ⟨gb229,1,none⟩ = some (.string x230001_1) := (blk_cell BK229.out 1).trans rfl;have hcz22_2 : w17.cell? ⟨gb229,2,none⟩ = some (.int .i64 x230002_1) := (blk_cell BK229.out 2).trans rfl;have hcz22_3 : w17.cell? ⟨gb229,3,none⟩ = some (.int .i64 x230003_1) := (blk_cell BK229.out 3).trans rfl;have hfz22_0 := blk_frozen BK229.out 0;have hfz22_1 := blk_frozen BK229.out 1;have hfz22_2 := blk_frozen BK229.out 2;have hfz22_3 := blk_frozen BK229.out 3))
                refine bodyPost_ret (results_ct rfl _ _ gb229 45 #[.string ((rd_T45 t230 x13_1).f0),.string ((rd_T45 t230 x13_1).f1),.int .i64 ((rd_T45 t230 x13_1).f2),.int .i64 ((rd_T45 t230 x13_1).f3)] (0,0) _ rfl (by (with_reducible repeat (first | refine blk_drewN ?_ _ | refine blk_drew ?_ | refine blk_alloc ?_ _));refine blk_put (cs := #[.string ((rd_T45 t230 x13_1).f0),.string ((rd_T45 t230 x13_1).f1),.int .i64 ((rd_T45 t230 x13_1).f2),.int .i64 x230003_1]) ?_ 3 _ rfl;(with_reducible repeat (first | refine blk_drewN ?_ _ | refine blk_drew ?_ | refine blk_alloc ?_ _));refine blk_put (cs := #[.string ((rd_T45 t230 x13_1).f0),.string ((rd_T45 t230 x13_1).f1),.int .i64 x230002_1,.int .i64 x230003_1]) ?_ 2 _ rfl;(with_reducible repeat (first | refine blk_drewN ?_ _ | refine blk_drew ?_ | refine blk_alloc ?_ _));refine blk_put (cs := #[.string ((rd_T45 t230 x13_1).f0),.string x230001_1,.int .i64 x230002_1,.int .i64 x230003_1]) ?_ 1 _ rfl;(with_reducible repeat (first | refine blk_drewN ?_ _ | refine blk_drew ?_ | refine blk_alloc ?_ _));refine blk_put (cs := #[.string x230000_1,.string x230001_1,.int .i64 x230002_1,.int .i64 x230003_1]) ?_ 0 _ rfl;(with_reducible repeat (first | refine blk_drewN ?_ _ | refine blk_drew ?_ | refine blk_alloc ?_ _));refine blk_far ?_ NB229_240.out _;(with_reducible repeat (first | refine blk_drewN ?_ _ | refine blk_drew ?_ | refine blk_alloc ?_ _));refine blk_far ?_ NB229_240.out _;(with_reducible repeat (first | refine blk_drewN ?_ _ | refine blk_drew ?_ | refine blk_alloc ?_ _));refine blk_far ?_ NB229_240.out _;(with_reducible repeat (first | refine blk_drewN ?_ _ | refine blk_drew ?_ | refine blk_alloc ?_ _));refine blk_far ?_ NB229_240.out _;(with_reducible repeat (first | refine blk_drewN ?_ _ | refine blk_drew ?_ | refine blk_alloc ?_ _));exact BK229.out) Try.underlying45 rfl (by kernel_rfl)) rfl ?_
                exact ⟨by first | rfl | (simp [errW_none,errW_some] <;> rfl) | (simp [*,errW_none,errW_some] <;> rfl),by repeat (first | (with_reducible first | exact HB.out | apply below_alloc | apply pw_below_drewN | apply below_drew1 | refine below_set ?_ GE229.out | refine below_set ?_ GE234.out | refine below_set ?_ GE240.out) | exact HB.out)⟩
              · rw [if_neg c12] at H
                have c12b0 : decide (t237 ≤ ((rd_T45 t230 x13_1).f3)) = false := decide_eq_false c12
                clear c12
                by_cases c23 : t237 < ((rd_T45 t230 x13_1).f2)
                · rw [if_pos c23] at H
                  have c23b0 : decide (t237 < ((rd_T45 t230 x13_1).f2)) = true := decide_eq_true c23
                  clear c23
                  simp only [Option.some.injEq,Prod.mk.injEq] at H
                  obtain ⟨rfl,rfl,rfl,rfl,rfl⟩ := H
                  have p233 : 0 ≤ (x13_1 : Int) := of_decide_eq_true (by first | (with_reducible assumption) | assumption)
                  have q233 : x13_1 < (t230.length : Int) := of_decide_eq_true (by first | (with_reducible assumption) | assumption)
                  obtain ⟨ad233,e233,hx233_0,hx233_1,hx233_2,hx233_3⟩ := at_T45 (Kd.R_reads' HO_11.out).2.2 x13_1 p233 q233
                  cases e233
                  replace p233 := eq_true p233
                  replace q233 := eq_true q233
                  go_wp2_with (first | ((with_reducible refine gate_dst (N := 7) rfl ?_);refine box_event ?hg (N := 7) ?hd (cs := #[.string (⟨#[]⟩ : ByteArray),.string (⟨#[]⟩ : ByteArray),.int .i64 0,.int .i64 0]) (t := 45) ?hr ?_;(case hd => rfl);(case hg => rfl);(case hr => first | (go_simp;done) | (go_simp;rfl));intro gb234 hg w24 hbox hb;have n0_ := Aside0.mk (Kd.R_below (Kd.R_elderB (by (with_reducible repeat (first | apply Kd.R_alloc | apply Kd.R_drewN | apply Kd.R_drew));exact HO_11.out) gb234 (Nat.le_of_eq hg.symm)) hb);have n1_ := Aside0.mk (blk_below (g := gb229) (o := .cells #[.string x230000_1,.string x230001_1,.int .i64 x230002_1,.int .i64 x230003_1] 45 (0,0)) (by (with_reducible repeat (first | refine blk_drewN ?_ _ | refine blk_drew ?_ | refine blk_alloc ?_ _));exact BK229.out) hb);have n2_ := Aside0.mk (below_step (by repeat (first | (with_reducible first | exact HB.out | apply below_alloc | apply pw_below_drewN | apply below_drew1 | refine below_set ?_ GE229.out) | exact HB.out)) hb);have n3_ := Aside0.mk (hbox);have n4_ := Aside0.mk ((by rw [hg];exact (below_size (by repeat (first | (with_reducible first | exact HB.out | apply below_alloc | apply pw_below_drewN | apply below_drew1 | refine below_set ?_ GE229.out) | exact HB.out))) : w.heap.size ≤ gb234));have n5_ := Aside0.mk ((by rw [hg];exact (below_size (by repeat (first | (with_reducible first | exact HB.out | apply below_alloc | apply pw_below_drewN | apply below_drew1 | refine below_set ?_ GE229.out) | exact HB.out))) : w.heap.size ≤ gb234));have n6_ := Aside0.mk ((by rw [hg];exact Nat.ne_of_lt (blk_lt (g := gb229) (o := .cells #[.string x230000_1,.string x230001_1,.int .i64 x230002_1,.int .i64 x230003_1] 45 (0,0)) (by (with_reducible repeat (first | refine blk_drewN ?_ _ | refine blk_drew ?_ | refine blk_alloc ?_ _));exact BK229.out)) : gb229 ≠ gb234));have n7_ := Aside0.mk ((by rw [hg];exact Nat.ne_of_gt (blk_lt (g := gb229) (o := .cells #[.string x230000_1,.string x230001_1,.int .i64 x230002_1,.int .i64 x230003_1] 45 (0,0)) (by (with_reducible repeat (first | refine blk_drewN ?_ _ | refine blk_drew ?_ | refine blk_alloc ?_ _));exact BK229.out)) : gb234 ≠ gb229));clear HO_11;clear BK229;clear HB;have HO_11 := n0_;have BK229 := n1_;have HB := n2_;have BK234 := n3_;have GW234 := n4_;have GE234 := n5_;have NB229_234 := n6_;have NB234_229 := n7_;clear n0_ n1_ n2_ n3_ n4_ n5_ n6_ n7_;clear hb hbox hg;have hnb25 := NB234_229.out;have hnc25 := NB229_234.out;have hcz26_0 : w24.cell? ⟨gb234,0,none⟩ = some (.string (⟨#[]⟩ : ByteArray)) := (blk_cell BK234.out 0).trans rfl;have hcz26_1 : w24.cell? ⟨gb234,1,none⟩ = some (.string (⟨#[]⟩ : ByteArray)) := (blk_cell BK234.out 1).trans rfl;have hcz26_2 : w24.cell? ⟨gb234,2,none⟩ = some (.int .i64 0) := (blk_cell BK234.out 2).trans rfl;have hcz26_3 : w24.cell? ⟨gb234,3,none⟩ = some (.int .i64 0) := (blk_cell BK234.out 3).trans rfl;have hfz26_0 := blk_frozen BK234.out 0;have hfz26_1 := blk_frozen BK234.out 1;have hfz26_2 := blk_frozen BK234.out 2;have hfz26_3 := blk_frozen BK234.out 3) | ((with_reducible refine gate_callee (f := 55) rfl ?_);refine goesL_ (some 23) rfl rfl Try.func55 (by kernel_rfl) rfl #[.string ((rd_T45 t230 x13_1).f0),.string ((rd_T45 t230 x13_1).f1),.slice A0 l0.length c0] rfl (by (try simp only [List.map_toArray,List.map_cons,List.map_nil]);first | done | rfl | (simp only [List.length_drop,List.length_take];rfl)) ?_;(with_reducible refine (usage_Find.calls ((rd_T45 t230 x13_1).f0) ((rd_T45 t230 x13_1).f1) _ _ l0 t235 t236 t237 t238 true _ ?side1 ?side2 A10.out).mono ?_);(case side1 => exact Kd.C_below HR0.out (by repeat (first | (with_reducible first | exact HB.out | apply below_alloc | apply pw_below_drewN | apply below_drew1 | refine below_set ?_ GE229.out | refine below_set ?_ GE234.out) | exact HB.out)));(case side2 => exact HC0.out);rintro e w27 ⟨rfl,hb⟩;refine ⟨_,rfl,?_⟩;have n0_ := Aside0.mk (Kd.R_below (by (with_reducible repeat (first | apply Kd.R_alloc | apply Kd.R_drewN | apply Kd.R_drew));exact (Kd.R_mono (Kd.R_far (p := ⟨gb234,3,none⟩) (Kd.R_far (p := ⟨gb234,2,none⟩) (Kd.R_far (p := ⟨gb234,1,none⟩) (Kd.R_far (p := ⟨gb234,0,none⟩) (Kd.R_mono HO_11.out (fun k_ hk => (⟨hk,hk.2⟩ : _ ∧ k_ ≠ gb234))) (fun _ hk => hk.2) (.string ((rd_T45 t230 x13_1).f0))) (fun _ hk => hk.2) (.string ((rd_T45 t230 x13_1).f1))) (fun _ hk => hk.2) (.int .i64 ((rd_T45 t230 x13_1).f2))) (fun _ hk => hk.2) (.int .i64 ((rd_T45 t230 x13_1).f3))) (fun _ h_ => h_.1))) hb);have n1_ := Aside0.mk (blk_below (g := gb229) (o := .cells #[.string x230000_1,.string x230001_1,.int .i64 x230002_1,.int .i64 x230003_1] 45 (0,0)) (by (with_reducible repeat (first | refine blk_drewN ?_ _ | refine blk_drew ?_ | refine blk_alloc ?_ _));refine blk_far ?_ NB229_234.out _;(with_reducible repeat (first | refine blk_drewN ?_ _ | refine blk_drew ?_ | refine blk_alloc ?_ _));refine blk_far ?_ NB229_234.out _;(with_reducible repeat (first | refine blk_drewN ?_ _ | refine blk_drew ?_ | refine blk_alloc ?_ _));refine blk_far ?_ NB229_234.out _;(with_reducible repeat (first | refine blk_drewN ?_ _ | refine blk_drew ?_ | refine blk_alloc ?_ _));refine blk_far ?_ NB229_234.out _;(with_reducible repeat (first | refine blk_drewN ?_ _ | refine blk_drew ?_ | refine blk_alloc ?_ _));exact BK229.out) hb);have n2_ := Aside0.mk (blk_below (g := gb234) (o := .cells #[.string ((rd_T45 t230 x13_1).f0),.string ((rd_T45 t230 x13_1).f1),.int .i64 ((rd_T45 t230 x13_1).f2),.int .i64 ((rd_T45 t230 x13_1).f3)] 45 (0,0)) (by (with_reducible repeat (first | refine blk_drewN ?_ _ | refine blk_drew ?_ | refine blk_alloc ?_ _));refine blk_put (cs := #[.string ((rd_T45 t230 x13_1).f0),.string ((rd_T45 t230 x13_1).f1),.int .i64 ((rd_T45 t230 x13_1).f2),.int .i64 0]) ?_ 3 _ rfl;(with_reducible repeat (first | refine blk_drewN ?_ _ | refine blk_drew ?_ | refine blk_alloc ?_ _));refine blk_put (cs := #[.string ((rd_T45 t230 x13_1).f0),.string ((rd_T45 t230 x13_1).f1),.int .i64 0,.int .i64 0]) ?_ 2 _ rfl;(with_reducible repeat (first | refine blk_drewN ?_ _ | refine blk_drew ?_ | refine blk_alloc ?_ _));refine blk_put (cs := #[.string ((rd_T45 t230 x13_1).f0),.string (⟨#[]⟩ : ByteArray),.int .i64 0,.int .i64 0]) ?_ 1 _ rfl;(with_reducible repeat (first | refine blk_drewN ?_ _ | refine blk_drew ?_ | refine blk_alloc ?_ _));refine blk_put (cs := #[.string (⟨#[]⟩ : ByteArray),.string (⟨#[]⟩ : ByteArray),.int .i64 0,.int .i64 0]) ?_ 0 _ rfl;(with_reducible repeat (first | refine blk_drewN ?_ _ | refine blk_drew ?_ | refine blk_alloc ?_ _));exact BK234.out) hb);have n3_ := Aside0.mk (below_step (by repeat (first | (with_reducible first | exact HB.out | apply below_alloc | apply pw_below_drewN | apply below_drew1 | refine below_set ?_ GE229.out | refine below_set ?_ GE234.out) | exact HB.out)) hb);clear HO_11;clear BK229;clear BK234;clear HB;have HO_11 := n0_;have BK229 := n1_;have BK234 := n2_;have HB := n3_;clear n0_ n1_ n2_ n3_;(try clear hb);(try clear hb2);(try clear hk);(try clear hi)) | ((with_reducible refine gate_dst (N := 8) rfl ?_);refine box_event ?hg (N := 8) ?hd (cs := #[.string (⟨#[]⟩ : ByteArray),.string (⟨#[]⟩ : ByteArray),.int .i64 0,.int .i64 0]) (t := 45) ?hr ?_;(case hd => rfl);(case hg => rfl);(case hr => first | (go_simp;done) | (go_simp;rfl));intro gb240 hg w28 hbox hb;have n0_ := Aside0.mk (Kd.R_below (Kd.R_elderB (by (with_reducible repeat (first | apply Kd.R_alloc | apply Kd.R_drewN | apply Kd.R_drew));exact HO_11.out) gb240 (Nat.le_of_eq hg.symm)) hb);have n1_ := Aside0.mk (blk_below (g := gb229) (o := .cells #[.string x230000_1,.string x230001_1,.int .i64 x230002_1,.int .i64 x230003_1] 45 (0,0)) (by (with_reducible repeat (first | refine blk_drewN ?_ _ | refine blk_drew ?_ | refine blk_alloc ?_ _));exact BK229.out) hb);have n2_ := Aside0.mk (blk_below (g := gb234) (o := .cells #[.string ((rd_T45 t230 x13_1).f0),.string ((rd_T45 t230 x13_1).f1),.int .i64 ((rd_T45 t230 x13_1).f2),.int .i64 ((rd_T45 t230 x13_1).f3)] 45 (0,0)) (by (with_reducible repeat (first | refine blk_drewN ?_ _ | refine blk_drew ?_ | refine blk_alloc ?_ _));exact BK234.out) hb);have n3_ := Aside0.mk (below_step (by repeat (first | (with_reducible first | exact HB.out | apply below_alloc | apply pw_below_drewN | apply below_drew1 | refine below_set ?_ GE229.out | refine below_set ?_ GE234.out) | exact HB.out)) hb);have n4_ := Aside0.mk (hbox);have n5_ := Aside0.mk ((by rw [hg];exact (below_size (by repeat (first | (with_reducible first | exact HB.out | apply below_alloc | apply pw_below_drewN | apply below_drew1 | refine below_set ?_ GE229.out | refine below_set ?_ GE234.out) | exact HB.out))) : w.heap.size ≤ gb240));have n6_ := Aside0.mk ((by rw [hg];exact (below_size (by repeat (first | (with_reducible first | exact HB.out | apply below_alloc | apply pw_below_drewN | apply below_drew1 | refine below_set ?_ GE229.out | refine below_set ?_ GE234.out) | exact HB.out))) : w.heap.size ≤ gb240));have n7_ := Aside0.mk ((by rw [hg];exact Nat.ne_of_lt (blk_lt (g := gb229) (o := .cells #[.string x230000_1,.string x230001_1,.int .i64 x230002_1,.int .i64 x230003_1] 45 (0,0)) (by (with_reducible repeat (first | refine blk_drewN ?_ _ | refine blk_drew ?_ | refine blk_alloc ?_ _));exact BK229.out)) : gb229 ≠ gb240));have n8_ := Aside0.mk ((by rw [hg];exact Nat.ne_of_gt (blk_lt (g := gb229) (o := .cells #[.string x230000_1,.string x230001_1,.int .i64 x230002_1,.int .i64 x230003_1] 45 (0,0)) (by (with_reducible repeat (first | refine blk_drewN ?_ _ | refine blk_drew ?_ | refine blk_alloc ?_ _));exact BK229.out)) : gb240 ≠ gb229));have n9_ := Aside0.mk ((by rw [hg];exact Nat.ne_of_lt (blk_lt (g := gb234) (o := .cells #[.string ((rd_T45 t230 x13_1).f0),.string ((rd_T45 t230 x13_1).f1),.int .i64 ((rd_T45 t230 x13_1).f2),.int .i64 ((rd_T45 t230 x13_1).f3)] 45 (0,0)) (by (with_reducible repeat (first | refine blk_drewN ?_ _ | refine blk_drew ?_ | refine blk_alloc ?_ _));exact BK234.out)) : gb234 ≠ gb240));have n10_ := Aside0.mk ((by rw [hg];exact Nat.ne_of_gt (blk_lt (g := gb234) (o := .cells #[.string ((rd_T45 t230 x13_1).f0),.string ((rd_T45 t230 x13_1).f1),.int .i64 ((rd_T45 t230 x13_1).f2),.int .i64 ((rd_T45 t230 x13_1).f3)] 45 (0,0)) (by (with_reducible repeat (first | refine blk_drewN ?_ _ | refine blk_drew ?_ | refine blk_alloc ?_ _));exact BK234.out)) : gb240 ≠ gb234));clear HO_11;clear BK229;clear BK234;clear HB;have HO_11 := n0_;have BK229 := n1_;have BK234 := n2_;have HB := n3_;have BK240 := n4_;have GW240 := n5_;have GE240 := n6_;have NB229_240 := n7_;have NB240_229 := n8_;have NB234_240 := n9_;have NB240_234 := n10_;clear n0_ n1_ n2_ n3_ n4_ n5_ n6_ n7_ n8_ n9_ n10_;clear hb hbox hg;have hnb29 := NB240_229.out;have hnc29 := NB229_240.out;have hnb30 := NB240_234.out;have hnc30 := NB234_240.out;have hcz31_0 : w28.cell? ⟨gb240,0,none⟩ = some (.string (⟨#[]⟩ : ByteArray)) := (blk_cell BK240.out 0).trans rfl;have hcz31_1 : w28.cell? ⟨gb240,1,none⟩ = some (.string (⟨#[]⟩ : ByteArray)) := (blk_cell BK240.out 1).trans rfl;have hcz31_2 : w28.cell? ⟨gb240,2,none⟩ = some (.int .i64 0) := (blk_cell BK240.out 2).trans rfl;have hcz31_3 : w28.cell? ⟨gb240,3,none⟩ = some (.int .i64 0) := (blk_cell BK240.out 3).trans rfl;have hfz31_0 := blk_frozen BK240.out 0;have hfz31_1 := blk_frozen BK240.out 1;have hfz31_2 := blk_frozen BK240.out 2;have hfz31_3 := blk_frozen BK240.out 3;have hcz32_0 : w28.cell? ⟨gb234,0,none⟩ = some (.string ((rd_T45 t230 x13_1).f0)) := (blk_cell BK234.out 0).trans rfl;have hcz32_1 : w28.cell? ⟨gb234,1,none⟩ = some (.string ((rd_T45 t230 x13_1).f1)) := (blk_cell BK234.out 1).trans rfl;have hcz32_2 : w28.cell? ⟨gb234,2,none⟩ = some (.int .i64 ((rd_T45 t230 x13_1).f2)) := (blk_cell BK234.out 2).trans rfl;have hcz32_3 : w28.cell? ⟨gb234,3,none⟩ = some (.int .i64 ((rd_T45 t230 x13_1).f3)) := (blk_cell BK234.out 3).trans rfl;have hfz32_0 := blk_frozen BK234.out 0;have hfz32_1 := blk_frozen BK234.out 1;have hfz32_2 := blk_frozen BK234.out 2;have hfz32_3 := blk_frozen BK234.out 3;have hcz33_0 : w28.cell? ⟨gb229,0,none⟩ = some (.string x230000_1) := (blk_cell BK229.out 0).trans rfl;have hcz33_1 : w28.cell? ⟨gb229,1,none⟩ = some (.string x230001_1) := (blk_cell BK229.out 1).trans rfl;have hcz33_2 : w28.cell? ⟨gb229,2,none⟩ = some (.int .i64 x230002_1) := (blk_cell BK229.out 2).trans rfl;have hcz33_3 : w28.cell? ⟨gb229,3,none⟩ = some (.int .i64 x230003_1) := (blk_cell BK229.out 3).trans rfl;have hfz33_0 := blk_frozen BK229.out 0;have hfz33_1 := blk_frozen BK229.out 1;have hfz33_2 := blk_frozen BK229.out 2;have hfz33_3 := blk_frozen BK229.out 3))
                  refine bodyPost_ret (results_ct rfl _ _ gb229 45 #[.string ((rd_T45 t230 x13_1).f0),.string ((rd_T45 t230 x13_1).f1),.int .i64 ((rd_T45 t230 x13_1).f2),.int .i64 ((rd_T45 t230 x13_1).f3)] (0,0) _ rfl (by (with_reducible repeat (first | refine blk_drewN ?_ _ | refine blk_drew ?_ | refine blk_alloc ?_ _));refine blk_put (cs := #[.string ((rd_T45 t230 x13_1).f0),.string ((rd_T45 t230 x13_1).f1),.int .i64 ((rd_T45 t230 x13_1).f2),.int .i64 x230003_1]) ?_ 3 _ rfl;(with_reducible repeat (first | refine blk_drewN ?_ _ | refine blk_drew ?_ | refine blk_alloc ?_ _));refine blk_put (cs := #[.string ((rd_T45 t230 x13_1).f0),.string ((rd_T45 t230 x13_1).f1),.int .i64 x230002_1,.int .i64 x230003_1]) ?_ 2 _ rfl;(with_reducible repeat (first | refine blk_drewN ?_ _ | refine blk_drew ?_ | refine blk_alloc ?_ _));refine blk_put (cs := #[.string ((rd_T45 t230 x13_1).f0),.string x230001_1,.int .i64 x230002_1,.int .i64 x230003_1]) ?_ 1 _ rfl;(with_reducible repeat (first | refine blk_drewN ?_ _ | refine blk_drew ?_ | refine blk_alloc ?_ _));refine blk_put (cs := #[.string x230000_1,.string x230001_1,.int .i64 x230002_1,.int .i64 x230003_1]) ?_ 0 _ rfl;(with_reducible repeat (first | refine blk_drewN ?_ _ | refine blk_drew ?_ | refine blk_alloc ?_ _));refine blk_far ?_ NB229_240.out _;(with_reducible repeat (first | refine blk_drewN ?_ _ | refine blk_drew ?_ | refine blk_alloc ?_ _));refine blk_far ?_ NB229_240.out _;(with_reducible repeat (first | refine blk_drewN ?_ _ | refine blk_drew ?_ | refine blk_alloc ?_ _));refine blk_far ?_ NB229_240.out _;(with_reducible repeat (first | refine blk_drewN ?_ _ | refine blk_drew ?_ | refine blk_alloc ?_ _));refine blk_far ?_ NB229_240.out _;(with_reducible repeat (first | refine blk_drewN ?_ _ | refine blk_drew ?_ | refine blk_alloc ?_ _));exact BK229.out) Try.underlying45 rfl (by kernel_rfl)) rfl ?_
                  exact ⟨by first | rfl | (simp [errW_none,errW_some] <;> rfl) | (simp [*,errW_none,errW_some] <;> rfl),by repeat (first | (with_reducible first | exact HB.out | apply below_alloc | apply pw_below_drewN | apply below_drew1 | refine below_set ?_ GE229.out | refine below_set ?_ GE234.out | refine below_set ?_ GE240.out) | exact HB.out)⟩
                · rw [if_neg c23] at H
                  have c23b0 : decide (t237 < ((rd_T45 t230 x13_1).f2)) = false := decide_eq_false c23
                  clear c23
                  have H' := Aside0.mk H
                  clear H
                  have p233 : 0 ≤ (x13_1 : Int) := of_decide_eq_true (by first | (with_reducible assumption) | assumption)
                  have q233 : x13_1 < (t230.length : Int) := of_decide_eq_true (by first | (with_reducible assumption) | assumption)
                  obtain ⟨ad233,e233,hx233_0,hx233_1,hx233_2,hx233_3⟩ := at_T45 (Kd.R_reads' HO_11.out).2.2 x13_1 p233 q233
                  cases e233
                  replace p233 := eq_true p233
                  replace q233 := eq_true q233
                  go_wp2_with (first | ((with_reducible refine gate_dst (N := 7) rfl ?_);refine box_event ?hg (N := 7) ?hd (cs := #[.string (⟨#[]⟩ : ByteArray),.string (⟨#[]⟩ : ByteArray),.int .i64 0,.int .i64 0]) (t := 45) ?hr ?_;(case hd => rfl);(case hg => rfl);(case hr => first | (go_simp;done) | (go_simp;rfl));intro gb234 hg w34 hbox hb;have n0_ := Aside0.mk (Kd.R_below (Kd.R_elderB (by (with_reducible repeat (first | apply Kd.R_alloc | apply Kd.R_drewN | apply Kd.R_drew));exact HO_11.out) gb234 (Nat.le_of_eq hg.symm)) hb);have n1_ := Aside0.mk (blk_below (g := gb229) (o := .cells #[.string x230000_1,.string x230001_1,.int .i64 x230002_1,.int .i64 x230003_1] 45 (0,0)) (by (with_reducible repeat (first | refine blk_drewN ?_ _ | refine blk_drew ?_ | refine blk_alloc ?_ _));exact BK229.out) hb);have n2_ := Aside0.mk (below_step (by repeat (first | (with_reducible first | exact HB.out | apply below_alloc | apply pw_below_drewN | apply below_drew1 | refine below_set ?_ GE229.out) | exact HB.out)) hb);have n3_ := Aside0.mk (hbox);have n4_ := Aside0.mk ((by rw [hg];exact (below_size (by repeat (first | (with_reducible first | exact HB.out | apply below_alloc | apply pw_below_drewN | apply below_drew1 | refine below_set ?_ GE229.out) | exact HB.out))) : w.heap.size ≤ gb234));have n5_ := Aside0.mk ((by rw [hg];exact (below_size (by repeat (first | (with_reducible first | exact HB.out | apply below_alloc | apply pw_below_drewN | apply below_drew1 | refine below_set ?_ GE229.out) | exact HB.out))) : w.heap.size ≤ gb234));have n6_ := Aside0.mk ((by rw [hg];exact Nat.ne_of_lt (blk_lt (g := gb229) (o := .cells #[.string x230000_1,.string x230001_1,.int .i64 x230002_1,.int .i64 x230003_1] 45 (0,0)) (by (with_reducible repeat (first | refine blk_drewN ?_ _ | refine blk_drew ?_ | refine blk_alloc ?_ _));exact BK229.out)) : gb229 ≠ gb234));have n7_ := Aside0.mk ((by rw [hg];exact Nat.ne_of_gt (blk_lt (g := gb229) (o := .cells #[.string x230000_1,.string x230001_1,.int .i64 x230002_1,.int .i64 x230003_1] 45 (0,0)) (by (with_reducible repeat (first | refine blk_drewN ?_ _ | refine blk_drew ?_ | refine blk_alloc ?_ _));exact BK229.out)) : gb234 ≠ gb229));clear HO_11;clear BK229;clear HB;have HO_11 := n0_;have BK229 := n1_;have HB := n2_;have BK234 := n3_;have GW234 := n4_;have GE234 := n5_;have NB229_234 := n6_;have NB234_229 := n7_;clear n0_ n1_ n2_ n3_ n4_ n5_ n6_ n7_;clear hb hbox hg;have hnb35 := NB234_229.out;have hnc35 := NB229_234.out;have hcz36_0 : w34.cell? ⟨gb234,0,none⟩ = some (.string (⟨#[]⟩ : ByteArray)) := (blk_cell BK234.out 0).trans rfl;have hcz36_1 : w34.cell? ⟨gb234,1,none⟩ = some (.string (⟨#[]⟩ : ByteArray)) := (blk_cell BK234.out 1).trans rfl;have hcz36_2 : w34.cell? ⟨gb234,2,none⟩ = some (.int .i64 0) := (blk_cell BK234.out 2).trans rfl;have hcz36_3 : w34.cell? ⟨gb234,3,none⟩ = some (.int .i64 0) := (blk_cell BK234.out 3).trans rfl;have hfz36_0 := blk_frozen BK234.out 0;have hfz36_1 := blk_frozen BK234.out 1;have hfz36_2 := blk_frozen BK234.out 2;have hfz36_3 := blk_frozen BK234.out 3) | ((with_reducible refine gate_callee (f := 55) rfl ?_);refine goesL_ (some 23) rfl rfl Try.func55 (by kernel_rfl) rfl #[.string ((rd_T45 t230 x13_1).f0),.string ((rd_T45 t230 x13_1).f1),.slice A0 l0.length c0] rfl (by (try simp only [List.map_toArray,List.map_cons,List.map_nil]);first | done | rfl | (simp only [List.length_drop,List.length_take];rfl)) ?_;(with_reducible refine (usage_Find.calls ((rd_T45 t230 x13_1).f0) ((rd_T45 t230 x13_1).f1) _ _ l0 t235 t236 t237 t238 true _ ?side1 ?side2 A10.out).mono ?_);(case side1 => exact Kd.C_below HR0.out (by repeat (first | (with_reducible first | exact HB.out | apply below_alloc | apply pw_below_drewN | apply below_drew1 | refine below_set ?_ GE229.out | refine below_set ?_ GE234.out) | exact HB.out)));(case side2 => exact HC0.out);rintro e w37 ⟨rfl,hb⟩;refine ⟨_,rfl,?_⟩;have n0_ := Aside0.mk (Kd.R_below (by (with_reducible repeat (first | apply Kd.R_alloc | apply Kd.R_drewN | apply Kd.R_drew));exact (Kd.R_mono (Kd.R_far (p := ⟨gb234,3,none⟩) (Kd.R_far (p := ⟨gb234,2,none⟩) (Kd.R_far (p := ⟨gb234,1,none⟩) (Kd.R_far (p := ⟨gb234,0,none⟩) (Kd.R_mono HO_11.out (fun k_ hk => (⟨hk,hk.2⟩ : _ ∧ k_ ≠ gb234))) (fun _ hk => hk.2) (.string ((rd_T45 t230 x13_1).f0))) (fun _ hk => hk.2) (.string ((rd_T45 t230 x13_1).f1))) (fun _ hk => hk.2) (.int .i64 ((rd_T45 t230 x13_1).f2))) (fun _ hk => hk.2) (.int .i64 ((rd_T45 t230 x13_1).f3))) (fun _ h_ => h_.1))) hb);have n1_ := Aside0.mk (blk_below (g := gb229) (o := .cells #[.string x230000_1,.string x230001_1,.int .i64 x230002_1,.int .i64 x230003_1] 45 (0,0)) (by (with_reducible repeat (first | refine blk_drewN ?_ _ | refine blk_drew ?_ | refine blk_alloc ?_ _));refine blk_far ?_ NB229_234.out _;(with_reducible repeat (first | refine blk_drewN ?_ _ | refine blk_drew ?_ | refine blk_alloc ?_ _));refine blk_far ?_ NB229_234.out _;(with_reducible repeat (first | refine blk_drewN ?_ _ | refine blk_drew ?_ | refine blk_alloc ?_ _));refine blk_far ?_ NB229_234.out _;(with_reducible repeat (first | refine blk_drewN ?_ _ | refine blk_drew ?_ | refine blk_alloc ?_ _));refine blk_far ?_ NB229_234.out _;(with_reducible repeat (first | refine blk_drewN ?_ _ | refine blk_drew ?_ | refine blk_alloc ?_ _));exact BK229.out) hb);have n2_ := Aside0.mk (blk_below (g := gb234) (o := .cells #[.string ((rd_T45 t230 x13_1).f0),.string ((rd_T45 t230 x13_1).f1),.int .i64 ((rd_T45 t230 x13_1).f2),.int .i64 ((rd_T45 t230 x13_1).f3)] 45 (0,0)) (by (with_reducible repeat (first | refine blk_drewN ?_ _ | refine blk_drew ?_ | refine blk_alloc ?_ _));refine blk_put (cs := #[.string ((rd_T45 t230 x13_1).f0),.string ((rd_T45 t230 x13_1).f1),.int .i64 ((rd_T45 t230 x13_1).f2),.int .i64 0]) ?_ 3 _ rfl;(with_reducible repeat (first | refine blk_drewN ?_ _ | refine blk_drew ?_ | refine blk_alloc ?_ _));refine blk_put (cs := #[.string ((rd_T45 t230 x13_1).f0),.string ((rd_T45 t230 x13_1).f1),.int .i64 0,.int .i64 0]) ?_ 2 _ rfl;(with_reducible repeat (first | refine blk_drewN ?_ _ | refine blk_drew ?_ | refine blk_alloc ?_ _));refine blk_put (cs := #[.string ((rd_T45 t230 x13_1).f0),.string (⟨#[]⟩ : ByteArray),.int .i64 0,.int .i64 0]) ?_ 1 _ rfl;(with_reducible repeat (first | refine blk_drewN ?_ _ | refine blk_drew ?_ | refine blk_alloc ?_ _));refine blk_put (cs := #[.string (⟨#[]⟩ : ByteArray),.string (⟨#[]⟩ : ByteArray),.int .i64 0,.int .i64 0]) ?_ 0 _ rfl;(with_reducible repeat (first | refine blk_drewN ?_ _ | refine blk_drew ?_ | refine blk_alloc ?_ _));exact BK234.out) hb);have n3_ := Aside0.mk (below_step (by repeat (first | (with_reducible first | exact HB.out | apply below_alloc | apply pw_below_drewN | apply below_drew1 | refine below_set ?_ GE229.out | refine below_set ?_ GE234.out) | exact HB.out)) hb);clear HO_11;clear BK229;clear BK234;clear HB;have HO_11 := n0_;have BK229 := n1_;have BK234 := n2_;have HB := n3_;clear n0_ n1_ n2_ n3_;(try clear hb);(try clear hb2);(try clear hk);(try clear hi)) | ((with_reducible refine gate_dst (N := 8) rfl ?_);refine box_event ?hg (N := 8) ?hd (cs := #[.string (⟨#[]⟩ : ByteArray),.string (⟨#[]⟩ : ByteArray),.int .i64 0,.int .i64 0]) (t := 45) ?hr ?_;(case hd => rfl);(case hg => rfl);(case hr => first | (go_simp;done) | (go_simp;rfl));intro gb240 hg w38 hbox hb;have n0_ := Aside0.mk (Kd.R_below (Kd.R_elderB (by (with_reducible repeat (first | apply Kd.R_alloc | apply Kd.R_drewN | apply Kd.R_drew));exact HO_11.out) gb240 (Nat.le_of_eq hg.symm)) hb);have n1_ := Aside0.mk (blk_below (g := gb229) (o := .cells #[.string x230000_1,.string x230001_1,.int .i64 x230002_1,.int .i64 x230003_1] 45 (0,0)) (by (with_reducible repeat (first | refine blk_drewN ?_ _ | refine blk_drew ?_ | refine blk_alloc ?_ _));exact BK229.out) hb);have n2_ := Aside0.mk (blk_below (g := gb234) (o := .cells #[.string ((rd_T45 t230 x13_1).f0),.string ((rd_T45 t230 x13_1).f1),.int .i64 ((rd_T45 t230 x13_1).f2),.int .i64 ((rd_T45 t230 x13_1).f3)] 45 (0,0)) (by (with_reducible repeat (first | refine blk_drewN ?_ _ | refine blk_drew ?_ | refine blk_alloc ?_ _));exact BK234.out) hb);have n3_ := Aside0.mk (below_step (by repeat (first | (with_reducible first | exact HB.out | apply below_alloc | apply pw_below_drewN | apply below_drew1 | refine below_set ?_ GE229.out | refine below_set ?_ GE234.out) | exact HB.out)) hb);have n4_ := Aside0.mk (hbox);have n5_ := Aside0.mk ((by rw [hg];exact (below_size (by repeat (first | (with_reducible first | exact HB.out | apply below_alloc | apply pw_below_drewN | apply below_drew1 | refine below_set ?_ GE229.out | refine below_set ?_ GE234.out) | exact HB.out))) : w.heap.size ≤ gb240));have n6_ := Aside0.mk ((by rw [hg];exact (below_size (by repeat (first | (with_reducible first | exact HB.out | apply below_alloc | apply pw_below_drewN | apply below_drew1 | refine below_set ?_ GE229.out | refine below_set ?_ GE234.out) | exact HB.out))) : w.heap.size ≤ gb240));have n7_ := Aside0.mk ((by rw [hg];exact Nat.ne_of_lt (blk_lt (g := gb229) (o := .cells #[.string x230000_1,.string x230001_1,.int .i64 x230002_1,.int .i64 x230003_1] 45 (0,0)) (by (with_reducible repeat (first | refine blk_drewN ?_ _ | refine blk_drew ?_ | refine blk_alloc ?_ _));exact BK229.out)) : gb229 ≠ gb240));have n8_ := Aside0.mk ((by rw [hg];exact Nat.ne_of_gt (blk_lt (g := gb229) (o := .cells #[.string x230000_1,.string x230001_1,.int .i64 x230002_1,.int .i64 x230003_1] 45 (0,0)) (by (with_reducible repeat (first | refine blk_drewN ?_ _ | refine blk_drew ?_ | refine blk_alloc ?_ _));exact BK229.out)) : gb240 ≠ gb229));have n9_ := Aside0.mk ((by rw [hg];exact Nat.ne_of_lt (blk_lt (g := gb234) (o := .cells #[.string ((rd_T45 t230 x13_1).f0),.string ((rd_T45 t230 x13_1).f1),.int .i64 ((rd_T45 t230 x13_1).f2),.int .i64 ((rd_T45 t230 x13_1).f3)] 45 (0,0)) (by (with_reducible repeat (first | refine blk_drewN ?_ _ | refine blk_drew ?_ | refine blk_alloc ?_ _));exact BK234.out)) : gb234 ≠ gb240));have n10_ := Aside0.mk ((by rw [hg];exact Nat.ne_of_gt (blk_lt (g := gb234) (o := .cells #[.string ((rd_T45 t230 x13_1).f0),.string ((rd_T45 t230 x13_1).f1),.int .i64 ((rd_T45 t230 x13_1).f2),.int .i64 ((rd_T45 t230 x13_1).f3)] 45 (0,0)) (by (with_reducible repeat (first | refine blk_drewN ?_ _ | refine blk_drew ?_ | refine blk_alloc ?_ _));exact BK234.out)) : gb240 ≠ gb234));clear HO_11;clear BK229;clear BK234;clear HB;have HO_11 := n0_;have BK229 := n1_;have BK234 := n2_;have HB := n3_;have BK240 := n4_;have GW240 := n5_;have GE240 := n6_;have NB229_240 := n7_;have NB240_229 := n8_;have NB234_240 := n9_;have NB240_234 := n10_;clear n0_ n1_ n2_ n3_ n4_ n5_ n6_ n7_ n8_ n9_ n10_;clear hb hbox hg;have hnb39 := NB240_229.out;have hnc39 := NB229_240.out;have hnb40 := NB240_234.out;have hnc40 := NB234_240.out;have hcz41_0 : w38.cell? ⟨gb240,0,none⟩ = some (.string (⟨#[]⟩ : ByteArray)) := (blk_cell BK240.out 0).trans rfl;have hcz41_1 : w38.cell? ⟨gb240,1,none⟩ = some (.string (⟨#[]⟩ : ByteArray)) := (blk_cell BK240.out 1).trans rfl;have hcz41_2 : w38.cell? ⟨gb240,2,none⟩ = some (.int .i64 0) := (blk_cell BK240.out 2).trans rfl;have hcz41_3 : w38.cell? ⟨gb240,3,none⟩ = some (.int .i64 0) := (blk_cell BK240.out 3).trans rfl;have hfz41_0 := blk_frozen BK240.out 0;have hfz41_1 := blk_frozen BK240.out 1;have hfz41_2 := blk_frozen BK240.out 2;have hfz41_3 := blk_frozen BK240.out 3;have hcz42_0 : w38.cell? ⟨gb234,0,none⟩ = some (.string ((rd_T45 t230 x13_1).f0)) := (blk_cell BK234.out 0).trans rfl;have hcz42_1 : w38.cell? ⟨gb234,1,none⟩ = some (.string ((rd_T45 t230 x13_1).f1)) := (blk_cell BK234.out 1).trans rfl;have hcz42_2 : w38.cell? ⟨gb234,2,none⟩ = some (.int .i64 ((rd_T45 t230 x13_1).f2)) := (blk_cell BK234.out 2).trans rfl;have hcz42_3 : w38.cell? ⟨gb234,3,none⟩ = some (.int .i64 ((rd_T45 t230 x13_1).f3)) := (blk_cell BK234.out 3).trans rfl;have hfz42_0 := blk_frozen BK234.out 0;have hfz42_1 := blk_frozen BK234.out 1;have hfz42_2 := blk_frozen BK234.out 2;have hfz42_3 := blk_frozen BK234.out 3))
                  go_roundg k1
                  case measure => have := HK1.out;omega
                  case rel => exact ⟨(wrap64 (x13_1 + 1)),(x230000_1),(x230001_1),(x230002_1),(x230003_1),(by first | rfl | (simp;done) | (simp [*];done)),H',⟨by have := HK1.out;omega⟩,⟨by (with_reducible repeat (first | apply Kd.R_alloc | apply Kd.R_drewN | apply Kd.R_drew));exact Kd.R_mono (Kd.R_far (p := ⟨gb240,3,none⟩) (Kd.R_far (p := ⟨gb240,2,none⟩) (Kd.R_far (p := ⟨gb240,1,none⟩) (Kd.R_far (p := ⟨gb240,0,none⟩) (Kd.R_mono HO_11.out (fun k_ hk => (⟨hk,hk.2⟩ : _ ∧ k_ ≠ gb240))) (fun _ hk => hk.2) (.string t235)) (fun _ hk => hk.2) (.string t236)) (fun _ hk => hk.2) (.int .i64 t237)) (fun _ hk => hk.2) (.int .i64 t238)) (fun _ hk => hk.1.1.1)⟩,⟨by (with_reducible repeat (first | refine blk_drewN ?_ _ | refine blk_drew ?_ | refine blk_alloc ?_ _));refine blk_far ?_ NB229_240.out _;(with_reducible repeat (first | refine blk_drewN ?_ _ | refine blk_drew ?_ | refine blk_alloc ?_ _));refine blk_far ?_ NB229_240.out _;(with_reducible repeat (first | refine blk_drewN ?_ _ | refine blk_drew ?_ | refine blk_alloc ?_ _));refine blk_far ?_ NB229_240.out _;(with_reducible repeat (first | refine blk_drewN ?_ _ | refine blk_drew ?_ | refine blk_alloc ?_ _));refine blk_far ?_ NB229_240.out _;(with_reducible repeat (first | refine blk_drewN ?_ _ | refine blk_drew ?_ | refine blk_alloc ?_ _));exact BK229.out⟩,⟨by repeat (first | (with_reducible first | exact HB.out | apply below_alloc | apply pw_below_drewN | apply below_drew1 | refine below_set ?_ GE229.out | refine below_set ?_ GE234.out | refine below_set ?_ GE240.out) | exact HB.out)⟩⟩
            · replace c11 := Bool.eq_false_iff.mpr c11
              subst c11
              have H1 : (some ((rd_T45 t230 x13_1).f0,(rd_T45 t230 x13_1).f1,(rd_T45 t230 x13_1).f2,(rd_T45 t230 x13_1).f3,16)) = some (r1,r2,r3,r4,r5) := by rw [if_neg (show ¬ (false = true) by decide)] at H;exact H
              clear H
              have H := H1
              clear H1
              simp only [Option.some.injEq,Prod.mk.injEq] at H
              obtain ⟨rfl,rfl,rfl,rfl,rfl⟩ := H
              have p233 : 0 ≤ (x13_1 : Int) := of_decide_eq_true (by first | (with_reducible assumption) | assumption)
              have q233 : x13_1 < (t230.length : Int) := of_decide_eq_true (by first | (with_reducible assumption) | assumption)
              obtain ⟨ad233,e233,hx233_0,hx233_1,hx233_2,hx233_3⟩ := at_T45 (Kd.R_reads' HO_11.out).2.2 x13_1 p233 q233
              cases e233
              replace p233 := eq_true p233
              replace q233 := eq_true q233
              go_wp2_with (first | ((with_reducible refine gate_dst (N := 7) rfl ?_);refine box_event ?hg (N := 7) ?hd (cs := #[.string (⟨#[]⟩ : ByteArray),.string (⟨#[]⟩ : ByteArray),.int .i64 0,.int .i64 0]) (t := 45) ?hr ?_;(case hd => rfl);(case hg => rfl);(case hr => first | (go_simp;done) | (go_simp;rfl));intro gb234 hg w43 hbox hb;have n0_ := Aside0.mk (Kd.R_below (Kd.R_elderB (by (with_reducible repeat (first | apply Kd.R_alloc | apply Kd.R_drewN | apply Kd.R_drew));exact HO_11.out) gb234 (Nat.le_of_eq hg.symm)) hb);have n1_ := Aside0.mk (blk_below (g := gb229) (o := .cells #[.string x230000_1,.string x230001_1,.int .i64 x230002_1,.int .i64 x230003_1] 45 (0,0)) (by (with_reducible repeat (first | refine blk_drewN ?_ _ | refine blk_drew ?_ | refine blk_alloc ?_ _));exact BK229.out) hb);have n2_ := Aside0.mk (below_step (by repeat (first | (with_reducible first | exact HB.out | apply below_alloc | apply pw_below_drewN | apply below_drew1 | refine below_set ?_ GE229.out) | exact HB.out)) hb);have n3_ := Aside0.mk (hbox);have n4_ := Aside0.mk ((by rw [hg];exact (below_size (by repeat (first | (with_reducible first | exact HB.out | apply below_alloc | apply pw_below_drewN | apply below_drew1 | refine below_set ?_ GE229.out) | exact HB.out))) : w.heap.size ≤ gb234));have n5_ := Aside0.mk ((by rw [hg];exact (below_size (by repeat (first | (with_reducible first | exact HB.out | apply below_alloc | apply pw_below_drewN | apply below_drew1 | refine below_set ?_ GE229.out) | exact HB.out))) : w.heap.size ≤ gb234));have n6_ := Aside0.mk ((by rw [hg];exact Nat.ne_of_lt (blk_lt (g := gb229) (o := .cells #[.string x230000_1,.string x230001_1,.int .i64 x230002_1,.int .i64 x230003_1] 45 (0,0)) (by (with_reducible repeat (first | refine blk_drewN ?_ _ | refine blk_drew ?_ | refine blk_alloc ?_ _));exact BK229.out)) : gb229 ≠ gb234));have n7_ := Aside0.mk ((by rw [hg];exact Nat.ne_of_gt (blk_lt (g := gb229) (o := .cells #[.string x230000_1,.string x230001_1,.int .i64 x230002_1,.int .i64 x230003_1] 45 (0,0)) (by (with_reducible repeat (first | refine blk_drewN ?_ _ | refine blk_drew ?_ | refine blk_alloc ?_ _));exact BK229.out)) : gb234 ≠ gb229));clear HO_11;clear BK229;clear HB;have HO_11 := n0_;have BK229 := n1_;have HB := n2_;have BK234 := n3_;have GW234 := n4_;have GE234 := n5_;have NB229_234 := n6_;have NB234_229 := n7_;clear n0_ n1_ n2_ n3_ n4_ n5_ n6_ n7_;clear hb hbox hg;have hnb44 := NB234_229.out;have hnc44 := NB229_234.out;have hcz45_0 : w43.cell? ⟨gb234,0,none⟩ = some (.string (⟨#[]⟩ : ByteArray)) := (blk_cell BK234.out 0).trans rfl;have hcz45_1 : w43.cell? ⟨gb234,1,none⟩ = some (.string (⟨#[]⟩ : ByteArray)) := (blk_cell BK234.out 1).trans rfl;have hcz45_2 : w43.cell? ⟨gb234,2,none⟩ = some (.int .i64 0) := (blk_cell BK234.out 2).trans rfl;have hcz45_3 : w43.cell? ⟨gb234,3,none⟩ = some (.int .i64 0) := (blk_cell BK234.out 3).trans rfl;have hfz45_0 := blk_frozen BK234.out 0;have hfz45_1 := blk_frozen BK234.out 1;have hfz45_2 := blk_frozen BK234.out 2;have hfz45_3 := blk_frozen BK234.out 3) | ((with_reducible refine gate_callee (f := 55) rfl ?_);refine goesL_ (some 23) rfl rfl Try.func55 (by kernel_rfl) rfl #[.string ((rd_T45 t230 x13_1).f0),.string ((rd_T45 t230 x13_1).f1),.slice A0 l0.length c0] rfl (by (try simp only [List.map_toArray,List.map_cons,List.map_nil]);first | done | rfl | (simp only [List.length_drop,List.length_take];rfl)) ?_;(with_reducible refine (usage_Find.calls ((rd_T45 t230 x13_1).f0) ((rd_T45 t230 x13_1).f1) _ _ l0 t235 t236 t237 t238 false _ ?side1 ?side2 A10.out).mono ?_);(case side1 => exact Kd.C_below HR0.out (by repeat (first | (with_reducible first | exact HB.out | apply below_alloc | apply pw_below_drewN | apply below_drew1 | refine below_set ?_ GE229.out | refine below_set ?_ GE234.out) | exact HB.out)));(case side2 => exact HC0.out);rintro e w46 ⟨rfl,hb⟩;refine ⟨_,rfl,?_⟩;have n0_ := Aside0.mk (Kd.R_below (by (with_reducible repeat (first | apply Kd.R_alloc | apply Kd.R_drewN | apply Kd.R_drew));exact (Kd.R_mono (Kd.R_far (p := ⟨gb234,3,none⟩) (Kd.R_far (p := ⟨gb234,2,none⟩) (Kd.R_far (p := ⟨gb234,1,none⟩) (Kd.R_far (p := ⟨gb234,0,none⟩) (Kd.R_mono HO_11.out (fun k_ hk => (⟨hk,hk.2⟩ : _ ∧ k_ ≠ gb234))) (fun _ hk => hk.2) (.string ((rd_T45 t230 x13_1).f0))) (fun _ hk => hk.2) (.string ((rd_T45 t230 x13_1).f1))) (fun _ hk => hk.2) (.int .i64 ((rd_T45 t230 x13_1).f2))) (fun _ hk => hk.2) (.int .i64 ((rd_T45 t230 x13_1).f3))) (fun _ h_ => h_.1))) hb);have n1_ := Aside0.mk (blk_below (g := gb229) (o := .cells #[.string x230000_1,.string x230001_1,.int .i64 x230002_1,.int .i64 x230003_1] 45 (0,0)) (by (with_reducible repeat (first | refine blk_drewN ?_ _ | refine blk_drew ?_ | refine blk_alloc ?_ _));refine blk_far ?_ NB229_234.out _;(with_reducible repeat (first | refine blk_drewN ?_ _ | refine blk_drew ?_ | refine blk_alloc ?_ _));refine blk_far ?_ NB229_234.out _;(with_reducible repeat (first | refine blk_drewN ?_ _ | refine blk_drew ?_ | refine blk_alloc ?_ _));refine blk_far ?_ NB229_234.out _;(with_reducible repeat (first | refine blk_drewN ?_ _ | refine blk_drew ?_ | refine blk_alloc ?_ _));refine blk_far ?_ NB229_234.out _;(with_reducible repeat (first | refine blk_drewN ?_ _ | refine blk_drew ?_ | refine blk_alloc ?_ _));exact BK229.out) hb);have n2_ := Aside0.mk (blk_below (g := gb234) (o := .cells #[.string ((rd_T45 t230 x13_1).f0),.string ((rd_T45 t230 x13_1).f1),.int .i64 ((rd_T45 t230 x13_1).f2),.int .i64 ((rd_T45 t230 x13_1).f3)] 45 (0,0)) (by (with_reducible repeat (first | refine blk_drewN ?_ _ | refine blk_drew ?_ | refine blk_alloc ?_ _));refine blk_put (cs := #[.string ((rd_T45 t230 x13_1).f0),.string ((rd_T45 t230 x13_1).f1),.int .i64 ((rd_T45 t230 x13_1).f2),.int .i64 0]) ?_ 3 _ rfl;(with_reducible repeat (first | refine blk_drewN ?_ _ | refine blk_drew ?_ | refine blk_alloc ?_ _));refine blk_put (cs := #[.string ((rd_T45 t230 x13_1).f0),.string ((rd_T45 t230 x13_1).f1),.int .i64 0,.int .i64 0]) ?_ 2 _ rfl;(with_reducible repeat (first | refine blk_drewN ?_ _ | refine blk_drew ?_ | refine blk_alloc ?_ _));refine blk_put (cs := #[.string ((rd_T45 t230 x13_1).f0),.string (⟨#[]⟩ : ByteArray),.int .i64 0,.int .i64 0]) ?_ 1 _ rfl;(with_reducible repeat (first | refine blk_drewN ?_ _ | refine blk_drew ?_ | refine blk_alloc ?_ _));refine blk_put (cs := #[.string (⟨#[]⟩ : ByteArray),.string (⟨#[]⟩ : ByteArray),.int .i64 0,.int .i64 0]) ?_ 0 _ rfl;(with_reducible repeat (first | refine blk_drewN ?_ _ | refine blk_drew ?_ | refine blk_alloc ?_ _));exact BK234.out) hb);have n3_ := Aside0.mk (below_step (by repeat (first | (with_reducible first | exact HB.out | apply below_alloc | apply pw_below_drewN | apply below_drew1 | refine below_set ?_ GE229.out | refine below_set ?_ GE234.out) | exact HB.out)) hb);clear HO_11;clear BK229;clear BK234;clear HB;have HO_11 := n0_;have BK229 := n1_;have BK234 := n2_;have HB := n3_;clear n0_ n1_ n2_ n3_;(try clear hb);(try clear hb2);(try clear hk);(try clear hi)) | ((with_reducible refine gate_dst (N := 8) rfl ?_);refine box_event ?hg (N := 8) ?hd (cs := #[.string (⟨#[]⟩ : ByteArray),.string (⟨#[]⟩ : ByteArray),.int .i64 0,.int .i64 0]) (t := 45) ?hr ?_;(case hd => rfl);(case hg => rfl);(case hr => first | (go_simp;done) | (go_simp;rfl));intro gb240 hg w47 hbox hb;have n0_ := Aside0.mk (Kd.R_below (Kd.R_elderB (by (with_reducible repeat (first | apply Kd.R_alloc | apply Kd.R_drewN | apply Kd.R_drew));exact HO_11.out) gb240 (Nat.le_of_eq hg.symm)) hb);have n1_ := Aside0.mk (blk_below (g := gb229) (o := .cells #[.string x230000_1,.string x230001_1,.int .i64 x230002_1,.int .i64 x230003_1] 45 (0,0)) (by (with_reducible repeat (first | refine blk_drewN ?_ _ | refine blk_drew ?_ | refine blk_alloc ?_ _));exact BK229.out) hb);have n2_ := Aside0.mk (blk_below (g := gb234) (o := .cells #[.string ((rd_T45 t230 x13_1).f0),.string ((rd_T45 t230 x13_1).f1),.int .i64 ((rd_T45 t230 x13_1).f2),.int .i64 ((rd_T45 t230 x13_1).f3)] 45 (0,0)) (by (with_reducible repeat (first | refine blk_drewN ?_ _ | refine blk_drew ?_ | refine blk_alloc ?_ _));exact BK234.out) hb);have n3_ := Aside0.mk (below_step (by repeat (first | (with_reducible first | exact HB.out | apply below_alloc | apply pw_below_drewN | apply below_drew1 | refine below_set ?_ GE229.out | refine below_set ?_ GE234.out) | exact HB.out)) hb);have n4_ := Aside0.mk (hbox);have n5_ := Aside0.mk ((by rw [hg];exact (below_size (by repeat (first | (with_reducible first | exact HB.out | apply below_alloc | apply pw_below_drewN | apply below_drew1 | refine below_set ?_ GE229.out | refine below_set ?_ GE234.out) | exact HB.out))) : w.heap.size ≤ gb240));have n6_ := Aside0.mk ((by rw [hg];exact (below_size (by repeat (first | (with_reducible first | exact HB.out | apply below_alloc | apply pw_below_drewN | apply below_drew1 | refine below_set ?_ GE229.out | refine below_set ?_ GE234.out) | exact HB.out))) : w.heap.size ≤ gb240));have n7_ := Aside0.mk ((by rw [hg];exact Nat.ne_of_lt (blk_lt (g := gb229) (o := .cells #[.string x230000_1,.string x230001_1,.int .i64 x230002_1,.int .i64 x230003_1] 45 (0,0)) (by (with_reducible repeat (first | refine blk_drewN ?_ _ | refine blk_drew ?_ | refine blk_alloc ?_ _));exact BK229.out)) : gb229 ≠ gb240));have n8_ := Aside0.mk ((by rw [hg];exact Nat.ne_of_gt (blk_lt (g := gb229) (o := .cells #[.string x230000_1,.string x230001_1,.int .i64 x230002_1,.int .i64 x230003_1] 45 (0,0)) (by (with_reducible repeat (first | refine blk_drewN ?_ _ | refine blk_drew ?_ | refine blk_alloc ?_ _));exact BK229.out)) : gb240 ≠ gb229));have n9_ := Aside0.mk ((by rw [hg];exact Nat.ne_of_lt (blk_lt (g := gb234) (o := .cells #[.string ((rd_T45 t230 x13_1).f0),.string ((rd_T45 t230 x13_1).f1),.int .i64 ((rd_T45 t230 x13_1).f2),.int .i64 ((rd_T45 t230 x13_1).f3)] 45 (0,0)) (by (with_reducible repeat (first | refine blk_drewN ?_ _ | refine blk_drew ?_ | refine blk_alloc ?_ _));exact BK234.out)) : gb234 ≠ gb240));have n10_ := Aside0.mk ((by rw [hg];exact Nat.ne_of_gt (blk_lt (g := gb234) (o := .cells #[.string ((rd_T45 t230 x13_1).f0),.string ((rd_T45 t230 x13_1).f1),.int .i64 ((rd_T45 t230 x13_1).f2),.int .i64 ((rd_T45 t230 x13_1).f3)] 45 (0,0)) (by (with_reducible repeat (first | refine blk_drewN ?_ _ | refine blk_drew ?_ | refine blk_alloc ?_ _));exact BK234.out)) : gb240 ≠ gb234));clear HO_11;clear BK229;clear BK234;clear HB;have HO_11 := n0_;have BK229 := n1_;have BK234 := n2_;have HB := n3_;have BK240 := n4_;have GW240 := n5_;have GE240 := n6_;have NB229_240 := n7_;have NB240_229 := n8_;have NB234_240 := n9_;have NB240_234 := n10_;clear n0_ n1_ n2_ n3_ n4_ n5_ n6_ n7_ n8_ n9_ n10_;clear hb hbox hg;have hnb48 := NB240_229.out;have hnc48 := NB229_240.out;have hnb49 := NB240_234.out;have hnc49 := NB234_240.out;have hcz50_0 : w47.cell? ⟨gb240,0,none⟩ = some (.string (⟨#[]⟩ : ByteArray)) := (blk_cell BK240.out 0).trans rfl;have hcz50_1 : w47.cell? ⟨gb240,1,none⟩ = some (.string (⟨#[]⟩ : ByteArray)) := (blk_cell BK240.out 1).trans rfl;have hcz50_2 : w47.cell? ⟨gb240,2,none⟩ = some (.int .i64 0) := (blk_cell BK240.out 2).trans rfl;have hcz50_3 : w47.cell? ⟨gb240,3,none⟩ = some (.int .i64 0) := (blk_cell BK240.out 3).trans rfl;have hfz50_0 := blk_frozen BK240.out 0;have hfz50_1 := blk_frozen BK240.out 1;have hfz50_2 := blk_frozen BK240.out 2;have hfz50_3 := blk_frozen BK240.out 3;have hcz51_0 : w47.cell? ⟨gb234,0,none⟩ = some (.string ((rd_T45 t230 x13_1).f0)) := (blk_cell BK234.out 0).trans rfl;have hcz51_1 : w47.cell? ⟨gb234,1,none⟩ = some (.string ((rd_T45 t230 x13_1).f1)) := (blk_cell BK234.out 1).trans rfl;have hcz51_2 : w47.cell? ⟨gb234,2,none⟩ = some (.int .i64 ((rd_T45 t230 x13_1).f2)) := (blk_cell BK234.out 2).trans rfl;have hcz51_3 : w47.cell? ⟨gb234,3,none⟩ = some (.int .i64 ((rd_T45 t230 x13_1).f3)) := (blk_cell BK234.out 3).trans rfl;have hfz51_0 := blk_frozen BK234.out 0;have hfz51_1 := blk_frozen BK234.out 1;have hfz51_2 := blk_frozen BK234.out 2;have hfz51_3 := blk_frozen BK234.out 3;have hcz52_0 : w47.cell? ⟨gb229,0,none⟩ = some (.string x230000_1) := (blk_cell BK229.out 0).trans rfl;have hcz52_1 : w47.cell? ⟨gb229,1,none⟩ = some (.string x230001_1) := (blk_cell BK229.out 1).trans rfl;have hcz52_2 : w47.cell? ⟨gb229,2,none⟩ = some (.int .i64 x230002_1) := (blk_cell BK229.out 2).trans rfl;have hcz52_3 : w47.cell? ⟨gb229,3,none⟩ = some (.int .i64 x230003_1) := (blk_cell BK229.out 3).trans rfl;have hfz52_0 := blk_frozen BK229.out 0;have hfz52_1 := blk_frozen BK229.out 1;have hfz52_2 := blk_frozen BK229.out 2;have hfz52_3 := blk_frozen BK229.out 3))
              refine bodyPost_ret (results_ct rfl _ _ gb229 45 #[.string ((rd_T45 t230 x13_1).f0),.string ((rd_T45 t230 x13_1).f1),.int .i64 ((rd_T45 t230 x13_1).f2),.int .i64 ((rd_T45 t230 x13_1).f3)] (0,0) _ rfl (by (with_reducible repeat (first | refine blk_drewN ?_ _ | refine blk_drew ?_ | refine blk_alloc ?_ _));refine blk_put (cs := #[.string ((rd_T45 t230 x13_1).f0),.string ((rd_T45 t230 x13_1).f1),.int .i64 ((rd_T45 t230 x13_1).f2),.int .i64 x230003_1]) ?_ 3 _ rfl;(with_reducible repeat (first | refine blk_drewN ?_ _ | refine blk_drew ?_ | refine blk_alloc ?_ _));refine blk_put (cs := #[.string ((rd_T45 t230 x13_1).f0),.string ((rd_T45 t230 x13_1).f1),.int .i64 x230002_1,.int .i64 x230003_1]) ?_ 2 _ rfl;(with_reducible repeat (first | refine blk_drewN ?_ _ | refine blk_drew ?_ | refine blk_alloc ?_ _));refine blk_put (cs := #[.string ((rd_T45 t230 x13_1).f0),.string x230001_1,.int .i64 x230002_1,.int .i64 x230003_1]) ?_ 1 _ rfl;(with_reducible repeat (first | refine blk_drewN ?_ _ | refine blk_drew ?_ | refine blk_alloc ?_ _));refine blk_put (cs := #[.string x230000_1,.string x230001_1,.int .i64 x230002_1,.int .i64 x230003_1]) ?_ 0 _ rfl;(with_reducible repeat (first | refine blk_drewN ?_ _ | refine blk_drew ?_ | refine blk_alloc ?_ _));refine blk_far ?_ NB229_240.out _;(with_reducible repeat (first | refine blk_drewN ?_ _ | refine blk_drew ?_ | refine blk_alloc ?_ _));refine blk_far ?_ NB229_240.out _;(with_reducible repeat (first | refine blk_drewN ?_ _ | refine blk_drew ?_ | refine blk_alloc ?_ _));refine blk_far ?_ NB229_240.out _;(with_reducible repeat (first | refine blk_drewN ?_ _ | refine blk_drew ?_ | refine blk_alloc ?_ _));refine blk_far ?_ NB229_240.out _;(with_reducible repeat (first | refine blk_drewN ?_ _ | refine blk_drew ?_ | refine blk_alloc ?_ _));exact BK229.out) Try.underlying45 rfl (by kernel_rfl)) rfl ?_
              exact ⟨by first | rfl | (simp [errW_none,errW_some] <;> rfl) | (simp [*,errW_none,errW_some] <;> rfl),by repeat (first | (with_reducible first | exact HB.out | apply below_alloc | apply pw_below_drewN | apply below_drew1 | refine below_set ?_ GE229.out | refine below_set ?_ GE234.out | refine below_set ?_ GE240.out) | exact HB.out)⟩
          · rw [if_neg c9] at H
            exact absurd H (by simp)
        · rw [if_neg c8] at H
          exact absurd H (by simp)
      · rw [if_neg c7] at H
        have c7b0 : decide (x13_1 < (t230.length : Int)) = false := decide_eq_false c7
        clear c7
        simp only [Option.some.injEq,Prod.mk.injEq] at H
        obtain ⟨rfl,rfl,rfl,rfl,rfl⟩ := H
        have hcz53_0 : wr.cell? ⟨gb229,0,none⟩ = some (.string x230000_1) := (blk_cell BK229.out 0).trans rfl
        have hcz53_1 : wr.cell? ⟨gb229,1,none⟩ = some (.string x230001_1) := (blk_cell BK229.out 1).trans rfl
        have hcz53_2 : wr.cell? ⟨gb229,2,none⟩ = some (.int .i64 x230002_1) := (blk_cell BK229.out 2).trans rfl
        have hcz53_3 : wr.cell? ⟨gb229,3,none⟩ = some (.int .i64 x230003_1) := (blk_cell BK229.out 3).trans rfl
        have hfz53_0 := blk_frozen BK229.out 0
        have hfz53_1 := blk_frozen BK229.out 1
        have hfz53_2 := blk_frozen BK229.out 2
        have hfz53_3 := blk_frozen BK229.out 3
        go_wp2
        refine bodyPost_ret (results_ct rfl _ _ gb229 45 #[.string (⟨#[]⟩ : ByteArray),.string (⟨#[]⟩ : ByteArray),.int .i64 0,.int .i64 0] (0,0) _ rfl (by (with_reducible repeat (first | refine blk_drewN ?_ _ | refine blk_drew ?_ | refine blk_alloc ?_ _));refine blk_put (cs := #[.string (⟨#[]⟩ : ByteArray),.string (⟨#[]⟩ : ByteArray),.int .i64 0,.int .i64 x230003_1]) ?_ 3 _ rfl;(with_reducible repeat (first | refine blk_drewN ?_ _ | refine blk_drew ?_ | refine blk_alloc ?_ _));refine blk_put (cs := #[.string (⟨#[]⟩ : ByteArray),.string (⟨#[]⟩ : ByteArray),.int .i64 x230002_1,.int .i64 x230003_1]) ?_ 2 _ rfl;(with_reducible repeat (first | refine blk_drewN ?_ _ | refine blk_drew ?_ | refine blk_alloc ?_ _));refine blk_put (cs := #[.string (⟨#[]⟩ : ByteArray),.string x230001_1,.int .i64 x230002_1,.int .i64 x230003_1]) ?_ 1 _ rfl;(with_reducible repeat (first | refine blk_drewN ?_ _ | refine blk_drew ?_ | refine blk_alloc ?_ _));refine blk_put (cs := #[.string x230000_1,.string x230001_1,.int .i64 x230002_1,.int .i64 x230003_1]) ?_ 0 _ rfl;(with_reducible repeat (first | refine blk_drewN ?_ _ | refine blk_drew ?_ | refine blk_alloc ?_ _));exact BK229.out) Try.underlying45 rfl (by kernel_rfl)) rfl ?_
        exact ⟨by first | rfl | (simp [errW_none,errW_some] <;> rfl) | (simp [*,errW_none,errW_some] <;> rfl),by repeat (first | (with_reducible first | exact HB.out | apply below_alloc | apply pw_below_drewN | apply below_drew1 | refine below_set ?_ GE229.out) | exact HB.out)⟩
end Go.Proofs.Ytcenlehfbgnphaa.Z
end
section
namespace Go.Proofs.Ytcenlehfbgnphaa.Z
open Go.RowKit Go.Proofs.YtcenlehfbgnphaaW.PrintWords Go.Proofs.YtcenlehfbgnphaaW.PrintLast Go.Proofs.YtcenlehfbgnphaaW.PrintMore
attribute [local go_sem] max2_int min2_int max_two min_two max_three min_three max_four min_four
set_option linter.unusedVariables false
set_option linter.unusedSimpArgs false
def verdererref28_Over.l0 : Nat → List (S45) → List (S45) → Int → Option ((List (S45)))
  | 0,_,_,_ => none
  | k + 1,x0,x3,x4 => if x4 < (x0.length : Int) then (if 0 ≤ x4 then (if ((rd_T45 x0 x4).f2) > ((rd_T45 x0 x4).f3) then (if x3.length < 2932031007402 then (verdererref28_Over.l0 k x0 (x3 ++ [(⟨(rd_T45 x0 x4).f0,(rd_T45 x0 x4).f1,(rd_T45 x0 x4).f2,(rd_T45 x0 x4).f3⟩ : S45)]) (wrap64 (x4 + 1))) else (none)) else (verdererref28_Over.l0 k x0 x3 (wrap64 (x4 + 1)))) else (none)) else (some x3)
def verdererref28_Over.f (k : Nat) (l0 : List (S45)) : Option ((List (S45))) := verdererref28_Over.l0 k l0 ([] : List (S45)) 0
theorem verdererref28_Over.mono_l : ∀ k,(∀ y0 y1 y2,LeO (verdererref28_Over.l0 k y0 y1 y2) (verdererref28_Over.l0 (k + 1) y0 y1 y2))
  | 0 => fun _ _ _ r h => by simp [verdererref28_Over.l0] at h
  | k + 1 => by
    have ih0 := verdererref28_Over.mono_l k
    · intro y0 y1 y2
      unfold verdererref28_Over.l0
      repeat' first
      | (with_reducible exact ih0 _ _ _)
      | (with_reducible exact LeO.refl _)
      | (with_reducible exact LeO.none _)
      | (with_reducible refine LeO.ite ?_ ?_)
      | (with_reducible refine LeO.bind ?_ (fun _ => ?_))
      | exact ih0 _ _ _
      | exact LeO.none _
      | refine LeO.ite ?_ ?_
      | refine LeO.bind ?_ (fun _ => ?_)
theorem verdererref28_Over.mono : ∀ a0 k,LeO (verdererref28_Over.f k a0) (verdererref28_Over.f (k + 1) a0) := by
  intro a0 k
  have ih0 := verdererref28_Over.mono_l k
  unfold verdererref28_Over.f
  repeat' first
      | (with_reducible exact ih0 _ _ _)
      | (with_reducible exact LeO.refl _)
      | (with_reducible exact LeO.none _)
      | (with_reducible refine LeO.ite ?_ ?_)
      | (with_reducible refine LeO.bind ?_ (fun _ => ?_))
      | exact ih0 _ _ _
      | exact LeO.none _
      | refine LeO.ite ?_ ?_
      | refine LeO.bind ?_ (fun _ => ?_)
set_option maxHeartbeats 8000000 in
set_option maxRecDepth 100000 in
theorem verdererref28_Over.calls (k : Nat) (A0 : Option Addr) (c0 : Nat) (l0 : List (S45)) (r : List (S45)) (w : World) (hr0 : Kd.C k45 w A0 l0.length l0) (hc0 : l0.length ≤ c0) (h : verdererref28_Over.f k l0 = some r) :
    Calls Try.prog 50 #[.slice A0 l0.length c0] w fun e w' => ∃ v0_ : Value,e = .returned (v0_) ∧ Kd.R k45 45 w' w.heap.size (fun _ => True) v0_ r ∧ Below w.heap.size w w' := by
  have hu45 := Try.underlying45
  have HR0 := Aside0.mk hr0
  have HC0 := Aside0.mk hc0
  clear hr0 hc0
  have HB := Aside0.mk (Below.refl w.heap.size w)
  have H : (verdererref28_Over.l0 k l0 ([] : List (S45)) 0) = some r := h
  clear h
  have H' := Aside0.mk H
  clear H
  go_enter Try.func50,Try.ntmps50
  go_wp2
  repeat (go_quiet (fail);try go_wp2)
  go_loopg [3,4] k (fun kq v3 v4 w' => ∃ (x3_1 : List (S45)) (x4_1 : Int),v4 = .int .i64 x4_1 ∧ Aside0 (verdererref28_Over.l0 kq l0 x3_1 x4_1 = some r) ∧ Aside0 (kq ≤ k) ∧ Aside0 (Kd.R k45 45 w' w.heap.size (fun _ => True) v3 x3_1) ∧ Aside0 (Below w.heap.size w w'))
  case atStart => exact ⟨(([] : List (S45))),(0),(by first | rfl | (simp;done) | (simp [*];done)),H',⟨Nat.le_refl _⟩,⟨by first | exact Kd.R_nil _ _ _ _ _ | exact Kd.N_nil _ _ _ _ _ | exact Kd.V_nil _ _ _ _ _ | exact Kd.Q_nil _ _ _ _ _ | exact Kd.S_nil _ _ _ _ _⟩,⟨by repeat (first | (with_reducible first | exact HB.out | apply below_alloc | apply pw_below_drewN | apply below_drew1) | exact HB.out)⟩⟩
  case round =>
    clear H'
    obtain ⟨x3_1,x4_1,rfl,HA,HK1,HO_3,HB⟩ := hrel
    cases gk with
    | zero => exact absurd HA.out (by simp [verdererref28_Over.l0])
    | succ k1 =>
      have H := HA.out
      clear HA
      simp only [verdererref28_Over.l0] at H
      by_cases c2 : x4_1 < (l0.length : Int)
      · rw [if_pos c2] at H
        have c2b0 : decide (x4_1 < (l0.length : Int)) = true := decide_eq_true c2
        clear c2
        by_cases c3 : 0 ≤ x4_1
        · rw [if_pos c3] at H
          have c3b0 : decide (0 ≤ x4_1) = true := decide_eq_true c3
          clear c3
          by_cases c4 : ((rd_T45 l0 x4_1).f2) > ((rd_T45 l0 x4_1).f3)
          · rw [if_pos c4] at H
            have c4b0 : decide (((rd_T45 l0 x4_1).f3) < ((rd_T45 l0 x4_1).f2)) = true := decide_eq_true c4
            clear c4
            by_cases c5 : x3_1.length < 2932031007402
            · rw [if_pos c5] at H
              have LMc5 := Aside0.mk c5
              clear c5
              obtain ⟨y311,hy311⟩ : ∃ y_ : List (S45),y_ = (x3_1 ++ [(⟨(rd_T45 l0 x4_1).f0,(rd_T45 l0 x4_1).f1,(rd_T45 l0 x4_1).f2,(rd_T45 l0 x4_1).f3⟩ : S45)]) := ⟨_,rfl⟩
              replace H : (verdererref28_Over.l0 k1 l0 y311 (wrap64 (x4_1 + 1))) = some r := by first | (rw [hy311];with_reducible exact H) | (have H2_ := (Option.bind_some _ _).symm.trans H;rw [hy311];with_reducible exact H2_) | (have H2_ := (Option.bind_some _ _).symm.trans H;with_reducible exact H2_) | with_reducible exact H | (rw [hy311];exact H) | exact H
              have Ny311 := Aside0.mk hy311
              clear hy311
              have H' := Aside0.mk H
              clear H
              have p308 : 0 ≤ (x4_1 : Int) := of_decide_eq_true (by first | (with_reducible assumption) | assumption)
              have q308 : x4_1 < (l0.length : Int) := of_decide_eq_true (by first | (with_reducible assumption) | assumption)
              obtain ⟨ad308,e308,hx308_0,hx308_1,hx308_2,hx308_3⟩ := at_T45 HR0.out x4_1 p308 q308
              cases e308
              replace hx308_0 := (HB.out.cell (World.block_lt_of_cell? w _ hx308_0)).trans hx308_0
              replace hx308_1 := (HB.out.cell (World.block_lt_of_cell? w _ hx308_1)).trans hx308_1
              replace hx308_2 := (HB.out.cell (World.block_lt_of_cell? w _ hx308_2)).trans hx308_2
              replace hx308_3 := (HB.out.cell (World.block_lt_of_cell? w _ hx308_3)).trans hx308_3
              replace p308 := eq_true p308
              replace q308 := eq_true q308
              have p309 : 0 ≤ (x4_1 : Int) := of_decide_eq_true (by first | (with_reducible assumption) | assumption)
              have q309 : x4_1 < (l0.length : Int) := of_decide_eq_true (by first | (with_reducible assumption) | assumption)
              obtain ⟨ad309,e309,hx309_0,hx309_1,hx309_2,hx309_3⟩ := at_T45 HR0.out x4_1 p309 q309
              obtain rfl : ad308 = ad309 := (by injection e309)
              replace hx309_0 := (HB.out.cell (World.block_lt_of_cell? w _ hx309_0)).trans hx309_0
              replace hx309_1 := (HB.out.cell (World.block_lt_of_cell? w _ hx309_1)).trans hx309_1
              replace hx309_2 := (HB.out.cell (World.block_lt_of_cell? w _ hx309_2)).trans hx309_2
              replace hx309_3 := (HB.out.cell (World.block_lt_of_cell? w _ hx309_3)).trans hx309_3
              replace p309 := eq_true p309
              replace q309 := eq_true q309
              have p310 : 0 ≤ (x4_1 : Int) := of_decide_eq_true (by first | (with_reducible assumption) | assumption)
              have q310 : x4_1 < (l0.length : Int) := of_decide_eq_true (by first | (with_reducible assumption) | assumption)
              obtain ⟨ad310,e310,hx310_0,hx310_1,hx310_2,hx310_3⟩ := at_T45 HR0.out x4_1 p310 q310
              obtain rfl : ad308 = ad310 := (by injection e310)
              replace hx310_0 := (HB.out.cell (World.block_lt_of_cell? w _ hx310_0)).trans hx310_0
              replace hx310_1 := (HB.out.cell (World.block_lt_of_cell? w _ hx310_1)).trans hx310_1
              replace hx310_2 := (HB.out.cell (World.block_lt_of_cell? w _ hx310_2)).trans hx310_2
              replace hx310_3 := (HB.out.cell (World.block_lt_of_cell? w _ hx310_3)).trans hx310_3
              replace p310 := eq_true p310
              replace q310 := eq_true q310
              go_wp2_with (first | ((with_reducible refine gate_builtin (b := .append) (xs := #[.tmp 22,.tmp 27]) rfl ?_);at_builtin;refine Kd.R_append k45 (w0 := w) w.heap.size rfl (.tmp 22) (.tmp 27) 53 45 (.agg #[(.string ⟨#[]⟩),(.string ⟨#[]⟩),(.int .i64 0),(.int .i64 0)]) 48 rfl Try.underlying53 info45 rfl (by decide) (by omega) u3 x3_1 (⟨(rd_T45 l0 x4_1).f0,(rd_T45 l0 x4_1).f1,(rd_T45 l0 x4_1).f2,(rd_T45 l0 x4_1).f3⟩ : S45) [.string ((rd_T45 l0 x4_1).f0),.string ((rd_T45 l0 x4_1).f1),.int .i64 ((rd_T45 l0 x4_1).f2),.int .i64 ((rd_T45 l0 x4_1).f3)] (fun _ => True) (fun _ => False) rfl rfl ?aP (fun _ hk => hk.elim) ?aF ?aO ?aB ?aS ?aL ?_;(case aP => exact k45_mkM _ _ _ (⟨(rd_T45 l0 x4_1).f0,(rd_T45 l0 x4_1).f1,(rd_T45 l0 x4_1).f2,(rd_T45 l0 x4_1).f3⟩ : S45));(case aB => exact (by repeat (first | (with_reducible first | exact HB.out | apply below_alloc | apply pw_below_drewN | apply below_drew1) | exact HB.out)));(case aF => exact (fun _ _ => trivial));(case aO => exact (by (with_reducible repeat (first | apply Kd.R_alloc | apply Kd.R_drewN | apply Kd.R_drew));exact HO_3.out));(case aS => exact (below_size (by repeat (first | (with_reducible first | exact HB.out | apply below_alloc | apply pw_below_drewN | apply below_drew1) | exact HB.out))));(case aL => have := LMc5.out;omega);intro v312 w6 ho hb hg hat;rw [← Ny311.out] at ho;have n0_ := Aside0.mk (hb);have n1_ := Aside0.mk (ho);clear HB;clear HO_3;have HB := n0_;have HO313 := n1_;clear n0_ n1_;clear ho hb hg hat))
              repeat (go_quiet (first | ((with_reducible refine gate_builtin (b := .append) (xs := #[.tmp 22,.tmp 27]) rfl ?_);at_builtin;refine Kd.R_append k45 (w0 := w) w.heap.size rfl (.tmp 22) (.tmp 27) 53 45 (.agg #[(.string ⟨#[]⟩),(.string ⟨#[]⟩),(.int .i64 0),(.int .i64 0)]) 48 rfl Try.underlying53 info45 rfl (by decide) (by omega) u3 x3_1 (⟨(rd_T45 l0 x4_1).f0,(rd_T45 l0 x4_1).f1,(rd_T45 l0 x4_1).f2,(rd_T45 l0 x4_1).f3⟩ : S45) [.string ((rd_T45 l0 x4_1).f0),.string ((rd_T45 l0 x4_1).f1),.int .i64 ((rd_T45 l0 x4_1).f2),.int .i64 ((rd_T45 l0 x4_1).f3)] (fun _ => True) (fun _ => False) rfl rfl ?aP (fun _ hk => hk.elim) ?aF ?aO ?aB ?aS ?aL ?_;(case aP => exact k45_mkM _ _ _ (⟨(rd_T45 l0 x4_1).f0,(rd_T45 l0 x4_1).f1,(rd_T45 l0 x4_1).f2,(rd_T45 l0 x4_1).f3⟩ : S45));(case aB => exact (by repeat (first | (with_reducible first | exact HB.out | apply below_alloc | apply pw_below_drewN | apply below_drew1) | exact HB.out)));(case aF => exact (fun _ _ => trivial));(case aO => exact (by (with_reducible repeat (first | apply Kd.R_alloc | apply Kd.R_drewN | apply Kd.R_drew));exact HO_3.out));(case aS => exact (below_size (by repeat (first | (with_reducible first | exact HB.out | apply below_alloc | apply pw_below_drewN | apply below_drew1) | exact HB.out))));(case aL => have := LMc5.out;omega);intro v312 w6 ho hb hg hat;rw [← Ny311.out] at ho;have n0_ := Aside0.mk (hb);have n1_ := Aside0.mk (ho);clear HB;clear HO_3;have HB := n0_;have HO313 := n1_;clear n0_ n1_;clear ho hb hg hat));try go_wp2_with (first | ((with_reducible refine gate_builtin (b := .append) (xs := #[.tmp 22,.tmp 27]) rfl ?_);at_builtin;refine Kd.R_append k45 (w0 := w) w.heap.size rfl (.tmp 22) (.tmp 27) 53 45 (.agg #[(.string ⟨#[]⟩),(.string ⟨#[]⟩),(.int .i64 0),(.int .i64 0)]) 48 rfl Try.underlying53 info45 rfl (by decide) (by omega) u3 x3_1 (⟨(rd_T45 l0 x4_1).f0,(rd_T45 l0 x4_1).f1,(rd_T45 l0 x4_1).f2,(rd_T45 l0 x4_1).f3⟩ : S45) [.string ((rd_T45 l0 x4_1).f0),.string ((rd_T45 l0 x4_1).f1),.int .i64 ((rd_T45 l0 x4_1).f2),.int .i64 ((rd_T45 l0 x4_1).f3)] (fun _ => True) (fun _ => False) rfl rfl ?aP (fun _ hk => hk.elim) ?aF ?aO ?aB ?aS ?aL ?_;(case aP => exact k45_mkM _ _ _ (⟨(rd_T45 l0 x4_1).f0,(rd_T45 l0 x4_1).f1,(rd_T45 l0 x4_1).f2,(rd_T45 l0 x4_1).f3⟩ : S45));(case aB => exact (by repeat (first | (with_reducible first | exact HB.out | apply below_alloc | apply pw_below_drewN | apply below_drew1) | exact HB.out)));(case aF => exact (fun _ _ => trivial));(case aO => exact (by (with_reducible repeat (first | apply Kd.R_alloc | apply Kd.R_drewN | apply Kd.R_drew));exact HO_3.out));(case aS => exact (below_size (by repeat (first | (with_reducible first | exact HB.out | apply below_alloc | apply pw_below_drewN | apply below_drew1) | exact HB.out))));(case aL => have := LMc5.out;omega);intro v312 w6 ho hb hg hat;rw [← Ny311.out] at ho;have n0_ := Aside0.mk (hb);have n1_ := Aside0.mk (ho);clear HB;clear HO_3;have HB := n0_;have HO313 := n1_;clear n0_ n1_;clear ho hb hg hat)))
              go_roundg k1
              case measure => have := HK1.out;omega
              case rel => exact ⟨(y311),(wrap64 (x4_1 + 1)),(by first | rfl | (simp;done) | (simp [*];done)),H',⟨by have := HK1.out;omega⟩,⟨by (with_reducible repeat (first | apply Kd.R_alloc | apply Kd.R_drewN | apply Kd.R_drew));exact HO313.out⟩,⟨by repeat (first | (with_reducible first | exact HB.out | apply below_alloc | apply pw_below_drewN | apply below_drew1) | exact HB.out)⟩⟩
            · rw [if_neg c5] at H
              exact absurd H (by simp)
          · rw [if_neg c4] at H
            have c4b0 : decide (((rd_T45 l0 x4_1).f3) < ((rd_T45 l0 x4_1).f2)) = false := decide_eq_false c4
            clear c4
            have H' := Aside0.mk H
            clear H
            have p308 : 0 ≤ (x4_1 : Int) := of_decide_eq_true (by first | (with_reducible assumption) | assumption)
            have q308 : x4_1 < (l0.length : Int) := of_decide_eq_true (by first | (with_reducible assumption) | assumption)
            obtain ⟨ad308,e308,hx308_0,hx308_1,hx308_2,hx308_3⟩ := at_T45 HR0.out x4_1 p308 q308
            cases e308
            replace hx308_0 := (HB.out.cell (World.block_lt_of_cell? w _ hx308_0)).trans hx308_0
            replace hx308_1 := (HB.out.cell (World.block_lt_of_cell? w _ hx308_1)).trans hx308_1
            replace hx308_2 := (HB.out.cell (World.block_lt_of_cell? w _ hx308_2)).trans hx308_2
            replace hx308_3 := (HB.out.cell (World.block_lt_of_cell? w _ hx308_3)).trans hx308_3
            replace p308 := eq_true p308
            replace q308 := eq_true q308
            have p309 : 0 ≤ (x4_1 : Int) := of_decide_eq_true (by first | (with_reducible assumption) | assumption)
            have q309 : x4_1 < (l0.length : Int) := of_decide_eq_true (by first | (with_reducible assumption) | assumption)
            obtain ⟨ad309,e309,hx309_0,hx309_1,hx309_2,hx309_3⟩ := at_T45 HR0.out x4_1 p309 q309
            obtain rfl : ad308 = ad309 := (by injection e309)
            replace hx309_0 := (HB.out.cell (World.block_lt_of_cell? w _ hx309_0)).trans hx309_0
            replace hx309_1 := (HB.out.cell (World.block_lt_of_cell? w _ hx309_1)).trans hx309_1
            replace hx309_2 := (HB.out.cell (World.block_lt_of_cell? w _ hx309_2)).trans hx309_2
            replace hx309_3 := (HB.out.cell (World.block_lt_of_cell? w _ hx309_3)).trans hx309_3
            replace p309 := eq_true p309
            replace q309 := eq_true q309
            go_wp2
            repeat (go_quiet (fail);try go_wp2)
            go_roundg k1
            case measure => have := HK1.out;omega
            case rel => exact ⟨(x3_1),(wrap64 (x4_1 + 1)),(by first | rfl | (simp;done) | (simp [*];done)),H',⟨by have := HK1.out;omega⟩,⟨by (with_reducible repeat (first | apply Kd.R_alloc | apply Kd.R_drewN | apply Kd.R_drew));exact HO_3.out⟩,⟨by repeat (first | (with_reducible first | exact HB.out | apply below_alloc | apply pw_below_drewN | apply below_drew1) | exact HB.out)⟩⟩
        · rw [if_neg c3] at H
          exact absurd H (by simp)
      · rw [if_neg c2] at H
        have c2b0 : decide (x4_1 < (l0.length : Int)) = false := decide_eq_false c2
        clear c2
        obtain rfl := Option.some.inj H
        go_wp2
        repeat (go_quiet (fail);try go_wp2)
        go_ret
        exact ⟨_,by first | rfl | (simp [errW_none,errW_some] <;> rfl) | (simp [*,errW_none,errW_some] <;> rfl),by (with_reducible repeat (first | apply Kd.R_alloc | apply Kd.R_drewN | apply Kd.R_drew));exact HO_3.out,by repeat (first | (with_reducible first | exact HB.out | apply below_alloc | apply pw_below_drewN | apply below_drew1) | exact HB.out)⟩
end Go.Proofs.Ytcenlehfbgnphaa.Z
end
section
namespace Go.Proofs.Ytcenlehfbgnphaa.Z
open Go.RowKit Go.Proofs.YtcenlehfbgnphaaW.PrintWords Go.Proofs.YtcenlehfbgnphaaW.PrintLast Go.Proofs.YtcenlehfbgnphaaW.PrintMore
attribute [local go_sem] max2_int min2_int max_two min_two max_three min_three max_four min_four
set_option linter.unusedVariables false
set_option linter.unusedSimpArgs false
def verdererref27_Find.l0 : Nat → ByteArray → ByteArray → List (S45) → Int → Option (ByteArray × ByteArray × Int × Int × Bool)
  | 0,_,_,_,_ => none
  | k + 1,x0,x1,x2,x8 => if x8 < (x2.length : Int) then (if 0 ≤ x8 then (if ((rd_T45 x2 x8).f0).toList = x0.toList then (if ((rd_T45 x2 x8).f1).toList = x1.toList then (some ((rd_T45 x2 x8).f0,(rd_T45 x2 x8).f1,(rd_T45 x2 x8).f2,(rd_T45 x2 x8).f3,true)) else (verdererref27_Find.l0 k x0 x1 x2 (wrap64 (x8 + 1)))) else (verdererref27_Find.l0 k x0 x1 x2 (wrap64 (x8 + 1)))) else (none)) else (some ((⟨#[]⟩ : ByteArray),(⟨#[]⟩ : ByteArray),0,0,false))
def verdererref27_Find.f (k : Nat) (a0 : ByteArray) (a1 : ByteArray) (l2 : List (S45)) : Option (ByteArray × ByteArray × Int × Int × Bool) := verdererref27_Find.l0 k a0 a1 l2 0
theorem verdererref27_Find.mono_l : ∀ k,(∀ y0 y1 y2 y3,LeO (verdererref27_Find.l0 k y0 y1 y2 y3) (verdererref27_Find.l0 (k + 1) y0 y1 y2 y3))
  | 0 => fun _ _ _ _ r h => by simp [verdererref27_Find.l0] at h
  | k + 1 => by
    have ih0 := verdererref27_Find.mono_l k
    · intro y0 y1 y2 y3
      unfold verdererref27_Find.l0
      repeat' first
      | (with_reducible exact ih0 _ _ _ _)
      | (with_reducible exact LeO.refl _)
      | (with_reducible exact LeO.none _)
      | (with_reducible refine LeO.ite ?_ ?_)
      | (with_reducible refine LeO.bind ?_ (fun _ => ?_))
      | exact ih0 _ _ _ _
      | exact LeO.none _
      | refine LeO.ite ?_ ?_
      | refine LeO.bind ?_ (fun _ => ?_)
theorem verdererref27_Find.mono : ∀ a0 a1 a2 k,LeO (verdererref27_Find.f k a0 a1 a2) (verdererref27_Find.f (k + 1) a0 a1 a2) := by
  intro a0 a1 a2 k
  have ih0 := verdererref27_Find.mono_l k
  unfold verdererref27_Find.f
  repeat' first
      | (with_reducible exact ih0 _ _ _ _)
      | (with_reducible exact LeO.refl _)
      | (with_reducible exact LeO.none _)
      | (with_reducible refine LeO.ite ?_ ?_)
      | (with_reducible refine LeO.bind ?_ (fun _ => ?_))
      | exact ih0 _ _ _ _
      | exact LeO.none _
      | refine LeO.ite ?_ ?_
      | refine LeO.bind ?_ (fun _ => ?_)
set_option maxHeartbeats 8000000 in
set_option maxRecDepth 100000 in
theorem verdererref27_Find.calls (k : Nat) (a0 : ByteArray) (a1 : ByteArray) (A2 : Option Addr) (c2 : Nat) (l2 : List (S45)) (r1 : ByteArray) (r2 : ByteArray) (r3 : Int) (r4 : Int) (r5 : Bool) (w : World) (hr2 : Kd.C k45 w A2 l2.length l2) (hc2 : l2.length ≤ c2) (h : verdererref27_Find.f k a0 a1 l2 = some (r1,r2,r3,r4,r5)) :
    Calls Try.prog 53 #[.string a0,.string a1,.slice A2 l2.length c2] w fun e w' => e = .returned (.tuple #[.agg #[.string r1,.string r2,.int .i64 r3,.int .i64 r4],.bool r5]) ∧ Below w.heap.size w w' := by
  have hu45 := Try.underlying45
  have HR2 := Aside0.mk hr2
  have HC2 := Aside0.mk hc2
  clear hr2 hc2
  have HB := Aside0.mk (Below.refl w.heap.size w)
  have H : (verdererref27_Find.l0 k a0 a1 l2 0) = some (r1,r2,r3,r4,r5) := h
  clear h
  have H' := Aside0.mk H
  clear H
  go_enter Try.func53,Try.ntmps53
  go_wp2_with (first | ((with_reducible refine gate_dst (N := 6) rfl ?_);refine box_event ?hg (N := 6) ?hd (cs := #[.string (⟨#[]⟩ : ByteArray),.string (⟨#[]⟩ : ByteArray),.int .i64 0,.int .i64 0]) (t := 45) ?hr ?_;(case hd => rfl);(case hg => rfl);(case hr => first | (go_simp;done) | (go_simp;rfl));intro gb314 hg w4 hbox hb;have n0_ := Aside0.mk (below_step (by repeat (first | (with_reducible first | exact HB.out | apply below_alloc | apply pw_below_drewN | apply below_drew1) | exact HB.out)) hb);have n1_ := Aside0.mk (hbox);have n2_ := Aside0.mk ((by rw [hg];exact (below_size (by repeat (first | (with_reducible first | exact HB.out | apply below_alloc | apply pw_below_drewN | apply below_drew1) | exact HB.out))) : w.heap.size ≤ gb314));have n3_ := Aside0.mk ((by rw [hg];exact (below_size (by repeat (first | (with_reducible first | exact HB.out | apply below_alloc | apply pw_below_drewN | apply below_drew1) | exact HB.out))) : w.heap.size ≤ gb314));clear HB;have HB := n0_;have BK314 := n1_;have GW314 := n2_;have GE314 := n3_;clear n0_ n1_ n2_ n3_;clear hb hbox hg))
  go_loopg [8] k (fun kq v8 w' => ∃ (x8_1 : Int) (x315000_1 : ByteArray) (x315001_1 : ByteArray) (x315002_1 : Int) (x315003_1 : Int),v8 = .int .i64 x8_1 ∧ Aside0 (verdererref27_Find.l0 kq a0 a1 l2 x8_1 = some (r1,r2,r3,r4,r5)) ∧ Aside0 (kq ≤ k) ∧ Aside0 (w'.heap[gb314]? = some (.cells #[.string x315000_1,.string x315001_1,.int .i64 x315002_1,.int .i64 x315003_1] 45 (0,0))) ∧ Aside0 (Below w.heap.size w w'))
  case atStart => exact ⟨(0),((⟨#[]⟩ : ByteArray)),((⟨#[]⟩ : ByteArray)),(0),(0),(by first | rfl | (simp;done) | (simp [*];done)),H',⟨Nat.le_refl _⟩,⟨by (with_reducible repeat (first | refine blk_drewN ?_ _ | refine blk_drew ?_ | refine blk_alloc ?_ _));exact BK314.out⟩,⟨by repeat (first | (with_reducible first | exact HB.out | apply below_alloc | apply pw_below_drewN | apply below_drew1 | refine below_set ?_ GE314.out) | exact HB.out)⟩⟩
  case round =>
    clear H'
    try clear c2
    try clear p2
    obtain ⟨x8_1,x315000_1,x315001_1,x315002_1,x315003_1,rfl,HA,HK1,BK314,HB⟩ := hrel
    cases gk with
    | zero => exact absurd HA.out (by simp [verdererref27_Find.l0])
    | succ k1 =>
      have H := HA.out
      clear HA
      simp only [verdererref27_Find.l0] at H
      by_cases c5 : x8_1 < (l2.length : Int)
      · rw [if_pos c5] at H
        have c5b0 : decide (x8_1 < (l2.length : Int)) = true := decide_eq_true c5
        clear c5
        by_cases c6 : 0 ≤ x8_1
        · rw [if_pos c6] at H
          have c6b0 : decide (0 ≤ x8_1) = true := decide_eq_true c6
          clear c6
          by_cases c7 : ((rd_T45 l2 x8_1).f0).toList = a0.toList
          · rw [if_pos c7] at H
            have c7b0 : (((rd_T45 l2 x8_1).f0).toList == a0.toList) = true := beq_iff_eq.mpr c7
            have c7b1 : (((rd_T45 l2 x8_1).f0).toList != a0.toList) = false := bne_eq_false_iff_eq.mpr c7
            clear c7
            by_cases c8 : ((rd_T45 l2 x8_1).f1).toList = a1.toList
            · rw [if_pos c8] at H
              have c8b0 : (((rd_T45 l2 x8_1).f1).toList == a1.toList) = true := beq_iff_eq.mpr c8
              have c8b1 : (((rd_T45 l2 x8_1).f1).toList != a1.toList) = false := bne_eq_false_iff_eq.mpr c8
              clear c8
              simp only [Option.some.injEq,Prod.mk.injEq] at H
              obtain ⟨rfl,rfl,rfl,rfl,rfl⟩ := H
              have p315 : 0 ≤ (x8_1 : Int) := of_decide_eq_true (by first | (with_reducible assumption) | assumption)
              have q315 : x8_1 < (l2.length : Int) := of_decide_eq_true (by first | (with_reducible assumption) | assumption)
              obtain ⟨ad315,e315,hx315_0,hx315_1,hx315_2,hx315_3⟩ := at_T45 HR2.out x8_1 p315 q315
              cases e315
              replace hx315_0 := (HB.out.cell (World.block_lt_of_cell? w _ hx315_0)).trans hx315_0
              replace hx315_1 := (HB.out.cell (World.block_lt_of_cell? w _ hx315_1)).trans hx315_1
              replace hx315_2 := (HB.out.cell (World.block_lt_of_cell? w _ hx315_2)).trans hx315_2
              replace hx315_3 := (HB.out.cell (World.block_lt_of_cell? w _ hx315_3)).trans hx315_3
              replace p315 := eq_true p315
              replace q315 := eq_true q315
              have p316 : 0 ≤ (x8_1 : Int) := of_decide_eq_true (by first | (with_reducible assumption) | assumption)
              have q316 : x8_1 < (l2.length : Int) := of_decide_eq_true (by first | (with_reducible assumption) | assumption)
              obtain ⟨ad316,e316,hx316_0,hx316_1,hx316_2,hx316_3⟩ := at_T45 HR2.out x8_1 p316 q316
              obtain rfl : ad315 = ad316 := (by injection e316)
              replace hx316_0 := (HB.out.cell (World.block_lt_of_cell? w _ hx316_0)).trans hx316_0
              replace hx316_1 := (HB.out.cell (World.block_lt_of_cell? w _ hx316_1)).trans hx316_1
              replace hx316_2 := (HB.out.cell (World.block_lt_of_cell? w _ hx316_2)).trans hx316_2
              replace hx316_3 := (HB.out.cell (World.block_lt_of_cell? w _ hx316_3)).trans hx316_3
              replace p316 := eq_true p316
              replace q316 := eq_true q316
              have p317 : 0 ≤ (x8_1 : Int) := of_decide_eq_true (by first | (with_reducible assumption) | assumption)
              have q317 : x8_1 < (l2.length : Int) := of_decide_eq_true (by first | (with_reducible assumption) | assumption)
              obtain ⟨ad317,e317,hx317_0,hx317_1,hx317_2,hx317_3⟩ := at_T45 HR2.out x8_1 p317 q317
              obtain rfl : ad315 = ad317 := (by injection e317)
              replace hx317_0 := (HB.out.cell (World.block_lt_of_cell? w _ hx317_0)).trans hx317_0
              replace hx317_1 := (HB.out.cell (World.block_lt_of_cell? w _ hx317_1)).trans hx317_1
              replace hx317_2 := (HB.out.cell (World.block_lt_of_cell? w _ hx317_2)).trans hx317_2
              replace hx317_3 := (HB.out.cell (World.block_lt_of_cell? w _ hx317_3)).trans hx317_3
              replace p317 := eq_true p317
              replace q317 := eq_true q317
              have hcz9_0 : wr.cell? ⟨gb314,0,none⟩ = some (.string x315000_1) := (blk_cell BK314.out 0).trans rfl
              have hcz9_1 : wr.cell? ⟨gb314,1,none⟩ = some (.string x315001_1) := (blk_cell BK314.out 1).trans rfl
              have hcz9_2 : wr.cell? ⟨gb314,2,none⟩ = some (.int .i64 x315002_1) := (blk_cell BK314.out 2).trans rfl
              have hcz9_3 : wr.cell? ⟨gb314,3,none⟩ = some (.int .i64 x315003_1) := (blk_cell BK314.out 3).trans rfl
              have hfz9_0 := blk_frozen BK314.out 0
              have hfz9_1 := blk_frozen BK314.out 1
              have hfz9_2 := blk_frozen BK314.out 2
              have hfz9_3 := blk_frozen BK314.out 3
              go_wp2
              refine bodyPost_ret (results_ct rfl _ _ gb314 45 #[.string ((rd_T45 l2 x8_1).f0),.string ((rd_T45 l2 x8_1).f1),.int .i64 ((rd_T45 l2 x8_1).f2),.int .i64 ((rd_T45 l2 x8_1).f3)] (0,0) _ rfl (by (with_reducible repeat (first | refine blk_drewN ?_ _ | refine blk_drew ?_ | refine blk_alloc ?_ _));refine blk_put (cs := #[.string ((rd_T45 l2 x8_1).f0),.string ((rd_T45 l2 x8_1).f1),.int .i64 ((rd_T45 l2 x8_1).f2),.int .i64 x315003_1]) ?_ 3 _ rfl;(with_reducible repeat (first | refine blk_drewN ?_ _ | refine blk_drew ?_ | refine blk_alloc ?_ _));refine blk_put (cs := #[.string ((rd_T45 l2 x8_1).f0),.string ((rd_T45 l2 x8_1).f1),.int .i64 x315002_1,.int .i64 x315003_1]) ?_ 2 _ rfl;(with_reducible repeat (first | refine blk_drewN ?_ _ | refine blk_drew ?_ | refine blk_alloc ?_ _));refine blk_put (cs := #[.string ((rd_T45 l2 x8_1).f0),.string x315001_1,.int .i64 x315002_1,.int .i64 x315003_1]) ?_ 1 _ rfl;(with_reducible repeat (first | refine blk_drewN ?_ _ | refine blk_drew ?_ | refine blk_alloc ?_ _));refine blk_put (cs := #[.string x315000_1,.string x315001_1,.int .i64 x315002_1,.int .i64 x315003_1]) ?_ 0 _ rfl;(with_reducible repeat (first | refine blk_drewN ?_ _ | refine blk_drew ?_ | refine blk_alloc ?_ _));exact BK314.out) Try.underlying45 rfl (by kernel_rfl)) rfl ?_
              exact ⟨by first | rfl | (simp [errW_none,errW_some] <;> rfl) | (simp [*,errW_none,errW_some] <;> rfl),by repeat (first | (with_reducible first | exact HB.out | apply below_alloc | apply pw_below_drewN | apply below_drew1 | refine below_set ?_ GE314.out) | exact HB.out)⟩
            · rw [if_neg c8] at H
              have c8b0 : (((rd_T45 l2 x8_1).f1).toList == a1.toList) = false := beq_eq_false_iff_ne.mpr c8
              have c8b1 : (((rd_T45 l2 x8_1).f1).toList != a1.toList) = true := bne_iff_ne.mpr c8
              have H' := Aside0.mk H
              clear H
              have p315 : 0 ≤ (x8_1 : Int) := of_decide_eq_true (by first | (with_reducible assumption) | assumption)
              have q315 : x8_1 < (l2.length : Int) := of_decide_eq_true (by first | (with_reducible assumption) | assumption)
              obtain ⟨ad315,e315,hx315_0,hx315_1,hx315_2,hx315_3⟩ := at_T45 HR2.out x8_1 p315 q315
              cases e315
              replace hx315_0 := (HB.out.cell (World.block_lt_of_cell? w _ hx315_0)).trans hx315_0
              replace hx315_1 := (HB.out.cell (World.block_lt_of_cell? w _ hx315_1)).trans hx315_1
              replace hx315_2 := (HB.out.cell (World.block_lt_of_cell? w _ hx315_2)).trans hx315_2
              replace hx315_3 := (HB.out.cell (World.block_lt_of_cell? w _ hx315_3)).trans hx315_3
              replace p315 := eq_true p315
              replace q315 := eq_true q315
              have p316 : 0 ≤ (x8_1 : Int) := of_decide_eq_true (by first | (with_reducible assumption) | assumption)
              have q316 : x8_1 < (l2.length : Int) := of_decide_eq_true (by first | (with_reducible assumption) | assumption)
              obtain ⟨ad316,e316,hx316_0,hx316_1,hx316_2,hx316_3⟩ := at_T45 HR2.out x8_1 p316 q316
              obtain rfl : ad315 = ad316 := (by injection e316)
              replace hx316_0 := (HB.out.cell (World.block_lt_of_cell? w _ hx316_0)).trans hx316_0
              replace hx316_1 := (HB.out.cell (World.block_lt_of_cell? w _ hx316_1)).trans hx316_1
              replace hx316_2 := (HB.out.cell (World.block_lt_of_cell? w _ hx316_2)).trans hx316_2
              replace hx316_3 := (HB.out.cell (World.block_lt_of_cell? w _ hx316_3)).trans hx316_3
              replace p316 := eq_true p316
              replace q316 := eq_true q316
              go_wp2
              go_roundg k1
              case measure => have := HK1.out;omega
              case rel => exact ⟨(wrap64 (x8_1 + 1)),(x315000_1),(x315001_1),(x315002_1),(x315003_1),(by first | rfl | (simp;done) | (simp [*];done)),H',⟨by have := HK1.out;omega⟩,⟨by (with_reducible repeat (first | refine blk_drewN ?_ _ | refine blk_drew ?_ | refine blk_alloc ?_ _));exact BK314.out⟩,⟨by repeat (first | (with_reducible first | exact HB.out | apply below_alloc | apply pw_below_drewN | apply below_drew1 | refine below_set ?_ GE314.out) | exact HB.out)⟩⟩
          · rw [if_neg c7] at H
            have c7b0 : (((rd_T45 l2 x8_1).f0).toList == a0.toList) = false := beq_eq_false_iff_ne.mpr c7
            have c7b1 : (((rd_T45 l2 x8_1).f0).toList != a0.toList) = true := bne_iff_ne.mpr c7
            have H' := Aside0.mk H
            clear H
            have p315 : 0 ≤ (x8_1 : Int) := of_decide_eq_true (by first | (with_reducible assumption) | assumption)
            have q315 : x8_1 < (l2.length : Int) := of_decide_eq_true (by first | (with_reducible assumption) | assumption)
            obtain ⟨ad315,e315,hx315_0,hx315_1,hx315_2,hx315_3⟩ := at_T45 HR2.out x8_1 p315 q315
            cases e315
            replace hx315_0 := (HB.out.cell (World.block_lt_of_cell? w _ hx315_0)).trans hx315_0
            replace hx315_1 := (HB.out.cell (World.block_lt_of_cell? w _ hx315_1)).trans hx315_1
            replace hx315_2 := (HB.out.cell (World.block_lt_of_cell? w _ hx315_2)).trans hx315_2
            replace hx315_3 := (HB.out.cell (World.block_lt_of_cell? w _ hx315_3)).trans hx315_3
            replace p315 := eq_true p315
            replace q315 := eq_true q315
            go_wp2
            go_roundg k1
            case measure => have := HK1.out;omega
            case rel => exact ⟨(wrap64 (x8_1 + 1)),(x315000_1),(x315001_1),(x315002_1),(x315003_1),(by first | rfl | (simp;done) | (simp [*];done)),H',⟨by have := HK1.out;omega⟩,⟨by (with_reducible repeat (first | refine blk_drewN ?_ _ | refine blk_drew ?_ | refine blk_alloc ?_ _));exact BK314.out⟩,⟨by repeat (first | (with_reducible first | exact HB.out | apply below_alloc | apply pw_below_drewN | apply below_drew1 | refine below_set ?_ GE314.out) | exact HB.out)⟩⟩
        · rw [if_neg c6] at H
          exact absurd H (by simp)
      · rw [if_neg c5] at H
        have c5b0 : decide (x8_1 < (l2.length : Int)) = false := decide_eq_false c5
        clear c5
        simp only [Option.some.injEq,Prod.mk.injEq] at H
        obtain ⟨rfl,rfl,rfl,rfl,rfl⟩ := H
        have hcz10_0 : wr.cell? ⟨gb314,0,none⟩ = some (.string x315000_1) := (blk_cell BK314.out 0).trans rfl
        have hcz10_1 : wr.cell? ⟨gb314,1,none⟩ = some (.string x315001_1) := (blk_cell BK314.out 1).trans rfl
        have hcz10_2 : wr.cell? ⟨gb314,2,none⟩ = some (.int .i64 x315002_1) := (blk_cell BK314.out 2).trans rfl
        have hcz10_3 : wr.cell? ⟨gb314,3,none⟩ = some (.int .i64 x315003_1) := (blk_cell BK314.out 3).trans rfl
        have hfz10_0 := blk_frozen BK314.out 0
        have hfz10_1 := blk_frozen BK314.out 1
        have hfz10_2 := blk_frozen BK314.out 2
        have hfz10_3 := blk_frozen BK314.out 3
        go_wp2
        refine bodyPost_ret (results_ct rfl _ _ gb314 45 #[.string (⟨#[]⟩ : ByteArray),.string (⟨#[]⟩ : ByteArray),.int .i64 0,.int .i64 0] (0,0) _ rfl (by (with_reducible repeat (first | refine blk_drewN ?_ _ | refine blk_drew ?_ | refine blk_alloc ?_ _));refine blk_put (cs := #[.string (⟨#[]⟩ : ByteArray),.string (⟨#[]⟩ : ByteArray),.int .i64 0,.int .i64 x315003_1]) ?_ 3 _ rfl;(with_reducible repeat (first | refine blk_drewN ?_ _ | refine blk_drew ?_ | refine blk_alloc ?_ _));refine blk_put (cs := #[.string (⟨#[]⟩ : ByteArray),.string (⟨#[]⟩ : ByteArray),.int .i64 x315002_1,.int .i64 x315003_1]) ?_ 2 _ rfl;(with_reducible repeat (first | refine blk_drewN ?_ _ | refine blk_drew ?_ | refine blk_alloc ?_ _));refine blk_put (cs := #[.string (⟨#[]⟩ : ByteArray),.string x315001_1,.int .i64 x315002_1,.int .i64 x315003_1]) ?_ 1 _ rfl;(with_reducible repeat (first | refine blk_drewN ?_ _ | refine blk_drew ?_ | refine blk_alloc ?_ _));refine blk_put (cs := #[.string x315000_1,.string x315001_1,.int .i64 x315002_1,.int .i64 x315003_1]) ?_ 0 _ rfl;(with_reducible repeat (first | refine blk_drewN ?_ _ | refine blk_drew ?_ | refine blk_alloc ?_ _));exact BK314.out) Try.underlying45 rfl (by kernel_rfl)) rfl ?_
        exact ⟨by first | rfl | (simp [errW_none,errW_some] <;> rfl) | (simp [*,errW_none,errW_some] <;> rfl),by repeat (first | (with_reducible first | exact HB.out | apply below_alloc | apply pw_below_drewN | apply below_drew1 | refine below_set ?_ GE314.out) | exact HB.out)⟩
end Go.Proofs.Ytcenlehfbgnphaa.Z
end
