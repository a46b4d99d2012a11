/- Parts of the proof of QuotaKeeps: what its functions answer. -/
import Derived.Test.YtcenlehfbgnphaaMQuotaKeepsa
import Derived.RegionTactic
import Derived.BigRegion
import Derived.Deep.QuietTactic
import Derived.BigQuiet
import Derived.ChangeAlike
import Derived.Laws.Bits64
import Derived.Laws.BitsLemmas
import Derived.ChangeKeysEq
import Derived.Outline
section
namespace Go.Proofs.Ytcenlehfbgnphaa.Z
open Go.RowKit Go.Proofs.YtcenlehfbgnphaaW.PrintWords Go.Proofs.YtcenlehfbgnphaaW.PrintLast Go.Proofs.YtcenlehfbgnphaaW.PrintMore
attribute [local go_sem] max2_int min2_int max_two min_two max_three min_three max_four min_four
set_option linter.unusedVariables false
set_option linter.unusedSimpArgs false
def quota_Judge.l0 : Nat → List (S45) → List (S45) → Int → Int → Option (ByteArray × ByteArray × Int × Int × Int)
  | 0,_,_,_,_ => none
  | k + 1,x0,x11,x12,x13 => if x13 < x12 then (if 0 ≤ x13 then (if x13 < (x11.length : Int) then ((usage_Find.f ((rd_T45 x11 x13).f0) ((rd_T45 x11 x13).f1) x0).bind fun bt235 => (if bt235.2.2.2.2 = true then (if bt235.2.2.1 ≤ ((rd_T45 x11 x13).f3) then (some ((rd_T45 x11 x13).f0,(rd_T45 x11 x13).f1,(rd_T45 x11 x13).f2,(rd_T45 x11 x13).f3,16)) else (if bt235.2.2.1 < ((rd_T45 x11 x13).f2) then (some ((rd_T45 x11 x13).f0,(rd_T45 x11 x13).f1,(rd_T45 x11 x13).f2,(rd_T45 x11 x13).f3,16)) else (quota_Judge.l0 k x0 x11 x12 (wrap64 (x13 + 1))))) else (some ((rd_T45 x11 x13).f0,(rd_T45 x11 x13).f1,(rd_T45 x11 x13).f2,(rd_T45 x11 x13).f3,16)))) else (none)) else (none)) else (some ((⟨#[]⟩ : ByteArray),(⟨#[]⟩ : ByteArray),0,0,0))
def quota_Judge.f (k : Nat) (l0 : List (S45)) (l1 : List (S45)) : Option (ByteArray × ByteArray × Int × Int × Int) := (quota_Over.f k l1).bind fun t230 => (quota_Judge.l0 k l0 t230 (t230.length : Int) 0)
theorem quota_Judge.mono_l : ∀ k,(∀ y0 y1 y2 y3,LeO (quota_Judge.l0 k y0 y1 y2 y3) (quota_Judge.l0 (k + 1) y0 y1 y2 y3))
  | 0 => fun _ _ _ _ r h => by simp [quota_Judge.l0] at h
  | k + 1 => by
    have ih0 := quota_Judge.mono_l k
    · intro y0 y1 y2 y3
      unfold quota_Judge.l0
      repeat' first
      | (with_reducible exact ih0 _ _ _ _)
      | (with_reducible exact quota_Over.mono _ _)
      | (with_reducible exact LeO.refl _)
      | (with_reducible exact LeO.none _)
      | (with_reducible refine LeO.ite ?_ ?_)
      | (with_reducible refine LeO.bind ?_ (fun _ => ?_))
      | exact ih0 _ _ _ _
      | exact quota_Over.mono _ _
      | exact LeO.none _
      | refine LeO.ite ?_ ?_
      | refine LeO.bind ?_ (fun _ => ?_)
theorem quota_Judge.mono : ∀ a0 a1 k,LeO (quota_Judge.f k a0 a1) (quota_Judge.f (k + 1) a0 a1) := by
  intro a0 a1 k
  have ih0 := quota_Judge.mono_l k
  unfold quota_Judge.f
  repeat' first
      | (with_reducible exact ih0 _ _ _ _)
      | (with_reducible exact quota_Over.mono _ _)
      | (with_reducible exact LeO.refl _)
      | (with_reducible exact LeO.none _)
      | (with_reducible refine LeO.ite ?_ ?_)
      | (with_reducible refine LeO.bind ?_ (fun _ => ?_))
      | exact ih0 _ _ _ _
      | exact quota_Over.mono _ _
      | exact LeO.none _
      | refine LeO.ite ?_ ?_
      | refine LeO.bind ?_ (fun _ => ?_)
set_option maxHeartbeats 8000000 in
set_option maxRecDepth 100000 in
theorem quota_Judge.calls (k : Nat) (A0 : Option Addr) (c0 : Nat) (l0 : List (S45)) (A1 : Option Addr) (c1 : Nat) (l1 : List (S45)) (r1 : ByteArray) (r2 : ByteArray) (r3 : Int) (r4 : Int) (r5 : Int) (w : World) (hr0 : Kd.C k45 w A0 l0.length l0) (hc0 : l0.length ≤ c0) (hr1 : Kd.C k45 w A1 l1.length l1) (hc1 : l1.length ≤ c1) (h : quota_Judge.f k l0 l1 = some (r1,r2,r3,r4,r5)) :
    Calls Try.prog 45 #[.slice A0 l0.length c0,.slice A1 l1.length c1] w fun e w' => e = .returned (.tuple #[.agg #[.string r1,.string r2,.int .i64 r3,.int .i64 r4],.int .i64 r5]) ∧ Below w.heap.size w w' := by
  have hu45 := Try.underlying45
  have HR0 := Aside0.mk hr0
  have HC0 := Aside0.mk hc0
  clear hr0 hc0
  have HR1 := Aside0.mk hr1
  have HC1 := Aside0.mk hc1
  clear hr1 hc1
  have HB := Aside0.mk (Below.refl w.heap.size w)
  have H : ((quota_Over.f k l1).bind fun t230 => (quota_Judge.l0 k l0 t230 (t230.length : Int) 0)) = some (r1,r2,r3,r4,r5) := h
  clear h
  replace H := Option.bind_eq_some_iff.mp H
  obtain ⟨t230,A30,H⟩ := H
  replace H : (quota_Judge.l0 k l0 t230 (t230.length : Int) 0) = some (r1,r2,r3,r4,r5) := H
  have A3 := Aside0.mk A30
  clear A30
  have H' := Aside0.mk H
  clear H
  go_enter Try.func45,Try.ntmps45
  go_wp2_with (first | ((with_reducible refine gate_dst (N := 4) rfl ?_);refine box_event ?hg (N := 4) ?hd (cs := #[.string (⟨#[]⟩ : ByteArray),.string (⟨#[]⟩ : ByteArray),.int .i64 0,.int .i64 0]) (t := 45) ?hr ?_;(case hd => rfl);(case hg => rfl);(case hr => first | (go_simp;done) | (go_simp;rfl));intro gb229 hg w4 hbox hb;have n0_ := Aside0.mk (below_step (by repeat (first | (with_reducible first | exact HB.out | apply below_alloc | apply pw_below_drewN | apply below_drew1) | exact HB.out)) hb);have n1_ := Aside0.mk (hbox);have n2_ := Aside0.mk ((by rw [hg];exact (below_size (by repeat (first | (with_reducible first | exact HB.out | apply below_alloc | apply pw_below_drewN | apply below_drew1) | exact HB.out))) : w.heap.size ≤ gb229));have n3_ := Aside0.mk ((by rw [hg];exact (below_size (by repeat (first | (with_reducible first | exact HB.out | apply below_alloc | apply pw_below_drewN | apply below_drew1) | exact HB.out))) : w.heap.size ≤ gb229));clear HB;have HB := n0_;have BK229 := n1_;have GW229 := n2_;have GE229 := n3_;clear n0_ n1_ n2_ n3_;clear hb hbox hg) | ((with_reducible refine gate_callee (f := 49) rfl ?_);refine goesL_ (some 11) rfl rfl Try.func49 (by kernel_rfl) rfl #[.slice A1 l1.length c1] rfl (by (try simp only [List.map_toArray,List.map_cons,List.map_nil]);first | done | rfl | (simp only [List.length_drop,List.length_take];rfl)) ?_;(with_reducible refine (quota_Over.calls k _ _ l1 t230 _ ?side1 ?side2 A3.out).mono ?_);(case side1 => repeat (first | exact (Kd.C_below HR1.out HB.out) | (with_reducible refine Kd.C_alloc ?_ _) | (with_reducible refine Kd.C_drewN ?_ _) | (with_reducible refine Kd.C_drew ?_)));(case side2 => exact HC1.out);rintro e w5 ⟨v231,rfl,ho0,hb⟩;refine ⟨_,rfl,?_⟩;have n0_ := Aside0.mk (Kd.R_lower (Kd.R_newB ho0 (g := gb229) (o := .cells #[.string (⟨#[]⟩ : ByteArray),.string (⟨#[]⟩ : ByteArray),.int .i64 0,.int .i64 0] 45 (0,0)) (by (with_reducible repeat (first | refine blk_drewN ?_ _ | refine blk_drew ?_ | refine blk_alloc ?_ _));exact BK229.out)) (below_size (by repeat (first | (with_reducible first | exact HB.out | apply below_alloc | apply pw_below_drewN | apply below_drew1 | refine below_set ?_ GE229.out) | exact HB.out))));have n1_ := Aside0.mk (blk_below (g := gb229) (o := .cells #[.string (⟨#[]⟩ : ByteArray),.string (⟨#[]⟩ : ByteArray),.int .i64 0,.int .i64 0] 45 (0,0)) (by (with_reducible repeat (first | refine blk_drewN ?_ _ | refine blk_drew ?_ | refine blk_alloc ?_ _));exact BK229.out) hb);have n2_ := Aside0.mk (below_step (by repeat (first | (with_reducible first | exact HB.out | apply below_alloc | apply pw_below_drewN | apply below_drew1 | refine below_set ?_ GE229.out) | exact HB.out)) hb);clear BK229;clear HB;have HO232 := n0_;have BK229 := n1_;have HB := n2_;clear n0_ n1_ n2_;(try clear hb);(try clear hb2);(try clear hk);(try clear hi);(try clear ho0);obtain ⟨Ao6,co6,eo6⟩ := Kd.R_slice HO232.out;subst eo6))
  go_loopg [13] k (fun kq v13 w' => ∃ (x13_1 : Int) (x230000_1 : ByteArray) (x230001_1 : ByteArray) (x230002_1 : Int) (x230003_1 : Int),v13 = .int .i64 x13_1 ∧ Aside0 (quota_Judge.l0 kq l0 t230 (t230.length : Int) x13_1 = some (r1,r2,r3,r4,r5)) ∧ Aside0 (kq ≤ k) ∧ Aside0 (Kd.R k45 45 w' w.heap.size (fun k_ => k_ ≠ gb229) (.slice Ao6 t230.length co6) t230) ∧ Aside0 (w'.heap[gb229]? = some (.cells #[.string x230000_1,.string x230001_1,.int .i64 x230002_1,.int .i64 x230003_1] 45 (0,0))) ∧ Aside0 (Below w.heap.size w w'))
  case atStart => exact ⟨(0),((⟨#[]⟩ : ByteArray)),((⟨#[]⟩ : ByteArray)),(0),(0),(by first | rfl | (simp;done) | (simp [*];done)),H',⟨Nat.le_refl _⟩,⟨by (with_reducible repeat (first | apply Kd.R_alloc | apply Kd.R_drewN | apply Kd.R_drew));exact Kd.R_mono HO232.out (fun _ hk => hk.2)⟩,⟨by (with_reducible repeat (first | refine blk_drewN ?_ _ | refine blk_drew ?_ | refine blk_alloc ?_ _));exact BK229.out⟩,⟨by repeat (first | (with_reducible first | exact HB.out | apply below_alloc | apply pw_below_drewN | apply below_drew1 | refine below_set ?_ GE229.out) | exact HB.out)⟩⟩
  case round =>
    clear H'
    try clear c1
    try clear p2
    try clear c4
    obtain ⟨x13_1,x230000_1,x230001_1,x230002_1,x230003_1,rfl,HA,HK1,HO_11,BK229,HB⟩ := hrel
    cases gk with
    | zero => exact absurd HA.out (by simp [quota_Judge.l0])
    | succ k1 =>
      have H := HA.out
      clear HA
      simp only [quota_Judge.l0] at H
      by_cases c7 : x13_1 < (t230.length : Int)
      · rw [if_pos c7] at H
        have c7b0 : decide (x13_1 < (t230.length : Int)) = true := decide_eq_true c7
        clear c7
        by_cases c8 : 0 ≤ x13_1
        · rw [if_pos c8] at H
          have c8b0 : decide (0 ≤ x13_1) = true := decide_eq_true c8
          clear c8
          by_cases c9 : x13_1 < (t230.length : Int)
          · rw [if_pos c9] at H
            have c9b0 : decide (x13_1 < (t230.length : Int)) = true := decide_eq_true c9
            clear c9
            replace H := Option.bind_eq_some_iff.mp H
            obtain ⟨⟨t235,t236,t237,t238,t239⟩,A100,H⟩ := H
            replace H : (if t239 = true then (if t237 ≤ ((rd_T45 t230 x13_1).f3) then (some ((rd_T45 t230 x13_1).f0,(rd_T45 t230 x13_1).f1,(rd_T45 t230 x13_1).f2,(rd_T45 t230 x13_1).f3,16)) else (if t237 < ((rd_T45 t230 x13_1).f2) then (some ((rd_T45 t230 x13_1).f0,(rd_T45 t230 x13_1).f1,(rd_T45 t230 x13_1).f2,(rd_T45 t230 x13_1).f3,16)) else (quota_Judge.l0 k1 l0 t230 (t230.length : Int) (wrap64 (x13_1 + 1))))) else (some ((rd_T45 t230 x13_1).f0,(rd_T45 t230 x13_1).f1,(rd_T45 t230 x13_1).f2,(rd_T45 t230 x13_1).f3,16))) = some (r1,r2,r3,r4,r5) := H
            have A10 := Aside0.mk A100
            clear A100
            by_cases c11 : t239 = true
            · subst c11
              have H1 : (if t237 ≤ ((rd_T45 t230 x13_1).f3) then (some ((rd_T45 t230 x13_1).f0,(rd_T45 t230 x13_1).f1,(rd_T45 t230 x13_1).f2,(rd_T45 t230 x13_1).f3,16)) else (if t237 < ((rd_T45 t230 x13_1).f2) then (some ((rd_T45 t230 x13_1).f0,(rd_T45 t230 x13_1).f1,(rd_T45 t230 x13_1).f2,(rd_T45 t230 x13_1).f3,16)) else (quota_Judge.l0 k1 l0 t230 (t230.length : Int) (wrap64 (x13_1 + 1))))) = some (r1,r2,r3,r4,r5) := by rw [if_pos rfl] at H;exact H
              clear H
              have H := H1
              clear H1
              by_cases c12 : t237 ≤ ((rd_T45 t230 x13_1).f3)
              · rw [if_pos c12] at H
                have c12b0 : decide (t237 ≤ ((rd_T45 t230 x13_1).f3)) = true := decide_eq_true c12
                clear c12
                simp only [Option.some.injEq,Prod.mk.injEq] at H
                obtain ⟨rfl,rfl,rfl,rfl,rfl⟩ := H
                have p233 : 0 ≤ (x13_1 : Int) := of_decide_eq_true (by first | (with_reducible assumption) | assumption)
                have q233 : x13_1 < (t230.length : Int) := of_decide_eq_true (by first | (with_reducible assumption) | assumption)
                obtain ⟨ad233,e233,hx233_0,hx233_1,hx233_2,hx233_3⟩ := at_T45 (Kd.R_reads' HO_11.out).2.2 x13_1 p233 q233
                cases e233
                replace p233 := eq_true p233
                replace q233 := eq_true q233
                go_wp2_with (first | ((with_reducible refine gate_dst (N := 7) rfl ?_);refine box_event ?hg (N := 7) ?hd (cs := #[.string (⟨#[]⟩ : ByteArray),.string (⟨#[]⟩ : ByteArray),.int .i64 0,.int .i64 0]) (t := 45) ?hr ?_;(case hd => rfl);(case hg => rfl);(case hr => first | (go_simp;done) | (go_simp;rfl));intro gb234 hg w13 hbox hb;have n0_ := Aside0.mk (Kd.R_below (Kd.R_elderB (by (with_reducible repeat (first | apply Kd.R_alloc | apply Kd.R_drewN | apply Kd.R_drew));exact HO_11.out) gb234 (Nat.le_of_eq hg.symm)) hb);have n1_ := Aside0.mk (blk_below (g := gb229) (o := .cells #[.string x230000_1,.string x230001_1,.int .i64 x230002_1,.int .i64 x230003_1] 45 (0,0)) (by (with_reducible repeat (first | refine blk_drewN ?_ _ | refine blk_drew ?_ | refine blk_alloc ?_ _));exact BK229.out) hb);have n2_ := Aside0.mk (below_step (by repeat (first | (with_reducible first | exact HB.out | apply below_alloc | apply pw_below_drewN | apply below_drew1 | refine below_set ?_ GE229.out) | exact HB.out)) hb);have n3_ := Aside0.mk (hbox);have n4_ := Aside0.mk ((by rw [hg];exact (below_size (by repeat (first | (with_reducible first | exact HB.out | apply below_alloc | apply pw_below_drewN | apply below_drew1 | refine below_set ?_ GE229.out) | exact HB.out))) : w.heap.size ≤ gb234));have n5_ := Aside0.mk ((by rw [hg];exact (below_size (by repeat (first | (with_reducible first | exact HB.out | apply below_alloc | apply pw_below_drewN | apply below_drew1 | refine below_set ?_ GE229.out) | exact HB.out))) : w.heap.size ≤ gb234));have n6_ := Aside0.mk ((by rw [hg];exact Nat.ne_of_lt (blk_lt (g := gb229) (o := .cells #[.string x230000_1,.string x230001_1,.int .i64 x230002_1,.int .i64 x230003_1] 45 (0,0)) (by (with_reducible repeat (first | refine blk_drewN ?_ _ | refine blk_drew ?_ | refine blk_alloc ?_ _));exact BK229.out)) : gb229 ≠ gb234));have n7_ := Aside0.mk ((by rw [hg];exact Nat.ne_of_gt (blk_lt (g := gb229) (o := .cells #[.string x230000_1,.string x230001_1,.int .i64 x230002_1,.int .i64 x230003_1] 45 (0,0)) (by (with_reducible repeat (first | refine blk_drewN ?_ _ | refine blk_drew ?_ | refine blk_alloc ?_ _));exact BK229.out)) : gb234 ≠ gb229));clear HO_11;clear BK229;clear HB;have HO_11 := n0_;have BK229 := n1_;have HB := n2_;have BK234 := n3_;have GW234 := n4_;have GE234 := n5_;have NB229_234 := n6_;have NB234_229 := n7_;clear n0_ n1_ n2_ n3_ n4_ n5_ n6_ n7_;clear hb hbox hg;have hnb14 := NB234_229.out;have hnc14 := NB229_234.out;have hcz15_0 : w13.cell? ⟨gb234,0,none⟩ = some (.string (⟨#[]⟩ : ByteArray)) := (blk_cell BK234.out 0).trans rfl;have hcz15_1 : w13.cell? ⟨gb234,1,none⟩ = some (.string (⟨#[]⟩ : ByteArray)) := (blk_cell BK234.out 1).trans rfl;have hcz15_2 : w13.cell? ⟨gb234,2,none⟩ = some (.int .i64 0) := (blk_cell BK234.out 2).trans rfl;have hcz15_3 : w13.cell? ⟨gb234,3,none⟩ = some (.int .i64 0) := (blk_cell BK234.out 3).trans rfl;have hfz15_0 := blk_frozen BK234.out 0;have hfz15_1 := blk_frozen BK234.out 1;have hfz15_2 := blk_frozen BK234.out 2;have hfz15_3 := blk_frozen BK234.out 3) | ((with_reducible refine gate_callee (f := 55) rfl ?_);refine goesL_ (some 23) rfl rfl Try.func55 (by kernel_rfl) rfl #[.string ((rd_T45 t230 x13_1).f0),.string ((rd_T45 t230 x13_1).f1),.slice A0 l0.length c0] rfl (by (try simp only [List.map_toArray,List.map_cons,List.map_nil]);first | done | rfl | (simp only [List.length_drop,List.length_take];rfl)) ?_;(with_reducible refine (usage_Find.calls ((rd_T45 t230 x13_1).f0) ((rd_T45 t230 x13_1).f1) _ _ l0 t235 t236 t237 t238 true _ ?side1 ?side2 A10.out).mono ?_);(case side1 => exact Kd.C_below HR0.out (by repeat (first | (with_reducible first | exact HB.out | apply below_alloc | apply pw_below_drewN | apply below_drew1 | refine below_set ?_ GE229.out | refine below_set ?_ GE234.out) | exact HB.out)));(case side2 => exact HC0.out);rintro e w16 ⟨rfl,hb⟩;refine ⟨_,rfl,?_⟩;have n0_ := Aside0.mk (Kd.R_below (by (with_reducible repeat (first | apply Kd.R_alloc | apply Kd.R_drewN | apply Kd.R_drew));exact (Kd.R_mono (Kd.R_far (p := ⟨gb234,3,none⟩) (Kd.R_far (p := ⟨gb234,2,none⟩) (Kd.R_far (p := ⟨gb234,1,none⟩) (Kd.R_far (p := ⟨gb234,0,none⟩) (Kd.R_mono HO_11.out (fun k_ hk => (⟨hk,hk.2⟩ : _ ∧ k_ ≠ gb234))) (fun _ hk => hk.2) (.string ((rd_T45 t230 x13_1).f0))) (fun _ hk => hk.2) (.string ((rd_T45 t230 x13_1).f1))) (fun _ hk => hk.2) (.int .i64 ((rd_T45 t230 x13_1).f2))) (fun _ hk => hk.2) (.int .i64 ((rd_T45 t230 x13_1).f3))) (fun _ h_ => h_.1))) hb);have n1_ := Aside0.mk (blk_below (g := gb229) (o := .cells #[.string x230000_1,.string x230001_1,.int .i64 x230002_1,.int .i64 x230003_1] 45 (0,0)) (by (with_reducible repeat (first | refine blk_drewN ?_ _ | refine blk_drew ?_ | refine blk_alloc ?_ _));refine blk_far ?_ NB229_234.out _;(with_reducible repeat (first | refine blk_drewN ?_ _ | refine blk_drew ?_ | refine blk_alloc ?_ _));refine blk_far ?_ NB229_234.out _;(with_reducible repeat (first | refine blk_drewN ?_ _ | refine blk_drew ?_ | refine blk_alloc ?_ _));refine blk_far ?_ NB229_234.out _;(with_reducible repeat (first | refine blk_drewN ?_ _ | refine blk_drew ?_ | refine blk_alloc ?_ _));refine blk_far ?_ NB229_234.out _;(with_reducible repeat (first | refine blk_drewN ?_ _ | refine blk_drew ?_ | refine blk_alloc ?_ _));exact BK229.out) hb);have n2_ := Aside0.mk (blk_below (g := gb234) (o := .cells #[.string ((rd_T45 t230 x13_1).f0),.string ((rd_T45 t230 x13_1).f1),.int .i64 ((rd_T45 t230 x13_1).f2),.int .i64 ((rd_T45 t230 x13_1).f3)] 45 (0,0)) (by (with_reducible repeat (first | refine blk_drewN ?_ _ | refine blk_drew ?_ | refine blk_alloc ?_ _));refine blk_put (cs := #[.string ((rd_T45 t230 x13_1).f0),.string ((rd_T45 t230 x13_1).f1),.int .i64 ((rd_T45 t230 x13_1).f2),.int .i64 0]) ?_ 3 _ rfl;(with_reducible repeat (first | refine blk_drewN ?_ _ | refine blk_drew ?_ | refine blk_alloc ?_ _));refine blk_put (cs := #[.string ((rd_T45 t230 x13_1).f0),.string ((rd_T45 t230 x13_1).f1),.int .i64 0,.int .i64 0]) ?_ 2 _ rfl;(with_reducible repeat (first | refine blk_drewN ?_ _ | refine blk_drew ?_ | refine blk_alloc ?_ _));refine blk_put (cs := #[.string ((rd_T45 t230 x13_1).f0),.string (⟨#[]⟩ : ByteArray),.int .i64 0,.int .i64 0]) ?_ 1 _ rfl;(with_reducible repeat (first | refine blk_drewN ?_ _ | refine blk_drew ?_ | refine blk_alloc ?_ _));refine blk_put (cs := #[.string (⟨#[]⟩ : ByteArray),.string (⟨#[]⟩ : ByteArray),.int .i64 0,.int .i64 0]) ?_ 0 _ rfl;(with_reducible repeat (first | refine blk_drewN ?_ _ | refine blk_drew ?_ | refine blk_alloc ?_ _));exact BK234.out) hb);have n3_ := Aside0.mk (below_step (by repeat (first | (with_reducible first | exact HB.out | apply below_alloc | apply pw_below_drewN | apply below_drew1 | refine below_set ?_ GE229.out | refine below_set ?_ GE234.out) | exact HB.out)) hb);clear HO_11;clear BK229;clear BK234;clear HB;have HO_11 := n0_;have BK229 := n1_;have BK234 := n2_;have HB := n3_;clear n0_ n1_ n2_ n3_;(try clear hb);(try clear hb2);(try clear hk);(try clear hi)) | ((with_reducible refine gate_dst (N := 8) rfl ?_);refine box_event ?hg (N := 8) ?hd (cs := #[.string (⟨#[]⟩ : ByteArray),.string (⟨#[]⟩ : ByteArray),.int .i64 0,.int .i64 0]) (t := 45) ?hr ?_;(case hd => rfl);(case hg => rfl);(case hr => first | (go_simp;done) | (go_simp;rfl));intro gb240 hg w17 hbox hb;have n0_ := Aside0.mk (Kd.R_below (Kd.R_elderB (by (with_reducible repeat (first | apply Kd.R_alloc | apply Kd.R_drewN | apply Kd.R_drew));exact HO_11.out) gb240 (Nat.le_of_eq hg.symm)) hb);have n1_ := Aside0.mk (blk_below (g := gb229) (o := .cells #[.string x230000_1,.string x230001_1,.int .i64 x230002_1,.int .i64 x230003_1] 45 (0,0)) (by (with_reducible repeat (first | refine blk_drewN ?_ _ | refine blk_drew ?_ | refine blk_alloc ?_ _));exact BK229.out) hb);have n2_ := Aside0.mk (blk_below (g := gb234) (o := .cells #[.string ((rd_T45 t230 x13_1).f0),.string ((rd_T45 t230 x13_1).f1),.int .i64 ((rd_T45 t230 x13_1).f2),.int .i64 ((rd_T45 t230 x13_1).f3)] 45 (0,0)) (by (with_reducible repeat (first | refine blk_drewN ?_ _ | refine blk_drew ?_ | refine blk_alloc ?_ _));exact BK234.out) hb);have n3_ := Aside0.mk (below_step (by repeat (first | (with_reducible first | exact HB.out | apply below_alloc | apply pw_below_drewN | apply below_drew1 | refine below_set ?_ GE229.out | refine below_set ?_ GE234.out) | exact HB.out)) hb);have n4_ := Aside0.mk (hbox);have n5_ := Aside0.mk ((by rw [hg];exact (below_size (by repeat (first | (with_reducible first | exact HB.out | apply below_alloc | apply pw_below_drewN | apply below_drew1 | refine below_set ?_ GE229.out | refine below_set ?_ GE234.out) | exact HB.out))) : w.heap.size ≤ gb240));have n6_ := Aside0.mk ((by rw [hg];exact (below_size (by repeat (first | (with_reducible first | exact HB.out | apply below_alloc | apply pw_below_drewN | apply below_drew1 | refine below_set ?_ GE229.out | refine below_set ?_ GE234.out) | exact HB.out))) : w.heap.size ≤ gb240));have n7_ := Aside0.mk ((by rw [hg];exact Nat.ne_of_lt (blk_lt (g := gb229) (o := .cells #[.string x230000_1,.string x230001_1,.int .i64 x230002_1,.int .i64 x230003_1] 45 (0,0)) (by (with_reducible repeat (first | refine blk_drewN ?_ _ | refine blk_drew ?_ | refine blk_alloc ?_ _));exact BK229.out)) : gb229 ≠ gb240));have n8_ := Aside0.mk ((by rw [hg];exact Nat.ne_of_gt (blk_lt (g := gb229) (o := .cells #[.string x230000_1,.string x230001_1,.int .i64 x230002_1,.int .i64 x230003_1] 45 (0,0)) (by (with_reducible repeat (first | refine blk_drewN ?_ _ | refine blk_drew ?_ | refine blk_alloc ?_ _));exact BK229.out)) : gb240 ≠ gb229));have n9_ := Aside0.mk ((by rw [hg];exact Nat.ne_of_lt (blk_lt (g := gb234) (o := .cells #[.string ((rd_T45 t230 x13_1).f0),.string ((rd_T45 t230 x13_1).f1),.int .i64 ((rd_T45 t230 x13_1).f2),.int .i64 ((rd_T45 t230 x13_1).f3)] 45 (0,0)) (by (with_reducible repeat (first | refine blk_drewN ?_ _ | refine blk_drew ?_ | refine blk_alloc ?_ _));exact BK234.out)) : gb234 ≠ gb240));have n10_ := Aside0.mk ((by rw [hg];exact Nat.ne_of_gt (blk_lt (g := gb234) (o := .cells #[.string ((rd_T45 t230 x13_1).f0),.string ((rd_T45 t230 x13_1).f1),.int .i64 ((rd_T45 t230 x13_1).f2),.int .i64 ((rd_T45 t230 x13_1).f3)] 45 (0,0)) (by (with_reducible repeat (first | refine blk_drewN ?_ _ | refine blk_drew ?_ | refine blk_alloc ?_ _));exact BK234.out)) : gb240 ≠ gb234));clear HO_11;clear BK229;clear BK234;clear HB;have HO_11 := n0_;have BK229 := n1_;have BK234 := n2_;have HB := n3_;have BK240 := n4_;have GW240 := n5_;have GE240 := n6_;have NB229_240 := n7_;have NB240_229 := n8_;have NB234_240 := n9_;have NB240_234 := n10_;clear n0_ n1_ n2_ n3_ n4_ n5_ n6_ n7_ n8_ n9_ n10_;clear hb hbox hg;have hnb18 := NB240_229.out;have hnc18 := NB229_240.out;have hnb19 := NB240_234.out;have hnc19 := NB234_240.out;have hcz20_0 : w17.cell? ⟨gb240,0,none⟩ = some (.string (⟨#[]⟩ : ByteArray)) := (blk_cell BK240.out 0).trans rfl;have hcz20_1 : w17.cell? ⟨gb240,1,none⟩ = some (.string (⟨#[]⟩ : ByteArray)) := (blk_cell BK240.out 1).trans rfl;have hcz20_2 : w17.cell? ⟨gb240,2,none⟩ = some (.int .i64 0) := (blk_cell BK240.out 2).trans rfl;have hcz20_3 : w17.cell? ⟨gb240,3,none⟩ = some (.int .i64 0) := (blk_cell BK240.out 3).trans rfl;have hfz20_0 := blk_frozen BK240.out 0;have hfz20_1 := blk_frozen BK240.out 1;have hfz20_2 := blk_frozen BK240.out 2;have hfz20_3 := blk_frozen BK240.out 3;have hcz21_0 : w17.cell? ⟨gb234,0,none⟩ = some (.string ((rd_T45 t230 x13_1).f0)) := (blk_cell BK234.out 0).trans rfl;have hcz21_1 : w17.cell? ⟨gb234,1,none⟩ = some (.string ((rd_T45 t230 x13_1).f1)) := (blk_cell BK234.out 1).trans rfl;have hcz21_2 : w17.cell? ⟨gb234,2,none⟩ = some (.int .i64 ((rd_T45 t230 x13_1).f2)) := (blk_cell BK234.out 2).trans rfl;have hcz21_3 : w17.cell? ⟨gb234,3,none⟩ = some (.int .i64 ((rd_T45 t230 x13_1).f3)) := (blk_cell BK234.out 3).trans rfl;have hfz21_0 := blk_frozen BK234.out 0;have hfz21_1 := blk_frozen BK234.out 1;have hfz21_2 := blk_frozen BK234.out 2;have hfz21_3 := blk_frozen BK234.out 3;have hcz22_0 : w17.cell? ⟨gb229,0,none⟩ = some (.string x230000_1) := (blk_cell BK229.out 0).trans rfl;have hcz22_1 : w17.cell? ⟨gb229,1,none⟩ = some (.string x230001_1) := (blk_cell BK229.out 1).trans rfl;have hcz22_2 : w17.cell? ⟨gb229,2,none⟩ = some (.int .i64 x230002_1) := (blk_cell BK229.out 2).trans rfl;have hcz22_3 : w17.cell? ⟨gb229,3,none⟩ = some (.int .i64 x230003_1) := (blk_cell BK229.out 3).trans rfl;have hfz22_0 := blk_frozen BK229.out 0;have hfz22_1 := blk_frozen BK229.out 1;have hfz22_2 := blk_frozen BK229.out 2;have hfz22_3 := blk_frozen BK229.out 3))
                refine bodyPost_ret (results_ct rfl _ _ gb229 45 #[.string ((rd_T45 t230 x13_1).f0),.string ((rd_T45 t230 x13_1).f1),.int .i64 ((rd_T45 t230 x13_1).f2),.int .i64 ((rd_T45 t230 x13_1).f3)] (0,0) _ rfl (by (with_reducible repeat (first | refine blk_drewN ?_ _ | refine blk_drew ?_ | refine blk_alloc ?_ _));refine blk_put (cs := #[.string ((rd_T45 t230 x13_1).f0),.string ((rd_T45 t230 x13_1).f1),.int .i64 ((rd_T45 t230 x13_1).f2),.int .i64 x230003_1]) ?_ 3 _ rfl;(with_reducible repeat (first | refine blk_drewN ?_ _ | refine blk_drew ?_ | refine blk_alloc ?_ _));refine blk_put (cs := #[.string ((rd_T45 t230 x13_1).f0),.string ((rd_T45 t230 x13_1).f1),.int .i64 x230002_1,.int .i64 x230003_1]) ?_ 2 _ rfl;(with_reducible repeat (first | refine blk_drewN ?_ _ | refine blk_drew ?_ | refine blk_alloc ?_ _));refine blk_put (cs := #[.string ((rd_T45 t230 x13_1).f0),.string x230001_1,.int .i64 x230002_1,.int .i64 x230003_1]) ?_ 1 _ rfl;(with_reducible repeat (first | refine blk_drewN ?_ _ | refine blk_drew ?_ | refine blk_alloc ?_ _));refine blk_put (cs := #[.string x230000_1,.string x230001_1,.int .i64 x230002_1,.int .i64 x230003_1]) ?_ 0 _ rfl;(with_reducible repeat (first | refine blk_drewN ?_ _ | refine blk_drew ?_ | refine blk_alloc ?_ _));refine blk_far ?_ NB229_240.out _;(with_reducible repeat (first | refine blk_drewN ?_ _ | refine blk_drew ?_ | refine blk_alloc ?_ _));refine blk_far ?_ NB229_240.out _;(with_reducible repeat (first | refine blk_drewN ?_ _ | refine blk_drew ?_ | refine blk_alloc ?_ _));refine blk_far ?_ NB229_240.out _;(with_reducible repeat (first | refine blk_drewN ?_ _ | refine blk_drew ?_ | refine blk_alloc ?_ _));refine blk_far ?_ NB229_240.out _;(with_reducible repeat (first | refine blk_drewN ?_ _ | refine blk_drew ?_ | refine blk_alloc ?_ _));exact BK229.out) Try.underlying45 rfl (by kernel_rfl)) rfl ?_
                exact ⟨by first | rfl | (simp [errW_none,errW_some] <;> rfl) | (simp [*,errW_none,errW_some] <;> rfl),by repeat (first | (with_reducible first | exact HB.out | apply below_alloc | apply pw_below_drewN | apply below_drew1 | refine below_set ?_ GE229.out | refine below_set ?_ GE234.out | refine below_set ?_ GE240.out) | exact HB.out)⟩
              · rw [if_neg c12] at H
                have c12b0 : decide (t237 ≤ ((rd_T45 t230 x13_1).f3)) = false := decide_eq_false c12
                clear c12
                by_cases c23 : t237 < ((rd_T45 t230 x13_1).f2)
                · rw [if_pos c23] at H
                  have c23b0 : decide (t237 < ((rd_T45 t230 x13_1).f2)) = true := decide_eq_true c23
                  clear c23
                  simp only [Option.some.injEq,Prod.mk.injEq] at H
                  obtain ⟨rfl,rfl,rfl,rfl,rfl⟩ := H
                  have p233 : 0 ≤ (x13_1 : Int) := of_decide_eq_true (by first | (with_reducible assumption) | assumption)
                  have q233 : x13_1 < (t230.length : Int) := of_decide_eq_true (by first | (with_reducible assumption) | assumption)
                  obtain ⟨ad233,e233,hx233_0,hx233_1,hx233_2,hx233_3⟩ := at_T45 (Kd.R_reads' HO_11.out).2.2 x13_1 p233 q233
                  cases e233
                  replace p233 := eq_true p233
                  replace q233 := eq_true q233
                  go_wp2_with (first | ((with_reducible refine gate_dst (N := 7) rfl ?_);refine box_event ?hg (N := 7) ?hd (cs := #[.string (⟨#[]⟩ : ByteArray),.string (⟨#[]⟩ : ByteArray),.int .i64 0,.int .i64 0]) (t := 45) ?hr ?_;(case hd => rfl);(case hg => rfl);(case hr => first | (go_simp;done) | (go_simp;rfl));intro gb234 hg w24 hbox hb;have n0_ := Aside0.mk (Kd.R_below (Kd.R_elderB (by (with_reducible repeat (first | apply Kd.R_alloc | apply Kd.R_drewN | apply Kd.R_drew));exact HO_11.out) gb234 (Nat.le_of_eq hg.symm)) hb);have n1_ := Aside0.mk (blk_below (g := gb229) (o := .cells #[.string x230000_1,.string x230001_1,.int .i64 x230002_1,.int .i64 x230003_1] 45 (0,0)) (by (with_reducible repeat (first | refine blk_drewN ?_ _ | refine blk_drew ?_ | refine blk_alloc ?_ _));exact BK229.out) hb);have n2_ := Aside0.mk (below_step (by repeat (first | (with_reducible first | exact HB.out | apply below_alloc | apply pw_below_drewN | apply below_drew1 | refine below_set ?_ GE229.out) | exact HB.out)) hb);have n3_ := Aside0.mk (hbox);have n4_ := Aside0.mk ((by rw [hg];exact (below_size (by repeat (first | (with_reducible first | exact HB.out | apply below_alloc | apply pw_below_drewN | apply below_drew1 | refine below_set ?_ GE229.out) | exact HB.out))) : w.heap.size ≤ gb234));have n5_ := Aside0.mk ((by rw [hg];exact (below_size (by repeat (first | (with_reducible first | exact HB.out | apply below_alloc | apply pw_below_drewN | apply below_drew1 | refine below_set ?_ GE229.out) | exact HB.out))) : w.heap.size ≤ gb234));have n6_ := Aside0.mk ((by rw [hg];exact Nat.ne_of_lt (blk_lt (g := gb229) (o := .cells #[.string x230000_1,.string x230001_1,.int .i64 x230002_1,.int .i64 x230003_1] 45 (0,0)) (by (with_reducible repeat (first | refine blk_drewN ?_ _ | refine blk_drew ?_ | refine blk_alloc ?_ _));exact BK229.out)) : gb229 ≠ gb234));have n7_ := Aside0.mk ((by rw [hg];exact Nat.ne_of_gt (blk_lt (g := gb229) (o := .cells #[.string x230000_1,.string x230001_1,.int .i64 x230002_1,.int .i64 x230003_1] 45 (0,0)) (by (with_reducible repeat (first | refine blk_drewN ?_ _ | refine blk_drew ?_ | refine blk_alloc ?_ _));exact BK229.out)) : gb234 ≠ gb229));clear HO_11;clear BK229;clear HB;have HO_11 := n0_;have BK229 := n1_;have HB := n2_;have BK234 := n3_;have GW234 := n4_;have GE234 := n5_;have NB229_234 := n6_;have NB234_229 := n7_;clear n0_ n1_ n2_ n3_ n4_ n5_ n6_ n7_;clear hb hbox hg;have hnb25 := NB234_229.out;have hnc25 := NB229_234.out;have hcz26_0 : w24.cell? ⟨gb234,0,none⟩ = some (.string (⟨#[]⟩ : ByteArray)) := (blk_cell BK234.out 0).trans rfl;have hcz26_1 : w24.cell? ⟨gb234,1,none⟩ = some (.string (⟨#[]⟩ : ByteArray)) := (blk_cell BK234.out 1).trans rfl;have hcz26_2 : w24.cell? ⟨gb234,2,none⟩ = some (.int .i64 0) := (blk_cell BK234.out 2).trans rfl;have hcz26_3 : w24.cell? ⟨gb234,3,none⟩ = some (.int .i64 0) := (blk_cell BK234.out 3).trans rfl;have hfz26_0 := blk_frozen BK234.out 0;have hfz26_1 := blk_frozen BK234.out 1;have hfz26_2 := blk_frozen BK234.out 2;have hfz26_3 := blk_frozen BK234.out 3) | ((with_reducible refine gate_callee (f := 55) rfl ?_);refine goesL_ (some 23) rfl rfl Try.func55 (by kernel_rfl) rfl #[.string ((rd_T45 t230 x13_1).f0),.string ((rd_T45 t230 x13_1).f1),.slice A0 l0.length c0] rfl (by (try simp only [List.map_toArray,List.map_cons,List.map_nil]);first | done | rfl | (simp only [List.length_drop,List.length_take];rfl)) ?_;(with_reducible refine (usage_Find.calls ((rd_T45 t230 x13_1).f0) ((rd_T45 t230 x13_1).f1) _ _ l0 t235 t236 t237 t238 true _ ?side1 ?side2 A10.out).mono ?_);(case side1 => exact Kd.C_below HR0.out (by repeat (first | (with_reducible first | exact HB.out | apply below_alloc | apply pw_below_drewN | apply below_drew1 | refine below_set ?_ GE229.out | refine below_set ?_ GE234.out) | exact HB.out)));(case side2 => exact HC0.out);rintro e w27 ⟨rfl,hb⟩;refine ⟨_,rfl,?_⟩;have n0_ := Aside0.mk (Kd.R_below (by (with_reducible repeat (first | apply Kd.R_alloc | apply Kd.R_drewN | apply Kd.R_drew));exact (Kd.R_mono (Kd.R_far (p := ⟨gb234,3,none⟩) (Kd.R_far (p := ⟨gb234,2,none⟩) (Kd.R_far (p := ⟨gb234,1,none⟩) (Kd.R_far (p := ⟨gb234,0,none⟩) (Kd.R_mono HO_11.out (fun k_ hk => (⟨hk,hk.2⟩ : _ ∧ k_ ≠ gb234))) (fun _ hk => hk.2) (.string ((rd_T45 t230 x13_1).f0))) (fun _ hk => hk.2) (.string ((rd_T45 t230 x13_1).f1))) (fun _ hk => hk.2) (.int .i64 ((rd_T45 t230 x13_1).f2))) (fun _ hk => hk.2) (.int .i64 ((rd_T45 t230 x13_1).f3))) (fun _ h_ => h_.1))) hb);have n1_ := Aside0.mk (blk_below (g := gb229) (o := .cells #[.string x230000_1,.string x230001_1,.int .i64 x230002_1,.int .i64 x230003_1] 45 (0,0)) (by (with_reducible repeat (first | refine blk_drewN ?_ _ | refine blk_drew ?_ | refine blk_alloc ?_ _));refine blk_far ?_ NB229_234.out _;(with_reducible repeat (first | refine blk_drewN ?_ _ | refine blk_drew ?_ | refine blk_alloc ?_ _));refine blk_far ?_ NB229_234.out _;(with_reducible repeat (first | refine blk_drewN ?_ _ | refine blk_drew ?_ | refine blk_alloc ?_ _));refine blk_far ?_ NB229_234.out _;(with_reducible repeat (first | refine blk_drewN ?_ _ | refine blk_drew ?_ | refine blk_alloc ?_ _));refine blk_far ?_ NB229_234.out _;(with_reducible repeat (first | refine blk_drewN ?_ _ | refine blk_drew ?_ | refine blk_alloc ?_ _));exact BK229.out) hb);have n2_ := Aside0.mk (blk_below (g := gb234) (o := .cells #[.string ((rd_T45 t230 x13_1).f0),.string ((rd_T45 t230 x13_1).f1),.int .i64 ((rd_T45 t230 x13_1).f2),.int .i64 ((rd_T45 t230 x13_1).f3)] 45 (0,0)) (by (with_reducible repeat (first | refine blk_drewN ?_ _ | refine blk_drew ?_ | refine blk_alloc ?_ _));refine blk_put (cs := #[.string ((rd_T45 t230 x13_1).f0),.string ((rd_T45 t230 x13_1).f1),.int .i64 ((rd_T45 t230 x13_1).f2),.int .i64 0]) ?_ 3 _ rfl;(with_reducible repeat (first | refine blk_drewN ?_ _ | refine blk_drew ?_ | refine blk_alloc ?_ _));refine blk_put (cs := #[.string ((rd_T45 t230 x13_1).f0),.string ((rd_T45 t230 x13_1).f1),.int .i64 0,.int .i64 0]) ?_ 2 _ rfl;(with_reducible repeat (first | refine blk_drewN ?_ _ | refine blk_drew ?_ | refine blk_alloc ?_ _));refine blk_put (cs := #[.string ((rd_T45 t230 x13_1).f0),.string (⟨#[]⟩ : ByteArray),.int .i64 0,.int .i64 0]) ?_ 1 _ rfl;(with_reducible repeat (first | refine blk_drewN ?_ _ | refine blk_drew ?_ | refine blk_alloc ?_ _));refine blk_put (cs := #[.string (⟨#[]⟩ : ByteArray),.string (⟨#[]⟩ : ByteArray),.int .i64 0,.int .i64 0]) ?_ 0 _ rfl;(with_reducible repeat (first | refine blk_drewN ?_ _ | refine blk_drew ?_ | refine blk_alloc ?_ _));exact BK234.out) hb);have n3_ := Aside0.mk (below_step (by repeat (first | (with_reducible first | exact HB.out | apply below_alloc | apply pw_below_drewN | apply below_drew1 | refine below_set ?_ GE229.out | refine below_set ?_ GE234.out) | exact HB.out)) hb);clear HO_11;clear BK229;clear BK234;clear HB;have HO_11 := n0_;have BK229 := n1_;have BK234 := n2_;have HB := n3_;clear n0_ n1_ n2_ n3_;(try clear hb);(try clear hb2);(try clear hk);(try clear hi)) | ((with_reducible refine gate_dst (N := 8) rfl ?_);refine box_event ?hg (N := 8) ?hd (cs := #[.string (⟨#[]⟩ : ByteArray),.string (⟨#[]⟩ : ByteArray),.int .i64 0,.int .i64 0]) (t := 45) ?hr ?_;(case hd => rfl);(case hg => rfl);(case hr => first | (go_simp;done) | (go_simp;rfl));intro gb240 hg w28 hbox hb;have n0_ := Aside0.mk (Kd.R_below (Kd.R_elderB (by (with_reducible repeat (first | apply Kd.R_alloc | apply Kd.R_drewN | apply Kd.R_drew));exact HO_11.out) gb240 (Nat.le_of_eq hg.symm)) hb);have n1_ := Aside0.mk (blk_below (g := gb229) (o := .cells #[.string x230000_1,.string x230001_1,.int .i64 x230002_1,.int .i64 x230003_1] 45 (0,0)) (by (with_reducible repeat (first | refine blk_drewN ?_ _ | refine blk_drew ?_ | refine blk_alloc ?_ _));exact BK229.out) hb);have n2_ := Aside0.mk (blk_below (g := gb234) (o := .cells #[.string ((rd_T45 t230 x13_1).f0),.string ((rd_T45 t230 x13_1).f1),.int .i64 ((rd_T45 t230 x13_1).f2),.int .i64 ((rd_T45 t230 x13_1).f3)] 45 (0,0)) (by (with_reducible repeat (first | refine blk_drewN ?_ _ | refine blk_drew ?_ | refine blk_alloc ?_ _));exact BK234.out) hb);have n3_ := Aside0.mk (below_step (by repeat (first | (with_reducible first | exact HB.out | apply below_alloc | apply pw_below_drewN | apply below_drew1 | refine below_set ?_ GE229.out | refine below_set ?_ GE234.out) | exact HB.out)) hb);have n4_ := Aside0.mk (hbox);have n5_ := Aside0.mk ((by rw [hg];exact (below_size (by repeat (first | (with_reducible first | exact HB.out | apply below_alloc | apply pw_below_drewN | apply below_drew1 | refine below_set ?_ GE229.out | refine below_set ?_ GE234.out) | exact HB.out))) : w.heap.size ≤ gb240));have n6_ := Aside0.mk ((by rw [hg];exact (below_size (by repeat (first | (with_reducible first | exact HB.out | apply below_alloc | apply pw_below_drewN | apply below_drew1 | refine below_set ?_ GE229.out | refine below_set ?_ GE234.out) | exact HB.out))) : w.heap.size ≤ gb240));have n7_ := Aside0.mk ((by rw [hg];exact Nat.ne_of_lt (blk_lt (g := gb229) (o := .cells #[.string x230000_1,.string x230001_1,.int .i64 x230002_1,.int .i64 x230003_1] 45 (0,0)) (by (with_reducible repeat (first | refine blk_drewN ?_ _ | refine blk_drew ?_ | refine blk_alloc ?_ _));exact BK229.out)) : gb229 ≠ gb240));have n8_ := Aside0.mk ((by rw [hg];exact Nat.ne_of_gt (blk_lt (g := gb229) (o := .cells #[.string x230000_1,.string x230001_1,.int .i64 x230002_1,.int .i64 x230003_1] 45 (0,0)) (by (with_reducible repeat (first | refine blk_drewN ?_ _ | refine blk_drew ?_ | refine blk_alloc ?_ _));exact BK229.out)) : gb240 ≠ gb229));have n9_ := Aside0.mk ((by rw [hg];exact Nat.ne_of_lt (blk_lt (g := gb234) (o := .cells #[.string ((rd_T45 t230 x13_1).f0),.string ((rd_T45 t230 x13_1).f1),.int .i64 ((rd_T45 t230 x13_1).f2),.int .i64 ((rd_T45 t230 x13_1).f3)] 45 (0,0)) (by (with_reducible repeat (first | refine blk_drewN ?_ _ | refine blk_drew ?_ | refine blk_alloc ?_ _));exact BK234.out)) : gb234 ≠ gb240));have n10_ := Aside0.mk ((by rw [hg];exact Nat.ne_of_gt (blk_lt (g := gb234) (o := .cells #[.string ((rd_T45 t230 x13_1).f0),.string ((rd_T45 t230 x13_1).f1),.int .i64 ((rd_T45 t230 x13_1).f2),.int .i64 ((rd_T45 t230 x13_1).f3)] 45 (0,0)) (by (with_reducible repeat (first | refine blk_drewN ?_ _ | refine blk_drew ?_ | refine blk_alloc ?_ _));exact BK234.out)) : gb240 ≠ gb234));clear HO_11;clear BK229;clear BK234;clear HB;have HO_11 := n0_;have BK229 := n1_;have BK234 := n2_;have HB := n3_;have BK240 := n4_;have GW240 := n5_;have GE240 := n6_;have NB229_240 := n7_;have NB240_229 := n8_;have NB234_240 := n9_;have NB240_234 := n10_;clear n0_ n1_ n2_ n3_ n4_ n5_ n6_ n7_ n8_ n9_ n10_;clear hb hbox hg;have hnb29 := NB240_229.out;have hnc29 := NB229_240.out;have hnb30 := NB240_234.out;have hnc30 := NB234_240.out;have hcz31_0 : w28.cell? ⟨gb240,0,none⟩ = some (.string (⟨#[]⟩ : ByteArray)) := (blk_cell BK240.out 0).trans rfl;have hcz31_1 : w28.cell? ⟨gb240,1,none⟩ = some (.string (⟨#[]⟩ : ByteArray)) := (blk_cell BK240.out 1).trans rfl;have hcz31_2 : w28.cell? ⟨gb240,2,none⟩ = some (.int .i64 0) := (blk_cell BK240.out 2).trans rfl;have hcz31_3 : w28.cell? ⟨gb240,3,none⟩ = some (.int .i64 0) := (blk_cell BK240.out 3).trans rfl;have hfz31_0 := blk_frozen BK240.out 0;have hfz31_1 := blk_frozen BK240.out 1;have hfz31_2 := blk_frozen BK240.out 2;have hfz31_3 := blk_frozen BK240.out 3;have hcz32_0 : w28.cell? ⟨gb234,0,none⟩ = some (.string ((rd_T45 t230 x13_1).f0)) := (blk_cell BK234.out 0).trans rfl;have hcz32_1 : w28.cell? ⟨gb234,1,none⟩ = some (.string ((rd_T45 t230 x13_1).f1)) := (blk_cell BK234.out 1).trans rfl;have hcz32_2 : w28.cell? ⟨gb234,2,none⟩ = some (.int .i64 ((rd_T45 t230 x13_1).f2)) := (blk_cell BK234.out 2).trans rfl;have hcz32_3 : w28.cell? ⟨gb234,3,none⟩ = some (.int .i64 ((rd_T45 t230 x13_1).f3)) := (blk_cell BK234.out 3).trans rfl;have hfz32_0 := blk_frozen BK234.out 0;have hfz32_1 := blk_frozen BK234.out 1;have hfz32_2 := blk_frozen BK234.out 2;have hfz32_3 := blk_frozen BK234.out 3;have hcz33_0 : w28.cell? ⟨gb229,0,none⟩ = some (.string x230000_1) := (blk_cell BK229.out 0).trans rfl;have hcz33_1 : w28.cell? ⟨gb229,1,none⟩ = some (.string x230001_1) := (blk_cell BK229.out 1).trans rfl;have hcz33_2 : w28.cell? ⟨gb229,2,none⟩ = some (.int .i64 x230002_1) := (blk_cell BK229.out 2).trans rfl;have hcz33_3 : w28.cell? ⟨gb229,3,none⟩ = some (.int .i64 x230003_1) := (blk_cell BK229.out 3).trans rfl;have hfz33_0 := blk_frozen BK229.out 0;have hfz33_1 := blk_frozen BK229.out 1;have hfz33_2 := blk_frozen BK229.out 2;have hfz33_3 := blk_frozen BK229.out 3))
                  refine bodyPost_ret (results_ct rfl _ _ gb229 45 #[.string ((rd_T45 t230 x13_1).f0),.string ((rd_T45 t230 x13_1).f1),.int .i64 ((rd_T45 t230 x13_1).f2),.int .i64 ((rd_T45 t230 x13_1).f3)] (0,0) _ rfl (by (with_reducible repeat (first | refine blk_drewN ?_ _ | refine blk_drew ?_ | refine blk_alloc ?_ _));refine blk_put (cs := #[.string ((rd_T45 t230 x13_1).f0),.string ((rd_T45 t230 x13_1).f1),.int .i64 ((rd_T45 t230 x13_1).f2),.int .i64 x230003_1]) ?_ 3 _ rfl;(with_reducible repeat (first | refine blk_drewN ?_ _ | refine blk_drew ?_ | refine blk_alloc ?_ _));refine blk_put (cs := #[.string ((rd_T45 t230 x13_1).f0),.string ((rd_T45 t230 x13_1).f1),.int .i64 x230002_1,.int .i64 x230003_1]) ?_ 2 _ rfl;(with_reducible repeat (first | refine blk_drewN ?_ _ | refine blk_drew ?_ | refine blk_alloc ?_ _));refine blk_put (cs := #[.string ((rd_T45 t230 x13_1).f0),.string x230001_1,.int .i64 x230002_1,.int .i64 x230003_1]) ?_ 1 _ rfl;(with_reducible repeat (first | refine blk_drewN ?_ _ | refine blk_drew ?_ | refine blk_alloc ?_ _));refine blk_put (cs := #[.string x230000_1,.string x230001_1,.int .i64 x230002_1,.int .i64 x230003_1]) ?_ 0 _ rfl;(with_reducible repeat (first | refine blk_drewN ?_ _ | refine blk_drew ?_ | refine blk_alloc ?_ _));refine blk_far ?_ NB229_240.out _;(with_reducible repeat (first | refine blk_drewN ?_ _ | refine blk_drew ?_ | refine blk_alloc ?_ _));refine blk_far ?_ NB229_240.out _;(with_reducible repeat (first | refine blk_drewN ?_ _ | refine blk_drew ?_ | refine blk_alloc ?_ _));refine blk_far ?_ NB229_240.out _;(with_reducible repeat (first | refine blk_drewN ?_ _ | refine blk_drew ?_ | refine blk_alloc ?_ _));refine blk_far ?_ NB229_240.out _;(with_reducible repeat (first | refine blk_drewN ?_ _ | refine blk_drew ?_ | refine blk_alloc ?_ _));exact BK229.out) Try.underlying45 rfl (by kernel_rfl)) rfl ?_
                  exact ⟨by first | rfl | (simp [errW_none,errW_some] <;> rfl) | (simp [*,errW_none,errW_some] <;> rfl),by repeat (first | (with_reducible first | exact HB.out | apply below_alloc | apply pw_below_drewN | apply below_drew1 | refine below_set ?_ GE229.out | refine below_set ?_ GE234.out | refine below_set ?_ GE240.out) | exact HB.out)⟩
                · rw [if_neg c23] at H
                  have c23b0 : decide (t237 < ((rd_T45 t230 x13_1).f2)) = false := decide_eq_false c23
                  clear c23
                  have H' := Aside0.mk H
                  clear H
                  have p233 : 0 ≤ (x13_1 : Int) := of_decide_eq_true (by first | (with_reducible assumption) | assumption)
                  have q233 : x13_1 < (t230.length : Int) := of_decide_eq_true (by first | (with_reducible assumption) | assumption)
                  obtain ⟨ad233,e233,hx233_0,hx233_1,hx233_2,hx233_3⟩ := at_T45 (Kd.R_reads' HO_11.out).2.2 x13_1 p233 q233
                  cases e233
                  replace p233 := eq_true p233
                  replace q233 := eq_true q233
                  go_wp2_with (first | ((with_reducible refine gate_dst (N := 7) rfl ?_);refine box_event ?hg (N := 7) ?hd (cs := #[.string (⟨#[]⟩ : ByteArray),.string (⟨#[]⟩ : ByteArray),.int .i64 0,.int .i64 0]) (t := 45) ?hr ?_;(case hd => rfl);(case hg => rfl);(case hr => first | (go_simp;done) | (go_simp;rfl));intro gb234 hg w34 hbox hb;have n0_ := Aside0.mk (Kd.R_below (Kd.R_elderB (by (with_reducible repeat (first | apply Kd.R_alloc | apply Kd.R_drewN | apply Kd.R_drew));exact HO_11.out) gb234 (Nat.le_of_eq hg.symm)) hb);have n1_ := Aside0.mk (blk_below (g := gb229) (o := .cells #[.string x230000_1,.string x230001_1,.int .i64 x230002_1,.int .i64 x230003_1] 45 (0,0)) (by (with_reducible repeat (first | refine blk_drewN ?_ _ | refine blk_drew ?_ | refine blk_alloc ?_ _));exact BK229.out) hb);have n2_ := Aside0.mk (below_step (by repeat (first | (with_reducible first | exact HB.out | apply below_alloc | apply pw_below_drewN | apply below_drew1 | refine below_set ?_ GE229.out) | exact HB.out)) hb);have n3_ := Aside0.mk (hbox);have n4_ := Aside0.mk ((by rw [hg];exact (below_size (by repeat (first | (with_reducible first | exact HB.out | apply below_alloc | apply pw_below_drewN | apply below_drew1 | refine below_set ?_ GE229.out) | exact HB.out))) : w.heap.size ≤ gb234));have n5_ := Aside0.mk ((by rw [hg];exact (below_size (by repeat (first | (with_reducible first | exact HB.out | apply below_alloc | apply pw_below_drewN | apply below_drew1 | refine below_set ?_ GE229.out) | exact HB.out))) : w.heap.size ≤ gb234));have n6_ := Aside0.mk ((by rw [hg];exact Nat.ne_of_lt (blk_lt (g := gb229) (o := .cells #[.string x230000_1,.string x230001_1,.int .i64 x230002_1,.int .i64 x230003_1] 45 (0,0)) (by (with_reducible repeat (first | refine blk_drewN ?_ _ | refine blk_drew ?_ | refine blk_alloc ?_ _));exact BK229.out)) : gb229 ≠ gb234));have n7_ := Aside0.mk ((by rw [hg];exact Nat.ne_of_gt (blk_lt (g := gb229) (o := .cells #[.string x230000_1,.string x230001_1,.int .i64 x230002_1,.int .i64 x230003_1] 45 (0,0)) (by (with_reducible repeat (first | refine blk_drewN ?_ _ | refine blk_drew ?_ | refine blk_alloc ?_ _));exact BK229.out)) : gb234 ≠ gb229));clear HO_11;clear BK229;clear HB;have HO_11 := n0_;have BK229 := n1_;have HB := n2_;have BK234 := n3_;have GW234 := n4_;have GE234 := n5_;have NB229_234 := n6_;have NB234_229 := n7_;clear n0_ n1_ n2_ n3_ n4_ n5_ n6_ n7_;clear hb hbox hg;have hnb35 := NB234_229.out;have hnc35 := NB229_234.out;have hcz36_0 : w34.cell? ⟨gb234,0,none⟩ = some (.string (⟨#[]⟩ : ByteArray)) := (blk_cell BK234.out 0).trans rfl;have hcz36_1 : w34.cell? ⟨gb234,1,none⟩ = some (.string (⟨#[]⟩ : ByteArray)) := (blk_cell BK234.out 1).trans rfl;have hcz36_2 : w34.cell? ⟨gb234,2,none⟩ = some (.int .i64 0) := (blk_cell BK234.out 2).trans rfl;have hcz36_3 : w34.cell? ⟨gb234,3,none⟩ = some (.int .i64 0) := (blk_cell BK234.out 3).trans rfl;have hfz36_0 := blk_frozen BK234.out 0;have hfz36_1 := blk_frozen BK234.out 1;have hfz36_2 := blk_frozen BK234.out 2;have hfz36_3 := blk_frozen BK234.out 3) | ((with_reducible refine gate_callee (f := 55) rfl ?_);refine goesL_ (some 23) rfl rfl Try.func55 (by kernel_rfl) rfl #[.string ((rd_T45 t230 x13_1).f0),.string ((rd_T45 t230 x13_1).f1),.slice A0 l0.length c0] rfl (by (try simp only [List.map_toArray,List.map_cons,List.map_nil]);first | done | rfl | (simp only [List.length_drop,List.length_take];rfl)) ?_;(with_reducible refine (usage_Find.calls ((rd_T45 t230 x13_1).f0) ((rd_T45 t230 x13_1).f1) _ _ l0 t235 t236 t237 t238 true _ ?side1 ?side2 A10.out).mono ?_);(case side1 => exact Kd.C_below HR0.out (by repeat (first | (with_reducible first | exact HB.out | apply below_alloc | apply pw_below_drewN | apply below_drew1 | refine below_set ?_ GE229.out | refine below_set ?_ GE234.out) | exact HB.out)));(case side2 => exact HC0.out);rintro e w37 ⟨rfl,hb⟩;refine ⟨_,rfl,?_⟩;have n0_ := Aside0.mk (Kd.R_below (by (with_reducible repeat (first | apply Kd.R_alloc | apply Kd.R_drewN | apply Kd.R_drew));exact (Kd.R_mono (Kd.R_far (p := ⟨gb234,3,none⟩) (Kd.R_far (p := ⟨gb234,2,none⟩) (Kd.R_far (p := ⟨gb234,1,none⟩) (Kd.R_far (p := ⟨gb234,0,none⟩) (Kd.R_mono HO_11.out (fun k_ hk => (⟨hk,hk.2⟩ : _ ∧ k_ ≠ gb234))) (fun _ hk => hk.2) (.string ((rd_T45 t230 x13_1).f0))) (fun _ hk => hk.2) (.string ((rd_T45 t230 x13_1).f1))) (fun _ hk => hk.2) (.int .i64 ((rd_T45 t230 x13_1).f2))) (fun _ hk => hk.2) (.int .i64 ((rd_T45 t230 x13_1).f3))) (fun _ h_ => h_.1))) hb);have n1_ := Aside0.mk (blk_below (g := gb229) (o := .cells #[.string x230000_1,.string x230001_1,.int .i64 x230002_1,.int .i64 x230003_1] 45 (0,0)) (by (with_reducible repeat (first | refine blk_drewN ?_ _ | refine blk_drew ?_ | refine blk_alloc ?_ _));refine blk_far ?_ NB229_234.out _;(with_reducible repeat (first | refine blk_drewN ?_ _ | refine blk_drew ?_ | refine blk_alloc ?_ _));refine blk_far ?_ NB229_234.out _;(with_reducible repeat (first | refine blk_drewN ?_ _ | refine blk_drew ?_ | refine blk_alloc ?_ _));refine blk_far ?_ NB229_234.out _;(with_reducible repeat (first | refine blk_drewN ?_ _ | refine blk_drew ?_ | refine blk_alloc ?_ _));refine blk_far ?_ NB229_234.out _;(with_reducible repeat (first | refine blk_drewN ?_ _ | refine blk_drew ?_ | refine blk_alloc ?_ _));exact BK229.out) hb);have n2_ := Aside0.mk (blk_below (g := gb234) (o := .cells #[.string ((rd_T45 t230 x13_1).f0),.string ((rd_T45 t230 x13_1).f1),.int .i64 ((rd_T45 t230 x13_1).f2),.int .i64 ((rd_T45 t230 x13_1).f3)] 45 (0,0)) (by (with_reducible repeat (first | refine blk_drewN ?_ _ | refine blk_drew ?_ | refine blk_alloc ?_ _));refine blk_put (cs := #[.string ((rd_T45 t230 x13_1).f0),.string ((rd_T45 t230 x13_1).f1),.int .i64 ((rd_T45 t230 x13_1).f2),.int .i64 0]) ?_ 3 _ rfl;(with_reducible repeat (first | refine blk_drewN ?_ _ | refine blk_drew ?_ | refine blk_alloc ?_ _));refine blk_put (cs := #[.string ((rd_T45 t230 x13_1).f0),.string ((rd_T45 t230 x13_1).f1),.int .i64 0,.int .i64 0]) ?_ 2 _ rfl;(with_reducible repeat (first | refine blk_drewN ?_ _ | refine blk_drew ?_ | refine blk_alloc ?_ _));refine blk_put (cs := #[.string ((rd_T45 t230 x13_1).f0),.string (⟨#[]⟩ : ByteArray),.int .i64 0,.int .i64 0]) ?_ 1 _ rfl;(with_reducible repeat (first | refine blk_drewN ?_ _ | refine blk_drew ?_ | refine blk_alloc ?_ _));refine blk_put (cs := #[.string (⟨#[]⟩ : ByteArray),.string (⟨#[]⟩ : ByteArray),.int .i64 0,.int .i64 0]) ?_ 0 _ rfl;(with_reducible repeat (first | refine blk_drewN ?_ _ | refine blk_drew ?_ | refine blk_alloc ?_ _));exact BK234.out) hb);have n3_ := Aside0.mk (below_step (by repeat (first | (with_reducible first | exact HB.out | apply below_alloc | apply pw_below_drewN | apply below_drew1 | refine below_set ?_ GE229.out | refine below_set ?_ GE234.out) | exact HB.out)) hb);clear HO_11;clear BK229;clear BK234;clear HB;have HO_11 := n0_;have BK229 := n1_;have BK234 := n2_;have HB := n3_;clear n0_ n1_ n2_ n3_;(try clear hb);(try clear hb2);(try clear hk);(try clear hi)) | ((with_reducible refine gate_dst (N := 8) rfl ?_);refine box_event ?hg (N := 8) ?hd (cs := #[.string (⟨#[]⟩ : ByteArray),.string (⟨#[]⟩ : ByteArray),.int .i64 0,.int .i64 0]) (t := 45) ?hr ?_;(case hd => rfl);(case hg => rfl);(case hr => first | (go_simp;done) | (go_simp;rfl));intro gb240 hg w38 hbox hb;have n0_ := Aside0.mk (Kd.R_below (Kd.R_elderB (by (with_reducible repeat (first | apply Kd.R_alloc | apply Kd.R_drewN | apply Kd.R_drew));exact HO_11.out) gb240 (Nat.le_of_eq hg.symm)) hb);have n1_ := Aside0.mk (blk_below (g := gb229) (o := .cells #[.string x230000_1,.string x230001_1,.int .i64 x230002_1,.int .i64 x230003_1] 45 (0,0)) (by (with_reducible repeat (first | refine blk_drewN ?_ _ | refine blk_drew ?_ | refine blk_alloc ?_ _));exact BK229.out) hb);have n2_ := Aside0.mk (blk_below (g := gb234) (o := .cells #[.string ((rd_T45 t230 x13_1).f0),.string ((rd_T45 t230 x13_1).f1),.int .i64 ((rd_T45 t230 x13_1).f2),.int .i64 ((rd_T45 t230 x13_1).f3)] 45 (0,0)) (by (with_reducible repeat (first | refine blk_drewN ?_ _ | refine blk_drew ?_ | refine blk_alloc ?_ _));exact BK234.out) hb);have n3_ := Aside0.mk (below_step (by repeat (first | (with_reducible first | exact HB.out | apply below_alloc | apply pw_below_drewN | apply below_drew1 | refine below_set ?_ GE229.out | refine below_set ?_ GE234.out) | exact HB.out)) hb);have n4_ := Aside0.mk (hbox);have n5_ := Aside0.mk ((by rw [hg];exact (below_size (by repeat (first | (with_reducible first | exact HB.out | apply below_alloc | apply pw_below_drewN | apply below_drew1 | refine below_set ?_ GE229.out | refine below_set ?_ GE234.out) | exact HB.out))) : w.heap.size ≤ gb240));have n6_ := Aside0.mk ((by rw [hg];exact (below_size (by repeat (first | (with_reducible first | exact HB.out | apply below_alloc | apply pw_below_drewN | apply below_drew1 | refine below_set ?_ GE229.out | refine below_set ?_ GE234.out) | exact HB.out))) : w.heap.size ≤ gb240));have n7_ := Aside0.mk ((by rw [hg];exact Nat.ne_of_lt (blk_lt (g := gb229) (o := .cells #[.string x230000_1,.string x230001_1,.int .i64 x230002_1,.int .i64 x230003_1] 45 (0,0)) (by (with_reducible repeat (first | refine blk_drewN ?_ _ | refine blk_drew ?_ | refine blk_alloc ?_ _));exact BK229.out)) : gb229 ≠ gb240));have n8_ := Aside0.mk ((by rw [hg];exact Nat.ne_of_gt (blk_lt (g := gb229) (o := .cells #[.string x230000_1,.string x230001_1,.int .i64 x230002_1,.int .i64 x230003_1] 45 (0,0)) (by (with_reducible repeat (first | refine blk_drewN ?_ _ | refine blk_drew ?_ | refine blk_alloc ?_ _));exact BK229.out)) : gb240 ≠ gb229));have n9_ := Aside0.mk ((by rw [hg];exact Nat.ne_of_lt (blk_lt (g := gb234) (o := .cells #[.string ((rd_T45 t230 x13_1).f0),.string ((rd_T45 t230 x13_1).f1),.int .i64 ((rd_T45 t230 x13_1).f2),.int .i64 ((rd_T45 t230 x13_1).f3)] 45 (0,0)) (by (with_reducible repeat (first | refine blk_drewN ?_ _ | refine blk_drew ?_ | refine blk_alloc ?_ _));exact BK234.out)) : gb234 ≠ gb240));have n10_ := Aside0.mk ((by rw [hg];exact Nat.ne_of_gt (blk_lt (g := gb234) (o := .cells #[.string ((rd_T45 t230 x13_1).f0),.string ((rd_T45 t230 x13_1).f1),.int .i64 ((rd_T45 t230 x13_1).f2),.int .i64 ((rd_T45 t230 x13_1).f3)] 45 (0,0)) (by (with_reducible repeat (first | refine blk_drewN ?_ _ | refine blk_drew ?_ | refine blk_alloc ?_ _));exact BK234.out)) : gb240 ≠ gb234));clear HO_11;clear BK229;clear BK234;clear HB;have HO_11 := n0_;have BK229 := n1_;have BK234 := n2_;have HB := n3_;have BK240 := n4_;have GW240 := n5_;have GE240 := n6_;have NB229_240 := n7_;have NB240_229 := n8_;have NB234_240 := n9_;have NB240_234 := n10_;clear n0_ n1_ n2_ n3_ n4_ n5_ n6_ n7_ n8_ n9_ n10_;clear hb hbox hg;have hnb39 := NB240_229.out;have hnc39 := NB229_240.out;have hnb40 := NB240_234.out;have hnc40 := NB234_240.out;have hcz41_0 : w38.cell? ⟨gb240,0,none⟩ = some (.string (⟨#[]⟩ : ByteArray)) := (blk_cell BK240.out 0).trans rfl;have hcz41_1 : w38.cell? ⟨gb240,1,none⟩ = some (.string (⟨#[]⟩ : ByteArray)) := (blk_cell BK240.out 1).trans rfl;have hcz41_2 : w38.cell? ⟨gb240,2,none⟩ = some (.int .i64 0) := (blk_cell BK240.out 2).trans rfl;have hcz41_3 : w38.cell? ⟨gb240,3,none⟩ = some (.int .i64 0) := (blk_cell BK240.out 3).trans rfl;have hfz41_0 := blk_frozen BK240.out 0;have hfz41_1 := blk_frozen BK240.out 1;have hfz41_2 := blk_frozen BK240.out 2;have hfz41_3 := blk_frozen BK240.out 3;have hcz42_0 : w38.cell? ⟨gb234,0,none⟩ = some (.string ((rd_T45 t230 x13_1).f0)) := (blk_cell BK234.out 0).trans rfl;have hcz42_1 : w38.cell? ⟨gb234,1,none⟩ = some (.string ((rd_T45 t230 x13_1).f1)) := (blk_cell BK234.out 1).trans rfl;have hcz42_2 : w38.cell? ⟨gb234,2,none⟩ = some (.int .i64 ((rd_T45 t230 x13_1).f2)) := (blk_cell BK234.out 2).trans rfl;have hcz42_3 : w38.cell? ⟨gb234,3,none⟩ = some (.int .i64 ((rd_T45 t230 x13_1).f3)) := (blk_cell BK234.out 3).trans rfl;have hfz42_0 := blk_frozen BK234.out 0;have hfz42_1 := blk_frozen BK234.out 1;have hfz42_2 := blk_frozen BK234.out 2;have hfz42_3 := blk_frozen BK234.out 3))
                  go_roundg k1
                  case measure => have := HK1.out;omega
                  case rel => exact ⟨(wrap64 (x13_1 + 1)),(x230000_1),(x230001_1),(x230002_1),(x230003_1),(by first | rfl | (simp;done) | (simp [*];done)),H',⟨by have := HK1.out;omega⟩,⟨by (with_reducible repeat (first | apply Kd.R_alloc | apply Kd.R_drewN | apply Kd.R_drew));exact Kd.R_mono (Kd.R_far (p := ⟨gb240,3,none⟩) (Kd.R_far (p := ⟨gb240,2,none⟩) (Kd.R_far (p := ⟨gb240,1,none⟩) (Kd.R_far (p := ⟨gb240,0,none⟩) (Kd.R_mono HO_11.out (fun k_ hk => (⟨hk,hk.2⟩ : _ ∧ k_ ≠ gb240))) (fun _ hk => hk.2) (.string t235)) (fun _ hk => hk.2) (.string t236)) (fun _ hk => hk.2) (.int .i64 t237)) (fun _ hk => hk.2) (.int .i64 t238)) (fun _ hk => hk.1.1.1)⟩,⟨by (with_reducible repeat (first | refine blk_drewN ?_ _ | refine blk_drew ?_ | refine blk_alloc ?_ _));refine blk_far ?_ NB229_240.out _;(with_reducible repeat (first | refine blk_drewN ?_ _ | refine blk_drew ?_ | refine blk_alloc ?_ _));refine blk_far ?_ NB229_240.out _;(with_reducible repeat (first | refine blk_drewN ?_ _ | refine blk_drew ?_ | refine blk_alloc ?_ _));refine blk_far ?_ NB229_240.out _;(with_reducible repeat (first | refine blk_drewN ?_ _ | refine blk_drew ?_ | refine blk_alloc ?_ _));refine blk_far ?_ NB229_240.out _;(with_reducible repeat (first | refine blk_drewN ?_ _ | refine blk_drew ?_ | refine blk_alloc ?_ _));exact BK229.out⟩,⟨by repeat (first | (with_reducible first | exact HB.out | apply below_alloc | apply pw_below_drewN | apply below_drew1 | refine below_set ?_ GE229.out | refine below_set ?_ GE234.out | refine below_set ?_ GE240.out) | exact HB.out)⟩⟩
            · replace c11 := Bool.eq_false_iff.mpr c11
              subst c11
              have H1 : (some ((rd_T45 t230 x13_1).f0,(rd_T45 t230 x13_1).f1,(rd_T45 t230 x13_1).f2,(rd_T45 t230 x13_1).f3,16)) = some (r1,r2,r3,r4,r5) := by rw [if_neg (show ¬ (false = true) by decide)] at H;exact H
              clear H
              have H := H1
              clear H1
              simp only [Option.some.injEq,Prod.mk.injEq] at H
              obtain ⟨rfl,rfl,rfl,rfl,rfl⟩ := H
              have p233 : 0 ≤ (x13_1 : Int) := of_decide_eq_true (by first | (with_reducible assumption) | assumption)
              have q233 : x13_1 < (t230.length : Int) := of_decide_eq_true (by first | (with_reducible assumption) | assumption)
              obtain ⟨ad233,e233,hx233_0,hx233_1,hx233_2,hx233_3⟩ := at_T45 (Kd.R_reads' HO_11.out).2.2 x13_1 p233 q233
              cases e233
              replace p233 := eq_true p233
              replace q233 := eq_true q233
              go_wp2_with (first | ((with_reducible refine gate_dst (N := 7) rfl ?_);refine box_event ?hg (N := 7) ?hd (cs := #[.string (⟨#[]⟩ : ByteArray),.string (⟨#[]⟩ : ByteArray),.int .i64 0,.int .i64 0]) (t := 45) ?hr ?_;(case hd => rfl);(case hg => rfl);(case hr => first | (go_simp;done) | (go_simp;rfl));intro gb234 hg w43 hbox hb;have n0_ := Aside0.mk (Kd.R_below (Kd.R_elderB (by (with_reducible repeat (first | apply Kd.R_alloc | apply Kd.R_drewN | apply Kd.R_drew));exact HO_11.out) gb234 (Nat.le_of_eq hg.symm)) hb);have n1_ := Aside0.mk (blk_below (g := gb229) (o := .cells #[.string x230000_1,.string x230001_1,.int .i64 x230002_1,.int .i64 x230003_1] 45 (0,0)) (by (with_reducible repeat (first | refine blk_drewN ?_ _ | refine blk_drew ?_ | refine blk_alloc ?_ _));exact BK229.out) hb);have n2_ := Aside0.mk (below_step (by repeat (first | (with_reducible first | exact HB.out | apply below_alloc | apply pw_below_drewN | apply below_drew1 | refine below_set ?_ GE229.out) | exact HB.out)) hb);have n3_ := Aside0.mk (hbox);have n4_ := Aside0.mk ((by rw [hg];exact (below_size (by repeat (first | (with_reducible first | exact HB.out | apply below_alloc | apply pw_below_drewN | apply below_drew1 | refine below_set ?_ GE229.out) | exact HB.out))) : w.heap.size ≤ gb234));have n5_ := Aside0.mk ((by rw [hg];exact (below_size (by repeat (first | (with_reducible first | exact HB.out | apply below_alloc | apply pw_below_drewN | apply below_drew1 | refine below_set ?_ GE229.out) | exact HB.out))) : w.heap.size ≤ gb234));have n6_ := Aside0.mk ((by rw [hg];exact Nat.ne_of_lt (blk_lt (g := gb229) (o := .cells #[.string x230000_1,.string x230001_1,.int .i64 x230002_1,.int .i64 x230003_1] 45 (0,0)) (by (with_reducible repeat (first | refine blk_drewN ?_ _ | refine blk_drew ?_ | refine blk_alloc ?_ _));exact BK229.out)) : gb229 ≠ gb234));have n7_ := Aside0.mk ((by rw [hg];exact Nat.ne_of_gt (blk_lt (g := gb229) (o := .cells #[.string x230000_1,.string x230001_1,.int .i64 x230002_1,.int .i64 x230003_1] 45 (0,0)) (by (with_reducible repeat (first | refine blk_drewN ?_ _ | refine blk_drew ?_ | refine blk_alloc ?_ _));exact BK229.out)) : gb234 ≠ gb229));clear HO_11;clear BK229;clear HB;have HO_11 := n0_;have BK229 := n1_;have HB := n2_;have BK234 := n3_;have GW234 := n4_;have GE234 := n5_;have NB229_234 := n6_;have NB234_229 := n7_;clear n0_ n1_ n2_ n3_ n4_ n5_ n6_ n7_;clear hb hbox hg;have hnb44 := NB234_229.out;have hnc44 := NB229_234.out;have hcz45_0 : w43.cell? ⟨gb234,0,none⟩ = some (.string (⟨#[]⟩ : ByteArray)) := (blk_cell BK234.out 0).trans rfl;have hcz45_1 : w43.cell? ⟨gb234,1,none⟩ = some (.string (⟨#[]⟩ : ByteArray)) := (blk_cell BK234.out 1).trans rfl;have hcz45_2 : w43.cell? ⟨gb234,2,none⟩ = some (.int .i64 0) := (blk_cell BK234.out 2).trans rfl;have hcz45_3 : w43.cell? ⟨gb234,3,none⟩ = some (.int .i64 0) := (blk_cell BK234.out 3).trans rfl;have hfz45_0 := blk_frozen BK234.out 0;have hfz45_1 := blk_frozen BK234.out 1;have hfz45_2 := blk_frozen BK234.out 2;have hfz45_3 := blk_frozen BK234.out 3) | ((with_reducible refine gate_callee (f := 55) rfl ?_);refine goesL_ (some 23) rfl rfl Try.func55 (by kernel_rfl) rfl #[.string ((rd_T45 t230 x13_1).f0),.string ((rd_T45 t230 x13_1).f1),.slice A0 l0.length c0] rfl (by (try simp only [List.map_toArray,List.map_cons,List.map_nil]);first | done | rfl | (simp only [List.length_drop,List.length_take];rfl)) ?_;(with_reducible refine (usage_Find.calls ((rd_T45 t230 x13_1).f0) ((rd_T45 t230 x13_1).f1) _ _ l0 t235 t236 t237 t238 false _ ?side1 ?side2 A10.out).mono ?_);(case side1 => exact Kd.C_below HR0.out (by repeat (first | (with_reducible first | exact HB.out | apply below_alloc | apply pw_below_drewN | apply below_drew1 | refine below_set ?_ GE229.out | refine below_set ?_ GE234.out) | exact HB.out)));(case side2 => exact HC0.out);rintro e w46 ⟨rfl,hb⟩;refine ⟨_,rfl,?_⟩;have n0_ := Aside0.mk (Kd.R_below (by (with_reducible repeat (first | apply Kd.R_alloc | apply Kd.R_drewN | apply Kd.R_drew));exact (Kd.R_mono (Kd.R_far (p := ⟨gb234,3,none⟩) (Kd.R_far (p := ⟨gb234,2,none⟩) (Kd.R_far (p := ⟨gb234,1,none⟩) (Kd.R_far (p := ⟨gb234,0,none⟩) (Kd.R_mono HO_11.out (fun k_ hk => (⟨hk,hk.2⟩ : _ ∧ k_ ≠ gb234))) (fun _ hk => hk.2) (.string ((rd_T45 t230 x13_1).f0))) (fun _ hk => hk.2) (.string ((rd_T45 t230 x13_1).f1))) (fun _ hk => hk.2) (.int .i64 ((rd_T45 t230 x13_1).f2))) (fun _ hk => hk.2) (.int .i64 ((rd_T45 t230 x13_1).f3))) (fun _ h_ => h_.1))) hb);have n1_ := Aside0.mk (blk_below (g := gb229) (o := .cells #[.string x230000_1,.string x230001_1,.int .i64 x230002_1,.int .i64 x230003_1] 45 (0,0)) (by (with_reducible repeat (first | refine blk_drewN ?_ _ | refine blk_drew ?_ | refine blk_alloc ?_ _));refine blk_far ?_ NB229_234.out _;(with_reducible repeat (first | refine blk_drewN ?_ _ | refine blk_drew ?_ | refine blk_alloc ?_ _));refine blk_far ?_ NB229_234.out _;(with_reducible repeat (first | refine blk_drewN ?_ _ | refine blk_drew ?_ | refine blk_alloc ?_ _));refine blk_far ?_ NB229_234.out _;(with_reducible repeat (first | refine blk_drewN ?_ _ | refine blk_drew ?_ | refine blk_alloc ?_ _));refine blk_far ?_ NB229_234.out _;(with_reducible repeat (first | refine blk_drewN ?_ _ | refine blk_drew ?_ | refine blk_alloc ?_ _));exact BK229.out) hb);have n2_ := Aside0.mk (blk_below (g := gb234) (o := .cells #[.string ((rd_T45 t230 x13_1).f0),.string ((rd_T45 t230 x13_1).f1),.int .i64 ((rd_T45 t230 x13_1).f2),.int .i64 ((rd_T45 t230 x13_1).f3)] 45 (0,0)) (by (with_reducible repeat (first | refine blk_drewN ?_ _ | refine blk_drew ?_ | refine blk_alloc ?_ _));refine blk_put (cs := #[.string ((rd_T45 t230 x13_1).f0),.string ((rd_T45 t230 x13_1).f1),.int .i64 ((rd_T45 t230 x13_1).f2),.int .i64 0]) ?_ 3 _ rfl;(with_reducible repeat (first | refine blk_drewN ?_ _ | refine blk_drew ?_ | refine blk_alloc ?_ _));refine blk_put (cs := #[.string ((rd_T45 t230 x13_1).f0),.string ((rd_T45 t230 x13_1).f1),.int .i64 0,.int .i64 0]) ?_ 2 _ rfl;(with_reducible repeat (first | refine blk_drewN ?_ _ | refine blk_drew ?_ | refine blk_alloc ?_ _));refine blk_put (cs := #[.string ((rd_T45 t230 x13_1).f0),.string (⟨#[]⟩ : ByteArray),.int .i64 0,.int .i64 0]) ?_ 1 _ rfl;(with_reducible repeat (first | refine blk_drewN ?_ _ | refine blk_drew ?_ | refine blk_alloc ?_ _));refine blk_put (cs := #[.string (⟨#[]⟩ : ByteArray),.string (⟨#[]⟩ : ByteArray),.int .i64 0,.int .i64 0]) ?_ 0 _ rfl;(with_reducible repeat (first | refine blk_drewN ?_ _ | refine blk_drew ?_ | refine blk_alloc ?_ _));exact BK234.out) hb);have n3_ := Aside0.mk (below_step (by repeat (first | (with_reducible first | exact HB.out | apply below_alloc | apply pw_below_drewN | apply below_drew1 | refine below_set ?_ GE229.out | refine below_set ?_ GE234.out) | exact HB.out)) hb);clear HO_11;clear BK229;clear BK234;clear HB;have HO_11 := n0_;have BK229 := n1_;have BK234 := n2_;have HB := n3_;clear n0_ n1_ n2_ n3_;(try clear hb);(try clear hb2);(try clear hk);(try clear hi)) | ((with_reducible refine gate_dst (N := 8) rfl ?_);refine box_event ?hg (N := 8) ?hd (cs := #[.string (⟨#[]⟩ : ByteArray),.string (⟨#[]⟩ : ByteArray),.int .i64 0,.int .i64 0]) (t := 45) ?hr ?_;(case hd => rfl);(case hg => rfl);(case hr => first | (go_simp;done) | (go_simp;rfl));intro gb240 hg w47 hbox hb;have n0_ := Aside0.mk (Kd.R_below (Kd.R_elderB (by (with_reducible repeat (first | apply Kd.R_alloc | apply Kd.R_drewN | apply Kd.R_drew));exact HO_11.out) gb240 (Nat.le_of_eq hg.symm)) hb);have n1_ := Aside0.mk (blk_below (g := gb229) (o := .cells #[.string x230000_1,.string x230001_1,.int .i64 x230002_1,.int .i64 x230003_1] 45 (0,0)) (by (with_reducible repeat (first | refine blk_drewN ?_ _ | refine blk_drew ?_ | refine blk_alloc ?_ _));exact BK229.out) hb);have n2_ := Aside0.mk (blk_below (g := gb234) (o := .cells #[.string ((rd_T45 t230 x13_1).f0),.string ((rd_T45 t230 x13_1).f1),.int .i64 ((rd_T45 t230 x13_1).f2),.int .i64 ((rd_T45 t230 x13_1).f3)] 45 (0,0)) (by (with_reducible repeat (first | refine blk_drewN ?_ _ | refine blk_drew ?_ | refine blk_alloc ?_ _));exact BK234.out) hb);have n3_ := Aside0.mk (below_step (by repeat (first | (with_reducible first | exact HB.out | apply below_alloc | apply pw_below_drewN | apply below_drew1 | refine below_set ?_ GE229.out | refine below_set ?_ GE234.out) | exact HB.out)) hb);have n4_ := Aside0.mk (hbox);have n5_ := Aside0.mk ((by rw [hg];exact (below_size (by repeat (first | (with_reducible first | exact HB.out | apply below_alloc | apply pw_below_drewN | apply below_drew1 | refine below_set ?_ GE229.out | refine below_set ?_ GE234.out) | exact HB.out))) : w.heap.size ≤ gb240));have n6_ := Aside0.mk ((by rw [hg];exact (below_size (by repeat (first | (with_reducible first | exact HB.out | apply below_alloc | apply pw_below_drewN | apply below_drew1 | refine below_set ?_ GE229.out | refine below_set ?_ GE234.out) | exact HB.out))) : w.heap.size ≤ gb240));have n7_ := Aside0.mk ((by rw [hg];exact Nat.ne_of_lt (blk_lt (g := gb229) (o := .cells #[.string x230000_1,.string x230001_1,.int .i64 x230002_1,.int .i64 x230003_1] 45 (0,0)) (by (with_reducible repeat (first | refine blk_drewN ?_ _ | refine blk_drew ?_ | refine blk_alloc ?_ _));exact BK229.out)) : gb229 ≠ gb240));have n8_ := Aside0.mk ((by rw [hg];exact Nat.ne_of_gt (blk_lt (g := gb229) (o := .cells #[.string x230000_1,.string x230001_1,.int .i64 x230002_1,.int .i64 x230003_1] 45 (0,0)) (by (with_reducible repeat (first | refine blk_drewN ?_ _ | refine blk_drew ?_ | refine blk_alloc ?_ _));exact BK229.out)) : gb240 ≠ gb229));have n9_ := Aside0.mk ((by rw [hg];exact Nat.ne_of_lt (blk_lt (g := gb234) (o := .cells #[.string ((rd_T45 t230 x13_1).f0),.string ((rd_T45 t230 x13_1).f1),.int .i64 ((rd_T45 t230 x13_1).f2),.int .i64 ((rd_T45 t230 x13_1).f3)] 45 (0,0)) (by (with_reducible repeat (first | refine blk_drewN ?_ _ | refine blk_drew ?_ | refine blk_alloc ?_ _));exact BK234.out)) : gb234 ≠ gb240));have n10_ := Aside0.mk ((by rw [hg];exact Nat.ne_of_gt (blk_lt (g := gb234) (o := .cells #[.string ((rd_T45 t230 x13_1).f0),.string ((rd_T45 t230 x13_1).f1),.int .i64 ((rd_T45 t230 x13_1).f2),.int .i64 ((rd_T45 t230 x13_1).f3)] 45 (0,0)) (by (with_reducible repeat (first | refine blk_drewN ?_ _ | refine blk_drew ?_ | refine blk_alloc ?_ _));exact BK234.out)) : gb240 ≠ gb234));clear HO_11;clear BK229;clear BK234;clear HB;have HO_11 := n0_;have BK229 := n1_;have BK234 := n2_;have HB := n3_;have BK240 := n4_;have GW240 := n5_;have GE240 := n6_;have NB229_240 := n7_;have NB240_229 := n8_;have NB234_240 := n9_;have NB240_234 := n10_;clear n0_ n1_ n2_ n3_ n4_ n5_ n6_ n7_ n8_ n9_ n10_;clear hb hbox hg;have hnb48 := NB240_229.out;have hnc48 := NB229_240.out;have hnb49 := NB240_234.out;have hnc49 := NB234_240.out;have hcz50_0 : w47.cell? ⟨gb240,0,none⟩ = some (.string (⟨#[]⟩ : ByteArray)) := (blk_cell BK240.out 0).trans rfl;have hcz50_1 : w47.cell? ⟨gb240,1,none⟩ = some (.string (⟨#[]⟩ : ByteArray)) := (blk_cell BK240.out 1).trans rfl;have hcz50_2 : w47.cell? ⟨gb240,2,none⟩ = some (.int .i64 0) := (blk_cell BK240.out 2).trans rfl;have hcz50_3 : w47.cell? ⟨gb240,3,none⟩ = some (.int .i64 0) := (blk_cell BK240.out 3).trans rfl;have hfz50_0 := blk_frozen BK240.out 0;have hfz50_1 := blk_frozen BK240.out 1;have hfz50_2 := blk_frozen BK240.out 2;have hfz50_3 := blk_frozen BK240.out 3;have hcz51_0 : w47.cell? ⟨gb234,0,none⟩ = some (.string ((rd_T45 t230 x13_1).f0)) := (blk_cell BK234.out 0).trans rfl;have hcz51_1 : w47.cell? ⟨gb234,1,none⟩ = some (.string ((rd_T45 t230 x13_1).f1)) := (blk_cell BK234.out 1).trans rfl;have hcz51_2 : w47.cell? ⟨gb234,2,none⟩ = some (.int .i64 ((rd_T45 t230 x13_1).f2)) := (blk_cell BK234.out 2).trans rfl;have hcz51_3 : w47.cell? ⟨gb234,3,none⟩ = some (.int .i64 ((rd_T45 t230 x13_1).f3)) := (blk_cell BK234.out 3).trans rfl;have hfz51_0 := blk_frozen BK234.out 0;have hfz51_1 := blk_frozen BK234.out 1;have hfz51_2 := blk_frozen BK234.out 2;have hfz51_3 := blk_frozen BK234.out 3;have hcz52_0 : w47.cell? ⟨gb229,0,none⟩ = some (.string x230000_1) := (blk_cell BK229.out 0).trans rfl;have hcz52_1 : w47.cell? ⟨gb229,1,none⟩ = some (.string x230001_1) := (blk_cell BK229.out 1).trans rfl;have hcz52_2 : w47.cell? ⟨gb229,2,none⟩ = some (.int .i64 x230002_1) := (blk_cell BK229.out 2).trans rfl;have hcz52_3 : w47.cell? ⟨gb229,3,none⟩ = some (.int .i64 x230003_1) := (blk_cell BK229.out 3).trans rfl;have hfz52_0 := blk_frozen BK229.out 0;have hfz52_1 := blk_frozen BK229.out 1;have hfz52_2 := blk_frozen BK229.out 2;have hfz52_3 := blk_frozen BK229.out 3))
              refine bodyPost_ret (results_ct rfl _ _ gb229 45 #[.string ((rd_T45 t230 x13_1).f0),.string ((rd_T45 t230 x13_1).f1),.int .i64 ((rd_T45 t230 x13_1).f2),.int .i64 ((rd_T45 t230 x13_1).f3)] (0,0) _ rfl (by (with_reducible repeat (first | refine blk_drewN ?_ _ | refine blk_drew ?_ | refine blk_alloc ?_ _));refine blk_put (cs := #[.string ((rd_T45 t230 x13_1).f0),.string ((rd_T45 t230 x13_1).f1),.int .i64 ((rd_T45 t230 x13_1).f2),.int .i64 x230003_1]) ?_ 3 _ rfl;(with_reducible repeat (first | refine blk_drewN ?_ _ | refine blk_drew ?_ | refine blk_alloc ?_ _));refine blk_put (cs := #[.string ((rd_T45 t230 x13_1).f0),.string ((rd_T45 t230 x13_1).f1),.int .i64 x230002_1,.int .i64 x230003_1]) ?_ 2 _ rfl;(with_reducible repeat (first | refine blk_drewN ?_ _ | refine blk_drew ?_ | refine blk_alloc ?_ _));refine blk_put (cs := #[.string ((rd_T45 t230 x13_1).f0),.string x230001_1,.int .i64 x230002_1,.int .i64 x230003_1]) ?_ 1 _ rfl;(with_reducible repeat (first | refine blk_drewN ?_ _ | refine blk_drew ?_ | refine blk_alloc ?_ _));refine blk_put (cs := #[.string x230000_1,.string x230001_1,.int .i64 x230002_1,.int .i64 x230003_1]) ?_ 0 _ rfl;(with_reducible repeat (first | refine blk_drewN ?_ _ | refine blk_drew ?_ | refine blk_alloc ?_ _));refine blk_far ?_ NB229_240.out _;(with_reducible repeat (first | refine blk_drewN ?_ _ | refine blk_drew ?_ | refine blk_alloc ?_ _));refine blk_far ?_ NB229_240.out _;(with_reducible repeat (first | refine blk_drewN ?_ _ | refine blk_drew ?_ | refine blk_alloc ?_ _));refine blk_far ?_ NB229_240.out _;(with_reducible repeat (first | refine blk_drewN ?_ _ | refine blk_drew ?_ | refine blk_alloc ?_ _));refine blk_far ?_ NB229_240.out _;(with_reducible repeat (first | refine blk_drewN ?_ _ | refine blk_drew ?_ | refine blk_alloc ?_ _));exact BK229.out) Try.underlying45 rfl (by kernel_rfl)) rfl ?_
              exact ⟨by first | rfl | (simp [errW_none,errW_some] <;> rfl) | (simp [*,errW_none,errW_some] <;> rfl),by repeat (first | (with_reducible first | exact HB.out | apply below_alloc | apply pw_below_drewN | apply below_drew1 | refine below_set ?_ GE229.out | refine below_set ?_ GE234.out | refine below_set ?_ GE240.out) | exact HB.out)⟩
          · rw [if_neg c9] at H
            exact absurd H (by simp)
        · rw [if_neg c8] at H
          exact absurd H (by simp)
      · rw [if_neg c7] at H
        have c7b0 : decide (x13_1 < (t230.length : Int)) = false := decide_eq_false c7
        clear c7
        simp only [Option.some.injEq,Prod.mk.injEq] at H
        obtain ⟨rfl,rfl,rfl,rfl,rfl⟩ := H
        have hcz53_0 : wr.cell? ⟨gb229,0,none⟩ = some (.string x230000_1) := (blk_cell BK229.out 0).trans rfl
        have hcz53_1 : wr.cell? ⟨gb229,1,none⟩ = some (.string x230001_1) := (blk_cell BK229.out 1).trans rfl
        have hcz53_2 : wr.cell? ⟨gb229,2,none⟩ = some (.int .i64 x230002_1) := (blk_cell BK229.out 2).trans rfl
        have hcz53_3 : wr.cell? ⟨gb229,3,none⟩ = some (.int .i64 x230003_1) := (blk_cell BK229.out 3).trans rfl
        have hfz53_0 := blk_frozen BK229.out 0
        have hfz53_1 := blk_frozen BK229.out 1
        have hfz53_2 := blk_frozen BK229.out 2
        have hfz53_3 := blk_frozen BK229.out 3
        go_wp2
        refine bodyPost_ret (results_ct rfl _ _ gb229 45 #[.string (⟨#[]⟩ : ByteArray),.string (⟨#[]⟩ : ByteArray),.int .i64 0,.int .i64 0] (0,0) _ rfl (by (with_reducible repeat (first | refine blk_drewN ?_ _ | refine blk_drew ?_ | refine blk_alloc ?_ _));refine blk_put (cs := #[.string (⟨#[]⟩ : ByteArray),.string (⟨#[]⟩ : ByteArray),.int .i64 0,.int .i64 x230003_1]) ?_ 3 _ rfl;(with_reducible repeat (first | refine blk_drewN ?_ _ | refine blk_drew ?_ | refine blk_alloc ?_ _));refine blk_put (cs := #[.string (⟨#[]⟩ : ByteArray),.string (⟨#[]⟩ : ByteArray),.int .i64 x230002_1,.int .i64 x230003_1]) ?_ 2 _ rfl;(with_reducible repeat (first | refine blk_drewN ?_ _ | refine blk_drew ?_ | refine blk_alloc ?_ _));refine blk_put (cs := #[.string (⟨#[]⟩ : ByteArray),.string x230001_1,.int .i64 x230002_1,.int .i64 x230003_1]) ?_ 1 _ rfl;(with_reducible repeat (first | refine blk_drewN ?_ _ | refine blk_drew ?_ | refine blk_alloc ?_ _));refine blk_put (cs := #[.string x230000_1,.string x230001_1,.int .i64 x230002_1,.int .i64 x230003_1]) ?_ 0 _ rfl;(with_reducible repeat (first | refine blk_drewN ?_ _ | refine blk_drew ?_ | refine blk_alloc ?_ _));exact BK229.out) Try.underlying45 rfl (by kernel_rfl)) rfl ?_
        exact ⟨by first | rfl | (simp [errW_none,errW_some] <;> rfl) | (simp [*,errW_none,errW_some] <;> rfl),by repeat (first | (with_reducible first | exact HB.out | apply below_alloc | apply pw_below_drewN | apply below_drew1 | refine below_set ?_ GE229.out) | exact HB.out)⟩
end Go.Proofs.Ytcenlehfbgnphaa.Z
end
section
namespace Go.Proofs.Ytcenlehfbgnphaa.Z
open Go.RowKit Go.Proofs.YtcenlehfbgnphaaW.PrintWords Go.Proofs.YtcenlehfbgnphaaW.PrintLast Go.Proofs.YtcenlehfbgnphaaW.PrintMore
attribute [local go_sem] max2_int min2_int max_two min_two max_three min_three max_four min_four
set_option linter.unusedVariables false
set_option linter.unusedSimpArgs false
def safe_fits.f (a0 : Int) (a1 : Bool) : Option (Int × Int) := if a1 = true then (some (a0,0)) else (some (0,10))
set_option maxHeartbeats 8000000 in
set_option maxRecDepth 100000 in
theorem safe_fits.calls (a0 : Int) (a1 : Bool) (r1 : Int) (r2 : Int) (w : World) (h : safe_fits.f a0 a1 = some (r1,r2)) :
    Calls Try.prog 62 #[.int .i64 a0,.bool a1] w fun e w' => e = .returned (.tuple #[.int .i64 r1,.int .i64 r2]) ∧ Drawn0 w w' := by
  have H : (if a1 = true then (some (a0,0)) else (some (0,10))) = some (r1,r2) := h
  clear h
  by_cases c3 : a1 = true
  · subst c3
    have H1 : (some (a0,0)) = some (r1,r2) := by rw [if_pos rfl] at H;exact H
    clear H
    have H := H1
    clear H1
    simp only [Option.some.injEq,Prod.mk.injEq] at H
    obtain ⟨rfl,rfl⟩ := H
    go_enter Try.func62,Try.ntmps62
    go_wp2
    go_ret2
    exact ⟨by first | rfl | (simp;done) | (simp [*];done),by repeat (first | exact Drawn0.refl _ | apply Drawn0.step)⟩
  · replace c3 := Bool.eq_false_iff.mpr c3
    subst c3
    have H1 : (some (0,10)) = some (r1,r2) := by rw [if_neg (show ¬ (false = true) by decide)] at H;exact H
    clear H
    have H := H1
    clear H1
    simp only [Option.some.injEq,Prod.mk.injEq] at H
    obtain ⟨rfl,rfl⟩ := H
    go_enter Try.func62,Try.ntmps62
    go_wp2
    go_ret2
    exact ⟨by first | rfl | (simp;done) | (simp [*];done),by repeat (first | exact Drawn0.refl _ | apply Drawn0.step)⟩
end Go.Proofs.Ytcenlehfbgnphaa.Z
end
section
namespace Go.Proofs.Ytcenlehfbgnphaa.Z
set_option linter.unusedVariables false
set_option linter.unusedSimpArgs false
open Go.RowKit Go.Proofs.YtcenlehfbgnphaaW.PrintWords Go.Proofs.YtcenlehfbgnphaaW.PrintLast Go.Proofs.YtcenlehfbgnphaaW.PrintMore
def sumCells (x0 x1 x2 : Int) : Array Value := #[.int .i64 x0,.int .i64 x1,.int .i64 x2]
end Go.Proofs.Ytcenlehfbgnphaa.Z
end
section
namespace Go.Proofs.Ytcenlehfbgnphaa.Z
open Go.RowKit Go.Proofs.YtcenlehfbgnphaaW.PrintWords Go.Proofs.YtcenlehfbgnphaaW.PrintLast Go.Proofs.YtcenlehfbgnphaaW.PrintMore
attribute [local go_sem] max2_int min2_int max_two min_two max_three min_three max_four min_four
set_option linter.unusedVariables false
set_option linter.unusedSimpArgs false
def safe_Add.f (a0 : Int) (a1 : Int) : Option (Int × Int) := (safe_fits.f (wrap64 (a0 + a1)) (decide ((Go.bits .and .i64 (Go.bits .xor .i64 a0 (wrap64 (a0 + a1))) (Go.bits .xor .i64 a1 (wrap64 (a0 + a1)))) ≥ 0))).bind fun bt101 => (some (bt101.1,bt101.2))
set_option maxHeartbeats 8000000 in
set_option maxRecDepth 100000 in
theorem safe_Add.calls (a0 : Int) (a1 : Int) (r1 : Int) (r2 : Int) (w : World) (h : safe_Add.f a0 a1 = some (r1,r2)) :
    Calls Try.prog 23 #[.int .i64 a0,.int .i64 a1] w fun e w' => e = .returned (.tuple #[.int .i64 r1,.int .i64 r2]) ∧ Drawn0 w w' := by
  have H : ((safe_fits.f (wrap64 (a0 + a1)) (decide ((Go.bits .and .i64 (Go.bits .xor .i64 a0 (wrap64 (a0 + a1))) (Go.bits .xor .i64 a1 (wrap64 (a0 + a1)))) ≥ 0))).bind fun bt101 => (some (bt101.1,bt101.2))) = some (r1,r2) := h
  clear h
  replace H := Option.bind_eq_some_iff.mp H
  obtain ⟨⟨t101,t102⟩,A30,H⟩ := H
  replace H : (some (t101,t102)) = some (r1,r2) := H
  have A3 := Aside0.mk A30
  clear A30
  simp only [Option.some.injEq,Prod.mk.injEq] at H
  obtain ⟨rfl,rfl⟩ := H
  go_enter Try.func23,Try.ntmps23
  go_wp2_with (first | ((with_reducible refine gate_callee (f := 62) rfl ?_);refine goesL_ (some 19) rfl rfl Try.func62 (by kernel_rfl) rfl #[.int .i64 (wrap64 (a0 + a1)),.bool (decide ((Go.bits .and .i64 (Go.bits .xor .i64 a0 (wrap64 (a0 + a1))) (Go.bits .xor .i64 a1 (wrap64 (a0 + a1)))) ≥ 0))] rfl (by (try simp only [List.map_toArray,List.map_cons,List.map_nil]);first | done | rfl | (simp only [List.length_drop,List.length_take];rfl)) ?_;(with_reducible refine (safe_fits.calls (wrap64 (a0 + a1)) (decide ((Go.bits .and .i64 (Go.bits .xor .i64 a0 (wrap64 (a0 + a1))) (Go.bits .xor .i64 a1 (wrap64 (a0 + a1)))) ≥ 0)) t101 t102 _ A3.out).mono ?_);rintro e w' ⟨rfl,⟨nd,rfl⟩⟩;refine ⟨_,rfl,?_⟩))
  go_ret2
  exact ⟨by first | rfl | (simp;done) | (simp [*];done),by repeat (first | exact Drawn0.refl _ | apply Drawn0.step)⟩
end Go.Proofs.Ytcenlehfbgnphaa.Z
end
section
namespace Go.Proofs.Ytcenlehfbgnphaa.Z
open Go.RowKit Go.Proofs.YtcenlehfbgnphaaW.PrintWords Go.Proofs.YtcenlehfbgnphaaW.PrintLast Go.Proofs.YtcenlehfbgnphaaW.PrintMore
attribute [local go_sem] max2_int min2_int max_two min_two max_three min_three max_four min_four
set_option linter.unusedVariables false
set_option linter.unusedSimpArgs false
def safe_Sub.f (a0 : Int) (a1 : Int) : Option (Int × Int) := (safe_fits.f (wrap64 (a0 - a1)) (decide ((Go.bits .and .i64 (Go.bits .xor .i64 a0 a1) (Go.bits .xor .i64 a0 (wrap64 (a0 - a1)))) ≥ 0))).bind fun bt153 => (some (bt153.1,bt153.2))
set_option maxHeartbeats 8000000 in
set_option maxRecDepth 100000 in
theorem safe_Sub.calls (a0 : Int) (a1 : Int) (r1 : Int) (r2 : Int) (w : World) (h : safe_Sub.f a0 a1 = some (r1,r2)) :
    Calls Try.prog 25 #[.int .i64 a0,.int .i64 a1] w fun e w' => e = .returned (.tuple #[.int .i64 r1,.int .i64 r2]) ∧ Drawn0 w w' := by
  have H : ((safe_fits.f (wrap64 (a0 - a1)) (decide ((Go.bits .and .i64 (Go.bits .xor .i64 a0 a1) (Go.bits .xor .i64 a0 (wrap64 (a0 - a1)))) ≥ 0))).bind fun bt153 => (some (bt153.1,bt153.2))) = some (r1,r2) := h
  clear h
  replace H := Option.bind_eq_some_iff.mp H
  obtain ⟨⟨t153,t154⟩,A30,H⟩ := H
  replace H : (some (t153,t154)) = some (r1,r2) := H
  have A3 := Aside0.mk A30
  clear A30
  simp only [Option.some.injEq,Prod.mk.injEq] at H
  obtain ⟨rfl,rfl⟩ := H
  go_enter Try.func25,Try.ntmps25
  go_wp2_with (first | ((with_reducible refine gate_callee (f := 62) rfl ?_);refine goesL_ (some 19) rfl rfl Try.func62 (by kernel_rfl) rfl #[.int .i64 (wrap64 (a0 - a1)),.bool (decide ((Go.bits .and .i64 (Go.bits .xor .i64 a0 a1) (Go.bits .xor .i64 a0 (wrap64 (a0 - a1)))) ≥ 0))] rfl (by (try simp only [List.map_toArray,List.map_cons,List.map_nil]);first | done | rfl | (simp only [List.length_drop,List.length_take];rfl)) ?_;(with_reducible refine (safe_fits.calls (wrap64 (a0 - a1)) (decide ((Go.bits .and .i64 (Go.bits .xor .i64 a0 a1) (Go.bits .xor .i64 a0 (wrap64 (a0 - a1)))) ≥ 0)) t153 t154 _ A3.out).mono ?_);rintro e w' ⟨rfl,⟨nd,rfl⟩⟩;refine ⟨_,rfl,?_⟩))
  go_ret2
  exact ⟨by first | rfl | (simp;done) | (simp [*];done),by repeat (first | exact Drawn0.refl _ | apply Drawn0.step)⟩
end Go.Proofs.Ytcenlehfbgnphaa.Z
end
section
namespace Go.Proofs.Ytcenlehfbgnphaa.Z
open Go.RowKit Go.Proofs.YtcenlehfbgnphaaW.PrintWords Go.Proofs.YtcenlehfbgnphaaW.PrintLast Go.Proofs.YtcenlehfbgnphaaW.PrintMore
def In64 (x : Int) : Prop := -9223372036854775808 ≤ x ∧ x ≤ 9223372036854775807
theorem wrap_toInt (x : BitVec 64) : IntKind.i64.wrap (x.toNat : Int) = x.toInt := by
  rw [Go.IntKind.wrap_i64,BitVec.toInt_eq_toNat_bmod,Int.bmod_def]
  have := x.isLt
  split <;> omega
theorem and_i64 (a b : Int) : Go.bits .and .i64 a b = (BitVec.ofInt 64 a &&& BitVec.ofInt 64 b).toInt := wrap_toInt _
end Go.Proofs.Ytcenlehfbgnphaa.Z
end
section
namespace Go.Proofs.Ytcenlehfbgnphaa.Z
set_option linter.unusedVariables false
set_option linter.unusedSimpArgs false
open Go.RowKit Go.Proofs.YtcenlehfbgnphaaW.PrintWords Go.Proofs.YtcenlehfbgnphaaW.PrintLast Go.Proofs.YtcenlehfbgnphaaW.PrintMore
theorem only_refl (a : World) (g : Nat) : a.grownBy a (some g) := ⟨rfl,rfl,rfl,Nat.le_refl _,fun _ _ _ => rfl⟩
theorem only_drew {a w : World} {row : Option Nat} (h : a.grownBy w row) : a.grownBy w.drew row := ⟨h.os,h.tape,h.output,h.size,h.block⟩
theorem only_setCell {a w : World} {g : Nat} {p : Addr} (h : a.grownBy w (some g)) (hp : p.block = g ∨ a.heap.size ≤ p.block) (u : Value) : a.grownBy (w.setCell p u) (some g) :=
  ⟨h.os,h.tape,h.output,by simpa [World.setCell] using h.size,fun i hi hne => (Below.heap_setCell w p u i (by
    rintro rfl
    rcases hp with hp | hp
    · exact hne (by rw [hp])
    · omega)).trans (h.block i hi hne)⟩
theorem only_below {a w : World} {g B : Nat} (h : a.grownBy w (some g)) (hB : B ≤ g) (hg : g < a.heap.size) : Below B a w :=
  ⟨h.os,h.tape,h.output,h.size,fun i hi => h.block i (by omega) (by intro e;injection e with e;omega)⟩
theorem only_other {a w : World} {g k : Nat} {o : Obj} (h : a.grownBy w (some g)) (hk : a.heap[k]? = some o) (hne : k ≠ g) : w.heap[k]? = some o := by
  have hl : k < a.heap.size := by
    rcases Nat.lt_or_ge k a.heap.size with c | c
    · exact c
    · rw [Array.getElem?_eq_none c] at hk;exact absurd hk (by simp)
  rw [h.block k hl (by intro e;injection e with e;exact hne e)];exact hk
set_option maxHeartbeats 4000000 in
set_option maxRecDepth 100000 in
theorem sum_putg (g : Nat) (x0 x1 x2 n t L M X : Int) (w : World) (h : w.heap[g]? = some (.cells (sumCells x0 x1 x2) 26 (0,0))) (t0 : -1073741824 ≤ t) (t1 : t ≤ 1073741824)
    (hL : wrap64 (x2 + wrap64 (bits BinOp.and IntKind.i64 n 4294967295 * t)) = L) (hM : wrap64 (wrap64 (x1 + wrap64 (n / 4294967296 * t)) + L / 4294967296) = M) (hX : wrap64 (x0 + M / 4294967296) = X) :
    Calls Try.prog 15 #[.pointer (some ⟨g,0,none⟩),.int .i64 n,.int .i64 t] w fun e w' => e = .returned (.int .i64 0) ∧ w'.heap[g]? = some (.cells (sumCells X (bits BinOp.and IntKind.i64 M 4294967295) (bits BinOp.and IntKind.i64 L 4294967295)) 26 (0,0)) ∧ w.grownBy w' (some g) := by
  have z0 := blk_frozen h 0
  have z1 := blk_frozen h 1
  have z2 := blk_frozen h 2
  have c0 := blk_cell h 0
  have c1 := blk_cell h 1
  have c2 := blk_cell h 2
  simp only [sumCells,List.getElem?_toArray,List.getElem?_cons_zero,List.getElem?_cons_succ] at c0 c1 c2
  have H := Aside0.mk h
  have HL := Aside0.mk hL
  have HM := Aside0.mk hM
  have HX := Aside0.mk hX
  clear h hL hM hX
  go_enter Try.func15,Try.ntmps15
  go_wp2
  rw [HL.out,HM.out]
  go_region
  rw [HX.out]
  have H1 : (w.setCell ⟨g,0,none⟩ (.int .i64 X)).heap[g]? = some (.cells #[.int .i64 X,.int .i64 x1,.int .i64 x2] 26 (0,0)) := blk_put H.out 0 _ rfl
  have B1 := only_setCell (p := ⟨g,0,none⟩) (only_refl w g) (Or.inl rfl) (.int .i64 X)
  generalize w.setCell ⟨g,0,none⟩ (.int .i64 X) = W0 at H1 B1 ⊢
  have H1' := blk_drew H1
  have B1' := only_drew B1
  generalize W0.drew = W1 at H1' B1' ⊢
  clear H1 B1 H
  have H2 := blk_drew H1'
  have B2 := only_drew B1'
  go_wp2
  refine start_ (n := 14) (S := fun w' => True) (ds := []) #[false,false,false,false,false,false,false,false,false,false,false,false,false,false] (by kernel_rfl) rfl rfl trivial (fun hHeld => ?_)
  refine pure_ (i := 0) (N := some 53) (v := ?_) (a' := ?_) #[true,false,false,false,false,false,false,false,false,false,false,false,false,false] rfl rfl (by kernel_rfl) (fun _ _ _ h => h) (Or.inl ⟨by rfl,?_⟩) ?_ ?_
  rotate_left
  · intro w'
    go_simp
    with_reducible rfl
  rotate_left
  · simp only [Act.put,zA,zB,zC,i64_w,i32_w]
    rfl
  refine pure_ (i := 1) (N := some 54) (v := ?_) (a' := ?_) #[true,true,false,false,false,false,false,false,false,false,false,false,false,false] rfl rfl (by kernel_rfl) (fun _ _ _ h => h) (Or.inl ⟨by rfl,?_⟩) ?_ ?_
  rotate_left
  · intro w'
    go_simp
    with_reducible rfl
  rotate_left
  · simp only [Act.put,zA,zB,zC,i64_w,i32_w]
    rfl
  refine pure_ (i := 2) (N := some 55) (v := ?_) (a' := ?_) #[true,true,true,false,false,false,false,false,false,false,false,false,false,false] rfl rfl (by kernel_rfl) (fun _ _ _ h => h) (Or.inl ⟨by rfl,?_⟩) ?_ ?_
  rotate_left
  · intro w'
    go_simp
    with_reducible rfl
  rotate_left
  · simp only [Act.put,zA,zB,zC,i64_w,i32_w]
    rfl
  refine pure_ (i := 3) (N := some 56) (v := ?_) (a' := ?_) #[true,true,true,true,false,false,false,false,false,false,false,false,false,false] rfl rfl (by kernel_rfl) (fun _ _ _ h => h) (Or.inl ⟨by rfl,?_⟩) ?_ ?_
  rotate_left
  · intro w'
    go_simp
    with_reducible rfl
  rotate_left
  · simp only [Act.put,zA,zB,zC,i64_w,i32_w]
    rfl
  refine pure_ (i := 4) (N := some 57) (v := ?_) (a' := ?_) #[true,true,true,true,true,false,false,false,false,false,false,false,false,false] rfl rfl (by kernel_rfl) (fun _ _ _ h => h) (Or.inl ⟨by rfl,?_⟩) ?_ ?_
  rotate_left
  · intro w'
    go_simp
    with_reducible rfl
  rotate_left
  · simp only [Act.put,zA,zB,zC,i64_w,i32_w]
    rfl
  refine pure_ (i := 5) (N := some 58) (v := ?_) (a' := ?_) #[true,true,true,true,true,true,false,false,false,false,false,false,false,false] rfl rfl (by kernel_rfl) (fun _ _ _ h => h) (Or.inl ⟨by rfl,?_⟩) ?_ ?_
  rotate_left
  · intro w'
    go_simp
    with_reducible rfl
  rotate_left
  · simp only [Act.put,zA,zB,zC,i64_w,i32_w]
    rfl
  refine pure_ (i := 6) (N := some 59) (v := ?_) (a' := ?_) #[true,true,true,true,true,true,true,false,false,false,false,false,false,false] rfl rfl (by kernel_rfl) (fun _ _ _ h => h) (Or.inl ⟨by rfl,?_⟩) ?_ ?_
  rotate_left
  · intro w'
    go_simp
    with_reducible rfl
  rotate_left
  · simp only [Act.put,zA,zB,zC,i64_w,i32_w]
    rfl
  refine pure_ (i := 7) (N := some 60) (v := ?_) (a' := ?_) #[true,true,true,true,true,true,true,true,false,false,false,false,false,false] rfl rfl (by kernel_rfl) (fun _ _ _ h => h) (Or.inl ⟨by rfl,?_⟩) ?_ ?_
  rotate_left
  · intro w'
    go_simp
    with_reducible rfl
  rotate_left
  · simp only [Act.put,zA,zB,zC,i64_w,i32_w]
    rfl
  refine pure_ (i := 8) (N := some 61) (v := ?_) (a' := ?_) #[true,true,true,true,true,true,true,true,true,false,false,false,false,false] rfl rfl (by kernel_rfl) (fun _ _ _ h => h) (Or.inl ⟨by rfl,?_⟩) ?_ ?_
  rotate_left
  · intro w'
    go_simp
    with_reducible rfl
  rotate_left
  · simp only [Act.put,zA,zB,zC,i64_w,i32_w]
    rfl
  refine pure_ (i := 10) (N := some 62) (v := ?_) (a' := ?_) #[true,true,true,true,true,true,true,true,true,false,true,false,false,false] rfl rfl (by kernel_rfl) (fun _ _ _ h => h) (Or.inl ⟨by rfl,?_⟩) ?_ ?_
  rotate_left
  · intro w'
    go_simp
    with_reducible rfl
  rotate_left
  · simp only [Act.put,zA,zB,zC,i64_w,i32_w]
    rfl
  refine pure_ (i := 11) (N := some 63) (v := ?_) (a' := ?_) #[true,true,true,true,true,true,true,true,true,false,true,true,false,false] rfl rfl (by kernel_rfl) (fun _ _ _ h => h) (Or.inl ⟨by rfl,?_⟩) ?_ ?_
  rotate_left
  · intro w'
    go_simp
    with_reducible rfl
  rotate_left
  · simp only [Act.put,zA,zB,zC,i64_w,i32_w]
    rfl
  refine one_ (i := 9) (N := none) #[true,true,true,true,true,true,true,true,true,true,true,true,false,false] rfl rfl (by kernel_rfl) (by decide) (fun K hK => ?_)
  refine skip_ (w1 := (W1.drew).setCell ⟨g,1,none⟩ (.int .i64 (bits BinOp.and IntKind.i64 M 4294967295))) (by rfl) rfl ?_ ?_
  · have z := blk_frozen H2 1
    have c := blk_cell H2 1
    simp only [List.getElem?_toArray,List.getElem?_cons_zero,List.getElem?_cons_succ] at c
    go_simp
    try with_reducible rfl
  refine hK.out _ _ trivial (fun hHeld => ?_)
  clear hK K
  have H3 : ((W1.drew).setCell ⟨g,1,none⟩ (.int .i64 (bits BinOp.and IntKind.i64 M 4294967295))).heap[g]? = some (.cells #[.int .i64 X,.int .i64 (bits BinOp.and IntKind.i64 M 4294967295),.int .i64 x2] 26 (0,0)) := blk_put H2 1 _ rfl
  have B3 := only_setCell (p := ⟨g,1,none⟩) B2 (Or.inl rfl) (.int .i64 (bits BinOp.and IntKind.i64 M 4294967295))
  generalize (W1.drew).setCell ⟨g,1,none⟩ (.int .i64 (bits BinOp.and IntKind.i64 M 4294967295)) = W2 at H3 B3 ⊢
  refine pure_ (i := 12) (N := some 64) (v := ?_) (a' := ?_) #[true,true,true,true,true,true,true,true,true,true,true,true,true,false] rfl rfl (by kernel_rfl) (fun _ _ _ h => h) (Or.inl ⟨by rfl,?_⟩) ?_ ?_
  rotate_left
  · intro w'
    go_simp
    with_reducible rfl
  rotate_left
  · simp only [Act.put,zA,zB,zC,i64_w,i32_w]
    rfl
  refine one_ (i := 13) (N := none) #[true,true,true,true,true,true,true,true,true,true,true,true,true,true] rfl rfl (by kernel_rfl) (by decide) (fun K hK => ?_)
  refine skip_ (w1 := (W2).setCell ⟨g,2,none⟩ (.int .i64 (bits BinOp.and IntKind.i64 L 4294967295))) (by rfl) rfl ?_ ?_
  · have z := blk_frozen H3 2
    have c := blk_cell H3 2
    simp only [List.getElem?_toArray,List.getElem?_cons_zero,List.getElem?_cons_succ] at c
    go_simp
    try with_reducible rfl
  refine hK.out _ _ trivial (fun hHeld => ?_)
  clear hK K
  refine done_ (by kernel_rfl) ?_
  go_wp2
  go_ret
  exact ⟨rfl,blk_put H3 2 _ rfl,only_setCell B3 (Or.inl rfl) _⟩
end Go.Proofs.Ytcenlehfbgnphaa.Z
end
section
namespace Go.Proofs.Ytcenlehfbgnphaa.Z
set_option linter.unusedVariables false
set_option linter.unusedSimpArgs false
open Go.RowKit Go.Proofs.YtcenlehfbgnphaaW.PrintWords Go.Proofs.YtcenlehfbgnphaaW.PrintLast Go.Proofs.YtcenlehfbgnphaaW.PrintMore
theorem toNat_ofInt64 (a : Int) : ((BitVec.ofInt 64 a).toNat : Int) = a % 18446744073709551616 := by
  rw [BitVec.toNat_ofInt]
  have : 0 ≤ a % ((2 ^ 64 : Nat) : Int) := Int.emod_nonneg _ (by decide)
  rw [Int.toNat_of_nonneg this]
  rfl
theorem toInt_small (x : BitVec 64) (h : x.toNat < 9223372036854775808) : x.toInt = (x.toNat : Int) := by
  rw [BitVec.toInt_eq_toNat_bmod,Int.bmod_def]
  split <;> omega
theorem and_low64 (n : Int) : bits BinOp.and IntKind.i64 n 4294967295 = n % 4294967296 := by
  rw [and_i64]
  have e : (BitVec.ofInt 64 n &&& BitVec.ofInt 64 4294967295).toNat = (BitVec.ofInt 64 n).toNat % 4294967296 := by
    rw [BitVec.toNat_and,show (BitVec.ofInt 64 4294967295).toNat = 2 ^ 32 - 1 by decide +kernel,Nat.and_two_pow_sub_one_eq_mod]
  have h := toNat_ofInt64 n
  rw [toInt_small _ (by rw [e];omega),e]
  omega
structure SumAt (w : World) (g : Nat) (S : Int) : Prop where
  out : ∃ x0 x1 x2,w.heap[g]? = some (.cells (sumCells x0 x1 x2) 26 (0,0)) ∧ 0 ≤ x1 ∧ x1 < 4294967296 ∧ 0 ≤ x2 ∧ x2 < 4294967296 ∧ S = x0 * 18446744073709551616 + x1 * 4294967296 + x2
structure SumOk (S : Int) : Prop where
  lo : -1267650600228229401496703205376 ≤ S
  hi : S ≤ 1267650600228229401496703205376
theorem SumAt.new (w : World) : SumAt (w.alloc (Obj.cells (sumCells 0 0 0) 26 (0,0))) w.heap.size 0 := ⟨0,0,0,blk_new w _,by omega,by omega,by omega,by omega,by omega⟩
theorem SumAt.drawn {w w' : World} {g : Nat} {S : Int} (h : SumAt w g S) (d : Drawn0 w w') : SumAt w' g S := by
  obtain ⟨n,rfl⟩ := d.out
  obtain ⟨x0,x1,x2,hh,r⟩ := h.out
  exact ⟨x0,x1,x2,blk_drewN hh n,r⟩
theorem SumAt.lt {w : World} {g : Nat} {S : Int} (h : SumAt w g S) : g < w.heap.size := by
  obtain ⟨x0,x1,x2,hh,r⟩ := h.out
  rcases Nat.lt_or_ge g w.heap.size with c | c
  · exact c
  · rw [Array.getElem?_eq_none c] at hh;exact absurd hh (by simp)
theorem prod_bd {a t A : Int} (a0 : -A ≤ a) (a1 : a ≤ A) (t0 : -1073741824 ≤ t) (t1 : t ≤ 1073741824) : -(A * 1073741824) ≤ a * t ∧ a * t ≤ A * 1073741824 := by
  have hA : 0 ≤ A := by omega
  have h1 : (a.natAbs : Int) * (t.natAbs : Int) ≤ A * 1073741824 := Int.mul_le_mul (by omega) (by omega) (by omega) hA
  have h2 : ((a * t).natAbs : Int) = (a.natAbs : Int) * (t.natAbs : Int) := by rw [Int.natAbs_mul];rfl
  omega
theorem putM_parts (x0 x1 x2 P Q : Int) (a0 : 0 ≤ x1) (a1 : x1 < 4294967296) (b0 : 0 ≤ x2) (b1 : x2 < 4294967296) (p0 : -4611686018427387904 ≤ P) (p1 : P ≤ 4611686018427387904) (q0 : -2305843009213693952 ≤ Q) (q1 : Q ≤ 2305843009213693952) (c0 : -1000000000000000000 ≤ x0) (c1 : x0 ≤ 1000000000000000000) :
    wrap64 (x2 + wrap64 P) = x2 + P ∧ wrap64 (wrap64 (x1 + wrap64 Q) + (x2 + P) / 4294967296) = x1 + Q + (x2 + P) / 4294967296 ∧ wrap64 (x0 + (x1 + Q + (x2 + P) / 4294967296) / 4294967296) = x0 + (x1 + Q + (x2 + P) / 4294967296) / 4294967296 := by
  refine ⟨?_,?_,?_⟩ <;> unfold wrap64 <;> omega
theorem sum_put (g : Nat) (S n t : Int) (w : World) (h : SumAt w g S) (hs : SumOk S) (hn : In64 n) (t0 : -1073741824 ≤ t) (t1 : t ≤ 1073741824) :
    Calls Try.prog 15 #[.pointer (some ⟨g,0,none⟩),.int .i64 n,.int .i64 t] w fun e w' => e = .returned (.int .i64 0) ∧ SumAt w' g (S + n * t) ∧ w.grownBy w' (some g) := by
  obtain ⟨x0,x1,x2,hh,a0,a1,b0,b1,hS⟩ := h.out
  obtain ⟨n0,n1⟩ := hn
  obtain ⟨s0,s1⟩ := hs
  obtain ⟨p0,p1⟩ := prod_bd (a := n % 4294967296) (A := 4294967296) (by omega) (by omega) t0 t1
  obtain ⟨q0,q1⟩ := prod_bd (a := n / 4294967296) (A := 2147483648) (by omega) (by omega) t0 t1
  have hnt : n * t = n / 4294967296 * t * 4294967296 + n % 4294967296 * t := by
    have e : n = n / 4294967296 * 4294967296 + n % 4294967296 := by omega
    generalize n / 4294967296 = u at *
    generalize n % 4294967296 = v at *
    rw [e,Int.add_mul,Int.mul_right_comm]
  obtain ⟨hL,hM,hX⟩ := putM_parts x0 x1 x2 (n % 4294967296 * t) (n / 4294967296 * t) a0 a1 b0 b1 (by omega) (by omega) (by omega) (by omega) (by omega) (by omega)
  have hL' : wrap64 (x2 + wrap64 (bits BinOp.and IntKind.i64 n 4294967295 * t)) = x2 + n % 4294967296 * t := by rw [and_low64];exact hL
  refine (sum_putg g x0 x1 x2 n t _ _ _ w hh t0 t1 hL' hM hX).mono ?_
  rintro e w' ⟨rfl,hc,hg⟩
  refine ⟨rfl,⟨⟨_,_,_,hc,?_⟩⟩,hg⟩
  rw [and_low64,and_low64,hnt,hS]
  clear hL hL' hM hX hc hg
  generalize n % 4294967296 * t = P at *
  generalize n / 4294967296 * t = Q at *
  omega
end Go.Proofs.Ytcenlehfbgnphaa.Z
end
section
namespace Go.Proofs.Ytcenlehfbgnphaa.Z
set_option linter.unusedVariables false
set_option linter.unusedSimpArgs false
open Go.RowKit Go.Proofs.YtcenlehfbgnphaaW.PrintWords Go.Proofs.YtcenlehfbgnphaaW.PrintLast Go.Proofs.YtcenlehfbgnphaaW.PrintMore
set_option maxRecDepth 100000 in
theorem sum_eqd (d : Nat) (x0 x1 x2 : Int) (w : World) : (Op.equalIn (d + 1 + 1) 24 (Value.agg #[Value.int IntKind.i64 x0,Value.int IntKind.i64 x1,Value.int IntKind.i64 x2]) (Value.agg #[Value.int IntKind.i64 0,Value.int IntKind.i64 0,Value.int IntKind.i64 0])).run Try.prog w = .ok (x0 == 0 && (x1 == 0 && x2 == 0)) w := by
  have hu : Try.prog.underlying 24 = some (.array 3 2) := by kernel_rfl
  obtain ⟨i,hi⟩ : ∃ i,Try.prog.info? 2 = some i := by
    have : (Try.prog.info? 2).isSome = true := by kernel_rfl
    exact Option.isSome_iff_exists.1 this
  have hc : Try.prog.cellsOf 2 = 1 := by kernel_rfl
  have h2 : Try.prog.underlying 2 = some (.int .i64) := by kernel_rfl
  have p0 (a b c : Value) : (part 2 #[a,b,c] 0).run Try.prog w = .ok a w := by kernel_rfl
  have p1 (a b c : Value) : (part 2 #[a,b,c] 1).run Try.prog w = .ok b w := by kernel_rfl
  have p2 (a b c : Value) : (part 2 #[a,b,c] 2).run Try.prog w = .ok c w := by kernel_rfl
  have hr : List.range 3 = [0,1,2] := rfl
  rw [run_equalIn_array w (d + 1) _ _ hu hi,hc,hr]
  simp only [Op.eqItems,Sem.run_bind,Nat.zero_mul,Nat.one_mul,Nat.mul_one,p0,p1,p2,Result.andThen_ok,run_equalIn_int w d 2 .i64 .i64 _ _ h2,Sem.run_ite]
  cases x0 == 0 <;> cases x1 == 0 <;> cases x2 == 0 <;> simp [Sem.run_bind,p1,p2,run_equalIn_int w d 2 .i64 .i64 _ _ h2,Sem.run_pure]
set_option maxRecDepth 100000 in
theorem sum_eqs (x0 x1 x2 : Int) (w : World) : (Op.equalIn 10000 24 (Value.agg #[Value.int IntKind.i64 x0,Value.int IntKind.i64 x1,Value.int IntKind.i64 x2]) (Value.agg #[Value.int IntKind.i64 0,Value.int IntKind.i64 0,Value.int IntKind.i64 0])).run Try.prog w = .ok (x0 == 0 && (x1 == 0 && x2 == 0)) w := sum_eqd 9998 x0 x1 x2 w
set_option maxHeartbeats 2000000 in
set_option maxRecDepth 100000 in
theorem sum_sign_z (g : Nat) (w : World) (h : w.heap[g]? = some (.cells (sumCells 0 0 0) 26 (0,0))) :
    Calls Try.prog 20 #[.pointer (some ⟨g,0,none⟩)] w fun e w' => e = .returned (.int .i64 0) ∧ Drawn0 w w' := by
  have c0 := blk_cell h 0
  have c1 := blk_cell h 1
  have c2 := blk_cell h 2
  simp only [sumCells,List.getElem?_toArray,List.getElem?_cons_zero,List.getElem?_cons_succ] at c0 c1 c2
  have heq : ∀ w : World,(Op.equalIn 10000 24 (Value.agg #[Value.int IntKind.i64 0,Value.int IntKind.i64 0,Value.int IntKind.i64 0]) (Value.agg #[Value.int IntKind.i64 0,Value.int IntKind.i64 0,Value.int IntKind.i64 0])).run Try.prog w = .ok true w := sum_eqs 0 0 0
  clear h
  go_enter Try.func20,Try.ntmps20
  go_wp2
  go_ret
  exact ⟨rfl,Drawn0.refl _⟩
set_option maxHeartbeats 2000000 in
set_option maxRecDepth 100000 in
theorem sum_sign_n (g : Nat) (x0 x1 x2 : Int) (w : World) (h : w.heap[g]? = some (.cells (sumCells x0 x1 x2) 26 (0,0))) (hz : (x0 == 0 && (x1 == 0 && x2 == 0)) = false) (hn : decide (x0 < 0) = true) :
    Calls Try.prog 20 #[.pointer (some ⟨g,0,none⟩)] w fun e w' => e = .returned (.int .i64 (-1)) ∧ Drawn0 w w' := by
  have c0 := blk_cell h 0
  have c1 := blk_cell h 1
  have c2 := blk_cell h 2
  simp only [sumCells,List.getElem?_toArray,List.getElem?_cons_zero,List.getElem?_cons_succ] at c0 c1 c2
  have heq : ∀ w : World,(Op.equalIn 10000 24 (Value.agg #[Value.int IntKind.i64 x0,Value.int IntKind.i64 x1,Value.int IntKind.i64 x2]) (Value.agg #[Value.int IntKind.i64 0,Value.int IntKind.i64 0,Value.int IntKind.i64 0])).run Try.prog w = .ok false w := fun w => by rw [sum_eqs,hz]
  clear h hz
  go_enter Try.func20,Try.ntmps20
  go_wp2
  go_ret
  exact ⟨rfl,Drawn0.refl _⟩
set_option maxHeartbeats 2000000 in
set_option maxRecDepth 100000 in
theorem sum_sign_p (g : Nat) (x0 x1 x2 : Int) (w : World) (h : w.heap[g]? = some (.cells (sumCells x0 x1 x2) 26 (0,0))) (hz : (x0 == 0 && (x1 == 0 && x2 == 0)) = false) (hn : decide (x0 < 0) = false) :
    Calls Try.prog 20 #[.pointer (some ⟨g,0,none⟩)] w fun e w' => e = .returned (.int .i64 1) ∧ Drawn0 w w' := by
  have c0 := blk_cell h 0
  have c1 := blk_cell h 1
  have c2 := blk_cell h 2
  simp only [sumCells,List.getElem?_toArray,List.getElem?_cons_zero,List.getElem?_cons_succ] at c0 c1 c2
  have heq : ∀ w : World,(Op.equalIn 10000 24 (Value.agg #[Value.int IntKind.i64 x0,Value.int IntKind.i64 x1,Value.int IntKind.i64 x2]) (Value.agg #[Value.int IntKind.i64 0,Value.int IntKind.i64 0,Value.int IntKind.i64 0])).run Try.prog w = .ok false w := fun w => by rw [sum_eqs,hz]
  clear h hz
  go_enter Try.func20,Try.ntmps20
  go_wp2
  go_ret
  exact ⟨rfl,Drawn0.refl _⟩
def sgnF (S : Int) : Int := if S < 0 then -1 else if S = 0 then 0 else 1
theorem sum_sgn (g : Nat) (S : Int) (w : World) (h : SumAt w g S) : Calls Try.prog 20 #[.pointer (some ⟨g,0,none⟩)] w fun e w' => e = .returned (.int .i64 (sgnF S)) ∧ Drawn0 w w' := by
  obtain ⟨x0,x1,x2,hh,a0,a1,b0,b1,hS⟩ := h.out
  unfold sgnF
  by_cases z : S = 0
  · obtain rfl : x0 = 0 := by omega
    obtain rfl : x1 = 0 := by omega
    obtain rfl : x2 = 0 := by omega
    rw [if_neg (by omega),if_pos z]
    exact sum_sign_z g w hh
  · have hz : (x0 == 0 && (x1 == 0 && x2 == 0)) = false := by
      rw [Bool.eq_false_iff]
      intro hc
      simp only [Bool.and_eq_true,beq_iff_eq] at hc
      omega
    by_cases n : x0 < 0
    · rw [if_pos (by omega)]
      exact sum_sign_n g x0 x1 x2 w hh hz (decide_eq_true n)
    · rw [if_neg (by omega),if_neg z]
      exact sum_sign_p g x0 x1 x2 w hh hz (decide_eq_false n)
end Go.Proofs.Ytcenlehfbgnphaa.Z
end
section
namespace Go.Proofs.Ytcenlehfbgnphaa.Z
set_option linter.unusedVariables false
set_option linter.unusedSimpArgs false
open Go.RowKit Go.Proofs.YtcenlehfbgnphaaW.PrintWords Go.Proofs.YtcenlehfbgnphaaW.PrintLast Go.Proofs.YtcenlehfbgnphaaW.PrintMore
theorem sumOk4 {a b c d : Int} (ha : In64 a) (hb : In64 b) (hc : In64 c) (hd : In64 d) : SumOk (0 + a * 1) ∧ SumOk (0 + a * 1 + b * -1) ∧ SumOk (0 + a * 1 + b * -1 + c * -1) := by
  obtain ⟨a0,a1⟩ := ha
  obtain ⟨b0,b1⟩ := hb
  obtain ⟨c0,c1⟩ := hc
  refine ⟨⟨by omega,by omega⟩,⟨by omega,by omega⟩,⟨by omega,by omega⟩⟩
def lessB (a b c d : Int) : Bool := decide (a - b < c - d)
theorem less_sgn (a b c d : Int) : decide (sgnF (0 + a * 1 + b * -1 + c * -1 + d * 1) < 0) = lessB a b c d := by
  unfold sgnF lessB
  rw [decide_eq_decide]
  split
  · omega
  · split <;> omega
set_option maxHeartbeats 4000000 in
set_option maxRecDepth 100000 in
theorem quota_less0 (s0 s1 t0 t1 : ByteArray) (a b c d : Int) (w : World) (ha : In64 a) (hb : In64 b) (hc : In64 c) (hd : In64 d) :
    Calls Try.prog 77 #[.agg #[.string s0,.string s1,.int .i64 b,.int .i64 a],.agg #[.string t0,.string t1,.int .i64 d,.int .i64 c]] w fun e w' => e = .returned (.bool (lessB a b c d)) ∧ Below w.heap.size w w' := by
  have hu45 := Try.underlying45
  obtain ⟨B,hB⟩ : ∃ B,w.heap.size = B := ⟨_,rfl⟩
  have e0 := blk_alloc (blk_alloc (blk_new w (.cells #[.string s0,.string s1,.int .i64 b,.int .i64 a] 45)) (.cells #[.string t0,.string t1,.int .i64 d,.int .i64 c] 45)) (.cells (sumCells 0 0 0) 26)
  have e1 := blk_alloc (blk_new (w.alloc (.cells #[.string s0,.string s1,.int .i64 b,.int .i64 a] 45)) (.cells #[.string t0,.string t1,.int .i64 d,.int .i64 c] 45)) (.cells (sumCells 0 0 0) 26)
  have e2 := SumAt.new ((w.alloc (.cells #[.string s0,.string s1,.int .i64 b,.int .i64 a] 45)).alloc (.cells #[.string t0,.string t1,.int .i64 d,.int .i64 c] 45))
  have eB : Below B w (((w.alloc (.cells #[.string s0,.string s1,.int .i64 b,.int .i64 a] 45)).alloc (.cells #[.string t0,.string t1,.int .i64 d,.int .i64 c] 45)).alloc (.cells (sumCells 0 0 0) 26)) := by
    rw [← hB];exact below_alloc (below_alloc (below_alloc (Below.refl _ _) _) _) _
  rw [show (w.alloc (Obj.cells #[.string s0,.string s1,.int .i64 b,.int .i64 a] 45)).heap.size = B + 1 by rw [← hB];simp] at e1
  rw [show ((w.alloc (Obj.cells #[.string s0,.string s1,.int .i64 b,.int .i64 a] 45)).alloc (Obj.cells #[.string t0,.string t1,.int .i64 d,.int .i64 c] 45)).heap.size = B + 1 + 1 by rw [← hB];simp] at e2
  rw [hB] at e0
  have E0 := Aside0.mk e0
  have E1 := Aside0.mk e1
  have E2 := Aside0.mk e2
  have EB := Aside0.mk eB
  have HB0 := Aside0.mk hB
  have K := Aside0.mk (sumOk4 ha hb hc hd)
  have HA := Aside0.mk (And.intro ha (And.intro hb (And.intro hc hd)))
  clear e0 e1 e2 eB ha hb hc hd
  have c03 := blk_cell E0.out 3
  have c02 := blk_cell E0.out 2
  have c13 := blk_cell E1.out 3
  have c12 := blk_cell E1.out 2
  simp only [List.getElem?_toArray,List.getElem?_cons_zero,List.getElem?_cons_succ] at c03 c02 c13 c12
  go_enter Try.func77,Try.ntmps77
  go_wp2_with (fail)
  clear hB
  change Calls Try.prog 15 _ (((w.alloc (.cells #[.string s0,.string s1,.int .i64 b,.int .i64 a] 45)).alloc (.cells #[.string t0,.string t1,.int .i64 d,.int .i64 c] 45)).alloc (.cells (sumCells 0 0 0) 26)) _
  generalize ((w.alloc (.cells #[.string s0,.string s1,.int .i64 b,.int .i64 a] 45)).alloc (.cells #[.string t0,.string t1,.int .i64 d,.int .i64 c] 45)).alloc (.cells (sumCells 0 0 0) 26) = w0 at *
  refine (sum_put (B + 1 + 1) (0) a (1) w0 E2.out ⟨by decide,by decide⟩ HA.out.1 (by decide) (by decide)).mono ?_
  rintro e w1 ⟨rfl,hs,hg⟩
  have E0' := Aside0.mk (only_other hg E0.out (by omega))
  have E1' := Aside0.mk (only_other hg E1.out (by omega))
  have EB' := Aside0.mk (EB.out.trans (only_below (B := B) hg (by omega) E2.out.lt))
  have E2' := Aside0.mk hs
  clear c03 c02 c13 c12 E0 E1 EB E2 hs hg
  have E0 := E0'
  have E1 := E1'
  have EB := EB'
  have E2 := E2'
  clear E0' E1' EB' E2'
  have c03 := blk_cell E0.out 3
  have c02 := blk_cell E0.out 2
  have c13 := blk_cell E1.out 3
  have c12 := blk_cell E1.out 2
  simp only [List.getElem?_toArray,List.getElem?_cons_zero,List.getElem?_cons_succ] at c03 c02 c13 c12
  go_wp2_with (fail)
  refine (sum_put (B + 1 + 1) (0 + a * 1) b (-1) w1 E2.out K.out.1 HA.out.2.1 (by decide) (by decide)).mono ?_
  rintro e w2 ⟨rfl,hs,hg⟩
  have E0' := Aside0.mk (only_other hg E0.out (by omega))
  have E1' := Aside0.mk (only_other hg E1.out (by omega))
  have EB' := Aside0.mk (EB.out.trans (only_below (B := B) hg (by omega) E2.out.lt))
  have E2' := Aside0.mk hs
  clear c03 c02 c13 c12 E0 E1 EB E2 hs hg
  have E0 := E0'
  have E1 := E1'
  have EB := EB'
  have E2 := E2'
  clear E0' E1' EB' E2'
  have c03 := blk_cell E0.out 3
  have c02 := blk_cell E0.out 2
  have c13 := blk_cell E1.out 3
  have c12 := blk_cell E1.out 2
  simp only [List.getElem?_toArray,List.getElem?_cons_zero,List.getElem?_cons_succ] at c03 c02 c13 c12
  go_wp2_with (fail)
  refine (sum_put (B + 1 + 1) (0 + a * 1 + b * -1) c (-1) w2 E2.out K.out.2.1 HA.out.2.2.1 (by decide) (by decide)).mono ?_
  rintro e w3 ⟨rfl,hs,hg⟩
  have E0' := Aside0.mk (only_other hg E0.out (by omega))
  have E1' := Aside0.mk (only_other hg E1.out (by omega))
  have EB' := Aside0.mk (EB.out.trans (only_below (B := B) hg (by omega) E2.out.lt))
  have E2' := Aside0.mk hs
  clear c03 c02 c13 c12 E0 E1 EB E2 hs hg
  have E0 := E0'
  have E1 := E1'
  have EB := EB'
  have E2 := E2'
  clear E0' E1' EB' E2'
  have c03 := blk_cell E0.out 3
  have c02 := blk_cell E0.out 2
  have c13 := blk_cell E1.out 3
  have c12 := blk_cell E1.out 2
  simp only [List.getElem?_toArray,List.getElem?_cons_zero,List.getElem?_cons_succ] at c03 c02 c13 c12
  go_wp2_with (fail)
  refine (sum_put (B + 1 + 1) (0 + a * 1 + b * -1 + c * -1) d (1) w3 E2.out K.out.2.2 HA.out.2.2.2 (by decide) (by decide)).mono ?_
  rintro e w4 ⟨rfl,hs,hg⟩
  have E0' := Aside0.mk (only_other hg E0.out (by omega))
  have E1' := Aside0.mk (only_other hg E1.out (by omega))
  have EB' := Aside0.mk (EB.out.trans (only_below (B := B) hg (by omega) E2.out.lt))
  have E2' := Aside0.mk hs
  clear c03 c02 c13 c12 E0 E1 EB E2 hs hg
  have E0 := E0'
  have E1 := E1'
  have EB := EB'
  have E2 := E2'
  clear E0' E1' EB' E2'
  have c03 := blk_cell E0.out 3
  have c02 := blk_cell E0.out 2
  have c13 := blk_cell E1.out 3
  have c12 := blk_cell E1.out 2
  simp only [List.getElem?_toArray,List.getElem?_cons_zero,List.getElem?_cons_succ] at c03 c02 c13 c12
  go_wp2_with (fail)
  refine (sum_sgn (B + 1 + 1) _ w4 E2.out).mono ?_
  rintro e w5 ⟨rfl,hd⟩
  have HL := Aside0.mk (less_sgn a b c d)
  obtain ⟨n,rfl⟩ := hd.out
  clear hd
  generalize sgnF (0 + a * 1 + b * -1 + c * -1 + d * 1) = s at *
  go_wp2_with (fail)
  go_ret
  exact ⟨by rw [← HL.out];rfl,by rw [HB0.out];exact EB.out.trans ⟨rfl,rfl,rfl,Nat.le_refl _,fun _ _ => rfl⟩⟩
def quota_less.f (a0_0 : ByteArray) (a0_1 : ByteArray) (a0_2 : Int) (a0_3 : Int) (a1_0 : ByteArray) (a1_1 : ByteArray) (a1_2 : Int) (a1_3 : Int) : Option (Bool) :=
  if (-9223372036854775808 ≤ a0_2 ∧ a0_2 ≤ 9223372036854775807) ∧ (-9223372036854775808 ≤ a0_3 ∧ a0_3 ≤ 9223372036854775807) ∧ (-9223372036854775808 ≤ a1_2 ∧ a1_2 ≤ 9223372036854775807) ∧ (-9223372036854775808 ≤ a1_3 ∧ a1_3 ≤ 9223372036854775807) then some (lessB a0_3 a0_2 a1_3 a1_2) else none
theorem quota_less.calls (a0_0 : ByteArray) (a0_1 : ByteArray) (a0_2 : Int) (a0_3 : Int) (a1_0 : ByteArray) (a1_1 : ByteArray) (a1_2 : Int) (a1_3 : Int) (r : Bool) (w : World) (h : quota_less.f a0_0 a0_1 a0_2 a0_3 a1_0 a1_1 a1_2 a1_3 = some r) :
    Calls Try.prog 77 #[.agg #[.string a0_0,.string a0_1,.int .i64 a0_2,.int .i64 a0_3],.agg #[.string a1_0,.string a1_1,.int .i64 a1_2,.int .i64 a1_3]] w fun e w' => e = .returned (.bool r) ∧ Below w.heap.size w w' := by
  unfold quota_less.f at h
  split at h
  · rename_i hc
    obtain ⟨h1,h2,h3,h4⟩ := hc
    obtain rfl := Option.some.inj h
    exact quota_less0 a0_0 a0_1 a1_0 a1_1 a0_3 a0_2 a1_3 a1_2 w h2 h1 h4 h3
  · exact absurd h (by simp)
end Go.Proofs.Ytcenlehfbgnphaa.Z
end
section
namespace Go.Proofs.Ytcenlehfbgnphaa.Z
open Go.RowKit Go.Proofs.YtcenlehfbgnphaaW.PrintWords Go.Proofs.YtcenlehfbgnphaaW.PrintLast Go.Proofs.YtcenlehfbgnphaaW.PrintMore
attribute [local go_sem] max2_int min2_int max_two min_two max_three min_three max_four min_four
set_option linter.unusedVariables false
set_option linter.unusedSimpArgs false
def quota_Worst.l0 : Nat → List (S45) → Int → Int → ByteArray → ByteArray → Int → Int → Option (ByteArray × ByteArray × Int × Int × Int)
  | 0,_,_,_,_,_,_,_ => none
  | k + 1,x15,x16,x17,x244000,x244001,x244002,x244003 => if x17 < x16 then (if 0 ≤ x17 then (if x17 < (x15.length : Int) then ((quota_less.f ((rd_T45 x15 x17).f0) ((rd_T45 x15 x17).f1) ((rd_T45 x15 x17).f2) ((rd_T45 x15 x17).f3) x244000 x244001 x244002 x244003).bind fun t250 => (if t250 = true then (quota_Worst.l0 k x15 x16 (wrap64 (x17 + 1)) ((rd_T45 x15 x17).f0) ((rd_T45 x15 x17).f1) ((rd_T45 x15 x17).f2) ((rd_T45 x15 x17).f3)) else (quota_Worst.l0 k x15 x16 (wrap64 (x17 + 1)) x244000 x244001 x244002 x244003))) else (none)) else (none)) else (some (x244000,x244001,x244002,x244003,0))
def quota_Worst.f (k : Nat) (l0 : List (S45)) : Option (ByteArray × ByteArray × Int × Int × Int) := if (l0.length : Int) = 0 then (some ((⟨#[]⟩ : ByteArray),(⟨#[]⟩ : ByteArray),0,0,5)) else (if 0 < (l0.length : Int) then (if 1 ≤ (l0.length : Int) then ((some (l0.drop 1 : List (S45))).bind fun y244 => (quota_Worst.l0 k y244 (y244.length : Int) 0 ((rd_T45 l0 0).f0) ((rd_T45 l0 0).f1) ((rd_T45 l0 0).f2) ((rd_T45 l0 0).f3))) else (none)) else (none))
theorem quota_Worst.mono_l : ∀ k,(∀ y0 y1 y2 y3 y4 y5 y6,LeO (quota_Worst.l0 k y0 y1 y2 y3 y4 y5 y6) (quota_Worst.l0 (k + 1) y0 y1 y2 y3 y4 y5 y6))
  | 0 => fun _ _ _ _ _ _ _ r h => by simp [quota_Worst.l0] at h
  | k + 1 => by
    have ih0 := quota_Worst.mono_l k
    · intro y0 y1 y2 y3 y4 y5 y6
      unfold quota_Worst.l0
      repeat' first
      | (with_reducible exact ih0 _ _ _ _ _ _ _)
      | (with_reducible exact LeO.refl _)
      | (with_reducible exact LeO.none _)
      | (with_reducible refine LeO.ite ?_ ?_)
      | (with_reducible refine LeO.bind ?_ (fun _ => ?_))
      | exact ih0 _ _ _ _ _ _ _
      | exact LeO.none _
      | refine LeO.ite ?_ ?_
      | refine LeO.bind ?_ (fun _ => ?_)
theorem quota_Worst.mono : ∀ a0 k,LeO (quota_Worst.f k a0) (quota_Worst.f (k + 1) a0) := by
  intro a0 k
  have ih0 := quota_Worst.mono_l k
  unfold quota_Worst.f
  repeat' first
      | (with_reducible exact ih0 _ _ _ _ _ _ _)
      | (with_reducible exact LeO.refl _)
      | (with_reducible exact LeO.none _)
      | (with_reducible refine LeO.ite ?_ ?_)
      | (with_reducible refine LeO.bind ?_ (fun _ => ?_))
      | exact ih0 _ _ _ _ _ _ _
      | exact LeO.none _
      | refine LeO.ite ?_ ?_
      | refine LeO.bind ?_ (fun _ => ?_)
set_option maxHeartbeats 8000000 in
set_option maxRecDepth 100000 in
theorem quota_Worst.calls (k : Nat) (A0 : Option Addr) (c0 : Nat) (l0 : List (S45)) (r1 : ByteArray) (r2 : ByteArray) (r3 : Int) (r4 : Int) (r5 : Int) (w : World) (hr0 : Kd.C k45 w A0 l0.length l0) (hc0 : l0.length ≤ c0) (h : quota_Worst.f k l0 = some (r1,r2,r3,r4,r5)) :
    Calls Try.prog 47 #[.slice A0 l0.length c0] w fun e w' => e = .returned (.tuple #[.agg #[.string r1,.string r2,.int .i64 r3,.int .i64 r4],.int .i64 r5]) ∧ Below w.heap.size w w' := by
  have hu45 := Try.underlying45
  have HR0 := Aside0.mk hr0
  have HC0 := Aside0.mk hc0
  clear hr0 hc0
  have HB := Aside0.mk (Below.refl w.heap.size w)
  have H : (if (l0.length : Int) = 0 then (some ((⟨#[]⟩ : ByteArray),(⟨#[]⟩ : ByteArray),0,0,5)) else (if 0 < (l0.length : Int) then (if 1 ≤ (l0.length : Int) then ((some (l0.drop 1 : List (S45))).bind fun y244 => (quota_Worst.l0 k y244 (y244.length : Int) 0 ((rd_T45 l0 0).f0) ((rd_T45 l0 0).f1) ((rd_T45 l0 0).f2) ((rd_T45 l0 0).f3))) else (none)) else (none))) = some (r1,r2,r3,r4,r5) := h
  clear h
  by_cases c2 : (l0.length : Int) = 0
  · rw [if_pos c2] at H
    have c2b0 : ((l0.length : Int) == 0) = true := beq_iff_eq.mpr c2
    have c2b1 : ((l0.length : Int) != 0) = false := bne_eq_false_iff_eq.mpr c2
    clear c2
    simp only [Option.some.injEq,Prod.mk.injEq] at H
    obtain ⟨rfl,rfl,rfl,rfl,rfl⟩ := H
    go_enter Try.func47,Try.ntmps47
    go_wp2_with (first | ((with_reducible refine gate_dst (N := 2) rfl ?_);refine box_event ?hg (N := 2) ?hd (cs := #[.string (⟨#[]⟩ : ByteArray),.string (⟨#[]⟩ : ByteArray),.int .i64 0,.int .i64 0]) (t := 45) ?hr ?_;(case hd => rfl);(case hg => rfl);(case hr => first | (go_simp;done) | (go_simp;rfl));intro gb241 hg w3 hbox hb;have n0_ := Aside0.mk (below_step (by repeat (first | (with_reducible first | exact HB.out | apply below_alloc | apply pw_below_drewN | apply below_drew1) | exact HB.out)) hb);have n1_ := Aside0.mk (hbox);have n2_ := Aside0.mk ((by rw [hg];exact (below_size (by repeat (first | (with_reducible first | exact HB.out | apply below_alloc | apply pw_below_drewN | apply below_drew1) | exact HB.out))) : w.heap.size ≤ gb241));have n3_ := Aside0.mk ((by rw [hg];exact (below_size (by repeat (first | (with_reducible first | exact HB.out | apply below_alloc | apply pw_below_drewN | apply below_drew1) | exact HB.out))) : w.heap.size ≤ gb241));clear HB;have HB := n0_;have BK241 := n1_;have GW241 := n2_;have GE241 := n3_;clear n0_ n1_ n2_ n3_;clear hb hbox hg;have hcz4_0 : w3.cell? ⟨gb241,0,none⟩ = some (.string (⟨#[]⟩ : ByteArray)) := (blk_cell BK241.out 0).trans rfl;have hcz4_1 : w3.cell? ⟨gb241,1,none⟩ = some (.string (⟨#[]⟩ : ByteArray)) := (blk_cell BK241.out 1).trans rfl;have hcz4_2 : w3.cell? ⟨gb241,2,none⟩ = some (.int .i64 0) := (blk_cell BK241.out 2).trans rfl;have hcz4_3 : w3.cell? ⟨gb241,3,none⟩ = some (.int .i64 0) := (blk_cell BK241.out 3).trans rfl;have hfz4_0 := blk_frozen BK241.out 0;have hfz4_1 := blk_frozen BK241.out 1;have hfz4_2 := blk_frozen BK241.out 2;have hfz4_3 := blk_frozen BK241.out 3))
    refine bodyPost_ret (results_ct rfl _ _ gb241 45 #[.string (⟨#[]⟩ : ByteArray),.string (⟨#[]⟩ : ByteArray),.int .i64 0,.int .i64 0] (0,0) _ rfl (by (with_reducible repeat (first | refine blk_drewN ?_ _ | refine blk_drew ?_ | refine blk_alloc ?_ _));refine blk_put (cs := #[.string (⟨#[]⟩ : ByteArray),.string (⟨#[]⟩ : ByteArray),.int .i64 0,.int .i64 0]) ?_ 3 _ rfl;(with_reducible repeat (first | refine blk_drewN ?_ _ | refine blk_drew ?_ | refine blk_alloc ?_ _));refine blk_put (cs := #[.string (⟨#[]⟩ : ByteArray),.string (⟨#[]⟩ : ByteArray),.int .i64 0,.int .i64 0]) ?_ 2 _ rfl;(with_reducible repeat (first | refine blk_drewN ?_ _ | refine blk_drew ?_ | refine blk_alloc ?_ _));refine blk_put (cs := #[.string (⟨#[]⟩ : ByteArray),.string (⟨#[]⟩ : ByteArray),.int .i64 0,.int .i64 0]) ?_ 1 _ rfl;(with_reducible repeat (first | refine blk_drewN ?_ _ | refine blk_drew ?_ | refine blk_alloc ?_ _));refine blk_put (cs := #[.string (⟨#[]⟩ : ByteArray),.string (⟨#[]⟩ : ByteArray),.int .i64 0,.int .i64 0]) ?_ 0 _ rfl;(with_reducible repeat (first | refine blk_drewN ?_ _ | refine blk_drew ?_ | refine blk_alloc ?_ _));exact BK241.out) Try.underlying45 rfl (by kernel_rfl)) rfl ?_
    exact ⟨by first | rfl | (simp [errW_none,errW_some] <;> rfl) | (simp [*,errW_none,errW_some] <;> rfl),by repeat (first | (with_reducible first | exact HB.out | apply below_alloc | apply pw_below_drewN | apply below_drew1 | refine below_set ?_ GE241.out) | exact HB.out)⟩
  · rw [if_neg c2] at H
    have c2b0 : ((l0.length : Int) == 0) = false := beq_eq_false_iff_ne.mpr c2
    have c2b1 : ((l0.length : Int) != 0) = true := bne_iff_ne.mpr c2
    have c2b2 : ¬ (l0 = []) := fun h_ => c2 (by rw [h_];rfl)
    by_cases c5 : 0 < (l0.length : Int)
    · rw [if_pos c5] at H
      have c5b0 : decide (0 < (l0.length : Int)) = true := decide_eq_true c5
      have c5b1 : decide (0 < l0.length) = true := decide_eq_true (by omega)
      clear c5
      by_cases c6 : 1 ≤ (l0.length : Int)
      · rw [if_pos c6] at H
        have c6b0 := eq_true c6
        have c6b1 : decide (1 ≤ (l0.length : Int)) = true := decide_eq_true c6
        clear c6
        obtain ⟨y244,hy244⟩ : ∃ y_ : List (S45),y_ = (l0.drop 1) := ⟨_,rfl⟩
        replace H : (quota_Worst.l0 k y244 (y244.length : Int) 0 ((rd_T45 l0 0).f0) ((rd_T45 l0 0).f1) ((rd_T45 l0 0).f2) ((rd_T45 l0 0).f3)) = some (r1,r2,r3,r4,r5) := by first | (rw [hy244];with_reducible exact H) | (have H2_ := (Option.bind_some _ _).symm.trans H;rw [hy244];with_reducible exact H2_) | (have H2_ := (Option.bind_some _ _).symm.trans H;with_reducible exact H2_) | with_reducible exact H | (rw [hy244];exact H) | exact H
        have Ny244 := Aside0.mk hy244
        clear hy244
        have H' := Aside0.mk H
        clear H
        go_enter Try.func47,Try.ntmps47
        go_wp2_with (first | ((with_reducible refine gate_dst (N := 2) rfl ?_);refine box_event ?hg (N := 2) ?hd (cs := #[.string (⟨#[]⟩ : ByteArray),.string (⟨#[]⟩ : ByteArray),.int .i64 0,.int .i64 0]) (t := 45) ?hr ?_;(case hd => rfl);(case hg => rfl);(case hr => first | (go_simp;done) | (go_simp;rfl));intro gb241 hg w7 hbox hb;have n0_ := Aside0.mk (below_step (by repeat (first | (with_reducible first | exact HB.out | apply below_alloc | apply pw_below_drewN | apply below_drew1) | exact HB.out)) hb);have n1_ := Aside0.mk (hbox);have n2_ := Aside0.mk ((by rw [hg];exact (below_size (by repeat (first | (with_reducible first | exact HB.out | apply below_alloc | apply pw_below_drewN | apply below_drew1) | exact HB.out))) : w.heap.size ≤ gb241));have n3_ := Aside0.mk ((by rw [hg];exact (below_size (by repeat (first | (with_reducible first | exact HB.out | apply below_alloc | apply pw_below_drewN | apply below_drew1) | exact HB.out))) : w.heap.size ≤ gb241));clear HB;have HB := n0_;have BK241 := n1_;have GW241 := n2_;have GE241 := n3_;clear n0_ n1_ n2_ n3_;clear hb hbox hg;have p242 : 0 ≤ (0 : Int) := (by omega);have q242 : 0 < (l0.length : Int) := of_decide_eq_true (by first | (with_reducible assumption) | assumption);obtain ⟨ad242,e242,hx242_0,hx242_1,hx242_2,hx242_3⟩ := at_T45 HR0.out 0 p242 q242;cases e242;have qi242 : (0 < l0.length) = True := eq_true (by omega);(try rw [show ((0 : Int)).toNat = 0 from rfl] at hx242_0);(try rw [show 0 * 4 = 0 from rfl] at hx242_0);(try rw [Addr.add_zero'] at hx242_0);(try rw [show ((0 : Int)).toNat = 0 from rfl] at hx242_1);(try rw [show 0 * 4 = 0 from rfl] at hx242_1);(try rw [Addr.add_zero'] at hx242_1);(try rw [show ((0 : Int)).toNat = 0 from rfl] at hx242_2);(try rw [show 0 * 4 = 0 from rfl] at hx242_2);(try rw [Addr.add_zero'] at hx242_2);(try rw [show ((0 : Int)).toNat = 0 from rfl] at hx242_3);(try rw [show 0 * 4 = 0 from rfl] at hx242_3);(try rw [Addr.add_zero'] at hx242_3);replace hx242_0 := (HB.out.cell (World.block_lt_of_cell? w _ hx242_0)).trans hx242_0;replace hx242_1 := (HB.out.cell (World.block_lt_of_cell? w _ hx242_1)).trans hx242_1;replace hx242_2 := (HB.out.cell (World.block_lt_of_cell? w _ hx242_2)).trans hx242_2;replace hx242_3 := (HB.out.cell (World.block_lt_of_cell? w _ hx242_3)).trans hx242_3;replace p242 := eq_true p242;replace q242 := eq_true q242) | ((with_reducible refine gate_dst (N := 4) rfl ?_);refine box_event ?hg (N := 4) ?hd (cs := #[.string (⟨#[]⟩ : ByteArray),.string (⟨#[]⟩ : ByteArray),.int .i64 0,.int .i64 0]) (t := 45) ?hr ?_;(case hd => rfl);(case hg => rfl);(case hr => first | (go_simp;done) | (go_simp;rfl));intro gb243 hg w8 hbox hb;have n0_ := Aside0.mk (blk_below (g := gb241) (o := .cells #[.string (⟨#[]⟩ : ByteArray),.string (⟨#[]⟩ : ByteArray),.int .i64 0,.int .i64 0] 45 (0,0)) (by (with_reducible repeat (first | refine blk_drewN ?_ _ | refine blk_drew ?_ | refine blk_alloc ?_ _));exact BK241.out) hb);have n1_ := Aside0.mk (below_step (by repeat (first | (with_reducible first | exact HB.out | apply below_alloc | apply pw_below_drewN | apply below_drew1 | refine below_set ?_ GE241.out) | exact HB.out)) hb);have n2_ := Aside0.mk (hbox);have n3_ := Aside0.mk ((by rw [hg];exact (below_size (by repeat (first | (with_reducible first | exact HB.out | apply below_alloc | apply pw_below_drewN | apply below_drew1 | refine below_set ?_ GE241.out) | exact HB.out))) : w.heap.size ≤ gb243));have n4_ := Aside0.mk ((by rw [hg];exact (below_size (by repeat (first | (with_reducible first | exact HB.out | apply below_alloc | apply pw_below_drewN | apply below_drew1 | refine below_set ?_ GE241.out) | exact HB.out))) : w.heap.size ≤ gb243));have n5_ := Aside0.mk ((by rw [hg];exact Nat.ne_of_lt (blk_lt (g := gb241) (o := .cells #[.string (⟨#[]⟩ : ByteArray),.string (⟨#[]⟩ : ByteArray),.int .i64 0,.int .i64 0] 45 (0,0)) (by (with_reducible repeat (first | refine blk_drewN ?_ _ | refine blk_drew ?_ | refine blk_alloc ?_ _));exact BK241.out)) : gb241 ≠ gb243));have n6_ := Aside0.mk ((by rw [hg];exact Nat.ne_of_gt (blk_lt (g := gb241) (o := .cells #[.string (⟨#[]⟩ : ByteArray),.string (⟨#[]⟩ : ByteArray),.int .i64 0,.int .i64 0] 45 (0,0)) (by (with_reducible repeat (first | refine blk_drewN ?_ _ | refine blk_drew ?_ | refine blk_alloc ?_ _));exact BK241.out)) : gb243 ≠ gb241));clear BK241;clear HB;have BK241 := n0_;have HB := n1_;have BK243 := n2_;have GW243 := n3_;have GE243 := n4_;have NB241_243 := n5_;have NB243_241 := n6_;clear n0_ n1_ n2_ n3_ n4_ n5_ n6_;clear hb hbox hg;have hnb9 := NB243_241.out;have hnc9 := NB241_243.out;have hcz10_0 : w8.cell? ⟨gb243,0,none⟩ = some (.string (⟨#[]⟩ : ByteArray)) := (blk_cell BK243.out 0).trans rfl;have hcz10_1 : w8.cell? ⟨gb243,1,none⟩ = some (.string (⟨#[]⟩ : ByteArray)) := (blk_cell BK243.out 1).trans rfl;have hcz10_2 : w8.cell? ⟨gb243,2,none⟩ = some (.int .i64 0) := (blk_cell BK243.out 2).trans rfl;have hcz10_3 : w8.cell? ⟨gb243,3,none⟩ = some (.int .i64 0) := (blk_cell BK243.out 3).trans rfl;have hfz10_0 := blk_frozen BK243.out 0;have hfz10_1 := blk_frozen BK243.out 1;have hfz10_2 := blk_frozen BK243.out 2;have hfz10_3 := blk_frozen BK243.out 3) | ((with_reducible refine gate_store (t := 45) (p := 4) rfl ?_);refine store_event (t := 45) (p := 4) (v := ?vo_w11) (w1 := ((((w8.setCell ⟨gb243,0,none⟩ (.string ((rd_T45 l0 0).f0))).setCell ⟨gb243,1,none⟩ (.string ((rd_T45 l0 0).f1))).setCell ⟨gb243,2,none⟩ (.int .i64 ((rd_T45 l0 0).f2))).setCell ⟨gb243,3,none⟩ (.int .i64 ((rd_T45 l0 0).f3)))) ?hg ?ho ?hn ?hr ?_;(case ho => rfl);(case hg => rfl);(case hn => rfl);(case hr => first | (go_simp;done) | (go_simp;rfl));intro w11 hw;have n0_ : Aside0 (w11.heap[gb241]? = some (.cells #[.string (⟨#[]⟩ : ByteArray),.string (⟨#[]⟩ : ByteArray),.int .i64 0,.int .i64 0] 45 (0,0))) := ⟨(by rw [hw];exact (by (with_reducible repeat (first | refine blk_drewN ?_ _ | refine blk_drew ?_ | refine blk_alloc ?_ _));refine blk_far ?_ NB241_243.out _;(with_reducible repeat (first | refine blk_drewN ?_ _ | refine blk_drew ?_ | refine blk_alloc ?_ _));refine blk_far ?_ NB241_243.out _;(with_reducible repeat (first | refine blk_drewN ?_ _ | refine blk_drew ?_ | refine blk_alloc ?_ _));refine blk_far ?_ NB241_243.out _;(with_reducible repeat (first | refine blk_drewN ?_ _ | refine blk_drew ?_ | refine blk_alloc ?_ _));refine blk_far ?_ NB241_243.out _;(with_reducible repeat (first | refine blk_drewN ?_ _ | refine blk_drew ?_ | refine blk_alloc ?_ _));exact BK241.out))⟩;have n1_ : Aside0 (w11.heap[gb243]? = some (.cells #[.string ((rd_T45 l0 0).f0),.string ((rd_T45 l0 0).f1),.int .i64 ((rd_T45 l0 0).f2),.int .i64 ((rd_T45 l0 0).f3)] 45 (0,0))) := ⟨(by rw [hw];exact (by (with_reducible repeat (first | refine blk_drewN ?_ _ | refine blk_drew ?_ | refine blk_alloc ?_ _));refine blk_put (cs := #[.string ((rd_T45 l0 0).f0),.string ((rd_T45 l0 0).f1),.int .i64 ((rd_T45 l0 0).f2),.int .i64 0]) ?_ 3 _ rfl;(with_reducible repeat (first | refine blk_drewN ?_ _ | refine blk_drew ?_ | refine blk_alloc ?_ _));refine blk_put (cs := #[.string ((rd_T45 l0 0).f0),.string ((rd_T45 l0 0).f1),.int .i64 0,.int .i64 0]) ?_ 2 _ rfl;(with_reducible repeat (first | refine blk_drewN ?_ _ | refine blk_drew ?_ | refine blk_alloc ?_ _));refine blk_put (cs := #[.string ((rd_T45 l0 0).f0),.string (⟨#[]⟩ : ByteArray),.int .i64 0,.int .i64 0]) ?_ 1 _ rfl;(with_reducible repeat (first | refine blk_drewN ?_ _ | refine blk_drew ?_ | refine blk_alloc ?_ _));refine blk_put (cs := #[.string (⟨#[]⟩ : ByteArray),.string (⟨#[]⟩ : ByteArray),.int .i64 0,.int .i64 0]) ?_ 0 _ rfl;(with_reducible repeat (first | refine blk_drewN ?_ _ | refine blk_drew ?_ | refine blk_alloc ?_ _));exact BK243.out))⟩;have n2_ : Aside0 (Below w.heap.size w w11) := ⟨(by rw [hw];exact (by repeat (first | (with_reducible first | exact HB.out | apply below_alloc | apply pw_below_drewN | apply below_drew1 | refine below_set ?_ GE241.out | refine below_set ?_ GE243.out) | exact HB.out)))⟩;clear hw;clear BK241;clear BK243;clear HB;have BK241 := n0_;have BK243 := n1_;have HB := n2_;clear n0_ n1_ n2_;have q12 : (1 : Int) ≤ ((l0.length : Int) : Int) := of_decide_eq_true (by first | (with_reducible assumption) | assumption);obtain ⟨i012,hi012,_,hsz12,_⟩ := info_parts info45;have hroom12 : l0.length ≤ c0 := HC0.out;have hC12 : Kd.C k45 _ (some ad242) l0.length l0 := HR0.out;have hcut12 := cut_from (P := Try.prog) 53 45 .i64 Try.underlying53 hi012 4 hsz12 (some ad242) l0.length c0 1 (by omega) q12;have hr12 := Kd.C_drop (m := (1 : Int).toNat) (c := c0) hC12 (by omega) hroom12;obtain ⟨A12,hA12⟩ : ∃ A1,A1 = (if c0 = (1 : Int).toNat then (some ad242) else ((some ad242) : Option Addr).map (·.add ((1 : Int).toNat * 4))) := ⟨_,rfl⟩;obtain ⟨c12,hc12⟩ : ∃ c1,c1 = c0 - (1 : Int).toNat := ⟨_,rfl⟩;have hy12 : y244.length = l0.length - (1 : Int).toNat := (by rw [Ny244.out,List.length_drop] <;> omega);rw [show (l0).drop (1 : Int).toNat = y244 from Ny244.out.symm] at hr12;replace hr12 : Kd.C k45 _ A12 y244.length y244 := (by rw [hA12];exact hr12);rw [← hy12,← hA12,← hc12] at hcut12;have HR247 := Aside0.mk hr12;have HC247 := Aside0.mk (show y244.length ≤ c12 from by rw [hy12,hc12];exact Nat.sub_le_sub_right hroom12 _);clear hr12 hC12 hroom12 hi012 hsz12 hc12;have KY12 := Aside0.mk hy12;have KA12 := Aside0.mk hA12;clear hy12 hA12;replace q12 := eq_true q12))
        go_loopg [17] k (fun kq v17 w' => ∃ (x17_1 : Int) (x244000_1 : ByteArray) (x244001_1 : ByteArray) (x244002_1 : Int) (x244003_1 : Int),v17 = .int .i64 x17_1 ∧ Aside0 (quota_Worst.l0 kq y244 (y244.length : Int) x17_1 x244000_1 x244001_1 x244002_1 x244003_1 = some (r1,r2,r3,r4,r5)) ∧ Aside0 (kq ≤ k) ∧ Aside0 (w'.heap[gb241]? = some (.cells #[.string (⟨#[]⟩ : ByteArray),.string (⟨#[]⟩ : ByteArray),.int .i64 0,.int .i64 0] 45 (0,0))) ∧ Aside0 (w'.heap[gb243]? = some (.cells #[.string x244000_1,.string x244001_1,.int .i64 x244002_1,.int .i64 x244003_1] 45 (0,0))) ∧ Aside0 (Below w.heap.size w w'))
        case atStart => exact ⟨(0),((rd_T45 l0 0).f0),((rd_T45 l0 0).f1),((rd_T45 l0 0).f2),((rd_T45 l0 0).f3),(by first | rfl | (simp;done) | (simp [*];done)),H',⟨Nat.le_refl _⟩,⟨by (with_reducible repeat (first | refine blk_drewN ?_ _ | refine blk_drew ?_ | refine blk_alloc ?_ _));exact BK241.out⟩,⟨by (with_reducible repeat (first | refine blk_drewN ?_ _ | refine blk_drew ?_ | refine blk_alloc ?_ _));exact BK243.out⟩,⟨by repeat (first | (with_reducible first | exact HB.out | apply below_alloc | apply pw_below_drewN | apply below_drew1 | refine below_set ?_ GE241.out | refine below_set ?_ GE243.out) | exact HB.out)⟩⟩
        case round =>
          clear H'
          try clear c1
          try clear q1
          try clear c2
          try clear c2b0
          try clear c2b1
          try clear c2b2
          try clear p2
          try clear q2
          try clear hx2
          try clear qi2
          try clear c4
          try clear c5
          try clear c5b0
          try clear c5b1
          try clear c6
          try clear c6b0
          try clear c6b1
          try clear c9
          try clear c12
          try clear q12
          try clear hcz10_0
          try clear hcz10_1
          try clear hcz10_2
          try clear hcz10_3
          try clear hcz4_0
          try clear hcz4_1
          try clear hcz4_2
          try clear hcz4_3
          try clear hfz10_0
          try clear hfz10_1
          try clear hfz10_2
          try clear hfz10_3
          try clear hfz4_0
          try clear hfz4_1
          try clear hfz4_2
          try clear hfz4_3
          try clear hx242_0
          try clear hx242_1
          try clear hx242_2
          try clear hx242_3
          try clear p242
          try clear q12
          try clear q242
          obtain ⟨x17_1,x244000_1,x244001_1,x244002_1,x244003_1,rfl,HA,HK1,BK241,BK243,HB⟩ := hrel
          cases gk with
          | zero => exact absurd HA.out (by simp [quota_Worst.l0])
          | succ k1 =>
            have H := HA.out
            clear HA
            simp only [quota_Worst.l0] at H
            by_cases c13 : x17_1 < (y244.length : Int)
            · rw [if_pos c13] at H
              have c13b0 : decide (x17_1 < (y244.length : Int)) = true := decide_eq_true c13
              clear c13
              by_cases c14 : 0 ≤ x17_1
              · rw [if_pos c14] at H
                have c14b0 : decide (0 ≤ x17_1) = true := decide_eq_true c14
                clear c14
                by_cases c15 : x17_1 < (y244.length : Int)
                · rw [if_pos c15] at H
                  have c15b0 : decide (x17_1 < (y244.length : Int)) = true := decide_eq_true c15
                  clear c15
                  replace H := Option.bind_eq_some_iff.mp H
                  obtain ⟨t250,A160,H⟩ := H
                  replace H : (if t250 = true then (quota_Worst.l0 k1 y244 (y244.length : Int) (wrap64 (x17_1 + 1)) ((rd_T45 y244 x17_1).f0) ((rd_T45 y244 x17_1).f1) ((rd_T45 y244 x17_1).f2) ((rd_T45 y244 x17_1).f3)) else (quota_Worst.l0 k1 y244 (y244.length : Int) (wrap64 (x17_1 + 1)) x244000_1 x244001_1 x244002_1 x244003_1)) = some (r1,r2,r3,r4,r5) := H
                  have A16 := Aside0.mk A160
                  clear A160
                  by_cases c17 : t250 = true
                  · subst c17
                    have H1 : (quota_Worst.l0 k1 y244 (y244.length : Int) (wrap64 (x17_1 + 1)) ((rd_T45 y244 x17_1).f0) ((rd_T45 y244 x17_1).f1) ((rd_T45 y244 x17_1).f2) ((rd_T45 y244 x17_1).f3)) = some (r1,r2,r3,r4,r5) := by rw [if_pos rfl] at H;exact H
                    clear H
                    have H := H1
                    clear H1
                    have H' := Aside0.mk H
                    clear H
                    have p248 : 0 ≤ (x17_1 : Int) := of_decide_eq_true (by first | (with_reducible assumption) | assumption)
                    have q248 : x17_1 < (y244.length : Int) := of_decide_eq_true (by first | (with_reducible assumption) | assumption)
                    obtain ⟨ad248,e248,hx248_0,hx248_1,hx248_2,hx248_3⟩ := at_T45 HR247.out x17_1 p248 q248
                    cases e248
                    replace hx248_0 := (HB.out.cell (World.block_lt_of_cell? w _ hx248_0)).trans hx248_0
                    replace hx248_1 := (HB.out.cell (World.block_lt_of_cell? w _ hx248_1)).trans hx248_1
                    replace hx248_2 := (HB.out.cell (World.block_lt_of_cell? w _ hx248_2)).trans hx248_2
                    replace hx248_3 := (HB.out.cell (World.block_lt_of_cell? w _ hx248_3)).trans hx248_3
                    replace p248 := eq_true p248
                    replace q248 := eq_true q248
                    go_wp2_with (first | ((with_reducible refine gate_dst (N := 6) rfl ?_);refine box_event ?hg (N := 6) ?hd (cs := #[.string (⟨#[]⟩ : ByteArray),.string (⟨#[]⟩ : ByteArray),.int .i64 0,.int .i64 0]) (t := 45) ?hr ?_;(case hd => rfl);(case hg => rfl);(case hr => first | (go_simp;done) | (go_simp;rfl));intro gb249 hg w18 hbox hb;have n0_ := Aside0.mk (blk_below (g := gb241) (o := .cells #[.string (⟨#[]⟩ : ByteArray),.string (⟨#[]⟩ : ByteArray),.int .i64 0,.int .i64 0] 45 (0,0)) (by (with_reducible repeat (first | refine blk_drewN ?_ _ | refine blk_drew ?_ | refine blk_alloc ?_ _));exact BK241.out) hb);have n1_ := Aside0.mk (blk_below (g := gb243) (o := .cells #[.string x244000_1,.string x244001_1,.int .i64 x244002_1,.int .i64 x244003_1] 45 (0,0)) (by (with_reducible repeat (first | refine blk_drewN ?_ _ | refine blk_drew ?_ | refine blk_alloc ?_ _));exact BK243.out) hb);have n2_ := Aside0.mk (below_step (by repeat (first | (with_reducible first | exact HB.out | apply below_alloc | apply pw_below_drewN | apply below_drew1 | refine below_set ?_ GE241.out | refine below_set ?_ GE243.out) | exact HB.out)) hb);have n3_ := Aside0.mk (hbox);have n4_ := Aside0.mk ((by rw [hg];exact (below_size (by repeat (first | (with_reducible first | exact HB.out | apply below_alloc | apply pw_below_drewN | apply below_drew1 | refine below_set ?_ GE241.out | refine below_set ?_ GE243.out) | exact HB.out))) : w.heap.size ≤ gb249));have n5_ := Aside0.mk ((by rw [hg];exact (below_size (by repeat (first | (with_reducible first | exact HB.out | apply below_alloc | apply pw_below_drewN | apply below_drew1 | refine below_set ?_ GE241.out | refine below_set ?_ GE243.out) | exact HB.out))) : w.heap.size ≤ gb249));have n6_ := Aside0.mk ((by rw [hg];exact Nat.ne_of_lt (blk_lt (g := gb241) (o := .cells #[.string (⟨#[]⟩ : ByteArray),.string (⟨#[]⟩ : ByteArray),.int .i64 0,.int .i64 0] 45 (0,0)) (by (with_reducible repeat (first | refine blk_drewN ?_ _ | refine blk_drew ?_ | refine blk_alloc ?_ _));exact BK241.out)) : gb241 ≠ gb249));have n7_ := Aside0.mk ((by rw [hg];exact Nat.ne_of_gt (blk_lt (g := gb241) (o := .cells #[.string (⟨#[]⟩ : ByteArray),.string (⟨#[]⟩ : ByteArray),.int .i64 0,.int .i64 0] 45 (0,0)) (by (with_reducible repeat (first | refine blk_drewN ?_ _ | refine blk_drew ?_ | refine blk_alloc ?_ _));exact BK241.out)) : gb249 ≠ gb241));have n8_ := Aside0.mk ((by rw [hg];exact Nat.ne_of_lt (blk_lt (g := gb243) (o := .cells #[.string x244000_1,.string x244001_1,.int .i64 x244002_1,.int .i64 x244003_1] 45 (0,0)) (by (with_reducible repeat (first | refine blk_drewN ?_ _ | refine blk_drew ?_ | refine blk_alloc ?_ _));exact BK243.out)) : gb243 ≠ gb249));have n9_ := Aside0.mk ((by rw [hg];exact Nat.ne_of_gt (blk_lt (g := gb243) (o := .cells #[.string x244000_1,.string x244001_1,.int .i64 x244002_1,.int .i64 x244003_1] 45 (0,0)) (by (with_reducible repeat (first | refine blk_drewN ?_ _ | refine blk_drew ?_ | refine blk_alloc ?_ _));exact BK243.out)) : gb249 ≠ gb243));clear BK241;clear BK243;clear HB;have BK241 := n0_;have BK243 := n1_;have HB := n2_;have BK249 := n3_;have GW249 := n4_;have GE249 := n5_;have NB241_249 := n6_;have NB249_241 := n7_;have NB243_249 := n8_;have NB249_243 := n9_;clear n0_ n1_ n2_ n3_ n4_ n5_ n6_ n7_ n8_ n9_;clear hb hbox hg;have hnb19 := NB249_241.out;have hnc19 := NB241_249.out;have hnb20 := NB249_243.out;have hnc20 := NB243_249.out;have hcz21_0 : w18.cell? ⟨gb249,0,none⟩ = some (.string (⟨#[]⟩ : ByteArray)) := (blk_cell BK249.out 0).trans rfl;have hcz21_1 : w18.cell? ⟨gb249,1,none⟩ = some (.string (⟨#[]⟩ : ByteArray)) := (blk_cell BK249.out 1).trans rfl;have hcz21_2 : w18.cell? ⟨gb249,2,none⟩ = some (.int .i64 0) := (blk_cell BK249.out 2).trans rfl;have hcz21_3 : w18.cell? ⟨gb249,3,none⟩ = some (.int .i64 0) := (blk_cell BK249.out 3).trans rfl;have hfz21_0 := blk_frozen BK249.out 0;have hfz21_1 := blk_frozen BK249.out 1;have hfz21_2 := blk_frozen BK249.out 2;have hfz21_3 := blk_frozen BK249.out 3;have hnb22 := NB243_241.out;have hnc22 := NB241_243.out;have hcz23_0 : w18.cell? ⟨gb243,0,none⟩ = some (.string x244000_1) := (blk_cell BK243.out 0).trans rfl;have hcz23_1 : w18.cell? ⟨gb243,1,none⟩ = some (.string x244001_1) := (blk_cell BK243.out 1).trans rfl;have hcz23_2 : w18.cell? ⟨gb243,2,none⟩ = some (.int .i64 x244002_1) := (blk_cell BK243.out 2).trans rfl;have hcz23_3 : w18.cell? ⟨gb243,3,none⟩ = some (.int .i64 x244003_1) := (blk_cell BK243.out 3).trans rfl;have hfz23_0 := blk_frozen BK243.out 0;have hfz23_1 := blk_frozen BK243.out 1;have hfz23_2 := blk_frozen BK243.out 2;have hfz23_3 := blk_frozen BK243.out 3) | ((with_reducible refine gate_callee (f := 77) rfl ?_);refine goesL_ (some 23) rfl rfl Try.func77 (by kernel_rfl) rfl #[.agg #[.string ((rd_T45 y244 x17_1).f0),.string ((rd_T45 y244 x17_1).f1),.int .i64 ((rd_T45 y244 x17_1).f2),.int .i64 ((rd_T45 y244 x17_1).f3)],.agg #[.string x244000_1,.string x244001_1,.int .i64 x244002_1,.int .i64 x244003_1]] rfl (by (try simp only [List.map_toArray,List.map_cons,List.map_nil]);first | done | rfl | (simp only [List.length_drop,List.length_take];rfl)) ?_;(with_reducible refine (quota_less.calls ((rd_T45 y244 x17_1).f0) ((rd_T45 y244 x17_1).f1) ((rd_T45 y244 x17_1).f2) ((rd_T45 y244 x17_1).f3) x244000_1 x244001_1 x244002_1 x244003_1 true _ A16.out).mono ?_);rintro e w24 ⟨rfl,hb⟩;refine ⟨_,rfl,?_⟩;have n0_ := Aside0.mk (blk_below (g := gb241) (o := .cells #[.string (⟨#[]⟩ : ByteArray),.string (⟨#[]⟩ : ByteArray),.int .i64 0,.int .i64 0] 45 (0,0)) (by (with_reducible repeat (first | refine blk_drewN ?_ _ | refine blk_drew ?_ | refine blk_alloc ?_ _));refine blk_far ?_ NB241_249.out _;(with_reducible repeat (first | refine blk_drewN ?_ _ | refine blk_drew ?_ | refine blk_alloc ?_ _));refine blk_far ?_ NB241_249.out _;(with_reducible repeat (first | refine blk_drewN ?_ _ | refine blk_drew ?_ | refine blk_alloc ?_ _));refine blk_far ?_ NB241_249.out _;(with_reducible repeat (first | refine blk_drewN ?_ _ | refine blk_drew ?_ | refine blk_alloc ?_ _));refine blk_far ?_ NB241_249.out _;(with_reducible repeat (first | refine blk_drewN ?_ _ | refine blk_drew ?_ | refine blk_alloc ?_ _));exact BK241.out) hb);have n1_ := Aside0.mk (blk_below (g := gb243) (o := .cells #[.string x244000_1,.string x244001_1,.int .i64 x244002_1,.int .i64 x244003_1] 45 (0,0)) (by (with_reducible repeat (first | refine blk_drewN ?_ _ | refine blk_drew ?_ | refine blk_alloc ?_ _));refine blk_far ?_ NB243_249.out _;(with_reducible repeat (first | refine blk_drewN ?_ _ | refine blk_drew ?_ | refine blk_alloc ?_ _));refine blk_far ?_ NB243_249.out _;(with_reducible repeat (first | refine blk_drewN ?_ _ | refine blk_drew ?_ | refine blk_alloc ?_ _));refine blk_far ?_ NB243_249.out _;(with_reducible repeat (first | refine blk_drewN ?_ _ | refine blk_drew ?_ | refine blk_alloc ?_ _));refine blk_far ?_ NB243_249.out _;(with_reducible repeat (first | refine blk_drewN ?_ _ | refine blk_drew ?_ | refine blk_alloc ?_ _));exact BK243.out) hb);have n2_ := Aside0.mk (blk_below (g := gb249) (o := .cells #[.string ((rd_T45 y244 x17_1).f0),.string ((rd_T45 y244 x17_1).f1),.int .i64 ((rd_T45 y244 x17_1).f2),.int .i64 ((rd_T45 y244 x17_1).f3)] 45 (0,0)) (by (with_reducible repeat (first | refine blk_drewN ?_ _ | refine blk_drew ?_ | refine blk_alloc ?_ _));refine blk_put (cs := #[.string ((rd_T45 y244 x17_1).f0),.string ((rd_T45 y244 x17_1).f1),.int .i64 ((rd_T45 y244 x17_1).f2),.int .i64 0]) ?_ 3 _ rfl;(with_reducible repeat (first | refine blk_drewN ?_ _ | refine blk_drew ?_ | refine blk_alloc ?_ _));refine blk_put (cs := #[.string ((rd_T45 y244 x17_1).f0),.string ((rd_T45 y244 x17_1).f1),.int .i64 0,.int .i64 0]) ?_ 2 _ rfl;(with_reducible repeat (first | refine blk_drewN ?_ _ | refine blk_drew ?_ | refine blk_alloc ?_ _));refine blk_put (cs := #[.string ((rd_T45 y244 x17_1).f0),.string (⟨#[]⟩ : ByteArray),.int .i64 0,.int .i64 0]) ?_ 1 _ rfl;(with_reducible repeat (first | refine blk_drewN ?_ _ | refine blk_drew ?_ | refine blk_alloc ?_ _));refine blk_put (cs := #[.string (⟨#[]⟩ : ByteArray),.string (⟨#[]⟩ : ByteArray),.int .i64 0,.int .i64 0]) ?_ 0 _ rfl;(with_reducible repeat (first | refine blk_drewN ?_ _ | refine blk_drew ?_ | refine blk_alloc ?_ _));exact BK249.out) hb);have n3_ := Aside0.mk (below_step (by repeat (first | (with_reducible first | exact HB.out | apply below_alloc | apply pw_below_drewN | apply below_drew1 | refine below_set ?_ GE241.out | refine below_set ?_ GE243.out | refine below_set ?_ GE249.out) | exact HB.out)) hb);clear BK241;clear BK243;clear BK249;clear HB;have BK241 := n0_;have BK243 := n1_;have BK249 := n2_;have HB := n3_;clear n0_ n1_ n2_ n3_;(try clear hb);(try clear hb2);(try clear hk);(try clear hi);have hcz25_0 : w24.cell? ⟨gb249,0,none⟩ = some (.string ((rd_T45 y244 x17_1).f0)) := (blk_cell BK249.out 0).trans rfl;have hcz25_1 : w24.cell? ⟨gb249,1,none⟩ = some (.string ((rd_T45 y244 x17_1).f1)) := (blk_cell BK249.out 1).trans rfl;have hcz25_2 : w24.cell? ⟨gb249,2,none⟩ = some (.int .i64 ((rd_T45 y244 x17_1).f2)) := (blk_cell BK249.out 2).trans rfl;have hcz25_3 : w24.cell? ⟨gb249,3,none⟩ = some (.int .i64 ((rd_T45 y244 x17_1).f3)) := (blk_cell BK249.out 3).trans rfl;have hfz25_0 := blk_frozen BK249.out 0;have hfz25_1 := blk_frozen BK249.out 1;have hfz25_2 := blk_frozen BK249.out 2;have hfz25_3 := blk_frozen BK249.out 3;have hcz26_0 : w24.cell? ⟨gb243,0,none⟩ = some (.string x244000_1) := (blk_cell BK243.out 0).trans rfl;have hcz26_1 : w24.cell? ⟨gb243,1,none⟩ = some (.string x244001_1) := (blk_cell BK243.out 1).trans rfl;have hcz26_2 : w24.cell? ⟨gb243,2,none⟩ = some (.int .i64 x244002_1) := (blk_cell BK243.out 2).trans rfl;have hcz26_3 : w24.cell? ⟨gb243,3,none⟩ = some (.int .i64 x244003_1) := (blk_cell BK243.out 3).trans rfl;have hfz26_0 := blk_frozen BK243.out 0;have hfz26_1 := blk_frozen BK243.out 1;have hfz26_2 := blk_frozen BK243.out 2;have hfz26_3 := blk_frozen BK243.out 3))
                    go_roundg k1
                    case measure => have := HK1.out;omega
                    case rel => exact ⟨(wrap64 (x17_1 + 1)),((rd_T45 y244 x17_1).f0),((rd_T45 y244 x17_1).f1),((rd_T45 y244 x17_1).f2),((rd_T45 y244 x17_1).f3),(by first | rfl | (simp;done) | (simp [*];done)),H',⟨by have := HK1.out;omega⟩,⟨by (with_reducible repeat (first | refine blk_drewN ?_ _ | refine blk_drew ?_ | refine blk_alloc ?_ _));refine blk_far ?_ NB241_243.out _;(with_reducible repeat (first | refine blk_drewN ?_ _ | refine blk_drew ?_ | refine blk_alloc ?_ _));refine blk_far ?_ NB241_243.out _;(with_reducible repeat (first | refine blk_drewN ?_ _ | refine blk_drew ?_ | refine blk_alloc ?_ _));refine blk_far ?_ NB241_243.out _;(with_reducible repeat (first | refine blk_drewN ?_ _ | refine blk_drew ?_ | refine blk_alloc ?_ _));refine blk_far ?_ NB241_243.out _;(with_reducible repeat (first | refine blk_drewN ?_ _ | refine blk_drew ?_ | refine blk_alloc ?_ _));exact BK241.out⟩,⟨by (with_reducible repeat (first | refine blk_drewN ?_ _ | refine blk_drew ?_ | refine blk_alloc ?_ _));refine blk_put (cs := #[.string ((rd_T45 y244 x17_1).f0),.string ((rd_T45 y244 x17_1).f1),.int .i64 ((rd_T45 y244 x17_1).f2),.int .i64 x244003_1]) ?_ 3 _ rfl;(with_reducible repeat (first | refine blk_drewN ?_ _ | refine blk_drew ?_ | refine blk_alloc ?_ _));refine blk_put (cs := #[.string ((rd_T45 y244 x17_1).f0),.string ((rd_T45 y244 x17_1).f1),.int .i64 x244002_1,.int .i64 x244003_1]) ?_ 2 _ rfl;(with_reducible repeat (first | refine blk_drewN ?_ _ | refine blk_drew ?_ | refine blk_alloc ?_ _));refine blk_put (cs := #[.string ((rd_T45 y244 x17_1).f0),.string x244001_1,.int .i64 x244002_1,.int .i64 x244003_1]) ?_ 1 _ rfl;(with_reducible repeat (first | refine blk_drewN ?_ _ | refine blk_drew ?_ | refine blk_alloc ?_ _));refine blk_put (cs := #[.string x244000_1,.string x244001_1,.int .i64 x244002_1,.int .i64 x244003_1]) ?_ 0 _ rfl;(with_reducible repeat (first | refine blk_drewN ?_ _ | refine blk_drew ?_ | refine blk_alloc ?_ _));exact BK243.out⟩,⟨by repeat (first | (with_reducible first | exact HB.out | apply below_alloc | apply pw_below_drewN | apply below_drew1 | refine below_set ?_ GE241.out | refine below_set ?_ GE243.out | refine below_set ?_ GE249.out) | exact HB.out)⟩⟩
                  · replace c17 := Bool.eq_false_iff.mpr c17
                    subst c17
                    have H1 : (quota_Worst.l0 k1 y244 (y244.length : Int) (wrap64 (x17_1 + 1)) x244000_1 x244001_1 x244002_1 x244003_1) = some (r1,r2,r3,r4,r5) := by rw [if_neg (show ¬ (false = true) by decide)] at H;exact H
                    clear H
                    have H := H1
                    clear H1
                    have H' := Aside0.mk H
                    clear H
                    have p248 : 0 ≤ (x17_1 : Int) := of_decide_eq_true (by first | (with_reducible assumption) | assumption)
                    have q248 : x17_1 < (y244.length : Int) := of_decide_eq_true (by first | (with_reducible assumption) | assumption)
                    obtain ⟨ad248,e248,hx248_0,hx248_1,hx248_2,hx248_3⟩ := at_T45 HR247.out x17_1 p248 q248
                    cases e248
                    replace hx248_0 := (HB.out.cell (World.block_lt_of_cell? w _ hx248_0)).trans hx248_0
                    replace hx248_1 := (HB.out.cell (World.block_lt_of_cell? w _ hx248_1)).trans hx248_1
                    replace hx248_2 := (HB.out.cell (World.block_lt_of_cell? w _ hx248_2)).trans hx248_2
                    replace hx248_3 := (HB.out.cell (World.block_lt_of_cell? w _ hx248_3)).trans hx248_3
                    replace p248 := eq_true p248
                    replace q248 := eq_true q248
                    go_wp2_with (first | ((with_reducible refine gate_dst (N := 6) rfl ?_);refine box_event ?hg (N := 6) ?hd (cs := #[.string (⟨#[]⟩ : ByteArray),.string (⟨#[]⟩ : ByteArray),.int .i64 0,.int .i64 0]) (t := 45) ?hr ?_;(case hd => rfl);(case hg => rfl);(case hr => first | (go_simp;done) | (go_simp;rfl));intro gb249 hg w27 hbox hb;have n0_ := Aside0.mk (blk_below (g := gb241) (o := .cells #[.string (⟨#[]⟩ : ByteArray),.string (⟨#[]⟩ : ByteArray),.int .i64 0,.int .i64 0] 45 (0,0)) (by (with_reducible repeat (first | refine blk_drewN ?_ _ | refine blk_drew ?_ | refine blk_alloc ?_ _));exact BK241.out) hb);have n1_ := Aside0.mk (blk_below (g := gb243) (o := .cells #[.string x244000_1,.string x244001_1,.int .i64 x244002_1,.int .i64 x244003_1] 45 (0,0)) (by (with_reducible repeat (first | refine blk_drewN ?_ _ | refine blk_drew ?_ | refine blk_alloc ?_ _));exact BK243.out) hb);have n2_ := Aside0.mk (below_step (by repeat (first | (with_reducible first | exact HB.out | apply below_alloc | apply pw_below_drewN | apply below_drew1 | refine below_set ?_ GE241.out | refine below_set ?_ GE243.out) | exact HB.out)) hb);have n3_ := Aside0.mk (hbox);have n4_ := Aside0.mk ((by rw [hg];exact (below_size (by repeat (first | (with_reducible first | exact HB.out | apply below_alloc | apply pw_below_drewN | apply below_drew1 | refine below_set ?_ GE241.out | refine below_set ?_ GE243.out) | exact HB.out))) : w.heap.size ≤ gb249));have n5_ := Aside0.mk ((by rw [hg];exact (below_size (by repeat (first | (with_reducible first | exact HB.out | apply below_alloc | apply pw_below_drewN | apply below_drew1 | refine below_set ?_ GE241.out | refine below_set ?_ GE243.out) | exact HB.out))) : w.heap.size ≤ gb249));have n6_ := Aside0.mk ((by rw [hg];exact Nat.ne_of_lt (blk_lt (g := gb241) (o := .cells #[.string (⟨#[]⟩ : ByteArray),.string (⟨#[]⟩ : ByteArray),.int .i64 0,.int .i64 0] 45 (0,0)) (by (with_reducible repeat (first | refine blk_drewN ?_ _ | refine blk_drew ?_ | refine blk_alloc ?_ _));exact BK241.out)) : gb241 ≠ gb249));have n7_ := Aside0.mk ((by rw [hg];exact Nat.ne_of_gt (blk_lt (g := gb241) (o := .cells #[.string (⟨#[]⟩ : ByteArray),.string (⟨#[]⟩ : ByteArray),.int .i64 0,.int .i64 0] 45 (0,0)) (by (with_reducible repeat (first | refine blk_drewN ?_ _ | refine blk_drew ?_ | refine blk_alloc ?_ _));exact BK241.out)) : gb249 ≠ gb241));have n8_ := Aside0.mk ((by rw [hg];exact Nat.ne_of_lt (blk_lt (g := gb243) (o := .cells #[.string x244000_1,.string x244001_1,.int .i64 x244002_1,.int .i64 x244003_1] 45 (0,0)) (by (with_reducible repeat (first | refine blk_drewN ?_ _ | refine blk_drew ?_ | refine blk_alloc ?_ _));exact BK243.out)) : gb243 ≠ gb249));have n9_ := Aside0.mk ((by rw [hg];exact Nat.ne_of_gt (blk_lt (g := gb243) (o := .cells #[.string x244000_1,.string x244001_1,.int .i64 x244002_1,.int .i64 x244003_1] 45 (0,0)) (by (with_reducible repeat (first | refine blk_drewN ?_ _ | refine blk_drew ?_ | refine blk_alloc ?_ _));exact BK243.out)) : gb249 ≠ gb243));clear BK241;clear BK243;clear HB;have BK241 := n0_;have BK243 := n1_;have HB := n2_;have BK249 := n3_;have GW249 := n4_;have GE249 := n5_;have NB241_249 := n6_;have NB249_241 := n7_;have NB243_249 := n8_;have NB249_243 := n9_;clear n0_ n1_ n2_ n3_ n4_ n5_ n6_ n7_ n8_ n9_;clear hb hbox hg;have hnb28 := NB249_241.out;have hnc28 := NB241_249.out;have hnb29 := NB249_243.out;have hnc29 := NB243_249.out;have hcz30_0 : w27.cell? ⟨gb249,0,none⟩ = some (.string (⟨#[]⟩ : ByteArray)) := (blk_cell BK249.out 0).trans rfl;have hcz30_1 : w27.cell? ⟨gb249,1,none⟩ = some (.string (⟨#[]⟩ : ByteArray)) := (blk_cell BK249.out 1).trans rfl;have hcz30_2 : w27.cell? ⟨gb249,2,none⟩ = some (.int .i64 0) := (blk_cell BK249.out 2).trans rfl;have hcz30_3 : w27.cell? ⟨gb249,3,none⟩ = some (.int .i64 0) := (blk_cell BK249.out 3).trans rfl;have hfz30_0 := blk_frozen BK249.out 0;have hfz30_1 := blk_frozen BK249.out 1;have hfz30_2 := blk_frozen BK249.out 2;have hfz30_3 := blk_frozen BK249.out 3;have hnb31 := NB243_241.out;have hnc31 := NB241_243.out;have hcz32_0 : w27.cell? ⟨gb243,0,none⟩ = some (.string x244000_1) := (blk_cell BK243.out 0).trans rfl;have hcz32_1 : w27.cell? ⟨gb243,1,none⟩ = some (.string x244001_1) := (blk_cell BK243.out 1).trans rfl;have hcz32_2 : w27.cell? ⟨gb243,2,none⟩ = some (.int .i64 x244002_1) := (blk_cell BK243.out 2).trans rfl;have hcz32_3 : w27.cell? ⟨gb243,3,none⟩ = some (.int .i64 x244003_1) := (blk_cell BK243.out 3).trans rfl;have hfz32_0 := blk_frozen BK243.out 0;have hfz32_1 := blk_frozen BK243.out 1;have hfz32_2 := blk_frozen BK243.out 2;have hfz32_3 := blk_frozen BK243.out 3) | ((with_reducible refine gate_callee (f := 77) rfl ?_);refine goesL_ (some 23) rfl rfl Try.func77 (by kernel_rfl) rfl #[.agg #[.string ((rd_T45 y244 x17_1).f0),.string ((rd_T45 y244 x17_1).f1),.int .i64 ((rd_T45 y244 x17_1).f2),.int .i64 ((rd_T45 y244 x17_1).f3)],.agg #[.string x244000_1,.string x244001_1,.int .i64 x244002_1,.int .i64 x244003_1]] rfl (by (try simp only [List.map_toArray,List.map_cons,List.map_nil]);first | done | rfl | (simp only [List.length_drop,List.length_take];rfl)) ?_;(with_reducible refine (quota_less.calls ((rd_T45 y244 x17_1).f0) ((rd_T45 y244 x17_1).f1) ((rd_T45 y244 x17_1).f2) ((rd_T45 y244 x17_1).f3) x244000_1 x244001_1 x244002_1 x244003_1 false _ A16.out).mono ?_);rintro e w33 ⟨rfl,hb⟩;refine ⟨_,rfl,?_⟩;have n0_ := Aside0.mk (blk_below (g := gb241) (o := .cells #[.string (⟨#[]⟩ : ByteArray),.string (⟨#[]⟩ : ByteArray),.int .i64 0,.int .i64 0] 45 (0,0)) (by (with_reducible repeat (first | refine blk_drewN ?_ _ | refine blk_drew ?_ | refine blk_alloc ?_ _));refine blk_far ?_ NB241_249.out _;(with_reducible repeat (first | refine blk_drewN ?_ _ | refine blk_drew ?_ | refine blk_alloc ?_ _));refine blk_far ?_ NB241_249.out _;(with_reducible repeat (first | refine blk_drewN ?_ _ | refine blk_drew ?_ | refine blk_alloc ?_ _));refine blk_far ?_ NB241_249.out _;(with_reducible repeat (first | refine blk_drewN ?_ _ | refine blk_drew ?_ | refine blk_alloc ?_ _));refine blk_far ?_ NB241_249.out _;(with_reducible repeat (first | refine blk_drewN ?_ _ | refine blk_drew ?_ | refine blk_alloc ?_ _));exact BK241.out) hb);have n1_ := Aside0.mk (blk_below (g := gb243) (o := .cells #[.string x244000_1,.string x244001_1,.int .i64 x244002_1,.int .i64 x244003_1] 45 (0,0)) (by (with_reducible repeat (first | refine blk_drewN ?_ _ | refine blk_drew ?_ | refine blk_alloc ?_ _));refine blk_far ?_ NB243_249.out _;(with_reducible repeat (first | refine blk_drewN ?_ _ | refine blk_drew ?_ | refine blk_alloc ?_ _));refine blk_far ?_ NB243_249.out _;(with_reducible repeat (first | refine blk_drewN ?_ _ | refine blk_drew ?_ | refine blk_alloc ?_ _));refine blk_far ?_ NB243_249.out _;(with_reducible repeat (first | refine blk_drewN ?_ _ | refine blk_drew ?_ | refine blk_alloc ?_ _));refine blk_far ?_ NB243_249.out _;(with_reducible repeat (first | refine blk_drewN ?_ _ | refine blk_drew ?_ | refine blk_alloc ?_ _));exact BK243.out) hb);have n2_ := Aside0.mk (blk_below (g := gb249) (o := .cells #[.string ((rd_T45 y244 x17_1).f0),.string ((rd_T45 y244 x17_1).f1),.int .i64 ((rd_T45 y244 x17_1).f2),.int .i64 ((rd_T45 y244 x17_1).f3)] 45 (0,0)) (by (with_reducible repeat (first | refine blk_drewN ?_ _ | refine blk_drew ?_ | refine blk_alloc ?_ _));refine blk_put (cs := #[.string ((rd_T45 y244 x17_1).f0),.string ((rd_T45 y244 x17_1).f1),.int .i64 ((rd_T45 y244 x17_1).f2),.int .i64 0]) ?_ 3 _ rfl;(with_reducible repeat (first | refine blk_drewN ?_ _ | refine blk_drew ?_ | refine blk_alloc ?_ _));refine blk_put (cs := #[.string ((rd_T45 y244 x17_1).f0),.string ((rd_T45 y244 x17_1).f1),.int .i64 0,.int .i64 0]) ?_ 2 _ rfl;(with_reducible repeat (first | refine blk_drewN ?_ _ | refine blk_drew ?_ | refine blk_alloc ?_ _));refine blk_put (cs := #[.string ((rd_T45 y244 x17_1).f0),.string (⟨#[]⟩ : ByteArray),.int .i64 0,.int .i64 0]) ?_ 1 _ rfl;(with_reducible repeat (first | refine blk_drewN ?_ _ | refine blk_drew ?_ | refine blk_alloc ?_ _));refine blk_put (cs := #[.string (⟨#[]⟩ : ByteArray),.string (⟨#[]⟩ : ByteArray),.int .i64 0,.int .i64 0]) ?_ 0 _ rfl;(with_reducible repeat (first | refine blk_drewN ?_ _ | refine blk_drew ?_ | refine blk_alloc ?_ _));exact BK249.out) hb);have n3_ := Aside0.mk (below_step (by repeat (first | (with_reducible first | exact HB.out | apply below_alloc | apply pw_below_drewN | apply below_drew1 | refine below_set ?_ GE241.out | refine below_set ?_ GE243.out | refine below_set ?_ GE249.out) | exact HB.out)) hb);clear BK241;clear BK243;clear BK249;clear HB;have BK241 := n0_;have BK243 := n1_;have BK249 := n2_;have HB := n3_;clear n0_ n1_ n2_ n3_;(try clear hb);(try clear hb2);(try clear hk);(try clear hi)))
                    go_roundg k1
                    case measure => have := HK1.out;omega
                    case rel => exact ⟨(wrap64 (x17_1 + 1)),(x244000_1),(x244001_1),(x244002_1),(x244003_1),(by first | rfl | (simp;done) | (simp [*];done)),H',⟨by have := HK1.out;omega⟩,⟨by (with_reducible repeat (first | refine blk_drewN ?_ _ | refine blk_drew ?_ | refine blk_alloc ?_ _));exact BK241.out⟩,⟨by (with_reducible repeat (first | refine blk_drewN ?_ _ | refine blk_drew ?_ | refine blk_alloc ?_ _));exact BK243.out⟩,⟨by repeat (first | (with_reducible first | exact HB.out | apply below_alloc | apply pw_below_drewN | apply below_drew1 | refine below_set ?_ GE241.out | refine below_set ?_ GE243.out | refine below_set ?_ GE249.out) | exact HB.out)⟩⟩
                · rw [if_neg c15] at H
                  exact absurd H (by simp)
              · rw [if_neg c14] at H
                exact absurd H (by simp)
            · rw [if_neg c13] at H
              have c13b0 : decide (x17_1 < (y244.length : Int)) = false := decide_eq_false c13
              clear c13
              simp only [Option.some.injEq,Prod.mk.injEq] at H
              obtain ⟨rfl,rfl,rfl,rfl,rfl⟩ := H
              have hnb34 := NB243_241.out
              have hnc34 := NB241_243.out
              have hcz35_0 : wr.cell? ⟨gb243,0,none⟩ = some (.string x244000_1) := (blk_cell BK243.out 0).trans rfl
              have hcz35_1 : wr.cell? ⟨gb243,1,none⟩ = some (.string x244001_1) := (blk_cell BK243.out 1).trans rfl
              have hcz35_2 : wr.cell? ⟨gb243,2,none⟩ = some (.int .i64 x244002_1) := (blk_cell BK243.out 2).trans rfl
              have hcz35_3 : wr.cell? ⟨gb243,3,none⟩ = some (.int .i64 x244003_1) := (blk_cell BK243.out 3).trans rfl
              have hfz35_0 := blk_frozen BK243.out 0
              have hfz35_1 := blk_frozen BK243.out 1
              have hfz35_2 := blk_frozen BK243.out 2
              have hfz35_3 := blk_frozen BK243.out 3
              have hcz36_0 : wr.cell? ⟨gb241,0,none⟩ = some (.string (⟨#[]⟩ : ByteArray)) := (blk_cell BK241.out 0).trans rfl
              have hcz36_1 : wr.cell? ⟨gb241,1,none⟩ = some (.string (⟨#[]⟩ : ByteArray)) := (blk_cell BK241.out 1).trans rfl
              have hcz36_2 : wr.cell? ⟨gb241,2,none⟩ = some (.int .i64 0) := (blk_cell BK241.out 2).trans rfl
              have hcz36_3 : wr.cell? ⟨gb241,3,none⟩ = some (.int .i64 0) := (blk_cell BK241.out 3).trans rfl
              have hfz36_0 := blk_frozen BK241.out 0
              have hfz36_1 := blk_frozen BK241.out 1
              have hfz36_2 := blk_frozen BK241.out 2
              have hfz36_3 := blk_frozen BK241.out 3
              go_wp2
              refine bodyPost_ret (results_ct rfl _ _ gb241 45 #[.string x244000_1,.string x244001_1,.int .i64 x244002_1,.int .i64 x244003_1] (0,0) _ rfl (by (with_reducible repeat (first | refine blk_drewN ?_ _ | refine blk_drew ?_ | refine blk_alloc ?_ _));refine blk_put (cs := #[.string x244000_1,.string x244001_1,.int .i64 x244002_1,.int .i64 0]) ?_ 3 _ rfl;(with_reducible repeat (first | refine blk_drewN ?_ _ | refine blk_drew ?_ | refine blk_alloc ?_ _));refine blk_put (cs := #[.string x244000_1,.string x244001_1,.int .i64 0,.int .i64 0]) ?_ 2 _ rfl;(with_reducible repeat (first | refine blk_drewN ?_ _ | refine blk_drew ?_ | refine blk_alloc ?_ _));refine blk_put (cs := #[.string x244000_1,.string (⟨#[]⟩ : ByteArray),.int .i64 0,.int .i64 0]) ?_ 1 _ rfl;(with_reducible repeat (first | refine blk_drewN ?_ _ | refine blk_drew ?_ | refine blk_alloc ?_ _));refine blk_put (cs := #[.string (⟨#[]⟩ : ByteArray),.string (⟨#[]⟩ : ByteArray),.int .i64 0,.int .i64 0]) ?_ 0 _ rfl;(with_reducible repeat (first | refine blk_drewN ?_ _ | refine blk_drew ?_ | refine blk_alloc ?_ _));exact BK241.out) Try.underlying45 rfl (by kernel_rfl)) rfl ?_
              exact ⟨by first | rfl | (simp [errW_none,errW_some] <;> rfl) | (simp [*,errW_none,errW_some] <;> rfl),by repeat (first | (with_reducible first | exact HB.out | apply below_alloc | apply pw_below_drewN | apply below_drew1 | refine below_set ?_ GE241.out | refine below_set ?_ GE243.out) | exact HB.out)⟩
      · rw [if_neg c6] at H
        exact absurd H (by simp)
    · rw [if_neg c5] at H
      exact absurd H (by simp)
end Go.Proofs.Ytcenlehfbgnphaa.Z
end
section
namespace Go.Proofs.Ytcenlehfbgnphaa.Z
open Go.RowKit Go.Proofs.YtcenlehfbgnphaaW.PrintWords Go.Proofs.YtcenlehfbgnphaaW.PrintLast Go.Proofs.YtcenlehfbgnphaaW.PrintMore
attribute [local go_sem] max2_int min2_int max_two min_two max_three min_three max_four min_four
set_option linter.unusedVariables false
set_option linter.unusedSimpArgs false
def quota_Room.f (a0_0 : ByteArray) (a0_1 : ByteArray) (a0_2 : Int) (a0_3 : Int) : Option (Int × Int) := (safe_Sub.f a0_3 a0_2).bind fun bt252 => (some (bt252.1,bt252.2))
set_option maxHeartbeats 8000000 in
set_option maxRecDepth 100000 in
theorem quota_Room.calls (a0_0 : ByteArray) (a0_1 : ByteArray) (a0_2 : Int) (a0_3 : Int) (r1 : Int) (r2 : Int) (w : World) (h : quota_Room.f a0_0 a0_1 a0_2 a0_3 = some (r1,r2)) :
    Calls Try.prog 51 #[.agg #[.string a0_0,.string a0_1,.int .i64 a0_2,.int .i64 a0_3]] w fun e w' => e = .returned (.tuple #[.int .i64 r1,.int .i64 r2]) ∧ Below w.heap.size w w' := by
  have hu45 := Try.underlying45
  have HB := Aside0.mk (Below.refl w.heap.size w)
  have H : ((safe_Sub.f a0_3 a0_2).bind fun bt252 => (some (bt252.1,bt252.2))) = some (r1,r2) := h
  clear h
  replace H := Option.bind_eq_some_iff.mp H
  obtain ⟨⟨t252,t253⟩,A20,H⟩ := H
  replace H : (some (t252,t253)) = some (r1,r2) := H
  have A2 := Aside0.mk A20
  clear A20
  simp only [Option.some.injEq,Prod.mk.injEq] at H
  obtain ⟨rfl,rfl⟩ := H
  go_enter Try.func51,Try.ntmps51
  go_wp2_with (first | ((with_reducible refine gate_dst (N := 1) rfl ?_);refine box_event ?hg (N := 1) ?hd (cs := #[.string a0_0,.string a0_1,.int .i64 a0_2,.int .i64 a0_3]) (t := 45) ?hr ?_;(case hd => rfl);(case hg => rfl);(case hr => first | (go_simp;done) | (go_simp;rfl));intro gb251 hg w3 hbox hb;have n0_ := Aside0.mk (below_step (by repeat (first | (with_reducible first | exact HB.out | apply below_alloc | apply pw_below_drewN | apply below_drew1) | exact HB.out)) hb);have n1_ := Aside0.mk (hbox);have n2_ := Aside0.mk ((by rw [hg];exact (below_size (by repeat (first | (with_reducible first | exact HB.out | apply below_alloc | apply pw_below_drewN | apply below_drew1) | exact HB.out))) : w.heap.size ≤ gb251));have n3_ := Aside0.mk ((by rw [hg];exact (below_size (by repeat (first | (with_reducible first | exact HB.out | apply below_alloc | apply pw_below_drewN | apply below_drew1) | exact HB.out))) : w.heap.size ≤ gb251));clear HB;have HB := n0_;have BK251 := n1_;have GW251 := n2_;have GE251 := n3_;clear n0_ n1_ n2_ n3_;clear hb hbox hg;have hcz4_0 : w3.cell? ⟨gb251,0,none⟩ = some (.string a0_0) := (blk_cell BK251.out 0).trans rfl;have hcz4_1 : w3.cell? ⟨gb251,1,none⟩ = some (.string a0_1) := (blk_cell BK251.out 1).trans rfl;have hcz4_2 : w3.cell? ⟨gb251,2,none⟩ = some (.int .i64 a0_2) := (blk_cell BK251.out 2).trans rfl;have hcz4_3 : w3.cell? ⟨gb251,3,none⟩ = some (.int .i64 a0_3) := (blk_cell BK251.out 3).trans rfl;have hfz4_0 := blk_frozen BK251.out 0;have hfz4_1 := blk_frozen BK251.out 1;have hfz4_2 := blk_frozen BK251.out 2;have hfz4_3 := blk_frozen BK251.out 3) | ((with_reducible refine gate_callee (f := 25) rfl ?_);refine goesL_ (some 8) rfl rfl Try.func25 (by kernel_rfl) rfl #[.int .i64 a0_3,.int .i64 a0_2] rfl (by (try simp only [List.map_toArray,List.map_cons,List.map_nil]);first | done | rfl | (simp only [List.length_drop,List.length_take];rfl)) ?_;(with_reducible refine (safe_Sub.calls a0_3 a0_2 t252 t253 _ A2.out).mono ?_);rintro e w' ⟨rfl,⟨nd,rfl⟩⟩;refine ⟨_,rfl,?_⟩))
  go_ret2
  exact ⟨by first | rfl | (simp [errW_none,errW_some] <;> rfl) | (simp [*,errW_none,errW_some] <;> rfl),by repeat (first | (with_reducible first | exact HB.out | apply below_alloc | apply pw_below_drewN | apply below_drew1 | refine below_set ?_ GE251.out) | exact HB.out)⟩
end Go.Proofs.Ytcenlehfbgnphaa.Z
end
section
namespace Go.Proofs.Ytcenlehfbgnphaa.Z
open Go.RowKit Go.Proofs.YtcenlehfbgnphaaW.PrintWords Go.Proofs.YtcenlehfbgnphaaW.PrintLast Go.Proofs.YtcenlehfbgnphaaW.PrintMore
attribute [local go_sem] max2_int min2_int max_two min_two max_three min_three max_four min_four
set_option linter.unusedVariables false
set_option linter.unusedSimpArgs false
def verdererlaw28_u.f (a0 : Int) : Option ((List (S45))) := some (([(⟨(⟨#[113]⟩ : ByteArray),(⟨#[97]⟩ : ByteArray),a0,5⟩ : S45)] : List (S45)))
set_option maxHeartbeats 8000000 in
set_option maxRecDepth 100000 in
theorem verdererlaw28_u.calls (a0 : Int) (r : List (S45)) (w : World) (h : verdererlaw28_u.f a0 = some r) :
    Calls Try.prog 76 #[.int .i64 a0] w fun e w' => ∃ v0_ : Value,e = .returned (v0_) ∧ Kd.R k45 45 w' w.heap.size (fun _ => True) v0_ r ∧ Below w.heap.size w w' := by
  have hu45 := Try.underlying45
  have HB := Aside0.mk (Below.refl w.heap.size w)
  have H : (some (([(⟨(⟨#[113]⟩ : ByteArray),(⟨#[97]⟩ : ByteArray),a0,5⟩ : S45)] : List (S45)))) = some r := h
  clear h
  obtain ⟨y254,hy254⟩ : ∃ y_ : List (S45),y_ = (([(⟨(⟨#[113]⟩ : ByteArray),(⟨#[97]⟩ : ByteArray),a0,5⟩ : S45)] : List (S45))) := ⟨_,rfl⟩
  replace H : (some y254) = some r := by first | (rw [hy254];with_reducible exact H) | (have H2_ := (Option.bind_some _ _).symm.trans H;rw [hy254];with_reducible exact H2_) | (have H2_ := (Option.bind_some _ _).symm.trans H;with_reducible exact H2_) | with_reducible exact H | (rw [hy254];exact H) | exact H
  have Ny254 := Aside0.mk hy254
  clear hy254
  obtain rfl := Option.some.inj H
  go_enter Try.func76,Try.ntmps76
  go_wp2_with (first | ((with_reducible refine gate_dst (N := 5) rfl ?_);refine Kd.R_lit k45 _ 45 ?hg (N := 5) ?hd (xs := ([(⟨(⟨#[113]⟩ : ByteArray),(⟨#[97]⟩ : ByteArray),a0,5⟩ : S45)] : List (S45))) (inner := [.string (⟨#[113]⟩ : ByteArray),.string (⟨#[97]⟩ : ByteArray),.int .i64 a0,.int .i64 5]) (ok := fun _ => True) (okp := fun _ => True) ?hr ?hp (fun _ hk => hk) trivial (Below.refl _ _) (Nat.le_refl _) (by simp) ?_;(case hd => rfl);(case hg => rfl);(case hr => first | (go_simp;done) | (go_simp;rfl));(case hp => exact (Reps.c4 (show Kd.M k45 _ _ _ (⟨(⟨#[113]⟩ : ByteArray),(⟨#[97]⟩ : ByteArray),a0,5⟩ : S45) [.string (⟨#[113]⟩ : ByteArray),.string (⟨#[97]⟩ : ByteArray),.int .i64 a0,.int .i64 5] from (k45_mkM _ _ _ (⟨(⟨#[113]⟩ : ByteArray),(⟨#[97]⟩ : ByteArray),a0,5⟩ : S45) )) (Reps.none _ _)));intro v255 w2 ho3 hb hg_ hnew_;clear hg_ hnew_;(first | rw [← Ny254.out] at ho3 | (simp only [Int.reduceToNat] at ho3;rw [← Ny254.out] at ho3));have n0_ := Aside0.mk (Kd.R_lower ho3 (below_size (by repeat (first | (with_reducible first | exact HB.out | apply below_alloc | apply pw_below_drewN | apply below_drew1) | exact HB.out))));have n1_ := Aside0.mk (below_step (by repeat (first | (with_reducible first | exact HB.out | apply below_alloc | apply pw_below_drewN | apply below_drew1) | exact HB.out)) hb);clear HB;have HO256 := n0_;have HB := n1_;clear n0_ n1_;clear hb ho3))
  go_ret
  exact ⟨_,by first | rfl | (simp [errW_none,errW_some] <;> rfl) | (simp [*,errW_none,errW_some] <;> rfl),by (with_reducible repeat (first | apply Kd.R_alloc | apply Kd.R_drewN | apply Kd.R_drew));exact HO256.out,by repeat (first | (with_reducible first | exact HB.out | apply below_alloc | apply pw_below_drewN | apply below_drew1) | exact HB.out)⟩
end Go.Proofs.Ytcenlehfbgnphaa.Z
end
