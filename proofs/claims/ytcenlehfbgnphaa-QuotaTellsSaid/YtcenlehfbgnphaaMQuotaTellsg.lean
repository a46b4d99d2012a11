/- Parts of the proof of QuotaTells: what its functions answer. -/
import Derived.Test.YtcenlehfbgnphaaMQuotaTellsa
import Derived.Test.YtcenlehfbgnphaaMQuotaTellsb
import Derived.Test.YtcenlehfbgnphaaMQuotaTellsc
import Derived.Test.YtcenlehfbgnphaaMQuotaTellsd
import Derived.Test.YtcenlehfbgnphaaMQuotaTellse
import Derived.Test.YtcenlehfbgnphaaMQuotaTellsf
import Derived.Deep.Slices
import Derived.ProofKit
section
namespace Go.Proofs.Ytcenlehfbgnphaa.Z
open Go.RowKit Go.Proofs.YtcenlehfbgnphaaW.PrintWords Go.Proofs.YtcenlehfbgnphaaW.PrintLast Go.Proofs.YtcenlehfbgnphaaW.PrintMore
attribute [local go_sem] max2_int min2_int max_two min_two max_three min_three max_four min_four
set_option linter.unusedVariables false
set_option linter.unusedSimpArgs false
def verdererref03_Sub.f (k : Nat) (a0 : Int) (a1 : Int) : Option (Int × Int) := (verdererref03_big.f k a1).bind fun bt155 => ((verdererref03_big.f k a0).bind fun bt160 => ((verdererref03_Plus.f k bt160.1 bt160.2 (!bt155.1) bt155.2).bind fun bt164 => ((verdererref03_Big_Value.f k bt164.1 bt164.2).bind fun bt168 => (some (bt168.1,bt168.2)))))
theorem verdererref03_Sub.mono : ∀ a0 a1 k,LeO (verdererref03_Sub.f k a0 a1) (verdererref03_Sub.f (k + 1) a0 a1) := by
  intro a0 a1 k
  unfold verdererref03_Sub.f
  repeat' first
      | (with_reducible exact verdererref03_Big_Value.mono _ _ _)
      | (with_reducible exact verdererref03_Plus.mono _ _ _ _ _)
      | (with_reducible exact verdererref03_big.mono _ _)
      | (with_reducible exact LeO.refl _)
      | (with_reducible exact LeO.none _)
      | (with_reducible refine LeO.ite ?_ ?_)
      | (with_reducible refine LeO.bind ?_ (fun _ => ?_))
      | exact verdererref03_Big_Value.mono _ _ _
      | exact verdererref03_Plus.mono _ _ _ _ _
      | exact verdererref03_big.mono _ _
      | exact LeO.none _
      | refine LeO.ite ?_ ?_
      | refine LeO.bind ?_ (fun _ => ?_)
def verdererref03_Sub.T3 : Bool × List (List Nat × List Nat) := (true,[([],[]),([0],[0]),([],[]),([1,2,1],[1,2]),([3,3],[3]),([4],[4]),([4],[4]),([5,4,0,1,2,3,4,5,6],[5]),([6,7,0,1,2,3,4,5,6,7],[6])])
def verdererref03_Sub.B3 : List Nat := [0,1,0,7,15,31,31,127,255]
theorem verdererref03_Sub.tab3 : rtab .any (opsOf Try.f26 3) = verdererref03_Sub.T3 := by kernel_rfl
theorem verdererref03_Sub.bits3 : waitsOk verdererref03_Sub.T3.2 verdererref03_Sub.B3 = true := by kernel_rfl
set_option maxHeartbeats 8000000 in
set_option maxRecDepth 100000 in
theorem verdererref03_Sub.calls (k : Nat) (a0 : Int) (a1 : Int) (r1 : Int) (r2 : Int) (w : World) (h : verdererref03_Sub.f k a0 a1 = some (r1,r2)) :
    Calls Try.prog 26 #[.int .i64 a0,.int .i64 a1] w fun e w' => e = .returned (.tuple #[.int .i64 r1,.int .i64 r2]) ∧ Below w.heap.size w w' := by
  have hu29 := Try.underlying29
  have HB := Aside0.mk (Below.refl w.heap.size w)
  have H : ((verdererref03_big.f k a1).bind fun bt155 => ((verdererref03_big.f k a0).bind fun bt160 => ((verdererref03_Plus.f k bt160.1 bt160.2 (!bt155.1) bt155.2).bind fun bt164 => ((verdererref03_Big_Value.f k bt164.1 bt164.2).bind fun bt168 => (some (bt168.1,bt168.2)))))) = some (r1,r2) := h
  clear h
  replace H := Option.bind_eq_some_iff.mp H
  obtain ⟨⟨t155,t156⟩,A30,H⟩ := H
  replace H : ((verdererref03_big.f k a0).bind fun bt160 => ((verdererref03_Plus.f k bt160.1 bt160.2 (!t155) t156).bind fun bt164 => ((verdererref03_Big_Value.f k bt164.1 bt164.2).bind fun bt168 => (some (bt168.1,bt168.2))))) = some (r1,r2) := H
  have A3 := Aside0.mk A30
  clear A30
  replace H := Option.bind_eq_some_iff.mp H
  obtain ⟨⟨t160,t161⟩,A40,H⟩ := H
  replace H : ((verdererref03_Plus.f k t160 t161 (!t155) t156).bind fun bt164 => ((verdererref03_Big_Value.f k bt164.1 bt164.2).bind fun bt168 => (some (bt168.1,bt168.2)))) = some (r1,r2) := H
  have A4 := Aside0.mk A40
  clear A40
  replace H := Option.bind_eq_some_iff.mp H
  obtain ⟨⟨t164,t165⟩,A50,H⟩ := H
  replace H : ((verdererref03_Big_Value.f k t164 t165).bind fun bt168 => (some (bt168.1,bt168.2))) = some (r1,r2) := H
  have A5 := Aside0.mk A50
  clear A50
  replace H := Option.bind_eq_some_iff.mp H
  obtain ⟨⟨t168,t169⟩,A60,H⟩ := H
  replace H : (some (t168,t169)) = some (r1,r2) := H
  have A6 := Aside0.mk A60
  clear A60
  simp only [Option.some.injEq,Prod.mk.injEq] at H
  obtain ⟨rfl,rfl⟩ := H
  go_enter Try.func26,Try.ntmps26
  try go_wp2_with (first | ((with_reducible refine gate_callee (f := 61) rfl ?_);refine goesL_ (some 8) rfl rfl Try.func61 (by kernel_rfl) rfl #[.int .i64 a1] rfl (by (try simp only [List.map_toArray,List.map_cons,List.map_nil]);first | done | rfl | (simp only [List.length_drop,List.length_take];rfl)) ?_;(with_reducible refine (verdererref03_big.calls k a1 t155 t156 _ A3.out).mono ?_);rintro e w7 ⟨v157,rfl,ho0,hb⟩;refine ⟨_,rfl,?_⟩;have n0_ := Aside0.mk (Kd.R_lower ho0 (below_size (by repeat (first | (with_reducible first | exact HB.out | apply below_alloc | apply pw_below_drewN | apply below_drew1) | exact HB.out))));have n1_ := Aside0.mk (below_step (by repeat (first | (with_reducible first | exact HB.out | apply below_alloc | apply pw_below_drewN | apply below_drew1) | exact HB.out)) hb);clear HB;have HO158 := n0_;have HB := n1_;clear n0_ n1_;(try clear hb);(try clear hb2);(try clear hk);(try clear hi);(try clear ho0)) | ((with_reducible refine gate_dst (N := 6) rfl ?_);refine box_event ?hg (N := 6) ?hd (cs := #[.bool false,.slice none 0 0]) (t := 29) ?hr ?_;(case hd => rfl);(case hg => rfl);(case hr => first | (go_simp;done) | (go_simp;rfl));intro gb159 hg w8 hbox hb;have n0_ := Aside0.mk (Kd.R_below (by (with_reducible repeat (first | apply Kd.R_alloc | apply Kd.R_drewN | apply Kd.R_drew));exact HO158.out) hb);have n1_ := Aside0.mk (below_step (by repeat (first | (with_reducible first | exact HB.out | apply below_alloc | apply pw_below_drewN | apply below_drew1) | exact HB.out)) hb);have n2_ := Aside0.mk (hbox);have n3_ := Aside0.mk ((by rw [hg];exact (below_size (by repeat (first | (with_reducible first | exact HB.out | apply below_alloc | apply pw_below_drewN | apply below_drew1) | exact HB.out))) : w.heap.size ≤ gb159));have n4_ := Aside0.mk ((by rw [hg];exact (below_size (by repeat (first | (with_reducible first | exact HB.out | apply below_alloc | apply pw_below_drewN | apply below_drew1) | exact HB.out))) : w.heap.size ≤ gb159));clear HO158;clear HB;have HO158 := n0_;have HB := n1_;have BK159 := n2_;have GW159 := n3_;have GE159 := n4_;clear n0_ n1_ n2_ n3_ n4_;clear hb hbox hg;have hcz9_0 : w8.cell? ⟨gb159,0,none⟩ = some (.bool false) := (blk_cell BK159.out 0).trans rfl;have hcz9_1 : w8.cell? ⟨gb159,1,none⟩ = some (.slice none 0 0) := (blk_cell BK159.out 1).trans rfl;have hfz9_0 := blk_frozen BK159.out 0;have hfz9_1 := blk_frozen BK159.out 1;obtain ⟨Ao10,co10,eo10⟩ := Kd.R_slice HO158.out;subst eo10))
  have n0_ : Aside0 (Kd.R (Kd.int .u64) 96 (((w8.setCell ⟨gb159,0,none⟩ (.bool t155)).setCell ⟨gb159,1,none⟩ (.slice Ao10 t156.length co10)).setCell ⟨gb159,0,none⟩ (.bool (!t155))) w.heap.size (fun _ => True) (.slice Ao10 t156.length co10) t156) := ⟨by (with_reducible repeat (first | apply Kd.R_alloc | apply Kd.R_drewN | apply Kd.R_drew));exact Kd.R_mono (Kd.R_far (p := ⟨gb159,0,none⟩) (Kd.R_far (p := ⟨gb159,1,none⟩) (Kd.R_far (p := ⟨gb159,0,none⟩) (Kd.R_types HO158.out BK159.out (by decide)) (fun _ hk => hk.2) (.bool t155)) (fun _ hk => hk.2) (.slice Ao10 t156.length co10)) (fun _ hk => hk.2) (.bool (!t155))) (fun _ hk => trivial)⟩
  have n1_ : Aside0 ((((w8.setCell ⟨gb159,0,none⟩ (.bool t155)).setCell ⟨gb159,1,none⟩ (.slice Ao10 t156.length co10)).setCell ⟨gb159,0,none⟩ (.bool (!t155))).heap[gb159]? = some (.cells #[.bool (!t155),.slice Ao10 t156.length co10] 29 (0,0))) := ⟨by (with_reducible repeat (first | refine blk_drewN ?_ _ | refine blk_drew ?_ | refine blk_alloc ?_ _));refine blk_put (cs := #[.bool t155,.slice Ao10 t156.length co10]) ?_ 0 _ rfl;(with_reducible repeat (first | refine blk_drewN ?_ _ | refine blk_drew ?_ | refine blk_alloc ?_ _));refine blk_put (cs := #[.bool t155,.slice none 0 0]) ?_ 1 _ rfl;(with_reducible repeat (first | refine blk_drewN ?_ _ | refine blk_drew ?_ | refine blk_alloc ?_ _));refine blk_put (cs := #[.bool false,.slice none 0 0]) ?_ 0 _ rfl;(with_reducible repeat (first | refine blk_drewN ?_ _ | refine blk_drew ?_ | refine blk_alloc ?_ _));exact BK159.out⟩
  have n2_ : Aside0 (Below w.heap.size w (((w8.setCell ⟨gb159,0,none⟩ (.bool t155)).setCell ⟨gb159,1,none⟩ (.slice Ao10 t156.length co10)).setCell ⟨gb159,0,none⟩ (.bool (!t155)))) := ⟨by repeat (first | (with_reducible first | exact HB.out | apply below_alloc | apply pw_below_drewN | apply below_drew1 | refine below_set ?_ GE159.out) | exact HB.out)⟩
  (try clear HO158)
  (try clear BK159)
  (try clear HB)
  generalize (((w8.setCell ⟨gb159,0,none⟩ (.bool t155)).setCell ⟨gb159,1,none⟩ (.slice Ao10 t156.length co10)).setCell ⟨gb159,0,none⟩ (.bool (!t155))) = w11 at n0_ n1_ n2_ ⊢
  have HO158 := n0_
  have BK159 := n1_
  have HB := n2_
  clear n0_ n1_ n2_
  have n0_ := Aside0.mk (Kd.R_drew HO158.out)
  have n1_ := Aside0.mk (blk_drew BK159.out)
  have n2_ := Aside0.mk (below_drew1 HB.out)
  clear HO158
  clear BK159
  clear HB
  have HO158 := n0_
  have BK159 := n1_
  have HB := n2_
  clear n0_ n1_ n2_
  refine start_ (n := 9) (S := fun w' => w'.cell? ⟨gb159,0,none⟩ = some (.bool (!t155)) ∧ w'.cell? ⟨gb159,1,none⟩ = some (.slice Ao10 t156.length co10)) (ds := []) #[false,false,false,false,false,false,false,false,false] (by kernel_rfl) rfl rfl ⟨(blk_cell BK159.out 0).trans rfl,(blk_cell BK159.out 1).trans rfl⟩ (fun hHeld => ?_);refine with_tabW verdererref03_Sub.tab3 verdererref03_Sub.bits3 (fun HT_ HW_ => ?_)
  generalize w11.drew = w12 at HO158 BK159 HB hHeld ⊢
  refine pure_ (i := 0) (N := some 13) (v := ?_) (a' := ?_) #[true,false,false,false,false,false,false,false,false] rfl rfl (any_of HT_.out (by kernel_rfl)) (fun _ _ _ h => h) (Or.inl ⟨by rfl,?_⟩) ?_ ?_
  rotate_left
  · intro w'
    go_simp
    with_reducible rfl
  rotate_left
  · simp only [Act.put,zA,zB,zC,i64_w,i32_w]
    rfl
  refine take_ (i := 2) (N := some 15) (v := ?_) (a' := ?_) #[true,false,true,false,false,false,false,false,false] rfl rfl (take_ofW HT_.out HW_.out (by kernel_rfl)) (fun _ _ _ h => h) (Or.inl ⟨by rfl,?_⟩) hHeld ?_ ?_
  rotate_left
  · rintro w' ⟨s0,s1⟩
    go_simp
    with_reducible rfl
  rotate_left
  · simp only [Act.put,zA,zB,zC,i64_w,i32_w]
    rfl
  refine one_ (i := 1) (N := some 14) #[true,true,true,false,false,false,false,false,false] rfl rfl (one_of HT_.out (by kernel_rfl)) (by decide) (fun K hK => ?_)
  refine goes_ Try.func61 (by kernel_rfl) rfl #[.int .i64 a0] (by rfl) rfl rfl (by (try simp only [List.map_toArray,List.map_cons,List.map_nil]);first | done | rfl | (simp only [List.length_drop,List.length_take];rfl)) ?_
  with_reducible refine (verdererref03_big.calls k a0 t160 t161 _ A4.out).mono ?_
  rintro e w13 ⟨v162,rfl,ho0,hb⟩
  refine ⟨_,rfl,?_⟩
  have n0_ := Aside0.mk (Kd.R_elder' (by (with_reducible repeat (first | apply Kd.R_alloc | apply Kd.R_drewN | apply Kd.R_drew));exact HO158.out) (Kd.R_base ho0) hb)
  have n1_ := Aside0.mk (Kd.R_lower (Kd.R_new' ho0 (Kd.R_lt (by (with_reducible repeat (first | apply Kd.R_alloc | apply Kd.R_drewN | apply Kd.R_drew));exact HO158.out))) (below_size (by repeat (first | (with_reducible first | exact HB.out | apply below_alloc | apply pw_below_drewN | apply below_drew1 | refine below_set ?_ GE159.out) | exact HB.out))))
  have n2_ := Aside0.mk (blk_below (g := gb159) (o := .cells #[.bool (!t155),.slice Ao10 t156.length co10] 29 (0,0)) (by (with_reducible repeat (first | refine blk_drewN ?_ _ | refine blk_drew ?_ | refine blk_alloc ?_ _));exact BK159.out) hb)
  have n3_ := Aside0.mk (below_step (by repeat (first | (with_reducible first | exact HB.out | apply below_alloc | apply pw_below_drewN | apply below_drew1 | refine below_set ?_ GE159.out) | exact HB.out)) hb)
  clear HO158
  clear BK159
  clear HB
  have HO158 := n0_
  have HO163 := n1_
  have BK159 := n2_
  have HB := n3_
  clear n0_ n1_ n2_ n3_
  (try clear hb)
  (try clear hb2)
  (try clear hk)
  (try clear hi)
  (try clear ho0)
  obtain ⟨Ao14,co14,eo14⟩ := Kd.R_slice HO163.out
  (first | subst eo14 | (injection eo14 with f1_ f2_ f3_;have f4_ := f1_.symm;have f5_ := f3_.symm;clear f1_ f2_ f3_;subst f4_;subst f5_))
  refine hK.out _ _ ⟨(blk_cell BK159.out 0).trans rfl,(blk_cell BK159.out 1).trans rfl⟩ (fun hHeld => ?_)
  clear hK K
  refine norm_ (a' := ?_) ?_ ?_
  rotate_left
  · show Act.put _ (some 14) _ = _
    simp only [Act.put,zA,zB,zC,i64_w,i32_w]
    rfl
  refine one_ (i := 3) (N := some 16) #[true,true,true,true,false,false,false,false,false] rfl rfl (one_of HT_.out (by kernel_rfl)) (by decide) (fun K hK => ?_)
  refine goes_ Try.func16 (by kernel_rfl) rfl #[.agg #[.bool t160,.slice Ao14 t161.length co14],.agg #[.bool (!t155),.slice Ao10 t156.length co10]] (by rfl) rfl rfl (by (try simp only [List.map_toArray,List.map_cons,List.map_nil]);first | done | rfl | (simp only [List.length_drop,List.length_take];rfl)) ?_
  with_reducible refine (verdererref03_Plus.calls k t160 _ _ t161 (!t155) _ _ t156 t164 t165 _ ?side1 ?side2 ?side3 ?side4 A5.out).mono ?_
  (case side1 => repeat (first | exact (Kd.R_reads' HO163.out).2.2 | (with_reducible refine Kd.C_alloc ?_ _) | (with_reducible refine Kd.C_drewN ?_ _) | (with_reducible refine Kd.C_drew ?_)))
  (case side2 => exact (Kd.R_reads' HO163.out).2.1)
  (case side3 => repeat (first | exact (Kd.R_reads' HO158.out).2.2 | (with_reducible refine Kd.C_alloc ?_ _) | (with_reducible refine Kd.C_drewN ?_ _) | (with_reducible refine Kd.C_drew ?_)))
  (case side4 => exact (Kd.R_reads' HO158.out).2.1)
  rintro e w15 ⟨v166,rfl,ho0,hb⟩
  refine ⟨_,rfl,?_⟩
  have n0_ := Aside0.mk (Kd.R_elder' (by (with_reducible repeat (first | apply Kd.R_alloc | apply Kd.R_drewN | apply Kd.R_drew));exact HO158.out) (Kd.R_base ho0) hb)
  have n1_ := Aside0.mk (Kd.R_elder' (by (with_reducible repeat (first | apply Kd.R_alloc | apply Kd.R_drewN | apply Kd.R_drew));exact HO163.out) (Kd.R_base ho0) hb)
  have n2_ := Aside0.mk (Kd.R_lower (Kd.R_new' (Kd.R_new' ho0 (Kd.R_lt (by (with_reducible repeat (first | apply Kd.R_alloc | apply Kd.R_drewN | apply Kd.R_drew));exact HO158.out))) (Kd.R_lt (by (with_reducible repeat (first | apply Kd.R_alloc | apply Kd.R_drewN | apply Kd.R_drew));exact HO163.out))) (below_size (by repeat (first | (with_reducible first | exact HB.out | apply below_alloc | apply pw_below_drewN | apply below_drew1 | refine below_set ?_ GE159.out) | exact HB.out))))
  have n3_ := Aside0.mk (blk_below (g := gb159) (o := .cells #[.bool (!t155),.slice Ao10 t156.length co10] 29 (0,0)) (by (with_reducible repeat (first | refine blk_drewN ?_ _ | refine blk_drew ?_ | refine blk_alloc ?_ _));exact BK159.out) hb)
  have n4_ := Aside0.mk (below_step (by repeat (first | (with_reducible first | exact HB.out | apply below_alloc | apply pw_below_drewN | apply below_drew1 | refine below_set ?_ GE159.out) | exact HB.out)) hb)
  clear HO158
  clear HO163
  clear BK159
  clear HB
  have HO158 := n0_
  have HO163 := n1_
  have HO167 := n2_
  have BK159 := n3_
  have HB := n4_
  clear n0_ n1_ n2_ n3_ n4_
  (try clear hb)
  (try clear hb2)
  (try clear hk)
  (try clear hi)
  (try clear ho0)
  obtain ⟨Ao16,co16,eo16⟩ := Kd.R_slice HO167.out
  (first | subst eo16 | (injection eo16 with f1_ f2_ f3_;have f4_ := f1_.symm;have f5_ := f3_.symm;clear f1_ f2_ f3_;subst f4_;subst f5_))
  refine hK.out _ _ ⟨(blk_cell BK159.out 0).trans rfl,(blk_cell BK159.out 1).trans rfl⟩ (fun hHeld => ?_)
  clear hK K
  refine norm_ (a' := ?_) ?_ ?_
  rotate_left
  · show Act.put _ (some 16) _ = _
    simp only [Act.put,zA,zB,zC,i64_w,i32_w]
    rfl
  refine one_ (i := 4) (N := some 17) #[true,true,true,true,true,false,false,false,false] rfl rfl (one_of HT_.out (by kernel_rfl)) (by decide) (fun K hK => ?_)
  refine goes_ Try.func19 (by kernel_rfl) rfl #[.agg #[.bool t164,.slice Ao16 t165.length co16]] (by rfl) rfl rfl (by (try simp only [List.map_toArray,List.map_cons,List.map_nil]);first | done | rfl | (simp only [List.length_drop,List.length_take];rfl)) ?_
  with_reducible refine (verdererref03_Big_Value.calls k t164 _ _ t165 t168 t169 _ ?side1 ?side2 A6.out).mono ?_
  (case side1 => repeat (first | exact (Kd.R_reads' HO167.out).2.2 | (with_reducible refine Kd.C_alloc ?_ _) | (with_reducible refine Kd.C_drewN ?_ _) | (with_reducible refine Kd.C_drew ?_)))
  (case side2 => exact (Kd.R_reads' HO167.out).2.1)
  rintro e w17 ⟨rfl,hb⟩
  refine ⟨_,rfl,?_⟩
  have n0_ := Aside0.mk (Kd.R_below (by (with_reducible repeat (first | apply Kd.R_alloc | apply Kd.R_drewN | apply Kd.R_drew));exact HO158.out) hb)
  have n1_ := Aside0.mk (Kd.R_below (by (with_reducible repeat (first | apply Kd.R_alloc | apply Kd.R_drewN | apply Kd.R_drew));exact HO163.out) hb)
  have n2_ := Aside0.mk (Kd.R_below (by (with_reducible repeat (first | apply Kd.R_alloc | apply Kd.R_drewN | apply Kd.R_drew));exact HO167.out) hb)
  have n3_ := Aside0.mk (blk_below (g := gb159) (o := .cells #[.bool (!t155),.slice Ao10 t156.length co10] 29 (0,0)) (by (with_reducible repeat (first | refine blk_drewN ?_ _ | refine blk_drew ?_ | refine blk_alloc ?_ _));exact BK159.out) hb)
  have n4_ := Aside0.mk (below_step (by repeat (first | (with_reducible first | exact HB.out | apply below_alloc | apply pw_below_drewN | apply below_drew1 | refine below_set ?_ GE159.out) | exact HB.out)) hb)
  clear HO158
  clear HO163
  clear HO167
  clear BK159
  clear HB
  have HO158 := n0_
  have HO163 := n1_
  have HO167 := n2_
  have BK159 := n3_
  have HB := n4_
  clear n0_ n1_ n2_ n3_ n4_
  (try clear hb)
  (try clear hb2)
  (try clear hk)
  (try clear hi)
  refine hK.out _ _ ⟨(blk_cell BK159.out 0).trans rfl,(blk_cell BK159.out 1).trans rfl⟩ (fun hHeld => ?_)
  clear hK K
  refine norm_ (a' := ?_) ?_ ?_
  rotate_left
  · show Act.put _ (some 17) _ = _
    simp only [Act.put,zA,zB,zC,i64_w,i32_w]
    rfl
  refine pure_ (i := 5) (N := some 18) (v := ?_) (a' := ?_) #[true,true,true,true,true,true,false,false,false] rfl rfl (any_of HT_.out (by kernel_rfl)) (fun _ _ _ h => h) (Or.inl ⟨by rfl,?_⟩) ?_ ?_
  rotate_left
  · intro w'
    go_simp
    with_reducible rfl
  rotate_left
  · simp only [Act.put,zA,zB,zC,i64_w,i32_w]
    rfl
  refine pure_ (i := 6) (N := some 19) (v := ?_) (a' := ?_) #[true,true,true,true,true,true,true,false,false] rfl rfl (any_of HT_.out (by kernel_rfl)) (fun _ _ _ h => h) (Or.inl ⟨by rfl,?_⟩) ?_ ?_
  rotate_left
  · intro w'
    go_simp
    with_reducible rfl
  rotate_left
  · simp only [Act.put,zA,zB,zC,i64_w,i32_w]
    rfl
  refine pure_ (i := 7) (N := some 4) (v := ?_) (a' := ?_) #[true,true,true,true,true,true,true,true,false] rfl rfl (any_of HT_.out (by kernel_rfl)) (fun _ _ _ h => h) (Or.inl ⟨by rfl,?_⟩) ?_ ?_
  rotate_left
  · intro w'
    go_simp
    with_reducible rfl
  rotate_left
  · simp only [Act.put,zA,zB,zC,i64_w,i32_w]
    rfl
  refine pure_ (i := 8) (N := some 5) (v := ?_) (a' := ?_) #[true,true,true,true,true,true,true,true,true] rfl rfl (any_of HT_.out (by kernel_rfl)) (fun _ _ _ h => h) (Or.inl ⟨by rfl,?_⟩) ?_ ?_
  rotate_left
  · intro w'
    go_simp
    with_reducible rfl
  rotate_left
  · simp only [Act.put,zA,zB,zC,i64_w,i32_w]
    rfl
  refine done_ (done_of HT_.out (by kernel_rfl)) ?_
  try go_wp2
  go_ret2
  exact ⟨by first | rfl | (simp [errW_none,errW_some] <;> rfl) | (simp [*,errW_none,errW_some] <;> rfl),by repeat (first | (with_reducible first | exact HB.out | apply below_alloc | apply pw_below_drewN | apply below_drew1 | refine below_set ?_ GE159.out) | exact HB.out)⟩
end Go.Proofs.Ytcenlehfbgnphaa.Z
end
section
namespace Go.Proofs.Ytcenlehfbgnphaa.Z
open Go.RowKit Go.Proofs.YtcenlehfbgnphaaW.PrintWords Go.Proofs.YtcenlehfbgnphaaW.PrintLast Go.Proofs.YtcenlehfbgnphaaW.PrintMore
attribute [local go_sem] max2_int min2_int max_two min_two max_three min_three max_four min_four
set_option linter.unusedVariables false
set_option linter.unusedSimpArgs false
def verdererref28_Room.f (k : Nat) (a0_0 : ByteArray) (a0_1 : ByteArray) (a0_2 : Int) (a0_3 : Int) : Option (Int × Int) := (verdererref03_Sub.f k a0_3 a0_2).bind fun bt371 => (some (bt371.1,bt371.2))
theorem verdererref28_Room.mono : ∀ a0 a1 a2 a3 k,LeO (verdererref28_Room.f k a0 a1 a2 a3) (verdererref28_Room.f (k + 1) a0 a1 a2 a3) := by
  intro a0 a1 a2 a3 k
  unfold verdererref28_Room.f
  repeat' first
      | (with_reducible exact verdererref03_Sub.mono _ _ _)
      | (with_reducible exact LeO.refl _)
      | (with_reducible exact LeO.none _)
      | (with_reducible refine LeO.ite ?_ ?_)
      | (with_reducible refine LeO.bind ?_ (fun _ => ?_))
      | exact verdererref03_Sub.mono _ _ _
      | exact LeO.none _
      | refine LeO.ite ?_ ?_
      | refine LeO.bind ?_ (fun _ => ?_)
set_option maxHeartbeats 8000000 in
set_option maxRecDepth 100000 in
theorem verdererref28_Room.calls (k : Nat) (a0_0 : ByteArray) (a0_1 : ByteArray) (a0_2 : Int) (a0_3 : Int) (r1 : Int) (r2 : Int) (w : World) (h : verdererref28_Room.f k a0_0 a0_1 a0_2 a0_3 = some (r1,r2)) :
    Calls Try.prog 52 #[.agg #[.string a0_0,.string a0_1,.int .i64 a0_2,.int .i64 a0_3]] w fun e w' => e = .returned (.tuple #[.int .i64 r1,.int .i64 r2]) ∧ Below w.heap.size w w' := by
  have hu45 := Try.underlying45
  have HB := Aside0.mk (Below.refl w.heap.size w)
  have H : ((verdererref03_Sub.f k a0_3 a0_2).bind fun bt371 => (some (bt371.1,bt371.2))) = some (r1,r2) := h
  clear h
  replace H := Option.bind_eq_some_iff.mp H
  obtain ⟨⟨t371,t372⟩,A20,H⟩ := H
  replace H : (some (t371,t372)) = some (r1,r2) := H
  have A2 := Aside0.mk A20
  clear A20
  simp only [Option.some.injEq,Prod.mk.injEq] at H
  obtain ⟨rfl,rfl⟩ := H
  go_enter Try.func52,Try.ntmps52
  go_wp2_with (first | ((with_reducible refine gate_dst (N := 1) rfl ?_);refine box_event ?hg (N := 1) ?hd (cs := #[.string a0_0,.string a0_1,.int .i64 a0_2,.int .i64 a0_3]) (t := 45) ?hr ?_;(case hd => rfl);(case hg => rfl);(case hr => first | (go_simp;done) | (go_simp;rfl));intro gb370 hg w3 hbox hb;have n0_ := Aside0.mk (below_step (by repeat (first | (with_reducible first | exact HB.out | apply below_alloc | apply pw_below_drewN | apply below_drew1) | exact HB.out)) hb);have n1_ := Aside0.mk (hbox);have n2_ := Aside0.mk ((by rw [hg];exact (below_size (by repeat (first | (with_reducible first | exact HB.out | apply below_alloc | apply pw_below_drewN | apply below_drew1) | exact HB.out))) : w.heap.size ≤ gb370));have n3_ := Aside0.mk ((by rw [hg];exact (below_size (by repeat (first | (with_reducible first | exact HB.out | apply below_alloc | apply pw_below_drewN | apply below_drew1) | exact HB.out))) : w.heap.size ≤ gb370));clear HB;have HB := n0_;have BK370 := n1_;have GW370 := n2_;have GE370 := n3_;clear n0_ n1_ n2_ n3_;clear hb hbox hg;have hcz4_0 : w3.cell? ⟨gb370,0,none⟩ = some (.string a0_0) := (blk_cell BK370.out 0).trans rfl;have hcz4_1 : w3.cell? ⟨gb370,1,none⟩ = some (.string a0_1) := (blk_cell BK370.out 1).trans rfl;have hcz4_2 : w3.cell? ⟨gb370,2,none⟩ = some (.int .i64 a0_2) := (blk_cell BK370.out 2).trans rfl;have hcz4_3 : w3.cell? ⟨gb370,3,none⟩ = some (.int .i64 a0_3) := (blk_cell BK370.out 3).trans rfl;have hfz4_0 := blk_frozen BK370.out 0;have hfz4_1 := blk_frozen BK370.out 1;have hfz4_2 := blk_frozen BK370.out 2;have hfz4_3 := blk_frozen BK370.out 3) | ((with_reducible refine gate_callee (f := 26) rfl ?_);refine goesL_ (some 8) rfl rfl Try.func26 (by kernel_rfl) rfl #[.int .i64 a0_3,.int .i64 a0_2] rfl (by (try simp only [List.map_toArray,List.map_cons,List.map_nil]);first | done | rfl | (simp only [List.length_drop,List.length_take];rfl)) ?_;(with_reducible refine (verdererref03_Sub.calls k a0_3 a0_2 t371 t372 _ A2.out).mono ?_);rintro e w5 ⟨rfl,hb⟩;refine ⟨_,rfl,?_⟩;have n0_ := Aside0.mk (blk_below (g := gb370) (o := .cells #[.string a0_0,.string a0_1,.int .i64 a0_2,.int .i64 a0_3] 45 (0,0)) (by (with_reducible repeat (first | refine blk_drewN ?_ _ | refine blk_drew ?_ | refine blk_alloc ?_ _));exact BK370.out) hb);have n1_ := Aside0.mk (below_step (by repeat (first | (with_reducible first | exact HB.out | apply below_alloc | apply pw_below_drewN | apply below_drew1 | refine below_set ?_ GE370.out) | exact HB.out)) hb);clear BK370;clear HB;have BK370 := n0_;have HB := n1_;clear n0_ n1_;(try clear hb);(try clear hb2);(try clear hk);(try clear hi)))
  go_ret2
  exact ⟨by first | rfl | (simp [errW_none,errW_some] <;> rfl) | (simp [*,errW_none,errW_some] <;> rfl),by repeat (first | (with_reducible first | exact HB.out | apply below_alloc | apply pw_below_drewN | apply below_drew1 | refine below_set ?_ GE370.out) | exact HB.out)⟩
end Go.Proofs.Ytcenlehfbgnphaa.Z
end
section
namespace Go.Proofs.Ytcenlehfbgnphaa.Z
open Go.RowKit Go.Proofs.YtcenlehfbgnphaaW.PrintWords Go.Proofs.YtcenlehfbgnphaaW.PrintLast Go.Proofs.YtcenlehfbgnphaaW.PrintMore
attribute [local go_sem] max2_int min2_int max_two min_two max_three min_three max_four min_four
set_option linter.unusedVariables false
set_option linter.unusedSimpArgs false
attribute [local go_sem high] eqA45
mutual
def verdererlaw28_QuotaTells.j0 : Nat → List (S45) → List (S45) → Bool → Option (Bool)
  | 0,_,_,_ => none
  | k + 1,x0,x1,x25 => if x25 = true then ((verdererlaw28_known.f k).bind fun t373 => (some t373)) else ((quota_Judge.f k x0 x1).bind fun bt374 => ((verdererref28_Judge.f k x0 x1).bind fun bt380 => ((quota_Worst.f k x1).bind fun bt386 => ((verdererref28_Worst.f k x1).bind fun bt392 => (if (!(bt374.1.toList == bt380.1.toList) || (!(bt374.2.1.toList == bt380.2.1.toList) || (!(bt374.2.2.1 == bt380.2.2.1) || (!(bt374.2.2.2.1 == bt380.2.2.2.1))))) = true then (verdererlaw28_QuotaTells.j1 k x1 true) else (if bt374.2.2.2.2 = bt380.2.2.2.2 then (if (!(bt386.1.toList == bt392.1.toList) || (!(bt386.2.1.toList == bt392.2.1.toList) || (!(bt386.2.2.1 == bt392.2.2.1) || (!(bt386.2.2.2.1 == bt392.2.2.2.1))))) = true then (verdererlaw28_QuotaTells.j1 k x1 true) else (if bt386.2.2.2.2 = bt392.2.2.2.2 then ((quota_Over.f k x1).bind fun t398 => ((verdererref28_Over.f k x1).bind fun t401 => ((verdererref27_Same.f k t398 t401).bind fun t404 => (verdererlaw28_QuotaTells.j1 k x1 (!t404))))) else (verdererlaw28_QuotaTells.j1 k x1 true))) else (verdererlaw28_QuotaTells.j1 k x1 true)))))))
def verdererlaw28_QuotaTells.j1 : Nat → List (S45) → Bool → Option (Bool)
  | 0,_,_ => none
  | k + 1,x1,x74 => if x74 = true then (none) else (verdererlaw28_QuotaTells.l0 k x1 0)
def verdererlaw28_QuotaTells.l0 : Nat → List (S45) → Int → Option (Bool)
  | 0,_,_ => none
  | k + 1,x1,x13 => if x13 < (x1.length : Int) then (if 0 ≤ x13 then ((quota_Room.f ((rd_T45 x1 x13).f0) ((rd_T45 x1 x13).f1) ((rd_T45 x1 x13).f2) ((rd_T45 x1 x13).f3)).bind fun bt407 => ((verdererref28_Room.f k ((rd_T45 x1 x13).f0) ((rd_T45 x1 x13).f1) ((rd_T45 x1 x13).f2) ((rd_T45 x1 x13).f3)).bind fun bt410 => (if bt407.1 = bt410.1 then (if bt407.2 = bt410.2 then (verdererlaw28_QuotaTells.l0 k x1 (wrap64 (x13 + 1))) else (none)) else (none)))) else (none)) else ((verdererlaw28_known.f k).bind fun t405 => (some t405))
end
def verdererlaw28_QuotaTells.f (k : Nat) (l0 : List (S45)) (l1 : List (S45)) : Option (Bool) := if (l0.length : Int) > 100 then (verdererlaw28_QuotaTells.j0 k l0 l1 true) else (verdererlaw28_QuotaTells.j0 k l0 l1 (decide ((l1.length : Int) > 100)))
theorem verdererlaw28_QuotaTells.mono_l : ∀ k,(∀ y0 y1 y2,LeO (verdererlaw28_QuotaTells.j0 k y0 y1 y2) (verdererlaw28_QuotaTells.j0 (k + 1) y0 y1 y2)) ∧ (∀ y0 y1,LeO (verdererlaw28_QuotaTells.j1 k y0 y1) (verdererlaw28_QuotaTells.j1 (k + 1) y0 y1)) ∧ (∀ y0 y1,LeO (verdererlaw28_QuotaTells.l0 k y0 y1) (verdererlaw28_QuotaTells.l0 (k + 1) y0 y1))
  | 0 => ⟨fun _ _ _ r h => by simp [verdererlaw28_QuotaTells.j0] at h,fun _ _ r h => by simp [verdererlaw28_QuotaTells.j1] at h,fun _ _ r h => by simp [verdererlaw28_QuotaTells.l0] at h⟩
  | k + 1 => by
    obtain ⟨ih0,ih1,ih2⟩ := verdererlaw28_QuotaTells.mono_l k
    refine ⟨?_,?_,?_⟩
    · intro y0 y1 y2
      unfold verdererlaw28_QuotaTells.j0
      repeat' first
      | (with_reducible exact ih0 _ _ _)
      | (with_reducible exact ih1 _ _)
      | (with_reducible exact ih2 _ _)
      | (with_reducible exact quota_Judge.mono _ _ _)
      | (with_reducible exact quota_Over.mono _ _)
      | (with_reducible exact quota_Worst.mono _ _)
      | (with_reducible exact verdererlaw28_known.mono _)
      | (with_reducible exact verdererref27_Same.mono _ _ _)
      | (with_reducible exact verdererref28_Judge.mono _ _ _)
      | (with_reducible exact verdererref28_Over.mono _ _)
      | (with_reducible exact verdererref28_Room.mono _ _ _ _ _)
      | (with_reducible exact verdererref28_Worst.mono _ _)
      | (with_reducible exact LeO.refl _)
      | (with_reducible exact LeO.none _)
      | (with_reducible refine LeO.ite ?_ ?_)
      | (with_reducible refine LeO.bind ?_ (fun _ => ?_))
      | exact ih0 _ _ _
      | exact ih1 _ _
      | exact ih2 _ _
      | exact quota_Judge.mono _ _ _
      | exact quota_Over.mono _ _
      | exact quota_Worst.mono _ _
      | exact verdererlaw28_known.mono _
      | exact verdererref27_Same.mono _ _ _
      | exact verdererref28_Judge.mono _ _ _
      | exact verdererref28_Over.mono _ _
      | exact verdererref28_Room.mono _ _ _ _ _
      | exact verdererref28_Worst.mono _ _
      | exact LeO.none _
      | refine LeO.ite ?_ ?_
      | refine LeO.bind ?_ (fun _ => ?_)
    · intro y0 y1
      unfold verdererlaw28_QuotaTells.j1
      repeat' first
      | (with_reducible exact ih0 _ _ _)
      | (with_reducible exact ih1 _ _)
      | (with_reducible exact ih2 _ _)
      | (with_reducible exact quota_Judge.mono _ _ _)
      | (with_reducible exact quota_Over.mono _ _)
      | (with_reducible exact quota_Worst.mono _ _)
      | (with_reducible exact verdererlaw28_known.mono _)
      | (with_reducible exact verdererref27_Same.mono _ _ _)
      | (with_reducible exact verdererref28_Judge.mono _ _ _)
      | (with_reducible exact verdererref28_Over.mono _ _)
      | (with_reducible exact verdererref28_Room.mono _ _ _ _ _)
      | (with_reducible exact verdererref28_Worst.mono _ _)
      | (with_reducible exact LeO.refl _)
      | (with_reducible exact LeO.none _)
      | (with_reducible refine LeO.ite ?_ ?_)
      | (with_reducible refine LeO.bind ?_ (fun _ => ?_))
      | exact ih0 _ _ _
      | exact ih1 _ _
      | exact ih2 _ _
      | exact quota_Judge.mono _ _ _
      | exact quota_Over.mono _ _
      | exact quota_Worst.mono _ _
      | exact verdererlaw28_known.mono _
      | exact verdererref27_Same.mono _ _ _
      | exact verdererref28_Judge.mono _ _ _
      | exact verdererref28_Over.mono _ _
      | exact verdererref28_Room.mono _ _ _ _ _
      | exact verdererref28_Worst.mono _ _
      | exact LeO.none _
      | refine LeO.ite ?_ ?_
      | refine LeO.bind ?_ (fun _ => ?_)
    · intro y0 y1
      unfold verdererlaw28_QuotaTells.l0
      repeat' first
      | (with_reducible exact ih0 _ _ _)
      | (with_reducible exact ih1 _ _)
      | (with_reducible exact ih2 _ _)
      | (with_reducible exact quota_Judge.mono _ _ _)
      | (with_reducible exact quota_Over.mono _ _)
      | (with_reducible exact quota_Worst.mono _ _)
      | (with_reducible exact verdererlaw28_known.mono _)
      | (with_reducible exact verdererref27_Same.mono _ _ _)
      | (with_reducible exact verdererref28_Judge.mono _ _ _)
      | (with_reducible exact verdererref28_Over.mono _ _)
      | (with_reducible exact verdererref28_Room.mono _ _ _ _ _)
      | (with_reducible exact verdererref28_Worst.mono _ _)
      | (with_reducible exact LeO.refl _)
      | (with_reducible exact LeO.none _)
      | (with_reducible refine LeO.ite ?_ ?_)
      | (with_reducible refine LeO.bind ?_ (fun _ => ?_))
      | exact ih0 _ _ _
      | exact ih1 _ _
      | exact ih2 _ _
      | exact quota_Judge.mono _ _ _
      | exact quota_Over.mono _ _
      | exact quota_Worst.mono _ _
      | exact verdererlaw28_known.mono _
      | exact verdererref27_Same.mono _ _ _
      | exact verdererref28_Judge.mono _ _ _
      | exact verdererref28_Over.mono _ _
      | exact verdererref28_Room.mono _ _ _ _ _
      | exact verdererref28_Worst.mono _ _
      | exact LeO.none _
      | refine LeO.ite ?_ ?_
      | refine LeO.bind ?_ (fun _ => ?_)
theorem verdererlaw28_QuotaTells.mono : ∀ a0 a1 k,LeO (verdererlaw28_QuotaTells.f k a0 a1) (verdererlaw28_QuotaTells.f (k + 1) a0 a1) := by
  intro a0 a1 k
  obtain ⟨ih0,ih1,ih2⟩ := verdererlaw28_QuotaTells.mono_l k
  unfold verdererlaw28_QuotaTells.f
  repeat' first
      | (with_reducible exact ih0 _ _ _)
      | (with_reducible exact ih1 _ _)
      | (with_reducible exact ih2 _ _)
      | (with_reducible exact quota_Judge.mono _ _ _)
      | (with_reducible exact quota_Over.mono _ _)
      | (with_reducible exact quota_Worst.mono _ _)
      | (with_reducible exact verdererlaw28_known.mono _)
      | (with_reducible exact verdererref27_Same.mono _ _ _)
      | (with_reducible exact verdererref28_Judge.mono _ _ _)
      | (with_reducible exact verdererref28_Over.mono _ _)
      | (with_reducible exact verdererref28_Room.mono _ _ _ _ _)
      | (with_reducible exact verdererref28_Worst.mono _ _)
      | (with_reducible exact LeO.refl _)
      | (with_reducible exact LeO.none _)
      | (with_reducible refine LeO.ite ?_ ?_)
      | (with_reducible refine LeO.bind ?_ (fun _ => ?_))
      | exact ih0 _ _ _
      | exact ih1 _ _
      | exact ih2 _ _
      | exact quota_Judge.mono _ _ _
      | exact quota_Over.mono _ _
      | exact quota_Worst.mono _ _
      | exact verdererlaw28_known.mono _
      | exact verdererref27_Same.mono _ _ _
      | exact verdererref28_Judge.mono _ _ _
      | exact verdererref28_Over.mono _ _
      | exact verdererref28_Room.mono _ _ _ _ _
      | exact verdererref28_Worst.mono _ _
      | exact LeO.none _
      | refine LeO.ite ?_ ?_
      | refine LeO.bind ?_ (fun _ => ?_)
set_option maxHeartbeats 8000000 in
set_option maxRecDepth 100000 in
theorem verdererlaw28_QuotaTells.calls (k : Nat) (A0 : Option Addr) (c0 : Nat) (l0 : List (S45)) (A1 : Option Addr) (c1 : Nat) (l1 : List (S45)) (r : Bool) (w : World) (hr0 : Kd.C k45 w A0 l0.length l0) (hc0 : l0.length ≤ c0) (hr1 : Kd.C k45 w A1 l1.length l1) (hc1 : l1.length ≤ c1) (h : verdererlaw28_QuotaTells.f k l0 l1 = some r) :
    Calls Try.prog 10 #[.slice A0 l0.length c0,.slice A1 l1.length c1] w fun e w' => e = .returned (.bool r) ∧ Below w.heap.size w w' := by
  have hu45 := Try.underlying45
  have HR0 := Aside0.mk hr0
  have HC0 := Aside0.mk hc0
  clear hr0 hc0
  have HR1 := Aside0.mk hr1
  have HC1 := Aside0.mk hc1
  clear hr1 hc1
  have HB := Aside0.mk (Below.refl w.heap.size w)
  have H : (if (l0.length : Int) > 100 then (verdererlaw28_QuotaTells.j0 k l0 l1 true) else (verdererlaw28_QuotaTells.j0 k l0 l1 (decide ((l1.length : Int) > 100)))) = some r := h
  clear h
  have HC3 := Aside0.mk H
  clear H
  go_enter Try.func10,Try.ntmps10
  go_upto_region 1 with (fail)
  go_cut [25] (fun v25 wc => ∃ (kq : Nat) (x25_2 : Bool),v25 = .bool x25_2 ∧ Aside0 (verdererlaw28_QuotaTells.j0 kq l0 l1 x25_2 = some r) ∧ Aside0 (kq ≤ k) ∧ Aside0 (Below w.heap.size w wc))
  case first =>
    have H := HC3.out
    clear HC3
    by_cases c4 : (l0.length : Int) > 100
    · rw [if_pos c4] at H
      have c4b0 : decide (100 < (l0.length : Int)) = true := decide_eq_true c4
      have c4b1 : decide (100 < l0.length) = true := decide_eq_true (by omega)
      clear c4
      (first | rw [c4b0] | (simp only [i64_w,i32_w];rw [c4b0]) | skip)
      have H' := Aside0.mk H
      clear H
      go_wp2
      go_meet
      case rel => exact ⟨_,(true),(by first | rfl | (simp;done) | (simp [*];done)),H',⟨by first | omega | exact Nat.le_refl _⟩,⟨by repeat (first | (with_reducible first | exact HB.out | apply below_alloc | apply pw_below_drewN | apply below_drew1) | exact HB.out)⟩⟩
    · rw [if_neg c4] at H
      have c4b0 : decide (100 < (l0.length : Int)) = false := decide_eq_false c4
      have c4b1 : decide (100 < l0.length) = false := decide_eq_false (by omega)
      clear c4
      (first | rw [c4b0] | (simp only [i64_w,i32_w];rw [c4b0]) | skip)
      have H' := Aside0.mk H
      clear H
      go_wp2
      go_meet
      case rel => exact ⟨_,(decide ((l1.length : Int) > 100)),(by first | rfl | (simp;done) | (simp [*];done)),H',⟨by first | omega | exact Nat.le_refl _⟩,⟨by repeat (first | (with_reducible first | exact HB.out | apply below_alloc | apply pw_below_drewN | apply below_drew1) | exact HB.out)⟩⟩
  case rest =>
    clear HC3
    try clear c1
    try clear p2
    try clear c4
    try clear c4b0
    try clear c4b1
    obtain ⟨kq,x25_2,rfl,HA,HJ2,HB⟩ := hcut
    cases kq with
    | zero => exact absurd HA.out (by simp [verdererlaw28_QuotaTells.j0])
    | succ kj2 =>
      have H := HA.out
      clear HA
      simp only [verdererlaw28_QuotaTells.j0] at H
      by_cases c5 : x25_2 = true
      · subst c5
        have H1 : ((verdererlaw28_known.f kj2).bind fun t373 => (some t373)) = some r := by rw [if_pos rfl] at H;exact H
        clear H
        have H := H1
        clear H1
        replace H := Option.bind_eq_some_iff.mp H
        obtain ⟨t373,A60,H⟩ := H
        replace H : (some t373) = some r := H
        have A6 := Aside0.mk A60
        clear A60
        obtain rfl := Option.some.inj H
        go_wp2_with (first | ((with_reducible refine gate_callee (f := 44) rfl ?_);refine goesL_ (some 26) rfl rfl Try.func44 (by kernel_rfl) rfl #[] rfl (by (try simp only [List.map_toArray,List.map_cons,List.map_nil]);first | done | rfl | (simp only [List.length_drop,List.length_take];rfl)) ?_;(with_reducible refine (verdererlaw28_known.calls kj2  t373 _ A6.out).mono ?_);rintro e w7 ⟨rfl,hb⟩;refine ⟨_,rfl,?_⟩;have n0_ := Aside0.mk (below_step (by repeat (first | (with_reducible first | exact HB.out | apply below_alloc | apply pw_below_drewN | apply below_drew1) | exact HB.out)) hb);clear HB;have HB := n0_;clear n0_;(try clear hb);(try clear hb2);(try clear hk);(try clear hi)))
        go_ret
        exact ⟨by first | rfl | (simp [errW_none,errW_some] <;> rfl) | (simp [*,errW_none,errW_some] <;> rfl),by repeat (first | (with_reducible first | exact HB.out | apply below_alloc | apply pw_below_drewN | apply below_drew1) | exact HB.out)⟩
      · replace c5 := Bool.eq_false_iff.mpr c5
        subst c5
        have H1 : ((quota_Judge.f kj2 l0 l1).bind fun bt374 => ((verdererref28_Judge.f kj2 l0 l1).bind fun bt380 => ((quota_Worst.f kj2 l1).bind fun bt386 => ((verdererref28_Worst.f kj2 l1).bind fun bt392 => (if (!(bt374.1.toList == bt380.1.toList) || (!(bt374.2.1.toList == bt380.2.1.toList) || (!(bt374.2.2.1 == bt380.2.2.1) || (!(bt374.2.2.2.1 == bt380.2.2.2.1))))) = true then (verdererlaw28_QuotaTells.j1 kj2 l1 true) else (if bt374.2.2.2.2 = bt380.2.2.2.2 then (if (!(bt386.1.toList == bt392.1.toList) || (!(bt386.2.1.toList == bt392.2.1.toList) || (!(bt386.2.2.1 == bt392.2.2.1) || (!(bt386.2.2.2.1 == bt392.2.2.2.1))))) = true then (verdererlaw28_QuotaTells.j1 kj2 l1 true) else (if bt386.2.2.2.2 = bt392.2.2.2.2 then ((quota_Over.f kj2 l1).bind fun t398 => ((verdererref28_Over.f kj2 l1).bind fun t401 => ((verdererref27_Same.f kj2 t398 t401).bind fun t404 => (verdererlaw28_QuotaTells.j1 kj2 l1 (!t404))))) else (verdererlaw28_QuotaTells.j1 kj2 l1 true))) else (verdererlaw28_QuotaTells.j1 kj2 l1 true))))))) = some r := by rw [if_neg (show ¬ (false = true) by decide)] at H;exact H
        clear H
        have H := H1
        clear H1
        replace H := Option.bind_eq_some_iff.mp H
        obtain ⟨⟨t374,t375,t376,t377,t378⟩,A80,H⟩ := H
        replace H : ((verdererref28_Judge.f kj2 l0 l1).bind fun bt380 => ((quota_Worst.f kj2 l1).bind fun bt386 => ((verdererref28_Worst.f kj2 l1).bind fun bt392 => (if (!(t374.toList == bt380.1.toList) || (!(t375.toList == bt380.2.1.toList) || (!(t376 == bt380.2.2.1) || (!(t377 == bt380.2.2.2.1))))) = true then (verdererlaw28_QuotaTells.j1 kj2 l1 true) else (if t378 = bt380.2.2.2.2 then (if (!(bt386.1.toList == bt392.1.toList) || (!(bt386.2.1.toList == bt392.2.1.toList) || (!(bt386.2.2.1 == bt392.2.2.1) || (!(bt386.2.2.2.1 == bt392.2.2.2.1))))) = true then (verdererlaw28_QuotaTells.j1 kj2 l1 true) else (if bt386.2.2.2.2 = bt392.2.2.2.2 then ((quota_Over.f kj2 l1).bind fun t398 => ((verdererref28_Over.f kj2 l1).bind fun t401 => ((verdererref27_Same.f kj2 t398 t401).bind fun t404 => (verdererlaw28_QuotaTells.j1 kj2 l1 (!t404))))) else (verdererlaw28_QuotaTells.j1 kj2 l1 true))) else (verdererlaw28_QuotaTells.j1 kj2 l1 true)))))) = some r := H
        have A8 := Aside0.mk A80
        clear A80
        replace H := Option.bind_eq_some_iff.mp H
        obtain ⟨⟨t380,t381,t382,t383,t384⟩,A90,H⟩ := H
        replace H : ((quota_Worst.f kj2 l1).bind fun bt386 => ((verdererref28_Worst.f kj2 l1).bind fun bt392 => (if (!(t374.toList == t380.toList) || (!(t375.toList == t381.toList) || (!(t376 == t382) || (!(t377 == t383))))) = true then (verdererlaw28_QuotaTells.j1 kj2 l1 true) else (if t378 = t384 then (if (!(bt386.1.toList == bt392.1.toList) || (!(bt386.2.1.toList == bt392.2.1.toList) || (!(bt386.2.2.1 == bt392.2.2.1) || (!(bt386.2.2.2.1 == bt392.2.2.2.1))))) = true then (verdererlaw28_QuotaTells.j1 kj2 l1 true) else (if bt386.2.2.2.2 = bt392.2.2.2.2 then ((quota_Over.f kj2 l1).bind fun t398 => ((verdererref28_Over.f kj2 l1).bind fun t401 => ((verdererref27_Same.f kj2 t398 t401).bind fun t404 => (verdererlaw28_QuotaTells.j1 kj2 l1 (!t404))))) else (verdererlaw28_QuotaTells.j1 kj2 l1 true))) else (verdererlaw28_QuotaTells.j1 kj2 l1 true))))) = some r := H
        have A9 := Aside0.mk A90
        clear A90
        replace H := Option.bind_eq_some_iff.mp H
        obtain ⟨⟨t386,t387,t388,t389,t390⟩,A100,H⟩ := H
        replace H : ((verdererref28_Worst.f kj2 l1).bind fun bt392 => (if (!(t374.toList == t380.toList) || (!(t375.toList == t381.toList) || (!(t376 == t382) || (!(t377 == t383))))) = true then (verdererlaw28_QuotaTells.j1 kj2 l1 true) else (if t378 = t384 then (if (!(t386.toList == bt392.1.toList) || (!(t387.toList == bt392.2.1.toList) || (!(t388 == bt392.2.2.1) || (!(t389 == bt392.2.2.2.1))))) = true then (verdererlaw28_QuotaTells.j1 kj2 l1 true) else (if t390 = bt392.2.2.2.2 then ((quota_Over.f kj2 l1).bind fun t398 => ((verdererref28_Over.f kj2 l1).bind fun t401 => ((verdererref27_Same.f kj2 t398 t401).bind fun t404 => (verdererlaw28_QuotaTells.j1 kj2 l1 (!t404))))) else (verdererlaw28_QuotaTells.j1 kj2 l1 true))) else (verdererlaw28_QuotaTells.j1 kj2 l1 true)))) = some r := H
        have A10 := Aside0.mk A100
        clear A100
        replace H := Option.bind_eq_some_iff.mp H
        obtain ⟨⟨t392,t393,t394,t395,t396⟩,A110,H⟩ := H
        replace H : (if (!(t374.toList == t380.toList) || (!(t375.toList == t381.toList) || (!(t376 == t382) || (!(t377 == t383))))) = true then (verdererlaw28_QuotaTells.j1 kj2 l1 true) else (if t378 = t384 then (if (!(t386.toList == t392.toList) || (!(t387.toList == t393.toList) || (!(t388 == t394) || (!(t389 == t395))))) = true then (verdererlaw28_QuotaTells.j1 kj2 l1 true) else (if t390 = t396 then ((quota_Over.f kj2 l1).bind fun t398 => ((verdererref28_Over.f kj2 l1).bind fun t401 => ((verdererref27_Same.f kj2 t398 t401).bind fun t404 => (verdererlaw28_QuotaTells.j1 kj2 l1 (!t404))))) else (verdererlaw28_QuotaTells.j1 kj2 l1 true))) else (verdererlaw28_QuotaTells.j1 kj2 l1 true))) = some r := H
        have A11 := Aside0.mk A110
        clear A110
        have HC12 := Aside0.mk H
        clear H
        go_upto_region 7 with (first | ((with_reducible refine gate_callee (f := 45) rfl ?_);refine goesL_ (some 30) rfl rfl Try.func45 (by kernel_rfl) rfl #[.slice A0 l0.length c0,.slice A1 l1.length c1] rfl (by (try simp only [List.map_toArray,List.map_cons,List.map_nil]);first | done | rfl | (simp only [List.length_drop,List.length_take];rfl)) ?_;(with_reducible refine (quota_Judge.calls kj2 _ _ l0 _ _ l1 t374 t375 t376 t377 t378 _ ?side1 ?side2 ?side3 ?side4 A8.out).mono ?_);(case side1 => repeat (first | exact (Kd.C_below HR0.out HB.out) | (with_reducible refine Kd.C_alloc ?_ _) | (with_reducible refine Kd.C_drewN ?_ _) | (with_reducible refine Kd.C_drew ?_)));(case side2 => exact HC0.out);(case side3 => repeat (first | exact (Kd.C_below HR1.out HB.out) | (with_reducible refine Kd.C_alloc ?_ _) | (with_reducible refine Kd.C_drewN ?_ _) | (with_reducible refine Kd.C_drew ?_)));(case side4 => exact HC1.out);rintro e w13 ⟨rfl,hb⟩;refine ⟨_,rfl,?_⟩;have n0_ := Aside0.mk (below_step (by repeat (first | (with_reducible first | exact HB.out | apply below_alloc | apply pw_below_drewN | apply below_drew1) | exact HB.out)) hb);clear HB;have HB := n0_;clear n0_;(try clear hb);(try clear hb2);(try clear hk);(try clear hi)) | ((with_reducible refine gate_dst (N := 5) rfl ?_);(try (refine gate_guard (by rfl) ?_;dsimp only));refine box_event ?hg (N := 5) ?hd (cs := #[.string (⟨#[]⟩ : ByteArray),.string (⟨#[]⟩ : ByteArray),.int .i64 0,.int .i64 0]) (t := 45) ?hr ?_;(case hd => rfl);(case hg => rfl);(case hr => first | (go_simp;done) | (go_simp;rfl));intro gb379 hg w14 hbox hb;have n0_ := Aside0.mk (below_step (by repeat (first | (with_reducible first | exact HB.out | apply below_alloc | apply pw_below_drewN | apply below_drew1) | exact HB.out)) hb);have n1_ := Aside0.mk (hbox);have n2_ := Aside0.mk ((by rw [hg];exact (below_size (by repeat (first | (with_reducible first | exact HB.out | apply below_alloc | apply pw_below_drewN | apply below_drew1) | exact HB.out))) : w.heap.size ≤ gb379));have n3_ := Aside0.mk ((by rw [hg];exact (below_size (by repeat (first | (with_reducible first | exact HB.out | apply below_alloc | apply pw_below_drewN | apply below_drew1) | exact HB.out))) : w.heap.size ≤ gb379));clear HB;have HB := n0_;have BK379 := n1_;have GW379 := n2_;have GE379 := n3_;clear n0_ n1_ n2_ n3_;clear hb hbox hg;have hcz15_0 : w14.cell? ⟨gb379,0,none⟩ = some (.string (⟨#[]⟩ : ByteArray)) := (blk_cell BK379.out 0).trans rfl;have hcz15_1 : w14.cell? ⟨gb379,1,none⟩ = some (.string (⟨#[]⟩ : ByteArray)) := (blk_cell BK379.out 1).trans rfl;have hcz15_2 : w14.cell? ⟨gb379,2,none⟩ = some (.int .i64 0) := (blk_cell BK379.out 2).trans rfl;have hcz15_3 : w14.cell? ⟨gb379,3,none⟩ = some (.int .i64 0) := (blk_cell BK379.out 3).trans rfl;have hfz15_0 := blk_frozen BK379.out 0;have hfz15_1 := blk_frozen BK379.out 1;have hfz15_2 := blk_frozen BK379.out 2;have hfz15_3 := blk_frozen BK379.out 3) | ((with_reducible refine gate_callee (f := 46) rfl ?_);refine goesL_ (some 36) rfl rfl Try.func46 (by kernel_rfl) rfl #[.slice A0 l0.length c0,.slice A1 l1.length c1] rfl (by (try simp only [List.map_toArray,List.map_cons,List.map_nil]);first | done | rfl | (simp only [List.length_drop,List.length_take];rfl)) ?_;(with_reducible refine (verdererref28_Judge.calls kj2 _ _ l0 _ _ l1 t380 t381 t382 t383 t384 _ ?side1 ?side2 ?side3 ?side4 A9.out).mono ?_);(case side1 => exact Kd.C_below HR0.out (by repeat (first | (with_reducible first | exact HB.out | apply below_alloc | apply pw_below_drewN | apply below_drew1 | refine below_set ?_ GE379.out) | exact HB.out)));(case side2 => exact HC0.out);(case side3 => exact Kd.C_below HR1.out (by repeat (first | (with_reducible first | exact HB.out | apply below_alloc | apply pw_below_drewN | apply below_drew1 | refine below_set ?_ GE379.out) | exact HB.out)));(case side4 => exact HC1.out);rintro e w16 ⟨rfl,hb⟩;refine ⟨_,rfl,?_⟩;have n0_ := Aside0.mk (blk_below (g := gb379) (o := .cells #[.string t374,.string t375,.int .i64 t376,.int .i64 t377] 45 (0,0)) (by (with_reducible repeat (first | refine blk_drewN ?_ _ | refine blk_drew ?_ | refine blk_alloc ?_ _));refine blk_put (cs := #[.string t374,.string t375,.int .i64 t376,.int .i64 0]) ?_ 3 _ rfl;(with_reducible repeat (first | refine blk_drewN ?_ _ | refine blk_drew ?_ | refine blk_alloc ?_ _));refine blk_put (cs := #[.string t374,.string t375,.int .i64 0,.int .i64 0]) ?_ 2 _ rfl;(with_reducible repeat (first | refine blk_drewN ?_ _ | refine blk_drew ?_ | refine blk_alloc ?_ _));refine blk_put (cs := #[.string t374,.string (⟨#[]⟩ : ByteArray),.int .i64 0,.int .i64 0]) ?_ 1 _ rfl;(with_reducible repeat (first | refine blk_drewN ?_ _ | refine blk_drew ?_ | refine blk_alloc ?_ _));refine blk_put (cs := #[.string (⟨#[]⟩ : ByteArray),.string (⟨#[]⟩ : ByteArray),.int .i64 0,.int .i64 0]) ?_ 0 _ rfl;(with_reducible repeat (first | refine blk_drewN ?_ _ | refine blk_drew ?_ | refine blk_alloc ?_ _));exact BK379.out) hb);have n1_ := Aside0.mk (below_step (by repeat (first | (with_reducible first | exact HB.out | apply below_alloc | apply pw_below_drewN | apply below_drew1 | refine below_set ?_ GE379.out) | exact HB.out)) hb);clear BK379;clear HB;have BK379 := n0_;have HB := n1_;clear n0_ n1_;(try clear hb);(try clear hb2);(try clear hk);(try clear hi)) | ((with_reducible refine gate_dst (N := 7) rfl ?_);(try (refine gate_guard (by rfl) ?_;dsimp only));refine box_event ?hg (N := 7) ?hd (cs := #[.string (⟨#[]⟩ : ByteArray),.string (⟨#[]⟩ : ByteArray),.int .i64 0,.int .i64 0]) (t := 45) ?hr ?_;(case hd => rfl);(case hg => rfl);(case hr => first | (go_simp;done) | (go_simp;rfl));intro gb385 hg w17 hbox hb;have n0_ := Aside0.mk (blk_below (g := gb379) (o := .cells #[.string t374,.string t375,.int .i64 t376,.int .i64 t377] 45 (0,0)) (by (with_reducible repeat (first | refine blk_drewN ?_ _ | refine blk_drew ?_ | refine blk_alloc ?_ _));exact BK379.out) hb);have n1_ := Aside0.mk (below_step (by repeat (first | (with_reducible first | exact HB.out | apply below_alloc | apply pw_below_drewN | apply below_drew1 | refine below_set ?_ GE379.out) | exact HB.out)) hb);have n2_ := Aside0.mk (hbox);have n3_ := Aside0.mk ((by rw [hg];exact (below_size (by repeat (first | (with_reducible first | exact HB.out | apply below_alloc | apply pw_below_drewN | apply below_drew1 | refine below_set ?_ GE379.out) | exact HB.out))) : w.heap.size ≤ gb385));have n4_ := Aside0.mk ((by rw [hg];exact (below_size (by repeat (first | (with_reducible first | exact HB.out | apply below_alloc | apply pw_below_drewN | apply below_drew1 | refine below_set ?_ GE379.out) | exact HB.out))) : w.heap.size ≤ gb385));have n5_ := Aside0.mk ((by rw [hg];exact Nat.ne_of_lt (blk_lt (g := gb379) (o := .cells #[.string t374,.string t375,.int .i64 t376,.int .i64 t377] 45 (0,0)) (by (with_reducible repeat (first | refine blk_drewN ?_ _ | refine blk_drew ?_ | refine blk_alloc ?_ _));exact BK379.out)) : gb379 ≠ gb385));have n6_ := Aside0.mk ((by rw [hg];exact Nat.ne_of_gt (blk_lt (g := gb379) (o := .cells #[.string t374,.string t375,.int .i64 t376,.int .i64 t377] 45 (0,0)) (by (with_reducible repeat (first | refine blk_drewN ?_ _ | refine blk_drew ?_ | refine blk_alloc ?_ _));exact BK379.out)) : gb385 ≠ gb379));clear BK379;clear HB;have BK379 := n0_;have HB := n1_;have BK385 := n2_;have GW385 := n3_;have GE385 := n4_;have NB379_385 := n5_;have NB385_379 := n6_;clear n0_ n1_ n2_ n3_ n4_ n5_ n6_;clear hb hbox hg;have hnb18 := NB385_379.out;have hnc18 := NB379_385.out;have hcz19_0 : w17.cell? ⟨gb385,0,none⟩ = some (.string (⟨#[]⟩ : ByteArray)) := (blk_cell BK385.out 0).trans rfl;have hcz19_1 : w17.cell? ⟨gb385,1,none⟩ = some (.string (⟨#[]⟩ : ByteArray)) := (blk_cell BK385.out 1).trans rfl;have hcz19_2 : w17.cell? ⟨gb385,2,none⟩ = some (.int .i64 0) := (blk_cell BK385.out 2).trans rfl;have hcz19_3 : w17.cell? ⟨gb385,3,none⟩ = some (.int .i64 0) := (blk_cell BK385.out 3).trans rfl;have hfz19_0 := blk_frozen BK385.out 0;have hfz19_1 := blk_frozen BK385.out 1;have hfz19_2 := blk_frozen BK385.out 2;have hfz19_3 := blk_frozen BK385.out 3) | ((with_reducible refine gate_callee (f := 47) rfl ?_);refine goesL_ (some 41) rfl rfl Try.func47 (by kernel_rfl) rfl #[.slice A1 l1.length c1] rfl (by (try simp only [List.map_toArray,List.map_cons,List.map_nil]);first | done | rfl | (simp only [List.length_drop,List.length_take];rfl)) ?_;(with_reducible refine (quota_Worst.calls kj2 _ _ l1 t386 t387 t388 t389 t390 _ ?side1 ?side2 A10.out).mono ?_);(case side1 => exact Kd.C_below HR1.out (by repeat (first | (with_reducible first | exact HB.out | apply below_alloc | apply pw_below_drewN | apply below_drew1 | refine below_set ?_ GE379.out | refine below_set ?_ GE385.out) | exact HB.out)));(case side2 => exact HC1.out);rintro e w20 ⟨rfl,hb⟩;refine ⟨_,rfl,?_⟩;have n0_ := Aside0.mk (blk_below (g := gb379) (o := .cells #[.string t374,.string t375,.int .i64 t376,.int .i64 t377] 45 (0,0)) (by (with_reducible repeat (first | refine blk_drewN ?_ _ | refine blk_drew ?_ | refine blk_alloc ?_ _));refine blk_far ?_ NB379_385.out _;(with_reducible repeat (first | refine blk_drewN ?_ _ | refine blk_drew ?_ | refine blk_alloc ?_ _));refine blk_far ?_ NB379_385.out _;(with_reducible repeat (first | refine blk_drewN ?_ _ | refine blk_drew ?_ | refine blk_alloc ?_ _));refine blk_far ?_ NB379_385.out _;(with_reducible repeat (first | refine blk_drewN ?_ _ | refine blk_drew ?_ | refine blk_alloc ?_ _));refine blk_far ?_ NB379_385.out _;(with_reducible repeat (first | refine blk_drewN ?_ _ | refine blk_drew ?_ | refine blk_alloc ?_ _));exact BK379.out) hb);have n1_ := Aside0.mk (blk_below (g := gb385) (o := .cells #[.string t380,.string t381,.int .i64 t382,.int .i64 t383] 45 (0,0)) (by (with_reducible repeat (first | refine blk_drewN ?_ _ | refine blk_drew ?_ | refine blk_alloc ?_ _));refine blk_put (cs := #[.string t380,.string t381,.int .i64 t382,.int .i64 0]) ?_ 3 _ rfl;(with_reducible repeat (first | refine blk_drewN ?_ _ | refine blk_drew ?_ | refine blk_alloc ?_ _));refine blk_put (cs := #[.string t380,.string t381,.int .i64 0,.int .i64 0]) ?_ 2 _ rfl;(with_reducible repeat (first | refine blk_drewN ?_ _ | refine blk_drew ?_ | refine blk_alloc ?_ _));refine blk_put (cs := #[.string t380,.string (⟨#[]⟩ : ByteArray),.int .i64 0,.int .i64 0]) ?_ 1 _ rfl;(with_reducible repeat (first | refine blk_drewN ?_ _ | refine blk_drew ?_ | refine blk_alloc ?_ _));refine blk_put (cs := #[.string (⟨#[]⟩ : ByteArray),.string (⟨#[]⟩ : ByteArray),.int .i64 0,.int .i64 0]) ?_ 0 _ rfl;(with_reducible repeat (first | refine blk_drewN ?_ _ | refine blk_drew ?_ | refine blk_alloc ?_ _));exact BK385.out) hb);have n2_ := Aside0.mk (below_step (by repeat (first | (with_reducible first | exact HB.out | apply below_alloc | apply pw_below_drewN | apply below_drew1 | refine below_set ?_ GE379.out | refine below_set ?_ GE385.out) | exact HB.out)) hb);clear BK379;clear BK385;clear HB;have BK379 := n0_;have BK385 := n1_;have HB := n2_;clear n0_ n1_ n2_;(try clear hb);(try clear hb2);(try clear hk);(try clear hi)) | ((with_reducible refine gate_dst (N := 9) rfl ?_);(try (refine gate_guard (by rfl) ?_;dsimp only));refine box_event ?hg (N := 9) ?hd (cs := #[.string (⟨#[]⟩ : ByteArray),.string (⟨#[]⟩ : ByteArray),.int .i64 0,.int .i64 0]) (t := 45) ?hr ?_;(case hd => rfl);(case hg => rfl);(case hr => first | (go_simp;done) | (go_simp;rfl));intro gb391 hg w21 hbox hb;have n0_ := Aside0.mk (blk_below (g := gb379) (o := .cells #[.string t374,.string t375,.int .i64 t376,.int .i64 t377] 45 (0,0)) (by (with_reducible repeat (first | refine blk_drewN ?_ _ | refine blk_drew ?_ | refine blk_alloc ?_ _));exact BK379.out) hb);have n1_ := Aside0.mk (blk_below (g := gb385) (o := .cells #[.string t380,.string t381,.int .i64 t382,.int .i64 t383] 45 (0,0)) (by (with_reducible repeat (first | refine blk_drewN ?_ _ | refine blk_drew ?_ | refine blk_alloc ?_ _));exact BK385.out) hb);have n2_ := Aside0.mk (below_step (by repeat (first | (with_reducible first | exact HB.out | apply below_alloc | apply pw_below_drewN | apply below_drew1 | refine below_set ?_ GE379.out | refine below_set ?_ GE385.out) | exact HB.out)) hb);have n3_ := Aside0.mk (hbox);have n4_ := Aside0.mk ((by rw [hg];exact (below_size (by repeat (first | (with_reducible first | exact HB.out | apply below_alloc | apply pw_below_drewN | apply below_drew1 | refine below_set ?_ GE379.out | refine below_set ?_ GE385.out) | exact HB.out))) : w.heap.size ≤ gb391));have n5_ := Aside0.mk ((by rw [hg];exact (below_size (by repeat (first | (with_reducible first | exact HB.out | apply below_alloc | apply pw_below_drewN | apply below_drew1 | refine below_set ?_ GE379.out | refine below_set ?_ GE385.out) | exact HB.out))) : w.heap.size ≤ gb391));have n6_ := Aside0.mk ((by rw [hg];exact Nat.ne_of_lt (blk_lt (g := gb379) (o := .cells #[.string t374,.string t375,.int .i64 t376,.int .i64 t377] 45 (0,0)) (by (with_reducible repeat (first | refine blk_drewN ?_ _ | refine blk_drew ?_ | refine blk_alloc ?_ _));exact BK379.out)) : gb379 ≠ gb391));have n7_ := Aside0.mk ((by rw [hg];exact Nat.ne_of_gt (blk_lt (g := gb379) (o := .cells #[.string t374,.string t375,.int .i64 t376,.int .i64 t377] 45 (0,0)) (by (with_reducible repeat (first | refine blk_drewN ?_ _ | refine blk_drew ?_ | refine blk_alloc ?_ _));exact BK379.out)) : gb391 ≠ gb379));have n8_ := Aside0.mk ((by rw [hg];exact Nat.ne_of_lt (blk_lt (g := gb385) (o := .cells #[.string t380,.string t381,.int .i64 t382,.int .i64 t383] 45 (0,0)) (by (with_reducible repeat (first | refine blk_drewN ?_ _ | refine blk_drew ?_ | refine blk_alloc ?_ _));exact BK385.out)) : gb385 ≠ gb391));have n9_ := Aside0.mk ((by rw [hg];exact Nat.ne_of_gt (blk_lt (g := gb385) (o := .cells #[.string t380,.string t381,.int .i64 t382,.int .i64 t383] 45 (0,0)) (by (with_reducible repeat (first | refine blk_drewN ?_ _ | refine blk_drew ?_ | refine blk_alloc ?_ _));exact BK385.out)) : gb391 ≠ gb385));clear BK379;clear BK385;clear HB;have BK379 := n0_;have BK385 := n1_;have HB := n2_;have BK391 := n3_;have GW391 := n4_;have GE391 := n5_;have NB379_391 := n6_;have NB391_379 := n7_;have NB385_391 := n8_;have NB391_385 := n9_;clear n0_ n1_ n2_ n3_ n4_ n5_ n6_ n7_ n8_ n9_;clear hb hbox hg;have hnb22 := NB391_379.out;have hnc22 := NB379_391.out;have hnb23 := NB391_385.out;have hnc23 := NB385_391.out;have hcz24_0 : w21.cell? ⟨gb391,0,none⟩ = some (.string (⟨#[]⟩ : ByteArray)) := (blk_cell BK391.out 0).trans rfl;have hcz24_1 : w21.cell? ⟨gb391,1,none⟩ = some (.string (⟨#[]⟩ : ByteArray)) := (blk_cell BK391.out 1).trans rfl;have hcz24_2 : w21.cell? ⟨gb391,2,none⟩ = some (.int .i64 0) := (blk_cell BK391.out 2).trans rfl;have hcz24_3 : w21.cell? ⟨gb391,3,none⟩ = some (.int .i64 0) := (blk_cell BK391.out 3).trans rfl;have hfz24_0 := blk_frozen BK391.out 0;have hfz24_1 := blk_frozen BK391.out 1;have hfz24_2 := blk_frozen BK391.out 2;have hfz24_3 := blk_frozen BK391.out 3) | ((with_reducible refine gate_callee (f := 48) rfl ?_);refine goesL_ (some 46) rfl rfl Try.func48 (by kernel_rfl) rfl #[.slice A1 l1.length c1] rfl (by (try simp only [List.map_toArray,List.map_cons,List.map_nil]);first | done | rfl | (simp only [List.length_drop,List.length_take];rfl)) ?_;(with_reducible refine (verdererref28_Worst.calls kj2 _ _ l1 t392 t393 t394 t395 t396 _ ?side1 ?side2 A11.out).mono ?_);(case side1 => exact Kd.C_below HR1.out (by repeat (first | (with_reducible first | exact HB.out | apply below_alloc | apply pw_below_drewN | apply below_drew1 | refine below_set ?_ GE379.out | refine below_set ?_ GE385.out | refine below_set ?_ GE391.out) | exact HB.out)));(case side2 => exact HC1.out);rintro e w25 ⟨rfl,hb⟩;refine ⟨_,rfl,?_⟩;have n0_ := Aside0.mk (blk_below (g := gb379) (o := .cells #[.string t374,.string t375,.int .i64 t376,.int .i64 t377] 45 (0,0)) (by (with_reducible repeat (first | refine blk_drewN ?_ _ | refine blk_drew ?_ | refine blk_alloc ?_ _));refine blk_far ?_ NB379_391.out _;(with_reducible repeat (first | refine blk_drewN ?_ _ | refine blk_drew ?_ | refine blk_alloc ?_ _));refine blk_far ?_ NB379_391.out _;(with_reducible repeat (first | refine blk_drewN ?_ _ | refine blk_drew ?_ | refine blk_alloc ?_ _));refine blk_far ?_ NB379_391.out _;(with_reducible repeat (first | refine blk_drewN ?_ _ | refine blk_drew ?_ | refine blk_alloc ?_ _));refine blk_far ?_ NB379_391.out _;(with_reducible repeat (first | refine blk_drewN ?_ _ | refine blk_drew ?_ | refine blk_alloc ?_ _));exact BK379.out) hb);have n1_ := Aside0.mk (blk_below (g := gb385) (o := .cells #[.string t380,.string t381,.int .i64 t382,.int .i64 t383] 45 (0,0)) (by (with_reducible repeat (first | refine blk_drewN ?_ _ | refine blk_drew ?_ | refine blk_alloc ?_ _));refine blk_far ?_ NB385_391.out _;(with_reducible repeat (first | refine blk_drewN ?_ _ | refine blk_drew ?_ | refine blk_alloc ?_ _));refine blk_far ?_ NB385_391.out _;(with_reducible repeat (first | refine blk_drewN ?_ _ | refine blk_drew ?_ | refine blk_alloc ?_ _));refine blk_far ?_ NB385_391.out _;(with_reducible repeat (first | refine blk_drewN ?_ _ | refine blk_drew ?_ | refine blk_alloc ?_ _));refine blk_far ?_ NB385_391.out _;(with_reducible repeat (first | refine blk_drewN ?_ _ | refine blk_drew ?_ | refine blk_alloc ?_ _));exact BK385.out) hb);have n2_ := Aside0.mk (blk_below (g := gb391) (o := .cells #[.string t386,.string t387,.int .i64 t388,.int .i64 t389] 45 (0,0)) (by (with_reducible repeat (first | refine blk_drewN ?_ _ | refine blk_drew ?_ | refine blk_alloc ?_ _));refine blk_put (cs := #[.string t386,.string t387,.int .i64 t388,.int .i64 0]) ?_ 3 _ rfl;(with_reducible repeat (first | refine blk_drewN ?_ _ | refine blk_drew ?_ | refine blk_alloc ?_ _));refine blk_put (cs := #[.string t386,.string t387,.int .i64 0,.int .i64 0]) ?_ 2 _ rfl;(with_reducible repeat (first | refine blk_drewN ?_ _ | refine blk_drew ?_ | refine blk_alloc ?_ _));refine blk_put (cs := #[.string t386,.string (⟨#[]⟩ : ByteArray),.int .i64 0,.int .i64 0]) ?_ 1 _ rfl;(with_reducible repeat (first | refine blk_drewN ?_ _ | refine blk_drew ?_ | refine blk_alloc ?_ _));refine blk_put (cs := #[.string (⟨#[]⟩ : ByteArray),.string (⟨#[]⟩ : ByteArray),.int .i64 0,.int .i64 0]) ?_ 0 _ rfl;(with_reducible repeat (first | refine blk_drewN ?_ _ | refine blk_drew ?_ | refine blk_alloc ?_ _));exact BK391.out) hb);have n3_ := Aside0.mk (below_step (by repeat (first | (with_reducible first | exact HB.out | apply below_alloc | apply pw_below_drewN | apply below_drew1 | refine below_set ?_ GE379.out | refine below_set ?_ GE385.out | refine below_set ?_ GE391.out) | exact HB.out)) hb);clear BK379;clear BK385;clear BK391;clear HB;have BK379 := n0_;have BK385 := n1_;have BK391 := n2_;have HB := n3_;clear n0_ n1_ n2_ n3_;(try clear hb);(try clear hb2);(try clear hk);(try clear hi)) | ((with_reducible refine gate_dst (N := 11) rfl ?_);(try (refine gate_guard (by rfl) ?_;dsimp only));refine box_event ?hg (N := 11) ?hd (cs := #[.string (⟨#[]⟩ : ByteArray),.string (⟨#[]⟩ : ByteArray),.int .i64 0,.int .i64 0]) (t := 45) ?hr ?_;(case hd => rfl);(case hg => rfl);(case hr => first | (go_simp;done) | (go_simp;rfl));intro gb397 hg w26 hbox hb;have n0_ := Aside0.mk (blk_below (g := gb379) (o := .cells #[.string t374,.string t375,.int .i64 t376,.int .i64 t377] 45 (0,0)) (by (with_reducible repeat (first | refine blk_drewN ?_ _ | refine blk_drew ?_ | refine blk_alloc ?_ _));exact BK379.out) hb);have n1_ := Aside0.mk (blk_below (g := gb385) (o := .cells #[.string t380,.string t381,.int .i64 t382,.int .i64 t383] 45 (0,0)) (by (with_reducible repeat (first | refine blk_drewN ?_ _ | refine blk_drew ?_ | refine blk_alloc ?_ _));exact BK385.out) hb);have n2_ := Aside0.mk (blk_below (g := gb391) (o := .cells #[.string t386,.string t387,.int .i64 t388,.int .i64 t389] 45 (0,0)) (by (with_reducible repeat (first | refine blk_drewN ?_ _ | refine blk_drew ?_ | refine blk_alloc ?_ _));exact BK391.out) hb);have n3_ := Aside0.mk (below_step (by repeat (first | (with_reducible first | exact HB.out | apply below_alloc | apply pw_below_drewN | apply below_drew1 | refine below_set ?_ GE379.out | refine below_set ?_ GE385.out | refine below_set ?_ GE391.out) | exact HB.out)) hb);have n4_ := Aside0.mk (hbox);have n5_ := Aside0.mk ((by rw [hg];exact (below_size (by repeat (first | (with_reducible first | exact HB.out | apply below_alloc | apply pw_below_drewN | apply below_drew1 | refine below_set ?_ GE379.out | refine below_set ?_ GE385.out | refine below_set ?_ GE391.out) | exact HB.out))) : w.heap.size ≤ gb397));have n6_ := Aside0.mk ((by rw [hg];exact (below_size (by repeat (first | (with_reducible first | exact HB.out | apply below_alloc | apply pw_below_drewN | apply below_drew1 | refine below_set ?_ GE379.out | refine below_set ?_ GE385.out | refine below_set ?_ GE391.out) | exact HB.out))) : w.heap.size ≤ gb397));have n7_ := Aside0.mk ((by rw [hg];exact Nat.ne_of_lt (blk_lt (g := gb379) (o := .cells #[.string t374,.string t375,.int .i64 t376,.int .i64 t377] 45 (0,0)) (by (with_reducible repeat (first | refine blk_drewN ?_ _ | refine blk_drew ?_ | refine blk_alloc ?_ _));exact BK379.out)) : gb379 ≠ gb397));have n8_ := Aside0.mk ((by rw [hg];exact Nat.ne_of_gt (blk_lt (g := gb379) (o := .cells #[.string t374,.string t375,.int .i64 t376,.int .i64 t377] 45 (0,0)) (by (with_reducible repeat (first | refine blk_drewN ?_ _ | refine blk_drew ?_ | refine blk_alloc ?_ _));exact BK379.out)) : gb397 ≠ gb379));have n9_ := Aside0.mk ((by rw [hg];exact Nat.ne_of_lt (blk_lt (g := gb385) (o := .cells #[.string t380,.string t381,.int .i64 t382,.int .i64 t383] 45 (0,0)) (by (with_reducible repeat (first | refine blk_drewN ?_ _ | refine blk_drew ?_ | refine blk_alloc ?_ _));exact BK385.out)) : gb385 ≠ gb397));have n10_ := Aside0.mk ((by rw [hg];exact Nat.ne_of_gt (blk_lt (g := gb385) (o := .cells #[.string t380,.string t381,.int .i64 t382,.int .i64 t383] 45 (0,0)) (by (with_reducible repeat (first | refine blk_drewN ?_ _ | refine blk_drew ?_ | refine blk_alloc ?_ _));exact BK385.out)) : gb397 ≠ gb385));have n11_ := Aside0.mk ((by rw [hg];exact Nat.ne_of_lt (blk_lt (g := gb391) (o := .cells #[.string t386,.string t387,.int .i64 t388,.int .i64 t389] 45 (0,0)) (by (with_reducible repeat (first | refine blk_drewN ?_ _ | refine blk_drew ?_ | refine blk_alloc ?_ _));exact BK391.out)) : gb391 ≠ gb397));have n12_ := Aside0.mk ((by rw [hg];exact Nat.ne_of_gt (blk_lt (g := gb391) (o := .cells #[.string t386,.string t387,.int .i64 t388,.int .i64 t389] 45 (0,0)) (by (with_reducible repeat (first | refine blk_drewN ?_ _ | refine blk_drew ?_ | refine blk_alloc ?_ _));exact BK391.out)) : gb397 ≠ gb391));clear BK379;clear BK385;clear BK391;clear HB;have BK379 := n0_;have BK385 := n1_;have BK391 := n2_;have HB := n3_;have BK397 := n4_;have GW397 := n5_;have GE397 := n6_;have NB379_397 := n7_;have NB397_379 := n8_;have NB385_397 := n9_;have NB397_385 := n10_;have NB391_397 := n11_;have NB397_391 := n12_;clear n0_ n1_ n2_ n3_ n4_ n5_ n6_ n7_ n8_ n9_ n10_ n11_ n12_;clear hb hbox hg;have hnb27 := NB397_379.out;have hnc27 := NB379_397.out;have hnb28 := NB397_385.out;have hnc28 := NB385_397.out;have hnb29 := NB397_391.out;have hnc29 := NB391_397.out;have hcz30_0 : w26.cell? ⟨gb397,0,none⟩ = some (.string (⟨#[]⟩ : ByteArray)) := (blk_cell BK397.out 0).trans rfl;have hcz30_1 : w26.cell? ⟨gb397,1,none⟩ = some (.string (⟨#[]⟩ : ByteArray)) := (blk_cell BK397.out 1).trans rfl;have hcz30_2 : w26.cell? ⟨gb397,2,none⟩ = some (.int .i64 0) := (blk_cell BK397.out 2).trans rfl;have hcz30_3 : w26.cell? ⟨gb397,3,none⟩ = some (.int .i64 0) := (blk_cell BK397.out 3).trans rfl;have hfz30_0 := blk_frozen BK397.out 0;have hfz30_1 := blk_frozen BK397.out 1;have hfz30_2 := blk_frozen BK397.out 2;have hfz30_3 := blk_frozen BK397.out 3))
        (try simp only [Act.put,zA,zB,zC])
        go_cut [74] (fun v74 wc => ∃ (kq : Nat) (x74_11 : Bool),v74 = .bool x74_11 ∧ Aside0 (verdererlaw28_QuotaTells.j1 kq l1 x74_11 = some r) ∧ Aside0 (kq ≤ kj2) ∧ Aside0 (wc.heap[gb379]? = some (.cells #[.string t374,.string t375,.int .i64 t376,.int .i64 t377] 45 (0,0))) ∧ Aside0 (wc.heap[gb385]? = some (.cells #[.string t380,.string t381,.int .i64 t382,.int .i64 t383] 45 (0,0))) ∧ Aside0 (wc.heap[gb391]? = some (.cells #[.string t386,.string t387,.int .i64 t388,.int .i64 t389] 45 (0,0))) ∧ Aside0 (wc.heap[gb397]? = some (.cells #[.string t392,.string t393,.int .i64 t394,.int .i64 t395] 45 (0,0))) ∧ Aside0 (Below w.heap.size w wc))
        case first =>
          have H := HC12.out
          clear HC12
          by_cases c31 : (!(t374.toList == t380.toList) || (!(t375.toList == t381.toList) || (!(t376 == t382) || (!(t377 == t383))))) = true
          · rw [if_pos c31] at H
            have c31b0 : (!(t374.toList == t380.toList) || (!(t375.toList == t381.toList) || (!(t376 == t382) || (!(t377 == t383))))) = true := c31
            clear c31
            (first | rw [c31b0] | (simp only [i64_w,i32_w];rw [c31b0]) | skip)
            have H' := Aside0.mk H
            clear H
            have hnb32 := NB379_385.out
            have hnc32 := NB385_379.out
            have hnb33 := NB379_391.out
            have hnc33 := NB391_379.out
            have hnb34 := NB379_397.out
            have hnc34 := NB397_379.out
            have hcz35_0 : w26.cell? ⟨gb379,0,none⟩ = some (.string t374) := (blk_cell BK379.out 0).trans rfl
            have hcz35_1 : w26.cell? ⟨gb379,1,none⟩ = some (.string t375) := (blk_cell BK379.out 1).trans rfl
            have hcz35_2 : w26.cell? ⟨gb379,2,none⟩ = some (.int .i64 t376) := (blk_cell BK379.out 2).trans rfl
            have hcz35_3 : w26.cell? ⟨gb379,3,none⟩ = some (.int .i64 t377) := (blk_cell BK379.out 3).trans rfl
            have hfz35_0 := blk_frozen BK379.out 0
            have hfz35_1 := blk_frozen BK379.out 1
            have hfz35_2 := blk_frozen BK379.out 2
            have hfz35_3 := blk_frozen BK379.out 3
            have hnb36 := NB385_391.out
            have hnc36 := NB391_385.out
            have hnb37 := NB385_397.out
            have hnc37 := NB397_385.out
            have hcz38_0 : w26.cell? ⟨gb385,0,none⟩ = some (.string t380) := (blk_cell BK385.out 0).trans rfl
            have hcz38_1 : w26.cell? ⟨gb385,1,none⟩ = some (.string t381) := (blk_cell BK385.out 1).trans rfl
            have hcz38_2 : w26.cell? ⟨gb385,2,none⟩ = some (.int .i64 t382) := (blk_cell BK385.out 2).trans rfl
            have hcz38_3 : w26.cell? ⟨gb385,3,none⟩ = some (.int .i64 t383) := (blk_cell BK385.out 3).trans rfl
            have hfz38_0 := blk_frozen BK385.out 0
            have hfz38_1 := blk_frozen BK385.out 1
            have hfz38_2 := blk_frozen BK385.out 2
            have hfz38_3 := blk_frozen BK385.out 3
            go_wp2
            go_meet
            case rel => exact ⟨_,(true),(by first | rfl | (simp;done) | (simp [*];done)),H',⟨by have := HJ2.out;first | omega | exact Nat.le_refl _⟩,⟨by (with_reducible repeat (first | refine blk_drewN ?_ _ | refine blk_drew ?_ | refine blk_alloc ?_ _));refine blk_far ?_ NB379_397.out _;(with_reducible repeat (first | refine blk_drewN ?_ _ | refine blk_drew ?_ | refine blk_alloc ?_ _));refine blk_far ?_ NB379_397.out _;(with_reducible repeat (first | refine blk_drewN ?_ _ | refine blk_drew ?_ | refine blk_alloc ?_ _));refine blk_far ?_ NB379_397.out _;(with_reducible repeat (first | refine blk_drewN ?_ _ | refine blk_drew ?_ | refine blk_alloc ?_ _));refine blk_far ?_ NB379_397.out _;(with_reducible repeat (first | refine blk_drewN ?_ _ | refine blk_drew ?_ | refine blk_alloc ?_ _));exact BK379.out⟩,⟨by (with_reducible repeat (first | refine blk_drewN ?_ _ | refine blk_drew ?_ | refine blk_alloc ?_ _));refine blk_far ?_ NB385_397.out _;(with_reducible repeat (first | refine blk_drewN ?_ _ | refine blk_drew ?_ | refine blk_alloc ?_ _));refine blk_far ?_ NB385_397.out _;(with_reducible repeat (first | refine blk_drewN ?_ _ | refine blk_drew ?_ | refine blk_alloc ?_ _));refine blk_far ?_ NB385_397.out _;(with_reducible repeat (first | refine blk_drewN ?_ _ | refine blk_drew ?_ | refine blk_alloc ?_ _));refine blk_far ?_ NB385_397.out _;(with_reducible repeat (first | refine blk_drewN ?_ _ | refine blk_drew ?_ | refine blk_alloc ?_ _));exact BK385.out⟩,⟨by (with_reducible repeat (first | refine blk_drewN ?_ _ | refine blk_drew ?_ | refine blk_alloc ?_ _));refine blk_far ?_ NB391_397.out _;(with_reducible repeat (first | refine blk_drewN ?_ _ | refine blk_drew ?_ | refine blk_alloc ?_ _));refine blk_far ?_ NB391_397.out _;(with_reducible repeat (first | refine blk_drewN ?_ _ | refine blk_drew ?_ | refine blk_alloc ?_ _));refine blk_far ?_ NB391_397.out _;(with_reducible repeat (first | refine blk_drewN ?_ _ | refine blk_drew ?_ | refine blk_alloc ?_ _));refine blk_far ?_ NB391_397.out _;(with_reducible repeat (first | refine blk_drewN ?_ _ | refine blk_drew ?_ | refine blk_alloc ?_ _));exact BK391.out⟩,⟨by (with_reducible repeat (first | refine blk_drewN ?_ _ | refine blk_drew ?_ | refine blk_alloc ?_ _));refine blk_put (cs := #[.string t392,.string t393,.int .i64 t394,.int .i64 0]) ?_ 3 _ rfl;(with_reducible repeat (first | refine blk_drewN ?_ _ | refine blk_drew ?_ | refine blk_alloc ?_ _));refine blk_put (cs := #[.string t392,.string t393,.int .i64 0,.int .i64 0]) ?_ 2 _ rfl;(with_reducible repeat (first | refine blk_drewN ?_ _ | refine blk_drew ?_ | refine blk_alloc ?_ _));refine blk_put (cs := #[.string t392,.string (⟨#[]⟩ : ByteArray),.int .i64 0,.int .i64 0]) ?_ 1 _ rfl;(with_reducible repeat (first | refine blk_drewN ?_ _ | refine blk_drew ?_ | refine blk_alloc ?_ _));refine blk_put (cs := #[.string (⟨#[]⟩ : ByteArray),.string (⟨#[]⟩ : ByteArray),.int .i64 0,.int .i64 0]) ?_ 0 _ rfl;(with_reducible repeat (first | refine blk_drewN ?_ _ | refine blk_drew ?_ | refine blk_alloc ?_ _));exact BK397.out⟩,⟨by repeat (first | (with_reducible first | exact HB.out | apply below_alloc | apply pw_below_drewN | apply below_drew1 | refine below_set ?_ GE379.out | refine below_set ?_ GE385.out | refine below_set ?_ GE391.out | refine below_set ?_ GE397.out) | exact HB.out)⟩⟩
          · rw [if_neg c31] at H
            have c31b0 : (!(t374.toList == t380.toList) || (!(t375.toList == t381.toList) || (!(t376 == t382) || (!(t377 == t383))))) = false := by simpa using c31
            clear c31
            (first | rw [c31b0] | (simp only [i64_w,i32_w];rw [c31b0]) | skip)
            by_cases c39 : t378 = t384
            · rw [if_pos c39] at H
              have c39b0 : (t378 == t384) = true := beq_iff_eq.mpr c39
              have c39b1 : (t378 != t384) = false := bne_eq_false_iff_eq.mpr c39
              clear c39
              by_cases c40 : (!(t386.toList == t392.toList) || (!(t387.toList == t393.toList) || (!(t388 == t394) || (!(t389 == t395))))) = true
              · rw [if_pos c40] at H
                have c40b0 : (!(t386.toList == t392.toList) || (!(t387.toList == t393.toList) || (!(t388 == t394) || (!(t389 == t395))))) = true := c40
                clear c40
                have H' := Aside0.mk H
                clear H
                have hnb41 := NB379_385.out
                have hnc41 := NB385_379.out
                have hnb42 := NB379_391.out
                have hnc42 := NB391_379.out
                have hnb43 := NB379_397.out
                have hnc43 := NB397_379.out
                have hcz44_0 : w26.cell? ⟨gb379,0,none⟩ = some (.string t374) := (blk_cell BK379.out 0).trans rfl
                have hcz44_1 : w26.cell? ⟨gb379,1,none⟩ = some (.string t375) := (blk_cell BK379.out 1).trans rfl
                have hcz44_2 : w26.cell? ⟨gb379,2,none⟩ = some (.int .i64 t376) := (blk_cell BK379.out 2).trans rfl
                have hcz44_3 : w26.cell? ⟨gb379,3,none⟩ = some (.int .i64 t377) := (blk_cell BK379.out 3).trans rfl
                have hfz44_0 := blk_frozen BK379.out 0
                have hfz44_1 := blk_frozen BK379.out 1
                have hfz44_2 := blk_frozen BK379.out 2
                have hfz44_3 := blk_frozen BK379.out 3
                have hnb45 := NB385_391.out
                have hnc45 := NB391_385.out
                have hnb46 := NB385_397.out
                have hnc46 := NB397_385.out
                have hcz47_0 : w26.cell? ⟨gb385,0,none⟩ = some (.string t380) := (blk_cell BK385.out 0).trans rfl
                have hcz47_1 : w26.cell? ⟨gb385,1,none⟩ = some (.string t381) := (blk_cell BK385.out 1).trans rfl
                have hcz47_2 : w26.cell? ⟨gb385,2,none⟩ = some (.int .i64 t382) := (blk_cell BK385.out 2).trans rfl
                have hcz47_3 : w26.cell? ⟨gb385,3,none⟩ = some (.int .i64 t383) := (blk_cell BK385.out 3).trans rfl
                have hfz47_0 := blk_frozen BK385.out 0
                have hfz47_1 := blk_frozen BK385.out 1
                have hfz47_2 := blk_frozen BK385.out 2
                have hfz47_3 := blk_frozen BK385.out 3
                have hnb48 := NB391_397.out
                have hnc48 := NB397_391.out
                have hcz49_0 : w26.cell? ⟨gb391,0,none⟩ = some (.string t386) := (blk_cell BK391.out 0).trans rfl
                have hcz49_1 : w26.cell? ⟨gb391,1,none⟩ = some (.string t387) := (blk_cell BK391.out 1).trans rfl
                have hcz49_2 : w26.cell? ⟨gb391,2,none⟩ = some (.int .i64 t388) := (blk_cell BK391.out 2).trans rfl
                have hcz49_3 : w26.cell? ⟨gb391,3,none⟩ = some (.int .i64 t389) := (blk_cell BK391.out 3).trans rfl
                have hfz49_0 := blk_frozen BK391.out 0
                have hfz49_1 := blk_frozen BK391.out 1
                have hfz49_2 := blk_frozen BK391.out 2
                have hfz49_3 := blk_frozen BK391.out 3
                have hcz50_0 : w26.cell? ⟨gb397,0,none⟩ = some (.string (⟨#[]⟩ : ByteArray)) := (blk_cell BK397.out 0).trans rfl
                have hcz50_1 : w26.cell? ⟨gb397,1,none⟩ = some (.string (⟨#[]⟩ : ByteArray)) := (blk_cell BK397.out 1).trans rfl
                have hcz50_2 : w26.cell? ⟨gb397,2,none⟩ = some (.int .i64 0) := (blk_cell BK397.out 2).trans rfl
                have hcz50_3 : w26.cell? ⟨gb397,3,none⟩ = some (.int .i64 0) := (blk_cell BK397.out 3).trans rfl
                have hfz50_0 := blk_frozen BK397.out 0
                have hfz50_1 := blk_frozen BK397.out 1
                have hfz50_2 := blk_frozen BK397.out 2
                have hfz50_3 := blk_frozen BK397.out 3
                go_wp2
                go_meet
                case rel => exact ⟨_,(true),(by first | rfl | (simp;done) | (simp [*];done)),H',⟨by have := HJ2.out;first | omega | exact Nat.le_refl _⟩,⟨by (with_reducible repeat (first | refine blk_drewN ?_ _ | refine blk_drew ?_ | refine blk_alloc ?_ _));refine blk_far ?_ NB379_397.out _;(with_reducible repeat (first | refine blk_drewN ?_ _ | refine blk_drew ?_ | refine blk_alloc ?_ _));refine blk_far ?_ NB379_397.out _;(with_reducible repeat (first | refine blk_drewN ?_ _ | refine blk_drew ?_ | refine blk_alloc ?_ _));refine blk_far ?_ NB379_397.out _;(with_reducible repeat (first | refine blk_drewN ?_ _ | refine blk_drew ?_ | refine blk_alloc ?_ _));refine blk_far ?_ NB379_397.out _;(with_reducible repeat (first | refine blk_drewN ?_ _ | refine blk_drew ?_ | refine blk_alloc ?_ _));exact BK379.out⟩,⟨by (with_reducible repeat (first | refine blk_drewN ?_ _ | refine blk_drew ?_ | refine blk_alloc ?_ _));refine blk_far ?_ NB385_397.out _;(with_reducible repeat (first | refine blk_drewN ?_ _ | refine blk_drew ?_ | refine blk_alloc ?_ _));refine blk_far ?_ NB385_397.out _;(with_reducible repeat (first | refine blk_drewN ?_ _ | refine blk_drew ?_ | refine blk_alloc ?_ _));refine blk_far ?_ NB385_397.out _;(with_reducible repeat (first | refine blk_drewN ?_ _ | refine blk_drew ?_ | refine blk_alloc ?_ _));refine blk_far ?_ NB385_397.out _;(with_reducible repeat (first | refine blk_drewN ?_ _ | refine blk_drew ?_ | refine blk_alloc ?_ _));exact BK385.out⟩,⟨by (with_reducible repeat (first | refine blk_drewN ?_ _ | refine blk_drew ?_ | refine blk_alloc ?_ _));refine blk_far ?_ NB391_397.out _;(with_reducible repeat (first | refine blk_drewN ?_ _ | refine blk_drew ?_ | refine blk_alloc ?_ _));refine blk_far ?_ NB391_397.out _;(with_reducible repeat (first | refine blk_drewN ?_ _ | refine blk_drew ?_ | refine blk_alloc ?_ _));refine blk_far ?_ NB391_397.out _;(with_reducible repeat (first | refine blk_drewN ?_ _ | refine blk_drew ?_ | refine blk_alloc ?_ _));refine blk_far ?_ NB391_397.out _;(with_reducible repeat (first | refine blk_drewN ?_ _ | refine blk_drew ?_ | refine blk_alloc ?_ _));exact BK391.out⟩,⟨by (with_reducible repeat (first | refine blk_drewN ?_ _ | refine blk_drew ?_ | refine blk_alloc ?_ _));refine blk_put (cs := #[.string t392,.string t393,.int .i64 t394,.int .i64 0]) ?_ 3 _ rfl;(with_reducible repeat (first | refine blk_drewN ?_ _ | refine blk_drew ?_ | refine blk_alloc ?_ _));refine blk_put (cs := #[.string t392,.string t393,.int .i64 0,.int .i64 0]) ?_ 2 _ rfl;(with_reducible repeat (first | refine blk_drewN ?_ _ | refine blk_drew ?_ | refine blk_alloc ?_ _));refine blk_put (cs := #[.string t392,.string (⟨#[]⟩ : ByteArray),.int .i64 0,.int .i64 0]) ?_ 1 _ rfl;(with_reducible repeat (first | refine blk_drewN ?_ _ | refine blk_drew ?_ | refine blk_alloc ?_ _));refine blk_put (cs := #[.string (⟨#[]⟩ : ByteArray),.string (⟨#[]⟩ : ByteArray),.int .i64 0,.int .i64 0]) ?_ 0 _ rfl;(with_reducible repeat (first | refine blk_drewN ?_ _ | refine blk_drew ?_ | refine blk_alloc ?_ _));exact BK397.out⟩,⟨by repeat (first | (with_reducible first | exact HB.out | apply below_alloc | apply pw_below_drewN | apply below_drew1 | refine below_set ?_ GE379.out | refine below_set ?_ GE385.out | refine below_set ?_ GE391.out | refine below_set ?_ GE397.out) | exact HB.out)⟩⟩
              · rw [if_neg c40] at H
                have c40b0 : (!(t386.toList == t392.toList) || (!(t387.toList == t393.toList) || (!(t388 == t394) || (!(t389 == t395))))) = false := by simpa using c40
                clear c40
                by_cases c51 : t390 = t396
                · rw [if_pos c51] at H
                  have c51b0 : (t390 == t396) = true := beq_iff_eq.mpr c51
                  have c51b1 : (t390 != t396) = false := bne_eq_false_iff_eq.mpr c51
                  clear c51
                  replace H := Option.bind_eq_some_iff.mp H
                  obtain ⟨t398,A520,H⟩ := H
                  replace H : ((verdererref28_Over.f kj2 l1).bind fun t401 => ((verdererref27_Same.f kj2 t398 t401).bind fun t404 => (verdererlaw28_QuotaTells.j1 kj2 l1 (!t404)))) = some r := H
                  have A52 := Aside0.mk A520
                  clear A520
                  replace H := Option.bind_eq_some_iff.mp H
                  obtain ⟨t401,A530,H⟩ := H
                  replace H : ((verdererref27_Same.f kj2 t398 t401).bind fun t404 => (verdererlaw28_QuotaTells.j1 kj2 l1 (!t404))) = some r := H
                  have A53 := Aside0.mk A530
                  clear A530
                  replace H := Option.bind_eq_some_iff.mp H
                  obtain ⟨t404,A540,H⟩ := H
                  replace H : (verdererlaw28_QuotaTells.j1 kj2 l1 (!t404)) = some r := H
                  have A54 := Aside0.mk A540
                  clear A540
                  have H' := Aside0.mk H
                  clear H
                  have hnb55 := NB379_385.out
                  have hnc55 := NB385_379.out
                  have hnb56 := NB379_391.out
                  have hnc56 := NB391_379.out
                  have hnb57 := NB379_397.out
                  have hnc57 := NB397_379.out
                  have hcz58_0 : w26.cell? ⟨gb379,0,none⟩ = some (.string t374) := (blk_cell BK379.out 0).trans rfl
                  have hcz58_1 : w26.cell? ⟨gb379,1,none⟩ = some (.string t375) := (blk_cell BK379.out 1).trans rfl
                  have hcz58_2 : w26.cell? ⟨gb379,2,none⟩ = some (.int .i64 t376) := (blk_cell BK379.out 2).trans rfl
                  have hcz58_3 : w26.cell? ⟨gb379,3,none⟩ = some (.int .i64 t377) := (blk_cell BK379.out 3).trans rfl
                  have hfz58_0 := blk_frozen BK379.out 0
                  have hfz58_1 := blk_frozen BK379.out 1
                  have hfz58_2 := blk_frozen BK379.out 2
                  have hfz58_3 := blk_frozen BK379.out 3
                  have hnb59 := NB385_391.out
                  have hnc59 := NB391_385.out
                  have hnb60 := NB385_397.out
                  have hnc60 := NB397_385.out
                  have hcz61_0 : w26.cell? ⟨gb385,0,none⟩ = some (.string t380) := (blk_cell BK385.out 0).trans rfl
                  have hcz61_1 : w26.cell? ⟨gb385,1,none⟩ = some (.string t381) := (blk_cell BK385.out 1).trans rfl
                  have hcz61_2 : w26.cell? ⟨gb385,2,none⟩ = some (.int .i64 t382) := (blk_cell BK385.out 2).trans rfl
                  have hcz61_3 : w26.cell? ⟨gb385,3,none⟩ = some (.int .i64 t383) := (blk_cell BK385.out 3).trans rfl
                  have hfz61_0 := blk_frozen BK385.out 0
                  have hfz61_1 := blk_frozen BK385.out 1
                  have hfz61_2 := blk_frozen BK385.out 2
                  have hfz61_3 := blk_frozen BK385.out 3
                  have hnb62 := NB391_397.out
                  have hnc62 := NB397_391.out
                  have hcz63_0 : w26.cell? ⟨gb391,0,none⟩ = some (.string t386) := (blk_cell BK391.out 0).trans rfl
                  have hcz63_1 : w26.cell? ⟨gb391,1,none⟩ = some (.string t387) := (blk_cell BK391.out 1).trans rfl
                  have hcz63_2 : w26.cell? ⟨gb391,2,none⟩ = some (.int .i64 t388) := (blk_cell BK391.out 2).trans rfl
                  have hcz63_3 : w26.cell? ⟨gb391,3,none⟩ = some (.int .i64 t389) := (blk_cell BK391.out 3).trans rfl
                  have hfz63_0 := blk_frozen BK391.out 0
                  have hfz63_1 := blk_frozen BK391.out 1
                  have hfz63_2 := blk_frozen BK391.out 2
                  have hfz63_3 := blk_frozen BK391.out 3
                  have hcz64_0 : w26.cell? ⟨gb397,0,none⟩ = some (.string (⟨#[]⟩ : ByteArray)) := (blk_cell BK397.out 0).trans rfl
                  have hcz64_1 : w26.cell? ⟨gb397,1,none⟩ = some (.string (⟨#[]⟩ : ByteArray)) := (blk_cell BK397.out 1).trans rfl
                  have hcz64_2 : w26.cell? ⟨gb397,2,none⟩ = some (.int .i64 0) := (blk_cell BK397.out 2).trans rfl
                  have hcz64_3 : w26.cell? ⟨gb397,3,none⟩ = some (.int .i64 0) := (blk_cell BK397.out 3).trans rfl
                  have hfz64_0 := blk_frozen BK397.out 0
                  have hfz64_1 := blk_frozen BK397.out 1
                  have hfz64_2 := blk_frozen BK397.out 2
                  have hfz64_3 := blk_frozen BK397.out 3
                  go_wp2_with (first | (go_at_call 49;(with_reducible refine (quota_Over.calls kj2 _ _ l1 t398 _ ?side1 ?side2 A52.out).mono ?_);(case side1 => exact Kd.C_below HR1.out (by repeat (first | (with_reducible first | exact HB.out | apply below_alloc | apply pw_below_drewN | apply below_drew1 | refine below_set ?_ GE379.out | refine below_set ?_ GE385.out | refine below_set ?_ GE391.out | refine below_set ?_ GE397.out) | exact HB.out)));(case side2 => exact HC1.out);rintro e w65 ⟨v399,rfl,ho0,hb⟩;have n0_ := Aside0.mk (Kd.R_lower (Kd.R_newB (Kd.R_newB (Kd.R_newB (Kd.R_newB ho0 (g := gb379) (o := .cells #[.string t374,.string t375,.int .i64 t376,.int .i64 t377] 45 (0,0)) (by (with_reducible repeat (first | refine blk_drewN ?_ _ | refine blk_drew ?_ | refine blk_alloc ?_ _));refine blk_far ?_ NB379_397.out _;(with_reducible repeat (first | refine blk_drewN ?_ _ | refine blk_drew ?_ | refine blk_alloc ?_ _));refine blk_far ?_ NB379_397.out _;(with_reducible repeat (first | refine blk_drewN ?_ _ | refine blk_drew ?_ | refine blk_alloc ?_ _));refine blk_far ?_ NB379_397.out _;(with_reducible repeat (first | refine blk_drewN ?_ _ | refine blk_drew ?_ | refine blk_alloc ?_ _));refine blk_far ?_ NB379_397.out _;(with_reducible repeat (first | refine blk_drewN ?_ _ | refine blk_drew ?_ | refine blk_alloc ?_ _));exact BK379.out)) (g := gb385) (o := .cells #[.string t380,.string t381,.int .i64 t382,.int .i64 t383] 45 (0,0)) (by (with_reducible repeat (first | refine blk_drewN ?_ _ | refine blk_drew ?_ | refine blk_alloc ?_ _));refine blk_far ?_ NB385_397.out _;(with_reducible repeat (first | refine blk_drewN ?_ _ | refine blk_drew ?_ | refine blk_alloc ?_ _));refine blk_far ?_ NB385_397.out _;(with_reducible repeat (first | refine blk_drewN ?_ _ | refine blk_drew ?_ | refine blk_alloc ?_ _));refine blk_far ?_ NB385_397.out _;(with_reducible repeat (first | refine blk_drewN ?_ _ | refine blk_drew ?_ | refine blk_alloc ?_ _));refine blk_far ?_ NB385_397.out _;(with_reducible repeat (first | refine blk_drewN ?_ _ | refine blk_drew ?_ | refine blk_alloc ?_ _));exact BK385.out)) (g := gb391) (o := .cells #[.string t386,.string t387,.int .i64 t388,.int .i64 t389] 45 (0,0)) (by (with_reducible repeat (first | refine blk_drewN ?_ _ | refine blk_drew ?_ | refine blk_alloc ?_ _));refine blk_far ?_ NB391_397.out _;(with_reducible repeat (first | refine blk_drewN ?_ _ | refine blk_drew ?_ | refine blk_alloc ?_ _));refine blk_far ?_ NB391_397.out _;(with_reducible repeat (first | refine blk_drewN ?_ _ | refine blk_drew ?_ | refine blk_alloc ?_ _));refine blk_far ?_ NB391_397.out _;(with_reducible repeat (first | refine blk_drewN ?_ _ | refine blk_drew ?_ | refine blk_alloc ?_ _));refine blk_far ?_ NB391_397.out _;(with_reducible repeat (first | refine blk_drewN ?_ _ | refine blk_drew ?_ | refine blk_alloc ?_ _));exact BK391.out)) (g := gb397) (o := .cells #[.string t392,.string t393,.int .i64 t394,.int .i64 t395] 45 (0,0)) (by (with_reducible repeat (first | refine blk_drewN ?_ _ | refine blk_drew ?_ | refine blk_alloc ?_ _));refine blk_put (cs := #[.string t392,.string t393,.int .i64 t394,.int .i64 0]) ?_ 3 _ rfl;(with_reducible repeat (first | refine blk_drewN ?_ _ | refine blk_drew ?_ | refine blk_alloc ?_ _));refine blk_put (cs := #[.string t392,.string t393,.int .i64 0,.int .i64 0]) ?_ 2 _ rfl;(with_reducible repeat (first | refine blk_drewN ?_ _ | refine blk_drew ?_ | refine blk_alloc ?_ _));refine blk_put (cs := #[.string t392,.string (⟨#[]⟩ : ByteArray),.int .i64 0,.int .i64 0]) ?_ 1 _ rfl;(with_reducible repeat (first | refine blk_drewN ?_ _ | refine blk_drew ?_ | refine blk_alloc ?_ _));refine blk_put (cs := #[.string (⟨#[]⟩ : ByteArray),.string (⟨#[]⟩ : ByteArray),.int .i64 0,.int .i64 0]) ?_ 0 _ rfl;(with_reducible repeat (first | refine blk_drewN ?_ _ | refine blk_drew ?_ | refine blk_alloc ?_ _));exact BK397.out)) (below_size (by repeat (first | (with_reducible first | exact HB.out | apply below_alloc | apply pw_below_drewN | apply below_drew1 | refine below_set ?_ GE379.out | refine below_set ?_ GE385.out | refine below_set ?_ GE391.out | refine below_set ?_ GE397.out) | exact HB.out))));have n1_ := Aside0.mk (blk_below (g := gb379) (o := .cells #[.string t374,.string t375,.int .i64 t376,.int .i64 t377] 45 (0,0)) (by (with_reducible repeat (first | refine blk_drewN ?_ _ | refine blk_drew ?_ | refine blk_alloc ?_ _));refine blk_far ?_ NB379_397.out _;(with_reducible repeat (first | refine blk_drewN ?_ _ | refine blk_drew ?_ | refine blk_alloc ?_ _));refine blk_far ?_ NB379_397.out _;(with_reducible repeat (first | refine blk_drewN ?_ _ | refine blk_drew ?_ | refine blk_alloc ?_ _));refine blk_far ?_ NB379_397.out _;(with_reducible repeat (first | refine blk_drewN ?_ _ | refine blk_drew ?_ | refine blk_alloc ?_ _));refine blk_far ?_ NB379_397.out _;(with_reducible repeat (first | refine blk_drewN ?_ _ | refine blk_drew ?_ | refine blk_alloc ?_ _));exact BK379.out) hb);have n2_ := Aside0.mk (blk_below (g := gb385) (o := .cells #[.string t380,.string t381,.int .i64 t382,.int .i64 t383] 45 (0,0)) (by (with_reducible repeat (first | refine blk_drewN ?_ _ | refine blk_drew ?_ | refine blk_alloc ?_ _));refine blk_far ?_ NB385_397.out _;(with_reducible repeat (first | refine blk_drewN ?_ _ | refine blk_drew ?_ | refine blk_alloc ?_ _));refine blk_far ?_ NB385_397.out _;(with_reducible repeat (first | refine blk_drewN ?_ _ | refine blk_drew ?_ | refine blk_alloc ?_ _));refine blk_far ?_ NB385_397.out _;(with_reducible repeat (first | refine blk_drewN ?_ _ | refine blk_drew ?_ | refine blk_alloc ?_ _));refine blk_far ?_ NB385_397.out _;(with_reducible repeat (first | refine blk_drewN ?_ _ | refine blk_drew ?_ | refine blk_alloc ?_ _));exact BK385.out) hb);have n3_ := Aside0.mk (blk_below (g := gb391) (o := .cells #[.string t386,.string t387,.int .i64 t388,.int .i64 t389] 45 (0,0)) (by (with_reducible repeat (first | refine blk_drewN ?_ _ | refine blk_drew ?_ | refine blk_alloc ?_ _));refine blk_far ?_ NB391_397.out _;(with_reducible repeat (first | refine blk_drewN ?_ _ | refine blk_drew ?_ | refine blk_alloc ?_ _));refine blk_far ?_ NB391_397.out _;(with_reducible repeat (first | refine blk_drewN ?_ _ | refine blk_drew ?_ | refine blk_alloc ?_ _));refine blk_far ?_ NB391_397.out _;(with_reducible repeat (first | refine blk_drewN ?_ _ | refine blk_drew ?_ | refine blk_alloc ?_ _));refine blk_far ?_ NB391_397.out _;(with_reducible repeat (first | refine blk_drewN ?_ _ | refine blk_drew ?_ | refine blk_alloc ?_ _));exact BK391.out) hb);have n4_ := Aside0.mk (blk_below (g := gb397) (o := .cells #[.string t392,.string t393,.int .i64 t394,.int .i64 t395] 45 (0,0)) (by (with_reducible repeat (first | refine blk_drewN ?_ _ | refine blk_drew ?_ | refine blk_alloc ?_ _));refine blk_put (cs := #[.string t392,.string t393,.int .i64 t394,.int .i64 0]) ?_ 3 _ rfl;(with_reducible repeat (first | refine blk_drewN ?_ _ | refine blk_drew ?_ | refine blk_alloc ?_ _));refine blk_put (cs := #[.string t392,.string t393,.int .i64 0,.int .i64 0]) ?_ 2 _ rfl;(with_reducible repeat (first | refine blk_drewN ?_ _ | refine blk_drew ?_ | refine blk_alloc ?_ _));refine blk_put (cs := #[.string t392,.string (⟨#[]⟩ : ByteArray),.int .i64 0,.int .i64 0]) ?_ 1 _ rfl;(with_reducible repeat (first | refine blk_drewN ?_ _ | refine blk_drew ?_ | refine blk_alloc ?_ _));refine blk_put (cs := #[.string (⟨#[]⟩ : ByteArray),.string (⟨#[]⟩ : ByteArray),.int .i64 0,.int .i64 0]) ?_ 0 _ rfl;(with_reducible repeat (first | refine blk_drewN ?_ _ | refine blk_drew ?_ | refine blk_alloc ?_ _));exact BK397.out) hb);have n5_ := Aside0.mk (below_step (by repeat (first | (with_reducible first | exact HB.out | apply below_alloc | apply pw_below_drewN | apply below_drew1 | refine below_set ?_ GE379.out | refine below_set ?_ GE385.out | refine below_set ?_ GE391.out | refine below_set ?_ GE397.out) | exact HB.out)) hb);clear BK379;clear BK385;clear BK391;clear BK397;clear HB;have HO400 := n0_;have BK379 := n1_;have BK385 := n2_;have BK391 := n3_;have BK397 := n4_;have HB := n5_;clear n0_ n1_ n2_ n3_ n4_ n5_;(try clear hb);(try clear hb2);(try clear hk);(try clear hi);(try clear ho0)) | (go_at_call 50;(with_reducible refine (verdererref28_Over.calls kj2 _ _ l1 t401 _ ?side1 ?side2 A53.out).mono ?_);(case side1 => repeat (first | exact (Kd.C_below HR1.out HB.out) | (with_reducible refine Kd.C_alloc ?_ _) | (with_reducible refine Kd.C_drewN ?_ _) | (with_reducible refine Kd.C_drew ?_)));(case side2 => exact HC1.out);rintro e w66 ⟨v402,rfl,ho0,hb⟩;have n0_ := Aside0.mk (Kd.R_elder' (by (with_reducible repeat (first | apply Kd.R_alloc | apply Kd.R_drewN | apply Kd.R_drew));exact HO400.out) (Kd.R_base ho0) hb);have n1_ := Aside0.mk (Kd.R_lower (Kd.R_newB (Kd.R_newB (Kd.R_newB (Kd.R_newB (Kd.R_new' ho0 (Kd.R_lt (by (with_reducible repeat (first | apply Kd.R_alloc | apply Kd.R_drewN | apply Kd.R_drew));exact HO400.out))) (g := gb379) (o := .cells #[.string t374,.string t375,.int .i64 t376,.int .i64 t377] 45 (0,0)) (by (with_reducible repeat (first | refine blk_drewN ?_ _ | refine blk_drew ?_ | refine blk_alloc ?_ _));exact BK379.out)) (g := gb385) (o := .cells #[.string t380,.string t381,.int .i64 t382,.int .i64 t383] 45 (0,0)) (by (with_reducible repeat (first | refine blk_drewN ?_ _ | refine blk_drew ?_ | refine blk_alloc ?_ _));exact BK385.out)) (g := gb391) (o := .cells #[.string t386,.string t387,.int .i64 t388,.int .i64 t389] 45 (0,0)) (by (with_reducible repeat (first | refine blk_drewN ?_ _ | refine blk_drew ?_ | refine blk_alloc ?_ _));exact BK391.out)) (g := gb397) (o := .cells #[.string t392,.string t393,.int .i64 t394,.int .i64 t395] 45 (0,0)) (by (with_reducible repeat (first | refine blk_drewN ?_ _ | refine blk_drew ?_ | refine blk_alloc ?_ _));exact BK397.out)) (below_size (by repeat (first | (with_reducible first | exact HB.out | apply below_alloc | apply pw_below_drewN | apply below_drew1 | refine below_set ?_ GE379.out | refine below_set ?_ GE385.out | refine below_set ?_ GE391.out | refine below_set ?_ GE397.out) | exact HB.out))));have n2_ := Aside0.mk (blk_below (g := gb379) (o := .cells #[.string t374,.string t375,.int .i64 t376,.int .i64 t377] 45 (0,0)) (by (with_reducible repeat (first | refine blk_drewN ?_ _ | refine blk_drew ?_ | refine blk_alloc ?_ _));exact BK379.out) hb);have n3_ := Aside0.mk (blk_below (g := gb385) (o := .cells #[.string t380,.string t381,.int .i64 t382,.int .i64 t383] 45 (0,0)) (by (with_reducible repeat (first | refine blk_drewN ?_ _ | refine blk_drew ?_ | refine blk_alloc ?_ _));exact BK385.out) hb);have n4_ := Aside0.mk (blk_below (g := gb391) (o := .cells #[.string t386,.string t387,.int .i64 t388,.int .i64 t389] 45 (0,0)) (by (with_reducible repeat (first | refine blk_drewN ?_ _ | refine blk_drew ?_ | refine blk_alloc ?_ _));exact BK391.out) hb);have n5_ := Aside0.mk (blk_below (g := gb397) (o := .cells #[.string t392,.string t393,.int .i64 t394,.int .i64 t395] 45 (0,0)) (by (with_reducible repeat (first | refine blk_drewN ?_ _ | refine blk_drew ?_ | refine blk_alloc ?_ _));exact BK397.out) hb);have n6_ := Aside0.mk (below_step (by repeat (first | (with_reducible first | exact HB.out | apply below_alloc | apply pw_below_drewN | apply below_drew1 | refine below_set ?_ GE379.out | refine below_set ?_ GE385.out | refine below_set ?_ GE391.out | refine below_set ?_ GE397.out) | exact HB.out)) hb);clear HO400;clear BK379;clear BK385;clear BK391;clear BK397;clear HB;have HO400 := n0_;have HO403 := n1_;have BK379 := n2_;have BK385 := n3_;have BK391 := n4_;have BK397 := n5_;have HB := n6_;clear n0_ n1_ n2_ n3_ n4_ n5_ n6_;(try clear hb);(try clear hb2);(try clear hk);(try clear hi);(try clear ho0);obtain ⟨Ao67,co67,eo67⟩ := Kd.R_slice HO400.out;subst eo67;obtain ⟨Ao68,co68,eo68⟩ := Kd.R_slice HO403.out;subst eo68) | (go_at_call 38;(with_reducible refine (verdererref27_Same.calls kj2 _ _ t398 _ _ t401 t404 _ ?side1 ?side2 ?side3 ?side4 A54.out).mono ?_);(case side1 => repeat (first | exact (Kd.R_reads' HO400.out).2.2 | (with_reducible refine Kd.C_alloc ?_ _) | (with_reducible refine Kd.C_drewN ?_ _) | (with_reducible refine Kd.C_drew ?_)));(case side2 => exact (Kd.R_reads' HO400.out).2.1);(case side3 => repeat (first | exact (Kd.R_reads' HO403.out).2.2 | (with_reducible refine Kd.C_alloc ?_ _) | (with_reducible refine Kd.C_drewN ?_ _) | (with_reducible refine Kd.C_drew ?_)));(case side4 => exact (Kd.R_reads' HO403.out).2.1);rintro e w' ⟨rfl,⟨nd,rfl⟩⟩))
                  go_meet
                  case rel => exact ⟨_,(!t404),(by first | rfl | (simp;done) | (simp [*];done)),H',⟨by have := HJ2.out;first | omega | exact Nat.le_refl _⟩,⟨by (with_reducible repeat (first | refine blk_drewN ?_ _ | refine blk_drew ?_ | refine blk_alloc ?_ _));exact BK379.out⟩,⟨by (with_reducible repeat (first | refine blk_drewN ?_ _ | refine blk_drew ?_ | refine blk_alloc ?_ _));exact BK385.out⟩,⟨by (with_reducible repeat (first | refine blk_drewN ?_ _ | refine blk_drew ?_ | refine blk_alloc ?_ _));exact BK391.out⟩,⟨by (with_reducible repeat (first | refine blk_drewN ?_ _ | refine blk_drew ?_ | refine blk_alloc ?_ _));exact BK397.out⟩,⟨by repeat (first | (with_reducible first | exact HB.out | apply below_alloc | apply pw_below_drewN | apply below_drew1 | refine below_set ?_ GE379.out | refine below_set ?_ GE385.out | refine below_set ?_ GE391.out | refine below_set ?_ GE397.out) | exact HB.out)⟩⟩
                · rw [if_neg c51] at H
                  have c51b0 : (t390 == t396) = false := beq_eq_false_iff_ne.mpr c51
                  have c51b1 : (t390 != t396) = true := bne_iff_ne.mpr c51
                  have H' := Aside0.mk H
                  clear H
                  have hnb69 := NB379_385.out
                  have hnc69 := NB385_379.out
                  have hnb70 := NB379_391.out
                  have hnc70 := NB391_379.out
                  have hnb71 := NB379_397.out
                  have hnc71 := NB397_379.out
                  have hcz72_0 : w26.cell? ⟨gb379,0,none⟩ = some (.string t374) := (blk_cell BK379.out 0).trans rfl
                  have hcz72_1 : w26.cell? ⟨gb379,1,none⟩ = some (.string t375) := (blk_cell BK379.out 1).trans rfl
                  have hcz72_2 : w26.cell? ⟨gb379,2,none⟩ = some (.int .i64 t376) := (blk_cell BK379.out 2).trans rfl
                  have hcz72_3 : w26.cell? ⟨gb379,3,none⟩ = some (.int .i64 t377) := (blk_cell BK379.out 3).trans rfl
                  have hfz72_0 := blk_frozen BK379.out 0
                  have hfz72_1 := blk_frozen BK379.out 1
                  have hfz72_2 := blk_frozen BK379.out 2
                  have hfz72_3 := blk_frozen BK379.out 3
                  have hnb73 := NB385_391.out
                  have hnc73 := NB391_385.out
                  have hnb74 := NB385_397.out
                  have hnc74 := NB397_385.out
                  have hcz75_0 : w26.cell? ⟨gb385,0,none⟩ = some (.string t380) := (blk_cell BK385.out 0).trans rfl
                  have hcz75_1 : w26.cell? ⟨gb385,1,none⟩ = some (.string t381) := (blk_cell BK385.out 1).trans rfl
                  have hcz75_2 : w26.cell? ⟨gb385,2,none⟩ = some (.int .i64 t382) := (blk_cell BK385.out 2).trans rfl
                  have hcz75_3 : w26.cell? ⟨gb385,3,none⟩ = some (.int .i64 t383) := (blk_cell BK385.out 3).trans rfl
                  have hfz75_0 := blk_frozen BK385.out 0
                  have hfz75_1 := blk_frozen BK385.out 1
                  have hfz75_2 := blk_frozen BK385.out 2
                  have hfz75_3 := blk_frozen BK385.out 3
                  have hnb76 := NB391_397.out
                  have hnc76 := NB397_391.out
                  have hcz77_0 : w26.cell? ⟨gb391,0,none⟩ = some (.string t386) := (blk_cell BK391.out 0).trans rfl
                  have hcz77_1 : w26.cell? ⟨gb391,1,none⟩ = some (.string t387) := (blk_cell BK391.out 1).trans rfl
                  have hcz77_2 : w26.cell? ⟨gb391,2,none⟩ = some (.int .i64 t388) := (blk_cell BK391.out 2).trans rfl
                  have hcz77_3 : w26.cell? ⟨gb391,3,none⟩ = some (.int .i64 t389) := (blk_cell BK391.out 3).trans rfl
                  have hfz77_0 := blk_frozen BK391.out 0
                  have hfz77_1 := blk_frozen BK391.out 1
                  have hfz77_2 := blk_frozen BK391.out 2
                  have hfz77_3 := blk_frozen BK391.out 3
                  have hcz78_0 : w26.cell? ⟨gb397,0,none⟩ = some (.string (⟨#[]⟩ : ByteArray)) := (blk_cell BK397.out 0).trans rfl
                  have hcz78_1 : w26.cell? ⟨gb397,1,none⟩ = some (.string (⟨#[]⟩ : ByteArray)) := (blk_cell BK397.out 1).trans rfl
                  have hcz78_2 : w26.cell? ⟨gb397,2,none⟩ = some (.int .i64 0) := (blk_cell BK397.out 2).trans rfl
                  have hcz78_3 : w26.cell? ⟨gb397,3,none⟩ = some (.int .i64 0) := (blk_cell BK397.out 3).trans rfl
                  have hfz78_0 := blk_frozen BK397.out 0
                  have hfz78_1 := blk_frozen BK397.out 1
                  have hfz78_2 := blk_frozen BK397.out 2
                  have hfz78_3 := blk_frozen BK397.out 3
                  go_wp2
                  go_meet
                  case rel => exact ⟨_,(true),(by first | rfl | (simp;done) | (simp [*];done)),H',⟨by have := HJ2.out;first | omega | exact Nat.le_refl _⟩,⟨by (with_reducible repeat (first | refine blk_drewN ?_ _ | refine blk_drew ?_ | refine blk_alloc ?_ _));refine blk_far ?_ NB379_397.out _;(with_reducible repeat (first | refine blk_drewN ?_ _ | refine blk_drew ?_ | refine blk_alloc ?_ _));refine blk_far ?_ NB379_397.out _;(with_reducible repeat (first | refine blk_drewN ?_ _ | refine blk_drew ?_ | refine blk_alloc ?_ _));refine blk_far ?_ NB379_397.out _;(with_reducible repeat (first | refine blk_drewN ?_ _ | refine blk_drew ?_ | refine blk_alloc ?_ _));refine blk_far ?_ NB379_397.out _;(with_reducible repeat (first | refine blk_drewN ?_ _ | refine blk_drew ?_ | refine blk_alloc ?_ _));exact BK379.out⟩,⟨by (with_reducible repeat (first | refine blk_drewN ?_ _ | refine blk_drew ?_ | refine blk_alloc ?_ _));refine blk_far ?_ NB385_397.out _;(with_reducible repeat (first | refine blk_drewN ?_ _ | refine blk_drew ?_ | refine blk_alloc ?_ _));refine blk_far ?_ NB385_397.out _;(with_reducible repeat (first | refine blk_drewN ?_ _ | refine blk_drew ?_ | refine blk_alloc ?_ _));refine blk_far ?_ NB385_397.out _;(with_reducible repeat (first | refine blk_drewN ?_ _ | refine blk_drew ?_ | refine blk_alloc ?_ _));refine blk_far ?_ NB385_397.out _;(with_reducible repeat (first | refine blk_drewN ?_ _ | refine blk_drew ?_ | refine blk_alloc ?_ _));exact BK385.out⟩,⟨by (with_reducible repeat (first | refine blk_drewN ?_ _ | refine blk_drew ?_ | refine blk_alloc ?_ _));refine blk_far ?_ NB391_397.out _;(with_reducible repeat (first | refine blk_drewN ?_ _ | refine blk_drew ?_ | refine blk_alloc ?_ _));refine blk_far ?_ NB391_397.out _;(with_reducible repeat (first | refine blk_drewN ?_ _ | refine blk_drew ?_ | refine blk_alloc ?_ _));refine blk_far ?_ NB391_397.out _;(with_reducible repeat (first | refine blk_drewN ?_ _ | refine blk_drew ?_ | refine blk_alloc ?_ _));refine blk_far ?_ NB391_397.out _;(with_reducible repeat (first | refine blk_drewN ?_ _ | refine blk_drew ?_ | refine blk_alloc ?_ _));exact BK391.out⟩,⟨by (with_reducible repeat (first | refine blk_drewN ?_ _ | refine blk_drew ?_ | refine blk_alloc ?_ _));refine blk_put (cs := #[.string t392,.string t393,.int .i64 t394,.int .i64 0]) ?_ 3 _ rfl;(with_reducible repeat (first | refine blk_drewN ?_ _ | refine blk_drew ?_ | refine blk_alloc ?_ _));refine blk_put (cs := #[.string t392,.string t393,.int .i64 0,.int .i64 0]) ?_ 2 _ rfl;(with_reducible repeat (first | refine blk_drewN ?_ _ | refine blk_drew ?_ | refine blk_alloc ?_ _));refine blk_put (cs := #[.string t392,.string (⟨#[]⟩ : ByteArray),.int .i64 0,.int .i64 0]) ?_ 1 _ rfl;(with_reducible repeat (first | refine blk_drewN ?_ _ | refine blk_drew ?_ | refine blk_alloc ?_ _));refine blk_put (cs := #[.string (⟨#[]⟩ : ByteArray),.string (⟨#[]⟩ : ByteArray),.int .i64 0,.int .i64 0]) ?_ 0 _ rfl;(with_reducible repeat (first | refine blk_drewN ?_ _ | refine blk_drew ?_ | refine blk_alloc ?_ _));exact BK397.out⟩,⟨by repeat (first | (with_reducible first | exact HB.out | apply below_alloc | apply pw_below_drewN | apply below_drew1 | refine below_set ?_ GE379.out | refine below_set ?_ GE385.out | refine below_set ?_ GE391.out | refine below_set ?_ GE397.out) | exact HB.out)⟩⟩
            · rw [if_neg c39] at H
              have c39b0 : (t378 == t384) = false := beq_eq_false_iff_ne.mpr c39
              have c39b1 : (t378 != t384) = true := bne_iff_ne.mpr c39
              have H' := Aside0.mk H
              clear H
              have hnb79 := NB379_385.out
              have hnc79 := NB385_379.out
              have hnb80 := NB379_391.out
              have hnc80 := NB391_379.out
              have hnb81 := NB379_397.out
              have hnc81 := NB397_379.out
              have hcz82_0 : w26.cell? ⟨gb379,0,none⟩ = some (.string t374) := (blk_cell BK379.out 0).trans rfl
              have hcz82_1 : w26.cell? ⟨gb379,1,none⟩ = some (.string t375) := (blk_cell BK379.out 1).trans rfl
              have hcz82_2 : w26.cell? ⟨gb379,2,none⟩ = some (.int .i64 t376) := (blk_cell BK379.out 2).trans rfl
              have hcz82_3 : w26.cell? ⟨gb379,3,none⟩ = some (.int .i64 t377) := (blk_cell BK379.out 3).trans rfl
              have hfz82_0 := blk_frozen BK379.out 0
              have hfz82_1 := blk_frozen BK379.out 1
              have hfz82_2 := blk_frozen BK379.out 2
              have hfz82_3 := blk_frozen BK379.out 3
              have hnb83 := NB385_391.out
              have hnc83 := NB391_385.out
              have hnb84 := NB385_397.out
              have hnc84 := NB397_385.out
              have hcz85_0 : w26.cell? ⟨gb385,0,none⟩ = some (.string t380) := (blk_cell BK385.out 0).trans rfl
              have hcz85_1 : w26.cell? ⟨gb385,1,none⟩ = some (.string t381) := (blk_cell BK385.out 1).trans rfl
              have hcz85_2 : w26.cell? ⟨gb385,2,none⟩ = some (.int .i64 t382) := (blk_cell BK385.out 2).trans rfl
              have hcz85_3 : w26.cell? ⟨gb385,3,none⟩ = some (.int .i64 t383) := (blk_cell BK385.out 3).trans rfl
              have hfz85_0 := blk_frozen BK385.out 0
              have hfz85_1 := blk_frozen BK385.out 1
              have hfz85_2 := blk_frozen BK385.out 2
              have hfz85_3 := blk_frozen BK385.out 3
              go_wp2
              go_meet
              case rel => exact ⟨_,(true),(by first | rfl | (simp;done) | (simp [*];done)),H',⟨by have := HJ2.out;first | omega | exact Nat.le_refl _⟩,⟨by (with_reducible repeat (first | refine blk_drewN ?_ _ | refine blk_drew ?_ | refine blk_alloc ?_ _));refine blk_far ?_ NB379_397.out _;(with_reducible repeat (first | refine blk_drewN ?_ _ | refine blk_drew ?_ | refine blk_alloc ?_ _));refine blk_far ?_ NB379_397.out _;(with_reducible repeat (first | refine blk_drewN ?_ _ | refine blk_drew ?_ | refine blk_alloc ?_ _));refine blk_far ?_ NB379_397.out _;(with_reducible repeat (first | refine blk_drewN ?_ _ | refine blk_drew ?_ | refine blk_alloc ?_ _));refine blk_far ?_ NB379_397.out _;(with_reducible repeat (first | refine blk_drewN ?_ _ | refine blk_drew ?_ | refine blk_alloc ?_ _));exact BK379.out⟩,⟨by (with_reducible repeat (first | refine blk_drewN ?_ _ | refine blk_drew ?_ | refine blk_alloc ?_ _));refine blk_far ?_ NB385_397.out _;(with_reducible repeat (first | refine blk_drewN ?_ _ | refine blk_drew ?_ | refine blk_alloc ?_ _));refine blk_far ?_ NB385_397.out _;(with_reducible repeat (first | refine blk_drewN ?_ _ | refine blk_drew ?_ | refine blk_alloc ?_ _));refine blk_far ?_ NB385_397.out _;(with_reducible repeat (first | refine blk_drewN ?_ _ | refine blk_drew ?_ | refine blk_alloc ?_ _));refine blk_far ?_ NB385_397.out _;(with_reducible repeat (first | refine blk_drewN ?_ _ | refine blk_drew ?_ | refine blk_alloc ?_ _));exact BK385.out⟩,⟨by (with_reducible repeat (first | refine blk_drewN ?_ _ | refine blk_drew ?_ | refine blk_alloc ?_ _));refine blk_far ?_ NB391_397.out _;(with_reducible repeat (first | refine blk_drewN ?_ _ | refine blk_drew ?_ | refine blk_alloc ?_ _));refine blk_far ?_ NB391_397.out _;(with_reducible repeat (first | refine blk_drewN ?_ _ | refine blk_drew ?_ | refine blk_alloc ?_ _));refine blk_far ?_ NB391_397.out _;(with_reducible repeat (first | refine blk_drewN ?_ _ | refine blk_drew ?_ | refine blk_alloc ?_ _));refine blk_far ?_ NB391_397.out _;(with_reducible repeat (first | refine blk_drewN ?_ _ | refine blk_drew ?_ | refine blk_alloc ?_ _));exact BK391.out⟩,⟨by (with_reducible repeat (first | refine blk_drewN ?_ _ | refine blk_drew ?_ | refine blk_alloc ?_ _));refine blk_put (cs := #[.string t392,.string t393,.int .i64 t394,.int .i64 0]) ?_ 3 _ rfl;(with_reducible repeat (first | refine blk_drewN ?_ _ | refine blk_drew ?_ | refine blk_alloc ?_ _));refine blk_put (cs := #[.string t392,.string t393,.int .i64 0,.int .i64 0]) ?_ 2 _ rfl;(with_reducible repeat (first | refine blk_drewN ?_ _ | refine blk_drew ?_ | refine blk_alloc ?_ _));refine blk_put (cs := #[.string t392,.string (⟨#[]⟩ : ByteArray),.int .i64 0,.int .i64 0]) ?_ 1 _ rfl;(with_reducible repeat (first | refine blk_drewN ?_ _ | refine blk_drew ?_ | refine blk_alloc ?_ _));refine blk_put (cs := #[.string (⟨#[]⟩ : ByteArray),.string (⟨#[]⟩ : ByteArray),.int .i64 0,.int .i64 0]) ?_ 0 _ rfl;(with_reducible repeat (first | refine blk_drewN ?_ _ | refine blk_drew ?_ | refine blk_alloc ?_ _));exact BK397.out⟩,⟨by repeat (first | (with_reducible first | exact HB.out | apply below_alloc | apply pw_below_drewN | apply below_drew1 | refine below_set ?_ GE379.out | refine below_set ?_ GE385.out | refine below_set ?_ GE391.out | refine below_set ?_ GE397.out) | exact HB.out)⟩⟩
        case rest =>
          clear HC12
          try clear c1
          try clear c2
          try clear p2
          try clear c3
          try clear c4
          try clear c4b0
          try clear c4b1
          try clear c5
          try clear c6
          try clear c7
          try clear c8
          try clear c10
          try clear c18
          try clear c22
          try clear c23
          try clear c27
          try clear c28
          try clear c29
          try clear c31
          try clear c31b0
          try clear c32
          try clear c33
          try clear c34
          try clear c36
          try clear c37
          try clear c39
          try clear c39b0
          try clear c39b1
          try clear c40
          try clear c40b0
          try clear c41
          try clear c42
          try clear c43
          try clear c44
          try clear c45
          try clear c46
          try clear c47
          try clear c48
          try clear c51
          try clear c51b0
          try clear c51b1
          try clear c55
          try clear c56
          try clear c57
          try clear c59
          try clear c60
          try clear c62
          try clear c69
          try clear c70
          try clear c71
          try clear c73
          try clear c74
          try clear c76
          try clear c79
          try clear c80
          try clear c81
          try clear c83
          try clear c84
          try clear hcz15_0
          try clear hcz15_1
          try clear hcz15_2
          try clear hcz15_3
          try clear hcz19_0
          try clear hcz19_1
          try clear hcz19_2
          try clear hcz19_3
          try clear hcz24_0
          try clear hcz24_1
          try clear hcz24_2
          try clear hcz24_3
          try clear hcz30_0
          try clear hcz30_1
          try clear hcz30_2
          try clear hcz30_3
          try clear hcz35_0
          try clear hcz35_1
          try clear hcz35_2
          try clear hcz35_3
          try clear hcz38_0
          try clear hcz38_1
          try clear hcz38_2
          try clear hcz38_3
          try clear hcz44_0
          try clear hcz44_1
          try clear hcz44_2
          try clear hcz44_3
          try clear hcz47_0
          try clear hcz47_1
          try clear hcz47_2
          try clear hcz47_3
          try clear hcz49_0
          try clear hcz49_1
          try clear hcz49_2
          try clear hcz49_3
          try clear hcz50_0
          try clear hcz50_1
          try clear hcz50_2
          try clear hcz50_3
          try clear hcz58_0
          try clear hcz58_1
          try clear hcz58_2
          try clear hcz58_3
          try clear hcz61_0
          try clear hcz61_1
          try clear hcz61_2
          try clear hcz61_3
          try clear hcz63_0
          try clear hcz63_1
          try clear hcz63_2
          try clear hcz63_3
          try clear hcz64_0
          try clear hcz64_1
          try clear hcz64_2
          try clear hcz64_3
          try clear hcz72_0
          try clear hcz72_1
          try clear hcz72_2
          try clear hcz72_3
          try clear hcz75_0
          try clear hcz75_1
          try clear hcz75_2
          try clear hcz75_3
          try clear hcz77_0
          try clear hcz77_1
          try clear hcz77_2
          try clear hcz77_3
          try clear hcz78_0
          try clear hcz78_1
          try clear hcz78_2
          try clear hcz78_3
          try clear hcz82_0
          try clear hcz82_1
          try clear hcz82_2
          try clear hcz82_3
          try clear hcz85_0
          try clear hcz85_1
          try clear hcz85_2
          try clear hcz85_3
          try clear hfz15_0
          try clear hfz15_1
          try clear hfz15_2
          try clear hfz15_3
          try clear hfz19_0
          try clear hfz19_1
          try clear hfz19_2
          try clear hfz19_3
          try clear hfz24_0
          try clear hfz24_1
          try clear hfz24_2
          try clear hfz24_3
          try clear hfz30_0
          try clear hfz30_1
          try clear hfz30_2
          try clear hfz30_3
          try clear hfz35_0
          try clear hfz35_1
          try clear hfz35_2
          try clear hfz35_3
          try clear hfz38_0
          try clear hfz38_1
          try clear hfz38_2
          try clear hfz38_3
          try clear hfz44_0
          try clear hfz44_1
          try clear hfz44_2
          try clear hfz44_3
          try clear hfz47_0
          try clear hfz47_1
          try clear hfz47_2
          try clear hfz47_3
          try clear hfz49_0
          try clear hfz49_1
          try clear hfz49_2
          try clear hfz49_3
          try clear hfz50_0
          try clear hfz50_1
          try clear hfz50_2
          try clear hfz50_3
          try clear hfz58_0
          try clear hfz58_1
          try clear hfz58_2
          try clear hfz58_3
          try clear hfz61_0
          try clear hfz61_1
          try clear hfz61_2
          try clear hfz61_3
          try clear hfz63_0
          try clear hfz63_1
          try clear hfz63_2
          try clear hfz63_3
          try clear hfz64_0
          try clear hfz64_1
          try clear hfz64_2
          try clear hfz64_3
          try clear hfz72_0
          try clear hfz72_1
          try clear hfz72_2
          try clear hfz72_3
          try clear hfz75_0
          try clear hfz75_1
          try clear hfz75_2
          try clear hfz75_3
          try clear hfz77_0
          try clear hfz77_1
          try clear hfz77_2
          try clear hfz77_3
          try clear hfz78_0
          try clear hfz78_1
          try clear hfz78_2
          try clear hfz78_3
          try clear hfz82_0
          try clear hfz82_1
          try clear hfz82_2
          try clear hfz82_3
          try clear hfz85_0
          try clear hfz85_1
          try clear hfz85_2
          try clear hfz85_3
          try clear p2
          obtain ⟨kq,x74_11,rfl,HA,HJ11,BK379,BK385,BK391,BK397,HB⟩ := hcut
          cases kq with
          | zero => exact absurd HA.out (by simp [verdererlaw28_QuotaTells.j1])
          | succ kj11 =>
            have H := HA.out
            clear HA
            simp only [verdererlaw28_QuotaTells.j1] at H
            by_cases c86 : x74_11 = true
            · subst c86
              have H1 : (none) = some r := by rw [if_pos rfl] at H;exact H
              clear H
              have H := H1
              clear H1
              exact absurd H (by simp)
            · replace c86 := Bool.eq_false_iff.mpr c86
              subst c86
              have H1 : (verdererlaw28_QuotaTells.l0 kj11 l1 0) = some r := by rw [if_neg (show ¬ (false = true) by decide)] at H;exact H
              clear H
              have H := H1
              clear H1
              have H' := Aside0.mk H
              clear H
              go_wp2
              go_loopg [13] kj11 (fun kq v13 w' => ∃ (x13_3 : Int),v13 = .int .i64 x13_3 ∧ Aside0 (verdererlaw28_QuotaTells.l0 kq l1 x13_3 = some r) ∧ Aside0 (kq ≤ kj11) ∧ Aside0 (w'.heap[gb379]? = some (.cells #[.string t374,.string t375,.int .i64 t376,.int .i64 t377] 45 (0,0))) ∧ Aside0 (w'.heap[gb385]? = some (.cells #[.string t380,.string t381,.int .i64 t382,.int .i64 t383] 45 (0,0))) ∧ Aside0 (w'.heap[gb391]? = some (.cells #[.string t386,.string t387,.int .i64 t388,.int .i64 t389] 45 (0,0))) ∧ Aside0 (w'.heap[gb397]? = some (.cells #[.string t392,.string t393,.int .i64 t394,.int .i64 t395] 45 (0,0))) ∧ Aside0 (Below w.heap.size w w'))
              case atStart => exact ⟨(0),(by first | rfl | (simp;done) | (simp [*];done)),H',⟨Nat.le_refl _⟩,⟨by (with_reducible repeat (first | refine blk_drewN ?_ _ | refine blk_drew ?_ | refine blk_alloc ?_ _));exact BK379.out⟩,⟨by (with_reducible repeat (first | refine blk_drewN ?_ _ | refine blk_drew ?_ | refine blk_alloc ?_ _));exact BK385.out⟩,⟨by (with_reducible repeat (first | refine blk_drewN ?_ _ | refine blk_drew ?_ | refine blk_alloc ?_ _));exact BK391.out⟩,⟨by (with_reducible repeat (first | refine blk_drewN ?_ _ | refine blk_drew ?_ | refine blk_alloc ?_ _));exact BK397.out⟩,⟨by repeat (first | (with_reducible first | exact HB.out | apply below_alloc | apply pw_below_drewN | apply below_drew1 | refine below_set ?_ GE379.out | refine below_set ?_ GE385.out | refine below_set ?_ GE391.out | refine below_set ?_ GE397.out) | exact HB.out)⟩⟩
              case round =>
                clear H'
                try clear c1
                try clear c2
                try clear p2
                try clear c3
                try clear c4
                try clear c4b0
                try clear c4b1
                try clear c5
                try clear c6
                try clear c7
                try clear c8
                try clear c10
                try clear c18
                try clear c22
                try clear c23
                try clear c27
                try clear c28
                try clear c29
                try clear c31
                try clear c31b0
                try clear c32
                try clear c33
                try clear c34
                try clear c36
                try clear c37
                try clear c39
                try clear c39b0
                try clear c39b1
                try clear c40
                try clear c40b0
                try clear c41
                try clear c42
                try clear c43
                try clear c44
                try clear c45
                try clear c46
                try clear c47
                try clear c48
                try clear c51
                try clear c51b0
                try clear c51b1
                try clear c55
                try clear c56
                try clear c57
                try clear c59
                try clear c60
                try clear c62
                try clear c69
                try clear c70
                try clear c71
                try clear c73
                try clear c74
                try clear c76
                try clear c79
                try clear c80
                try clear c81
                try clear c83
                try clear c84
                try clear c86
                try clear hcz15_0
                try clear hcz15_1
                try clear hcz15_2
                try clear hcz15_3
                try clear hcz19_0
                try clear hcz19_1
                try clear hcz19_2
                try clear hcz19_3
                try clear hcz24_0
                try clear hcz24_1
                try clear hcz24_2
                try clear hcz24_3
                try clear hcz30_0
                try clear hcz30_1
                try clear hcz30_2
                try clear hcz30_3
                try clear hcz35_0
                try clear hcz35_1
                try clear hcz35_2
                try clear hcz35_3
                try clear hcz38_0
                try clear hcz38_1
                try clear hcz38_2
                try clear hcz38_3
                try clear hcz44_0
                try clear hcz44_1
                try clear hcz44_2
                try clear hcz44_3
                try clear hcz47_0
                try clear hcz47_1
                try clear hcz47_2
                try clear hcz47_3
                try clear hcz49_0
                try clear hcz49_1
                try clear hcz49_2
                try clear hcz49_3
                try clear hcz50_0
                try clear hcz50_1
                try clear hcz50_2
                try clear hcz50_3
                try clear hcz58_0
                try clear hcz58_1
                try clear hcz58_2
                try clear hcz58_3
                try clear hcz61_0
                try clear hcz61_1
                try clear hcz61_2
                try clear hcz61_3
                try clear hcz63_0
                try clear hcz63_1
                try clear hcz63_2
                try clear hcz63_3
                try clear hcz64_0
                try clear hcz64_1
                try clear hcz64_2
                try clear hcz64_3
                try clear hcz72_0
                try clear hcz72_1
                try clear hcz72_2
                try clear hcz72_3
                try clear hcz75_0
                try clear hcz75_1
                try clear hcz75_2
                try clear hcz75_3
                try clear hcz77_0
                try clear hcz77_1
                try clear hcz77_2
                try clear hcz77_3
                try clear hcz78_0
                try clear hcz78_1
                try clear hcz78_2
                try clear hcz78_3
                try clear hcz82_0
                try clear hcz82_1
                try clear hcz82_2
                try clear hcz82_3
                try clear hcz85_0
                try clear hcz85_1
                try clear hcz85_2
                try clear hcz85_3
                try clear hfz15_0
                try clear hfz15_1
                try clear hfz15_2
                try clear hfz15_3
                try clear hfz19_0
                try clear hfz19_1
                try clear hfz19_2
                try clear hfz19_3
                try clear hfz24_0
                try clear hfz24_1
                try clear hfz24_2
                try clear hfz24_3
                try clear hfz30_0
                try clear hfz30_1
                try clear hfz30_2
                try clear hfz30_3
                try clear hfz35_0
                try clear hfz35_1
                try clear hfz35_2
                try clear hfz35_3
                try clear hfz38_0
                try clear hfz38_1
                try clear hfz38_2
                try clear hfz38_3
                try clear hfz44_0
                try clear hfz44_1
                try clear hfz44_2
                try clear hfz44_3
                try clear hfz47_0
                try clear hfz47_1
                try clear hfz47_2
                try clear hfz47_3
                try clear hfz49_0
                try clear hfz49_1
                try clear hfz49_2
                try clear hfz49_3
                try clear hfz50_0
                try clear hfz50_1
                try clear hfz50_2
                try clear hfz50_3
                try clear hfz58_0
                try clear hfz58_1
                try clear hfz58_2
                try clear hfz58_3
                try clear hfz61_0
                try clear hfz61_1
                try clear hfz61_2
                try clear hfz61_3
                try clear hfz63_0
                try clear hfz63_1
                try clear hfz63_2
                try clear hfz63_3
                try clear hfz64_0
                try clear hfz64_1
                try clear hfz64_2
                try clear hfz64_3
                try clear hfz72_0
                try clear hfz72_1
                try clear hfz72_2
                try clear hfz72_3
                try clear hfz75_0
                try clear hfz75_1
                try clear hfz75_2
                try clear hfz75_3
                try clear hfz77_0
                try clear hfz77_1
                try clear hfz77_2
                try clear hfz77_3
                try clear hfz78_0
                try clear hfz78_1
                try clear hfz78_2
                try clear hfz78_3
                try clear hfz82_0
                try clear hfz82_1
                try clear hfz82_2
                try clear hfz82_3
                try clear hfz85_0
                try clear hfz85_1
                try clear hfz85_2
                try clear hfz85_3
                try clear p2
                obtain ⟨x13_3,rfl,HA,HK3,BK379,BK385,BK391,BK397,HB⟩ := hrel
                cases gk with
                | zero => exact absurd HA.out (by simp [verdererlaw28_QuotaTells.l0])
                | succ k3 =>
                  have H := HA.out
                  clear HA
                  simp only [verdererlaw28_QuotaTells.l0] at H
                  by_cases c87 : x13_3 < (l1.length : Int)
                  · rw [if_pos c87] at H
                    have c87b0 : decide (x13_3 < (l1.length : Int)) = true := decide_eq_true c87
                    clear c87
                    by_cases c88 : 0 ≤ x13_3
                    · rw [if_pos c88] at H
                      have c88b0 : decide (0 ≤ x13_3) = true := decide_eq_true c88
                      clear c88
                      replace H := Option.bind_eq_some_iff.mp H
                      obtain ⟨⟨t407,t408⟩,A890,H⟩ := H
                      replace H : ((verdererref28_Room.f k3 ((rd_T45 l1 x13_3).f0) ((rd_T45 l1 x13_3).f1) ((rd_T45 l1 x13_3).f2) ((rd_T45 l1 x13_3).f3)).bind fun bt410 => (if t407 = bt410.1 then (if t408 = bt410.2 then (verdererlaw28_QuotaTells.l0 k3 l1 (wrap64 (x13_3 + 1))) else (none)) else (none))) = some r := H
                      have A89 := Aside0.mk A890
                      clear A890
                      replace H := Option.bind_eq_some_iff.mp H
                      obtain ⟨⟨t410,t411⟩,A900,H⟩ := H
                      replace H : (if t407 = t410 then (if t408 = t411 then (verdererlaw28_QuotaTells.l0 k3 l1 (wrap64 (x13_3 + 1))) else (none)) else (none)) = some r := H
                      have A90 := Aside0.mk A900
                      clear A900
                      by_cases c91 : t407 = t410
                      · rw [if_pos c91] at H
                        have c91b0 : (t407 == t410) = true := beq_iff_eq.mpr c91
                        have c91b1 : (t407 != t410) = false := bne_eq_false_iff_eq.mpr c91
                        clear c91
                        by_cases c92 : t408 = t411
                        · rw [if_pos c92] at H
                          have c92b0 : (t408 == t411) = true := beq_iff_eq.mpr c92
                          have c92b1 : (t408 != t411) = false := bne_eq_false_iff_eq.mpr c92
                          clear c92
                          have H' := Aside0.mk H
                          clear H
                          have p406 : 0 ≤ (x13_3 : Int) := of_decide_eq_true (by first | (with_reducible assumption) | assumption)
                          have q406 : x13_3 < (l1.length : Int) := of_decide_eq_true (by first | (with_reducible assumption) | assumption)
                          obtain ⟨ad406,e406,hx406_0,hx406_1,hx406_2,hx406_3⟩ := at_T45 HR1.out x13_3 p406 q406
                          cases e406
                          replace hx406_0 := (HB.out.cell (World.block_lt_of_cell? w _ hx406_0)).trans hx406_0
                          replace hx406_1 := (HB.out.cell (World.block_lt_of_cell? w _ hx406_1)).trans hx406_1
                          replace hx406_2 := (HB.out.cell (World.block_lt_of_cell? w _ hx406_2)).trans hx406_2
                          replace hx406_3 := (HB.out.cell (World.block_lt_of_cell? w _ hx406_3)).trans hx406_3
                          replace p406 := eq_true p406
                          replace q406 := eq_true q406
                          go_wp2_with (first | ((with_reducible refine gate_callee (f := 51) rfl ?_);refine goesL_ (some 86) rfl rfl Try.func51 (by kernel_rfl) rfl #[.agg #[.string ((rd_T45 l1 x13_3).f0),.string ((rd_T45 l1 x13_3).f1),.int .i64 ((rd_T45 l1 x13_3).f2),.int .i64 ((rd_T45 l1 x13_3).f3)]] rfl (by (try simp only [List.map_toArray,List.map_cons,List.map_nil]);first | done | rfl | (simp only [List.length_drop,List.length_take];rfl)) ?_;(with_reducible refine (quota_Room.calls ((rd_T45 l1 x13_3).f0) ((rd_T45 l1 x13_3).f1) ((rd_T45 l1 x13_3).f2) ((rd_T45 l1 x13_3).f3) t407 t408 _ A89.out).mono ?_);rintro e w93 ⟨rfl,hb⟩;refine ⟨_,rfl,?_⟩;have n0_ := Aside0.mk (blk_below (g := gb379) (o := .cells #[.string t374,.string t375,.int .i64 t376,.int .i64 t377] 45 (0,0)) (by (with_reducible repeat (first | refine blk_drewN ?_ _ | refine blk_drew ?_ | refine blk_alloc ?_ _));exact BK379.out) hb);have n1_ := Aside0.mk (blk_below (g := gb385) (o := .cells #[.string t380,.string t381,.int .i64 t382,.int .i64 t383] 45 (0,0)) (by (with_reducible repeat (first | refine blk_drewN ?_ _ | refine blk_drew ?_ | refine blk_alloc ?_ _));exact BK385.out) hb);have n2_ := Aside0.mk (blk_below (g := gb391) (o := .cells #[.string t386,.string t387,.int .i64 t388,.int .i64 t389] 45 (0,0)) (by (with_reducible repeat (first | refine blk_drewN ?_ _ | refine blk_drew ?_ | refine blk_alloc ?_ _));exact BK391.out) hb);have n3_ := Aside0.mk (blk_below (g := gb397) (o := .cells #[.string t392,.string t393,.int .i64 t394,.int .i64 t395] 45 (0,0)) (by (with_reducible repeat (first | refine blk_drewN ?_ _ | refine blk_drew ?_ | refine blk_alloc ?_ _));exact BK397.out) hb);have n4_ := Aside0.mk (below_step (by repeat (first | (with_reducible first | exact HB.out | apply below_alloc | apply pw_below_drewN | apply below_drew1 | refine below_set ?_ GE379.out | refine below_set ?_ GE385.out | refine below_set ?_ GE391.out | refine below_set ?_ GE397.out) | exact HB.out)) hb);clear BK379;clear BK385;clear BK391;clear BK397;clear HB;have BK379 := n0_;have BK385 := n1_;have BK391 := n2_;have BK397 := n3_;have HB := n4_;clear n0_ n1_ n2_ n3_ n4_;(try clear hb);(try clear hb2);(try clear hk);(try clear hi);have p409 : 0 ≤ (x13_3 : Int) := of_decide_eq_true (by first | (with_reducible assumption) | assumption);have q409 : x13_3 < (l1.length : Int) := of_decide_eq_true (by first | (with_reducible assumption) | assumption);obtain ⟨ad409,e409,hx409_0,hx409_1,hx409_2,hx409_3⟩ := at_T45 HR1.out x13_3 p409 q409;obtain rfl : ad406 = ad409 := (by injection e409);replace hx409_0 := (HB.out.cell (World.block_lt_of_cell? w _ hx409_0)).trans hx409_0;replace hx409_1 := (HB.out.cell (World.block_lt_of_cell? w _ hx409_1)).trans hx409_1;replace hx409_2 := (HB.out.cell (World.block_lt_of_cell? w _ hx409_2)).trans hx409_2;replace hx409_3 := (HB.out.cell (World.block_lt_of_cell? w _ hx409_3)).trans hx409_3;replace p409 := eq_true p409;replace q409 := eq_true q409) | ((with_reducible refine gate_callee (f := 52) rfl ?_);refine goesL_ (some 94) rfl rfl Try.func52 (by kernel_rfl) rfl #[.agg #[.string ((rd_T45 l1 x13_3).f0),.string ((rd_T45 l1 x13_3).f1),.int .i64 ((rd_T45 l1 x13_3).f2),.int .i64 ((rd_T45 l1 x13_3).f3)]] rfl (by (try simp only [List.map_toArray,List.map_cons,List.map_nil]);first | done | rfl | (simp only [List.length_drop,List.length_take];rfl)) ?_;(with_reducible refine (verdererref28_Room.calls k3 ((rd_T45 l1 x13_3).f0) ((rd_T45 l1 x13_3).f1) ((rd_T45 l1 x13_3).f2) ((rd_T45 l1 x13_3).f3) t410 t411 _ A90.out).mono ?_);rintro e w94 ⟨rfl,hb⟩;refine ⟨_,rfl,?_⟩;have n0_ := Aside0.mk (blk_below (g := gb379) (o := .cells #[.string t374,.string t375,.int .i64 t376,.int .i64 t377] 45 (0,0)) (by (with_reducible repeat (first | refine blk_drewN ?_ _ | refine blk_drew ?_ | refine blk_alloc ?_ _));exact BK379.out) hb);have n1_ := Aside0.mk (blk_below (g := gb385) (o := .cells #[.string t380,.string t381,.int .i64 t382,.int .i64 t383] 45 (0,0)) (by (with_reducible repeat (first | refine blk_drewN ?_ _ | refine blk_drew ?_ | refine blk_alloc ?_ _));exact BK385.out) hb);have n2_ := Aside0.mk (blk_below (g := gb391) (o := .cells #[.string t386,.string t387,.int .i64 t388,.int .i64 t389] 45 (0,0)) (by (with_reducible repeat (first | refine blk_drewN ?_ _ | refine blk_drew ?_ | refine blk_alloc ?_ _));exact BK391.out) hb);have n3_ := Aside0.mk (blk_below (g := gb397) (o := .cells #[.string t392,.string t393,.int .i64 t394,.int .i64 t395] 45 (0,0)) (by (with_reducible repeat (first | refine blk_drewN ?_ _ | refine blk_drew ?_ | refine blk_alloc ?_ _));exact BK397.out) hb);have n4_ := Aside0.mk (below_step (by repeat (first | (with_reducible first | exact HB.out | apply below_alloc | apply pw_below_drewN | apply below_drew1 | refine below_set ?_ GE379.out | refine below_set ?_ GE385.out | refine below_set ?_ GE391.out | refine below_set ?_ GE397.out) | exact HB.out)) hb);clear BK379;clear BK385;clear BK391;clear BK397;clear HB;have BK379 := n0_;have BK385 := n1_;have BK391 := n2_;have BK397 := n3_;have HB := n4_;clear n0_ n1_ n2_ n3_ n4_;(try clear hb);(try clear hb2);(try clear hk);(try clear hi)))
                          go_roundg k3
                          case measure => have := HJ2.out;have := HJ11.out;have := HK3.out;omega
                          case rel => exact ⟨(wrap64 (x13_3 + 1)),(by first | rfl | (simp;done) | (simp [*];done)),H',⟨by have := HJ2.out;have := HJ11.out;have := HK3.out;omega⟩,⟨by (with_reducible repeat (first | refine blk_drewN ?_ _ | refine blk_drew ?_ | refine blk_alloc ?_ _));exact BK379.out⟩,⟨by (with_reducible repeat (first | refine blk_drewN ?_ _ | refine blk_drew ?_ | refine blk_alloc ?_ _));exact BK385.out⟩,⟨by (with_reducible repeat (first | refine blk_drewN ?_ _ | refine blk_drew ?_ | refine blk_alloc ?_ _));exact BK391.out⟩,⟨by (with_reducible repeat (first | refine blk_drewN ?_ _ | refine blk_drew ?_ | refine blk_alloc ?_ _));exact BK397.out⟩,⟨by repeat (first | (with_reducible first | exact HB.out | apply below_alloc | apply pw_below_drewN | apply below_drew1 | refine below_set ?_ GE379.out | refine below_set ?_ GE385.out | refine below_set ?_ GE391.out | refine below_set ?_ GE397.out) | exact HB.out)⟩⟩
                        · rw [if_neg c92] at H
                          exact absurd H (by simp)
                      · rw [if_neg c91] at H
                        exact absurd H (by simp)
                    · rw [if_neg c88] at H
                      exact absurd H (by simp)
                  · rw [if_neg c87] at H
                    have c87b0 : decide (x13_3 < (l1.length : Int)) = false := decide_eq_false c87
                    clear c87
                    replace H := Option.bind_eq_some_iff.mp H
                    obtain ⟨t405,A950,H⟩ := H
                    replace H : (some t405) = some r := H
                    have A95 := Aside0.mk A950
                    clear A950
                    obtain rfl := Option.some.inj H
                    go_wp2_with (first | ((with_reducible refine gate_callee (f := 44) rfl ?_);refine goesL_ (some 105) rfl rfl Try.func44 (by kernel_rfl) rfl #[] rfl (by (try simp only [List.map_toArray,List.map_cons,List.map_nil]);first | done | rfl | (simp only [List.length_drop,List.length_take];rfl)) ?_;(with_reducible refine (verdererlaw28_known.calls k3  t405 _ A95.out).mono ?_);rintro e w96 ⟨rfl,hb⟩;refine ⟨_,rfl,?_⟩;have n0_ := Aside0.mk (blk_below (g := gb379) (o := .cells #[.string t374,.string t375,.int .i64 t376,.int .i64 t377] 45 (0,0)) (by (with_reducible repeat (first | refine blk_drewN ?_ _ | refine blk_drew ?_ | refine blk_alloc ?_ _));exact BK379.out) hb);have n1_ := Aside0.mk (blk_below (g := gb385) (o := .cells #[.string t380,.string t381,.int .i64 t382,.int .i64 t383] 45 (0,0)) (by (with_reducible repeat (first | refine blk_drewN ?_ _ | refine blk_drew ?_ | refine blk_alloc ?_ _));exact BK385.out) hb);have n2_ := Aside0.mk (blk_below (g := gb391) (o := .cells #[.string t386,.string t387,.int .i64 t388,.int .i64 t389] 45 (0,0)) (by (with_reducible repeat (first | refine blk_drewN ?_ _ | refine blk_drew ?_ | refine blk_alloc ?_ _));exact BK391.out) hb);have n3_ := Aside0.mk (blk_below (g := gb397) (o := .cells #[.string t392,.string t393,.int .i64 t394,.int .i64 t395] 45 (0,0)) (by (with_reducible repeat (first | refine blk_drewN ?_ _ | refine blk_drew ?_ | refine blk_alloc ?_ _));exact BK397.out) hb);have n4_ := Aside0.mk (below_step (by repeat (first | (with_reducible first | exact HB.out | apply below_alloc | apply pw_below_drewN | apply below_drew1 | refine below_set ?_ GE379.out | refine below_set ?_ GE385.out | refine below_set ?_ GE391.out | refine below_set ?_ GE397.out) | exact HB.out)) hb);clear BK379;clear BK385;clear BK391;clear BK397;clear HB;have BK379 := n0_;have BK385 := n1_;have BK391 := n2_;have BK397 := n3_;have HB := n4_;clear n0_ n1_ n2_ n3_ n4_;(try clear hb);(try clear hb2);(try clear hk);(try clear hi)))
                    go_ret
                    exact ⟨by first | rfl | (simp [errW_none,errW_some] <;> rfl) | (simp [*,errW_none,errW_some] <;> rfl),by repeat (first | (with_reducible first | exact HB.out | apply below_alloc | apply pw_below_drewN | apply below_drew1 | refine below_set ?_ GE379.out | refine below_set ?_ GE385.out | refine below_set ?_ GE391.out | refine below_set ?_ GE397.out) | exact HB.out)⟩
end Go.Proofs.Ytcenlehfbgnphaa.Z
end
section
namespace Go.Proofs.YtcenlehfbgnphaaW.PrintWords
open Go.RowKit Go.ChangeShapes Go.WideShapes
section
variable {P : Program} {α β : Type}
def OfTrod (P : Program) (t : TypeId) (d : Kd α) (G : α → Prop) : Prop :=
  ∀ (H : Type) (enc : TypeId × Value → H) (w : World) (base : Nat) (spare : Nat → Bool) (held : Bool) (fuel : Nat) (cs : List Value) (x : DataW H × List MemPlace),DataW.trod enc P w base spare held fuel t cs = some x → ∃ s,d.K w s cs ∧ G s
theorem ofTrod_int {t : TypeId} {k : IntKind} (ht : P.underlying t = some (.int k)) : OfTrod P t (Kd.int k) (fun n => (Lit.int k n).wf = true) := by
  intro H enc w base spare held fuel cs x h
  obtain ⟨n,rfl,_,hw⟩ := DataW.trod_int ht h
  exact ⟨n,rfl,hw⟩
theorem ofTrod_string {t : TypeId} (ht : P.underlying t = some .string) : OfTrod P t Kd.string (fun s => s.size ≤ maxLen) := by
  intro H enc w base spare held fuel cs x h
  obtain ⟨s,rfl,_,hs⟩ := DataW.trod_string ht h
  exact ⟨s,rfl,hs⟩
theorem list_of_all {n : Nat} {Q : Nat → α → Prop} (h : ∀ i,i < n → ∃ x,Q i x) : ∃ xs : List α,xs.length = n ∧ ∀ i x,xs[i]? = some x → Q i x := by
  induction n with
  | zero => exact ⟨[],rfl,fun i x hx => by simp at hx⟩
  | succ n ih =>
    obtain ⟨xs,hl,hx⟩ := ih (fun i hi => h i (by omega))
    obtain ⟨y,hy⟩ := h n (by omega)
    refine ⟨xs ++ [y],by simp [hl],fun i x hi => ?_⟩
    rcases Nat.lt_trichotomy i xs.length with hlt | rfl | hgt
    · rw [List.getElem?_append_left hlt] at hi
      exact hx i x hi
    · rw [List.getElem?_append_right (Nat.le_refl _)] at hi
      simp at hi
      subst hi
      rw [hl]
      exact hy
    · rw [List.getElem?_append_right (by omega),List.getElem?_eq_none (by simp;omega)] at hi
      cases hi
theorem ofTrod_slice {t e : TypeId} {d : Kd α} {G : α → Prop} (ht : P.underlying t = some (.slice e)) (hc : P.cellsOf e = d.sz) (h : OfTrod P e d G) :
    OfTrod P t (Kd.slice e d) (fun l => l.length ≤ maxLen ∧ ∀ x ∈ l,G x) := by
  intro H enc w base spare held fuel cs x hx
  rcases Go.Deep.open_slice ht hx with ⟨rfl,_⟩ | ⟨a,len,cap,m,n,D,Pl,rfl,_,hl,hm,hmm,_,hel⟩
  · exact ⟨[],⟨none,0,rfl,Nat.le_refl _,Kd.C_nil d w⟩,by simp,fun x hx => by simp at hx⟩
  · have hlm : len ≤ m := by rw [hmm];split <;> omega
    obtain ⟨xs,hxl,hxs⟩ := list_of_all (n := len) (Q := fun i s => ∃ cs',w.cells? base (a.add (i * P.cellsOf e)) (P.cellsOf e) = some cs' ∧ d.K w s cs' ∧ G s) (fun i hi => by
      obtain ⟨cs',h1,h2⟩ := hel i (by omega)
      obtain ⟨s,h3,h4⟩ := h _ _ _ _ _ _ _ _ _ h2
      exact ⟨s,cs',h1,h3,h4⟩)
    refine ⟨xs,⟨some a,cap,by rw [hxl],by omega,rfl,by rw [hxl];unfold maxLen at hm;omega,fun _ => ⟨a,rfl,fun j p hp => ?_⟩⟩,by omega,fun x hx => ?_⟩
    · obtain ⟨cs',h1,h2,_⟩ := hxs j p hp
      obtain ⟨_,hcl,hcell⟩ := World.cells?_some h1
      refine ⟨cs',by rw [hcl,hc],h2,fun i u hu => ?_⟩
      have hi : i < P.cellsOf e := by
        rw [← hcl]
        exact (List.getElem?_eq_some_iff.1 hu).1
      have := hcell i hi
      rw [Go.Deep.add_add,hc] at this
      rw [this]
      exact hu
    · obtain ⟨i,hi,rfl⟩ := List.getElem_of_mem hx
      obtain ⟨_,_,_,h4⟩ := hxs i xs[i] (List.getElem?_eq_getElem hi)
      exact h4
def segOff (segs : List (TypeId × Nat)) (i : Nat) : Nat := ((segs.take i).map (·.2)).sum
def OfSegs (P : Program) (segs : List (TypeId × Nat)) (d : Kd α) (G : α → Prop) : Prop :=
  ∀ (H : Type) (enc : TypeId × Value → H) (w : World) (base : Nat) (spare : Nat → Bool) (held : Bool) (fuel : Nat) (cs : List Value),cs.length = segOff segs segs.length →
    (∀ i t c,segs[i]? = some (t,c) → ∃ x,DataW.trod enc P w base spare held fuel t ((cs.drop (segOff segs i)).take c) = some x) → ∃ s,d.K w s cs ∧ G s
theorem ofSegs_one {t : TypeId} {c : Nat} {d : Kd α} {G : α → Prop} (h : OfTrod P t d G) : OfSegs P [(t,c)] d G := by
  intro H enc w base spare held fuel cs hl hx
  obtain ⟨x,h1⟩ := hx 0 t c rfl
  have hl2 : cs.length = c := by simpa [segOff] using hl
  have e : ((cs.drop (segOff [(t,c)] 0)).take c) = cs := by simp [segOff,← hl2]
  rw [e] at h1
  exact h _ _ _ _ _ _ _ _ _ h1
theorem ofSegs_cons {t : TypeId} {c : Nat} {ts : List (TypeId × Nat)} {d : Kd α} {d' : Kd β} {G : α → Prop} {G' : β → Prop} (h : OfTrod P t d G) (h' : OfSegs P ts d' G') : OfSegs P ((t,c) :: ts) (Kd.pair d d') (fun x => G x.1 ∧ G' x.2) := by
  intro H enc w base spare held fuel cs hl hx
  obtain ⟨x,h1⟩ := hx 0 t c rfl
  have e : ((cs.drop (segOff ((t,c) :: ts) 0)).take c) = cs.take c := by simp [segOff]
  rw [e] at h1
  obtain ⟨s,h2,h3⟩ := h _ _ _ _ _ _ _ _ _ h1
  have hl' : (cs.drop c).length = segOff ts ts.length := by
    simp [segOff] at hl ⊢
    omega
  obtain ⟨s',h4,h5⟩ := h' H enc w base spare held fuel (cs.drop c) hl' (fun i t' c' hi => by
    obtain ⟨y,hy⟩ := hx (i + 1) t' c' (by simpa using hi)
    refine ⟨y,?_⟩
    have e2 : segOff ((t,c) :: ts) (i + 1) = c + segOff ts i := by simp [segOff]
    rw [e2] at hy
    rw [List.drop_drop]
    exact hy)
  exact ⟨(s,s'),⟨cs.take c,cs.drop c,(List.take_append_drop c cs).symm,h2,h4⟩,h3,h5⟩
theorem ofTrod_struct {t : TypeId} {fs : Array Field} {segs : List (TypeId × Nat)} {d : Kd α} {G : α → Prop} (ht : P.underlying t = some (.struct fs)) (hc : P.cellsOf t = segOff segs segs.length) (hn : fs.size = segs.length)
    (hfs : ∀ i (f : Field),fs[i]? = some f → segs[i]? = some (f.type,P.cellsOf f.type) ∧ f.offset = segOff segs i) (h : OfSegs P segs d G) : OfTrod P t d G := by
  intro H enc w base spare held fuel cs x hx
  obtain ⟨xs,n,_,_,hl,hxl,hf⟩ := DataW.trod_struct ht hx
  refine h H enc w base spare held n cs (by rw [hl,hc]) (fun i t' c' hi => ?_)
  have hlt : i < fs.size := by rw [hn];exact (List.getElem?_eq_some_iff.1 hi).1
  obtain ⟨h1,h2⟩ := hfs i fs[i] (Array.getElem?_eq_getElem hlt)
  rw [hi] at h1
  injection h1 with h1
  injection h1 with h1 h3
  have h4 := hf i fs[i] (Array.getElem?_eq_getElem hlt)
  rw [h2,← h3,← h1] at h4
  have hlt2 : i < xs.length := by omega
  rw [List.getElem?_eq_getElem hlt2] at h4
  exact ⟨_,h4⟩
theorem ofTrod_iso {t : TypeId} {d : Kd α} {G : α → Prop} (f : β → α) (g : α → β) (hg : ∀ a,f (g a) = a) (h : OfTrod P t d G) : OfTrod P t (Kd.iso d f) (fun x => G (f x)) := by
  intro H enc w base spare held fuel cs x hx
  obtain ⟨s,h1,h2⟩ := h _ _ _ _ _ _ _ _ _ hx
  exact ⟨g s,by show d.K w (f (g s)) cs;rw [hg];exact h1,by show G (f (g s));rw [hg];exact h2⟩
theorem cell_heap {w w' : World} (h : w.heap = w'.heap) (a : Addr) : w'.cell? a = w.cell? a := by unfold World.cell?;rw [h]
end
end Go.Proofs.YtcenlehfbgnphaaW.PrintWords
end
section
namespace Go.Proofs.Ytcenlehfbgnphaa.Z
open Go.RowKit Go.Proofs.YtcenlehfbgnphaaW.PrintWords Go.Proofs.YtcenlehfbgnphaaW.PrintLast Go.Proofs.YtcenlehfbgnphaaW.PrintMore
set_option maxRecDepth 100000
def G45 (x : S45) : Prop := (x.f0.size ≤ maxLen) ∧ (x.f1.size ≤ maxLen) ∧ ((Lit.int .i64 x.f2).wf = true) ∧ ((Lit.int .i64 x.f3).wf = true)
theorem of45 : OfTrod Try.prog 45 k45 G45 :=
  ofTrod_iso _ (fun a => (⟨a.1,a.2.1,a.2.2.1,a.2.2.2⟩ : S45)) (fun _ => rfl) (ofTrod_struct (segs := [(9,1),(9,1),(2,1),(2,1)]) Try.underlying45 (by kernel_rfl) rfl
    (by
      intro i f hf
      rcases i with _ | _ | _ | _ | i <;> simp at hf <;> subst hf <;> exact ⟨congrArg some (Prod.ext rfl (by kernel_rfl)),rfl⟩) (ofSegs_cons (ofTrod_string Try.underlying9) (ofSegs_cons (ofTrod_string Try.underlying9) (ofSegs_cons (ofTrod_int Try.underlying2) (ofSegs_one (ofTrod_int Try.underlying2))))))
end Go.Proofs.Ytcenlehfbgnphaa.Z
end
section
namespace Go.Proofs.Ytcenlehfbgnphaa.Z
set_option linter.unusedVariables false
set_option linter.unusedSimpArgs false
open Go.RowKit Go.Proofs.YtcenlehfbgnphaaW.PrintWords Go.Proofs.YtcenlehfbgnphaaW.PrintLast Go.Proofs.YtcenlehfbgnphaaW.PrintMore
theorem wrap_nx {i n : Nat} (h : i < n) (hn : n ≤ 1000000) : wrap64 ((i : Int) + 1) = ((i + 1 : Nat) : Int) := by unfold wrap64;omega
def overB (u : S45) : Bool := decide (u.f2 > u.f3)
theorem over_l0 (l : List S45) (hl : l.length ≤ 1000000) : ∀ m (i : Nat) acc k,i + m = l.length → acc.length ≤ i → m < k → quota_Over.l0 k acc l (l.length : Int) (i : Int) = some (acc ++ (l.drop i).filter overB) := by
  intro m
  induction m with
  | zero =>
    intro i acc k hi ha hk
    obtain ⟨k,rfl⟩ : ∃ m,k = m + 1 := ⟨k - 1,by omega⟩
    simp only [quota_Over.l0]
    rw [if_neg (by omega),List.drop_eq_nil_of_le (by omega)]
    simp
  | succ m ih =>
    intro i acc k hi ha hk
    obtain ⟨k,rfl⟩ : ∃ m,k = m + 1 := ⟨k - 1,by omega⟩
    have h : i < l.length := by omega
    simp only [quota_Over.l0,quota_over.f]
    rw [if_pos (by omega),if_pos (by omega),if_pos (by omega),Option.bind_some,rd_get l i h,wrap_nx h hl,List.drop_eq_getElem_cons h,List.filter_cons]
    by_cases c : l[i].f2 > l[i].f3
    · rw [if_pos (decide_eq_true c),if_pos (show overB l[i] = true from decide_eq_true c),if_pos (by omega),ih (i + 1) _ k (by omega) (by simp;omega) (by omega)]
      simp
    · rw [if_neg (by rw [decide_eq_true_eq];exact c),if_neg (show ¬ overB l[i] = true by unfold overB;rw [decide_eq_true_eq];exact c),ih (i + 1) _ k (by omega) (by omega) (by omega)]
theorem over_f (l : List S45) (hl : l.length ≤ 1000000) (k : Nat) (hk : l.length < k) : quota_Over.f k l = some (l.filter overB) := by
  unfold quota_Over.f
  have := over_l0 l hl l.length 0 [] k (by omega) (by simp) hk
  rw [show ((0 : Nat) : Int) = 0 from rfl] at this
  rw [this];simp
theorem rover_l0 (l : List S45) (hl : l.length ≤ 1000000) : ∀ m (i : Nat) acc k,i + m = l.length → acc.length ≤ i → m < k → verdererref28_Over.l0 k l acc (i : Int) = some (acc ++ (l.drop i).filter overB) := by
  intro m
  induction m with
  | zero =>
    intro i acc k hi ha hk
    obtain ⟨k,rfl⟩ : ∃ m,k = m + 1 := ⟨k - 1,by omega⟩
    simp only [verdererref28_Over.l0]
    rw [if_neg (by omega),List.drop_eq_nil_of_le (by omega)]
    simp
  | succ m ih =>
    intro i acc k hi ha hk
    obtain ⟨k,rfl⟩ : ∃ m,k = m + 1 := ⟨k - 1,by omega⟩
    have h : i < l.length := by omega
    simp only [verdererref28_Over.l0]
    rw [if_pos (by omega),if_pos (by omega),rd_get l i h,wrap_nx h hl,List.drop_eq_getElem_cons h,List.filter_cons]
    by_cases c : l[i].f2 > l[i].f3
    · rw [if_pos c,if_pos (show overB l[i] = true from decide_eq_true c),if_pos (by omega),ih (i + 1) _ k (by omega) (by simp;omega) (by omega)]
      simp
    · rw [if_neg c,if_neg (show ¬ overB l[i] = true by unfold overB;rw [decide_eq_true_eq];exact c),ih (i + 1) _ k (by omega) (by omega) (by omega)]
theorem rover_f (l : List S45) (hl : l.length ≤ 1000000) (k : Nat) (hk : l.length < k) : verdererref28_Over.f k l = some (l.filter overB) := by
  unfold verdererref28_Over.f
  have := rover_l0 l hl l.length 0 [] k (by omega) (by simp) hk
  rw [show ((0 : Nat) : Int) = 0 from rfl] at this
  rw [this];simp
theorem rfind_l0 (a0 a1 : ByteArray) (l : List S45) (hl : l.length ≤ 1000000) : ∀ m (i : Nat) k,i + m = l.length → m < k → verdererref27_Find.l0 k a0 a1 l (i : Int) = some (useOf ((l.drop i).find? (hitB a0 a1))) := by
  intro m
  induction m with
  | zero =>
    intro i k hi hk
    obtain ⟨k,rfl⟩ : ∃ m,k = m + 1 := ⟨k - 1,by omega⟩
    simp only [verdererref27_Find.l0]
    rw [if_neg (by omega),List.drop_eq_nil_of_le (by omega)]
    rfl
  | succ m ih =>
    intro i k hi hk
    obtain ⟨k,rfl⟩ : ∃ m,k = m + 1 := ⟨k - 1,by omega⟩
    have h : i < l.length := by omega
    simp only [verdererref27_Find.l0]
    rw [if_pos (by omega),if_pos (by omega),rd_get l i h,wrap_nx h hl,List.drop_eq_getElem_cons h,List.find?_cons]
    by_cases c0 : l[i].f0.toList = a0.toList
    · by_cases c1 : l[i].f1.toList = a1.toList
      · rw [if_pos c0,if_pos c1,show hitB a0 a1 l[i] = true by unfold hitB;simp [c0,c1]]
        rfl
      · rw [if_pos c0,if_neg c1,ih (i + 1) k (by omega) (by omega),show hitB a0 a1 l[i] = false by unfold hitB;simp [c1]]
    · rw [if_neg c0,ih (i + 1) k (by omega) (by omega),show hitB a0 a1 l[i] = false by unfold hitB;simp [c0]]
theorem rfind_f (a0 a1 : ByteArray) (l : List S45) (hl : l.length ≤ 1000000) (k : Nat) (hk : l.length < k) : verdererref27_Find.f k a0 a1 l = some (useOf (l.find? (hitB a0 a1))) := by
  unfold verdererref27_Find.f
  exact rfind_l0 a0 a1 l hl l.length 0 k (by omega) hk
theorem find_f (a0 a1 : ByteArray) (l : List S45) (hl : l.length ≤ 1000000) : usage_Find.f a0 a1 l = some (useOf (l.find? (hitB a0 a1))) := if_pos hl
def badB (was : List S45) (u : S45) : Bool := !(useOf (was.find? (hitB u.f0 u.f1))).2.2.2.2 || decide ((useOf (was.find? (hitB u.f0 u.f1))).2.2.1 ≤ u.f3) || decide ((useOf (was.find? (hitB u.f0 u.f1))).2.2.1 < u.f2)
def judgeOf (o : Option S45) : ByteArray × ByteArray × Int × Int × Int := match o with
  | some u => (u.f0,u.f1,u.f2,u.f3,16)
  | none => ((⟨#[]⟩ : ByteArray),(⟨#[]⟩ : ByteArray),0,0,0)
theorem judge_l0 (was l : List S45) (hw : was.length ≤ 1000000) (hl : l.length ≤ 1000000) : ∀ m (i : Nat) k,i + m = l.length → m < k → quota_Judge.l0 k was l (l.length : Int) (i : Int) = some (judgeOf ((l.drop i).find? (badB was))) := by
  intro m
  induction m with
  | zero =>
    intro i k hi hk
    obtain ⟨k,rfl⟩ : ∃ m,k = m + 1 := ⟨k - 1,by omega⟩
    simp only [quota_Judge.l0]
    rw [if_neg (by omega),List.drop_eq_nil_of_le (by omega)]
    rfl
  | succ m ih =>
    intro i k hi hk
    obtain ⟨k,rfl⟩ : ∃ m,k = m + 1 := ⟨k - 1,by omega⟩
    have h : i < l.length := by omega
    simp only [quota_Judge.l0]
    rw [if_pos (by omega),if_pos (by omega),if_pos (by omega),rd_get l i h,wrap_nx h hl,List.drop_eq_getElem_cons h,List.find?_cons,find_f _ _ _ hw,Option.bind_some,ih (i + 1) k (by omega) (by omega)]
    generalize hb : badB was l[i] = b
    unfold badB at hb
    generalize useOf (was.find? (hitB l[i].f0 l[i].f1)) = x at *
    by_cases c0 : x.2.2.2.2 = true
    · rw [if_pos c0]
      by_cases c1 : x.2.2.1 ≤ l[i].f3
      · rw [if_pos c1,← hb,c0,decide_eq_true c1];rfl
      · rw [if_neg c1]
        by_cases c2 : x.2.2.1 < l[i].f2
        · rw [if_pos c2,← hb,c0,decide_eq_true c2];simp [judgeOf]
        · rw [if_neg c2,← hb,c0,decide_eq_false c1,decide_eq_false c2];rfl
    · rw [if_neg c0,← hb,show x.2.2.2.2 = false by simpa using c0];rfl
theorem judge_f (was now : List S45) (hw : was.length ≤ 1000000) (hl : now.length ≤ 1000000) (k : Nat) (hk : now.length < k) : quota_Judge.f k was now = some (judgeOf ((now.filter overB).find? (badB was))) := by
  unfold quota_Judge.f
  rw [over_f now hl k hk,Option.bind_some]
  have hf := List.length_filter_le overB now
  exact judge_l0 was (now.filter overB) hw (by omega) (now.filter overB).length 0 k (by omega) (by omega)
theorem rjudge_l0 (was l : List S45) (hw : was.length ≤ 1000000) (hl : l.length ≤ 1000000) : ∀ m (i : Nat) k,i + m = l.length → m + was.length + 1 < k → verdererref28_Judge.l0 k was l (i : Int) = some (judgeOf ((l.drop i).find? (badB was))) := by
  intro m
  induction m with
  | zero =>
    intro i k hi hk
    obtain ⟨k,rfl⟩ : ∃ m,k = m + 1 := ⟨k - 1,by omega⟩
    simp only [verdererref28_Judge.l0]
    rw [if_neg (by omega),List.drop_eq_nil_of_le (by omega)]
    rfl
  | succ m ih =>
    intro i k hi hk
    obtain ⟨k,rfl⟩ : ∃ m,k = m + 1 := ⟨k - 1,by omega⟩
    have h : i < l.length := by omega
    simp only [verdererref28_Judge.l0]
    rw [if_pos (by omega),if_pos (by omega),rd_get l i h,wrap_nx h hl,List.drop_eq_getElem_cons h,List.find?_cons,rfind_f _ _ _ hw k (by omega),Option.bind_some,ih (i + 1) k (by omega) (by omega)]
    generalize hb : badB was l[i] = b
    unfold badB at hb
    generalize useOf (was.find? (hitB l[i].f0 l[i].f1)) = x at *
    by_cases c0 : x.2.2.2.2 = true
    · rw [if_pos c0]
      by_cases c1 : x.2.2.1 ≤ l[i].f3
      · rw [if_pos c1,← hb,c0,decide_eq_true c1];rfl
      · rw [if_neg c1]
        by_cases c2 : x.2.2.1 < l[i].f2
        · rw [if_pos c2,← hb,c0,decide_eq_true c2];simp [judgeOf]
        · rw [if_neg c2,← hb,c0,decide_eq_false c1,decide_eq_false c2];rfl
    · rw [if_neg c0,← hb,show x.2.2.2.2 = false by simpa using c0];rfl
theorem rjudge_f (was now : List S45) (hw : was.length ≤ 1000000) (hl : now.length ≤ 1000000) (k : Nat) (hk : now.length + was.length + 1 < k) : verdererref28_Judge.f k was now = some (judgeOf ((now.filter overB).find? (badB was))) := by
  unfold verdererref28_Judge.f
  rw [rover_f now hl k (by omega),Option.bind_some]
  have hf := List.length_filter_le overB now
  exact rjudge_l0 was (now.filter overB) hw (by omega) (now.filter overB).length 0 k (by omega) (by omega)
theorem same_l0 (l : List S45) (hl : l.length ≤ 1000000) : ∀ m (i : Nat) k,i + m = l.length → m < k → verdererref27_Same.l0 k l l (i : Int) = some true := by
  intro m
  induction m with
  | zero =>
    intro i k hi hk
    obtain ⟨k,rfl⟩ : ∃ m,k = m + 1 := ⟨k - 1,by omega⟩
    simp only [verdererref27_Same.l0]
    rw [if_neg (by omega)]
  | succ m ih =>
    intro i k hi hk
    obtain ⟨k,rfl⟩ : ∃ m,k = m + 1 := ⟨k - 1,by omega⟩
    have h : i < l.length := by omega
    simp only [verdererref27_Same.l0]
    rw [if_pos (by omega),if_pos (by omega),if_pos (by omega),if_neg (by simp),wrap_nx h hl,ih (i + 1) k (by omega) (by omega)]
theorem same_f (l : List S45) (hl : l.length ≤ 1000000) (k : Nat) (hk : l.length < k) : verdererref27_Same.f k l l = some true := by
  unfold verdererref27_Same.f
  rw [if_pos rfl]
  exact same_l0 l hl l.length 0 k (by omega) hk
end Go.Proofs.Ytcenlehfbgnphaa.Z
end
section
namespace Go.Proofs.Ytcenlehfbgnphaa.Z
open Go.RowKit Go.Proofs.YtcenlehfbgnphaaW.PrintWords Go.Proofs.YtcenlehfbgnphaaW.PrintLast Go.Proofs.YtcenlehfbgnphaaW.PrintMore
attribute [local go_sem] max2_int min2_int max_two min_two max_three min_three max_four min_four
set_option linter.unusedVariables false
set_option linter.unusedSimpArgs false
def verdererref03_Mul.f (k : Nat) (a0 : Int) (a1 : Int) : Option (Int × Int) := (verdererref03_Times.f k a0 a1).bind fun bt201 => ((verdererref03_Big_Value.f k bt201.1 bt201.2).bind fun bt205 => (some (bt205.1,bt205.2)))
theorem verdererref03_Mul.mono : ∀ a0 a1 k,LeO (verdererref03_Mul.f k a0 a1) (verdererref03_Mul.f (k + 1) a0 a1) := by
  intro a0 a1 k
  unfold verdererref03_Mul.f
  repeat' first
      | (with_reducible exact verdererref03_Big_Value.mono _ _ _)
      | (with_reducible exact verdererref03_Times.mono _ _ _)
      | (with_reducible exact LeO.refl _)
      | (with_reducible exact LeO.none _)
      | (with_reducible refine LeO.ite ?_ ?_)
      | (with_reducible refine LeO.bind ?_ (fun _ => ?_))
      | exact verdererref03_Big_Value.mono _ _ _
      | exact verdererref03_Times.mono _ _ _
      | exact LeO.none _
      | refine LeO.ite ?_ ?_
      | refine LeO.bind ?_ (fun _ => ?_)
set_option maxHeartbeats 8000000 in
set_option maxRecDepth 100000 in
theorem verdererref03_Mul.calls (k : Nat) (a0 : Int) (a1 : Int) (r1 : Int) (r2 : Int) (w : World) (h : verdererref03_Mul.f k a0 a1 = some (r1,r2)) :
    Calls Try.prog 28 #[.int .i64 a0,.int .i64 a1] w fun e w' => e = .returned (.tuple #[.int .i64 r1,.int .i64 r2]) ∧ Below w.heap.size w w' := by
  have HB := Aside0.mk (Below.refl w.heap.size w)
  have H : ((verdererref03_Times.f k a0 a1).bind fun bt201 => ((verdererref03_Big_Value.f k bt201.1 bt201.2).bind fun bt205 => (some (bt205.1,bt205.2)))) = some (r1,r2) := h
  clear h
  replace H := Option.bind_eq_some_iff.mp H
  obtain ⟨⟨t201,t202⟩,A30,H⟩ := H
  replace H : ((verdererref03_Big_Value.f k t201 t202).bind fun bt205 => (some (bt205.1,bt205.2))) = some (r1,r2) := H
  have A3 := Aside0.mk A30
  clear A30
  replace H := Option.bind_eq_some_iff.mp H
  obtain ⟨⟨t205,t206⟩,A40,H⟩ := H
  replace H : (some (t205,t206)) = some (r1,r2) := H
  have A4 := Aside0.mk A40
  clear A40
  simp only [Option.some.injEq,Prod.mk.injEq] at H
  obtain ⟨rfl,rfl⟩ := H
  go_enter Try.func28,Try.ntmps28
  go_wp2_with (first | ((with_reducible refine gate_callee (f := 17) rfl ?_);refine goesL_ (some 8) rfl rfl Try.func17 (by kernel_rfl) rfl #[.int .i64 a0,.int .i64 a1] rfl (by (try simp only [List.map_toArray,List.map_cons,List.map_nil]);first | done | rfl | (simp only [List.length_drop,List.length_take];rfl)) ?_;(with_reducible refine (verdererref03_Times.calls k a0 a1 t201 t202 _ A3.out).mono ?_);rintro e w5 ⟨v203,rfl,ho0,hb⟩;refine ⟨_,rfl,?_⟩;have n0_ := Aside0.mk (Kd.R_lower ho0 (below_size (by repeat (first | (with_reducible first | exact HB.out | apply below_alloc | apply pw_below_drewN | apply below_drew1) | exact HB.out))));have n1_ := Aside0.mk (below_step (by repeat (first | (with_reducible first | exact HB.out | apply below_alloc | apply pw_below_drewN | apply below_drew1) | exact HB.out)) hb);clear HB;have HO204 := n0_;have HB := n1_;clear n0_ n1_;(try clear hb);(try clear hb2);(try clear hk);(try clear hi);(try clear ho0);obtain ⟨Ao6,co6,eo6⟩ := Kd.R_slice HO204.out;subst eo6) | ((with_reducible refine gate_callee (f := 19) rfl ?_);refine goesL_ (some 9) rfl rfl Try.func19 (by kernel_rfl) rfl #[.agg #[.bool t201,.slice Ao6 t202.length co6]] rfl (by (try simp only [List.map_toArray,List.map_cons,List.map_nil]);first | done | rfl | (simp only [List.length_drop,List.length_take];rfl)) ?_;(with_reducible refine (verdererref03_Big_Value.calls k t201 _ _ t202 t205 t206 _ ?side1 ?side2 A4.out).mono ?_);(case side1 => repeat (first | exact (Kd.R_reads' HO204.out).2.2 | (with_reducible refine Kd.C_alloc ?_ _) | (with_reducible refine Kd.C_drewN ?_ _) | (with_reducible refine Kd.C_drew ?_)));(case side2 => exact (Kd.R_reads' HO204.out).2.1);rintro e w7 ⟨rfl,hb⟩;refine ⟨_,rfl,?_⟩;have n0_ := Aside0.mk (Kd.R_below (by (with_reducible repeat (first | apply Kd.R_alloc | apply Kd.R_drewN | apply Kd.R_drew));exact HO204.out) hb);have n1_ := Aside0.mk (below_step (by repeat (first | (with_reducible first | exact HB.out | apply below_alloc | apply pw_below_drewN | apply below_drew1) | exact HB.out)) hb);clear HO204;clear HB;have HO204 := n0_;have HB := n1_;clear n0_ n1_;(try clear hb);(try clear hb2);(try clear hk);(try clear hi)))
  go_ret2
  exact ⟨by first | rfl | (simp [errW_none,errW_some] <;> rfl) | (simp [*,errW_none,errW_some] <;> rfl),by repeat (first | (with_reducible first | exact HB.out | apply below_alloc | apply pw_below_drewN | apply below_drew1) | exact HB.out)⟩
end Go.Proofs.Ytcenlehfbgnphaa.Z
end
section
namespace Go.Proofs.Ytcenlehfbgnphaa.Z
open Go.RowKit Go.Proofs.YtcenlehfbgnphaaW.PrintWords Go.Proofs.YtcenlehfbgnphaaW.PrintLast Go.Proofs.YtcenlehfbgnphaaW.PrintMore
attribute [local go_sem] max2_int min2_int max_two min_two max_three min_three max_four min_four
set_option linter.unusedVariables false
set_option linter.unusedSimpArgs false
def bits_Mul64.f (a0 : Int) (a1 : Int) : Option (Int × Int) := some (IntKind.u64.wrap ((IntKind.u64.wrap ((IntKind.u64.wrap ((a0 / 4294967296) * (a1 / 4294967296))) + ((IntKind.u64.wrap ((IntKind.u64.wrap ((a0 / 4294967296) * (Go.bits .and .u64 a1 4294967295))) + ((IntKind.u64.wrap ((Go.bits .and .u64 a0 4294967295) * (Go.bits .and .u64 a1 4294967295))) / 4294967296))) / 4294967296))) + ((IntKind.u64.wrap ((Go.bits .and .u64 (IntKind.u64.wrap ((IntKind.u64.wrap ((a0 / 4294967296) * (Go.bits .and .u64 a1 4294967295))) + ((IntKind.u64.wrap ((Go.bits .and .u64 a0 4294967295) * (Go.bits .and .u64 a1 4294967295))) / 4294967296))) 4294967295) + (IntKind.u64.wrap ((Go.bits .and .u64 a0 4294967295) * (a1 / 4294967296))))) / 4294967296)),IntKind.u64.wrap (a0 * a1))
set_option maxHeartbeats 8000000 in
set_option maxRecDepth 100000 in
theorem bits_Mul64.calls (a0 : Int) (a1 : Int) (r1 : Int) (r2 : Int) (w : World) (h : bits_Mul64.f a0 a1 = some (r1,r2)) :
    Calls Try.prog 63 #[.int .u64 a0,.int .u64 a1] w fun e w' => e = .returned (.tuple #[.int .u64 r1,.int .u64 r2]) ∧ Drawn0 w w' := by
  have H : (some (IntKind.u64.wrap ((IntKind.u64.wrap ((IntKind.u64.wrap ((a0 / 4294967296) * (a1 / 4294967296))) + ((IntKind.u64.wrap ((IntKind.u64.wrap ((a0 / 4294967296) * (Go.bits .and .u64 a1 4294967295))) + ((IntKind.u64.wrap ((Go.bits .and .u64 a0 4294967295) * (Go.bits .and .u64 a1 4294967295))) / 4294967296))) / 4294967296))) + ((IntKind.u64.wrap ((Go.bits .and .u64 (IntKind.u64.wrap ((IntKind.u64.wrap ((a0 / 4294967296) * (Go.bits .and .u64 a1 4294967295))) + ((IntKind.u64.wrap ((Go.bits .and .u64 a0 4294967295) * (Go.bits .and .u64 a1 4294967295))) / 4294967296))) 4294967295) + (IntKind.u64.wrap ((Go.bits .and .u64 a0 4294967295) * (a1 / 4294967296))))) / 4294967296)),IntKind.u64.wrap (a0 * a1))) = some (r1,r2) := h
  clear h
  simp only [Option.some.injEq,Prod.mk.injEq] at H
  obtain ⟨rfl,rfl⟩ := H
  go_enter Try.func63,Try.ntmps63
  go_wp2
  go_ret2
  exact ⟨by first | rfl | (simp;done) | (simp [*];done),by repeat (first | exact Drawn0.refl _ | apply Drawn0.step)⟩
end Go.Proofs.Ytcenlehfbgnphaa.Z
end
section
namespace Go.Proofs.Ytcenlehfbgnphaa.Z
open Go.RowKit Go.Proofs.YtcenlehfbgnphaaW.PrintWords Go.Proofs.YtcenlehfbgnphaaW.PrintLast Go.Proofs.YtcenlehfbgnphaaW.PrintMore
attribute [local go_sem] max2_int min2_int max_two min_two max_three min_three max_four min_four
set_option linter.unusedVariables false
set_option linter.unusedSimpArgs false
def safe_size.f (a0 : Int) : Option (Int) := if a0 < 0 then (some (IntKind.u64.wrap (-(IntKind.u64.wrap (a0))))) else (some (IntKind.u64.wrap (a0)))
set_option maxHeartbeats 8000000 in
set_option maxRecDepth 100000 in
theorem safe_size.calls (a0 : Int) (r : Int) (w : World) (h : safe_size.f a0 = some r) :
    Calls Try.prog 64 #[.int .i64 a0] w fun e w' => e = .returned (.int .u64 r) ∧ Drawn0 w w' := by
  have H : (if a0 < 0 then (some (IntKind.u64.wrap (-(IntKind.u64.wrap (a0))))) else (some (IntKind.u64.wrap (a0)))) = some r := h
  clear h
  by_cases c2 : a0 < 0
  · rw [if_pos c2] at H
    have c2b0 : decide (a0 < 0) = true := decide_eq_true c2
    clear c2
    obtain rfl := Option.some.inj H
    go_enter Try.func64,Try.ntmps64
    go_wp2
    go_ret
    exact ⟨by first | rfl | (simp;done) | (simp [*];done),by repeat (first | exact Drawn0.refl _ | apply Drawn0.step)⟩
  · rw [if_neg c2] at H
    have c2b0 : decide (a0 < 0) = false := decide_eq_false c2
    clear c2
    obtain rfl := Option.some.inj H
    go_enter Try.func64,Try.ntmps64
    go_wp2
    go_ret
    exact ⟨by first | rfl | (simp;done) | (simp [*];done),by repeat (first | exact Drawn0.refl _ | apply Drawn0.step)⟩
end Go.Proofs.Ytcenlehfbgnphaa.Z
end
section
namespace Go.Proofs.Ytcenlehfbgnphaa.Z
open Go.RowKit Go.Proofs.YtcenlehfbgnphaaW.PrintWords Go.Proofs.YtcenlehfbgnphaaW.PrintLast Go.Proofs.YtcenlehfbgnphaaW.PrintMore
attribute [local go_sem] max2_int min2_int max_two min_two max_three min_three max_four min_four
set_option linter.unusedVariables false
set_option linter.unusedSimpArgs false
def safe_Mul.f (a0 : Int) (a1 : Int) : Option (Int × Int) := (safe_size.f a0).bind fun t170 => ((safe_size.f a1).bind fun t171 => ((bits_Mul64.f t170 t171).bind fun bt172 => (if ((decide (a0 < 0)) != (decide (a1 < 0))) = true then (if bt172.1 = 0 then ((safe_fits.f (wrap64 (IntKind.u64.wrap (-bt172.2))) (decide (bt172.2 ≤ 9223372036854775808))).bind fun bt174 => (some (bt174.1,bt174.2))) else ((safe_fits.f (wrap64 (IntKind.u64.wrap (-bt172.2))) false).bind fun bt176 => (some (bt176.1,bt176.2)))) else (if bt172.1 = 0 then ((safe_fits.f (wrap64 (bt172.2)) (decide (bt172.2 < 9223372036854775808))).bind fun bt178 => (some (bt178.1,bt178.2))) else ((safe_fits.f (wrap64 (bt172.2)) false).bind fun bt180 => (some (bt180.1,bt180.2)))))))
set_option maxHeartbeats 8000000 in
set_option maxRecDepth 100000 in
theorem safe_Mul.calls (a0 : Int) (a1 : Int) (r1 : Int) (r2 : Int) (w : World) (h : safe_Mul.f a0 a1 = some (r1,r2)) :
    Calls Try.prog 27 #[.int .i64 a0,.int .i64 a1] w fun e w' => e = .returned (.tuple #[.int .i64 r1,.int .i64 r2]) ∧ Drawn0 w w' := by
  have H : ((safe_size.f a0).bind fun t170 => ((safe_size.f a1).bind fun t171 => ((bits_Mul64.f t170 t171).bind fun bt172 => (if ((decide (a0 < 0)) != (decide (a1 < 0))) = true then (if bt172.1 = 0 then ((safe_fits.f (wrap64 (IntKind.u64.wrap (-bt172.2))) (decide (bt172.2 ≤ 9223372036854775808))).bind fun bt174 => (some (bt174.1,bt174.2))) else ((safe_fits.f (wrap64 (IntKind.u64.wrap (-bt172.2))) false).bind fun bt176 => (some (bt176.1,bt176.2)))) else (if bt172.1 = 0 then ((safe_fits.f (wrap64 (bt172.2)) (decide (bt172.2 < 9223372036854775808))).bind fun bt178 => (some (bt178.1,bt178.2))) else ((safe_fits.f (wrap64 (bt172.2)) false).bind fun bt180 => (some (bt180.1,bt180.2)))))))) = some (r1,r2) := h
  clear h
  replace H := Option.bind_eq_some_iff.mp H
  obtain ⟨t170,A30,H⟩ := H
  replace H : ((safe_size.f a1).bind fun t171 => ((bits_Mul64.f t170 t171).bind fun bt172 => (if ((decide (a0 < 0)) != (decide (a1 < 0))) = true then (if bt172.1 = 0 then ((safe_fits.f (wrap64 (IntKind.u64.wrap (-bt172.2))) (decide (bt172.2 ≤ 9223372036854775808))).bind fun bt174 => (some (bt174.1,bt174.2))) else ((safe_fits.f (wrap64 (IntKind.u64.wrap (-bt172.2))) false).bind fun bt176 => (some (bt176.1,bt176.2)))) else (if bt172.1 = 0 then ((safe_fits.f (wrap64 (bt172.2)) (decide (bt172.2 < 9223372036854775808))).bind fun bt178 => (some (bt178.1,bt178.2))) else ((safe_fits.f (wrap64 (bt172.2)) false).bind fun bt180 => (some (bt180.1,bt180.2))))))) = some (r1,r2) := H
  have A3 := Aside0.mk A30
  clear A30
  replace H := Option.bind_eq_some_iff.mp H
  obtain ⟨t171,A40,H⟩ := H
  replace H : ((bits_Mul64.f t170 t171).bind fun bt172 => (if ((decide (a0 < 0)) != (decide (a1 < 0))) = true then (if bt172.1 = 0 then ((safe_fits.f (wrap64 (IntKind.u64.wrap (-bt172.2))) (decide (bt172.2 ≤ 9223372036854775808))).bind fun bt174 => (some (bt174.1,bt174.2))) else ((safe_fits.f (wrap64 (IntKind.u64.wrap (-bt172.2))) false).bind fun bt176 => (some (bt176.1,bt176.2)))) else (if bt172.1 = 0 then ((safe_fits.f (wrap64 (bt172.2)) (decide (bt172.2 < 9223372036854775808))).bind fun bt178 => (some (bt178.1,bt178.2))) else ((safe_fits.f (wrap64 (bt172.2)) false).bind fun bt180 => (some (bt180.1,bt180.2)))))) = some (r1,r2) := H
  have A4 := Aside0.mk A40
  clear A40
  replace H := Option.bind_eq_some_iff.mp H
  obtain ⟨⟨t172,t173⟩,A50,H⟩ := H
  replace H : (if ((decide (a0 < 0)) != (decide (a1 < 0))) = true then (if t172 = 0 then ((safe_fits.f (wrap64 (IntKind.u64.wrap (-t173))) (decide (t173 ≤ 9223372036854775808))).bind fun bt174 => (some (bt174.1,bt174.2))) else ((safe_fits.f (wrap64 (IntKind.u64.wrap (-t173))) false).bind fun bt176 => (some (bt176.1,bt176.2)))) else (if t172 = 0 then ((safe_fits.f (wrap64 (t173)) (decide (t173 < 9223372036854775808))).bind fun bt178 => (some (bt178.1,bt178.2))) else ((safe_fits.f (wrap64 (t173)) false).bind fun bt180 => (some (bt180.1,bt180.2))))) = some (r1,r2) := H
  have A5 := Aside0.mk A50
  clear A50
  by_cases c6 : ((decide (a0 < 0)) != (decide (a1 < 0))) = true
  · rw [if_pos c6] at H
    have c6b0 : ((decide (a0 < 0)) != (decide (a1 < 0))) = true := c6
    (try (have c6b1 : decide ((decide (a0 < 0)) = (decide (a1 < 0))) = false := by simpa using c6))
    (try (have c6b2 : ((decide (a0 < 0)) == (decide (a1 < 0))) = false := by simpa using c6))
    (try (have c6b3 : ¬ ((decide (a0 < 0)) = (decide (a1 < 0))) := by simpa using c6))
    clear c6
    by_cases c7 : t172 = 0
    · rw [if_pos c7] at H
      have c7b0 : (t172 == 0) = true := beq_iff_eq.mpr c7
      have c7b1 : (t172 != 0) = false := bne_eq_false_iff_eq.mpr c7
      clear c7
      replace H := Option.bind_eq_some_iff.mp H
      obtain ⟨⟨t174,t175⟩,A80,H⟩ := H
      replace H : (some (t174,t175)) = some (r1,r2) := H
      have A8 := Aside0.mk A80
      clear A80
      simp only [Option.some.injEq,Prod.mk.injEq] at H
      obtain ⟨rfl,rfl⟩ := H
      go_enter Try.func27,Try.ntmps27
      go_wp2_with (first | ((with_reducible refine gate_callee (f := 64) rfl ?_);refine goesL_ (some 10) rfl rfl Try.func64 (by kernel_rfl) rfl #[.int .i64 a0] rfl (by (try simp only [List.map_toArray,List.map_cons,List.map_nil]);first | done | rfl | (simp only [List.length_drop,List.length_take];rfl)) ?_;(with_reducible refine (safe_size.calls a0 t170 _ A3.out).mono ?_);rintro e w' ⟨rfl,⟨nd,rfl⟩⟩;refine ⟨_,rfl,?_⟩) | ((with_reducible refine gate_callee (f := 64) rfl ?_);refine goesL_ (some 12) rfl rfl Try.func64 (by kernel_rfl) rfl #[.int .i64 a1] rfl (by (try simp only [List.map_toArray,List.map_cons,List.map_nil]);first | done | rfl | (simp only [List.length_drop,List.length_take];rfl)) ?_;(with_reducible refine (safe_size.calls a1 t171 _ A4.out).mono ?_);rintro e w' ⟨rfl,⟨nd,rfl⟩⟩;refine ⟨_,rfl,?_⟩) | ((with_reducible refine gate_callee (f := 63) rfl ?_);refine goesL_ (some 13) rfl rfl Try.func63 (by kernel_rfl) rfl #[.int .u64 t170,.int .u64 t171] rfl (by (try simp only [List.map_toArray,List.map_cons,List.map_nil]);first | done | rfl | (simp only [List.length_drop,List.length_take];rfl)) ?_;(with_reducible refine (bits_Mul64.calls t170 t171 t172 t173 _ A5.out).mono ?_);rintro e w' ⟨rfl,⟨nd,rfl⟩⟩;refine ⟨_,rfl,?_⟩) | ((with_reducible refine gate_callee (f := 62) rfl ?_);refine goesL_ (some 30) rfl rfl Try.func62 (by kernel_rfl) rfl #[.int .i64 (wrap64 (IntKind.u64.wrap (-t173))),.bool (decide (t173 ≤ 9223372036854775808))] rfl (by (try simp only [List.map_toArray,List.map_cons,List.map_nil]);first | done | rfl | (simp only [List.length_drop,List.length_take];rfl)) ?_;(with_reducible refine (safe_fits.calls (wrap64 (IntKind.u64.wrap (-t173))) (decide (t173 ≤ 9223372036854775808)) t174 t175 _ A8.out).mono ?_);rintro e w' ⟨rfl,⟨nd,rfl⟩⟩;refine ⟨_,rfl,?_⟩))
      go_ret2
      exact ⟨by first | rfl | (simp;done) | (simp [*];done),by repeat (first | exact Drawn0.refl _ | apply Drawn0.step)⟩
    · rw [if_neg c7] at H
      have c7b0 : (t172 == 0) = false := beq_eq_false_iff_ne.mpr c7
      have c7b1 : (t172 != 0) = true := bne_iff_ne.mpr c7
      replace H := Option.bind_eq_some_iff.mp H
      obtain ⟨⟨t176,t177⟩,A90,H⟩ := H
      replace H : (some (t176,t177)) = some (r1,r2) := H
      have A9 := Aside0.mk A90
      clear A90
      simp only [Option.some.injEq,Prod.mk.injEq] at H
      obtain ⟨rfl,rfl⟩ := H
      go_enter Try.func27,Try.ntmps27
      go_wp2_with (first | ((with_reducible refine gate_callee (f := 64) rfl ?_);refine goesL_ (some 10) rfl rfl Try.func64 (by kernel_rfl) rfl #[.int .i64 a0] rfl (by (try simp only [List.map_toArray,List.map_cons,List.map_nil]);first | done | rfl | (simp only [List.length_drop,List.length_take];rfl)) ?_;(with_reducible refine (safe_size.calls a0 t170 _ A3.out).mono ?_);rintro e w' ⟨rfl,⟨nd,rfl⟩⟩;refine ⟨_,rfl,?_⟩) | ((with_reducible refine gate_callee (f := 64) rfl ?_);refine goesL_ (some 12) rfl rfl Try.func64 (by kernel_rfl) rfl #[.int .i64 a1] rfl (by (try simp only [List.map_toArray,List.map_cons,List.map_nil]);first | done | rfl | (simp only [List.length_drop,List.length_take];rfl)) ?_;(with_reducible refine (safe_size.calls a1 t171 _ A4.out).mono ?_);rintro e w' ⟨rfl,⟨nd,rfl⟩⟩;refine ⟨_,rfl,?_⟩) | ((with_reducible refine gate_callee (f := 63) rfl ?_);refine goesL_ (some 13) rfl rfl Try.func63 (by kernel_rfl) rfl #[.int .u64 t170,.int .u64 t171] rfl (by (try simp only [List.map_toArray,List.map_cons,List.map_nil]);first | done | rfl | (simp only [List.length_drop,List.length_take];rfl)) ?_;(with_reducible refine (bits_Mul64.calls t170 t171 t172 t173 _ A5.out).mono ?_);rintro e w' ⟨rfl,⟨nd,rfl⟩⟩;refine ⟨_,rfl,?_⟩) | ((with_reducible refine gate_callee (f := 62) rfl ?_);refine goesL_ (some 30) rfl rfl Try.func62 (by kernel_rfl) rfl #[.int .i64 (wrap64 (IntKind.u64.wrap (-t173))),.bool false] rfl (by (try simp only [List.map_toArray,List.map_cons,List.map_nil]);first | done | rfl | (simp only [List.length_drop,List.length_take];rfl)) ?_;(with_reducible refine (safe_fits.calls (wrap64 (IntKind.u64.wrap (-t173))) false t176 t177 _ A9.out).mono ?_);rintro e w' ⟨rfl,⟨nd,rfl⟩⟩;refine ⟨_,rfl,?_⟩))
      go_ret2
      exact ⟨by first | rfl | (simp;done) | (simp [*];done),by repeat (first | exact Drawn0.refl _ | apply Drawn0.step)⟩
  · rw [if_neg c6] at H
    have c6b0 : ((decide (a0 < 0)) != (decide (a1 < 0))) = false := by simpa using c6
    (try (have c6b1 : decide ((decide (a0 < 0)) = (decide (a1 < 0))) = true := by simpa using c6))
    (try (have c6b2 : ((decide (a0 < 0)) == (decide (a1 < 0))) = true := by simpa using c6))
    clear c6
    by_cases c10 : t172 = 0
    · rw [if_pos c10] at H
      have c10b0 : (t172 == 0) = true := beq_iff_eq.mpr c10
      have c10b1 : (t172 != 0) = false := bne_eq_false_iff_eq.mpr c10
      clear c10
      replace H := Option.bind_eq_some_iff.mp H
      obtain ⟨⟨t178,t179⟩,A110,H⟩ := H
      replace H : (some (t178,t179)) = some (r1,r2) := H
      have A11 := Aside0.mk A110
      clear A110
      simp only [Option.some.injEq,Prod.mk.injEq] at H
      obtain ⟨rfl,rfl⟩ := H
      go_enter Try.func27,Try.ntmps27
      go_wp2_with (first | ((with_reducible refine gate_callee (f := 64) rfl ?_);refine goesL_ (some 10) rfl rfl Try.func64 (by kernel_rfl) rfl #[.int .i64 a0] rfl (by (try simp only [List.map_toArray,List.map_cons,List.map_nil]);first | done | rfl | (simp only [List.length_drop,List.length_take];rfl)) ?_;(with_reducible refine (safe_size.calls a0 t170 _ A3.out).mono ?_);rintro e w' ⟨rfl,⟨nd,rfl⟩⟩;refine ⟨_,rfl,?_⟩) | ((with_reducible refine gate_callee (f := 64) rfl ?_);refine goesL_ (some 12) rfl rfl Try.func64 (by kernel_rfl) rfl #[.int .i64 a1] rfl (by (try simp only [List.map_toArray,List.map_cons,List.map_nil]);first | done | rfl | (simp only [List.length_drop,List.length_take];rfl)) ?_;(with_reducible refine (safe_size.calls a1 t171 _ A4.out).mono ?_);rintro e w' ⟨rfl,⟨nd,rfl⟩⟩;refine ⟨_,rfl,?_⟩) | ((with_reducible refine gate_callee (f := 63) rfl ?_);refine goesL_ (some 13) rfl rfl Try.func63 (by kernel_rfl) rfl #[.int .u64 t170,.int .u64 t171] rfl (by (try simp only [List.map_toArray,List.map_cons,List.map_nil]);first | done | rfl | (simp only [List.length_drop,List.length_take];rfl)) ?_;(with_reducible refine (bits_Mul64.calls t170 t171 t172 t173 _ A5.out).mono ?_);rintro e w' ⟨rfl,⟨nd,rfl⟩⟩;refine ⟨_,rfl,?_⟩) | ((with_reducible refine gate_callee (f := 62) rfl ?_);refine goesL_ (some 41) rfl rfl Try.func62 (by kernel_rfl) rfl #[.int .i64 (wrap64 (t173)),.bool (decide (t173 < 9223372036854775808))] rfl (by (try simp only [List.map_toArray,List.map_cons,List.map_nil]);first | done | rfl | (simp only [List.length_drop,List.length_take];rfl)) ?_;(with_reducible refine (safe_fits.calls (wrap64 (t173)) (decide (t173 < 9223372036854775808)) t178 t179 _ A11.out).mono ?_);rintro e w' ⟨rfl,⟨nd,rfl⟩⟩;refine ⟨_,rfl,?_⟩))
      go_ret2
      exact ⟨by first | rfl | (simp;done) | (simp [*];done),by repeat (first | exact Drawn0.refl _ | apply Drawn0.step)⟩
    · rw [if_neg c10] at H
      have c10b0 : (t172 == 0) = false := beq_eq_false_iff_ne.mpr c10
      have c10b1 : (t172 != 0) = true := bne_iff_ne.mpr c10
      replace H := Option.bind_eq_some_iff.mp H
      obtain ⟨⟨t180,t181⟩,A120,H⟩ := H
      replace H : (some (t180,t181)) = some (r1,r2) := H
      have A12 := Aside0.mk A120
      clear A120
      simp only [Option.some.injEq,Prod.mk.injEq] at H
      obtain ⟨rfl,rfl⟩ := H
      go_enter Try.func27,Try.ntmps27
      go_wp2_with (first | ((with_reducible refine gate_callee (f := 64) rfl ?_);refine goesL_ (some 10) rfl rfl Try.func64 (by kernel_rfl) rfl #[.int .i64 a0] rfl (by (try simp only [List.map_toArray,List.map_cons,List.map_nil]);first | done | rfl | (simp only [List.length_drop,List.length_take];rfl)) ?_;(with_reducible refine (safe_size.calls a0 t170 _ A3.out).mono ?_);rintro e w' ⟨rfl,⟨nd,rfl⟩⟩;refine ⟨_,rfl,?_⟩) | ((with_reducible refine gate_callee (f := 64) rfl ?_);refine goesL_ (some 12) rfl rfl Try.func64 (by kernel_rfl) rfl #[.int .i64 a1] rfl (by (try simp only [List.map_toArray,List.map_cons,List.map_nil]);first | done | rfl | (simp only [List.length_drop,List.length_take];rfl)) ?_;(with_reducible refine (safe_size.calls a1 t171 _ A4.out).mono ?_);rintro e w' ⟨rfl,⟨nd,rfl⟩⟩;refine ⟨_,rfl,?_⟩) | ((with_reducible refine gate_callee (f := 63) rfl ?_);refine goesL_ (some 13) rfl rfl Try.func63 (by kernel_rfl) rfl #[.int .u64 t170,.int .u64 t171] rfl (by (try simp only [List.map_toArray,List.map_cons,List.map_nil]);first | done | rfl | (simp only [List.length_drop,List.length_take];rfl)) ?_;(with_reducible refine (bits_Mul64.calls t170 t171 t172 t173 _ A5.out).mono ?_);rintro e w' ⟨rfl,⟨nd,rfl⟩⟩;refine ⟨_,rfl,?_⟩) | ((with_reducible refine gate_callee (f := 62) rfl ?_);refine goesL_ (some 41) rfl rfl Try.func62 (by kernel_rfl) rfl #[.int .i64 (wrap64 (t173)),.bool false] rfl (by (try simp only [List.map_toArray,List.map_cons,List.map_nil]);first | done | rfl | (simp only [List.length_drop,List.length_take];rfl)) ?_;(with_reducible refine (safe_fits.calls (wrap64 (t173)) false t180 t181 _ A12.out).mono ?_);rintro e w' ⟨rfl,⟨nd,rfl⟩⟩;refine ⟨_,rfl,?_⟩))
      go_ret2
      exact ⟨by first | rfl | (simp;done) | (simp [*];done),by repeat (first | exact Drawn0.refl _ | apply Drawn0.step)⟩
end Go.Proofs.Ytcenlehfbgnphaa.Z
end
section
namespace Go.Proofs.Ytcenlehfbgnphaa.Z
open Go.RowKit Go.Proofs.YtcenlehfbgnphaaW.PrintWords Go.Proofs.YtcenlehfbgnphaaW.PrintLast Go.Proofs.YtcenlehfbgnphaaW.PrintMore
attribute [local go_sem] max2_int min2_int max_two min_two max_three min_three max_four min_four
set_option linter.unusedVariables false
set_option linter.unusedSimpArgs false
def verdererref03_Add.f (k : Nat) (a0 : Int) (a1 : Int) : Option (Int × Int) := (verdererref03_big.f k a0).bind fun bt139 => ((verdererref03_big.f k a1).bind fun bt143 => ((verdererref03_Plus.f k bt139.1 bt139.2 bt143.1 bt143.2).bind fun bt147 => ((verdererref03_Big_Value.f k bt147.1 bt147.2).bind fun bt151 => (some (bt151.1,bt151.2)))))
theorem verdererref03_Add.mono : ∀ a0 a1 k,LeO (verdererref03_Add.f k a0 a1) (verdererref03_Add.f (k + 1) a0 a1) := by
  intro a0 a1 k
  unfold verdererref03_Add.f
  repeat' first
      | (with_reducible exact verdererref03_Big_Value.mono _ _ _)
      | (with_reducible exact verdererref03_Plus.mono _ _ _ _ _)
      | (with_reducible exact verdererref03_big.mono _ _)
      | (with_reducible exact LeO.refl _)
      | (with_reducible exact LeO.none _)
      | (with_reducible refine LeO.ite ?_ ?_)
      | (with_reducible refine LeO.bind ?_ (fun _ => ?_))
      | exact verdererref03_Big_Value.mono _ _ _
      | exact verdererref03_Plus.mono _ _ _ _ _
      | exact verdererref03_big.mono _ _
      | exact LeO.none _
      | refine LeO.ite ?_ ?_
      | refine LeO.bind ?_ (fun _ => ?_)
set_option maxHeartbeats 8000000 in
set_option maxRecDepth 100000 in
theorem verdererref03_Add.calls (k : Nat) (a0 : Int) (a1 : Int) (r1 : Int) (r2 : Int) (w : World) (h : verdererref03_Add.f k a0 a1 = some (r1,r2)) :
    Calls Try.prog 24 #[.int .i64 a0,.int .i64 a1] w fun e w' => e = .returned (.tuple #[.int .i64 r1,.int .i64 r2]) ∧ Below w.heap.size w w' := by
  have HB := Aside0.mk (Below.refl w.heap.size w)
  have H : ((verdererref03_big.f k a0).bind fun bt139 => ((verdererref03_big.f k a1).bind fun bt143 => ((verdererref03_Plus.f k bt139.1 bt139.2 bt143.1 bt143.2).bind fun bt147 => ((verdererref03_Big_Value.f k bt147.1 bt147.2).bind fun bt151 => (some (bt151.1,bt151.2)))))) = some (r1,r2) := h
  clear h
  replace H := Option.bind_eq_some_iff.mp H
  obtain ⟨⟨t139,t140⟩,A30,H⟩ := H
  replace H : ((verdererref03_big.f k a1).bind fun bt143 => ((verdererref03_Plus.f k t139 t140 bt143.1 bt143.2).bind fun bt147 => ((verdererref03_Big_Value.f k bt147.1 bt147.2).bind fun bt151 => (some (bt151.1,bt151.2))))) = some (r1,r2) := H
  have A3 := Aside0.mk A30
  clear A30
  replace H := Option.bind_eq_some_iff.mp H
  obtain ⟨⟨t143,t144⟩,A40,H⟩ := H
  replace H : ((verdererref03_Plus.f k t139 t140 t143 t144).bind fun bt147 => ((verdererref03_Big_Value.f k bt147.1 bt147.2).bind fun bt151 => (some (bt151.1,bt151.2)))) = some (r1,r2) := H
  have A4 := Aside0.mk A40
  clear A40
  replace H := Option.bind_eq_some_iff.mp H
  obtain ⟨⟨t147,t148⟩,A50,H⟩ := H
  replace H : ((verdererref03_Big_Value.f k t147 t148).bind fun bt151 => (some (bt151.1,bt151.2))) = some (r1,r2) := H
  have A5 := Aside0.mk A50
  clear A50
  replace H := Option.bind_eq_some_iff.mp H
  obtain ⟨⟨t151,t152⟩,A60,H⟩ := H
  replace H : (some (t151,t152)) = some (r1,r2) := H
  have A6 := Aside0.mk A60
  clear A60
  simp only [Option.some.injEq,Prod.mk.injEq] at H
  obtain ⟨rfl,rfl⟩ := H
  go_enter Try.func24,Try.ntmps24
  go_wp2_with (first | ((with_reducible refine gate_callee (f := 61) rfl ?_);refine goesL_ (some 7) rfl rfl Try.func61 (by kernel_rfl) rfl #[.int .i64 a0] rfl (by (try simp only [List.map_toArray,List.map_cons,List.map_nil]);first | done | rfl | (simp only [List.length_drop,List.length_take];rfl)) ?_;(with_reducible refine (verdererref03_big.calls k a0 t139 t140 _ A3.out).mono ?_);rintro e w7 ⟨v141,rfl,ho0,hb⟩;refine ⟨_,rfl,?_⟩;have n0_ := Aside0.mk (Kd.R_lower ho0 (below_size (by repeat (first | (with_reducible first | exact HB.out | apply below_alloc | apply pw_below_drewN | apply below_drew1) | exact HB.out))));have n1_ := Aside0.mk (below_step (by repeat (first | (with_reducible first | exact HB.out | apply below_alloc | apply pw_below_drewN | apply below_drew1) | exact HB.out)) hb);clear HB;have HO142 := n0_;have HB := n1_;clear n0_ n1_;(try clear hb);(try clear hb2);(try clear hk);(try clear hi);(try clear ho0)) | ((with_reducible refine gate_callee (f := 61) rfl ?_);refine goesL_ (some 9) rfl rfl Try.func61 (by kernel_rfl) rfl #[.int .i64 a1] rfl (by (try simp only [List.map_toArray,List.map_cons,List.map_nil]);first | done | rfl | (simp only [List.length_drop,List.length_take];rfl)) ?_;(with_reducible refine (verdererref03_big.calls k a1 t143 t144 _ A4.out).mono ?_);rintro e w8 ⟨v145,rfl,ho0,hb⟩;refine ⟨_,rfl,?_⟩;have n0_ := Aside0.mk (Kd.R_elder' (by (with_reducible repeat (first | apply Kd.R_alloc | apply Kd.R_drewN | apply Kd.R_drew));exact HO142.out) (Kd.R_base ho0) hb);have n1_ := Aside0.mk (Kd.R_lower (Kd.R_new' ho0 (Kd.R_lt (by (with_reducible repeat (first | apply Kd.R_alloc | apply Kd.R_drewN | apply Kd.R_drew));exact HO142.out))) (below_size (by repeat (first | (with_reducible first | exact HB.out | apply below_alloc | apply pw_below_drewN | apply below_drew1) | exact HB.out))));have n2_ := Aside0.mk (below_step (by repeat (first | (with_reducible first | exact HB.out | apply below_alloc | apply pw_below_drewN | apply below_drew1) | exact HB.out)) hb);clear HO142;clear HB;have HO142 := n0_;have HO146 := n1_;have HB := n2_;clear n0_ n1_ n2_;(try clear hb);(try clear hb2);(try clear hk);(try clear hi);(try clear ho0);obtain ⟨Ao9,co9,eo9⟩ := Kd.R_slice HO142.out;subst eo9;obtain ⟨Ao10,co10,eo10⟩ := Kd.R_slice HO146.out;subst eo10) | ((with_reducible refine gate_callee (f := 16) rfl ?_);refine goesL_ (some 10) rfl rfl Try.func16 (by kernel_rfl) rfl #[.agg #[.bool t139,.slice Ao9 t140.length co9],.agg #[.bool t143,.slice Ao10 t144.length co10]] rfl (by (try simp only [List.map_toArray,List.map_cons,List.map_nil]);first | done | rfl | (simp only [List.length_drop,List.length_take];rfl)) ?_;(with_reducible refine (verdererref03_Plus.calls k t139 _ _ t140 t143 _ _ t144 t147 t148 _ ?side1 ?side2 ?side3 ?side4 A5.out).mono ?_);(case side1 => repeat (first | exact (Kd.R_reads' HO142.out).2.2 | (with_reducible refine Kd.C_alloc ?_ _) | (with_reducible refine Kd.C_drewN ?_ _) | (with_reducible refine Kd.C_drew ?_)));(case side2 => exact (Kd.R_reads' HO142.out).2.1);(case side3 => repeat (first | exact (Kd.R_reads' HO146.out).2.2 | (with_reducible refine Kd.C_alloc ?_ _) | (with_reducible refine Kd.C_drewN ?_ _) | (with_reducible refine Kd.C_drew ?_)));(case side4 => exact (Kd.R_reads' HO146.out).2.1);rintro e w11 ⟨v149,rfl,ho0,hb⟩;refine ⟨_,rfl,?_⟩;have n0_ := Aside0.mk (Kd.R_elder' (by (with_reducible repeat (first | apply Kd.R_alloc | apply Kd.R_drewN | apply Kd.R_drew));exact HO142.out) (Kd.R_base ho0) hb);have n1_ := Aside0.mk (Kd.R_elder' (by (with_reducible repeat (first | apply Kd.R_alloc | apply Kd.R_drewN | apply Kd.R_drew));exact HO146.out) (Kd.R_base ho0) hb);have n2_ := Aside0.mk (Kd.R_lower (Kd.R_new' (Kd.R_new' ho0 (Kd.R_lt (by (with_reducible repeat (first | apply Kd.R_alloc | apply Kd.R_drewN | apply Kd.R_drew));exact HO142.out))) (Kd.R_lt (by (with_reducible repeat (first | apply Kd.R_alloc | apply Kd.R_drewN | apply Kd.R_drew));exact HO146.out))) (below_size (by repeat (first | (with_reducible first | exact HB.out | apply below_alloc | apply pw_below_drewN | apply below_drew1) | exact HB.out))));have n3_ := Aside0.mk (below_step (by repeat (first | (with_reducible first | exact HB.out | apply below_alloc | apply pw_below_drewN | apply below_drew1) | exact HB.out)) hb);clear HO142;clear HO146;clear HB;have HO142 := n0_;have HO146 := n1_;have HO150 := n2_;have HB := n3_;clear n0_ n1_ n2_ n3_;(try clear hb);(try clear hb2);(try clear hk);(try clear hi);(try clear ho0);obtain ⟨Ao12,co12,eo12⟩ := Kd.R_slice HO150.out;subst eo12) | ((with_reducible refine gate_callee (f := 19) rfl ?_);refine goesL_ (some 11) rfl rfl Try.func19 (by kernel_rfl) rfl #[.agg #[.bool t147,.slice Ao12 t148.length co12]] rfl (by (try simp only [List.map_toArray,List.map_cons,List.map_nil]);first | done | rfl | (simp only [List.length_drop,List.length_take];rfl)) ?_;(with_reducible refine (verdererref03_Big_Value.calls k t147 _ _ t148 t151 t152 _ ?side1 ?side2 A6.out).mono ?_);(case side1 => repeat (first | exact (Kd.R_reads' HO150.out).2.2 | (with_reducible refine Kd.C_alloc ?_ _) | (with_reducible refine Kd.C_drewN ?_ _) | (with_reducible refine Kd.C_drew ?_)));(case side2 => exact (Kd.R_reads' HO150.out).2.1);rintro e w13 ⟨rfl,hb⟩;refine ⟨_,rfl,?_⟩;have n0_ := Aside0.mk (Kd.R_below (by (with_reducible repeat (first | apply Kd.R_alloc | apply Kd.R_drewN | apply Kd.R_drew));exact HO142.out) hb);have n1_ := Aside0.mk (Kd.R_below (by (with_reducible repeat (first | apply Kd.R_alloc | apply Kd.R_drewN | apply Kd.R_drew));exact HO146.out) hb);have n2_ := Aside0.mk (Kd.R_below (by (with_reducible repeat (first | apply Kd.R_alloc | apply Kd.R_drewN | apply Kd.R_drew));exact HO150.out) hb);have n3_ := Aside0.mk (below_step (by repeat (first | (with_reducible first | exact HB.out | apply below_alloc | apply pw_below_drewN | apply below_drew1) | exact HB.out)) hb);clear HO142;clear HO146;clear HO150;clear HB;have HO142 := n0_;have HO146 := n1_;have HO150 := n2_;have HB := n3_;clear n0_ n1_ n2_ n3_;(try clear hb);(try clear hb2);(try clear hk);(try clear hi)))
  go_ret2
  exact ⟨by first | rfl | (simp [errW_none,errW_some] <;> rfl) | (simp [*,errW_none,errW_some] <;> rfl),by repeat (first | (with_reducible first | exact HB.out | apply below_alloc | apply pw_below_drewN | apply below_drew1) | exact HB.out)⟩
end Go.Proofs.Ytcenlehfbgnphaa.Z
end
section
namespace Go.Proofs.Ytcenlehfbgnphaa.Z
open Go.RowKit Go.Proofs.YtcenlehfbgnphaaW.PrintWords Go.Proofs.YtcenlehfbgnphaaW.PrintLast Go.Proofs.YtcenlehfbgnphaaW.PrintMore
theorem wrap_id1 {x : Int} (h0 : -9223372036854775808 ≤ x) (h1 : x ≤ 9223372036854775807) : wrap64 x = x := by unfold wrap64;omega
def dg (l : List Int) (i : Nat) : Int := l.getD i 0
theorem at_f (b : Bool) (l : List Int) (_hl : l.length ≤ 1000) (i : Nat) : verdererref03_Big_at.f b l (i : Int) = some (dg l i) := by
  unfold verdererref03_Big_at.f dg
  by_cases h : i < l.length
  · rw [if_pos (by omega),if_pos (by omega)];rfl
  · rw [if_neg (by omega)];simp [List.getD,List.getElem?_eq_none (show l.length ≤ i by omega)]
def Dg (l : List Int) : Prop := ∀ i,0 ≤ dg l i ∧ dg l i < 65536
def val : List Int → Int
  | [] => 0
  | d :: ds => d + 65536 * val ds
def from_ (l : List Int) : Nat → Nat → Int
  | _,0 => 0
  | i,n + 1 => dg l i + 65536 * from_ l (i + 1) n
theorem big4 (u : Int) (h0 : 0 ≤ u) (h1 : u < 18446744073709551616) (s : Bool) (k : Nat) : verdererref03_big.l0 (k + 5) u 0 s [] = some (s,[u % 65536,u / 65536 % 65536,u / 4294967296 % 65536,u / 281474976710656]) := by
  have e (n : Nat) (x : Int) (i : Int) (l : List Int) (g0 : 0 ≤ x) (g1 : x < 18446744073709551616) (g2 : i < 4) (g3 : 0 ≤ i) (gl : l.length ≤ 10) : verdererref03_big.l0 (n + 1) x i s l = verdererref03_big.l0 n (x / 65536) (i + 1) s (l ++ [x % 65536]) := by
    simp only [verdererref03_big.l0]
    rw [if_pos g2,if_pos (by omega),wrap_id1 (by omega) (by omega),Int.tdiv_eq_ediv_of_nonneg g0,Int.tmod_eq_emod_of_nonneg g0,Go.IntKind.wrap_u64,show x / 65536 % 18446744073709551616 = x / 65536 by omega]
  rw [e (k + 4) u 0 _ h0 h1 (by decide) (by decide) (by simp),e (k + 3) (u / 65536) _ _ (by omega) (by omega) (by decide) (by decide) (by simp),e (k + 2) (u / 65536 / 65536) _ _ (by omega) (by omega) (by decide) (by decide) (by simp),e (k + 1) (u / 65536 / 65536 / 65536) _ _ (by omega) (by omega) (by decide) (by decide) (by simp)]
  simp only [verdererref03_big.l0]
  rw [if_neg (by decide)]
  simp only [List.nil_append,List.cons_append,Option.some.injEq,Prod.mk.injEq,true_and,List.cons.injEq,and_true]
  refine ⟨?_,?_⟩ <;> omega
def four (a : Int) : List Int := let u : Int := if a < 0 then -a else a;[u % 65536,u / 65536 % 65536,u / 4294967296 % 65536,u / 281474976710656]
theorem big_f {a : Int} (ha : In64 a) (k : Nat) : verdererref03_big.f (k + 6) a = some (decide (a < 0),four a) := by
  unfold verdererref03_big.f four In64 at *
  by_cases h : a < 0
  · rw [if_pos h]
    simp only [verdererref03_big.j0]
    have e : IntKind.u64.wrap (-(IntKind.u64.wrap a)) = -a := by rw [Go.IntKind.wrap_u64,Go.IntKind.wrap_u64];omega
    rw [e,big4 (-a) (by omega) (by omega)]
    simp [h]
  · rw [if_neg h]
    simp only [verdererref03_big.j0]
    have e : IntKind.u64.wrap a = a := by rw [Go.IntKind.wrap_u64];omega
    rw [e,big4 a (by omega) (by omega)]
    simp [h]
def addD (a b : List Int) : Nat → Int → Nat → List Int
  | _,_,0 => []
  | i,c,m + 1 => ((dg a i + dg b i + c) % 65536) :: addD a b (i + 1) ((dg a i + dg b i + c) / 65536) m
theorem plus_l1 (a b : List Int) (na nb s : Bool) (ha : Dg a) (hb : Dg b) (la : a.length ≤ 1000) (lb : b.length ≤ 1000) : ∀ m (i : Nat) (c : Int) (out : List Int) k,i + m = 20 → out.length = i → 0 ≤ c → c ≤ 1 → m < k → verdererref03_Plus.l1 k c (i : Int) na a nb b s out = some (s,out ++ addD a b i c m) := by
  intro m
  induction m with
  | zero =>
    intro i c out k hi ho h0 h1 hk
    obtain ⟨k,rfl⟩ : ∃ m,k = m + 1 := ⟨k - 1,by omega⟩
    simp only [verdererref03_Plus.l1]
    rw [if_neg (by omega)]
    simp [addD]
  | succ m ih =>
    intro i c out k hi ho h0 h1 hk
    obtain ⟨k,rfl⟩ : ∃ m,k = m + 1 := ⟨k - 1,by omega⟩
    obtain ⟨a0,a1⟩ := ha i
    obtain ⟨b0,b1⟩ := hb i
    simp only [verdererref03_Plus.l1]
    have e : IntKind.u64.wrap (IntKind.u64.wrap (dg a i + dg b i) + c) = dg a i + dg b i + c := by rw [Go.IntKind.wrap_u64,Go.IntKind.wrap_u64];omega
    rw [if_pos (by omega),at_f _ _ la,at_f _ _ lb,Option.bind_some,Option.bind_some,if_pos (by omega),e,wrap_id1 (by omega) (by omega),Int.tdiv_eq_ediv_of_nonneg (by omega),Int.tmod_eq_emod_of_nonneg (by omega),Go.IntKind.wrap_u64,show (dg a i + dg b i + c) / 65536 % 18446744073709551616 = (dg a i + dg b i + c) / 65536 by omega,show ((i : Int) + 1) = ((i + 1 : Nat) : Int) by omega]
    rw [ih (i + 1) _ _ k (by omega) (by simp [ho]) (by omega) (by omega) (by omega)]
    simp [addD]
theorem addD_val (a b : List Int) (ha : Dg a) (hb : Dg b) : ∀ m (i : Nat) (c : Int),0 ≤ c → c ≤ 1 → ∃ c',0 ≤ c' ∧ c' ≤ 1 ∧ val (addD a b i c m) + 65536 ^ m * c' = from_ a i m + from_ b i m + c := by
  intro m
  induction m with
  | zero => intro i c h0 h1;exact ⟨c,h0,h1,by simp [addD,val,from_]⟩
  | succ m ih =>
    intro i c h0 h1
    obtain ⟨a0,a1⟩ := ha i
    obtain ⟨b0,b1⟩ := hb i
    obtain ⟨c',g0,g1,g⟩ := ih (i + 1) ((dg a i + dg b i + c) / 65536) (by omega) (by omega)
    refine ⟨c',g0,g1,?_⟩
    simp only [addD,val,from_,Int.pow_succ]
    rw [Int.mul_comm (65536 ^ m) 65536,Int.mul_assoc]
    generalize 65536 ^ m * c' = z at *
    omega
theorem addD_dg (a b : List Int) : ∀ m (i : Nat) (c : Int),(addD a b i c m).length = m ∧ ∀ x ∈ addD a b i c m,0 ≤ x ∧ x < 65536 := by
  intro m
  induction m with
  | zero => intro i c;exact ⟨rfl,fun x hx => by cases hx⟩
  | succ m ih =>
    intro i c
    obtain ⟨h1,h2⟩ := ih (i + 1) ((dg a i + dg b i + c) / 65536)
    refine ⟨by simp [addD,h1],fun x hx => ?_⟩
    simp only [addD,List.mem_cons] at hx
    rcases hx with rfl | hx
    · omega
    · exact h2 x hx
end Go.Proofs.Ytcenlehfbgnphaa.Z
end
section
namespace Go.Proofs.Ytcenlehfbgnphaa.Z
set_option linter.unusedVariables false
open Go.RowKit Go.Proofs.YtcenlehfbgnphaaW.PrintWords Go.Proofs.YtcenlehfbgnphaaW.PrintLast Go.Proofs.YtcenlehfbgnphaaW.PrintMore
theorem pw_pos (n : Nat) : (0 : Int) < 65536 ^ n := Int.pow_pos (by decide)
theorem from_top (l : List Int) : ∀ n i,from_ l i (n + 1) = from_ l i n + 65536 ^ n * dg l (i + n) := by
  intro n
  induction n with
  | zero => intro i;simp [from_]
  | succ n ih =>
    intro i
    rw [from_,ih (i + 1),from_,Int.pow_succ,show i + 1 + n = i + (n + 1) by omega,Int.mul_add,Int.mul_comm (65536 ^ n) 65536,Int.mul_assoc]
    omega
theorem from_lt {l : List Int} (h : Dg l) : ∀ n i,0 ≤ from_ l i n ∧ from_ l i n < 65536 ^ n := by
  intro n
  induction n with
  | zero => intro i;simp [from_]
  | succ n ih =>
    intro i
    obtain ⟨h0,h1⟩ := ih (i + 1)
    obtain ⟨g0,g1⟩ := h i
    rw [from_,Int.pow_succ,Int.mul_comm (65536 ^ n)]
    omega
theorem from_add (l : List Int) : ∀ m n i,from_ l i (m + n) = from_ l i m + 65536 ^ m * from_ l (i + m) n := by
  intro m
  induction m with
  | zero => intro n i;simp [from_]
  | succ m ih =>
    intro n i
    rw [show m + 1 + n = (m + n) + 1 by omega,from_,ih n (i + 1),from_,Int.pow_succ,show i + 1 + m = i + (m + 1) by omega,Int.mul_add,Int.mul_comm (65536 ^ m) 65536,Int.mul_assoc]
    omega
theorem val_from : ∀ (l : List Int) (p : List Int),from_ (p ++ l) p.length l.length = val l := by
  intro l
  induction l with
  | nil => intro p;rfl
  | cons d ds ih =>
    intro p
    have h := ih (p ++ [d])
    rw [List.append_assoc,List.length_append] at h
    simp only [List.length_cons,from_,val]
    have e : dg (p ++ d :: ds) p.length = d := by simp [dg]
    rw [e]
    simp only [List.length_cons,List.length_nil,List.cons_append,List.nil_append] at h
    rw [show p.length + 1 = p.length + (0 + 1) by omega,h]
theorem val_whole (l : List Int) : from_ l 0 l.length = val l := val_from l []
theorem top_lt {p x y d e : Int} (hp : 0 < p) (hx : x < p) (hy : 0 ≤ y) (h : d < e) : x + p * d < y + p * e := by
  have h1 : p * (d + 1) ≤ p * e := Int.mul_le_mul_of_nonneg_left (by omega) (by omega)
  rw [Int.mul_add,Int.mul_one] at h1
  omega
theorem less_l0 (a b : List Int) (na nb : Bool) (ha : Dg a) (hb : Dg b) (la : a.length ≤ 1000) (lb : b.length ≤ 1000) : ∀ n k,n ≤ 20 → n < k → verdererref03_less.l0 k ((n : Int) - 1) na a nb b = some (decide (from_ a 0 n < from_ b 0 n)) := by
  intro n
  induction n with
  | zero =>
    intro k _ hk
    obtain ⟨k,rfl⟩ : ∃ m,k = m + 1 := ⟨k - 1,by omega⟩
    simp only [verdererref03_less.l0]
    rw [if_neg (by omega)]
    simp [from_]
  | succ n ih =>
    intro k hn hk
    obtain ⟨k,rfl⟩ : ∃ m,k = m + 1 := ⟨k - 1,by omega⟩
    simp only [verdererref03_less.l0]
    rw [show ((n + 1 : Nat) : Int) - 1 = (n : Int) by omega,if_pos (by omega),at_f _ _ la,at_f _ _ lb]
    simp only [Option.bind_some]
    rw [from_top,from_top,Nat.zero_add]
    obtain ⟨a0,a1⟩ := from_lt ha n 0
    obtain ⟨b0,b1⟩ := from_lt hb n 0
    have hp := pw_pos n
    by_cases h : dg a n = dg b n
    · rw [if_pos h,wrap_id1 (by omega) (by omega),ih k (by omega) (by omega),h]
      congr 1
      rw [decide_eq_decide]
      omega
    · rw [if_neg h]
      congr 1
      rw [decide_eq_decide]
      rcases Int.lt_or_gt_of_ne h with h1 | h1
      · have := top_lt hp a1 b0 h1
        omega
      · have := top_lt hp b1 a0 h1
        omega
theorem less_f (a b : List Int) (na nb : Bool) (ha : Dg a) (hb : Dg b) (la : a.length ≤ 1000) (lb : b.length ≤ 1000) (k : Nat) (hk : 20 < k) : verdererref03_less.f k na a nb b = some (decide (from_ a 0 20 < from_ b 0 20)) := less_l0 a b na nb ha hb la lb 20 k (by omega) hk
def subD (a b : List Int) : Nat → Int → Nat → List Int
  | _,_,0 => []
  | i,c,m + 1 => ((dg a i + 65536 - dg b i - c) % 65536) :: subD a b (i + 1) (1 - (dg a i + 65536 - dg b i - c) / 65536) m
theorem plus_l0 (a b : List Int) (na nb s : Bool) (ha : Dg a) (hb : Dg b) (la : a.length ≤ 1000) (lb : b.length ≤ 1000) : ∀ m (i : Nat) (c : Int) (out : List Int) k,i + m = 20 → out.length = i → 0 ≤ c → c ≤ 1 → m < k → verdererref03_Plus.l0 k c (i : Int) na a nb b s out = some (s,out ++ subD a b i c m) := by
  intro m
  induction m with
  | zero =>
    intro i c out k hi ho h0 h1 hk
    obtain ⟨k,rfl⟩ : ∃ m,k = m + 1 := ⟨k - 1,by omega⟩
    simp only [verdererref03_Plus.l0]
    rw [if_neg (by omega)]
    simp [subD]
  | succ m ih =>
    intro i c out k hi ho h0 h1 hk
    obtain ⟨k,rfl⟩ : ∃ m,k = m + 1 := ⟨k - 1,by omega⟩
    obtain ⟨a0,a1⟩ := ha i
    obtain ⟨b0,b1⟩ := hb i
    simp only [verdererref03_Plus.l0]
    have e : IntKind.u64.wrap (IntKind.u64.wrap (IntKind.u64.wrap (dg a i + 65536) - dg b i) - c) = dg a i + 65536 - dg b i - c := by rw [Go.IntKind.wrap_u64,Go.IntKind.wrap_u64,Go.IntKind.wrap_u64];omega
    rw [if_pos (by omega),at_f _ _ la,at_f _ _ lb,Option.bind_some,Option.bind_some,if_pos (by omega),e,wrap_id1 (by omega) (by omega),Int.tdiv_eq_ediv_of_nonneg (by omega),Int.tmod_eq_emod_of_nonneg (by omega)]
    have e2 : IntKind.u64.wrap (1 - IntKind.u64.wrap ((dg a i + 65536 - dg b i - c) / 65536)) = 1 - (dg a i + 65536 - dg b i - c) / 65536 := by rw [Go.IntKind.wrap_u64,Go.IntKind.wrap_u64];omega
    rw [e2,show ((i : Int) + 1) = ((i + 1 : Nat) : Int) by omega]
    rw [ih (i + 1) _ _ k (by omega) (by simp [ho]) (by omega) (by omega) (by omega)]
    simp [subD]
theorem subD_val (a b : List Int) (ha : Dg a) (hb : Dg b) : ∀ m (i : Nat) (c : Int),0 ≤ c → c ≤ 1 → ∃ c',0 ≤ c' ∧ c' ≤ 1 ∧ val (subD a b i c m) - 65536 ^ m * c' = from_ a i m - from_ b i m - c := by
  intro m
  induction m with
  | zero => intro i c h0 h1;exact ⟨c,h0,h1,by simp [subD,val,from_]⟩
  | succ m ih =>
    intro i c h0 h1
    obtain ⟨a0,a1⟩ := ha i
    obtain ⟨b0,b1⟩ := hb i
    obtain ⟨c',g0,g1,g⟩ := ih (i + 1) (1 - (dg a i + 65536 - dg b i - c) / 65536) (by omega) (by omega)
    refine ⟨c',g0,g1,?_⟩
    simp only [subD,val,from_,Int.pow_succ]
    rw [Int.mul_comm (65536 ^ m) 65536,Int.mul_assoc]
    generalize 65536 ^ m * c' = z at *
    omega
theorem subD_dg (a b : List Int) : ∀ m (i : Nat) (c : Int),(subD a b i c m).length = m ∧ ∀ x ∈ subD a b i c m,0 ≤ x ∧ x < 65536 := by
  intro m
  induction m with
  | zero => intro i c;exact ⟨rfl,fun x hx => by cases hx⟩
  | succ m ih =>
    intro i c
    obtain ⟨h1,h2⟩ := ih (i + 1) (1 - (dg a i + 65536 - dg b i - c) / 65536)
    refine ⟨by simp [subD,h1],fun x hx => ?_⟩
    simp only [subD,List.mem_cons] at hx
    rcases hx with rfl | hx
    · omega
    · exact h2 x hx
theorem dg_of {l : List Int} (h : ∀ x ∈ l,0 ≤ x ∧ x < 65536) : Dg l := by
  intro i
  unfold dg
  by_cases hi : i < l.length
  · have := h _ (List.getElem_mem hi)
    simpa [List.getD,List.getElem?_eq_getElem hi] using this
  · simp [List.getD,List.getElem?_eq_none (show l.length ≤ i by omega)]
def sg (s : Bool) (v : Int) : Int := if s then -v else v
theorem plus_f (a b : List Int) (na nb : Bool) (ha : Dg a) (hb : Dg b) (la : a.length ≤ 1000) (lb : b.length ≤ 1000) (hs : from_ a 0 20 + from_ b 0 20 < 65536 ^ 20) (k : Nat) (hk : 23 < k) :
    ∃ s l,verdererref03_Plus.f k na a nb b = some (s,l) ∧ l.length = 20 ∧ Dg l ∧ sg s (from_ l 0 20) = sg na (from_ a 0 20) + sg nb (from_ b 0 20) := by
  have sub (a b : List Int) (na nb : Bool) (ha : Dg a) (hb : Dg b) (la : a.length ≤ 1000) (lb : b.length ≤ 1000) (hab : from_ b 0 20 ≤ from_ a 0 20) (k : Nat) (hk : 20 < k) : ∃ l,verdererref03_Plus.l0 k 0 0 na a nb b na [] = some (na,l) ∧ l.length = 20 ∧ Dg l ∧ from_ l 0 20 = from_ a 0 20 - from_ b 0 20 := by
    have h := plus_l0 a b na nb na ha hb la lb 20 0 0 [] k (by omega) rfl (by omega) (by omega) hk
    obtain ⟨c,c0,c1,hc⟩ := subD_val a b ha hb 20 0 0 (by omega) (by omega)
    obtain ⟨h1,h2⟩ := subD_dg a b 20 0 0
    have hd := dg_of h2
    have hv := val_whole (subD a b 0 0 20)
    rw [h1] at hv
    obtain ⟨v0,v1⟩ := from_lt hd 20 0
    refine ⟨_,h,h1,hd,?_⟩
    rw [List.nil_append,hv]
    rw [hv] at v0 v1
    have hp := pw_pos 20
    generalize (65536 : Int) ^ 20 = p at *
    have : c = 0 := by
      rcases (show c = 0 ∨ c = 1 by omega) with e | e
      · exact e
      · rw [e] at hc;omega
    rw [this] at hc
    omega
  obtain ⟨k,rfl⟩ : ∃ m,k = m + 1 := ⟨k - 1,by omega⟩
  rw [verdererref03_Plus.f]
  by_cases hn : (na != nb) = true
  · rw [if_pos hn,less_f a b na nb ha hb la lb k (by omega),Option.bind_some]
    by_cases hlt : from_ a 0 20 < from_ b 0 20
    · rw [if_pos (decide_eq_true hlt)]
      obtain ⟨k,rfl⟩ : ∃ m,k = m + 1 := ⟨k - 1,by omega⟩
      rw [verdererref03_Plus.f,if_pos (by cases na <;> cases nb <;> simp_all),less_f b a nb na hb ha lb la k (by omega),Option.bind_some,if_neg (by rw [decide_eq_true_eq];omega)]
      obtain ⟨l,e,h1,h2,h3⟩ := sub b a nb na hb ha lb la (by omega) k (by omega)
      refine ⟨nb,l,by rw [e];rfl,h1,h2,?_⟩
      rw [h3]
      unfold sg
      cases na <;> cases nb <;> simp_all <;> omega
    · rw [if_neg (by rw [decide_eq_true_eq];omega)]
      obtain ⟨l,e,h1,h2,h3⟩ := sub a b na nb ha hb la lb (by omega) k (by omega)
      refine ⟨na,l,e,h1,h2,?_⟩
      rw [h3]
      unfold sg
      cases na <;> cases nb <;> simp_all <;> omega
  · rw [if_neg hn]
    have h := plus_l1 a b na nb na ha hb la lb 20 0 0 [] k (by omega) rfl (by omega) (by omega) (by omega)
    obtain ⟨c,c0,c1,hc⟩ := addD_val a b ha hb 20 0 0 (by omega) (by omega)
    obtain ⟨h1,h2⟩ := addD_dg a b 20 0 0
    have hd := dg_of h2
    have hv := val_whole (addD a b 0 0 20)
    rw [h1] at hv
    obtain ⟨v0,v1⟩ := from_lt hd 20 0
    refine ⟨na,_,h,h1,hd,?_⟩
    rw [List.nil_append,hv]
    rw [hv] at v0 v1
    generalize (65536 : Int) ^ 20 = p at *
    have : c = 0 := by
      rcases (show c = 0 ∨ c = 1 by omega) with e | e
      · exact e
      · rw [e] at hc;omega
    rw [this] at hc
    unfold sg
    cases na <;> cases nb <;> simp_all <;> omega
end Go.Proofs.Ytcenlehfbgnphaa.Z
end
section
namespace Go.Proofs.Ytcenlehfbgnphaa.Z
set_option linter.unusedVariables false
open Go.RowKit Go.Proofs.YtcenlehfbgnphaaW.PrintWords Go.Proofs.YtcenlehfbgnphaaW.PrintLast Go.Proofs.YtcenlehfbgnphaaW.PrintMore
theorem value_hi (l : List Int) (s : Bool) (hd : Dg l) (hl : l.length ≤ 1000) : ∀ n k,n ≤ 16 → verdererref03_Big_Value.l0 (k + 2 * n) 0 ((n : Int) + 3) s l = if from_ l 4 n > 0 then some (0,10) else verdererref03_Big_Value.l0 k 0 3 s l := by
  intro n
  induction n with
  | zero => intro k _;simp [from_]
  | succ n ih =>
    intro k hn
    obtain ⟨d0,d1⟩ := hd (n + 4)
    obtain ⟨f0,f1⟩ := from_lt hd n 4
    have hp := pw_pos n
    rw [show k + 2 * (n + 1) = k + 2 * n + 1 + 1 by omega,show ((n + 1 : Nat) : Int) + 3 = ((n + 4 : Nat) : Int) by omega,from_top,show 4 + n = n + 4 by omega]
    simp only [verdererref03_Big_Value.l0]
    rw [if_pos (by omega),if_pos (by omega),at_f _ _ hl,Option.bind_some]
    simp only [verdererref03_Big_Value.j1]
    by_cases h : dg l (n + 4) > 0
    · have := Int.mul_pos hp h
      rw [if_pos (decide_eq_true h),if_pos (by omega)]
    · have e : dg l (n + 4) = 0 := by omega
      rw [if_neg (by rw [decide_eq_true_eq];exact h),if_neg (by omega),wrap_id1 (by omega) (by omega),show ((n + 4 : Nat) : Int) - 1 = (n : Int) + 3 by omega,ih k (by omega),e]
      simp
theorem value_f (l : List Int) (s : Bool) (hd : Dg l) (hl : l.length ≤ 1000) (k : Nat) (hk : 60 ≤ k) : verdererref03_Big_Value.f k s l = some (fitF (sg s (from_ l 0 20))) := by
  unfold verdererref03_Big_Value.f
  obtain ⟨k,rfl⟩ : ∃ m,k = (m + 10) + 2 * 16 := ⟨k - 42,by omega⟩
  have h := value_hi l s hd hl 16 (k + 10) (by omega)
  rw [show ((16 : Nat) : Int) + 3 = 19 from rfl] at h
  rw [h,show (20 : Nat) = 4 + 16 from rfl,from_add,show (65536 : Int) ^ 4 = 18446744073709551616 from rfl]
  obtain ⟨f0,f1⟩ := from_lt hd 4 0
  obtain ⟨g0,g1⟩ := from_lt hd 16 4
  rw [show (65536 : Int) ^ 4 = 18446744073709551616 from rfl] at f1
  rw [show 0 + 4 = 4 from rfl]
  clear h
  generalize from_ l 4 16 = H at *
  by_cases hH : H > 0
  · rw [if_pos hH]
    unfold fitF sg
    congr 1
    cases s
    · simp only [Bool.false_eq_true,if_false];rw [if_neg (by omega)]
    · simp only [if_true];rw [if_neg (by omega)]
  · rw [if_neg hH,show H = 0 by omega,Int.mul_zero,Int.add_zero]
    have e (n : Nat) (x : Int) (i : Nat) (hx : 0 ≤ x) (hx1 : x < 281474976710656) (hi : i ≤ 3) : verdererref03_Big_Value.l0 (n + 1 + 1) x (i : Int) s l = verdererref03_Big_Value.l0 n (x * 65536 + dg l i) ((i : Int) - 1) s l := by
      obtain ⟨d0,d1⟩ := hd i
      simp only [verdererref03_Big_Value.l0]
      rw [if_pos (by omega),if_neg (by omega)]
      simp only [verdererref03_Big_Value.j1,Bool.false_eq_true,if_false]
      rw [if_pos (by omega),at_f _ _ hl,Option.bind_some,wrap_id1 (by omega) (by omega),Go.IntKind.wrap_u64,Go.IntKind.wrap_u64,show (x * 65536 % 18446744073709551616 + dg l i) % 18446744073709551616 = x * 65536 + dg l i by omega]
    obtain ⟨a0,a1⟩ := hd 0
    obtain ⟨b0,b1⟩ := hd 1
    obtain ⟨c0,c1⟩ := hd 2
    obtain ⟨d0,d1⟩ := hd 3
    have e3 := e (k + 8) 0 3 (by omega) (by omega) (by omega)
    have e2 := e (k + 6) (0 * 65536 + dg l 3) 2 (by omega) (by omega) (by omega)
    have e1 := e (k + 4) ((0 * 65536 + dg l 3) * 65536 + dg l 2) 1 (by omega) (by omega) (by omega)
    have e0 := e (k + 2) (((0 * 65536 + dg l 3) * 65536 + dg l 2) * 65536 + dg l 1) 0 (by omega) (by omega) (by omega)
    have hv : from_ l 0 4 = (((0 * 65536 + dg l 3) * 65536 + dg l 2) * 65536 + dg l 1) * 65536 + dg l 0 := by
      simp only [from_,Nat.zero_add,Nat.reduceAdd]
      omega
    rw [show ((3 : Nat) : Int) = 3 from rfl,show (3 : Int) - 1 = ((2 : Nat) : Int) from rfl] at e3
    rw [show ((2 : Nat) : Int) - 1 = ((1 : Nat) : Int) from rfl] at e2
    rw [show ((1 : Nat) : Int) - 1 = ((0 : Nat) : Int) from rfl] at e1
    rw [show ((0 : Nat) : Int) - 1 = -1 from rfl] at e0
    rw [e3,e2,e1,e0,← hv]
    clear e e0 e1 e2 e3 hv
    generalize from_ l 0 4 = V at *
    simp only [verdererref03_Big_Value.l0]
    rw [if_neg (by decide)]
    unfold fitF sg
    cases s
    · simp only [Bool.false_eq_true,if_false,verdererref03_Big_Value.j2]
      by_cases hV : V < 9223372036854775808
      · rw [if_pos hV,if_pos (by omega),wrap_id1 (by omega) (by omega)]
      · rw [if_neg hV,if_neg (by omega)]
    · simp only [if_true,verdererref03_Big_Value.j2]
      by_cases hV : V ≤ 9223372036854775808
      · rw [if_pos (decide_eq_true hV),if_pos (by omega),Go.IntKind.wrap_u64]
        have : wrap64 (-V % 18446744073709551616) = -V := by unfold wrap64;omega
        rw [this]
      · rw [if_neg (by rw [decide_eq_true_eq];exact hV),if_neg (by omega)]
theorem four_dg (a : Int) (ha : In64 a) : Dg (four a) := by
  apply dg_of
  unfold In64 at ha
  intro x hx
  simp only [four,List.mem_cons,List.not_mem_nil,or_false] at hx
  rcases hx with rfl | rfl | rfl | rfl <;> split <;> omega
theorem four_hi (a : Int) (n : Nat) (h : 4 ≤ n) : dg (four a) n = 0 := by
  unfold dg
  simp [List.getD,List.getElem?_eq_none (show (four a).length ≤ n by simpa [four] using h)]
theorem from_zero {l : List Int} : ∀ m i,(∀ n,i ≤ n → dg l n = 0) → from_ l i m = 0 := by
  intro m
  induction m with
  | zero => intro i _;rfl
  | succ m ih => intro i h;rw [from_,h i (Nat.le_refl _),ih (i + 1) (fun n hn => h n (by omega))];rfl
theorem four_from (a : Int) (ha : In64 a) (m : Nat) : from_ (four a) 0 (4 + m) = (if a < 0 then -a else a) := by
  rw [from_add,from_zero m (0 + 4) (fun n hn => four_hi a n (by omega)),Int.mul_zero,Int.add_zero]
  have e : from_ (four a) 0 4 = val (four a) := val_whole (four a)
  rw [e]
  unfold four In64 at *
  simp only [val]
  split <;> omega
theorem sg_four (a : Int) : sg (decide (a < 0)) (if a < 0 then -a else a) = a := by
  unfold sg
  by_cases h : a < 0
  · rw [if_pos (decide_eq_true h),if_pos h];omega
  · rw [if_neg (by rw [decide_eq_true_eq];exact h),if_neg h]
theorem sub_f {a b : Int} (ha : In64 a) (hb : In64 b) (k : Nat) (hk : 100 ≤ k) : verdererref03_Sub.f k a b = some (fitF (a - b)) := by
  obtain ⟨k,rfl⟩ : ∃ m,k = m + 6 := ⟨k - 6,by omega⟩
  unfold verdererref03_Sub.f
  rw [big_f ha,big_f hb]
  simp only [Option.bind_some]
  have fa := four_from a ha 16
  have fb := four_from b hb 16
  obtain ⟨s,l,e,h1,h2,h3⟩ := plus_f (four a) (four b) (decide (a < 0)) (!decide (b < 0)) (four_dg a ha) (four_dg b hb) (by simp [four]) (by simp [four]) (by rw [show (20 : Nat) = 4 + 16 from rfl,fa,fb];unfold In64 at ha hb;rw [show (65536 : Int) ^ (4 + 16) = 2135987035920910082395021706169552114602704522356652769947041607822219725780640550022962086936576 from by decide +kernel];split <;> split <;> omega) (k + 6) (by omega)
  have hs : sg (!decide (b < 0)) (if b < 0 then -b else b) = -b := by
    unfold sg
    by_cases h : b < 0 <;> simp [h]
  rw [show (20 : Nat) = 4 + 16 from rfl,fa,fb,sg_four,hs] at h3
  rw [e]
  simp only [Option.bind_some]
  rw [value_f l s h2 (by omega) (k + 6) (by omega),show (20 : Nat) = 4 + 16 from rfl,h3,Int.sub_eq_add_neg]
  rfl
end Go.Proofs.Ytcenlehfbgnphaa.Z
end
section
namespace Go.Proofs.Ytcenlehfbgnphaa.Z
set_option linter.unusedVariables false
set_option linter.unusedSimpArgs false
set_option maxHeartbeats 1000000
open Go.RowKit Go.Proofs.YtcenlehfbgnphaaW.PrintWords Go.Proofs.YtcenlehfbgnphaaW.PrintLast Go.Proofs.YtcenlehfbgnphaaW.PrintMore
theorem dg_set (l : List Int) (p : Nat) (d : Int) (h : p < l.length) (n : Nat) : dg (l.set p d) n = if n = p then d else dg l n := by
  unfold dg
  by_cases e : n = p
  · subst e;simp [List.getD,h]
  · rw [if_neg e];simp [List.getD,List.getElem?_set_ne (fun q => e q.symm)]
theorem from_set (l : List Int) (p : Nat) (d : Int) (h : p < l.length) : ∀ n,from_ (l.set p d) 0 n = from_ l 0 n + (if p < n then 65536 ^ p * (d - dg l p) else 0) := by
  intro n
  induction n with
  | zero => simp [from_]
  | succ n ih =>
    rw [from_top,from_top,ih,Nat.zero_add,dg_set l p d h]
    rcases Nat.lt_trichotomy p n with g | g | g
    · rw [if_pos g,if_neg (show ¬ n = p by omega),if_pos (show p < n + 1 by omega)];omega
    · subst g
      rw [if_neg (show ¬ p < p by omega),if_pos rfl,if_pos (show p < p + 1 by omega),Int.mul_sub];omega
    · rw [if_neg (show ¬ p < n by omega),if_neg (show ¬ n = p by omega),if_neg (show ¬ p < n + 1 by omega)];omega
theorem step_sum {p a b F c o : Int} : p * ((o + a * b + c) % 65536 - o) + p * 65536 * ((o + a * b + c) / 65536 + a * F) = p * (c + a * (b + 65536 * F)) := by
  rw [Int.mul_assoc,← Int.mul_add]
  congr 1
  have e : a * (b + 65536 * F) = a * b + 65536 * (a * F) := by rw [Int.mul_add,Int.mul_left_comm]
  rw [e]
  omega
theorem pw_mono {m n : Nat} (h : m ≤ n) : (65536 : Int) ^ m ≤ 65536 ^ n := by
  obtain ⟨d,rfl⟩ : ∃ d,n = m + d := ⟨n - m,by omega⟩
  rw [Int.pow_add]
  have h1 := Int.mul_le_mul_of_nonneg_left (show (1 : Int) ≤ 65536 ^ d from pw_pos d) (Int.le_of_lt (pw_pos m))
  omega
theorem prod_lt {a b A B : Int} (a0 : 0 ≤ a) (b0 : 0 ≤ b) (h1 : a ≤ A) (h2 : b ≤ B) : 0 ≤ a * b ∧ a * b ≤ A * B := ⟨Int.mul_nonneg a0 b0,Int.mul_le_mul h1 h2 b0 (by omega)⟩
theorem from_succ (l : List Int) (i n : Nat) : from_ l i (n + 1) = dg l i + 65536 * from_ l (i + 1) n := rfl
theorem times_eq (p A B F c o V : Int) : V + p * ((o + A * B + c) % 65536 - o) + p * 65536 * ((o + A * B + c) / 65536 + A * F) = V + p * (c + A * (B + 65536 * F)) := by
  have h := @step_sum p A B F c o
  rw [Int.add_assoc,h]
theorem times_fin {a b F c o X Y Z q Fb : Int} (n : Nat) {n' : Nat} (hs : Z = Y + (if n < n' then 65536 ^ n * ((o + a * b + c) % 65536 - o) else 0)) (hn : n < n') (hF : Fb = b + 65536 * F) (r : X + q = Z + 65536 ^ (n + 1) * ((o + a * b + c) / 65536 + a * F)) : X + q = Y + 65536 ^ n * (c + a * Fb) := by
  rw [if_pos hn] at hs
  rw [r,hs,hF,Int.pow_succ]
  generalize (65536 : Int) ^ n = P
  exact times_eq P a b F c o Y
theorem wrap_sum {m n : Nat} (h : m + n ≤ 1000) : wrap64 ((m : Int) + (n : Int)) = ((m + n : Nat) : Int) := by unfold wrap64;omega
theorem wrap_step {o q c : Int} (o0 : 0 ≤ o) (o1 : o < 65536) (q0 : 0 ≤ q) (q1 : q ≤ 65535 * 65535) (h0 : 0 ≤ c) (h1 : c ≤ 65535) : IntKind.u64.wrap (IntKind.u64.wrap (o + IntKind.u64.wrap q) + c) = o + q + c := by
  rw [Go.IntKind.wrap_u64,Go.IntKind.wrap_u64,Go.IntKind.wrap_u64];omega
theorem times_l1 (a b : List Int) (na nb s : Bool) (ha : Dg a) (hb : Dg b) (la : a.length ≤ 1000) (lb : b.length ≤ 1000) (i : Nat) (hi : i < 4) : ∀ m (j : Nat) (c : Int) (out : List Int) k,j + m = 12 → out.length = 20 → Dg out → 0 ≤ c → c ≤ 65535 →
    ∃ out' c',out'.length = 20 ∧ Dg out' ∧ 0 ≤ c' ∧ c' ≤ 65535 ∧ from_ out' 0 20 + 65536 ^ (i + 12) * c' = from_ out 0 20 + 65536 ^ (i + j) * (c + dg a i * from_ b j m) ∧ verdererref03_Times.l1 (k + m + 1) (i : Int) c (j : Int) na a nb b s out = verdererref03_Times.l0 k ((i + 1 : Nat) : Int) na a nb b s out' := by
  intro m
  induction m with
  | zero =>
    intro j c out k hj ho hd h0 h1
    refine ⟨out,c,ho,hd,h0,h1,?_,?_⟩
    · obtain rfl : j = 12 := by omega
      have e : from_ b 12 0 = 0 := rfl
      rw [e,Int.mul_zero,Int.add_zero]
    · simp only [Nat.add_zero,verdererref03_Times.l1]
      rw [if_neg (by omega),wrap_id1 (by omega) (by omega)]
      rfl
  | succ m ih =>
    intro j c out k hj ho hd h0 h1
    obtain ⟨a0,a1⟩ := ha i
    obtain ⟨b0,b1⟩ := hb j
    obtain ⟨o0,o1⟩ := hd (i + j)
    obtain ⟨q0,q1⟩ := prod_lt a0 b0 (show dg a i ≤ 65535 by omega) (show dg b j ≤ 65535 by omega)
    have hlt : i + j < out.length := by omega
    have ed : 0 ≤ dg out (i + j) + dg a i * dg b j + c := by omega
    have h20 : i + j < 20 := by omega
    have k1 : k + (m + 1) + 1 = (k + m + 1) + 1 := by omega
    have k2 : (j : Int) < 12 := by omega
    have k3 : 0 ≤ ((i + j : Nat) : Int) := by omega
    have k4 : ((i + j : Nat) : Int) < (out.length : Int) := by omega
    have k5 : (dg out (i + j) + dg a i * dg b j + c) / 65536 % 18446744073709551616 = (dg out (i + j) + dg a i * dg b j + c) / 65536 := by omega
    have k7 : j + 1 + m = 12 := by omega
    have k8 : 0 ≤ (dg out (i + j) + dg a i * dg b j + c) / 65536 := by omega
    have k9 : (dg out (i + j) + dg a i * dg b j + c) / 65536 ≤ 65535 := by omega
    have kd : Dg (out.set (i + j) ((dg out (i + j) + dg a i * dg b j + c) % 65536)) := by
      intro n
      rw [dg_set _ _ _ hlt]
      split
      · omega
      · exact hd n
    have kl : (out.set (i + j) ((dg out (i + j) + dg a i * dg b j + c) % 65536)).length = 20 := by simpa using ho
    have h12 : j + 1 ≤ 1000 := by omega
    have ei : wrap64 ((i : Int) + (j : Int)) = ((i + j : Nat) : Int) := wrap_sum (by omega)
    have er : rd out ((i + j : Nat) : Int) = dg out (i + j) := rfl
    have e : IntKind.u64.wrap (IntKind.u64.wrap (dg out (i + j) + IntKind.u64.wrap (dg a i * dg b j)) + c) = dg out (i + j) + dg a i * dg b j + c := wrap_step o0 o1 q0 q1 h0 h1
    have k6 : wrap64 ((j : Int) + 1) = ((j + 1 : Nat) : Int) := wrap_sum (n := 1) h12
    have fs := from_set out (i + j) ((dg out (i + j) + dg a i * dg b j + c) % 65536) hlt 20
    have fb := from_succ b j m
    obtain ⟨out',c',r1,r2,r3,r4,r5,r6⟩ := ih (j + 1) _ _ k k7 kl kd k8 k9
    refine ⟨out',c',r1,r2,r3,r4,?_,?_⟩
    · exact times_fin (i + j) fs h20 fb r5
    · rw [k1,verdererref03_Times.l1,if_pos k2,ei,if_pos k3,if_pos k4,at_f _ _ la,at_f _ _ lb,Option.bind_some,Option.bind_some,er,e,Int.tdiv_eq_ediv_of_nonneg ed,Int.tmod_eq_emod_of_nonneg ed,Go.IntKind.wrap_u64,k5,k6,show ((i + j : Nat) : Int).toNat = i + j from rfl]
      exact r6
theorem times_l0 (a b : List Int) (na nb s : Bool) (ha : Dg a) (hb : Dg b) (la : a.length ≤ 1000) (lb : b.length ≤ 1000) (hB : from_ b 0 12 < 65536 ^ 4) : ∀ m (i : Nat) (out : List Int) k,i + m = 4 → out.length = 20 → Dg out → from_ out 0 20 = from_ a 0 i * from_ b 0 12 →
    ∃ out',out'.length = 20 ∧ Dg out' ∧ from_ out' 0 20 = from_ a 0 4 * from_ b 0 12 ∧ verdererref03_Times.l0 (k + 14 * m + 1) (i : Int) na a nb b s out = some (s,out') := by
  intro m
  induction m with
  | zero =>
    intro i out k hi ho hd hv
    refine ⟨out,ho,hd,by rw [hv,show i = 4 by omega],?_⟩
    simp only [Nat.mul_zero,Nat.add_zero,verdererref03_Times.l0]
    rw [if_neg (by omega)]
  | succ m ih =>
    intro i out k hi ho hd hv
    obtain ⟨out',c',r1,r2,r3,r4,r5,r6⟩ := times_l1 a b na nb s ha hb la lb i (by omega) 12 0 0 out (k + 14 * m + 1) (by omega) ho hd (by omega) (by omega)
    have hv' : from_ a 0 (i + 1) * from_ b 0 12 = from_ out 0 20 + 65536 ^ (i + 0) * (0 + dg a i * from_ b 0 12) := by
      rw [from_top,Nat.zero_add,hv,Nat.add_zero,Int.zero_add,Int.add_mul,Int.mul_assoc]
    rw [← hv'] at r5
    obtain ⟨A0,A1⟩ := from_lt ha (i + 1) 0
    obtain ⟨B0,B1⟩ := from_lt hb 12 0
    obtain ⟨o0,o1⟩ := from_lt r2 20 0
    have hp := pw_pos i
    have hA : from_ a 0 (i + 1) ≤ 65536 ^ 4 := by
      have : (65536 : Int) ^ (i + 1) ≤ 65536 ^ 4 := pw_mono (by omega)
      omega
    obtain ⟨P0,P1⟩ := prod_lt A0 B0 hA (Int.le_of_lt hB)
    have hz : c' = 0 := by
      rcases (show c' = 0 ∨ 1 ≤ c' by omega) with e | e
      · exact e
      · exfalso
        have h1 : (65536 : Int) ^ 12 ≤ 65536 ^ (i + 12) := pw_mono (by omega)
        have h2 : (65536 : Int) ^ (i + 12) * 1 ≤ 65536 ^ (i + 12) * c' := Int.mul_le_mul_of_nonneg_left e (Int.le_of_lt (pw_pos _))
        have h3 : (65536 : Int) ^ 4 * 65536 ^ 4 < 65536 ^ 12 := by decide +kernel
        generalize (65536 : Int) ^ (i + 12) = p at *
        generalize (65536 : Int) ^ 12 = q at *
        generalize (65536 : Int) ^ 4 * 65536 ^ 4 = r at *
        omega
    rw [hz,Int.mul_zero,Int.add_zero] at r5
    obtain ⟨out2,s1,s2,s3,s4⟩ := ih (i + 1) out' k (by omega) r1 r2 r5
    refine ⟨out2,s1,s2,s3,?_⟩
    rw [show k + 14 * (m + 1) + 1 = (k + 14 * m + 1) + 12 + 1 + 1 by omega]
    rw [verdererref03_Times.l0,if_pos (by omega)]
    rw [show ((0 : Nat) : Int) = 0 from rfl] at r6
    rw [r6]
    exact s4
theorem four_lt (b : Int) (hb : In64 b) : from_ (four b) 0 12 < 65536 ^ 4 := by
  have fb := four_from b hb 8
  have e : from_ (four b) 0 12 = (if b < 0 then -b else b) := fb
  rw [e,show (65536 : Int) ^ 4 = 18446744073709551616 by decide +kernel]
  unfold In64 at hb
  split <;> omega
theorem zeros_from : from_ (List.replicate 20 (0 : Int)) 0 20 = 0 := by decide +kernel
theorem zeros_dg : Dg (List.replicate 20 (0 : Int)) := dg_of (fun x hx => by rw [List.eq_of_mem_replicate hx];omega)
theorem four_len (a : Int) : (four a).length ≤ 1000 := by simp [four]
theorem times_f {a b : Int} (ha : In64 a) (hb : In64 b) (k : Nat) (hk : 100 ≤ k) : ∃ l,l.length = 20 ∧ Dg l ∧ sg (decide (a < 0) != decide (b < 0)) (from_ l 0 20) = a * b ∧ verdererref03_Times.f k a b = some (decide (a < 0) != decide (b < 0),l) := by
  obtain ⟨k,rfl⟩ : ∃ m,k = m + 14 * 4 + 1 := ⟨k - 57,by omega⟩
  obtain ⟨l,h1,h2,h3,h4⟩ := times_l0 (four a) (four b) (decide (a < 0)) (decide (b < 0)) (decide (a < 0) != decide (b < 0)) (four_dg a ha) (four_dg b hb) (four_len a) (four_len b) (four_lt b hb) 4 0 (List.replicate 20 0) k (by omega) List.length_replicate zeros_dg (by rw [zeros_from,show from_ (four a) 0 0 = 0 from rfl,Int.zero_mul])
  rw [show ((0 : Nat) : Int) = 0 from rfl] at h4
  refine ⟨l,h1,h2,?_,?_⟩
  · have fa : from_ (four a) 0 4 = (if a < 0 then -a else a) := four_from a ha 0
    have fb : from_ (four b) 0 12 = (if b < 0 then -b else b) := four_from b hb 8
    rw [h3,fa,fb]
    unfold sg
    by_cases h : a < 0 <;> by_cases g : b < 0 <;> simp [h,g,Int.neg_mul,Int.mul_neg]
  · have e1 : k + 14 * 4 + 1 = (k + 51) + 6 := rfl
    unfold verdererref03_Times.f
    rw [e1] at h4 ⊢
    rw [big_f ha,big_f hb,Option.bind_some,Option.bind_some,if_pos (by decide)]
    exact h4
end Go.Proofs.Ytcenlehfbgnphaa.Z
end
section
namespace Go.Proofs.Ytcenlehfbgnphaa.Z
set_option linter.unusedVariables false
set_option linter.unusedSimpArgs false
open Go.RowKit Go.Proofs.YtcenlehfbgnphaaW.PrintWords Go.Proofs.YtcenlehfbgnphaaW.PrintLast Go.Proofs.YtcenlehfbgnphaaW.PrintMore
theorem known28 : verdererlaw28_known.f 12 = some true := by decide +kernel
def Num (u : S45) : Prop := In64 u.f2 ∧ In64 u.f3
theorem room_f (u : S45) (h : Num u) : quota_Room.f u.f0 u.f1 u.f2 u.f3 = some (fitF (u.f3 - u.f2)) := by
  unfold quota_Room.f
  rw [safeSub_f h.2 h.1]
  rfl
theorem rroom_f (u : S45) (h : Num u) (k : Nat) (hk : 100 ≤ k) : verdererref28_Room.f k u.f0 u.f1 u.f2 u.f3 = some (fitF (u.f3 - u.f2)) := by
  unfold verdererref28_Room.f
  rw [sub_f h.2 h.1 k hk]
  rfl
def worse (b u : S45) : S45 := if lessB u.f3 u.f2 b.f3 b.f2 then u else b
def tup (u : S45) : ByteArray × ByteArray × Int × Int × Int := (u.f0,u.f1,u.f2,u.f3,0)
theorem qless_f (u b : S45) (hu : Num u) (hb : Num b) : quota_less.f u.f0 u.f1 u.f2 u.f3 b.f0 b.f1 b.f2 b.f3 = some (lessB u.f3 u.f2 b.f3 b.f2) := if_pos ⟨hu.1,hu.2,hb.1,hb.2⟩
theorem worst_l0 (l : List S45) (hl : l.length ≤ 1000000) (hn : ∀ u ∈ l,Num u) : ∀ m (i : Nat) (b : S45) k,i + m = l.length → Num b → m < k → quota_Worst.l0 k l (l.length : Int) (i : Int) b.f0 b.f1 b.f2 b.f3 = some (tup ((l.drop i).foldl worse b)) := by
  intro m
  induction m with
  | zero =>
    intro i b k hi hb hk
    obtain ⟨k,rfl⟩ : ∃ m,k = m + 1 := ⟨k - 1,by omega⟩
    simp only [quota_Worst.l0]
    rw [if_neg (by omega),List.drop_eq_nil_of_le (by omega)]
    rfl
  | succ m ih =>
    intro i b k hi hb hk
    obtain ⟨k,rfl⟩ : ∃ m,k = m + 1 := ⟨k - 1,by omega⟩
    have h : i < l.length := by omega
    have hu := hn l[i] (List.getElem_mem h)
    simp only [quota_Worst.l0]
    rw [if_pos (by omega),if_pos (by omega),if_pos (by omega),rd_get l i h,wrap_nx h hl,List.drop_eq_getElem_cons h,qless_f _ _ hu hb,Option.bind_some,List.foldl_cons]
    have hw : worse b l[i] = if lessB l[i].f3 l[i].f2 b.f3 b.f2 then l[i] else b := rfl
    by_cases c : lessB l[i].f3 l[i].f2 b.f3 b.f2 = true
    · rw [if_pos c] at hw ⊢
      rw [hw,ih (i + 1) l[i] k (by omega) hu (by omega)]
    · rw [if_neg c] at hw ⊢
      rw [hw,ih (i + 1) b k (by omega) hb (by omega)]
def worstOf : List S45 → ByteArray × ByteArray × Int × Int × Int
  | [] => ((⟨#[]⟩ : ByteArray),(⟨#[]⟩ : ByteArray),0,0,5)
  | u :: l => tup (l.foldl worse u)
theorem worst_f (l : List S45) (hl : l.length ≤ 1000000) (hn : ∀ u ∈ l,Num u) (k : Nat) (hk : l.length < k) : quota_Worst.f k l = some (worstOf l) := by
  unfold quota_Worst.f
  cases l with
  | nil => rfl
  | cons u t =>
    simp only [List.length_cons] at hl hk ⊢
    rw [if_neg (by omega),if_pos (by omega),if_pos (by omega)]
    exact worst_l0 t (by omega) (fun x hx => hn x (List.mem_cons_of_mem _ hx)) t.length 0 u k (by omega) (hn u List.mem_cons_self) (by omega)
theorem sg_neg (s : Bool) (v : Int) : sg (!s) v = -sg s v := by cases s <;> simp [sg]
theorem sign_l0 (l : List Int) (s : Bool) (hd : Dg l) (hl : l.length ≤ 1000) : ∀ m (i : Nat) k,i + m = 20 → m < k → verdererref03_Big_Sign.l0 k (i : Int) s l = some (if 0 < from_ l i m then (if s then -1 else 1) else 0) := by
  intro m
  induction m with
  | zero =>
    intro i k hi hk
    obtain ⟨k,rfl⟩ : ∃ m,k = m + 1 := ⟨k - 1,by omega⟩
    simp only [verdererref03_Big_Sign.l0]
    rw [if_neg (by omega)]
    rfl
  | succ m ih =>
    intro i k hi hk
    obtain ⟨k,rfl⟩ : ∃ m,k = m + 1 := ⟨k - 1,by omega⟩
    obtain ⟨d0,d1⟩ := hd i
    obtain ⟨f0,f1⟩ := from_lt hd m (i + 1)
    simp only [verdererref03_Big_Sign.l0]
    clear f1
    rw [if_pos (by omega),at_f _ _ hl,Option.bind_some,from_succ]
    by_cases c : dg l i > 0
    · rw [if_pos c]
      have hp : 0 < dg l i + 65536 * from_ l (i + 1) m := by omega
      cases s <;> simp [hp]
    · rw [if_neg c,wrap_nx (show i < 20 by omega) (by omega),ih (i + 1) k (by omega) (by omega)]
      have : (0 < from_ l (i + 1) m) = (0 < dg l i + 65536 * from_ l (i + 1) m) := by rw [eq_iff_iff];omega
      simp only [this]
theorem sign_f (l : List Int) (s : Bool) (hd : Dg l) (hl : l.length ≤ 1000) (k : Nat) (hk : 20 < k) : verdererref03_Big_Sign.f k s l = some (sgnF (sg s (from_ l 0 20))) := by
  unfold verdererref03_Big_Sign.f
  have := sign_l0 l s hd hl 20 0 k (by omega) hk
  rw [show ((0 : Nat) : Int) = 0 from rfl] at this
  rw [this]
  obtain ⟨f0,f1⟩ := from_lt hd 20 0
  clear this f1
  generalize from_ l 0 20 = V at *
  unfold sgnF sg
  cases s
  · simp only [Bool.false_eq_true,if_false]
    congr 1
    split <;> split <;> (try split) <;> omega
  · simp only [if_true]
    congr 1
    split <;> split <;> (try split) <;> omega
theorem sg_abs {s : Bool} {v : Int} (h : 0 ≤ v) : v = if sg s v < 0 then -sg s v else sg s v := by
  unfold sg
  cases s
  · simp only [Bool.false_eq_true,if_false];split <;> omega
  · simp only [if_true];split <;> omega
theorem p20 : (65536 : Int) ^ 20 = 2135987035920910082395021706169552114602704522356652769947041607822219725780640550022962086936576 := by decide +kernel
theorem rr_f (u : S45) (h : Num u) (k : Nat) (hk : 100 ≤ k) : ∃ s l,verdererref28_room.f k u.f0 u.f1 u.f2 u.f3 = some (s,l) ∧ l.length = 20 ∧ Dg l ∧ sg s (from_ l 0 20) = u.f3 - u.f2 := by
  obtain ⟨l1,a1,a2,a3,a4⟩ := times_f h.2 (show In64 1 by unfold In64;omega) k hk
  obtain ⟨l2,b1,b2,b3,b4⟩ := times_f h.1 (show In64 (-1) by unfold In64;omega) k hk
  obtain ⟨f0,f1⟩ := from_lt a2 20 0
  obtain ⟨g0,g1⟩ := from_lt b2 20 0
  have hs1 := sg_abs (s := (decide (u.f3 < 0) != decide ((1 : Int) < 0))) f0
  have hs2 := sg_abs (s := (decide (u.f2 < 0) != decide ((-1 : Int) < 0))) g0
  rw [a3] at hs1
  rw [b3] at hs2
  obtain ⟨n1,n2⟩ := h
  have hb : from_ l1 0 20 + from_ l2 0 20 < 65536 ^ 20 := by
    rw [p20,hs1,hs2]
    unfold In64 at n1 n2
    split <;> split <;> omega
  obtain ⟨s,l,e,h1,h2,h3⟩ := plus_f l1 l2 _ _ a2 b2 (by omega) (by omega) hb k (by omega)
  refine ⟨s,l,?_,h1,h2,?_⟩
  · unfold verdererref28_room.f
    rw [a4,Option.bind_some,b4,Option.bind_some]
    simp only
    rw [e]
    rfl
  · rw [h3,a3,b3]
    omega
theorem rworst_l0 (l : List S45) (hl : l.length ≤ 1000000) (hn : ∀ u ∈ l,Num u) : ∀ m (i : Nat) (b : S45) k,i + m = l.length → Num b → m + 120 < k → verdererref28_Worst.l0 k l (i : Int) b.f0 b.f1 b.f2 b.f3 = some (tup ((l.drop i).foldl worse b)) := by
  intro m
  induction m with
  | zero =>
    intro i b k hi hb hk
    obtain ⟨k,rfl⟩ : ∃ m,k = m + 1 := ⟨k - 1,by omega⟩
    simp only [verdererref28_Worst.l0]
    rw [if_neg (by omega),List.drop_eq_nil_of_le (by omega)]
    rfl
  | succ m ih =>
    intro i b k hi hb hk
    obtain ⟨k,rfl⟩ : ∃ m,k = m + 1 := ⟨k - 1,by omega⟩
    have h : i < l.length := by omega
    have hu := hn l[i] (List.getElem_mem h)
    obtain ⟨s1,l1,e1,a1,a2,a3⟩ := rr_f b hb k (by omega)
    obtain ⟨s2,l2,e2,b1,b2,b3⟩ := rr_f l[i] hu k (by omega)
    obtain ⟨f0,f1⟩ := from_lt a2 20 0
    obtain ⟨g0,g1⟩ := from_lt b2 20 0
    have hs1 := sg_abs (s := s1) f0
    have hs2 := sg_abs (s := s2) g0
    rw [a3] at hs1
    rw [b3] at hs2
    have hbd : from_ l2 0 20 + from_ l1 0 20 < 65536 ^ 20 := by
      rw [p20,hs1,hs2]
      obtain ⟨n1,n2⟩ := hb
      obtain ⟨n3,n4⟩ := hu
      unfold In64 at n1 n2 n3 n4
      split <;> split <;> omega
    obtain ⟨s3,l3,e3,c1,c2,c3⟩ := plus_f l2 l1 s2 (!s1) b2 a2 (by omega) (by omega) hbd k (by omega)
    rw [sg_neg,a3,b3] at c3
    simp only [verdererref28_Worst.l0]
    rw [if_pos (by omega),e1,Option.bind_some,if_pos (by omega),rd_get l i h,e2,Option.bind_some]
    simp only
    rw [e3,Option.bind_some]
    simp only
    rw [sign_f l3 s3 c2 (by omega) k (by omega),Option.bind_some,c3,wrap_nx h hl,List.drop_eq_getElem_cons h,List.foldl_cons]
    have hw : worse b l[i] = if lessB l[i].f3 l[i].f2 b.f3 b.f2 then l[i] else b := rfl
    have hc : (sgnF (l[i].f3 - l[i].f2 + -(b.f3 - b.f2)) < 0) ↔ lessB l[i].f3 l[i].f2 b.f3 b.f2 = true := by
      unfold sgnF lessB
      rw [decide_eq_true_eq]
      split
      · omega
      · split <;> omega
    by_cases c : lessB l[i].f3 l[i].f2 b.f3 b.f2 = true
    · rw [if_pos c] at hw
      rw [if_pos (hc.2 c),hw,ih (i + 1) l[i] k (by omega) hu (by omega)]
    · rw [if_neg c] at hw
      rw [if_neg (fun q => c (hc.1 q)),hw,ih (i + 1) b k (by omega) hb (by omega)]
theorem rworst_f (l : List S45) (hl : l.length ≤ 1000000) (hn : ∀ u ∈ l,Num u) (k : Nat) (hk : l.length + 120 < k) : verdererref28_Worst.f k l = some (worstOf l) := by
  unfold verdererref28_Worst.f
  cases l with
  | nil => rfl
  | cons u t =>
    have := rworst_l0 (u :: t) hl hn t.length 1 u k (by simp;omega) (hn u List.mem_cons_self) (by simp at hk;omega)
    simp only [List.length_cons] at hl hk ⊢
    rw [if_neg (by omega),if_pos (by omega)]
    exact this
end Go.Proofs.Ytcenlehfbgnphaa.Z
end
section
namespace Go.Proofs.Ytcenlehfbgnphaa.Z
open Go.RowKit Go.Proofs.YtcenlehfbgnphaaW.PrintWords Go.Proofs.YtcenlehfbgnphaaW.PrintLast Go.Proofs.YtcenlehfbgnphaaW.PrintMore
theorem in64_of {a : Int} (h : (Lit.int .i64 a).wf = true) : In64 a := by
  simp [Lit.wf,IntKind.min,IntKind.max,IntKind.signed,IntKind.bits] at h
  unfold In64
  omega
theorem num_of {u : S45} (h : G45 u) : Num u := ⟨in64_of h.2.2.1,in64_of h.2.2.2⟩
theorem known28k (k : Nat) (hk : 12 ≤ k) : verdererlaw28_known.f k = some true := at_rounds verdererlaw28_known.mono hk known28
theorem tells_l0 (l : List S45) (hl : l.length ≤ 1000000) (hn : ∀ u ∈ l,Num u) : ∀ m (i : Nat) k,i + m = l.length → m + 120 < k → verdererlaw28_QuotaTells.l0 k l (i : Int) = some true := by
  intro m
  induction m with
  | zero =>
    intro i k hi hk
    obtain ⟨k,rfl⟩ : ∃ m,k = m + 1 := ⟨k - 1,by omega⟩
    simp only [verdererlaw28_QuotaTells.l0]
    rw [if_neg (by omega),known28k k (by omega)]
    rfl
  | succ m ih =>
    intro i k hi hk
    obtain ⟨k,rfl⟩ : ∃ m,k = m + 1 := ⟨k - 1,by omega⟩
    have h : i < l.length := by omega
    have hu := hn l[i] (List.getElem_mem h)
    simp only [verdererlaw28_QuotaTells.l0]
    rw [if_pos (by omega),if_pos (by omega),rd_get l i h,room_f _ hu,Option.bind_some,rroom_f _ hu k (by omega),Option.bind_some,if_pos rfl,if_pos rfl,wrap_nx h hl]
    exact ih (i + 1) k (by omega) (by omega)
theorem quotaTells_pure : ∀ (l0 : (List S45)) (l1 : (List S45)),(l0.length ≤ maxLen ∧ ∀ x ∈ l0,G45 x) → (l1.length ≤ maxLen ∧ ∀ x ∈ l1,G45 x) → ∃ k,verdererlaw28_QuotaTells.f k l0 l1 = some true := by
  intro l0 l1 h0 h1
  have n1 : ∀ u ∈ l1,Num u := fun u hu => num_of (h1.2 u hu)
  refine ⟨500,?_⟩
  unfold verdererlaw28_QuotaTells.f
  by_cases c0 : (l0.length : Int) > 100
  · rw [if_pos c0]
    simp only [verdererlaw28_QuotaTells.j0,if_true]
    rw [known28k 499 (by decide)]
    rfl
  · rw [if_neg c0]
    simp only [verdererlaw28_QuotaTells.j0]
    by_cases c1 : (l1.length : Int) > 100
    · rw [if_pos (decide_eq_true c1),known28k 499 (by decide)]
      rfl
    · have e0 : l0.length ≤ 1000000 := by omega
      have e1 : l1.length ≤ 1000000 := by omega
      have hf := List.length_filter_le overB l1
      rw [if_neg (by rw [decide_eq_true_eq];exact c1),judge_f l0 l1 e0 e1 499 (by omega),Option.bind_some,rjudge_f l0 l1 e0 e1 499 (by omega),Option.bind_some,worst_f l1 e1 n1 499 (by omega),Option.bind_some,rworst_f l1 e1 n1 499 (by omega),Option.bind_some]
      rw [if_neg (by simp),if_pos rfl,if_neg (by simp),if_pos rfl,over_f l1 e1 499 (by omega),Option.bind_some,rover_f l1 e1 499 (by omega),Option.bind_some,same_f _ (by omega) 499 (by omega),Option.bind_some]
      simp only [verdererlaw28_QuotaTells.j1,Bool.not_true,Bool.false_eq_true,if_false]
      exact tells_l0 l1 e1 n1 l1.length 0 498 (by omega) (by omega)
end Go.Proofs.Ytcenlehfbgnphaa.Z
end
