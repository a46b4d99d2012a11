/-
  verdererlaw28.QuotaKeeps: for every input the law returns true, and each argument reads behind the call as it read before. No condition.
-/
import Derived.Test.YtcenlehfbgnphaaMQuotaKeepsa
import Derived.Test.YtcenlehfbgnphaaMQuotaKeepsb
import Derived.Test.YtcenlehfbgnphaaMQuotaKeepsc
import Derived.Test.YtcenlehfbgnphaaMQuotaKeepsd
import Derived.Test.YtcenlehfbgnphaaMQuotaKeepse
import Derived.Test.YtcenlehfbgnphaaMQuotaKeepsf
import Derived.Test.YtcenlehfbgnphaaMQuotaKeepsg
import Derived.Test.YtcenlehfbgnphaaRows
import Derived.WalkKit
import Derived.ProofKit
import Derived.OpenShut
import Derived.ShutString
import Derived.ChangeOld
import Derived.Below
section
namespace Go.Proofs.Ytcenlehfbgnphaa.Z
open Go.RowKit Go.Proofs.YtcenlehfbgnphaaW.PrintWords Go.Proofs.YtcenlehfbgnphaaW.PrintLast Go.Proofs.YtcenlehfbgnphaaW.PrintMore
attribute [local go_sem] max2_int min2_int max_two min_two max_three min_three max_four min_four
set_option linter.unusedVariables false
set_option linter.unusedSimpArgs false
def verdererref03_Sub.f (k : Nat) (a0 : Int) (a1 : Int) : Option (Int × Int) := (verdererref03_big.f k a1).bind fun bt155 => ((verdererref03_big.f k a0).bind fun bt160 => ((verdererref03_Plus.f k bt160.1 bt160.2 (!bt155.1) bt155.2).bind fun bt164 => ((verdererref03_Big_Value.f k bt164.1 bt164.2).bind fun bt168 => (some (bt168.1,bt168.2)))))
theorem verdererref03_Sub.mono : ∀ a0 a1 k,LeO (verdererref03_Sub.f k a0 a1) (verdererref03_Sub.f (k + 1) a0 a1) := by
  intro a0 a1 k
  unfold verdererref03_Sub.f
  repeat' first
      | (with_reducible exact verdererref03_Big_Value.mono _ _ _)
      | (with_reducible exact verdererref03_Plus.mono _ _ _ _ _)
      | (with_reducible exact verdererref03_big.mono _ _)
      | (with_reducible exact LeO.refl _)
      | (with_reducible exact LeO.none _)
      | (with_reducible refine LeO.ite ?_ ?_)
      | (with_reducible refine LeO.bind ?_ (fun _ => ?_))
      | exact verdererref03_Big_Value.mono _ _ _
      | exact verdererref03_Plus.mono _ _ _ _ _
      | exact verdererref03_big.mono _ _
      | exact LeO.none _
      | refine LeO.ite ?_ ?_
      | refine LeO.bind ?_ (fun _ => ?_)
def verdererref03_Sub.T3 : Bool × List (List Nat × List Nat) := (true,[([],[]),([0],[0]),([],[]),([1,2,1],[1,2]),([3,3],[3]),([4],[4]),([4],[4]),([5,4,0,1,2,3,4,5,6],[5]),([6,7,0,1,2,3,4,5,6,7],[6])])
def verdererref03_Sub.B3 : List Nat := [0,1,0,7,15,31,31,127,255]
theorem verdererref03_Sub.tab3 : rtab .any (opsOf Try.f26 3) = verdererref03_Sub.T3 := by kernel_rfl
theorem verdererref03_Sub.bits3 : waitsOk verdererref03_Sub.T3.2 verdererref03_Sub.B3 = true := by kernel_rfl
set_option maxHeartbeats 8000000 in
set_option maxRecDepth 100000 in
theorem verdererref03_Sub.calls (k : Nat) (a0 : Int) (a1 : Int) (r1 : Int) (r2 : Int) (w : World) (h : verdererref03_Sub.f k a0 a1 = some (r1,r2)) :
    Calls Try.prog 26 #[.int .i64 a0,.int .i64 a1] w fun e w' => e = .returned (.tuple #[.int .i64 r1,.int .i64 r2]) ∧ Below w.heap.size w w' := by
  have hu29 := Try.underlying29
  have HB := Aside0.mk (Below.refl w.heap.size w)
  have H : ((verdererref03_big.f k a1).bind fun bt155 => ((verdererref03_big.f k a0).bind fun bt160 => ((verdererref03_Plus.f k bt160.1 bt160.2 (!bt155.1) bt155.2).bind fun bt164 => ((verdererref03_Big_Value.f k bt164.1 bt164.2).bind fun bt168 => (some (bt168.1,bt168.2)))))) = some (r1,r2) := h
  clear h
  replace H := Option.bind_eq_some_iff.mp H
  obtain ⟨⟨t155,t156⟩,A30,H⟩ := H
  replace H : ((verdererref03_big.f k a0).bind fun bt160 => ((verdererref03_Plus.f k bt160.1 bt160.2 (!t155) t156).bind fun bt164 => ((verdererref03_Big_Value.f k bt164.1 bt164.2).bind fun bt168 => (some (bt168.1,bt168.2))))) = some (r1,r2) := H
  have A3 := Aside0.mk A30
  clear A30
  replace H := Option.bind_eq_some_iff.mp H
  obtain ⟨⟨t160,t161⟩,A40,H⟩ := H
  replace H : ((verdererref03_Plus.f k t160 t161 (!t155) t156).bind fun bt164 => ((verdererref03_Big_Value.f k bt164.1 bt164.2).bind fun bt168 => (some (bt168.1,bt168.2)))) = some (r1,r2) := H
  have A4 := Aside0.mk A40
  clear A40
  replace H := Option.bind_eq_some_iff.mp H
  obtain ⟨⟨t164,t165⟩,A50,H⟩ := H
  replace H : ((verdererref03_Big_Value.f k t164 t165).bind fun bt168 => (some (bt168.1,bt168.2))) = some (r1,r2) := H
  have A5 := Aside0.mk A50
  clear A50
  replace H := Option.bind_eq_some_iff.mp H
  obtain ⟨⟨t168,t169⟩,A60,H⟩ := H
  replace H : (some (t168,t169)) = some (r1,r2) := H
  have A6 := Aside0.mk A60
  clear A60
  simp only [Option.some.injEq,Prod.mk.injEq] at H
  obtain ⟨rfl,rfl⟩ := H
  go_enter Try.func26,Try.ntmps26
  try go_wp2_with (first | ((with_reducible refine gate_callee (f := 61) rfl ?_);refine goesL_ (some 8) rfl rfl Try.func61 (by kernel_rfl) rfl #[.int .i64 a1] rfl (by (try simp only [List.map_toArray,List.map_cons,List.map_nil]);first | done | rfl | (simp only [List.length_drop,List.length_take];rfl)) ?_;(with_reducible refine (verdererref03_big.calls k a1 t155 t156 _ A3.out).mono ?_);rintro e w7 ⟨v157,rfl,ho0,hb⟩;refine ⟨_,rfl,?_⟩;have n0_ := Aside0.mk (Kd.R_lower ho0 (below_size (by repeat (first | (with_reducible first | exact HB.out | apply below_alloc | apply pw_below_drewN | apply below_drew1) | exact HB.out))));have n1_ := Aside0.mk (below_step (by repeat (first | (with_reducible first | exact HB.out | apply below_alloc | apply pw_below_drewN | apply below_drew1) | exact HB.out)) hb);clear HB;have HO158 := n0_;have HB := n1_;clear n0_ n1_;(try clear hb);(try clear hb2);(try clear hk);(try clear hi);(try clear ho0)) | ((with_reducible refine gate_dst (N := 6) rfl ?_);refine box_event ?hg (N := 6) ?hd (cs := #[.bool false,.slice none 0 0]) (t := 29) ?hr ?_;(case hd => rfl);(case hg => rfl);(case hr => first | (go_simp;done) | (go_simp;rfl));intro gb159 hg w8 hbox hb;have n0_ := Aside0.mk (Kd.R_below (by (with_reducible repeat (first | apply Kd.R_alloc | apply Kd.R_drewN | apply Kd.R_drew));exact HO158.out) hb);have n1_ := Aside0.mk (below_step (by repeat (first | (with_reducible first | exact HB.out | apply below_alloc | apply pw_below_drewN | apply below_drew1) | exact HB.out)) hb);have n2_ := Aside0.mk (hbox);have n3_ := Aside0.mk ((by rw [hg];exact (below_size (by repeat (first | (with_reducible first | exact HB.out | apply below_alloc | apply pw_below_drewN | apply below_drew1) | exact HB.out))) : w.heap.size ≤ gb159));have n4_ := Aside0.mk ((by rw [hg];exact (below_size (by repeat (first | (with_reducible first | exact HB.out | apply below_alloc | apply pw_below_drewN | apply below_drew1) | exact HB.out))) : w.heap.size ≤ gb159));clear HO158;clear HB;have HO158 := n0_;have HB := n1_;have BK159 := n2_;have GW159 := n3_;have GE159 := n4_;clear n0_ n1_ n2_ n3_ n4_;clear hb hbox hg;have hcz9_0 : w8.cell? ⟨gb159,0,none⟩ = some (.bool false) := (blk_cell BK159.out 0).trans rfl;have hcz9_1 : w8.cell? ⟨gb159,1,none⟩ = some (.slice none 0 0) := (blk_cell BK159.out 1).trans rfl;have hfz9_0 := blk_frozen BK159.out 0;have hfz9_1 := blk_frozen BK159.out 1;obtain ⟨Ao10,co10,eo10⟩ := Kd.R_slice HO158.out;subst eo10))
  have n0_ : Aside0 (Kd.R (Kd.int .u64) 96 (((w8.setCell ⟨gb159,0,none⟩ (.bool t155)).setCell ⟨gb159,1,none⟩ (.slice Ao10 t156.length co10)).setCell ⟨gb159,0,none⟩ (.bool (!t155))) w.heap.size (fun _ => True) (.slice Ao10 t156.length co10) t156) := ⟨by (with_reducible repeat (first | apply Kd.R_alloc | apply Kd.R_drewN | apply Kd.R_drew));exact Kd.R_mono (Kd.R_far (p := ⟨gb159,0,none⟩) (Kd.R_far (p := ⟨gb159,1,none⟩) (Kd.R_far (p := ⟨gb159,0,none⟩) (Kd.R_types HO158.out BK159.out (by decide)) (fun _ hk => hk.2) (.bool t155)) (fun _ hk => hk.2) (.slice Ao10 t156.length co10)) (fun _ hk => hk.2) (.bool (!t155))) (fun _ hk => trivial)⟩
  have n1_ : Aside0 ((((w8.setCell ⟨gb159,0,none⟩ (.bool t155)).setCell ⟨gb159,1,none⟩ (.slice Ao10 t156.length co10)).setCell ⟨gb159,0,none⟩ (.bool (!t155))).heap[gb159]? = some (.cells #[.bool (!t155),.slice Ao10 t156.length co10] 29 (0,0))) := ⟨by (with_reducible repeat (first | refine blk_drewN ?_ _ | refine blk_drew ?_ | refine blk_alloc ?_ _));refine blk_put (cs := #[.bool t155,.slice Ao10 t156.length co10]) ?_ 0 _ rfl;(with_reducible repeat (first | refine blk_drewN ?_ _ | refine blk_drew ?_ | refine blk_alloc ?_ _));refine blk_put (cs := #[.bool t155,.slice none 0 0]) ?_ 1 _ rfl;(with_reducible repeat (first | refine blk_drewN ?_ _ | refine blk_drew ?_ | refine blk_alloc ?_ _));refine blk_put (cs := #[.bool false,.slice none 0 0]) ?_ 0 _ rfl;(with_reducible repeat (first | refine blk_drewN ?_ _ | refine blk_drew ?_ | refine blk_alloc ?_ _));exact BK159.out⟩
  have n2_ : Aside0 (Below w.heap.size w (((w8.setCell ⟨gb159,0,none⟩ (.bool t155)).setCell ⟨gb159,1,none⟩ (.slice Ao10 t156.length co10)).setCell ⟨gb159,0,none⟩ (.bool (!t155)))) := ⟨by repeat (first | (with_reducible first | exact HB.out | apply below_alloc | apply pw_below_drewN | apply below_drew1 | refine below_set ?_ GE159.out) | exact HB.out)⟩
  (try clear HO158)
  (try clear BK159)
  (try clear HB)
  generalize (((w8.setCell ⟨gb159,0,none⟩ (.bool t155)).setCell ⟨gb159,1,none⟩ (.slice Ao10 t156.length co10)).setCell ⟨gb159,0,none⟩ (.bool (!t155))) = w11 at n0_ n1_ n2_ ⊢
  have HO158 := n0_
  have BK159 := n1_
  have HB := n2_
  clear n0_ n1_ n2_
  have n0_ := Aside0.mk (Kd.R_drew HO158.out)
  have n1_ := Aside0.mk (blk_drew BK159.out)
  have n2_ := Aside0.mk (below_drew1 HB.out)
  clear HO158
  clear BK159
  clear HB
  have HO158 := n0_
  have BK159 := n1_
  have HB := n2_
  clear n0_ n1_ n2_
  refine start_ (n := 9) (S := fun w' => w'.cell? ⟨gb159,0,none⟩ = some (.bool (!t155)) ∧ w'.cell? ⟨gb159,1,none⟩ = some (.slice Ao10 t156.length co10)) (ds := []) #[false,false,false,false,false,false,false,false,false] (by kernel_rfl) rfl rfl ⟨(blk_cell BK159.out 0).trans rfl,(blk_cell BK159.out 1).trans rfl⟩ (fun hHeld => ?_);refine with_tabW verdererref03_Sub.tab3 verdererref03_Sub.bits3 (fun HT_ HW_ => ?_)
  generalize w11.drew = w12 at HO158 BK159 HB hHeld ⊢
  refine pure_ (i := 0) (N := some 13) (v := ?_) (a' := ?_) #[true,false,false,false,false,false,false,false,false] rfl rfl (any_of HT_.out (by kernel_rfl)) (fun _ _ _ h => h) (Or.inl ⟨by rfl,?_⟩) ?_ ?_
  rotate_left
  · intro w'
    go_simp
    with_reducible rfl
  rotate_left
  · simp only [Act.put,zA,zB,zC,i64_w,i32_w]
    rfl
  refine take_ (i := 2) (N := some 15) (v := ?_) (a' := ?_) #[true,false,true,false,false,false,false,false,false] rfl rfl (take_ofW HT_.out HW_.out (by kernel_rfl)) (fun _ _ _ h => h) (Or.inl ⟨by rfl,?_⟩) hHeld ?_ ?_
  rotate_left
  · rintro w' ⟨s0,s1⟩
    go_simp
    with_reducible rfl
  rotate_left
  · simp only [Act.put,zA,zB,zC,i64_w,i32_w]
    rfl
  refine one_ (i := 1) (N := some 14) #[true,true,true,false,false,false,false,false,false] rfl rfl (one_of HT_.out (by kernel_rfl)) (by decide) (fun K hK => ?_)
  refine goes_ Try.func61 (by kernel_rfl) rfl #[.int .i64 a0] (by rfl) rfl rfl (by (try simp only [List.map_toArray,List.map_cons,List.map_nil]);first | done | rfl | (simp only [List.length_drop,List.length_take];rfl)) ?_
  with_reducible refine (verdererref03_big.calls k a0 t160 t161 _ A4.out).mono ?_
  rintro e w13 ⟨v162,rfl,ho0,hb⟩
  refine ⟨_,rfl,?_⟩
  have n0_ := Aside0.mk (Kd.R_elder' (by (with_reducible repeat (first | apply Kd.R_alloc | apply Kd.R_drewN | apply Kd.R_drew));exact HO158.out) (Kd.R_base ho0) hb)
  have n1_ := Aside0.mk (Kd.R_lower (Kd.R_new' ho0 (Kd.R_lt (by (with_reducible repeat (first | apply Kd.R_alloc | apply Kd.R_drewN | apply Kd.R_drew));exact HO158.out))) (below_size (by repeat (first | (with_reducible first | exact HB.out | apply below_alloc | apply pw_below_drewN | apply below_drew1 | refine below_set ?_ GE159.out) | exact HB.out))))
  have n2_ := Aside0.mk (blk_below (g := gb159) (o := .cells #[.bool (!t155),.slice Ao10 t156.length co10] 29 (0,0)) (by (with_reducible repeat (first | refine blk_drewN ?_ _ | refine blk_drew ?_ | refine blk_alloc ?_ _));exact BK159.out) hb)
  have n3_ := Aside0.mk (below_step (by repeat (first | (with_reducible first | exact HB.out | apply below_alloc | apply pw_below_drewN | apply below_drew1 | refine below_set ?_ GE159.out) | exact HB.out)) hb)
  clear HO158
  clear BK159
  clear HB
  have HO158 := n0_
  have HO163 := n1_
  have BK159 := n2_
  have HB := n3_
  clear n0_ n1_ n2_ n3_
  (try clear hb)
  (try clear hb2)
  (try clear hk)
  (try clear hi)
  (try clear ho0)
  obtain ⟨Ao14,co14,eo14⟩ := Kd.R_slice HO163.out
  (first | subst eo14 | (injection eo14 with f1_ f2_ f3_;have f4_ := f1_.symm;have f5_ := f3_.symm;clear f1_ f2_ f3_;subst f4_;subst f5_))
  refine hK.out _ _ ⟨(blk_cell BK159.out 0).trans rfl,(blk_cell BK159.out 1).trans rfl⟩ (fun hHeld => ?_)
  clear hK K
  refine norm_ (a' := ?_) ?_ ?_
  rotate_left
  · show Act.put _ (some 14) _ = _
    simp only [Act.put,zA,zB,zC,i64_w,i32_w]
    rfl
  refine one_ (i := 3) (N := some 16) #[true,true,true,true,false,false,false,false,false] rfl rfl (one_of HT_.out (by kernel_rfl)) (by decide) (fun K hK => ?_)
  refine goes_ Try.func16 (by kernel_rfl) rfl #[.agg #[.bool t160,.slice Ao14 t161.length co14],.agg #[.bool (!t155),.slice Ao10 t156.length co10]] (by rfl) rfl rfl (by (try simp only [List.map_toArray,List.map_cons,List.map_nil]);first | done | rfl | (simp only [List.length_drop,List.length_take];rfl)) ?_
  with_reducible refine (verdererref03_Plus.calls k t160 _ _ t161 (!t155) _ _ t156 t164 t165 _ ?side1 ?side2 ?side3 ?side4 A5.out).mono ?_
  (case side1 => repeat (first | exact (Kd.R_reads' HO163.out).2.2 | (with_reducible refine Kd.C_alloc ?_ _) | (with_reducible refine Kd.C_drewN ?_ _) | (with_reducible refine Kd.C_drew ?_)))
  (case side2 => exact (Kd.R_reads' HO163.out).2.1)
  (case side3 => repeat (first | exact (Kd.R_reads' HO158.out).2.2 | (with_reducible refine Kd.C_alloc ?_ _) | (with_reducible refine Kd.C_drewN ?_ _) | (with_reducible refine Kd.C_drew ?_)))
  (case side4 => exact (Kd.R_reads' HO158.out).2.1)
  rintro e w15 ⟨v166,rfl,ho0,hb⟩
  refine ⟨_,rfl,?_⟩
  have n0_ := Aside0.mk (Kd.R_elder' (by (with_reducible repeat (first | apply Kd.R_alloc | apply Kd.R_drewN | apply Kd.R_drew));exact HO158.out) (Kd.R_base ho0) hb)
  have n1_ := Aside0.mk (Kd.R_elder' (by (with_reducible repeat (first | apply Kd.R_alloc | apply Kd.R_drewN | apply Kd.R_drew));exact HO163.out) (Kd.R_base ho0) hb)
  have n2_ := Aside0.mk (Kd.R_lower (Kd.R_new' (Kd.R_new' ho0 (Kd.R_lt (by (with_reducible repeat (first | apply Kd.R_alloc | apply Kd.R_drewN | apply Kd.R_drew));exact HO158.out))) (Kd.R_lt (by (with_reducible repeat (first | apply Kd.R_alloc | apply Kd.R_drewN | apply Kd.R_drew));exact HO163.out))) (below_size (by repeat (first | (with_reducible first | exact HB.out | apply below_alloc | apply pw_below_drewN | apply below_drew1 | refine below_set ?_ GE159.out) | exact HB.out))))
  have n3_ := Aside0.mk (blk_below (g := gb159) (o := .cells #[.bool (!t155),.slice Ao10 t156.length co10] 29 (0,0)) (by (with_reducible repeat (first | refine blk_drewN ?_ _ | refine blk_drew ?_ | refine blk_alloc ?_ _));exact BK159.out) hb)
  have n4_ := Aside0.mk (below_step (by repeat (first | (with_reducible first | exact HB.out | apply below_alloc | apply pw_below_drewN | apply below_drew1 | refine below_set ?_ GE159.out) | exact HB.out)) hb)
  clear HO158
  clear HO163
  clear BK159
  clear HB
  have HO158 := n0_
  have HO163 := n1_
  have HO167 := n2_
  have BK159 := n3_
  have HB := n4_
  clear n0_ n1_ n2_ n3_ n4_
  (try clear hb)
  (try clear hb2)
  (try clear hk)
  (try clear hi)
  (try clear ho0)
  obtain ⟨Ao16,co16,eo16⟩ := Kd.R_slice HO167.out
  (first | subst eo16 | (injection eo16 with f1_ f2_ f3_;have f4_ := f1_.symm;have f5_ := f3_.symm;clear f1_ f2_ f3_;subst f4_;subst f5_))
  refine hK.out _ _ ⟨(blk_cell BK159.out 0).trans rfl,(blk_cell BK159.out 1).trans rfl⟩ (fun hHeld => ?_)
  clear hK K
  refine norm_ (a' := ?_) ?_ ?_
  rotate_left
  · show Act.put _ (some 16) _ = _
    simp only [Act.put,zA,zB,zC,i64_w,i32_w]
    rfl
  refine one_ (i := 4) (N := some 17) #[true,true,true,true,true,false,false,false,false] rfl rfl (one_of HT_.out (by kernel_rfl)) (by decide) (fun K hK => ?_)
  refine goes_ Try.func19 (by kernel_rfl) rfl #[.agg #[.bool t164,.slice Ao16 t165.length co16]] (by rfl) rfl rfl (by (try simp only [List.map_toArray,List.map_cons,List.map_nil]);first | done | rfl | (simp only [List.length_drop,List.length_take];rfl)) ?_
  with_reducible refine (verdererref03_Big_Value.calls k t164 _ _ t165 t168 t169 _ ?side1 ?side2 A6.out).mono ?_
  (case side1 => repeat (first | exact (Kd.R_reads' HO167.out).2.2 | (with_reducible refine Kd.C_alloc ?_ _) | (with_reducible refine Kd.C_drewN ?_ _) | (with_reducible refine Kd.C_drew ?_)))
  (case side2 => exact (Kd.R_reads' HO167.out).2.1)
  rintro e w17 ⟨rfl,hb⟩
  refine ⟨_,rfl,?_⟩
  have n0_ := Aside0.mk (Kd.R_below (by (with_reducible repeat (first | apply Kd.R_alloc | apply Kd.R_drewN | apply Kd.R_drew));exact HO158.out) hb)
  have n1_ := Aside0.mk (Kd.R_below (by (with_reducible repeat (first | apply Kd.R_alloc | apply Kd.R_drewN | apply Kd.R_drew));exact HO163.out) hb)
  have n2_ := Aside0.mk (Kd.R_below (by (with_reducible repeat (first | apply Kd.R_alloc | apply Kd.R_drewN | apply Kd.R_drew));exact HO167.out) hb)
  have n3_ := Aside0.mk (blk_below (g := gb159) (o := .cells #[.bool (!t155),.slice Ao10 t156.length co10] 29 (0,0)) (by (with_reducible repeat (first | refine blk_drewN ?_ _ | refine blk_drew ?_ | refine blk_alloc ?_ _));exact BK159.out) hb)
  have n4_ := Aside0.mk (below_step (by repeat (first | (with_reducible first | exact HB.out | apply below_alloc | apply pw_below_drewN | apply below_drew1 | refine below_set ?_ GE159.out) | exact HB.out)) hb)
  clear HO158
  clear HO163
  clear HO167
  clear BK159
  clear HB
  have HO158 := n0_
  have HO163 := n1_
  have HO167 := n2_
  have BK159 := n3_
  have HB := n4_
  clear n0_ n1_ n2_ n3_ n4_
  (try clear hb)
  (try clear hb2)
  (try clear hk)
  (try clear hi)
  refine hK.out _ _ ⟨(blk_cell BK159.out 0).trans rfl,(blk_cell BK159.out 1).trans rfl⟩ (fun hHeld => ?_)
  clear hK K
  refine norm_ (a' := ?_) ?_ ?_
  rotate_left
  · show Act.put _ (some 17) _ = _
    simp only [Act.put,zA,zB,zC,i64_w,i32_w]
    rfl
  refine pure_ (i := 5) (N := some 18) (v := ?_) (a' := ?_) #[true,true,true,true,true,true,false,false,false] rfl rfl (any_of HT_.out (by kernel_rfl)) (fun _ _ _ h => h) (Or.inl ⟨by rfl,?_⟩) ?_ ?_
  rotate_left
  · intro w'
    go_simp
    with_reducible rfl
  rotate_left
  · simp only [Act.put,zA,zB,zC,i64_w,i32_w]
    rfl
  refine pure_ (i := 6) (N := some 19) (v := ?_) (a' := ?_) #[true,true,true,true,true,true,true,false,false] rfl rfl (any_of HT_.out (by kernel_rfl)) (fun _ _ _ h => h) (Or.inl ⟨by rfl,?_⟩) ?_ ?_
  rotate_left
  · intro w'
    go_simp
    with_reducible rfl
  rotate_left
  · simp only [Act.put,zA,zB,zC,i64_w,i32_w]
    rfl
  refine pure_ (i := 7) (N := some 4) (v := ?_) (a' := ?_) #[true,true,true,true,true,true,true,true,false] rfl rfl (any_of HT_.out (by kernel_rfl)) (fun _ _ _ h => h) (Or.inl ⟨by rfl,?_⟩) ?_ ?_
  rotate_left
  · intro w'
    go_simp
    with_reducible rfl
  rotate_left
  · simp only [Act.put,zA,zB,zC,i64_w,i32_w]
    rfl
  refine pure_ (i := 8) (N := some 5) (v := ?_) (a' := ?_) #[true,true,true,true,true,true,true,true,true] rfl rfl (any_of HT_.out (by kernel_rfl)) (fun _ _ _ h => h) (Or.inl ⟨by rfl,?_⟩) ?_ ?_
  rotate_left
  · intro w'
    go_simp
    with_reducible rfl
  rotate_left
  · simp only [Act.put,zA,zB,zC,i64_w,i32_w]
    rfl
  refine done_ (done_of HT_.out (by kernel_rfl)) ?_
  try go_wp2
  go_ret2
  exact ⟨by first | rfl | (simp [errW_none,errW_some] <;> rfl) | (simp [*,errW_none,errW_some] <;> rfl),by repeat (first | (with_reducible first | exact HB.out | apply below_alloc | apply pw_below_drewN | apply below_drew1 | refine below_set ?_ GE159.out) | exact HB.out)⟩
end Go.Proofs.Ytcenlehfbgnphaa.Z
end
section
namespace Go.Proofs.Ytcenlehfbgnphaa.Z
open Go.RowKit Go.Proofs.YtcenlehfbgnphaaW.PrintWords Go.Proofs.YtcenlehfbgnphaaW.PrintLast Go.Proofs.YtcenlehfbgnphaaW.PrintMore
attribute [local go_sem] max2_int min2_int max_two min_two max_three min_three max_four min_four
set_option linter.unusedVariables false
set_option linter.unusedSimpArgs false
def verdererref28_Room.f (k : Nat) (a0_0 : ByteArray) (a0_1 : ByteArray) (a0_2 : Int) (a0_3 : Int) : Option (Int × Int) := (verdererref03_Sub.f k a0_3 a0_2).bind fun bt371 => (some (bt371.1,bt371.2))
theorem verdererref28_Room.mono : ∀ a0 a1 a2 a3 k,LeO (verdererref28_Room.f k a0 a1 a2 a3) (verdererref28_Room.f (k + 1) a0 a1 a2 a3) := by
  intro a0 a1 a2 a3 k
  unfold verdererref28_Room.f
  repeat' first
      | (with_reducible exact verdererref03_Sub.mono _ _ _)
      | (with_reducible exact LeO.refl _)
      | (with_reducible exact LeO.none _)
      | (with_reducible refine LeO.ite ?_ ?_)
      | (with_reducible refine LeO.bind ?_ (fun _ => ?_))
      | exact verdererref03_Sub.mono _ _ _
      | exact LeO.none _
      | refine LeO.ite ?_ ?_
      | refine LeO.bind ?_ (fun _ => ?_)
set_option maxHeartbeats 8000000 in
set_option maxRecDepth 100000 in
theorem verdererref28_Room.calls (k : Nat) (a0_0 : ByteArray) (a0_1 : ByteArray) (a0_2 : Int) (a0_3 : Int) (r1 : Int) (r2 : Int) (w : World) (h : verdererref28_Room.f k a0_0 a0_1 a0_2 a0_3 = some (r1,r2)) :
    Calls Try.prog 52 #[.agg #[.string a0_0,.string a0_1,.int .i64 a0_2,.int .i64 a0_3]] w fun e w' => e = .returned (.tuple #[.int .i64 r1,.int .i64 r2]) ∧ Below w.heap.size w w' := by
  have hu45 := Try.underlying45
  have HB := Aside0.mk (Below.refl w.heap.size w)
  have H : ((verdererref03_Sub.f k a0_3 a0_2).bind fun bt371 => (some (bt371.1,bt371.2))) = some (r1,r2) := h
  clear h
  replace H := Option.bind_eq_some_iff.mp H
  obtain ⟨⟨t371,t372⟩,A20,H⟩ := H
  replace H : (some (t371,t372)) = some (r1,r2) := H
  have A2 := Aside0.mk A20
  clear A20
  simp only [Option.some.injEq,Prod.mk.injEq] at H
  obtain ⟨rfl,rfl⟩ := H
  go_enter Try.func52,Try.ntmps52
  go_wp2_with (first | ((with_reducible refine gate_dst (N := 1) rfl ?_);refine box_event ?hg (N := 1) ?hd (cs := #[.string a0_0,.string a0_1,.int .i64 a0_2,.int .i64 a0_3]) (t := 45) ?hr ?_;(case hd => rfl);(case hg => rfl);(case hr => first | (go_simp;done) | (go_simp;rfl));intro gb370 hg w3 hbox hb;have n0_ := Aside0.mk (below_step (by repeat (first | (with_reducible first | exact HB.out | apply below_alloc | apply pw_below_drewN | apply below_drew1) | exact HB.out)) hb);have n1_ := Aside0.mk (hbox);have n2_ := Aside0.mk ((by rw [hg];exact (below_size (by repeat (first | (with_reducible first | exact HB.out | apply below_alloc | apply pw_below_drewN | apply below_drew1) | exact HB.out))) : w.heap.size ≤ gb370));have n3_ := Aside0.mk ((by rw [hg];exact (below_size (by repeat (first | (with_reducible first | exact HB.out | apply below_alloc | apply pw_below_drewN | apply below_drew1) | exact HB.out))) : w.heap.size ≤ gb370));clear HB;have HB := n0_;have BK370 := n1_;have GW370 := n2_;have GE370 := n3_;clear n0_ n1_ n2_ n3_;clear hb hbox hg;have hcz4_0 : w3.cell? ⟨gb370,0,none⟩ = some (.string a0_0) := (blk_cell BK370.out 0).trans rfl;have hcz4_1 : w3.cell? ⟨gb370,1,none⟩ = some (.string a0_1) := (blk_cell BK370.out 1).trans rfl;have hcz4_2 : w3.cell? ⟨gb370,2,none⟩ = some (.int .i64 a0_2) := (blk_cell BK370.out 2).trans rfl;have hcz4_3 : w3.cell? ⟨gb370,3,none⟩ = some (.int .i64 a0_3) := (blk_cell BK370.out 3).trans rfl;have hfz4_0 := blk_frozen BK370.out 0;have hfz4_1 := blk_frozen BK370.out 1;have hfz4_2 := blk_frozen BK370.out 2;have hfz4_3 := blk_frozen BK370.out 3) | ((with_reducible refine gate_callee (f := 26) rfl ?_);refine goesL_ (some 8) rfl rfl Try.func26 (by kernel_rfl) rfl #[.int .i64 a0_3,.int .i64 a0_2] rfl (by (try simp only [List.map_toArray,List.map_cons,List.map_nil]);first | done | rfl | (simp only [List.length_drop,List.length_take];rfl)) ?_;(with_reducible refine (verdererref03_Sub.calls k a0_3 a0_2 t371 t372 _ A2.out).mono ?_);rintro e w5 ⟨rfl,hb⟩;refine ⟨_,rfl,?_⟩;have n0_ := Aside0.mk (blk_below (g := gb370) (o := .cells #[.string a0_0,.string a0_1,.int .i64 a0_2,.int .i64 a0_3] 45 (0,0)) (by (with_reducible repeat (first | refine blk_drewN ?_ _ | refine blk_drew ?_ | refine blk_alloc ?_ _));exact BK370.out) hb);have n1_ := Aside0.mk (below_step (by repeat (first | (with_reducible first | exact HB.out | apply below_alloc | apply pw_below_drewN | apply below_drew1 | refine below_set ?_ GE370.out) | exact HB.out)) hb);clear BK370;clear HB;have BK370 := n0_;have HB := n1_;clear n0_ n1_;(try clear hb);(try clear hb2);(try clear hk);(try clear hi)))
  go_ret2
  exact ⟨by first | rfl | (simp [errW_none,errW_some] <;> rfl) | (simp [*,errW_none,errW_some] <;> rfl),by repeat (first | (with_reducible first | exact HB.out | apply below_alloc | apply pw_below_drewN | apply below_drew1 | refine below_set ?_ GE370.out) | exact HB.out)⟩
end Go.Proofs.Ytcenlehfbgnphaa.Z
end
section
namespace Go.Proofs.Ytcenlehfbgnphaa.Z
open Go.RowKit Go.Proofs.YtcenlehfbgnphaaW.PrintWords Go.Proofs.YtcenlehfbgnphaaW.PrintLast Go.Proofs.YtcenlehfbgnphaaW.PrintMore
attribute [local go_sem] max2_int min2_int max_two min_two max_three min_three max_four min_four
set_option linter.unusedVariables false
set_option linter.unusedSimpArgs false
def verdererref03_Mul.f (k : Nat) (a0 : Int) (a1 : Int) : Option (Int × Int) := (verdererref03_Times.f k a0 a1).bind fun bt201 => ((verdererref03_Big_Value.f k bt201.1 bt201.2).bind fun bt205 => (some (bt205.1,bt205.2)))
theorem verdererref03_Mul.mono : ∀ a0 a1 k,LeO (verdererref03_Mul.f k a0 a1) (verdererref03_Mul.f (k + 1) a0 a1) := by
  intro a0 a1 k
  unfold verdererref03_Mul.f
  repeat' first
      | (with_reducible exact verdererref03_Big_Value.mono _ _ _)
      | (with_reducible exact verdererref03_Times.mono _ _ _)
      | (with_reducible exact LeO.refl _)
      | (with_reducible exact LeO.none _)
      | (with_reducible refine LeO.ite ?_ ?_)
      | (with_reducible refine LeO.bind ?_ (fun _ => ?_))
      | exact verdererref03_Big_Value.mono _ _ _
      | exact verdererref03_Times.mono _ _ _
      | exact LeO.none _
      | refine LeO.ite ?_ ?_
      | refine LeO.bind ?_ (fun _ => ?_)
set_option maxHeartbeats 8000000 in
set_option maxRecDepth 100000 in
theorem verdererref03_Mul.calls (k : Nat) (a0 : Int) (a1 : Int) (r1 : Int) (r2 : Int) (w : World) (h : verdererref03_Mul.f k a0 a1 = some (r1,r2)) :
    Calls Try.prog 28 #[.int .i64 a0,.int .i64 a1] w fun e w' => e = .returned (.tuple #[.int .i64 r1,.int .i64 r2]) ∧ Below w.heap.size w w' := by
  have HB := Aside0.mk (Below.refl w.heap.size w)
  have H : ((verdererref03_Times.f k a0 a1).bind fun bt201 => ((verdererref03_Big_Value.f k bt201.1 bt201.2).bind fun bt205 => (some (bt205.1,bt205.2)))) = some (r1,r2) := h
  clear h
  replace H := Option.bind_eq_some_iff.mp H
  obtain ⟨⟨t201,t202⟩,A30,H⟩ := H
  replace H : ((verdererref03_Big_Value.f k t201 t202).bind fun bt205 => (some (bt205.1,bt205.2))) = some (r1,r2) := H
  have A3 := Aside0.mk A30
  clear A30
  replace H := Option.bind_eq_some_iff.mp H
  obtain ⟨⟨t205,t206⟩,A40,H⟩ := H
  replace H : (some (t205,t206)) = some (r1,r2) := H
  have A4 := Aside0.mk A40
  clear A40
  simp only [Option.some.injEq,Prod.mk.injEq] at H
  obtain ⟨rfl,rfl⟩ := H
  go_enter Try.func28,Try.ntmps28
  go_wp2_with (first | ((with_reducible refine gate_callee (f := 17) rfl ?_);refine goesL_ (some 8) rfl rfl Try.func17 (by kernel_rfl) rfl #[.int .i64 a0,.int .i64 a1] rfl (by (try simp only [List.map_toArray,List.map_cons,List.map_nil]);first | done | rfl | (simp only [List.length_drop,List.length_take];rfl)) ?_;(with_reducible refine (verdererref03_Times.calls k a0 a1 t201 t202 _ A3.out).mono ?_);rintro e w5 ⟨v203,rfl,ho0,hb⟩;refine ⟨_,rfl,?_⟩;have n0_ := Aside0.mk (Kd.R_lower ho0 (below_size (by repeat (first | (with_reducible first | exact HB.out | apply below_alloc | apply pw_below_drewN | apply below_drew1) | exact HB.out))));have n1_ := Aside0.mk (below_step (by repeat (first | (with_reducible first | exact HB.out | apply below_alloc | apply pw_below_drewN | apply below_drew1) | exact HB.out)) hb);clear HB;have HO204 := n0_;have HB := n1_;clear n0_ n1_;(try clear hb);(try clear hb2);(try clear hk);(try clear hi);(try clear ho0);obtain ⟨Ao6,co6,eo6⟩ := Kd.R_slice HO204.out;subst eo6) | ((with_reducible refine gate_callee (f := 19) rfl ?_);refine goesL_ (some 9) rfl rfl Try.func19 (by kernel_rfl) rfl #[.agg #[.bool t201,.slice Ao6 t202.length co6]] rfl (by (try simp only [List.map_toArray,List.map_cons,List.map_nil]);first | done | rfl | (simp only [List.length_drop,List.length_take];rfl)) ?_;(with_reducible refine (verdererref03_Big_Value.calls k t201 _ _ t202 t205 t206 _ ?side1 ?side2 A4.out).mono ?_);(case side1 => repeat (first | exact (Kd.R_reads' HO204.out).2.2 | (with_reducible refine Kd.C_alloc ?_ _) | (with_reducible refine Kd.C_drewN ?_ _) | (with_reducible refine Kd.C_drew ?_)));(case side2 => exact (Kd.R_reads' HO204.out).2.1);rintro e w7 ⟨rfl,hb⟩;refine ⟨_,rfl,?_⟩;have n0_ := Aside0.mk (Kd.R_below (by (with_reducible repeat (first | apply Kd.R_alloc | apply Kd.R_drewN | apply Kd.R_drew));exact HO204.out) hb);have n1_ := Aside0.mk (below_step (by repeat (first | (with_reducible first | exact HB.out | apply below_alloc | apply pw_below_drewN | apply below_drew1) | exact HB.out)) hb);clear HO204;clear HB;have HO204 := n0_;have HB := n1_;clear n0_ n1_;(try clear hb);(try clear hb2);(try clear hk);(try clear hi)))
  go_ret2
  exact ⟨by first | rfl | (simp [errW_none,errW_some] <;> rfl) | (simp [*,errW_none,errW_some] <;> rfl),by repeat (first | (with_reducible first | exact HB.out | apply below_alloc | apply pw_below_drewN | apply below_drew1) | exact HB.out)⟩
end Go.Proofs.Ytcenlehfbgnphaa.Z
end
section
namespace Go.Proofs.Ytcenlehfbgnphaa.Z
open Go.RowKit Go.Proofs.YtcenlehfbgnphaaW.PrintWords Go.Proofs.YtcenlehfbgnphaaW.PrintLast Go.Proofs.YtcenlehfbgnphaaW.PrintMore
attribute [local go_sem] max2_int min2_int max_two min_two max_three min_three max_four min_four
set_option linter.unusedVariables false
set_option linter.unusedSimpArgs false
def bits_Mul64.f (a0 : Int) (a1 : Int) : Option (Int × Int) := some (IntKind.u64.wrap ((IntKind.u64.wrap ((IntKind.u64.wrap ((a0 / 4294967296) * (a1 / 4294967296))) + ((IntKind.u64.wrap ((IntKind.u64.wrap ((a0 / 4294967296) * (Go.bits .and .u64 a1 4294967295))) + ((IntKind.u64.wrap ((Go.bits .and .u64 a0 4294967295) * (Go.bits .and .u64 a1 4294967295))) / 4294967296))) / 4294967296))) + ((IntKind.u64.wrap ((Go.bits .and .u64 (IntKind.u64.wrap ((IntKind.u64.wrap ((a0 / 4294967296) * (Go.bits .and .u64 a1 4294967295))) + ((IntKind.u64.wrap ((Go.bits .and .u64 a0 4294967295) * (Go.bits .and .u64 a1 4294967295))) / 4294967296))) 4294967295) + (IntKind.u64.wrap ((Go.bits .and .u64 a0 4294967295) * (a1 / 4294967296))))) / 4294967296)),IntKind.u64.wrap (a0 * a1))
set_option maxHeartbeats 8000000 in
set_option maxRecDepth 100000 in
theorem bits_Mul64.calls (a0 : Int) (a1 : Int) (r1 : Int) (r2 : Int) (w : World) (h : bits_Mul64.f a0 a1 = some (r1,r2)) :
    Calls Try.prog 63 #[.int .u64 a0,.int .u64 a1] w fun e w' => e = .returned (.tuple #[.int .u64 r1,.int .u64 r2]) ∧ Drawn0 w w' := by
  have H : (some (IntKind.u64.wrap ((IntKind.u64.wrap ((IntKind.u64.wrap ((a0 / 4294967296) * (a1 / 4294967296))) + ((IntKind.u64.wrap ((IntKind.u64.wrap ((a0 / 4294967296) * (Go.bits .and .u64 a1 4294967295))) + ((IntKind.u64.wrap ((Go.bits .and .u64 a0 4294967295) * (Go.bits .and .u64 a1 4294967295))) / 4294967296))) / 4294967296))) + ((IntKind.u64.wrap ((Go.bits .and .u64 (IntKind.u64.wrap ((IntKind.u64.wrap ((a0 / 4294967296) * (Go.bits .and .u64 a1 4294967295))) + ((IntKind.u64.wrap ((Go.bits .and .u64 a0 4294967295) * (Go.bits .and .u64 a1 4294967295))) / 4294967296))) 4294967295) + (IntKind.u64.wrap ((Go.bits .and .u64 a0 4294967295) * (a1 / 4294967296))))) / 4294967296)),IntKind.u64.wrap (a0 * a1))) = some (r1,r2) := h
  clear h
  simp only [Option.some.injEq,Prod.mk.injEq] at H
  obtain ⟨rfl,rfl⟩ := H
  go_enter Try.func63,Try.ntmps63
  go_wp2
  go_ret2
  exact ⟨by first | rfl | (simp;done) | (simp [*];done),by repeat (first | exact Drawn0.refl _ | apply Drawn0.step)⟩
end Go.Proofs.Ytcenlehfbgnphaa.Z
end
section
namespace Go.Proofs.Ytcenlehfbgnphaa.Z
open Go.RowKit Go.Proofs.YtcenlehfbgnphaaW.PrintWords Go.Proofs.YtcenlehfbgnphaaW.PrintLast Go.Proofs.YtcenlehfbgnphaaW.PrintMore
attribute [local go_sem] max2_int min2_int max_two min_two max_three min_three max_four min_four
set_option linter.unusedVariables false
set_option linter.unusedSimpArgs false
def safe_size.f (a0 : Int) : Option (Int) := if a0 < 0 then (some (IntKind.u64.wrap (-(IntKind.u64.wrap (a0))))) else (some (IntKind.u64.wrap (a0)))
set_option maxHeartbeats 8000000 in
set_option maxRecDepth 100000 in
theorem safe_size.calls (a0 : Int) (r : Int) (w : World) (h : safe_size.f a0 = some r) :
    Calls Try.prog 64 #[.int .i64 a0] w fun e w' => e = .returned (.int .u64 r) ∧ Drawn0 w w' := by
  have H : (if a0 < 0 then (some (IntKind.u64.wrap (-(IntKind.u64.wrap (a0))))) else (some (IntKind.u64.wrap (a0)))) = some r := h
  clear h
  by_cases c2 : a0 < 0
  · rw [if_pos c2] at H
    have c2b0 : decide (a0 < 0) = true := decide_eq_true c2
    clear c2
    obtain rfl := Option.some.inj H
    go_enter Try.func64,Try.ntmps64
    go_wp2
    go_ret
    exact ⟨by first | rfl | (simp;done) | (simp [*];done),by repeat (first | exact Drawn0.refl _ | apply Drawn0.step)⟩
  · rw [if_neg c2] at H
    have c2b0 : decide (a0 < 0) = false := decide_eq_false c2
    clear c2
    obtain rfl := Option.some.inj H
    go_enter Try.func64,Try.ntmps64
    go_wp2
    go_ret
    exact ⟨by first | rfl | (simp;done) | (simp [*];done),by repeat (first | exact Drawn0.refl _ | apply Drawn0.step)⟩
end Go.Proofs.Ytcenlehfbgnphaa.Z
end
section
namespace Go.Proofs.Ytcenlehfbgnphaa.Z
open Go.RowKit Go.Proofs.YtcenlehfbgnphaaW.PrintWords Go.Proofs.YtcenlehfbgnphaaW.PrintLast Go.Proofs.YtcenlehfbgnphaaW.PrintMore
attribute [local go_sem] max2_int min2_int max_two min_two max_three min_three max_four min_four
set_option linter.unusedVariables false
set_option linter.unusedSimpArgs false
def safe_Mul.f (a0 : Int) (a1 : Int) : Option (Int × Int) := (safe_size.f a0).bind fun t170 => ((safe_size.f a1).bind fun t171 => ((bits_Mul64.f t170 t171).bind fun bt172 => (if ((decide (a0 < 0)) != (decide (a1 < 0))) = true then (if bt172.1 = 0 then ((safe_fits.f (wrap64 (IntKind.u64.wrap (-bt172.2))) (decide (bt172.2 ≤ 9223372036854775808))).bind fun bt174 => (some (bt174.1,bt174.2))) else ((safe_fits.f (wrap64 (IntKind.u64.wrap (-bt172.2))) false).bind fun bt176 => (some (bt176.1,bt176.2)))) else (if bt172.1 = 0 then ((safe_fits.f (wrap64 (bt172.2)) (decide (bt172.2 < 9223372036854775808))).bind fun bt178 => (some (bt178.1,bt178.2))) else ((safe_fits.f (wrap64 (bt172.2)) false).bind fun bt180 => (some (bt180.1,bt180.2)))))))
set_option maxHeartbeats 8000000 in
set_option maxRecDepth 100000 in
theorem safe_Mul.calls (a0 : Int) (a1 : Int) (r1 : Int) (r2 : Int) (w : World) (h : safe_Mul.f a0 a1 = some (r1,r2)) :
    Calls Try.prog 27 #[.int .i64 a0,.int .i64 a1] w fun e w' => e = .returned (.tuple #[.int .i64 r1,.int .i64 r2]) ∧ Drawn0 w w' := by
  have H : ((safe_size.f a0).bind fun t170 => ((safe_size.f a1).bind fun t171 => ((bits_Mul64.f t170 t171).bind fun bt172 => (if ((decide (a0 < 0)) != (decide (a1 < 0))) = true then (if bt172.1 = 0 then ((safe_fits.f (wrap64 (IntKind.u64.wrap (-bt172.2))) (decide (bt172.2 ≤ 9223372036854775808))).bind fun bt174 => (some (bt174.1,bt174.2))) else ((safe_fits.f (wrap64 (IntKind.u64.wrap (-bt172.2))) false).bind fun bt176 => (some (bt176.1,bt176.2)))) else (if bt172.1 = 0 then ((safe_fits.f (wrap64 (bt172.2)) (decide (bt172.2 < 9223372036854775808))).bind fun bt178 => (some (bt178.1,bt178.2))) else ((safe_fits.f (wrap64 (bt172.2)) false).bind fun bt180 => (some (bt180.1,bt180.2)))))))) = some (r1,r2) := h
  clear h
  replace H := Option.bind_eq_some_iff.mp H
  obtain ⟨t170,A30,H⟩ := H
  replace H : ((safe_size.f a1).bind fun t171 => ((bits_Mul64.f t170 t171).bind fun bt172 => (if ((decide (a0 < 0)) != (decide (a1 < 0))) = true then (if bt172.1 = 0 then ((safe_fits.f (wrap64 (IntKind.u64.wrap (-bt172.2))) (decide (bt172.2 ≤ 9223372036854775808))).bind fun bt174 => (some (bt174.1,bt174.2))) else ((safe_fits.f (wrap64 (IntKind.u64.wrap (-bt172.2))) false).bind fun bt176 => (some (bt176.1,bt176.2)))) else (if bt172.1 = 0 then ((safe_fits.f (wrap64 (bt172.2)) (decide (bt172.2 < 9223372036854775808))).bind fun bt178 => (some (bt178.1,bt178.2))) else ((safe_fits.f (wrap64 (bt172.2)) false).bind fun bt180 => (some (bt180.1,bt180.2))))))) = some (r1,r2) := H
  have A3 := Aside0.mk A30
  clear A30
  replace H := Option.bind_eq_some_iff.mp H
  obtain ⟨t171,A40,H⟩ := H
  replace H : ((bits_Mul64.f t170 t171).bind fun bt172 => (if ((decide (a0 < 0)) != (decide (a1 < 0))) = true then (if bt172.1 = 0 then ((safe_fits.f (wrap64 (IntKind.u64.wrap (-bt172.2))) (decide (bt172.2 ≤ 9223372036854775808))).bind fun bt174 => (some (bt174.1,bt174.2))) else ((safe_fits.f (wrap64 (IntKind.u64.wrap (-bt172.2))) false).bind fun bt176 => (some (bt176.1,bt176.2)))) else (if bt172.1 = 0 then ((safe_fits.f (wrap64 (bt172.2)) (decide (bt172.2 < 9223372036854775808))).bind fun bt178 => (some (bt178.1,bt178.2))) else ((safe_fits.f (wrap64 (bt172.2)) false).bind fun bt180 => (some (bt180.1,bt180.2)))))) = some (r1,r2) := H
  have A4 := Aside0.mk A40
  clear A40
  replace H := Option.bind_eq_some_iff.mp H
  obtain ⟨⟨t172,t173⟩,A50,H⟩ := H
  replace H : (if ((decide (a0 < 0)) != (decide (a1 < 0))) = true then (if t172 = 0 then ((safe_fits.f (wrap64 (IntKind.u64.wrap (-t173))) (decide (t173 ≤ 9223372036854775808))).bind fun bt174 => (some (bt174.1,bt174.2))) else ((safe_fits.f (wrap64 (IntKind.u64.wrap (-t173))) false).bind fun bt176 => (some (bt176.1,bt176.2)))) else (if t172 = 0 then ((safe_fits.f (wrap64 (t173)) (decide (t173 < 9223372036854775808))).bind fun bt178 => (some (bt178.1,bt178.2))) else ((safe_fits.f (wrap64 (t173)) false).bind fun bt180 => (some (bt180.1,bt180.2))))) = some (r1,r2) := H
  have A5 := Aside0.mk A50
  clear A50
  by_cases c6 : ((decide (a0 < 0)) != (decide (a1 < 0))) = true
  · rw [if_pos c6] at H
    have c6b0 : ((decide (a0 < 0)) != (decide (a1 < 0))) = true := c6
    (try (have c6b1 : decide ((decide (a0 < 0)) = (decide (a1 < 0))) = false := by simpa using c6))
    (try (have c6b2 : ((decide (a0 < 0)) == (decide (a1 < 0))) = false := by simpa using c6))
    (try (have c6b3 : ¬ ((decide (a0 < 0)) = (decide (a1 < 0))) := by simpa using c6))
    clear c6
    by_cases c7 : t172 = 0
    · rw [if_pos c7] at H
      have c7b0 : (t172 == 0) = true := beq_iff_eq.mpr c7
      have c7b1 : (t172 != 0) = false := bne_eq_false_iff_eq.mpr c7
      clear c7
      replace H := Option.bind_eq_some_iff.mp H
      obtain ⟨⟨t174,t175⟩,A80,H⟩ := H
      replace H : (some (t174,t175)) = some (r1,r2) := H
      have A8 := Aside0.mk A80
      clear A80
      simp only [Option.some.injEq,Prod.mk.injEq] at H
      obtain ⟨rfl,rfl⟩ := H
      go_enter Try.func27,Try.ntmps27
      go_wp2_with (first | ((with_reducible refine gate_callee (f := 64) rfl ?_);refine goesL_ (some 10) rfl rfl Try.func64 (by kernel_rfl) rfl #[.int .i64 a0] rfl (by (try simp only [List.map_toArray,List.map_cons,List.map_nil]);first | done | rfl | (simp only [List.length_drop,List.length_take];rfl)) ?_;(with_reducible refine (safe_size.calls a0 t170 _ A3.out).mono ?_);rintro e w' ⟨rfl,⟨nd,rfl⟩⟩;refine ⟨_,rfl,?_⟩) | ((with_reducible refine gate_callee (f := 64) rfl ?_);refine goesL_ (some 12) rfl rfl Try.func64 (by kernel_rfl) rfl #[.int .i64 a1] rfl (by (try simp only [List.map_toArray,List.map_cons,List.map_nil]);first | done | rfl | (simp only [List.length_drop,List.length_take];rfl)) ?_;(with_reducible refine (safe_size.calls a1 t171 _ A4.out).mono ?_);rintro e w' ⟨rfl,⟨nd,rfl⟩⟩;refine ⟨_,rfl,?_⟩) | ((with_reducible refine gate_callee (f := 63) rfl ?_);refine goesL_ (some 13) rfl rfl Try.func63 (by kernel_rfl) rfl #[.int .u64 t170,.int .u64 t171] rfl (by (try simp only [List.map_toArray,List.map_cons,List.map_nil]);first | done | rfl | (simp only [List.length_drop,List.length_take];rfl)) ?_;(with_reducible refine (bits_Mul64.calls t170 t171 t172 t173 _ A5.out).mono ?_);rintro e w' ⟨rfl,⟨nd,rfl⟩⟩;refine ⟨_,rfl,?_⟩) | ((with_reducible refine gate_callee (f := 62) rfl ?_);refine goesL_ (some 30) rfl rfl Try.func62 (by kernel_rfl) rfl #[.int .i64 (wrap64 (IntKind.u64.wrap (-t173))),.bool (decide (t173 ≤ 9223372036854775808))] rfl (by (try simp only [List.map_toArray,List.map_cons,List.map_nil]);first | done | rfl | (simp only [List.length_drop,List.length_take];rfl)) ?_;(with_reducible refine (safe_fits.calls (wrap64 (IntKind.u64.wrap (-t173))) (decide (t173 ≤ 9223372036854775808)) t174 t175 _ A8.out).mono ?_);rintro e w' ⟨rfl,⟨nd,rfl⟩⟩;refine ⟨_,rfl,?_⟩))
      go_ret2
      exact ⟨by first | rfl | (simp;done) | (simp [*];done),by repeat (first | exact Drawn0.refl _ | apply Drawn0.step)⟩
    · rw [if_neg c7] at H
      have c7b0 : (t172 == 0) = false := beq_eq_false_iff_ne.mpr c7
      have c7b1 : (t172 != 0) = true := bne_iff_ne.mpr c7
      replace H := Option.bind_eq_some_iff.mp H
      obtain ⟨⟨t176,t177⟩,A90,H⟩ := H
      replace H : (some (t176,t177)) = some (r1,r2) := H
      have A9 := Aside0.mk A90
      clear A90
      simp only [Option.some.injEq,Prod.mk.injEq] at H
      obtain ⟨rfl,rfl⟩ := H
      go_enter Try.func27,Try.ntmps27
      go_wp2_with (first | ((with_reducible refine gate_callee (f := 64) rfl ?_);refine goesL_ (some 10) rfl rfl Try.func64 (by kernel_rfl) rfl #[.int .i64 a0] rfl (by (try simp only [List.map_toArray,List.map_cons,List.map_nil]);first | done | rfl | (simp only [List.length_drop,List.length_take];rfl)) ?_;(with_reducible refine (safe_size.calls a0 t170 _ A3.out).mono ?_);rintro e w' ⟨rfl,⟨nd,rfl⟩⟩;refine ⟨_,rfl,?_⟩) | ((with_reducible refine gate_callee (f := 64) rfl ?_);refine goesL_ (some 12) rfl rfl Try.func64 (by kernel_rfl) rfl #[.int .i64 a1] rfl (by (try simp only [List.map_toArray,List.map_cons,List.map_nil]);first | done | rfl | (simp only [List.length_drop,List.length_take];rfl)) ?_;(with_reducible refine (safe_size.calls a1 t171 _ A4.out).mono ?_);rintro e w' ⟨rfl,⟨nd,rfl⟩⟩;refine ⟨_,rfl,?_⟩) | ((with_reducible refine gate_callee (f := 63) rfl ?_);refine goesL_ (some 13) rfl rfl Try.func63 (by kernel_rfl) rfl #[.int .u64 t170,.int .u64 t171] rfl (by (try simp only [List.map_toArray,List.map_cons,List.map_nil]);first | done | rfl | (simp only [List.length_drop,List.length_take];rfl)) ?_;(with_reducible refine (bits_Mul64.calls t170 t171 t172 t173 _ A5.out).mono ?_);rintro e w' ⟨rfl,⟨nd,rfl⟩⟩;refine ⟨_,rfl,?_⟩) | ((with_reducible refine gate_callee (f := 62) rfl ?_);refine goesL_ (some 30) rfl rfl Try.func62 (by kernel_rfl) rfl #[.int .i64 (wrap64 (IntKind.u64.wrap (-t173))),.bool false] rfl (by (try simp only [List.map_toArray,List.map_cons,List.map_nil]);first | done | rfl | (simp only [List.length_drop,List.length_take];rfl)) ?_;(with_reducible refine (safe_fits.calls (wrap64 (IntKind.u64.wrap (-t173))) false t176 t177 _ A9.out).mono ?_);rintro e w' ⟨rfl,⟨nd,rfl⟩⟩;refine ⟨_,rfl,?_⟩))
      go_ret2
      exact ⟨by first | rfl | (simp;done) | (simp [*];done),by repeat (first | exact Drawn0.refl _ | apply Drawn0.step)⟩
  · rw [if_neg c6] at H
    have c6b0 : ((decide (a0 < 0)) != (decide (a1 < 0))) = false := by simpa using c6
    (try (have c6b1 : decide ((decide (a0 < 0)) = (decide (a1 < 0))) = true := by simpa using c6))
    (try (have c6b2 : ((decide (a0 < 0)) == (decide (a1 < 0))) = true := by simpa using c6))
    clear c6
    by_cases c10 : t172 = 0
    · rw [if_pos c10] at H
      have c10b0 : (t172 == 0) = true := beq_iff_eq.mpr c10
      have c10b1 : (t172 != 0) = false := bne_eq_false_iff_eq.mpr c10
      clear c10
      replace H := Option.bind_eq_some_iff.mp H
      obtain ⟨⟨t178,t179⟩,A110,H⟩ := H
      replace H : (some (t178,t179)) = some (r1,r2) := H
      have A11 := Aside0.mk A110
      clear A110
      simp only [Option.some.injEq,Prod.mk.injEq] at H
      obtain ⟨rfl,rfl⟩ := H
      go_enter Try.func27,Try.ntmps27
      go_wp2_with (first | ((with_reducible refine gate_callee (f := 64) rfl ?_);refine goesL_ (some 10) rfl rfl Try.func64 (by kernel_rfl) rfl #[.int .i64 a0] rfl (by (try simp only [List.map_toArray,List.map_cons,List.map_nil]);first | done | rfl | (simp only [List.length_drop,List.length_take];rfl)) ?_;(with_reducible refine (safe_size.calls a0 t170 _ A3.out).mono ?_);rintro e w' ⟨rfl,⟨nd,rfl⟩⟩;refine ⟨_,rfl,?_⟩) | ((with_reducible refine gate_callee (f := 64) rfl ?_);refine goesL_ (some 12) rfl rfl Try.func64 (by kernel_rfl) rfl #[.int .i64 a1] rfl (by (try simp only [List.map_toArray,List.map_cons,List.map_nil]);first | done | rfl | (simp only [List.length_drop,List.length_take];rfl)) ?_;(with_reducible refine (safe_size.calls a1 t171 _ A4.out).mono ?_);rintro e w' ⟨rfl,⟨nd,rfl⟩⟩;refine ⟨_,rfl,?_⟩) | ((with_reducible refine gate_callee (f := 63) rfl ?_);refine goesL_ (some 13) rfl rfl Try.func63 (by kernel_rfl) rfl #[.int .u64 t170,.int .u64 t171] rfl (by (try simp only [List.map_toArray,List.map_cons,List.map_nil]);first | done | rfl | (simp only [List.length_drop,List.length_take];rfl)) ?_;(with_reducible refine (bits_Mul64.calls t170 t171 t172 t173 _ A5.out).mono ?_);rintro e w' ⟨rfl,⟨nd,rfl⟩⟩;refine ⟨_,rfl,?_⟩) | ((with_reducible refine gate_callee (f := 62) rfl ?_);refine goesL_ (some 41) rfl rfl Try.func62 (by kernel_rfl) rfl #[.int .i64 (wrap64 (t173)),.bool (decide (t173 < 9223372036854775808))] rfl (by (try simp only [List.map_toArray,List.map_cons,List.map_nil]);first | done | rfl | (simp only [List.length_drop,List.length_take];rfl)) ?_;(with_reducible refine (safe_fits.calls (wrap64 (t173)) (decide (t173 < 9223372036854775808)) t178 t179 _ A11.out).mono ?_);rintro e w' ⟨rfl,⟨nd,rfl⟩⟩;refine ⟨_,rfl,?_⟩))
      go_ret2
      exact ⟨by first | rfl | (simp;done) | (simp [*];done),by repeat (first | exact Drawn0.refl _ | apply Drawn0.step)⟩
    · rw [if_neg c10] at H
      have c10b0 : (t172 == 0) = false := beq_eq_false_iff_ne.mpr c10
      have c10b1 : (t172 != 0) = true := bne_iff_ne.mpr c10
      replace H := Option.bind_eq_some_iff.mp H
      obtain ⟨⟨t180,t181⟩,A120,H⟩ := H
      replace H : (some (t180,t181)) = some (r1,r2) := H
      have A12 := Aside0.mk A120
      clear A120
      simp only [Option.some.injEq,Prod.mk.injEq] at H
      obtain ⟨rfl,rfl⟩ := H
      go_enter Try.func27,Try.ntmps27
      go_wp2_with (first | ((with_reducible refine gate_callee (f := 64) rfl ?_);refine goesL_ (some 10) rfl rfl Try.func64 (by kernel_rfl) rfl #[.int .i64 a0] rfl (by (try simp only [List.map_toArray,List.map_cons,List.map_nil]);first | done | rfl | (simp only [List.length_drop,List.length_take];rfl)) ?_;(with_reducible refine (safe_size.calls a0 t170 _ A3.out).mono ?_);rintro e w' ⟨rfl,⟨nd,rfl⟩⟩;refine ⟨_,rfl,?_⟩) | ((with_reducible refine gate_callee (f := 64) rfl ?_);refine goesL_ (some 12) rfl rfl Try.func64 (by kernel_rfl) rfl #[.int .i64 a1] rfl (by (try simp only [List.map_toArray,List.map_cons,List.map_nil]);first | done | rfl | (simp only [List.length_drop,List.length_take];rfl)) ?_;(with_reducible refine (safe_size.calls a1 t171 _ A4.out).mono ?_);rintro e w' ⟨rfl,⟨nd,rfl⟩⟩;refine ⟨_,rfl,?_⟩) | ((with_reducible refine gate_callee (f := 63) rfl ?_);refine goesL_ (some 13) rfl rfl Try.func63 (by kernel_rfl) rfl #[.int .u64 t170,.int .u64 t171] rfl (by (try simp only [List.map_toArray,List.map_cons,List.map_nil]);first | done | rfl | (simp only [List.length_drop,List.length_take];rfl)) ?_;(with_reducible refine (bits_Mul64.calls t170 t171 t172 t173 _ A5.out).mono ?_);rintro e w' ⟨rfl,⟨nd,rfl⟩⟩;refine ⟨_,rfl,?_⟩) | ((with_reducible refine gate_callee (f := 62) rfl ?_);refine goesL_ (some 41) rfl rfl Try.func62 (by kernel_rfl) rfl #[.int .i64 (wrap64 (t173)),.bool false] rfl (by (try simp only [List.map_toArray,List.map_cons,List.map_nil]);first | done | rfl | (simp only [List.length_drop,List.length_take];rfl)) ?_;(with_reducible refine (safe_fits.calls (wrap64 (t173)) false t180 t181 _ A12.out).mono ?_);rintro e w' ⟨rfl,⟨nd,rfl⟩⟩;refine ⟨_,rfl,?_⟩))
      go_ret2
      exact ⟨by first | rfl | (simp;done) | (simp [*];done),by repeat (first | exact Drawn0.refl _ | apply Drawn0.step)⟩
end Go.Proofs.Ytcenlehfbgnphaa.Z
end
section
namespace Go.Proofs.Ytcenlehfbgnphaa.Z
open Go.RowKit Go.Proofs.YtcenlehfbgnphaaW.PrintWords Go.Proofs.YtcenlehfbgnphaaW.PrintLast Go.Proofs.YtcenlehfbgnphaaW.PrintMore
attribute [local go_sem] max2_int min2_int max_two min_two max_three min_three max_four min_four
set_option linter.unusedVariables false
set_option linter.unusedSimpArgs false
def verdererref03_Add.f (k : Nat) (a0 : Int) (a1 : Int) : Option (Int × Int) := (verdererref03_big.f k a0).bind fun bt139 => ((verdererref03_big.f k a1).bind fun bt143 => ((verdererref03_Plus.f k bt139.1 bt139.2 bt143.1 bt143.2).bind fun bt147 => ((verdererref03_Big_Value.f k bt147.1 bt147.2).bind fun bt151 => (some (bt151.1,bt151.2)))))
theorem verdererref03_Add.mono : ∀ a0 a1 k,LeO (verdererref03_Add.f k a0 a1) (verdererref03_Add.f (k + 1) a0 a1) := by
  intro a0 a1 k
  unfold verdererref03_Add.f
  repeat' first
      | (with_reducible exact verdererref03_Big_Value.mono _ _ _)
      | (with_reducible exact verdererref03_Plus.mono _ _ _ _ _)
      | (with_reducible exact verdererref03_big.mono _ _)
      | (with_reducible exact LeO.refl _)
      | (with_reducible exact LeO.none _)
      | (with_reducible refine LeO.ite ?_ ?_)
      | (with_reducible refine LeO.bind ?_ (fun _ => ?_))
      | exact verdererref03_Big_Value.mono _ _ _
      | exact verdererref03_Plus.mono _ _ _ _ _
      | exact verdererref03_big.mono _ _
      | exact LeO.none _
      | refine LeO.ite ?_ ?_
      | refine LeO.bind ?_ (fun _ => ?_)
set_option maxHeartbeats 8000000 in
set_option maxRecDepth 100000 in
theorem verdererref03_Add.calls (k : Nat) (a0 : Int) (a1 : Int) (r1 : Int) (r2 : Int) (w : World) (h : verdererref03_Add.f k a0 a1 = some (r1,r2)) :
    Calls Try.prog 24 #[.int .i64 a0,.int .i64 a1] w fun e w' => e = .returned (.tuple #[.int .i64 r1,.int .i64 r2]) ∧ Below w.heap.size w w' := by
  have HB := Aside0.mk (Below.refl w.heap.size w)
  have H : ((verdererref03_big.f k a0).bind fun bt139 => ((verdererref03_big.f k a1).bind fun bt143 => ((verdererref03_Plus.f k bt139.1 bt139.2 bt143.1 bt143.2).bind fun bt147 => ((verdererref03_Big_Value.f k bt147.1 bt147.2).bind fun bt151 => (some (bt151.1,bt151.2)))))) = some (r1,r2) := h
  clear h
  replace H := Option.bind_eq_some_iff.mp H
  obtain ⟨⟨t139,t140⟩,A30,H⟩ := H
  replace H : ((verdererref03_big.f k a1).bind fun bt143 => ((verdererref03_Plus.f k t139 t140 bt143.1 bt143.2).bind fun bt147 => ((verdererref03_Big_Value.f k bt147.1 bt147.2).bind fun bt151 => (some (bt151.1,bt151.2))))) = some (r1,r2) := H
  have A3 := Aside0.mk A30
  clear A30
  replace H := Option.bind_eq_some_iff.mp H
  obtain ⟨⟨t143,t144⟩,A40,H⟩ := H
  replace H : ((verdererref03_Plus.f k t139 t140 t143 t144).bind fun bt147 => ((verdererref03_Big_Value.f k bt147.1 bt147.2).bind fun bt151 => (some (bt151.1,bt151.2)))) = some (r1,r2) := H
  have A4 := Aside0.mk A40
  clear A40
  replace H := Option.bind_eq_some_iff.mp H
  obtain ⟨⟨t147,t148⟩,A50,H⟩ := H
  replace H : ((verdererref03_Big_Value.f k t147 t148).bind fun bt151 => (some (bt151.1,bt151.2))) = some (r1,r2) := H
  have A5 := Aside0.mk A50
  clear A50
  replace H := Option.bind_eq_some_iff.mp H
  obtain ⟨⟨t151,t152⟩,A60,H⟩ := H
  replace H : (some (t151,t152)) = some (r1,r2) := H
  have A6 := Aside0.mk A60
  clear A60
  simp only [Option.some.injEq,Prod.mk.injEq] at H
  obtain ⟨rfl,rfl⟩ := H
  go_enter Try.func24,Try.ntmps24
  go_wp2_with (first | ((with_reducible refine gate_callee (f := 61) rfl ?_);refine goesL_ (some 7) rfl rfl Try.func61 (by kernel_rfl) rfl #[.int .i64 a0] rfl (by (try simp only [List.map_toArray,List.map_cons,List.map_nil]);first | done | rfl | (simp only [List.length_drop,List.length_take];rfl)) ?_;(with_reducible refine (verdererref03_big.calls k a0 t139 t140 _ A3.out).mono ?_);rintro e w7 ⟨v141,rfl,ho0,hb⟩;refine ⟨_,rfl,?_⟩;have n0_ := Aside0.mk (Kd.R_lower ho0 (below_size (by repeat (first | (with_reducible first | exact HB.out | apply below_alloc | apply pw_below_drewN | apply below_drew1) | exact HB.out))));have n1_ := Aside0.mk (below_step (by repeat (first | (with_reducible first | exact HB.out | apply below_alloc | apply pw_below_drewN | apply below_drew1) | exact HB.out)) hb);clear HB;have HO142 := n0_;have HB := n1_;clear n0_ n1_;(try clear hb);(try clear hb2);(try clear hk);(try clear hi);(try clear ho0)) | ((with_reducible refine gate_callee (f := 61) rfl ?_);refine goesL_ (some 9) rfl rfl Try.func61 (by kernel_rfl) rfl #[.int .i64 a1] rfl (by (try simp only [List.map_toArray,List.map_cons,List.map_nil]);first | done | rfl | (simp only [List.length_drop,List.length_take];rfl)) ?_;(with_reducible refine (verdererref03_big.calls k a1 t143 t144 _ A4.out).mono ?_);rintro e w8 ⟨v145,rfl,ho0,hb⟩;refine ⟨_,rfl,?_⟩;have n0_ := Aside0.mk (Kd.R_elder' (by (with_reducible repeat (first | apply Kd.R_alloc | apply Kd.R_drewN | apply Kd.R_drew));exact HO142.out) (Kd.R_base ho0) hb);have n1_ := Aside0.mk (Kd.R_lower (Kd.R_new' ho0 (Kd.R_lt (by (with_reducible repeat (first | apply Kd.R_alloc | apply Kd.R_drewN | apply Kd.R_drew));exact HO142.out))) (below_size (by repeat (first | (with_reducible first | exact HB.out | apply below_alloc | apply pw_below_drewN | apply below_drew1) | exact HB.out))));have n2_ := Aside0.mk (below_step (by repeat (first | (with_reducible first | exact HB.out | apply below_alloc | apply pw_below_drewN | apply below_drew1) | exact HB.out)) hb);clear HO142;clear HB;have HO142 := n0_;have HO146 := n1_;have HB := n2_;clear n0_ n1_ n2_;(try clear hb);(try clear hb2);(try clear hk);(try clear hi);(try clear ho0);obtain ⟨Ao9,co9,eo9⟩ := Kd.R_slice HO142.out;subst eo9;obtain ⟨Ao10,co10,eo10⟩ := Kd.R_slice HO146.out;subst eo10) | ((with_reducible refine gate_callee (f := 16) rfl ?_);refine goesL_ (some 10) rfl rfl Try.func16 (by kernel_rfl) rfl #[.agg #[.bool t139,.slice Ao9 t140.length co9],.agg #[.bool t143,.slice Ao10 t144.length co10]] rfl (by (try simp only [List.map_toArray,List.map_cons,List.map_nil]);first | done | rfl | (simp only [List.length_drop,List.length_take];rfl)) ?_;(with_reducible refine (verdererref03_Plus.calls k t139 _ _ t140 t143 _ _ t144 t147 t148 _ ?side1 ?side2 ?side3 ?side4 A5.out).mono ?_);(case side1 => repeat (first | exact (Kd.R_reads' HO142.out).2.2 | (with_reducible refine Kd.C_alloc ?_ _) | (with_reducible refine Kd.C_drewN ?_ _) | (with_reducible refine Kd.C_drew ?_)));(case side2 => exact (Kd.R_reads' HO142.out).2.1);(case side3 => repeat (first | exact (Kd.R_reads' HO146.out).2.2 | (with_reducible refine Kd.C_alloc ?_ _) | (with_reducible refine Kd.C_drewN ?_ _) | (with_reducible refine Kd.C_drew ?_)));(case side4 => exact (Kd.R_reads' HO146.out).2.1);rintro e w11 ⟨v149,rfl,ho0,hb⟩;refine ⟨_,rfl,?_⟩;have n0_ := Aside0.mk (Kd.R_elder' (by (with_reducible repeat (first | apply Kd.R_alloc | apply Kd.R_drewN | apply Kd.R_drew));exact HO142.out) (Kd.R_base ho0) hb);have n1_ := Aside0.mk (Kd.R_elder' (by (with_reducible repeat (first | apply Kd.R_alloc | apply Kd.R_drewN | apply Kd.R_drew));exact HO146.out) (Kd.R_base ho0) hb);have n2_ := Aside0.mk (Kd.R_lower (Kd.R_new' (Kd.R_new' ho0 (Kd.R_lt (by (with_reducible repeat (first | apply Kd.R_alloc | apply Kd.R_drewN | apply Kd.R_drew));exact HO142.out))) (Kd.R_lt (by (with_reducible repeat (first | apply Kd.R_alloc | apply Kd.R_drewN | apply Kd.R_drew));exact HO146.out))) (below_size (by repeat (first | (with_reducible first | exact HB.out | apply below_alloc | apply pw_below_drewN | apply below_drew1) | exact HB.out))));have n3_ := Aside0.mk (below_step (by repeat (first | (with_reducible first | exact HB.out | apply below_alloc | apply pw_below_drewN | apply below_drew1) | exact HB.out)) hb);clear HO142;clear HO146;clear HB;have HO142 := n0_;have HO146 := n1_;have HO150 := n2_;have HB := n3_;clear n0_ n1_ n2_ n3_;(try clear hb);(try clear hb2);(try clear hk);(try clear hi);(try clear ho0);obtain ⟨Ao12,co12,eo12⟩ := Kd.R_slice HO150.out;subst eo12) | ((with_reducible refine gate_callee (f := 19) rfl ?_);refine goesL_ (some 11) rfl rfl Try.func19 (by kernel_rfl) rfl #[.agg #[.bool t147,.slice Ao12 t148.length co12]] rfl (by (try simp only [List.map_toArray,List.map_cons,List.map_nil]);first | done | rfl | (simp only [List.length_drop,List.length_take];rfl)) ?_;(with_reducible refine (verdererref03_Big_Value.calls k t147 _ _ t148 t151 t152 _ ?side1 ?side2 A6.out).mono ?_);(case side1 => repeat (first | exact (Kd.R_reads' HO150.out).2.2 | (with_reducible refine Kd.C_alloc ?_ _) | (with_reducible refine Kd.C_drewN ?_ _) | (with_reducible refine Kd.C_drew ?_)));(case side2 => exact (Kd.R_reads' HO150.out).2.1);rintro e w13 ⟨rfl,hb⟩;refine ⟨_,rfl,?_⟩;have n0_ := Aside0.mk (Kd.R_below (by (with_reducible repeat (first | apply Kd.R_alloc | apply Kd.R_drewN | apply Kd.R_drew));exact HO142.out) hb);have n1_ := Aside0.mk (Kd.R_below (by (with_reducible repeat (first | apply Kd.R_alloc | apply Kd.R_drewN | apply Kd.R_drew));exact HO146.out) hb);have n2_ := Aside0.mk (Kd.R_below (by (with_reducible repeat (first | apply Kd.R_alloc | apply Kd.R_drewN | apply Kd.R_drew));exact HO150.out) hb);have n3_ := Aside0.mk (below_step (by repeat (first | (with_reducible first | exact HB.out | apply below_alloc | apply pw_below_drewN | apply below_drew1) | exact HB.out)) hb);clear HO142;clear HO146;clear HO150;clear HB;have HO142 := n0_;have HO146 := n1_;have HO150 := n2_;have HB := n3_;clear n0_ n1_ n2_ n3_;(try clear hb);(try clear hb2);(try clear hk);(try clear hi)))
  go_ret2
  exact ⟨by first | rfl | (simp [errW_none,errW_some] <;> rfl) | (simp [*,errW_none,errW_some] <;> rfl),by repeat (first | (with_reducible first | exact HB.out | apply below_alloc | apply pw_below_drewN | apply below_drew1) | exact HB.out)⟩
end Go.Proofs.Ytcenlehfbgnphaa.Z
end
section
namespace Go.Proofs.Ytcenlehfbgnphaa.Z
open Go.RowKit Go.Proofs.YtcenlehfbgnphaaW.PrintWords Go.Proofs.YtcenlehfbgnphaaW.PrintLast Go.Proofs.YtcenlehfbgnphaaW.PrintMore
end Go.Proofs.Ytcenlehfbgnphaa.Z
end
section
namespace Go.Proofs.Ytcenlehfbgnphaa.Z
set_option linter.unusedVariables false
open Go.RowKit Go.Proofs.YtcenlehfbgnphaaW.PrintWords Go.Proofs.YtcenlehfbgnphaaW.PrintLast Go.Proofs.YtcenlehfbgnphaaW.PrintMore
end Go.Proofs.Ytcenlehfbgnphaa.Z
end
section
namespace Go.Proofs.Ytcenlehfbgnphaa.Z
set_option linter.unusedVariables false
open Go.RowKit Go.Proofs.YtcenlehfbgnphaaW.PrintWords Go.Proofs.YtcenlehfbgnphaaW.PrintLast Go.Proofs.YtcenlehfbgnphaaW.PrintMore
end Go.Proofs.Ytcenlehfbgnphaa.Z
end
section
namespace Go.Proofs.Ytcenlehfbgnphaa.Z
set_option linter.unusedVariables false
set_option linter.unusedSimpArgs false
set_option maxHeartbeats 1000000
open Go.RowKit Go.Proofs.YtcenlehfbgnphaaW.PrintWords Go.Proofs.YtcenlehfbgnphaaW.PrintLast Go.Proofs.YtcenlehfbgnphaaW.PrintMore
end Go.Proofs.Ytcenlehfbgnphaa.Z
end
section
namespace Go.Proofs.Ytcenlehfbgnphaa.Z
set_option linter.unusedVariables false
set_option linter.unusedSimpArgs false
open Go.RowKit Go.Proofs.YtcenlehfbgnphaaW.PrintWords Go.Proofs.YtcenlehfbgnphaaW.PrintLast Go.Proofs.YtcenlehfbgnphaaW.PrintMore
theorem known28 : verdererlaw28_known.f 12 = some true := by decide +kernel
end Go.Proofs.Ytcenlehfbgnphaa.Z
end
section
namespace Go.Proofs.Ytcenlehfbgnphaa.Z
open Go.RowKit Go.Proofs.YtcenlehfbgnphaaW.PrintWords Go.Proofs.YtcenlehfbgnphaaW.PrintLast Go.Proofs.YtcenlehfbgnphaaW.PrintMore
theorem known28k (k : Nat) (hk : 12 ≤ k) : verdererlaw28_known.f k = some true := at_rounds verdererlaw28_known.mono hk known28
theorem rd3_get (l : List (List S45)) (j : Nat) (h : j < l.length) : rd_L5 l (j : Int) = l[j] := by
  unfold rd_L5
  rw [Int.toNat_natCast,List.getD_eq_getElem?_getD,List.getElem?_eq_getElem h]
  rfl
def Ahead (l : List (List S45)) (a1 a2 : ByteArray) (i : Nat) (lim : Int) : Prop := i = 0 ∨ ∃ (h : i - 1 < l.length),l[i - 1].length ≤ 60 ∧ (useOf (l[i - 1].find? (hitB a1 a2))).2.2.1 ≤ lim ∧ (useOf (l[i - 1].find? (hitB a1 a2))).2.2.2.1 = lim
theorem hit_same {a1 a2 : ByteArray} {u : S45} (h : hitB a1 a2 u = true) : hitB u.f0 u.f1 = hitB a1 a2 := by
  unfold hitB at h
  simp only [Bool.and_eq_true,beq_iff_eq] at h
  funext v
  unfold hitB
  rw [h.1,h.2]
theorem judge_ok {was now : List S45} (h : (judgeOf ((now.filter overB).find? (badB was))).2.2.2.2 = 0) (u : S45) (hu : u ∈ now) (ho : overB u = true) : badB was u = false := by
  have hn : (now.filter overB).find? (badB was) = none := by
    generalize (now.filter overB).find? (badB was) = o at *
    cases o with
    | none => rfl
    | some v => exact absurd h (show ¬ ((16 : Int) = 0) by decide)
  rw [List.find?_eq_none] at hn
  have := hn u (List.mem_filter.2 ⟨hu,ho⟩)
  simpa using this
theorem keeps_l0 (l : List (List S45)) (a1 a2 : ByteArray) (hl : l.length ≤ 30) : ∀ m (i : Nat) (lim : Int) k,i + m = l.length → 4 * m + 200 < k → Ahead l a1 a2 i lim → verdererlaw28_QuotaKeeps.l0 k l a1 a2 lim (i : Int) = some true := by
  intro m
  induction m with
  | zero =>
    intro i lim k hi hk ha
    obtain ⟨k,rfl⟩ : ∃ m,k = m + 1 := ⟨k - 1,by omega⟩
    simp only [verdererlaw28_QuotaKeeps.l0]
    rw [if_neg (by omega),known28k k (by omega)]
    rfl
  | succ m ih =>
    intro i lim k hi hk ha
    obtain ⟨k,rfl⟩ : ∃ m,k = m + 3 := ⟨k - 3,by omega⟩
    have h : i < l.length := by omega
    simp only [verdererlaw28_QuotaKeeps.l0]
    rw [if_pos (by omega),if_pos (by omega),rd3_get l i h]
    by_cases c0 : (l[i].length : Int) > 60
    · rw [if_pos c0,known28k (k + 2) (by omega)]
      rfl
    · rw [if_neg c0,rfind_f a1 a2 l[i] (by omega) (k + 2) (by omega),Option.bind_some]
      have hx : ∀ u,l[i].find? (hitB a1 a2) = some u → u ∈ l[i] ∧ hitB a1 a2 u = true := fun u hu => ⟨List.mem_of_find?_eq_some hu,List.find?_some hu⟩
      cases hf : l[i].find? (hitB a1 a2) with
      | none =>
        simp only [useOf,Bool.false_eq_true,if_false,verdererlaw28_QuotaKeeps.j2,if_true]
        rw [known28k (k + 1) (by omega)]
        rfl
      | some u =>
        obtain ⟨hm,hh⟩ := hx u hf
        simp only [useOf,if_true]
        by_cases c1 : (i : Int) > 0
        · rw [if_pos c1]
          simp only [verdererlaw28_QuotaKeeps.j2]
          by_cases c2 : (u.f3 != lim) = true
          · rw [if_pos c2,known28k (k + 1) (by omega)]
            rfl
          · rw [if_neg c2,if_neg (by omega)]
            have el : u.f3 = lim := by simpa using c2
            simp only [verdererlaw28_QuotaKeeps.j3,Bool.false_eq_true,if_false]
            rw [if_pos c1]
            have ew : wrap64 ((i : Int) - 1) = ((i - 1 : Nat) : Int) := by unfold wrap64;omega
            rcases ha with rfl | ⟨hb,h60,hu1,hu2⟩
            · exact absurd c1 (by decide)
            · rw [ew,if_pos (by omega),if_pos (by omega),if_pos (by omega),if_pos (by omega),rd3_get l i h,rd3_get l (i - 1) hb,judge_f _ _ (by omega) (by omega) k (by omega),Option.bind_some]
              by_cases c3 : (judgeOf ((l[i].filter overB).find? (badB l[i - 1]))).2.2.2.2 = 0
              · rw [if_pos c3]
                have hok : ¬ u.f2 > u.f3 := by
                  intro hgt
                  have hb2 := judge_ok c3 u hm (decide_eq_true hgt)
                  unfold badB at hb2
                  rw [hit_same hh] at hb2
                  simp only [Bool.or_eq_false_iff,decide_eq_false_iff_not] at hb2
                  omega
                rw [if_neg hok,wrap_nx h (by omega)]
                refine ih (i + 1) _ k (by omega) (by omega) (.inr ⟨h,?_,?_,?_⟩)
                · simp only [Nat.add_sub_cancel];omega
                · simp only [Nat.add_sub_cancel,hf,useOf];omega
                · simp only [Nat.add_sub_cancel,hf,useOf]
              · rw [if_neg c3,known28k k (by omega)]
                rfl
        · rw [if_neg c1]
          obtain rfl : i = 0 := by omega
          simp only [verdererlaw28_QuotaKeeps.j2,Bool.false_eq_true,if_false]
          rw [if_pos (by rfl)]
          simp only [verdererlaw28_QuotaKeeps.j3]
          by_cases c2 : u.f2 > u.f3
          · rw [if_pos (decide_eq_true c2),known28k k (by omega)]
            rfl
          · rw [if_neg (by rw [decide_eq_true_eq];exact c2),if_neg c1,if_neg c2,wrap_nx h (by omega)]
            refine ih 1 _ k (by omega) (by omega) (.inr ⟨h,?_,?_,?_⟩)
            · show l[0].length ≤ 60;omega
            · show (useOf (l[0].find? (hitB a1 a2))).2.2.1 ≤ u.f3;rw [hf];simp only [useOf];omega
            · show (useOf (l[0].find? (hitB a1 a2))).2.2.2.1 = u.f3;rw [hf];rfl
theorem quotaKeeps_pure : ∀ (l0 : (List (List S45))) (a1 : ByteArray) (a2 : ByteArray),(l0.length ≤ maxLen ∧ ∀ x ∈ l0,(x.length ≤ maxLen ∧ ∀ xx ∈ x,G45 xx)) → a1.size ≤ maxLen → a2.size ≤ maxLen → ∃ k,verdererlaw28_QuotaKeeps.f k l0 a1 a2 = some true := by
  intro l a1 a2 _ _ _
  refine ⟨500,?_⟩
  unfold verdererlaw28_QuotaKeeps.f
  have hk : ∀ b : Bool,(b = false → l.length ≤ 30) → verdererlaw28_QuotaKeeps.j0 500 l a1 a2 b = some true := by
    intro b hb
    simp only [verdererlaw28_QuotaKeeps.j0]
    cases b with
    | true => simp only [if_true];rw [known28k 499 (by decide)];rfl
    | false =>
      have hl := hb rfl
      simp only [Bool.false_eq_true,if_false]
      exact keeps_l0 l a1 a2 hl l.length 0 0 499 (by omega) (by omega) (.inl rfl)
  by_cases c : (l.length : Int) = 0
  · rw [if_pos c];exact hk true (fun h => by cases h)
  · rw [if_neg c]
    refine hk _ (fun h => ?_)
    have := of_decide_eq_false h
    omega
end Go.Proofs.Ytcenlehfbgnphaa.Z
end
namespace Go.Proofs.Ytcenlehfbgnphaa.quotaKeeps
open Go.ChangeShapes Go.WideShapes Go.ChangeAt Go.RowKit Go.Proofs.YtcenlehfbgnphaaW.PrintWords
open Go.ChangeMaps (open_string shut_string)
set_option linter.unusedVariables false
theorem own : ownKnob Try.prog.godebug = none := by kernel_rfl
theorem laidOut : laidOutB Try.prog = true := by kernel_rfl
set_option maxRecDepth 100000 in
theorem lifted (os : Os) (started : os.Started) (H : Type) (enc : TypeId × Value → H) :
    ReturnsInHanded {} Try.checked os 11 .any (Rows.quotaKeepsSpec.pre6 enc Try.prog Try.f11 Rows.quotaKeepsRow.domain false) (Rows.quotaKeepsSpec.post enc Try.prog Try.f11 false true false false) := by
  refine returnsInHanded_of_change (C := Try.checked) own started (by kernel_rfl) Try.func11
    (ChangeSpec.witness6 (enc := enc) (C := Try.checked) false ⟨#[],#[.slice none 0 0,.string ByteArray.empty,.string ByteArray.empty],[]⟩ 8 (by kernel_rfl) (by kernel_rfl) (by kernel_rfl) (by kernel_rfl)) ?_
  intro W base args ds gs before hval0 hW hcnd _
  have hval : ∀ (j : Nat) t v,Try.f11.params[j]? = some t → args[j]? = some v → Value.okWide Try.prog W .any base t v := hval0
  have hW' := hW
  obtain ⟨p,q,hA0,hV,rfl,hfz,hnd⟩ := hW
  have hA : DataW.TrodAll enc Try.prog W 0 (fun _ => true) true Try.f11.params.toList args.toList ds p := hA0
  rw [Try.params11] at hA hval
  obtain ⟨v0,vs0,d0,ds0,p0,q0,hargs,rfl,rfl,h0,r0⟩ := trodAll_cons hA
  obtain ⟨v1,vs1,d1,ds1,p1,q1,rfl,rfl,rfl,h1,r1⟩ := trodAll_cons r0
  obtain ⟨v2,vs2,d2,ds2,p2,q2,rfl,rfl,rfl,h2,r2⟩ := trodAll_cons r1
  obtain ⟨rfl,rfl,rfl⟩ := trodAll_nil r2
  obtain rfl : args = #[v0,v1,v2] := by cases args;simp_all
  obtain ⟨rfl,rfl⟩ := trodVars_none hV
  obtain ⟨a0,len0,cap0,rfl⟩ := okWide_slice Try.underlying65 (hval 0 65 v0 rfl rfl)
  have k0 := h0
  have lt0 : ∀ x ∈ p0,x.block < W.heap.size := by obtain ⟨m,hm⟩ := k0;exact DataW.trod_lt m _ _ _ hm
  obtain ⟨l0,hK0,hG0⟩ : ∃ l,((Kd.slice 53 (Kd.slice 45 Z.k45)) : Kd (List (List Z.S45))).K W l [.slice a0 len0 cap0] ∧ (l.length ≤ maxLen ∧ ∀ x ∈ l,(x.length ≤ maxLen ∧ ∀ xx ∈ x,Z.G45 xx)) := by obtain ⟨fuel,hf⟩ := h0;exact (show OfTrod Try.prog 65 (Kd.slice 53 (Kd.slice 45 Z.k45)) _ from (ofTrod_slice Try.underlying65 (by kernel_rfl) (ofTrod_slice Try.underlying53 (by kernel_rfl) Z.of45))) _ _ _ _ _ _ _ _ _ hf
  obtain ⟨A0,c0,he0,hl0,hC0⟩ := hK0
  simp only [List.cons.injEq,Value.slice.injEq,and_true] at he0
  obtain ⟨rfl,rfl,rfl⟩ := he0
  obtain ⟨a1,rfl,rfl,rfl,y1⟩ := open_string Try.underlying9 (hval 1 9 v1 rfl rfl) h1
  obtain ⟨a2,rfl,rfl,rfl,y2⟩ := open_string Try.underlying9 (hval 2 9 v2 rfl rfl) h2
  clear hA0 hval0
  obtain ⟨k,h⟩ := Z.quotaKeeps_pure l0 a1 a2 hG0 y1 y2
  refine (Z.verdererlaw28_QuotaKeeps.calls k _ _ l0 a1 a2 true W hC0 hl0 h).mono fun e W' ⟨he,bel⟩ => ?_
  subst he
  exact ⟨_,rfl,_,_,_,[],_,[],hW',trodAll_mk1 (shut_bool Try.underlying4 _),(trodAll_cons_mk (Below.trod laidOut (by kernel_rfl) (of_decide_eq_true (by kernel_rfl)) k0 bel lt0) (trodAll_cons_mk (shut_string Try.underlying9 y1) (trodAll_cons_mk (shut_string Try.underlying9 y2) trodAll_mk0))),rfl,bel.frame _,fun h => by cases h⟩
theorem over : Rows.quotaKeepsRow.holds Try.pinned (OpenSpec.ofChange Rows.quotaKeepsSpec) :=
  OpenClaim.holds_of_wide 11 Try.f11 rfl rfl rfl rfl rfl rfl rfl ⟨rfl,rfl,rfl,rfl,rfl⟩ rfl rfl rfl rfl rfl (by kernel_rfl) Try.func11 (by kernel_rfl)
    (of_decide_eq_true (by kernel_rfl)) (by unfold Func.isWrapper;first | (rw [if_pos (by decide +kernel)];kernel_rfl) | (rw [if_neg (by decide +kernel)];exact ⟨rfl,rfl⟩))
    (fun os started H enc _ => lifted os started H enc)
theorem proved : Rows.QuotaKeepsSaid := over
#print axioms proved
end Go.Proofs.Ytcenlehfbgnphaa.quotaKeeps
namespace Go.Proofs.Ytcenlehfbgnphaa
theorem quotaKeeps_holds : Rows.QuotaKeepsSaid := quotaKeeps.proved
end Go.Proofs.Ytcenlehfbgnphaa
