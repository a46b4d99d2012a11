/-
  verdererlaw02.RowSorts: for every input the law returns true, and each argument reads behind the call as it read before. No condition.
-/
import Derived.Test.YtfoaeigoajooeaaMRowSortsa
import Derived.Test.YtfoaeigoajooeaaMRowSortsb
import Derived.Test.YtfoaeigoajooeaaMRowSortsc
import Derived.Test.YtfoaeigoajooeaaMRowSortsd
import Derived.Lib.Hide
import Derived.Deep.Slices
import Derived.ProofKit
import Derived.Test.YtfoaeigoajooeaaRows
import Derived.WalkKit
import Derived.OpenShut
import Derived.ShutString
import Derived.ChangeOld
import Derived.Below
import Derived.Laws.Cover2
section
namespace Go.Proofs.Ytfoaeigoajooeaa.Z
open Go.RowKit Go.Proofs.YtfoaeigoajooeaaW.PrintWords Go.Proofs.YtfoaeigoajooeaaW.PrintLast Go.Proofs.YtfoaeigoajooeaaW.PrintMore
attribute [local go_sem] max2_int min2_int max_two min_two max_three min_three max_four min_four
set_option linter.unusedVariables false
set_option linter.unusedSimpArgs false
mutual
def verdererref02_Sort.l0 : Nat → List (List (S50)) → List (List (S50)) → Int → Option ((List (List (S50))))
 | 0,_,_,_ => none
 | k + 1,x0,x3,x4 => if x4 < (x0.length : Int) then (verdererref02_Sort.l1 k x0 x3 x4 0) else (some x3)
def verdererref02_Sort.l1 : Nat → List (List (S50)) → List (List (S50)) → Int → Int → Option ((List (List (S50))))
 | 0,_,_,_,_ => none
 | k + 1,x0,x3,x4,x5 => if x5 < (x3.length : Int) then (if 0 ≤ x5 then (if 0 ≤ x4 then (if x4 < (x0.length : Int) then ((verdererref02_Compare.f k (rd_L4 x3 x5) (rd_L4 x0 x4)).bind fun t348 => (if t348 < 0 then (verdererref02_Sort.l1 k x0 x3 x4 (wrap64 (x5 + 1))) else ((verdererref02_Same.f k (rd_L4 x3 x5) (rd_L4 x0 x4)).bind fun t351 => (if t351 = true then (verdererref02_Sort.l0 k x0 x3 (wrap64 (x4 + 1))) else (if x5 ≤ (x3.length : Int) then ((some (x3.take (x5 : Int).toNat : List (List (S50)))).bind fun y352 => (if ([] : List (List (S50))).length + y352.length < 5864062014805 then ((some (([] : List (List (S50))) ++ y352 : List (List (S50)))).bind fun y357 => (if y357.length < 5864062014805 then ((some (y357 ++ [rd_L4 x0 x4] : List (List (S50)))).bind fun y361 => ((some (x3.drop (x5 : Int).toNat : List (List (S50)))).bind fun y364 => (if y361.length + y364.length < 5864062014805 then (verdererref02_Sort.l0 k x0 (y361 ++ y364) (wrap64 (x4 + 1))) else (none)))) else (none))) else (none))) else (none)))))) else (none)) else (none)) else (none)) else (if 0 ≤ x5 then (if x5 ≤ (x3.length : Int) then ((some (x3.take (x5 : Int).toNat : List (List (S50)))).bind fun y372 => (if ([] : List (List (S50))).length + y372.length < 5864062014805 then ((some (([] : List (List (S50))) ++ y372 : List (List (S50)))).bind fun y377 => (if 0 ≤ x4 then (if x4 < (x0.length : Int) then (if y377.length < 5864062014805 then ((some (y377 ++ [rd_L4 x0 x4] : List (List (S50)))).bind fun y381 => ((some (x3.drop (x5 : Int).toNat : List (List (S50)))).bind fun y384 => (if y381.length + y384.length < 5864062014805 then (verdererref02_Sort.l0 k x0 (y381 ++ y384) (wrap64 (x4 + 1))) else (none)))) else (none)) else (none)) else (none))) else (none))) else (none)) else (none))
end
def verdererref02_Sort.f (k : Nat) (l0 : List (List (S50))) : Option ((List (List (S50)))) := verdererref02_Sort.l0 k l0 ([] : List (List (S50))) 0
theorem verdererref02_Sort.mono_l : ∀ k,(∀ y0 y1 y2,LeO (verdererref02_Sort.l0 k y0 y1 y2) (verdererref02_Sort.l0 (k + 1) y0 y1 y2)) ∧ (∀ y0 y1 y2 y3,LeO (verdererref02_Sort.l1 k y0 y1 y2 y3) (verdererref02_Sort.l1 (k + 1) y0 y1 y2 y3))
 | 0 => ⟨fun _ _ _ r h => by simp [verdererref02_Sort.l0] at h,fun _ _ _ _ r h => by simp [verdererref02_Sort.l1] at h⟩
 | k + 1 => by
  obtain ⟨ih0,ih1⟩ := verdererref02_Sort.mono_l k
  refine ⟨?_,?_⟩
  ·intro y0 y1 y2
   unfold verdererref02_Sort.l0
   repeat' first
   | (with_reducible exact ih0 _ _ _)
   | (with_reducible exact ih1 _ _ _ _)
   | (with_reducible exact verdererref02_Compare.mono _ _ _)
   | (with_reducible exact verdererref02_Same.mono _ _ _)
   | (with_reducible exact LeO.refl _)
   | (with_reducible exact LeO.none _)
   | (with_reducible refine LeO.ite ?_ ?_)
   | (with_reducible refine LeO.bind ?_ (fun _ => ?_))
   | exact ih0 _ _ _
   | exact ih1 _ _ _ _
   | exact verdererref02_Compare.mono _ _ _
   | exact verdererref02_Same.mono _ _ _
   | exact LeO.none _
   | refine LeO.ite ?_ ?_
   | refine LeO.bind ?_ (fun _ => ?_)
  ·intro y0 y1 y2 y3
   unfold verdererref02_Sort.l1
   repeat' first
   | (with_reducible exact ih0 _ _ _)
   | (with_reducible exact ih1 _ _ _ _)
   | (with_reducible exact verdererref02_Compare.mono _ _ _)
   | (with_reducible exact verdererref02_Same.mono _ _ _)
   | (with_reducible exact LeO.refl _)
   | (with_reducible exact LeO.none _)
   | (with_reducible refine LeO.ite ?_ ?_)
   | (with_reducible refine LeO.bind ?_ (fun _ => ?_))
   | exact ih0 _ _ _
   | exact ih1 _ _ _ _
   | exact verdererref02_Compare.mono _ _ _
   | exact verdererref02_Same.mono _ _ _
   | exact LeO.none _
   | refine LeO.ite ?_ ?_
   | refine LeO.bind ?_ (fun _ => ?_)
theorem verdererref02_Sort.mono : ∀ a0 k,LeO (verdererref02_Sort.f k a0) (verdererref02_Sort.f (k + 1) a0) := by
 intro a0 k
 obtain ⟨ih0,ih1⟩ := verdererref02_Sort.mono_l k
 unfold verdererref02_Sort.f
 repeat' first
   | (with_reducible exact ih0 _ _ _)
   | (with_reducible exact ih1 _ _ _ _)
   | (with_reducible exact verdererref02_Compare.mono _ _ _)
   | (with_reducible exact verdererref02_Same.mono _ _ _)
   | (with_reducible exact LeO.refl _)
   | (with_reducible exact LeO.none _)
   | (with_reducible refine LeO.ite ?_ ?_)
   | (with_reducible refine LeO.bind ?_ (fun _ => ?_))
   | exact ih0 _ _ _
   | exact ih1 _ _ _ _
   | exact verdererref02_Compare.mono _ _ _
   | exact verdererref02_Same.mono _ _ _
   | exact LeO.none _
   | refine LeO.ite ?_ ?_
   | refine LeO.bind ?_ (fun _ => ?_)
def verdererref02_Sort.T6 : Bool × List (List Nat × List Nat) := (true,[([],[]),([],[]),([1],[1]),([0,2],[0,2]),([3],[3]),([4],[4]),([4],[4]),([5,6,4],[4,5,6]),([7,4],[4,7]),([4],[4]),([4],[4]),([9,10,4],[4,9,10]),([11,4],[4,11]),([8,12,4,4],[4,8,12]),([13,4],[4,13]),([4,14],[4,14])])
def verdererref02_Sort.B6 : List Nat := [0,0,2,7,15,31,31,127,255,31,31,1567,3615,8191,16383,32767]
theorem verdererref02_Sort.tab6 : rtab .any (opsOf Try.f30 6) = verdererref02_Sort.T6 := by kernel_rfl
theorem verdererref02_Sort.bits6 : waitsOk verdererref02_Sort.T6.2 verdererref02_Sort.B6 = true := by kernel_rfl
def verdererref02_Sort.T8 : Bool × List (List Nat × List Nat) := (true,[([],[]),([],[]),([1],[1]),([0,2],[0,2]),([3],[3]),([4],[4]),([4],[4]),([5,6,4],[4,5,6]),([7,4],[4,7]),([4],[4]),([4],[4]),([9,10,4],[4,9,10]),([11,4],[4,11]),([8,12,4,4],[4,8,12]),([4,13],[4,13])])
def verdererref02_Sort.B8 : List Nat := [0,0,2,7,15,31,31,127,255,31,31,1567,3615,8191,16383]
theorem verdererref02_Sort.tab8 : rtab .any (opsOf Try.f30 8) = verdererref02_Sort.T8 := by kernel_rfl
theorem verdererref02_Sort.bits8 : waitsOk verdererref02_Sort.T8.2 verdererref02_Sort.B8 = true := by kernel_rfl
set_option maxHeartbeats 8000000 in
set_option maxRecDepth 100000 in
theorem verdererref02_Sort.calls (k : Nat) (P0_ : Nat → Prop) (A0 : Option Addr) (c0 : Nat) (l0 : List (List (S50))) (r : List (List (S50))) (w : World) (hs0 : Kd.V (Kd.slice 50 k50) 22 w w.heap.size (fun k_ => P0_ k_) (.slice A0 l0.length c0) l0) (h : verdererref02_Sort.f k l0 = some r) :
  Calls Try.prog 30 #[.slice A0 l0.length c0] w fun e w' => ∃ v0_ : Value,e = .returned (v0_) ∧ Kd.N (Kd.slice 50 k50) 22 w' w.heap.size (fun k_ => (P0_ k_ ∨ w.heap.size ≤ k_)) v0_ r ∧ Below w.heap.size w w' := by
 have HO0 := Aside0.mk (show Kd.V (Kd.slice 50 k50) 22 w w.heap.size (fun k_ => (P0_ k_ ∨ w.heap.size ≤ k_)) (.slice A0 l0.length c0) l0 from Kd.V_mono hs0 (fun k_ hk => .inl hk))
 have HB := Aside0.mk (Below.refl w.heap.size w)
 have H : (verdererref02_Sort.l0 k l0 ([] : List (List (S50))) 0) = some r := h
 clear h
 have H' := Aside0.mk H
 clear H
 go_enter Try.func30,Try.ntmps30
 go_wp2
 go_loopg [3,4] k (fun kq v3 v4 w' => ∃ (x3_1 : List (List (S50))) (x4_1 : Int),v4 = .int .i64 x4_1 ∧ Aside0 (verdererref02_Sort.l0 kq l0 x3_1 x4_1 = some r) ∧ Aside0 (kq ≤ k) ∧ Aside0 (Kd.V (Kd.slice 50 k50) 22 w' w.heap.size (fun k_ => (P0_ k_ ∨ w.heap.size ≤ k_) ∧ some k_ ≠ (v3 : Value).ownBlock) (.slice A0 l0.length c0) l0) ∧ Aside0 (Kd.N (Kd.slice 50 k50) 22 w' w.heap.size (fun k_ => (P0_ k_ ∨ w.heap.size ≤ k_)) v3 x3_1) ∧ Aside0 (Below w.heap.size w w'))
 case atStart => exact ⟨(([] : List (List (S50)))),(0),(by first | rfl | (simp;done) | (simp [*];done)),H',⟨Nat.le_refl _⟩,⟨by (with_reducible repeat (first | apply Kd.V_alloc | apply Kd.V_drewN | apply Kd.V_drew));exact Kd.V_mono HO0.out (fun _ hk => ⟨hk,(by simp [Value.ownBlock])⟩)⟩,⟨by first | exact Kd.S_nil _ _ _ _ _ | exact Kd.N_nil _ _ _ _ _ | exact Kd.V_nil _ _ _ _ _ | exact Kd.Q_nil _ _ _ _ _ | exact Kd.R_nil _ _ _ _ _⟩,⟨by repeat (first | (with_reducible first | exact HB.out | apply q0b | apply q0a | apply q0c) | exact HB.out)⟩⟩
 case round =>
  clear H'
  obtain ⟨x3_1,x4_1,rfl,HA,HK1,HO_0,HO_3,HB⟩ := hrel
  cases gk with
  | zero => exact absurd HA.out (by simp [verdererref02_Sort.l0])
  | succ k1 =>
   have H := HA.out
   clear HA
   simp only [verdererref02_Sort.l0] at H
   by_cases c2 : x4_1 < (l0.length : Int)
   ·rw [if_pos c2] at H
    have c2b0 : decide (x4_1 < (l0.length : Int)) = true := decide_eq_true c2
    clear c2
    have H' := Aside0.mk H
    clear H
    go_wp2
    go_loopg [5] k1 (fun kq v5 w' => ∃ (x5_2 : Int),v5 = .int .i64 x5_2 ∧ Aside0 (verdererref02_Sort.l1 kq l0 x3_1 x4_1 x5_2 = some r) ∧ Aside0 (kq ≤ k1) ∧ Aside0 (Kd.V (Kd.slice 50 k50) 22 w' w.heap.size (fun k_ => (P0_ k_ ∨ w.heap.size ≤ k_) ∧ some k_ ≠ (u3 : Value).ownBlock) (.slice A0 l0.length c0) l0) ∧ Aside0 (Kd.N (Kd.slice 50 k50) 22 w' w.heap.size (fun k_ => (P0_ k_ ∨ w.heap.size ≤ k_)) u3 x3_1) ∧ Aside0 (Below w.heap.size w w'))
    case atStart => exact ⟨(0),(by first | rfl | (simp;done) | (simp [*];done)),H',⟨Nat.le_refl _⟩,⟨by (with_reducible repeat (first | apply Kd.V_alloc | apply Kd.V_drewN | apply Kd.V_drew));exact HO_0.out⟩,⟨by (with_reducible repeat (first | apply Kd.N_alloc | apply Kd.N_drewN | apply Kd.N_drew));exact HO_3.out⟩,⟨by repeat (first | (with_reducible first | exact HB.out | apply q0b | apply q0a | apply q0c) | exact HB.out)⟩⟩
    case round =>
     clear H'
     try clear c2
     try clear c2b0
     try clear p2
     obtain ⟨x5_2,rfl,HA,HK2,HO_0,HO_3,HB⟩ := hrel
     cases gk with
     | zero => exact absurd HA.out (by simp [verdererref02_Sort.l1])
     | succ k2 =>
      have H := HA.out
      clear HA
      simp only [verdererref02_Sort.l1] at H
      by_cases c3 : x5_2 < (x3_1.length : Int)
      ·rw [if_pos c3] at H
       have c3b0 : decide (x5_2 < (x3_1.length : Int)) = true := decide_eq_true c3
       clear c3
       by_cases c4 : 0 ≤ x5_2
       ·rw [if_pos c4] at H
        have c4b0 : decide (0 ≤ x5_2) = true := decide_eq_true c4
        clear c4
        by_cases c5 : 0 ≤ x4_1
        ·rw [if_pos c5] at H
         have c5b0 : decide (0 ≤ x4_1) = true := decide_eq_true c5
         clear c5
         by_cases c6 : x4_1 < (l0.length : Int)
         ·rw [if_pos c6] at H
          have c6b0 : decide (x4_1 < (l0.length : Int)) = true := decide_eq_true c6
          clear c6
          replace H := Option.bind_eq_some_iff.mp H
          obtain ⟨t348,A70,H⟩ := H
          replace H : (if t348 < 0 then (verdererref02_Sort.l1 k2 l0 x3_1 x4_1 (wrap64 (x5_2 + 1))) else ((verdererref02_Same.f k2 (rd_L4 x3_1 x5_2) (rd_L4 l0 x4_1)).bind fun t351 => (if t351 = true then (verdererref02_Sort.l0 k2 l0 x3_1 (wrap64 (x4_1 + 1))) else (if x5_2 ≤ (x3_1.length : Int) then ((some (x3_1.take (x5_2 : Int).toNat : List (List (S50)))).bind fun y352 => (if ([] : List (List (S50))).length + y352.length < 5864062014805 then ((some (([] : List (List (S50))) ++ y352 : List (List (S50)))).bind fun y357 => (if y357.length < 5864062014805 then ((some (y357 ++ [rd_L4 l0 x4_1] : List (List (S50)))).bind fun y361 => ((some (x3_1.drop (x5_2 : Int).toNat : List (List (S50)))).bind fun y364 => (if y361.length + y364.length < 5864062014805 then (verdererref02_Sort.l0 k2 l0 (y361 ++ y364) (wrap64 (x4_1 + 1))) else (none)))) else (none))) else (none))) else (none))))) = some r := H
          have A7 := Aside0.mk A70
          clear A70
          by_cases c8 : t348 < 0
          ·rw [if_pos c8] at H
           have c8b0 : decide (t348 < 0) = true := decide_eq_true c8
           clear c8
           have H' := Aside0.mk H
           clear H
           try go_wp2
           have n0_ := Aside0.mk (Kd.V_drew HO_0.out)
           have n1_ := Aside0.mk (Kd.N_drew HO_3.out)
           have n2_ := Aside0.mk (q0c HB.out)
           clear HO_0
           clear HO_3
           clear HB
           have HO_0 := n0_
           have HO_3 := n1_
           have HB := n2_
           clear n0_ n1_ n2_
           obtain ⟨Ao10,co10,eo10⟩ := Kd.N_slice HO_3.out
           (first | subst eo10 | (injection eo10 with f1_ f2_ f3_;have f4_ := f1_.symm;have f5_ := f3_.symm;clear f1_ f2_ f3_;subst f4_;subst f5_))
           have p346 : 0 ≤ (x5_2 : Int) := of_decide_eq_true (by first | (with_reducible assumption) | assumption)
           have q346 : x5_2 < (x3_1.length : Int) := of_decide_eq_true (by first | (with_reducible assumption) | assumption)
           obtain ⟨ad346,A346_0,c346_0,e346,hx346_0,hl346_0,hi346_0⟩ := at_L4 (Kd.N_reads' HO_3.out).2.2 x5_2 p346 q346
           cases e346
           obtain ⟨ce346,hce346,hMe346,hcc346⟩ := Kd.N_get HO_3.out [] x5_2 p346 (by first | exact q346 | exact of_decide_eq_true (by first | (with_reducible assumption) | assumption) | (have e_ := (Kd.N_reads' HO_3.out).1;omega))
           obtain ⟨ua346_0,uc346_0,rfl,ul346_0,ge346_0⟩ := Kd.FK_slice_open hMe346
           have hv346_0 := hcc346 0 _ rfl
           rw [Nat.add_zero,show ((Kd.slice 50 k50)).sz = 1 from rfl,Nat.mul_one] at hv346_0
           replace hv346_0 := Option.some.inj (hv346_0.symm.trans hx346_0)
           injection hv346_0 with hva_ hvn_ hvc_
           rw [hva_] at ge346_0
           rw [hvc_] at ul346_0
           have HL346_0 := Aside0.mk (show Kd.V k50 50 _ w.heap.size _ _ (rd_L4 x3_1 x5_2) from Kd.V_mk ul346_0 ge346_0)
           clear hva_ hvn_ hvc_ ge346_0 ul346_0
           clear hcc346 hce346
           have HR346_0 := Aside0.mk hi346_0
           have HC346_0 := Aside0.mk hl346_0
           clear hi346_0 hl346_0
           replace p346 := eq_true p346
           replace q346 := eq_true q346
           have p347 : 0 ≤ (x4_1 : Int) := of_decide_eq_true (by first | (with_reducible assumption) | assumption)
           have q347 : x4_1 < (l0.length : Int) := of_decide_eq_true (by first | (with_reducible assumption) | assumption)
           obtain ⟨ad347,A347_0,c347_0,e347,hx347_0,hl347_0,hi347_0⟩ := at_L4 (Kd.V_reads' HO_0.out).2.2 x4_1 p347 q347
           cases e347
           obtain ⟨ce347,hce347,hMe347,hcc347⟩ := Kd.V_get HO_0.out [] x4_1 p347 (by first | exact q347 | exact of_decide_eq_true (by first | (with_reducible assumption) | assumption) | (have e_ := (Kd.V_reads' HO_0.out).1;omega))
           obtain ⟨ua347_0,uc347_0,rfl,ul347_0,ge347_0⟩ := Kd.FK_slice_open hMe347
           have hv347_0 := hcc347 0 _ rfl
           rw [Nat.add_zero,show ((Kd.slice 50 k50)).sz = 1 from rfl,Nat.mul_one] at hv347_0
           replace hv347_0 := Option.some.inj (hv347_0.symm.trans hx347_0)
           injection hv347_0 with hva_ hvn_ hvc_
           rw [hva_] at ge347_0
           rw [hvc_] at ul347_0
           have HL347_0 := Aside0.mk (show Kd.V k50 50 _ w.heap.size _ _ (rd_L4 l0 x4_1) from Kd.V_mk ul347_0 ge347_0)
           clear hva_ hvn_ hvc_ ge347_0 ul347_0
           clear hcc347 hce347
           have HR347_0 := Aside0.mk hi347_0
           have HC347_0 := Aside0.mk hl347_0
           clear hi347_0 hl347_0
           replace p347 := eq_true p347
           replace q347 := eq_true q347
           refine start_ (n := 16) (S := fun w' => w'.cell? (ad346.add (x5_2).toNat) = some (.slice A346_0 (rd_L4 x3_1 x5_2).length c346_0) ∧ w'.cell? (ad347.add (x4_1).toNat) = some (.slice A347_0 (rd_L4 l0 x4_1).length c347_0)) (ds := []) #[false,false,false,false,false,false,false,false,false,false,false,false,false,false,false,false] (by kernel_rfl) rfl rfl ⟨hx346_0,hx347_0⟩ (fun hHeld => ?_);refine with_tabW verdererref02_Sort.tab6 verdererref02_Sort.bits6 (fun HT_ HW_ => ?_)
           generalize wr.drew = w9 at HO_0 HO_3 HB HL346_0 HL347_0 HR346_0 HR347_0 hx346_0 hx347_0 hHeld ⊢
           refine pure_ (i := 0) (N := some 13) (v := ?_) (a' := ?_) #[true,false,false,false,false,false,false,false,false,false,false,false,false,false,false,false] rfl rfl (q0m HT_.out (by kernel_rfl)) (fun _ _ _ h => h) (Or.inl ⟨by rfl,?_⟩) ?_ ?_
           rotate_left
           ·intro w'
            go_simp
            with_reducible rfl
           rotate_left
           ·simp only [Act.put,zA,zB,zC,i64_w,i32_w]
            rfl
           refine pure_ (i := 1) (N := some 14) (v := ?_) (a' := ?_) #[true,true,false,false,false,false,false,false,false,false,false,false,false,false,false,false] rfl rfl (q0m HT_.out (by kernel_rfl)) (fun _ _ _ h => h) (Or.inl ⟨by rfl,?_⟩) ?_ ?_
           rotate_left
           ·intro w'
            go_simp
            with_reducible rfl
           rotate_left
           ·simp only [Act.put,zA,zB,zC,i64_w,i32_w]
            rfl
           refine pure_ (i := 2) (N := some 15) (v := ?_) (a' := ?_) #[true,true,true,false,false,false,false,false,false,false,false,false,false,false,false,false] rfl rfl (q0m HT_.out (by kernel_rfl)) (fun _ _ _ h => h) (Or.inl ⟨by rfl,?_⟩) ?_ ?_
           rotate_left
           ·intro w'
            go_simp
            with_reducible rfl
           rotate_left
           ·simp only [Act.put,zA,zB,zC,i64_w,i32_w]
            rfl
           refine pure_ (i := 3) (N := some 16) (v := ?_) (a' := ?_) #[true,true,true,true,false,false,false,false,false,false,false,false,false,false,false,false] rfl rfl (q0m HT_.out (by kernel_rfl)) (fun _ _ _ h => h) (Or.inl ⟨by rfl,?_⟩) ?_ ?_
           rotate_left
           ·intro w'
            go_simp
            with_reducible rfl
           rotate_left
           ·simp only [Act.put,zA,zB,zC,i64_w,i32_w]
            rfl
           refine pure_ (i := 4) (N := some 17) (v := ?_) (a' := ?_) #[true,true,true,true,true,false,false,false,false,false,false,false,false,false,false,false] rfl rfl (q0m HT_.out (by kernel_rfl)) (fun _ _ _ h => h) (Or.inl ⟨by rfl,?_⟩) ?_ ?_
           rotate_left
           ·intro w'
            go_simp
            with_reducible rfl
           rotate_left
           ·simp only [Act.put,zA,zB,zC,i64_w,i32_w]
            rfl
           refine pure_ (i := 5) (N := some 18) (v := ?_) (a' := ?_) #[true,true,true,true,true,true,false,false,false,false,false,false,false,false,false,false] rfl rfl (q0m HT_.out (by kernel_rfl)) (fun _ _ _ h => h) (Or.inl ⟨by rfl,?_⟩) ?_ ?_
           rotate_left
           ·intro w'
            go_simp
            with_reducible rfl
           rotate_left
           ·simp only [Act.put,zA,zB,zC,i64_w,i32_w]
            rfl
           refine pure_ (i := 6) (N := some 19) (v := ?_) (a' := ?_) #[true,true,true,true,true,true,true,false,false,false,false,false,false,false,false,false] rfl rfl (q0m HT_.out (by kernel_rfl)) (fun _ _ _ h => h) (Or.inl ⟨by rfl,?_⟩) ?_ ?_
           rotate_left
           ·intro w'
            go_simp
            with_reducible rfl
           rotate_left
           ·simp only [Act.put,zA,zB,zC,i64_w,i32_w]
            rfl
           refine pure_ (i := 7) (N := some 20) (v := ?_) (a' := ?_) #[true,true,true,true,true,true,true,true,false,false,false,false,false,false,false,false] rfl rfl (q0m HT_.out (by kernel_rfl)) (fun _ _ _ h => h) (Or.inl ⟨by rfl,?_⟩) ?_ ?_
           rotate_left
           ·intro w'
            go_simp
            with_reducible rfl
           rotate_left
           ·simp only [Act.put,zA,zB,zC,i64_w,i32_w]
            rfl
           refine pure_ (i := 9) (N := some 22) (v := ?_) (a' := ?_) #[true,true,true,true,true,true,true,true,false,true,false,false,false,false,false,false] rfl rfl (q0m HT_.out (by kernel_rfl)) (fun _ _ _ h => h) (Or.inl ⟨by rfl,?_⟩) ?_ ?_
           rotate_left
           ·intro w'
            go_simp
            with_reducible rfl
           rotate_left
           ·simp only [Act.put,zA,zB,zC,i64_w,i32_w]
            rfl
           refine pure_ (i := 10) (N := some 23) (v := ?_) (a' := ?_) #[true,true,true,true,true,true,true,true,false,true,true,false,false,false,false,false] rfl rfl (q0m HT_.out (by kernel_rfl)) (fun _ _ _ h => h) (Or.inl ⟨by rfl,?_⟩) ?_ ?_
           rotate_left
           ·intro w'
            go_simp
            with_reducible rfl
           rotate_left
           ·simp only [Act.put,zA,zB,zC,i64_w,i32_w]
            rfl
           refine pure_ (i := 11) (N := some 24) (v := ?_) (a' := ?_) #[true,true,true,true,true,true,true,true,false,true,true,true,false,false,false,false] rfl rfl (q0m HT_.out (by kernel_rfl)) (fun _ _ _ h => h) (Or.inl ⟨by rfl,?_⟩) ?_ ?_
           rotate_left
           ·intro w'
            go_simp
            with_reducible rfl
           rotate_left
           ·simp only [Act.put,zA,zB,zC,i64_w,i32_w]
            rfl
           refine take_ (i := 8) (N := some 21) (v := ?_) (a' := ?_) #[true,true,true,true,true,true,true,true,true,true,true,true,false,false,false,false] rfl rfl (take_ofW HT_.out HW_.out (by kernel_rfl)) (fun _ _ _ h => h) (Or.inl ⟨by rfl,?_⟩) hHeld ?_ ?_
           rotate_left
           ·rintro w' ⟨s0,s1⟩
            go_simp
            with_reducible rfl
           rotate_left
           ·simp only [Act.put,zA,zB,zC,i64_w,i32_w]
            rfl
           refine take_ (i := 12) (N := some 25) (v := ?_) (a' := ?_) #[true,true,true,true,true,true,true,true,true,true,true,true,true,false,false,false] rfl rfl (take_ofW HT_.out HW_.out (by kernel_rfl)) (fun _ _ _ h => h) (Or.inl ⟨by rfl,?_⟩) hHeld ?_ ?_
           rotate_left
           ·rintro w' ⟨s0,s1⟩
            go_simp
            with_reducible rfl
           rotate_left
           ·simp only [Act.put,zA,zB,zC,i64_w,i32_w]
            rfl
           refine one_ (i := 13) (N := some 26) #[true,true,true,true,true,true,true,true,true,true,true,true,true,true,false,false] rfl rfl (one_of HT_.out (by kernel_rfl)) (by decide) (fun K hK => ?_)
           refine goes_ Try.func22 (by kernel_rfl) rfl #[.slice A346_0 (rd_L4 x3_1 x5_2).length c346_0,.slice A347_0 (rd_L4 l0 x4_1).length c347_0] (by rfl) rfl rfl (by (try simp only [List.map_toArray,List.map_cons,List.map_nil]);first | done | rfl | (simp only [List.length_drop,List.length_take];rfl)) ?_
           with_reducible refine (verdererref02_Compare.calls k2 _ _ (rd_L4 x3_1 x5_2) _ _ (rd_L4 l0 x4_1) t348 _ ?side1 ?side2 ?side3 ?side4 A7.out).mono ?_
           (case side1 => repeat (first | exact (by repeat (first | (with_reducible exact HR346_0.out) | (with_reducible refine Kd.C_alloc ?_ _) | (with_reducible refine Kd.C_drewN ?_ _) | (with_reducible refine Kd.C_drew ?_) | exact HR346_0.out)) | (with_reducible refine Kd.C_alloc ?_ _) | (with_reducible refine Kd.C_drewN ?_ _) | (with_reducible refine Kd.C_drew ?_)))
           (case side2 => exact HC346_0.out)
           (case side3 => repeat (first | exact (by repeat (first | (with_reducible exact HR347_0.out) | (with_reducible refine Kd.C_alloc ?_ _) | (with_reducible refine Kd.C_drewN ?_ _) | (with_reducible refine Kd.C_drew ?_) | exact HR347_0.out)) | (with_reducible refine Kd.C_alloc ?_ _) | (with_reducible refine Kd.C_drewN ?_ _) | (with_reducible refine Kd.C_drew ?_)))
           (case side4 => exact HC347_0.out)
           rintro e w11 ⟨rfl,hb⟩
           have HS0_ := (hb.cell (World.block_lt_of_cell? _ _ (hHeld.1))).trans (hHeld.1)
           have HS1_ := (hb.cell (World.block_lt_of_cell? _ _ (hHeld.2))).trans (hHeld.2)
           refine ⟨_,rfl,?_⟩
           have n0_ := Aside0.mk (Kd.V_below (by (with_reducible repeat (first | apply Kd.V_alloc | apply Kd.V_drewN | apply Kd.V_drew));exact HO_0.out) hb)
           have n1_ := Aside0.mk (Kd.N_below (by (with_reducible repeat (first | apply Kd.N_alloc | apply Kd.N_drewN | apply Kd.N_drew));exact HO_3.out) hb)
           have n2_ := Aside0.mk (Kd.V_below (by (with_reducible repeat (first | apply Kd.V_alloc | apply Kd.V_drewN | apply Kd.V_drew));exact HL346_0.out) hb)
           have n3_ := Aside0.mk (Kd.V_below (by (with_reducible repeat (first | apply Kd.V_alloc | apply Kd.V_drewN | apply Kd.V_drew));exact HL347_0.out) hb)
           have n4_ := Aside0.mk (Kd.C_below (by repeat (first | (with_reducible exact HR346_0.out) | (with_reducible refine Kd.C_alloc ?_ _) | (with_reducible refine Kd.C_drewN ?_ _) | (with_reducible refine Kd.C_drew ?_) | exact HR346_0.out)) hb)
           have n5_ := Aside0.mk (Kd.C_below (by repeat (first | (with_reducible exact HR347_0.out) | (with_reducible refine Kd.C_alloc ?_ _) | (with_reducible refine Kd.C_drewN ?_ _) | (with_reducible refine Kd.C_drew ?_) | exact HR347_0.out)) hb)
           have n6_ := Aside0.mk (q0l (by repeat (first | (with_reducible first | exact HB.out | apply q0b | apply q0a | apply q0c) | exact HB.out)) hb)
           clear HO_0
           clear HO_3
           clear HL346_0
           clear HL347_0
           clear HR346_0
           clear HR347_0
           clear HB
           have HO_0 := n0_
           have HO_3 := n1_
           have HL346_0 := n2_
           have HL347_0 := n3_
           have HR346_0 := n4_
           have HR347_0 := n5_
           have HB := n6_
           clear n0_ n1_ n2_ n3_ n4_ n5_ n6_
           (try clear hb)
           (try clear hb2)
           (try clear hk)
           (try clear hi)
           refine hK.out _ _ ⟨HS0_,HS1_⟩ (fun hHeld => ?_)
           clear hK K
           refine norm_ (a' := ?_) ?_ ?_
           rotate_left
           ·show Act.put _ (some 26) _ = _
            simp only [Act.put,zA,zB,zC,i64_w,i32_w]
            rfl
           refine pure_ (i := 14) (N := some 27) (v := ?_) (a' := ?_) #[true,true,true,true,true,true,true,true,true,true,true,true,true,true,true,false] rfl rfl (q0m HT_.out (by kernel_rfl)) (fun _ _ _ h => h) (Or.inl ⟨by rfl,?_⟩) ?_ ?_
           rotate_left
           ·intro w'
            go_simp
            with_reducible rfl
           rotate_left
           ·simp only [Act.put,zA,zB,zC,i64_w,i32_w]
            rfl
           refine pure_ (i := 15) (N := some 28) (v := ?_) (a' := ?_) #[true,true,true,true,true,true,true,true,true,true,true,true,true,true,true,true] rfl rfl (q0m HT_.out (by kernel_rfl)) (fun _ _ _ h => h) (Or.inl ⟨by rfl,?_⟩) ?_ ?_
           rotate_left
           ·intro w'
            go_simp
            with_reducible rfl
           rotate_left
           ·simp only [Act.put,zA,zB,zC,i64_w,i32_w]
            rfl
           refine done_ (done_of HT_.out (by kernel_rfl)) ?_
           try go_wp2
           go_roundg k2
           case measure => have := HK1.out;have := HK2.out;omega
           case rel => exact ⟨(wrap64 (x5_2 + 1)),(by first | rfl | (simp;done) | (simp [*];done)),H',⟨by have := HK1.out;have := HK2.out;omega⟩,⟨by (with_reducible repeat (first | apply Kd.V_alloc | apply Kd.V_drewN | apply Kd.V_drew));exact HO_0.out⟩,⟨by (with_reducible repeat (first | apply Kd.N_alloc | apply Kd.N_drewN | apply Kd.N_drew));exact HO_3.out⟩,⟨by repeat (first | (with_reducible first | exact HB.out | apply q0b | apply q0a | apply q0c) | exact HB.out)⟩⟩
          ·rw [if_neg c8] at H
           have c8b0 : decide (t348 < 0) = false := decide_eq_false c8
           clear c8
           replace H := Option.bind_eq_some_iff.mp H
           obtain ⟨t351,A120,H⟩ := H
           replace H : (if t351 = true then (verdererref02_Sort.l0 k2 l0 x3_1 (wrap64 (x4_1 + 1))) else (if x5_2 ≤ (x3_1.length : Int) then ((some (x3_1.take (x5_2 : Int).toNat : List (List (S50)))).bind fun y352 => (if ([] : List (List (S50))).length + y352.length < 5864062014805 then ((some (([] : List (List (S50))) ++ y352 : List (List (S50)))).bind fun y357 => (if y357.length < 5864062014805 then ((some (y357 ++ [rd_L4 l0 x4_1] : List (List (S50)))).bind fun y361 => ((some (x3_1.drop (x5_2 : Int).toNat : List (List (S50)))).bind fun y364 => (if y361.length + y364.length < 5864062014805 then (verdererref02_Sort.l0 k2 l0 (y361 ++ y364) (wrap64 (x4_1 + 1))) else (none)))) else (none))) else (none))) else (none))) = some r := H
           have A12 := Aside0.mk A120
           clear A120
           by_cases c13 : t351 = true
           ·subst c13
            have H1 : (verdererref02_Sort.l0 k2 l0 x3_1 (wrap64 (x4_1 + 1))) = some r := by rw [if_pos rfl] at H;exact H
            clear H
            have H := H1
            clear H1
            have H' := Aside0.mk H
            clear H
            try go_wp2
            have n0_ := Aside0.mk (Kd.V_drew HO_0.out)
            have n1_ := Aside0.mk (Kd.N_drew HO_3.out)
            have n2_ := Aside0.mk (q0c HB.out)
            clear HO_0
            clear HO_3
            clear HB
            have HO_0 := n0_
            have HO_3 := n1_
            have HB := n2_
            clear n0_ n1_ n2_
            obtain ⟨Ao15,co15,eo15⟩ := Kd.N_slice HO_3.out
            (first | subst eo15 | (injection eo15 with f1_ f2_ f3_;have f4_ := f1_.symm;have f5_ := f3_.symm;clear f1_ f2_ f3_;subst f4_;subst f5_))
            have p346 : 0 ≤ (x5_2 : Int) := of_decide_eq_true (by first | (with_reducible assumption) | assumption)
            have q346 : x5_2 < (x3_1.length : Int) := of_decide_eq_true (by first | (with_reducible assumption) | assumption)
            obtain ⟨ad346,A346_0,c346_0,e346,hx346_0,hl346_0,hi346_0⟩ := at_L4 (Kd.N_reads' HO_3.out).2.2 x5_2 p346 q346
            cases e346
            obtain ⟨ce346,hce346,hMe346,hcc346⟩ := Kd.N_get HO_3.out [] x5_2 p346 (by first | exact q346 | exact of_decide_eq_true (by first | (with_reducible assumption) | assumption) | (have e_ := (Kd.N_reads' HO_3.out).1;omega))
            obtain ⟨ua346_0,uc346_0,rfl,ul346_0,ge346_0⟩ := Kd.FK_slice_open hMe346
            have hv346_0 := hcc346 0 _ rfl
            rw [Nat.add_zero,show ((Kd.slice 50 k50)).sz = 1 from rfl,Nat.mul_one] at hv346_0
            replace hv346_0 := Option.some.inj (hv346_0.symm.trans hx346_0)
            injection hv346_0 with hva_ hvn_ hvc_
            rw [hva_] at ge346_0
            rw [hvc_] at ul346_0
            have HL346_0 := Aside0.mk (show Kd.V k50 50 _ w.heap.size _ _ (rd_L4 x3_1 x5_2) from Kd.V_mk ul346_0 ge346_0)
            clear hva_ hvn_ hvc_ ge346_0 ul346_0
            clear hcc346 hce346
            have HR346_0 := Aside0.mk hi346_0
            have HC346_0 := Aside0.mk hl346_0
            clear hi346_0 hl346_0
            replace p346 := eq_true p346
            replace q346 := eq_true q346
            have p347 : 0 ≤ (x4_1 : Int) := of_decide_eq_true (by first | (with_reducible assumption) | assumption)
            have q347 : x4_1 < (l0.length : Int) := of_decide_eq_true (by first | (with_reducible assumption) | assumption)
            obtain ⟨ad347,A347_0,c347_0,e347,hx347_0,hl347_0,hi347_0⟩ := at_L4 (Kd.V_reads' HO_0.out).2.2 x4_1 p347 q347
            cases e347
            obtain ⟨ce347,hce347,hMe347,hcc347⟩ := Kd.V_get HO_0.out [] x4_1 p347 (by first | exact q347 | exact of_decide_eq_true (by first | (with_reducible assumption) | assumption) | (have e_ := (Kd.V_reads' HO_0.out).1;omega))
            obtain ⟨ua347_0,uc347_0,rfl,ul347_0,ge347_0⟩ := Kd.FK_slice_open hMe347
            have hv347_0 := hcc347 0 _ rfl
            rw [Nat.add_zero,show ((Kd.slice 50 k50)).sz = 1 from rfl,Nat.mul_one] at hv347_0
            replace hv347_0 := Option.some.inj (hv347_0.symm.trans hx347_0)
            injection hv347_0 with hva_ hvn_ hvc_
            rw [hva_] at ge347_0
            rw [hvc_] at ul347_0
            have HL347_0 := Aside0.mk (show Kd.V k50 50 _ w.heap.size _ _ (rd_L4 l0 x4_1) from Kd.V_mk ul347_0 ge347_0)
            clear hva_ hvn_ hvc_ ge347_0 ul347_0
            clear hcc347 hce347
            have HR347_0 := Aside0.mk hi347_0
            have HC347_0 := Aside0.mk hl347_0
            clear hi347_0 hl347_0
            replace p347 := eq_true p347
            replace q347 := eq_true q347
            refine start_ (n := 16) (S := fun w' => w'.cell? (ad346.add (x5_2).toNat) = some (.slice A346_0 (rd_L4 x3_1 x5_2).length c346_0) ∧ w'.cell? (ad347.add (x4_1).toNat) = some (.slice A347_0 (rd_L4 l0 x4_1).length c347_0)) (ds := []) #[false,false,false,false,false,false,false,false,false,false,false,false,false,false,false,false] (by kernel_rfl) rfl rfl ⟨hx346_0,hx347_0⟩ (fun hHeld => ?_);refine with_tabW verdererref02_Sort.tab6 verdererref02_Sort.bits6 (fun HT_ HW_ => ?_)
            generalize wr.drew = w14 at HO_0 HO_3 HB HL346_0 HL347_0 HR346_0 HR347_0 hx346_0 hx347_0 hHeld ⊢
            refine pure_ (i := 0) (N := some 13) (v := ?_) (a' := ?_) #[true,false,false,false,false,false,false,false,false,false,false,false,false,false,false,false] rfl rfl (q0m HT_.out (by kernel_rfl)) (fun _ _ _ h => h) (Or.inl ⟨by rfl,?_⟩) ?_ ?_
            rotate_left
            ·intro w'
             go_simp
             with_reducible rfl
            rotate_left
            ·simp only [Act.put,zA,zB,zC,i64_w,i32_w]
             rfl
            refine pure_ (i := 1) (N := some 14) (v := ?_) (a' := ?_) #[true,true,false,false,false,false,false,false,false,false,false,false,false,false,false,false] rfl rfl (q0m HT_.out (by kernel_rfl)) (fun _ _ _ h => h) (Or.inl ⟨by rfl,?_⟩) ?_ ?_
            rotate_left
            ·intro w'
             go_simp
             with_reducible rfl
            rotate_left
            ·simp only [Act.put,zA,zB,zC,i64_w,i32_w]
             rfl
            refine pure_ (i := 2) (N := some 15) (v := ?_) (a' := ?_) #[true,true,true,false,false,false,false,false,false,false,false,false,false,false,false,false] rfl rfl (q0m HT_.out (by kernel_rfl)) (fun _ _ _ h => h) (Or.inl ⟨by rfl,?_⟩) ?_ ?_
            rotate_left
            ·intro w'
             go_simp
             with_reducible rfl
            rotate_left
            ·simp only [Act.put,zA,zB,zC,i64_w,i32_w]
             rfl
            refine pure_ (i := 3) (N := some 16) (v := ?_) (a' := ?_) #[true,true,true,true,false,false,false,false,false,false,false,false,false,false,false,false] rfl rfl (q0m HT_.out (by kernel_rfl)) (fun _ _ _ h => h) (Or.inl ⟨by rfl,?_⟩) ?_ ?_
            rotate_left
            ·intro w'
             go_simp
             with_reducible rfl
            rotate_left
            ·simp only [Act.put,zA,zB,zC,i64_w,i32_w]
             rfl
            refine pure_ (i := 4) (N := some 17) (v := ?_) (a' := ?_) #[true,true,true,true,true,false,false,false,false,false,false,false,false,false,false,false] rfl rfl (q0m HT_.out (by kernel_rfl)) (fun _ _ _ h => h) (Or.inl ⟨by rfl,?_⟩) ?_ ?_
            rotate_left
            ·intro w'
             go_simp
             with_reducible rfl
            rotate_left
            ·simp only [Act.put,zA,zB,zC,i64_w,i32_w]
             rfl
            refine pure_ (i := 5) (N := some 18) (v := ?_) (a' := ?_) #[true,true,true,true,true,true,false,false,false,false,false,false,false,false,false,false] rfl rfl (q0m HT_.out (by kernel_rfl)) (fun _ _ _ h => h) (Or.inl ⟨by rfl,?_⟩) ?_ ?_
            rotate_left
            ·intro w'
             go_simp
             with_reducible rfl
            rotate_left
            ·simp only [Act.put,zA,zB,zC,i64_w,i32_w]
             rfl
            refine pure_ (i := 6) (N := some 19) (v := ?_) (a' := ?_) #[true,true,true,true,true,true,true,false,false,false,false,false,false,false,false,false] rfl rfl (q0m HT_.out (by kernel_rfl)) (fun _ _ _ h => h) (Or.inl ⟨by rfl,?_⟩) ?_ ?_
            rotate_left
            ·intro w'
             go_simp
             with_reducible rfl
            rotate_left
            ·simp only [Act.put,zA,zB,zC,i64_w,i32_w]
             rfl
            refine pure_ (i := 7) (N := some 20) (v := ?_) (a' := ?_) #[true,true,true,true,true,true,true,true,false,false,false,false,false,false,false,false] rfl rfl (q0m HT_.out (by kernel_rfl)) (fun _ _ _ h => h) (Or.inl ⟨by rfl,?_⟩) ?_ ?_
            rotate_left
            ·intro w'
             go_simp
             with_reducible rfl
            rotate_left
            ·simp only [Act.put,zA,zB,zC,i64_w,i32_w]
             rfl
            refine pure_ (i := 9) (N := some 22) (v := ?_) (a' := ?_) #[true,true,true,true,true,true,true,true,false,true,false,false,false,false,false,false] rfl rfl (q0m HT_.out (by kernel_rfl)) (fun _ _ _ h => h) (Or.inl ⟨by rfl,?_⟩) ?_ ?_
            rotate_left
            ·intro w'
             go_simp
             with_reducible rfl
            rotate_left
            ·simp only [Act.put,zA,zB,zC,i64_w,i32_w]
             rfl
            refine pure_ (i := 10) (N := some 23) (v := ?_) (a' := ?_) #[true,true,true,true,true,true,true,true,false,true,true,false,false,false,false,false] rfl rfl (q0m HT_.out (by kernel_rfl)) (fun _ _ _ h => h) (Or.inl ⟨by rfl,?_⟩) ?_ ?_
            rotate_left
            ·intro w'
             go_simp
             with_reducible rfl
            rotate_left
            ·simp only [Act.put,zA,zB,zC,i64_w,i32_w]
             rfl
            refine pure_ (i := 11) (N := some 24) (v := ?_) (a' := ?_) #[true,true,true,true,true,true,true,true,false,true,true,true,false,false,false,false] rfl rfl (q0m HT_.out (by kernel_rfl)) (fun _ _ _ h => h) (Or.inl ⟨by rfl,?_⟩) ?_ ?_
            rotate_left
            ·intro w'
             go_simp
             with_reducible rfl
            rotate_left
            ·simp only [Act.put,zA,zB,zC,i64_w,i32_w]
             rfl
            refine take_ (i := 8) (N := some 21) (v := ?_) (a' := ?_) #[true,true,true,true,true,true,true,true,true,true,true,true,false,false,false,false] rfl rfl (take_ofW HT_.out HW_.out (by kernel_rfl)) (fun _ _ _ h => h) (Or.inl ⟨by rfl,?_⟩) hHeld ?_ ?_
            rotate_left
            ·rintro w' ⟨s0,s1⟩
             go_simp
             with_reducible rfl
            rotate_left
            ·simp only [Act.put,zA,zB,zC,i64_w,i32_w]
             rfl
            refine take_ (i := 12) (N := some 25) (v := ?_) (a' := ?_) #[true,true,true,true,true,true,true,true,true,true,true,true,true,false,false,false] rfl rfl (take_ofW HT_.out HW_.out (by kernel_rfl)) (fun _ _ _ h => h) (Or.inl ⟨by rfl,?_⟩) hHeld ?_ ?_
            rotate_left
            ·rintro w' ⟨s0,s1⟩
             go_simp
             with_reducible rfl
            rotate_left
            ·simp only [Act.put,zA,zB,zC,i64_w,i32_w]
             rfl
            refine one_ (i := 13) (N := some 26) #[true,true,true,true,true,true,true,true,true,true,true,true,true,true,false,false] rfl rfl (one_of HT_.out (by kernel_rfl)) (by decide) (fun K hK => ?_)
            refine goes_ Try.func22 (by kernel_rfl) rfl #[.slice A346_0 (rd_L4 x3_1 x5_2).length c346_0,.slice A347_0 (rd_L4 l0 x4_1).length c347_0] (by rfl) rfl rfl (by (try simp only [List.map_toArray,List.map_cons,List.map_nil]);first | done | rfl | (simp only [List.length_drop,List.length_take];rfl)) ?_
            with_reducible refine (verdererref02_Compare.calls k2 _ _ (rd_L4 x3_1 x5_2) _ _ (rd_L4 l0 x4_1) t348 _ ?side1 ?side2 ?side3 ?side4 A7.out).mono ?_
            (case side1 => repeat (first | exact (by repeat (first | (with_reducible exact HR346_0.out) | (with_reducible refine Kd.C_alloc ?_ _) | (with_reducible refine Kd.C_drewN ?_ _) | (with_reducible refine Kd.C_drew ?_) | exact HR346_0.out)) | (with_reducible refine Kd.C_alloc ?_ _) | (with_reducible refine Kd.C_drewN ?_ _) | (with_reducible refine Kd.C_drew ?_)))
            (case side2 => exact HC346_0.out)
            (case side3 => repeat (first | exact (by repeat (first | (with_reducible exact HR347_0.out) | (with_reducible refine Kd.C_alloc ?_ _) | (with_reducible refine Kd.C_drewN ?_ _) | (with_reducible refine Kd.C_drew ?_) | exact HR347_0.out)) | (with_reducible refine Kd.C_alloc ?_ _) | (with_reducible refine Kd.C_drewN ?_ _) | (with_reducible refine Kd.C_drew ?_)))
            (case side4 => exact HC347_0.out)
            rintro e w16 ⟨rfl,hb⟩
            have HS0_ := (hb.cell (World.block_lt_of_cell? _ _ (hHeld.1))).trans (hHeld.1)
            have HS1_ := (hb.cell (World.block_lt_of_cell? _ _ (hHeld.2))).trans (hHeld.2)
            refine ⟨_,rfl,?_⟩
            have n0_ := Aside0.mk (Kd.V_below (by (with_reducible repeat (first | apply Kd.V_alloc | apply Kd.V_drewN | apply Kd.V_drew));exact HO_0.out) hb)
            have n1_ := Aside0.mk (Kd.N_below (by (with_reducible repeat (first | apply Kd.N_alloc | apply Kd.N_drewN | apply Kd.N_drew));exact HO_3.out) hb)
            have n2_ := Aside0.mk (Kd.V_below (by (with_reducible repeat (first | apply Kd.V_alloc | apply Kd.V_drewN | apply Kd.V_drew));exact HL346_0.out) hb)
            have n3_ := Aside0.mk (Kd.V_below (by (with_reducible repeat (first | apply Kd.V_alloc | apply Kd.V_drewN | apply Kd.V_drew));exact HL347_0.out) hb)
            have n4_ := Aside0.mk (Kd.C_below (by repeat (first | (with_reducible exact HR346_0.out) | (with_reducible refine Kd.C_alloc ?_ _) | (with_reducible refine Kd.C_drewN ?_ _) | (with_reducible refine Kd.C_drew ?_) | exact HR346_0.out)) hb)
            have n5_ := Aside0.mk (Kd.C_below (by repeat (first | (with_reducible exact HR347_0.out) | (with_reducible refine Kd.C_alloc ?_ _) | (with_reducible refine Kd.C_drewN ?_ _) | (with_reducible refine Kd.C_drew ?_) | exact HR347_0.out)) hb)
            have n6_ := Aside0.mk (q0l (by repeat (first | (with_reducible first | exact HB.out | apply q0b | apply q0a | apply q0c) | exact HB.out)) hb)
            clear HO_0
            clear HO_3
            clear HL346_0
            clear HL347_0
            clear HR346_0
            clear HR347_0
            clear HB
            have HO_0 := n0_
            have HO_3 := n1_
            have HL346_0 := n2_
            have HL347_0 := n3_
            have HR346_0 := n4_
            have HR347_0 := n5_
            have HB := n6_
            clear n0_ n1_ n2_ n3_ n4_ n5_ n6_
            (try clear hb)
            (try clear hb2)
            (try clear hk)
            (try clear hi)
            refine hK.out _ _ ⟨HS0_,HS1_⟩ (fun hHeld => ?_)
            clear hK K
            refine norm_ (a' := ?_) ?_ ?_
            rotate_left
            ·show Act.put _ (some 26) _ = _
             simp only [Act.put,zA,zB,zC,i64_w,i32_w]
             rfl
            refine pure_ (i := 14) (N := some 27) (v := ?_) (a' := ?_) #[true,true,true,true,true,true,true,true,true,true,true,true,true,true,true,false] rfl rfl (q0m HT_.out (by kernel_rfl)) (fun _ _ _ h => h) (Or.inl ⟨by rfl,?_⟩) ?_ ?_
            rotate_left
            ·intro w'
             go_simp
             with_reducible rfl
            rotate_left
            ·simp only [Act.put,zA,zB,zC,i64_w,i32_w]
             rfl
            refine pure_ (i := 15) (N := some 28) (v := ?_) (a' := ?_) #[true,true,true,true,true,true,true,true,true,true,true,true,true,true,true,true] rfl rfl (q0m HT_.out (by kernel_rfl)) (fun _ _ _ h => h) (Or.inl ⟨by rfl,?_⟩) ?_ ?_
            rotate_left
            ·intro w'
             go_simp
             with_reducible rfl
            rotate_left
            ·simp only [Act.put,zA,zB,zC,i64_w,i32_w]
             rfl
            refine done_ (done_of HT_.out (by kernel_rfl)) ?_
            try go_wp2
            have n0_ := Aside0.mk (Kd.V_drew HO_0.out)
            have n1_ := Aside0.mk (Kd.N_drew HO_3.out)
            have n2_ := Aside0.mk (Kd.V_drew HL346_0.out)
            have n3_ := Aside0.mk (Kd.V_drew HL347_0.out)
            have n4_ := Aside0.mk (Kd.C_drew HR346_0.out)
            have n5_ := Aside0.mk (Kd.C_drew HR347_0.out)
            have n6_ := Aside0.mk (q0c HB.out)
            clear HO_0
            clear HO_3
            clear HL346_0
            clear HL347_0
            clear HR346_0
            clear HR347_0
            clear HB
            have HO_0 := n0_
            have HO_3 := n1_
            have HL346_0 := n2_
            have HL347_0 := n3_
            have HR346_0 := n4_
            have HR347_0 := n5_
            have HB := n6_
            clear n0_ n1_ n2_ n3_ n4_ n5_ n6_
            have p349 : 0 ≤ (x5_2 : Int) := of_decide_eq_true (by first | (with_reducible assumption) | assumption)
            have q349 : x5_2 < (x3_1.length : Int) := of_decide_eq_true (by first | (with_reducible assumption) | assumption)
            obtain ⟨ad349,A349_0,c349_0,e349,hx349_0,hl349_0,hi349_0⟩ := at_L4 (Kd.N_reads' HO_3.out).2.2 x5_2 p349 q349
            obtain rfl : ad346 = ad349 := (by injection e349)
            obtain ⟨ce349,hce349,hMe349,hcc349⟩ := Kd.N_get HO_3.out [] x5_2 p349 (by first | exact q349 | exact of_decide_eq_true (by first | (with_reducible assumption) | assumption) | (have e_ := (Kd.N_reads' HO_3.out).1;omega))
            obtain ⟨ua349_0,uc349_0,rfl,ul349_0,ge349_0⟩ := Kd.FK_slice_open hMe349
            have hv349_0 := hcc349 0 _ rfl
            rw [Nat.add_zero,show ((Kd.slice 50 k50)).sz = 1 from rfl,Nat.mul_one] at hv349_0
            replace hv349_0 := Option.some.inj (hv349_0.symm.trans hx349_0)
            injection hv349_0 with hva_ hvn_ hvc_
            rw [hva_] at ge349_0
            rw [hvc_] at ul349_0
            have HL349_0 := Aside0.mk (show Kd.V k50 50 _ w.heap.size _ _ (rd_L4 x3_1 x5_2) from Kd.V_mk ul349_0 ge349_0)
            clear hva_ hvn_ hvc_ ge349_0 ul349_0
            clear hcc349 hce349
            have HR349_0 := Aside0.mk hi349_0
            have HC349_0 := Aside0.mk hl349_0
            clear hi349_0 hl349_0
            replace p349 := eq_true p349
            replace q349 := eq_true q349
            have p350 : 0 ≤ (x4_1 : Int) := of_decide_eq_true (by first | (with_reducible assumption) | assumption)
            have q350 : x4_1 < (l0.length : Int) := of_decide_eq_true (by first | (with_reducible assumption) | assumption)
            obtain ⟨ad350,A350_0,c350_0,e350,hx350_0,hl350_0,hi350_0⟩ := at_L4 (Kd.V_reads' HO_0.out).2.2 x4_1 p350 q350
            obtain rfl : ad347 = ad350 := (by injection e350)
            obtain ⟨ce350,hce350,hMe350,hcc350⟩ := Kd.V_get HO_0.out [] x4_1 p350 (by first | exact q350 | exact of_decide_eq_true (by first | (with_reducible assumption) | assumption) | (have e_ := (Kd.V_reads' HO_0.out).1;omega))
            obtain ⟨ua350_0,uc350_0,rfl,ul350_0,ge350_0⟩ := Kd.FK_slice_open hMe350
            have hv350_0 := hcc350 0 _ rfl
            rw [Nat.add_zero,show ((Kd.slice 50 k50)).sz = 1 from rfl,Nat.mul_one] at hv350_0
            replace hv350_0 := Option.some.inj (hv350_0.symm.trans hx350_0)
            injection hv350_0 with hva_ hvn_ hvc_
            rw [hva_] at ge350_0
            rw [hvc_] at ul350_0
            have HL350_0 := Aside0.mk (show Kd.V k50 50 _ w.heap.size _ _ (rd_L4 l0 x4_1) from Kd.V_mk ul350_0 ge350_0)
            clear hva_ hvn_ hvc_ ge350_0 ul350_0
            clear hcc350 hce350
            have HR350_0 := Aside0.mk hi350_0
            have HC350_0 := Aside0.mk hl350_0
            clear hi350_0 hl350_0
            replace p350 := eq_true p350
            replace q350 := eq_true q350
            refine start_ (n := 15) (S := fun w' => w'.cell? (ad346.add (x5_2).toNat) = some (.slice A349_0 (rd_L4 x3_1 x5_2).length c349_0) ∧ w'.cell? (ad347.add (x4_1).toNat) = some (.slice A350_0 (rd_L4 l0 x4_1).length c350_0)) (ds := []) #[false,false,false,false,false,false,false,false,false,false,false,false,false,false,false] (by kernel_rfl) rfl rfl ⟨hx349_0,hx350_0⟩ (fun hHeld => ?_);refine with_tabW verdererref02_Sort.tab8 verdererref02_Sort.bits8 (fun HT_ HW_ => ?_)
            generalize w16.drew = w17 at HO_0 HO_3 HL346_0 HL347_0 HR346_0 HR347_0 HB HL349_0 HL350_0 HR349_0 HR350_0 hx349_0 hx350_0 hHeld ⊢
            refine pure_ (i := 0) (N := some 31) (v := ?_) (a' := ?_) #[true,false,false,false,false,false,false,false,false,false,false,false,false,false,false] rfl rfl (q0m HT_.out (by kernel_rfl)) (fun _ _ _ h => h) (Or.inl ⟨by rfl,?_⟩) ?_ ?_
            rotate_left
            ·intro w'
             go_simp
             with_reducible rfl
            rotate_left
            ·simp only [Act.put,zA,zB,zC,i64_w,i32_w]
             rfl
            refine pure_ (i := 1) (N := some 32) (v := ?_) (a' := ?_) #[true,true,false,false,false,false,false,false,false,false,false,false,false,false,false] rfl rfl (q0m HT_.out (by kernel_rfl)) (fun _ _ _ h => h) (Or.inl ⟨by rfl,?_⟩) ?_ ?_
            rotate_left
            ·intro w'
             go_simp
             with_reducible rfl
            rotate_left
            ·simp only [Act.put,zA,zB,zC,i64_w,i32_w]
             rfl
            refine pure_ (i := 2) (N := some 33) (v := ?_) (a' := ?_) #[true,true,true,false,false,false,false,false,false,false,false,false,false,false,false] rfl rfl (q0m HT_.out (by kernel_rfl)) (fun _ _ _ h => h) (Or.inl ⟨by rfl,?_⟩) ?_ ?_
            rotate_left
            ·intro w'
             go_simp
             with_reducible rfl
            rotate_left
            ·simp only [Act.put,zA,zB,zC,i64_w,i32_w]
             rfl
            refine pure_ (i := 3) (N := some 34) (v := ?_) (a' := ?_) #[true,true,true,true,false,false,false,false,false,false,false,false,false,false,false] rfl rfl (q0m HT_.out (by kernel_rfl)) (fun _ _ _ h => h) (Or.inl ⟨by rfl,?_⟩) ?_ ?_
            rotate_left
            ·intro w'
             go_simp
             with_reducible rfl
            rotate_left
            ·simp only [Act.put,zA,zB,zC,i64_w,i32_w]
             rfl
            refine pure_ (i := 4) (N := some 35) (v := ?_) (a' := ?_) #[true,true,true,true,true,false,false,false,false,false,false,false,false,false,false] rfl rfl (q0m HT_.out (by kernel_rfl)) (fun _ _ _ h => h) (Or.inl ⟨by rfl,?_⟩) ?_ ?_
            rotate_left
            ·intro w'
             go_simp
             with_reducible rfl
            rotate_left
            ·simp only [Act.put,zA,zB,zC,i64_w,i32_w]
             rfl
            refine pure_ (i := 5) (N := some 36) (v := ?_) (a' := ?_) #[true,true,true,true,true,true,false,false,false,false,false,false,false,false,false] rfl rfl (q0m HT_.out (by kernel_rfl)) (fun _ _ _ h => h) (Or.inl ⟨by rfl,?_⟩) ?_ ?_
            rotate_left
            ·intro w'
             go_simp
             with_reducible rfl
            rotate_left
            ·simp only [Act.put,zA,zB,zC,i64_w,i32_w]
             rfl
            refine pure_ (i := 6) (N := some 37) (v := ?_) (a' := ?_) #[true,true,true,true,true,true,true,false,false,false,false,false,false,false,false] rfl rfl (q0m HT_.out (by kernel_rfl)) (fun _ _ _ h => h) (Or.inl ⟨by rfl,?_⟩) ?_ ?_
            rotate_left
            ·intro w'
             go_simp
             with_reducible rfl
            rotate_left
            ·simp only [Act.put,zA,zB,zC,i64_w,i32_w]
             rfl
            refine pure_ (i := 7) (N := some 38) (v := ?_) (a' := ?_) #[true,true,true,true,true,true,true,true,false,false,false,false,false,false,false] rfl rfl (q0m HT_.out (by kernel_rfl)) (fun _ _ _ h => h) (Or.inl ⟨by rfl,?_⟩) ?_ ?_
            rotate_left
            ·intro w'
             go_simp
             with_reducible rfl
            rotate_left
            ·simp only [Act.put,zA,zB,zC,i64_w,i32_w]
             rfl
            refine pure_ (i := 9) (N := some 40) (v := ?_) (a' := ?_) #[true,true,true,true,true,true,true,true,false,true,false,false,false,false,false] rfl rfl (q0m HT_.out (by kernel_rfl)) (fun _ _ _ h => h) (Or.inl ⟨by rfl,?_⟩) ?_ ?_
            rotate_left
            ·intro w'
             go_simp
             with_reducible rfl
            rotate_left
            ·simp only [Act.put,zA,zB,zC,i64_w,i32_w]
             rfl
            refine pure_ (i := 10) (N := some 41) (v := ?_) (a' := ?_) #[true,true,true,true,true,true,true,true,false,true,true,false,false,false,false] rfl rfl (q0m HT_.out (by kernel_rfl)) (fun _ _ _ h => h) (Or.inl ⟨by rfl,?_⟩) ?_ ?_
            rotate_left
            ·intro w'
             go_simp
             with_reducible rfl
            rotate_left
            ·simp only [Act.put,zA,zB,zC,i64_w,i32_w]
             rfl
            refine pure_ (i := 11) (N := some 42) (v := ?_) (a' := ?_) #[true,true,true,true,true,true,true,true,false,true,true,true,false,false,false] rfl rfl (q0m HT_.out (by kernel_rfl)) (fun _ _ _ h => h) (Or.inl ⟨by rfl,?_⟩) ?_ ?_
            rotate_left
            ·intro w'
             go_simp
             with_reducible rfl
            rotate_left
            ·simp only [Act.put,zA,zB,zC,i64_w,i32_w]
             rfl
            refine take_ (i := 8) (N := some 39) (v := ?_) (a' := ?_) #[true,true,true,true,true,true,true,true,true,true,true,true,false,false,false] rfl rfl (take_ofW HT_.out HW_.out (by kernel_rfl)) (fun _ _ _ h => h) (Or.inl ⟨by rfl,?_⟩) hHeld ?_ ?_
            rotate_left
            ·rintro w' ⟨s0,s1⟩
             go_simp
             with_reducible rfl
            rotate_left
            ·simp only [Act.put,zA,zB,zC,i64_w,i32_w]
             rfl
            refine take_ (i := 12) (N := some 43) (v := ?_) (a' := ?_) #[true,true,true,true,true,true,true,true,true,true,true,true,true,false,false] rfl rfl (take_ofW HT_.out HW_.out (by kernel_rfl)) (fun _ _ _ h => h) (Or.inl ⟨by rfl,?_⟩) hHeld ?_ ?_
            rotate_left
            ·rintro w' ⟨s0,s1⟩
             go_simp
             with_reducible rfl
            rotate_left
            ·simp only [Act.put,zA,zB,zC,i64_w,i32_w]
             rfl
            refine one_ (i := 13) (N := some 44) #[true,true,true,true,true,true,true,true,true,true,true,true,true,true,false] rfl rfl (one_of HT_.out (by kernel_rfl)) (by decide) (fun K hK => ?_)
            refine goes_ Try.func23 (by kernel_rfl) rfl #[.slice A349_0 (rd_L4 x3_1 x5_2).length c349_0,.slice A350_0 (rd_L4 l0 x4_1).length c350_0] (by rfl) rfl rfl (by (try simp only [List.map_toArray,List.map_cons,List.map_nil]);first | done | rfl | (simp only [List.length_drop,List.length_take];rfl)) ?_
            with_reducible refine (verdererref02_Same.calls k2 _ _ (rd_L4 x3_1 x5_2) _ _ (rd_L4 l0 x4_1) true _ ?side1 ?side2 ?side3 ?side4 A12.out).mono ?_
            (case side1 => repeat (first | exact (by repeat (first | (with_reducible exact HR349_0.out) | (with_reducible refine Kd.C_alloc ?_ _) | (with_reducible refine Kd.C_drewN ?_ _) | (with_reducible refine Kd.C_drew ?_) | exact HR349_0.out)) | (with_reducible refine Kd.C_alloc ?_ _) | (with_reducible refine Kd.C_drewN ?_ _) | (with_reducible refine Kd.C_drew ?_)))
            (case side2 => exact HC349_0.out)
            (case side3 => repeat (first | exact (by repeat (first | (with_reducible exact HR350_0.out) | (with_reducible refine Kd.C_alloc ?_ _) | (with_reducible refine Kd.C_drewN ?_ _) | (with_reducible refine Kd.C_drew ?_) | exact HR350_0.out)) | (with_reducible refine Kd.C_alloc ?_ _) | (with_reducible refine Kd.C_drewN ?_ _) | (with_reducible refine Kd.C_drew ?_)))
            (case side4 => exact HC350_0.out)
            rintro e w18 ⟨rfl,hb⟩
            have HS0_ := (hb.cell (World.block_lt_of_cell? _ _ (hHeld.1))).trans (hHeld.1)
            have HS1_ := (hb.cell (World.block_lt_of_cell? _ _ (hHeld.2))).trans (hHeld.2)
            refine ⟨_,rfl,?_⟩
            have n0_ := Aside0.mk (Kd.V_below (by (with_reducible repeat (first | apply Kd.V_alloc | apply Kd.V_drewN | apply Kd.V_drew));exact HO_0.out) hb)
            have n1_ := Aside0.mk (Kd.N_below (by (with_reducible repeat (first | apply Kd.N_alloc | apply Kd.N_drewN | apply Kd.N_drew));exact HO_3.out) hb)
            have n2_ := Aside0.mk (Kd.V_below (by (with_reducible repeat (first | apply Kd.V_alloc | apply Kd.V_drewN | apply Kd.V_drew));exact HL346_0.out) hb)
            have n3_ := Aside0.mk (Kd.V_below (by (with_reducible repeat (first | apply Kd.V_alloc | apply Kd.V_drewN | apply Kd.V_drew));exact HL347_0.out) hb)
            have n4_ := Aside0.mk (Kd.V_below (by (with_reducible repeat (first | apply Kd.V_alloc | apply Kd.V_drewN | apply Kd.V_drew));exact HL349_0.out) hb)
            have n5_ := Aside0.mk (Kd.V_below (by (with_reducible repeat (first | apply Kd.V_alloc | apply Kd.V_drewN | apply Kd.V_drew));exact HL350_0.out) hb)
            have n6_ := Aside0.mk (Kd.C_below (by repeat (first | (with_reducible exact HR346_0.out) | (with_reducible refine Kd.C_alloc ?_ _) | (with_reducible refine Kd.C_drewN ?_ _) | (with_reducible refine Kd.C_drew ?_) | exact HR346_0.out)) hb)
            have n7_ := Aside0.mk (Kd.C_below (by repeat (first | (with_reducible exact HR347_0.out) | (with_reducible refine Kd.C_alloc ?_ _) | (with_reducible refine Kd.C_drewN ?_ _) | (with_reducible refine Kd.C_drew ?_) | exact HR347_0.out)) hb)
            have n8_ := Aside0.mk (Kd.C_below (by repeat (first | (with_reducible exact HR349_0.out) | (with_reducible refine Kd.C_alloc ?_ _) | (with_reducible refine Kd.C_drewN ?_ _) | (with_reducible refine Kd.C_drew ?_) | exact HR349_0.out)) hb)
            have n9_ := Aside0.mk (Kd.C_below (by repeat (first | (with_reducible exact HR350_0.out) | (with_reducible refine Kd.C_alloc ?_ _) | (with_reducible refine Kd.C_drewN ?_ _) | (with_reducible refine Kd.C_drew ?_) | exact HR350_0.out)) hb)
            have n10_ := Aside0.mk (q0l (by repeat (first | (with_reducible first | exact HB.out | apply q0b | apply q0a | apply q0c) | exact HB.out)) hb)
            clear HO_0
            clear HO_3
            clear HL346_0
            clear HL347_0
            clear HL349_0
            clear HL350_0
            clear HR346_0
            clear HR347_0
            clear HR349_0
            clear HR350_0
            clear HB
            have HO_0 := n0_
            have HO_3 := n1_
            have HL346_0 := n2_
            have HL347_0 := n3_
            have HL349_0 := n4_
            have HL350_0 := n5_
            have HR346_0 := n6_
            have HR347_0 := n7_
            have HR349_0 := n8_
            have HR350_0 := n9_
            have HB := n10_
            clear n0_ n1_ n2_ n3_ n4_ n5_ n6_ n7_ n8_ n9_ n10_
            (try clear hb)
            (try clear hb2)
            (try clear hk)
            (try clear hi)
            refine hK.out _ _ ⟨HS0_,HS1_⟩ (fun hHeld => ?_)
            clear hK K
            refine norm_ (a' := ?_) ?_ ?_
            rotate_left
            ·show Act.put _ (some 44) _ = _
             simp only [Act.put,zA,zB,zC,i64_w,i32_w]
             rfl
            refine pure_ (i := 14) (N := some 45) (v := ?_) (a' := ?_) #[true,true,true,true,true,true,true,true,true,true,true,true,true,true,true] rfl rfl (q0m HT_.out (by kernel_rfl)) (fun _ _ _ h => h) (Or.inl ⟨by rfl,?_⟩) ?_ ?_
            rotate_left
            ·intro w'
             go_simp
             with_reducible rfl
            rotate_left
            ·simp only [Act.put,zA,zB,zC,i64_w,i32_w]
             rfl
            refine done_ (done_of HT_.out (by kernel_rfl)) ?_
            try go_wp2
            go_roundg k2
            case measure => have := HK1.out;have := HK2.out;omega
            case rel => exact ⟨(x3_1),(wrap64 (x4_1 + 1)),(by first | rfl | (simp;done) | (simp [*];done)),H',⟨by have := HK1.out;have := HK2.out;omega⟩,⟨by (with_reducible repeat (first | apply Kd.V_alloc | apply Kd.V_drewN | apply Kd.V_drew));exact HO_0.out⟩,⟨by (with_reducible repeat (first | apply Kd.N_alloc | apply Kd.N_drewN | apply Kd.N_drew));exact HO_3.out⟩,⟨by repeat (first | (with_reducible first | exact HB.out | apply q0b | apply q0a | apply q0c) | exact HB.out)⟩⟩
           ·replace c13 := Bool.eq_false_iff.mpr c13
            subst c13
            have H1 : (if x5_2 ≤ (x3_1.length : Int) then ((some (x3_1.take (x5_2 : Int).toNat : List (List (S50)))).bind fun y352 => (if ([] : List (List (S50))).length + y352.length < 5864062014805 then ((some (([] : List (List (S50))) ++ y352 : List (List (S50)))).bind fun y357 => (if y357.length < 5864062014805 then ((some (y357 ++ [rd_L4 l0 x4_1] : List (List (S50)))).bind fun y361 => ((some (x3_1.drop (x5_2 : Int).toNat : List (List (S50)))).bind fun y364 => (if y361.length + y364.length < 5864062014805 then (verdererref02_Sort.l0 k2 l0 (y361 ++ y364) (wrap64 (x4_1 + 1))) else (none)))) else (none))) else (none))) else (none)) = some r := by rw [if_neg (show ¬ (false = true) by decide)] at H;exact H
            clear H
            have H := H1
            clear H1
            have c19b0 := eq_true (of_decide_eq_true (by first | (with_reducible assumption) | assumption) : 0 ≤ x5_2)
            by_cases c20 : x5_2 ≤ (x3_1.length : Int)
            ·rw [if_pos c20] at H
             have c20b0 := eq_true c20
             have c20b1 : decide (x5_2 ≤ (x3_1.length : Int)) = true := decide_eq_true c20
             clear c20
             obtain ⟨y352,hy352⟩ : ∃ y_ : List (List (S50)),y_ = (x3_1.take (x5_2 : Int).toNat) := ⟨_,rfl⟩
             replace H : (if ([] : List (List (S50))).length + y352.length < 5864062014805 then ((some (([] : List (List (S50))) ++ y352 : List (List (S50)))).bind fun y357 => (if y357.length < 5864062014805 then ((some (y357 ++ [rd_L4 l0 x4_1] : List (List (S50)))).bind fun y361 => ((some (x3_1.drop (x5_2 : Int).toNat : List (List (S50)))).bind fun y364 => (if y361.length + y364.length < 5864062014805 then (verdererref02_Sort.l0 k2 l0 (y361 ++ y364) (wrap64 (x4_1 + 1))) else (none)))) else (none))) else (none)) = some r := by first | (rw [hy352];with_reducible exact H) | (have H2_ := (Option.bind_some _ _).symm.trans H;rw [hy352];with_reducible exact H2_) | (have H2_ := (Option.bind_some _ _).symm.trans H;with_reducible exact H2_) | with_reducible exact H | (rw [hy352];exact H) | exact H
             have Ny352 := Aside0.mk hy352
             clear hy352
             by_cases c21 : ([] : List (List (S50))).length + y352.length < 5864062014805
             ·rw [if_pos c21] at H
              have LMc21 := Aside0.mk c21
              clear c21
              obtain ⟨y357,hy357⟩ : ∃ y_ : List (List (S50)),y_ = (([] : List (List (S50))) ++ y352) := ⟨_,rfl⟩
              replace H : (if y357.length < 5864062014805 then ((some (y357 ++ [rd_L4 l0 x4_1] : List (List (S50)))).bind fun y361 => ((some (x3_1.drop (x5_2 : Int).toNat : List (List (S50)))).bind fun y364 => (if y361.length + y364.length < 5864062014805 then (verdererref02_Sort.l0 k2 l0 (y361 ++ y364) (wrap64 (x4_1 + 1))) else (none)))) else (none)) = some r := by first | (rw [hy357];with_reducible exact H) | (have H2_ := (Option.bind_some _ _).symm.trans H;rw [hy357];with_reducible exact H2_) | (have H2_ := (Option.bind_some _ _).symm.trans H;with_reducible exact H2_) | with_reducible exact H | (rw [hy357];exact H) | exact H
              have Ny357 := Aside0.mk hy357
              clear hy357
              by_cases c22 : y357.length < 5864062014805
              ·rw [if_pos c22] at H
               have LMc22 := Aside0.mk c22
               clear c22
               obtain ⟨y361,hy361⟩ : ∃ y_ : List (List (S50)),y_ = (y357 ++ [rd_L4 l0 x4_1]) := ⟨_,rfl⟩
               replace H : ((some (x3_1.drop (x5_2 : Int).toNat : List (List (S50)))).bind fun y364 => (if y361.length + y364.length < 5864062014805 then (verdererref02_Sort.l0 k2 l0 (y361 ++ y364) (wrap64 (x4_1 + 1))) else (none))) = some r := by first | (rw [hy361];with_reducible exact H) | (have H2_ := (Option.bind_some _ _).symm.trans H;rw [hy361];with_reducible exact H2_) | (have H2_ := (Option.bind_some _ _).symm.trans H;with_reducible exact H2_) | with_reducible exact H | (rw [hy361];exact H) | exact H
               have Ny361 := Aside0.mk hy361
               clear hy361
               have c23b0 := eq_true (of_decide_eq_true (by first | (with_reducible assumption) | assumption) : 0 ≤ x5_2)
               have c24b0 := eq_true (of_decide_eq_true (by first | (with_reducible assumption) | assumption) : x5_2 ≤ (x3_1.length : Int))
               obtain ⟨y364,hy364⟩ : ∃ y_ : List (List (S50)),y_ = (x3_1.drop (x5_2 : Int).toNat) := ⟨_,rfl⟩
               replace H : (if y361.length + y364.length < 5864062014805 then (verdererref02_Sort.l0 k2 l0 (y361 ++ y364) (wrap64 (x4_1 + 1))) else (none)) = some r := by first | (rw [hy364];with_reducible exact H) | (have H2_ := (Option.bind_some _ _).symm.trans H;rw [hy364];with_reducible exact H2_) | (have H2_ := (Option.bind_some _ _).symm.trans H;with_reducible exact H2_) | with_reducible exact H | (rw [hy364];exact H) | exact H
               have Ny364 := Aside0.mk hy364
               clear hy364
               by_cases c25 : y361.length + y364.length < 5864062014805
               ·rw [if_pos c25] at H
                have LMc25 := Aside0.mk c25
                clear c25
                obtain ⟨y369,hy369⟩ : ∃ y_ : List (List (S50)),y_ = (y361 ++ y364) := ⟨_,rfl⟩
                replace H : (verdererref02_Sort.l0 k2 l0 y369 (wrap64 (x4_1 + 1))) = some r := by first | (rw [hy369];with_reducible exact H) | (have H2_ := (Option.bind_some _ _).symm.trans H;rw [hy369];with_reducible exact H2_) | (have H2_ := (Option.bind_some _ _).symm.trans H;with_reducible exact H2_) | with_reducible exact H | (rw [hy369];exact H) | exact H
                have Ny369 := Aside0.mk hy369
                clear hy369
                have H' := Aside0.mk H
                clear H
                try go_wp2
                have n0_ := Aside0.mk (Kd.V_drew HO_0.out)
                have n1_ := Aside0.mk (Kd.N_drew HO_3.out)
                have n2_ := Aside0.mk (q0c HB.out)
                clear HO_0
                clear HO_3
                clear HB
                have HO_0 := n0_
                have HO_3 := n1_
                have HB := n2_
                clear n0_ n1_ n2_
                obtain ⟨Ao27,co27,eo27⟩ := Kd.N_slice HO_3.out
                (first | subst eo27 | (injection eo27 with f1_ f2_ f3_;have f4_ := f1_.symm;have f5_ := f3_.symm;clear f1_ f2_ f3_;subst f4_;subst f5_))
                have p346 : 0 ≤ (x5_2 : Int) := of_decide_eq_true (by first | (with_reducible assumption) | assumption)
                have q346 : x5_2 < (x3_1.length : Int) := of_decide_eq_true (by first | (with_reducible assumption) | assumption)
                obtain ⟨ad346,A346_0,c346_0,e346,hx346_0,hl346_0,hi346_0⟩ := at_L4 (Kd.N_reads' HO_3.out).2.2 x5_2 p346 q346
                cases e346
                obtain ⟨ce346,hce346,hMe346,hcc346⟩ := Kd.N_get HO_3.out [] x5_2 p346 (by first | exact q346 | exact of_decide_eq_true (by first | (with_reducible assumption) | assumption) | (have e_ := (Kd.N_reads' HO_3.out).1;omega))
                obtain ⟨ua346_0,uc346_0,rfl,ul346_0,ge346_0⟩ := Kd.FK_slice_open hMe346
                have hv346_0 := hcc346 0 _ rfl
                rw [Nat.add_zero,show ((Kd.slice 50 k50)).sz = 1 from rfl,Nat.mul_one] at hv346_0
                replace hv346_0 := Option.some.inj (hv346_0.symm.trans hx346_0)
                injection hv346_0 with hva_ hvn_ hvc_
                rw [hva_] at ge346_0
                rw [hvc_] at ul346_0
                have HL346_0 := Aside0.mk (show Kd.V k50 50 _ w.heap.size _ _ (rd_L4 x3_1 x5_2) from Kd.V_mk ul346_0 ge346_0)
                clear hva_ hvn_ hvc_ ge346_0 ul346_0
                clear hcc346 hce346
                have HR346_0 := Aside0.mk hi346_0
                have HC346_0 := Aside0.mk hl346_0
                clear hi346_0 hl346_0
                replace p346 := eq_true p346
                replace q346 := eq_true q346
                have p347 : 0 ≤ (x4_1 : Int) := of_decide_eq_true (by first | (with_reducible assumption) | assumption)
                have q347 : x4_1 < (l0.length : Int) := of_decide_eq_true (by first | (with_reducible assumption) | assumption)
                obtain ⟨ad347,A347_0,c347_0,e347,hx347_0,hl347_0,hi347_0⟩ := at_L4 (Kd.V_reads' HO_0.out).2.2 x4_1 p347 q347
                cases e347
                obtain ⟨ce347,hce347,hMe347,hcc347⟩ := Kd.V_get HO_0.out [] x4_1 p347 (by first | exact q347 | exact of_decide_eq_true (by first | (with_reducible assumption) | assumption) | (have e_ := (Kd.V_reads' HO_0.out).1;omega))
                obtain ⟨ua347_0,uc347_0,rfl,ul347_0,ge347_0⟩ := Kd.FK_slice_open hMe347
                have hv347_0 := hcc347 0 _ rfl
                rw [Nat.add_zero,show ((Kd.slice 50 k50)).sz = 1 from rfl,Nat.mul_one] at hv347_0
                replace hv347_0 := Option.some.inj (hv347_0.symm.trans hx347_0)
                injection hv347_0 with hva_ hvn_ hvc_
                rw [hva_] at ge347_0
                rw [hvc_] at ul347_0
                have HL347_0 := Aside0.mk (show Kd.V k50 50 _ w.heap.size _ _ (rd_L4 l0 x4_1) from Kd.V_mk ul347_0 ge347_0)
                clear hva_ hvn_ hvc_ ge347_0 ul347_0
                clear hcc347 hce347
                have HR347_0 := Aside0.mk hi347_0
                have HC347_0 := Aside0.mk hl347_0
                clear hi347_0 hl347_0
                replace p347 := eq_true p347
                replace q347 := eq_true q347
                refine start_ (n := 16) (S := fun w' => w'.cell? (ad346.add (x5_2).toNat) = some (.slice A346_0 (rd_L4 x3_1 x5_2).length c346_0) ∧ w'.cell? (ad347.add (x4_1).toNat) = some (.slice A347_0 (rd_L4 l0 x4_1).length c347_0)) (ds := []) #[false,false,false,false,false,false,false,false,false,false,false,false,false,false,false,false] (by kernel_rfl) rfl rfl ⟨hx346_0,hx347_0⟩ (fun hHeld => ?_);refine with_tabW verdererref02_Sort.tab6 verdererref02_Sort.bits6 (fun HT_ HW_ => ?_)
                generalize wr.drew = w26 at HO_0 HO_3 HB HL346_0 HL347_0 HR346_0 HR347_0 hx346_0 hx347_0 hHeld ⊢
                refine pure_ (i := 0) (N := some 13) (v := ?_) (a' := ?_) #[true,false,false,false,false,false,false,false,false,false,false,false,false,false,false,false] rfl rfl (q0m HT_.out (by kernel_rfl)) (fun _ _ _ h => h) (Or.inl ⟨by rfl,?_⟩) ?_ ?_
                rotate_left
                ·intro w'
                 go_simp
                 with_reducible rfl
                rotate_left
                ·simp only [Act.put,zA,zB,zC,i64_w,i32_w]
                 rfl
                refine pure_ (i := 1) (N := some 14) (v := ?_) (a' := ?_) #[true,true,false,false,false,false,false,false,false,false,false,false,false,false,false,false] rfl rfl (q0m HT_.out (by kernel_rfl)) (fun _ _ _ h => h) (Or.inl ⟨by rfl,?_⟩) ?_ ?_
                rotate_left
                ·intro w'
                 go_simp
                 with_reducible rfl
                rotate_left
                ·simp only [Act.put,zA,zB,zC,i64_w,i32_w]
                 rfl
                refine pure_ (i := 2) (N := some 15) (v := ?_) (a' := ?_) #[true,true,true,false,false,false,false,false,false,false,false,false,false,false,false,false] rfl rfl (q0m HT_.out (by kernel_rfl)) (fun _ _ _ h => h) (Or.inl ⟨by rfl,?_⟩) ?_ ?_
                rotate_left
                ·intro w'
                 go_simp
                 with_reducible rfl
                rotate_left
                ·simp only [Act.put,zA,zB,zC,i64_w,i32_w]
                 rfl
                refine pure_ (i := 3) (N := some 16) (v := ?_) (a' := ?_) #[true,true,true,true,false,false,false,false,false,false,false,false,false,false,false,false] rfl rfl (q0m HT_.out (by kernel_rfl)) (fun _ _ _ h => h) (Or.inl ⟨by rfl,?_⟩) ?_ ?_
                rotate_left
                ·intro w'
                 go_simp
                 with_reducible rfl
                rotate_left
                ·simp only [Act.put,zA,zB,zC,i64_w,i32_w]
                 rfl
                refine pure_ (i := 4) (N := some 17) (v := ?_) (a' := ?_) #[true,true,true,true,true,false,false,false,false,false,false,false,false,false,false,false] rfl rfl (q0m HT_.out (by kernel_rfl)) (fun _ _ _ h => h) (Or.inl ⟨by rfl,?_⟩) ?_ ?_
                rotate_left
                ·intro w'
                 go_simp
                 with_reducible rfl
                rotate_left
                ·simp only [Act.put,zA,zB,zC,i64_w,i32_w]
                 rfl
                refine pure_ (i := 5) (N := some 18) (v := ?_) (a' := ?_) #[true,true,true,true,true,true,false,false,false,false,false,false,false,false,false,false] rfl rfl (q0m HT_.out (by kernel_rfl)) (fun _ _ _ h => h) (Or.inl ⟨by rfl,?_⟩) ?_ ?_
                rotate_left
                ·intro w'
                 go_simp
                 with_reducible rfl
                rotate_left
                ·simp only [Act.put,zA,zB,zC,i64_w,i32_w]
                 rfl
                refine pure_ (i := 6) (N := some 19) (v := ?_) (a' := ?_) #[true,true,true,true,true,true,true,false,false,false,false,false,false,false,false,false] rfl rfl (q0m HT_.out (by kernel_rfl)) (fun _ _ _ h => h) (Or.inl ⟨by rfl,?_⟩) ?_ ?_
                rotate_left
                ·intro w'
                 go_simp
                 with_reducible rfl
                rotate_left
                ·simp only [Act.put,zA,zB,zC,i64_w,i32_w]
                 rfl
                refine pure_ (i := 7) (N := some 20) (v := ?_) (a' := ?_) #[true,true,true,true,true,true,true,true,false,false,false,false,false,false,false,false] rfl rfl (q0m HT_.out (by kernel_rfl)) (fun _ _ _ h => h) (Or.inl ⟨by rfl,?_⟩) ?_ ?_
                rotate_left
                ·intro w'
                 go_simp
                 with_reducible rfl
                rotate_left
                ·simp only [Act.put,zA,zB,zC,i64_w,i32_w]
                 rfl
                refine pure_ (i := 9) (N := some 22) (v := ?_) (a' := ?_) #[true,true,true,true,true,true,true,true,false,true,false,false,false,false,false,false] rfl rfl (q0m HT_.out (by kernel_rfl)) (fun _ _ _ h => h) (Or.inl ⟨by rfl,?_⟩) ?_ ?_
                rotate_left
                ·intro w'
                 go_simp
                 with_reducible rfl
                rotate_left
                ·simp only [Act.put,zA,zB,zC,i64_w,i32_w]
                 rfl
                refine pure_ (i := 10) (N := some 23) (v := ?_) (a' := ?_) #[true,true,true,true,true,true,true,true,false,true,true,false,false,false,false,false] rfl rfl (q0m HT_.out (by kernel_rfl)) (fun _ _ _ h => h) (Or.inl ⟨by rfl,?_⟩) ?_ ?_
                rotate_left
                ·intro w'
                 go_simp
                 with_reducible rfl
                rotate_left
                ·simp only [Act.put,zA,zB,zC,i64_w,i32_w]
                 rfl
                refine pure_ (i := 11) (N := some 24) (v := ?_) (a' := ?_) #[true,true,true,true,true,true,true,true,false,true,true,true,false,false,false,false] rfl rfl (q0m HT_.out (by kernel_rfl)) (fun _ _ _ h => h) (Or.inl ⟨by rfl,?_⟩) ?_ ?_
                rotate_left
                ·intro w'
                 go_simp
                 with_reducible rfl
                rotate_left
                ·simp only [Act.put,zA,zB,zC,i64_w,i32_w]
                 rfl
                refine take_ (i := 8) (N := some 21) (v := ?_) (a' := ?_) #[true,true,true,true,true,true,true,true,true,true,true,true,false,false,false,false] rfl rfl (take_ofW HT_.out HW_.out (by kernel_rfl)) (fun _ _ _ h => h) (Or.inl ⟨by rfl,?_⟩) hHeld ?_ ?_
                rotate_left
                ·rintro w' ⟨s0,s1⟩
                 go_simp
                 with_reducible rfl
                rotate_left
                ·simp only [Act.put,zA,zB,zC,i64_w,i32_w]
                 rfl
                refine take_ (i := 12) (N := some 25) (v := ?_) (a' := ?_) #[true,true,true,true,true,true,true,true,true,true,true,true,true,false,false,false] rfl rfl (take_ofW HT_.out HW_.out (by kernel_rfl)) (fun _ _ _ h => h) (Or.inl ⟨by rfl,?_⟩) hHeld ?_ ?_
                rotate_left
                ·rintro w' ⟨s0,s1⟩
                 go_simp
                 with_reducible rfl
                rotate_left
                ·simp only [Act.put,zA,zB,zC,i64_w,i32_w]
                 rfl
                refine one_ (i := 13) (N := some 26) #[true,true,true,true,true,true,true,true,true,true,true,true,true,true,false,false] rfl rfl (one_of HT_.out (by kernel_rfl)) (by decide) (fun K hK => ?_)
                refine goes_ Try.func22 (by kernel_rfl) rfl #[.slice A346_0 (rd_L4 x3_1 x5_2).length c346_0,.slice A347_0 (rd_L4 l0 x4_1).length c347_0] (by rfl) rfl rfl (by (try simp only [List.map_toArray,List.map_cons,List.map_nil]);first | done | rfl | (simp only [List.length_drop,List.length_take];rfl)) ?_
                with_reducible refine (verdererref02_Compare.calls k2 _ _ (rd_L4 x3_1 x5_2) _ _ (rd_L4 l0 x4_1) t348 _ ?side1 ?side2 ?side3 ?side4 A7.out).mono ?_
                (case side1 => repeat (first | exact (by repeat (first | (with_reducible exact HR346_0.out) | (with_reducible refine Kd.C_alloc ?_ _) | (with_reducible refine Kd.C_drewN ?_ _) | (with_reducible refine Kd.C_drew ?_) | exact HR346_0.out)) | (with_reducible refine Kd.C_alloc ?_ _) | (with_reducible refine Kd.C_drewN ?_ _) | (with_reducible refine Kd.C_drew ?_)))
                (case side2 => exact HC346_0.out)
                (case side3 => repeat (first | exact (by repeat (first | (with_reducible exact HR347_0.out) | (with_reducible refine Kd.C_alloc ?_ _) | (with_reducible refine Kd.C_drewN ?_ _) | (with_reducible refine Kd.C_drew ?_) | exact HR347_0.out)) | (with_reducible refine Kd.C_alloc ?_ _) | (with_reducible refine Kd.C_drewN ?_ _) | (with_reducible refine Kd.C_drew ?_)))
                (case side4 => exact HC347_0.out)
                rintro e w28 ⟨rfl,hb⟩
                have HS0_ := (hb.cell (World.block_lt_of_cell? _ _ (hHeld.1))).trans (hHeld.1)
                have HS1_ := (hb.cell (World.block_lt_of_cell? _ _ (hHeld.2))).trans (hHeld.2)
                refine ⟨_,rfl,?_⟩
                have n0_ := Aside0.mk (Kd.V_below (by (with_reducible repeat (first | apply Kd.V_alloc | apply Kd.V_drewN | apply Kd.V_drew));exact HO_0.out) hb)
                have n1_ := Aside0.mk (Kd.N_below (by (with_reducible repeat (first | apply Kd.N_alloc | apply Kd.N_drewN | apply Kd.N_drew));exact HO_3.out) hb)
                have n2_ := Aside0.mk (Kd.V_below (by (with_reducible repeat (first | apply Kd.V_alloc | apply Kd.V_drewN | apply Kd.V_drew));exact HL346_0.out) hb)
                have n3_ := Aside0.mk (Kd.V_below (by (with_reducible repeat (first | apply Kd.V_alloc | apply Kd.V_drewN | apply Kd.V_drew));exact HL347_0.out) hb)
                have n4_ := Aside0.mk (Kd.C_below (by repeat (first | (with_reducible exact HR346_0.out) | (with_reducible refine Kd.C_alloc ?_ _) | (with_reducible refine Kd.C_drewN ?_ _) | (with_reducible refine Kd.C_drew ?_) | exact HR346_0.out)) hb)
                have n5_ := Aside0.mk (Kd.C_below (by repeat (first | (with_reducible exact HR347_0.out) | (with_reducible refine Kd.C_alloc ?_ _) | (with_reducible refine Kd.C_drewN ?_ _) | (with_reducible refine Kd.C_drew ?_) | exact HR347_0.out)) hb)
                have n6_ := Aside0.mk (q0l (by repeat (first | (with_reducible first | exact HB.out | apply q0b | apply q0a | apply q0c) | exact HB.out)) hb)
                clear HO_0
                clear HO_3
                clear HL346_0
                clear HL347_0
                clear HR346_0
                clear HR347_0
                clear HB
                have HO_0 := n0_
                have HO_3 := n1_
                have HL346_0 := n2_
                have HL347_0 := n3_
                have HR346_0 := n4_
                have HR347_0 := n5_
                have HB := n6_
                clear n0_ n1_ n2_ n3_ n4_ n5_ n6_
                (try clear hb)
                (try clear hb2)
                (try clear hk)
                (try clear hi)
                refine hK.out _ _ ⟨HS0_,HS1_⟩ (fun hHeld => ?_)
                clear hK K
                refine norm_ (a' := ?_) ?_ ?_
                rotate_left
                ·show Act.put _ (some 26) _ = _
                 simp only [Act.put,zA,zB,zC,i64_w,i32_w]
                 rfl
                refine pure_ (i := 14) (N := some 27) (v := ?_) (a' := ?_) #[true,true,true,true,true,true,true,true,true,true,true,true,true,true,true,false] rfl rfl (q0m HT_.out (by kernel_rfl)) (fun _ _ _ h => h) (Or.inl ⟨by rfl,?_⟩) ?_ ?_
                rotate_left
                ·intro w'
                 go_simp
                 with_reducible rfl
                rotate_left
                ·simp only [Act.put,zA,zB,zC,i64_w,i32_w]
                 rfl
                refine pure_ (i := 15) (N := some 28) (v := ?_) (a' := ?_) #[true,true,true,true,true,true,true,true,true,true,true,true,true,true,true,true] rfl rfl (q0m HT_.out (by kernel_rfl)) (fun _ _ _ h => h) (Or.inl ⟨by rfl,?_⟩) ?_ ?_
                rotate_left
                ·intro w'
                 go_simp
                 with_reducible rfl
                rotate_left
                ·simp only [Act.put,zA,zB,zC,i64_w,i32_w]
                 rfl
                refine done_ (done_of HT_.out (by kernel_rfl)) ?_
                try go_wp2
                have n0_ := Aside0.mk (Kd.V_drew HO_0.out)
                have n1_ := Aside0.mk (Kd.N_drew HO_3.out)
                have n2_ := Aside0.mk (Kd.V_drew HL346_0.out)
                have n3_ := Aside0.mk (Kd.V_drew HL347_0.out)
                have n4_ := Aside0.mk (Kd.C_drew HR346_0.out)
                have n5_ := Aside0.mk (Kd.C_drew HR347_0.out)
                have n6_ := Aside0.mk (q0c HB.out)
                clear HO_0
                clear HO_3
                clear HL346_0
                clear HL347_0
                clear HR346_0
                clear HR347_0
                clear HB
                have HO_0 := n0_
                have HO_3 := n1_
                have HL346_0 := n2_
                have HL347_0 := n3_
                have HR346_0 := n4_
                have HR347_0 := n5_
                have HB := n6_
                clear n0_ n1_ n2_ n3_ n4_ n5_ n6_
                have p349 : 0 ≤ (x5_2 : Int) := of_decide_eq_true (by first | (with_reducible assumption) | assumption)
                have q349 : x5_2 < (x3_1.length : Int) := of_decide_eq_true (by first | (with_reducible assumption) | assumption)
                obtain ⟨ad349,A349_0,c349_0,e349,hx349_0,hl349_0,hi349_0⟩ := at_L4 (Kd.N_reads' HO_3.out).2.2 x5_2 p349 q349
                obtain rfl : ad346 = ad349 := (by injection e349)
                obtain ⟨ce349,hce349,hMe349,hcc349⟩ := Kd.N_get HO_3.out [] x5_2 p349 (by first | exact q349 | exact of_decide_eq_true (by first | (with_reducible assumption) | assumption) | (have e_ := (Kd.N_reads' HO_3.out).1;omega))
                obtain ⟨ua349_0,uc349_0,rfl,ul349_0,ge349_0⟩ := Kd.FK_slice_open hMe349
                have hv349_0 := hcc349 0 _ rfl
                rw [Nat.add_zero,show ((Kd.slice 50 k50)).sz = 1 from rfl,Nat.mul_one] at hv349_0
                replace hv349_0 := Option.some.inj (hv349_0.symm.trans hx349_0)
                injection hv349_0 with hva_ hvn_ hvc_
                rw [hva_] at ge349_0
                rw [hvc_] at ul349_0
                have HL349_0 := Aside0.mk (show Kd.V k50 50 _ w.heap.size _ _ (rd_L4 x3_1 x5_2) from Kd.V_mk ul349_0 ge349_0)
                clear hva_ hvn_ hvc_ ge349_0 ul349_0
                clear hcc349 hce349
                have HR349_0 := Aside0.mk hi349_0
                have HC349_0 := Aside0.mk hl349_0
                clear hi349_0 hl349_0
                replace p349 := eq_true p349
                replace q349 := eq_true q349
                have p350 : 0 ≤ (x4_1 : Int) := of_decide_eq_true (by first | (with_reducible assumption) | assumption)
                have q350 : x4_1 < (l0.length : Int) := of_decide_eq_true (by first | (with_reducible assumption) | assumption)
                obtain ⟨ad350,A350_0,c350_0,e350,hx350_0,hl350_0,hi350_0⟩ := at_L4 (Kd.V_reads' HO_0.out).2.2 x4_1 p350 q350
                obtain rfl : ad347 = ad350 := (by injection e350)
                obtain ⟨ce350,hce350,hMe350,hcc350⟩ := Kd.V_get HO_0.out [] x4_1 p350 (by first | exact q350 | exact of_decide_eq_true (by first | (with_reducible assumption) | assumption) | (have e_ := (Kd.V_reads' HO_0.out).1;omega))
                obtain ⟨ua350_0,uc350_0,rfl,ul350_0,ge350_0⟩ := Kd.FK_slice_open hMe350
                have hv350_0 := hcc350 0 _ rfl
                rw [Nat.add_zero,show ((Kd.slice 50 k50)).sz = 1 from rfl,Nat.mul_one] at hv350_0
                replace hv350_0 := Option.some.inj (hv350_0.symm.trans hx350_0)
                injection hv350_0 with hva_ hvn_ hvc_
                rw [hva_] at ge350_0
                rw [hvc_] at ul350_0
                have HL350_0 := Aside0.mk (show Kd.V k50 50 _ w.heap.size _ _ (rd_L4 l0 x4_1) from Kd.V_mk ul350_0 ge350_0)
                clear hva_ hvn_ hvc_ ge350_0 ul350_0
                clear hcc350 hce350
                have HR350_0 := Aside0.mk hi350_0
                have HC350_0 := Aside0.mk hl350_0
                clear hi350_0 hl350_0
                replace p350 := eq_true p350
                replace q350 := eq_true q350
                refine start_ (n := 15) (S := fun w' => w'.cell? (ad346.add (x5_2).toNat) = some (.slice A349_0 (rd_L4 x3_1 x5_2).length c349_0) ∧ w'.cell? (ad347.add (x4_1).toNat) = some (.slice A350_0 (rd_L4 l0 x4_1).length c350_0)) (ds := []) #[false,false,false,false,false,false,false,false,false,false,false,false,false,false,false] (by kernel_rfl) rfl rfl ⟨hx349_0,hx350_0⟩ (fun hHeld => ?_);refine with_tabW verdererref02_Sort.tab8 verdererref02_Sort.bits8 (fun HT_ HW_ => ?_)
                generalize w28.drew = w29 at HO_0 HO_3 HL346_0 HL347_0 HR346_0 HR347_0 HB HL349_0 HL350_0 HR349_0 HR350_0 hx349_0 hx350_0 hHeld ⊢
                refine pure_ (i := 0) (N := some 31) (v := ?_) (a' := ?_) #[true,false,false,false,false,false,false,false,false,false,false,false,false,false,false] rfl rfl (q0m HT_.out (by kernel_rfl)) (fun _ _ _ h => h) (Or.inl ⟨by rfl,?_⟩) ?_ ?_
                rotate_left
                ·intro w'
                 go_simp
                 with_reducible rfl
                rotate_left
                ·simp only [Act.put,zA,zB,zC,i64_w,i32_w]
                 rfl
                refine pure_ (i := 1) (N := some 32) (v := ?_) (a' := ?_) #[true,true,false,false,false,false,false,false,false,false,false,false,false,false,false] rfl rfl (q0m HT_.out (by kernel_rfl)) (fun _ _ _ h => h) (Or.inl ⟨by rfl,?_⟩) ?_ ?_
                rotate_left
                ·intro w'
                 go_simp
                 with_reducible rfl
                rotate_left
                ·simp only [Act.put,zA,zB,zC,i64_w,i32_w]
                 rfl
                refine pure_ (i := 2) (N := some 33) (v := ?_) (a' := ?_) #[true,true,true,false,false,false,false,false,false,false,false,false,false,false,false] rfl rfl (q0m HT_.out (by kernel_rfl)) (fun _ _ _ h => h) (Or.inl ⟨by rfl,?_⟩) ?_ ?_
                rotate_left
                ·intro w'
                 go_simp
                 with_reducible rfl
                rotate_left
                ·simp only [Act.put,zA,zB,zC,i64_w,i32_w]
                 rfl
                refine pure_ (i := 3) (N := some 34) (v := ?_) (a' := ?_) #[true,true,true,true,false,false,false,false,false,false,false,false,false,false,false] rfl rfl (q0m HT_.out (by kernel_rfl)) (fun _ _ _ h => h) (Or.inl ⟨by rfl,?_⟩) ?_ ?_
                rotate_left
                ·intro w'
                 go_simp
                 with_reducible rfl
                rotate_left
                ·simp only [Act.put,zA,zB,zC,i64_w,i32_w]
                 rfl
                refine pure_ (i := 4) (N := some 35) (v := ?_) (a' := ?_) #[true,true,true,true,true,false,false,false,false,false,false,false,false,false,false] rfl rfl (q0m HT_.out (by kernel_rfl)) (fun _ _ _ h => h) (Or.inl ⟨by rfl,?_⟩) ?_ ?_
                rotate_left
                ·intro w'
                 go_simp
                 with_reducible rfl
                rotate_left
                ·simp only [Act.put,zA,zB,zC,i64_w,i32_w]
                 rfl
                refine pure_ (i := 5) (N := some 36) (v := ?_) (a' := ?_) #[true,true,true,true,true,true,false,false,false,false,false,false,false,false,false] rfl rfl (q0m HT_.out (by kernel_rfl)) (fun _ _ _ h => h) (Or.inl ⟨by rfl,?_⟩) ?_ ?_
                rotate_left
                ·intro w'
                 go_simp
                 with_reducible rfl
                rotate_left
                ·simp only [Act.put,zA,zB,zC,i64_w,i32_w]
                 rfl
                refine pure_ (i := 6) (N := some 37) (v := ?_) (a' := ?_) #[true,true,true,true,true,true,true,false,false,false,false,false,false,false,false] rfl rfl (q0m HT_.out (by kernel_rfl)) (fun _ _ _ h => h) (Or.inl ⟨by rfl,?_⟩) ?_ ?_
                rotate_left
                ·intro w'
                 go_simp
                 with_reducible rfl
                rotate_left
                ·simp only [Act.put,zA,zB,zC,i64_w,i32_w]
                 rfl
                refine pure_ (i := 7) (N := some 38) (v := ?_) (a' := ?_) #[true,true,true,true,true,true,true,true,false,false,false,false,false,false,false] rfl rfl (q0m HT_.out (by kernel_rfl)) (fun _ _ _ h => h) (Or.inl ⟨by rfl,?_⟩) ?_ ?_
                rotate_left
                ·intro w'
                 go_simp
                 with_reducible rfl
                rotate_left
                ·simp only [Act.put,zA,zB,zC,i64_w,i32_w]
                 rfl
                refine pure_ (i := 9) (N := some 40) (v := ?_) (a' := ?_) #[true,true,true,true,true,true,true,true,false,true,false,false,false,false,false] rfl rfl (q0m HT_.out (by kernel_rfl)) (fun _ _ _ h => h) (Or.inl ⟨by rfl,?_⟩) ?_ ?_
                rotate_left
                ·intro w'
                 go_simp
                 with_reducible rfl
                rotate_left
                ·simp only [Act.put,zA,zB,zC,i64_w,i32_w]
                 rfl
                refine pure_ (i := 10) (N := some 41) (v := ?_) (a' := ?_) #[true,true,true,true,true,true,true,true,false,true,true,false,false,false,false] rfl rfl (q0m HT_.out (by kernel_rfl)) (fun _ _ _ h => h) (Or.inl ⟨by rfl,?_⟩) ?_ ?_
                rotate_left
                ·intro w'
                 go_simp
                 with_reducible rfl
                rotate_left
                ·simp only [Act.put,zA,zB,zC,i64_w,i32_w]
                 rfl
                refine pure_ (i := 11) (N := some 42) (v := ?_) (a' := ?_) #[true,true,true,true,true,true,true,true,false,true,true,true,false,false,false] rfl rfl (q0m HT_.out (by kernel_rfl)) (fun _ _ _ h => h) (Or.inl ⟨by rfl,?_⟩) ?_ ?_
                rotate_left
                ·intro w'
                 go_simp
                 with_reducible rfl
                rotate_left
                ·simp only [Act.put,zA,zB,zC,i64_w,i32_w]
                 rfl
                refine take_ (i := 8) (N := some 39) (v := ?_) (a' := ?_) #[true,true,true,true,true,true,true,true,true,true,true,true,false,false,false] rfl rfl (take_ofW HT_.out HW_.out (by kernel_rfl)) (fun _ _ _ h => h) (Or.inl ⟨by rfl,?_⟩) hHeld ?_ ?_
                rotate_left
                ·rintro w' ⟨s0,s1⟩
                 go_simp
                 with_reducible rfl
                rotate_left
                ·simp only [Act.put,zA,zB,zC,i64_w,i32_w]
                 rfl
                refine take_ (i := 12) (N := some 43) (v := ?_) (a' := ?_) #[true,true,true,true,true,true,true,true,true,true,true,true,true,false,false] rfl rfl (take_ofW HT_.out HW_.out (by kernel_rfl)) (fun _ _ _ h => h) (Or.inl ⟨by rfl,?_⟩) hHeld ?_ ?_
                rotate_left
                ·rintro w' ⟨s0,s1⟩
                 go_simp
                 with_reducible rfl
                rotate_left
                ·simp only [Act.put,zA,zB,zC,i64_w,i32_w]
                 rfl
                refine one_ (i := 13) (N := some 44) #[true,true,true,true,true,true,true,true,true,true,true,true,true,true,false] rfl rfl (one_of HT_.out (by kernel_rfl)) (by decide) (fun K hK => ?_)
                refine goes_ Try.func23 (by kernel_rfl) rfl #[.slice A349_0 (rd_L4 x3_1 x5_2).length c349_0,.slice A350_0 (rd_L4 l0 x4_1).length c350_0] (by rfl) rfl rfl (by (try simp only [List.map_toArray,List.map_cons,List.map_nil]);first | done | rfl | (simp only [List.length_drop,List.length_take];rfl)) ?_
                with_reducible refine (verdererref02_Same.calls k2 _ _ (rd_L4 x3_1 x5_2) _ _ (rd_L4 l0 x4_1) false _ ?side1 ?side2 ?side3 ?side4 A12.out).mono ?_
                (case side1 => repeat (first | exact (by repeat (first | (with_reducible exact HR349_0.out) | (with_reducible refine Kd.C_alloc ?_ _) | (with_reducible refine Kd.C_drewN ?_ _) | (with_reducible refine Kd.C_drew ?_) | exact HR349_0.out)) | (with_reducible refine Kd.C_alloc ?_ _) | (with_reducible refine Kd.C_drewN ?_ _) | (with_reducible refine Kd.C_drew ?_)))
                (case side2 => exact HC349_0.out)
                (case side3 => repeat (first | exact (by repeat (first | (with_reducible exact HR350_0.out) | (with_reducible refine Kd.C_alloc ?_ _) | (with_reducible refine Kd.C_drewN ?_ _) | (with_reducible refine Kd.C_drew ?_) | exact HR350_0.out)) | (with_reducible refine Kd.C_alloc ?_ _) | (with_reducible refine Kd.C_drewN ?_ _) | (with_reducible refine Kd.C_drew ?_)))
                (case side4 => exact HC350_0.out)
                rintro e w30 ⟨rfl,hb⟩
                have HS0_ := (hb.cell (World.block_lt_of_cell? _ _ (hHeld.1))).trans (hHeld.1)
                have HS1_ := (hb.cell (World.block_lt_of_cell? _ _ (hHeld.2))).trans (hHeld.2)
                refine ⟨_,rfl,?_⟩
                have n0_ := Aside0.mk (Kd.V_below (by (with_reducible repeat (first | apply Kd.V_alloc | apply Kd.V_drewN | apply Kd.V_drew));exact HO_0.out) hb)
                have n1_ := Aside0.mk (Kd.N_below (by (with_reducible repeat (first | apply Kd.N_alloc | apply Kd.N_drewN | apply Kd.N_drew));exact HO_3.out) hb)
                have n2_ := Aside0.mk (Kd.V_below (by (with_reducible repeat (first | apply Kd.V_alloc | apply Kd.V_drewN | apply Kd.V_drew));exact HL346_0.out) hb)
                have n3_ := Aside0.mk (Kd.V_below (by (with_reducible repeat (first | apply Kd.V_alloc | apply Kd.V_drewN | apply Kd.V_drew));exact HL347_0.out) hb)
                have n4_ := Aside0.mk (Kd.V_below (by (with_reducible repeat (first | apply Kd.V_alloc | apply Kd.V_drewN | apply Kd.V_drew));exact HL349_0.out) hb)
                have n5_ := Aside0.mk (Kd.V_below (by (with_reducible repeat (first | apply Kd.V_alloc | apply Kd.V_drewN | apply Kd.V_drew));exact HL350_0.out) hb)
                have n6_ := Aside0.mk (Kd.C_below (by repeat (first | (with_reducible exact HR346_0.out) | (with_reducible refine Kd.C_alloc ?_ _) | (with_reducible refine Kd.C_drewN ?_ _) | (with_reducible refine Kd.C_drew ?_) | exact HR346_0.out)) hb)
                have n7_ := Aside0.mk (Kd.C_below (by repeat (first | (with_reducible exact HR347_0.out) | (with_reducible refine Kd.C_alloc ?_ _) | (with_reducible refine Kd.C_drewN ?_ _) | (with_reducible refine Kd.C_drew ?_) | exact HR347_0.out)) hb)
                have n8_ := Aside0.mk (Kd.C_below (by repeat (first | (with_reducible exact HR349_0.out) | (with_reducible refine Kd.C_alloc ?_ _) | (with_reducible refine Kd.C_drewN ?_ _) | (with_reducible refine Kd.C_drew ?_) | exact HR349_0.out)) hb)
                have n9_ := Aside0.mk (Kd.C_below (by repeat (first | (with_reducible exact HR350_0.out) | (with_reducible refine Kd.C_alloc ?_ _) | (with_reducible refine Kd.C_drewN ?_ _) | (with_reducible refine Kd.C_drew ?_) | exact HR350_0.out)) hb)
                have n10_ := Aside0.mk (q0l (by repeat (first | (with_reducible first | exact HB.out | apply q0b | apply q0a | apply q0c) | exact HB.out)) hb)
                clear HO_0
                clear HO_3
                clear HL346_0
                clear HL347_0
                clear HL349_0
                clear HL350_0
                clear HR346_0
                clear HR347_0
                clear HR349_0
                clear HR350_0
                clear HB
                have HO_0 := n0_
                have HO_3 := n1_
                have HL346_0 := n2_
                have HL347_0 := n3_
                have HL349_0 := n4_
                have HL350_0 := n5_
                have HR346_0 := n6_
                have HR347_0 := n7_
                have HR349_0 := n8_
                have HR350_0 := n9_
                have HB := n10_
                clear n0_ n1_ n2_ n3_ n4_ n5_ n6_ n7_ n8_ n9_ n10_
                (try clear hb)
                (try clear hb2)
                (try clear hk)
                (try clear hi)
                refine hK.out _ _ ⟨HS0_,HS1_⟩ (fun hHeld => ?_)
                clear hK K
                refine norm_ (a' := ?_) ?_ ?_
                rotate_left
                ·show Act.put _ (some 44) _ = _
                 simp only [Act.put,zA,zB,zC,i64_w,i32_w]
                 rfl
                refine pure_ (i := 14) (N := some 45) (v := ?_) (a' := ?_) #[true,true,true,true,true,true,true,true,true,true,true,true,true,true,true] rfl rfl (q0m HT_.out (by kernel_rfl)) (fun _ _ _ h => h) (Or.inl ⟨by rfl,?_⟩) ?_ ?_
                rotate_left
                ·intro w'
                 go_simp
                 with_reducible rfl
                rotate_left
                ·simp only [Act.put,zA,zB,zC,i64_w,i32_w]
                 rfl
                refine done_ (done_of HT_.out (by kernel_rfl)) ?_
                have q31 : (x5_2 : Int) ≤ ((x3_1.length : Int) : Int) := of_decide_eq_true (by first | (with_reducible assumption) | assumption)
                obtain ⟨i031,hi031,_,hsz31,_⟩ := info_parts info22
                have hroom31 : x3_1.length ≤ co27 := (Kd.N_reads' HO_3.out).2.1
                have hC31 : Kd.F (Kd.slice 50 k50) _ _ (some ad346) x3_1.length x3_1 := (Kd.V_at (base := w.heap.size) (Kd.N_V HO_3.out)).2.2
                have hcut31 := cut_to (P := Try.prog) 42 22 .i64 Try.underlying42 hi031 (some ad346) x3_1.length co27 x5_2 (of_decide_eq_true (by first | (with_reducible assumption) | assumption)) q31 hroom31
                have hr31 := Kd.F_take (m := (x5_2 : Int).toNat) hC31 (by omega)
                have hy31 : y352.length = (x5_2 : Int).toNat := (by rw [Ny352.out,List.length_take];omega)
                rw [← Ny352.out] at hr31
                rw [← hy31] at hcut31
                have HO356 := Aside0.mk (show Kd.V (Kd.slice 50 k50) 22 _ w.heap.size _ (.slice (some ad346) y352.length co27) y352 from Kd.V_mk (by omega) hr31)
                have HC356 := Aside0.mk (show y352.length ≤ co27 from by omega)
                clear hr31 hC31 hroom31 hi031 hsz31
                have KY31 := Aside0.mk hy31
                clear hy31
                replace q31 := eq_true q31
                try go_wp2_with (first | ((with_reducible refine gate_builtin (b := .append) (xs := #[.tmp 46,.tmp 49]) rfl ?_);at_builtin;refine Kd.N_append_rows (Kd.slice 50 k50) (w0 := w) w.heap.size rfl (.tmp 46) (.tmp 49) 42 22 (.slice none 0 0) 24 rfl Try.underlying42 info22 rfl (by decide) (by omega) (.slice none 0 0) ([] : List (List (S50))) y352 _ _ _ (fun k_ => (P0_ k_ ∨ w.heap.size ≤ k_)) (fun k_ => ((fun k_ => (P0_ k_ ∨ w.heap.size ≤ k_))) k_ ∧ some k_ ≠ (.slice none 0 0 : Value).ownBlock) rfl rfl ?aO ?aR (fun _ hk => hk) ?aF ?aB ?aS ?aL ?_;(case aR => exact (by skip;exact Kd.V_F (Kd.V_mono (ok' := (fun k_ => ((fun k_ => (P0_ k_ ∨ w.heap.size ≤ k_))) k_ ∧ some k_ ≠ (.slice none 0 0 : Value).ownBlock)) (HO356.out) (fun k_ hk => ⟨hk,(by simp [Value.ownBlock])⟩))));(case aB => exact (by repeat (first | (with_reducible first | exact HB.out | apply q0b | apply q0a | apply q0c) | exact HB.out)));(case aF => exact (fun k_ hk => (.inr (Nat.le_trans (q0g (by repeat (first | (with_reducible first | exact HB.out | apply q0b | apply q0a | apply q0c) | exact HB.out))) hk))));(case aO => exact ((Kd.N_nil _ _ _ _ (fun k_ => (P0_ k_ ∨ w.heap.size ≤ k_)))));(case aS => exact (q0g (by repeat (first | (with_reducible first | exact HB.out | apply q0b | apply q0a | apply q0c) | exact HB.out))));(case aL => have := LMc21.out;omega);intro v358 w32 ho hb hg hat;rw [← Ny357.out] at ho;have n0_ := Aside0.mk (Kd.V_afterv (Kd.V_apart_nil (by (with_reducible repeat (first | apply Kd.V_alloc | apply Kd.V_drewN | apply Kd.V_drew));exact HO_0.out)) hg hat);have n1_ := Aside0.mk (Kd.N_afterv (Kd.N_apart_nil (by (with_reducible repeat (first | apply Kd.N_alloc | apply Kd.N_drewN | apply Kd.N_drew));exact HO_3.out)) hg hat);have n2_ := Aside0.mk (Kd.V_afterv (Kd.V_apart_nil (by (with_reducible repeat (first | apply Kd.V_alloc | apply Kd.V_drewN | apply Kd.V_drew));exact HL346_0.out)) hg hat);have n3_ := Aside0.mk (Kd.V_afterv (Kd.V_apart_nil (by (with_reducible repeat (first | apply Kd.V_alloc | apply Kd.V_drewN | apply Kd.V_drew));exact HL347_0.out)) hg hat);have n4_ := Aside0.mk (Kd.V_afterv (Kd.V_apart_nil (by (with_reducible repeat (first | apply Kd.V_alloc | apply Kd.V_drewN | apply Kd.V_drew));exact HL349_0.out)) hg hat);have n5_ := Aside0.mk (Kd.V_afterv (Kd.V_apart_nil (by (with_reducible repeat (first | apply Kd.V_alloc | apply Kd.V_drewN | apply Kd.V_drew));exact HL350_0.out)) hg hat);have n6_ := Aside0.mk (Kd.V_afterv (Kd.V_apart_nil (by (with_reducible repeat (first | apply Kd.V_alloc | apply Kd.V_drewN | apply Kd.V_drew));exact HO356.out)) hg hat);have n7_ := Aside0.mk (hb);have n8_ := Aside0.mk (ho);clear HO_0;clear HO_3;clear HL346_0;clear HL347_0;clear HL349_0;clear HL350_0;clear HO356;clear HB;have HO_0 := n0_;have HO_3 := n1_;have HL346_0 := n2_;have HL347_0 := n3_;have HL349_0 := n4_;have HL350_0 := n5_;have HO356 := n6_;have HB := n7_;have HO359 := n8_;clear n0_ n1_ n2_ n3_ n4_ n5_ n6_ n7_ n8_;clear ho hb hg hat;have p360 : 0 ≤ (x4_1 : Int) := of_decide_eq_true (by first | (with_reducible assumption) | assumption);have q360 : x4_1 < (l0.length : Int) := of_decide_eq_true (by first | (with_reducible assumption) | assumption);obtain ⟨ad360,A360_0,c360_0,e360,hx360_0,hl360_0,hi360_0⟩ := at_L4 (Kd.V_reads' HO_0.out).2.2 x4_1 p360 q360;obtain rfl : ad347 = ad360 := (by injection e360);obtain ⟨ce360,hce360,hMe360,hcc360⟩ := Kd.V_get HO_0.out [] x4_1 p360 (by first | exact q360 | exact of_decide_eq_true (by first | (with_reducible assumption) | assumption) | (have e_ := (Kd.V_reads' HO_0.out).1;omega));obtain ⟨ua360_0,uc360_0,rfl,ul360_0,ge360_0⟩ := Kd.FK_slice_open hMe360;have hv360_0 := hcc360 0 _ rfl;rw [Nat.add_zero,show ((Kd.slice 50 k50)).sz = 1 from rfl,Nat.mul_one] at hv360_0;replace hv360_0 := Option.some.inj (hv360_0.symm.trans hx360_0);injection hv360_0 with hva_ hvn_ hvc_;rw [hva_] at ge360_0;rw [hvc_] at ul360_0;have HL360_0 := Aside0.mk (show Kd.V k50 50 _ w.heap.size _ _ (rd_L4 l0 x4_1) from Kd.V_mk ul360_0 ge360_0);clear hva_ hvn_ hvc_ ge360_0 ul360_0;clear hcc360 hce360;have HR360_0 := Aside0.mk hi360_0;have HC360_0 := Aside0.mk hl360_0;clear hi360_0 hl360_0;replace p360 := eq_true p360;replace q360 := eq_true q360) | ((with_reducible refine gate_builtin (b := .append) (xs := #[.tmp 51,.tmp 56]) rfl ?_);at_builtin;refine Kd.N_append (Kd.slice 50 k50) (w0 := w) w.heap.size rfl (.tmp 51) (.tmp 56) 42 22 (.slice none 0 0) 24 rfl Try.underlying42 info22 rfl (by decide) (by omega) v358 y357 (rd_L4 l0 x4_1) [.slice A360_0 (rd_L4 l0 x4_1).length c360_0] (fun k_ => (P0_ k_ ∨ w.heap.size ≤ k_)) (fun k_ => ((fun k_ => (P0_ k_ ∨ w.heap.size ≤ k_))) k_ ∧ some k_ ≠ (v358 : Value).ownBlock) rfl rfl ?aP (fun _ hk => hk) ?aF ?aO ?aB ?aS ?aL ?_;(case aP => exact (Kd.FK_slice_mk (Kd.V_reads' (Kd.V_mono (ok' := (fun k_ => ((fun k_ => (P0_ k_ ∨ w.heap.size ≤ k_))) k_ ∧ some k_ ≠ (v358 : Value).ownBlock)) (HL360_0.out) (fun k_ hk => ⟨hk.1.1,hk.2⟩))).2.1 (Kd.V_F (Kd.V_mono (ok' := (fun k_ => ((fun k_ => (P0_ k_ ∨ w.heap.size ≤ k_))) k_ ∧ some k_ ≠ (v358 : Value).ownBlock)) (HL360_0.out) (fun k_ hk => ⟨hk.1.1,hk.2⟩)))));(case aB => exact (by repeat (first | (with_reducible first | exact HB.out | apply q0b | apply q0a | apply q0c) | exact HB.out)));(case aF => exact (fun k_ hk => (.inr (Nat.le_trans (q0g (by repeat (first | (with_reducible first | exact HB.out | apply q0b | apply q0a | apply q0c) | exact HB.out))) hk))));(case aO => exact (by (with_reducible repeat (first | apply Kd.N_alloc | apply Kd.N_drewN | apply Kd.N_drew));exact HO359.out));(case aS => exact (q0g (by repeat (first | (with_reducible first | exact HB.out | apply q0b | apply q0a | apply q0c) | exact HB.out))));(case aL => have := LMc22.out;omega);intro v362 w33 ho hb hg hat;rw [← Ny361.out] at ho;have n0_ := Aside0.mk (Kd.V_afterv (ok := (fun k_ => (P0_ k_ ∨ w.heap.size ≤ k_) ∧ some k_ ≠ (.slice (some ad346) x3_1.length co27 : Value).ownBlock)) (by (with_reducible repeat (first | apply Kd.V_alloc | apply Kd.V_drewN | apply Kd.V_drew));exact HO_0.out) hg hat);have n1_ := Aside0.mk (Kd.N_afterv (ok := (fun k_ => (P0_ k_ ∨ w.heap.size ≤ k_))) (by (with_reducible repeat (first | apply Kd.N_alloc | apply Kd.N_drewN | apply Kd.N_drew));exact HO_3.out) hg hat);have n2_ := Aside0.mk (Kd.V_afterv (ok := (fun k_ => (P0_ k_ ∨ w.heap.size ≤ k_) ∧ some k_ ≠ (.slice (some ad346) x3_1.length co27 : Value).ownBlock)) (by (with_reducible repeat (first | apply Kd.V_alloc | apply Kd.V_drewN | apply Kd.V_drew));exact HL346_0.out) hg hat);have n3_ := Aside0.mk (Kd.V_afterv (ok := (fun k_ => (P0_ k_ ∨ w.heap.size ≤ k_) ∧ some k_ ≠ (.slice (some ad346) x3_1.length co27 : Value).ownBlock)) (by (with_reducible repeat (first | apply Kd.V_alloc | apply Kd.V_drewN | apply Kd.V_drew));exact HL347_0.out) hg hat);have n4_ := Aside0.mk (Kd.V_afterv (ok := (fun k_ => (P0_ k_ ∨ w.heap.size ≤ k_) ∧ some k_ ≠ (.slice (some ad346) x3_1.length co27 : Value).ownBlock)) (by (with_reducible repeat (first | apply Kd.V_alloc | apply Kd.V_drewN | apply Kd.V_drew));exact HL349_0.out) hg hat);have n5_ := Aside0.mk (Kd.V_afterv (ok := (fun k_ => (P0_ k_ ∨ w.heap.size ≤ k_) ∧ some k_ ≠ (.slice (some ad346) x3_1.length co27 : Value).ownBlock)) (by (with_reducible repeat (first | apply Kd.V_alloc | apply Kd.V_drewN | apply Kd.V_drew));exact HL350_0.out) hg hat);have n6_ := Aside0.mk (Kd.V_afterv (ok := (fun k_ => (P0_ k_ ∨ w.heap.size ≤ k_))) (by (with_reducible repeat (first | apply Kd.V_alloc | apply Kd.V_drewN | apply Kd.V_drew));exact HO356.out) hg hat);have n7_ := Aside0.mk (Kd.V_afterv (ok := (fun k_ => (P0_ k_ ∨ w.heap.size ≤ k_) ∧ some k_ ≠ (.slice (some ad346) x3_1.length co27 : Value).ownBlock)) (by (with_reducible repeat (first | apply Kd.V_alloc | apply Kd.V_drewN | apply Kd.V_drew));exact HL360_0.out) hg hat);have n8_ := Aside0.mk (hb);have n9_ := Aside0.mk (ho);clear HO_0;clear HO_3;clear HL346_0;clear HL347_0;clear HL349_0;clear HL350_0;clear HO356;clear HL360_0;clear HB;clear HO359;have HO_0 := n0_;have HO_3 := n1_;have HL346_0 := n2_;have HL347_0 := n3_;have HL349_0 := n4_;have HL350_0 := n5_;have HO356 := n6_;have HL360_0 := n7_;have HB := n8_;have HO363 := n9_;clear n0_ n1_ n2_ n3_ n4_ n5_ n6_ n7_ n8_ n9_;clear ho hb hg hat;have q34 : (x5_2 : Int) ≤ ((x3_1.length : Int) : Int) := of_decide_eq_true (by first | (with_reducible assumption) | assumption);obtain ⟨i034,hi034,_,hsz34,_⟩ := info_parts info22;have hroom34 : x3_1.length ≤ co27 := (Kd.N_reads' HO_3.out).2.1;have hC34 : Kd.F (Kd.slice 50 k50) _ _ (some ad346) x3_1.length x3_1 := (Kd.V_at (base := w.heap.size) (Kd.N_V HO_3.out)).2.2;have q034 : (0 : Int) ≤ (x5_2 : Int) := of_decide_eq_true (by first | (with_reducible assumption) | assumption);have hcut34 := cut_from (P := Try.prog) 42 22 .i64 Try.underlying42 hi034 1 hsz34 (some ad346) x3_1.length co27 x5_2 q034 q34;have hr34 := Kd.F_cut (m := (x5_2 : Int).toNat) (c := co27) hC34 (by omega) hroom34;obtain ⟨A34,hA34⟩ : ∃ A1,A1 = (if co27 = (x5_2 : Int).toNat then (some ad346) else ((some ad346) : Option Addr).map (·.add ((x5_2 : Int).toNat * 1))) := ⟨_,rfl⟩;obtain ⟨c34,hc34⟩ : ∃ c1,c1 = co27 - (x5_2 : Int).toNat := ⟨_,rfl⟩;have hy34 : y364.length = x3_1.length - (x5_2 : Int).toNat := (by rw [Ny364.out,List.length_drop] <;> omega);rw [show (x3_1).drop (x5_2 : Int).toNat = y364 from Ny364.out.symm] at hr34;replace hr34 : Kd.F (Kd.slice 50 k50) _ _ A34 y364.length y364 := (by rw [hA34];exact hr34);rw [← hy34,← hA34,← hc34] at hcut34;have HO368 := Aside0.mk (show Kd.V (Kd.slice 50 k50) 22 _ w.heap.size _ (.slice A34 y364.length c34) y364 from Kd.V_mk (by rw [hy34,hc34];exact Nat.sub_le_sub_right hroom34 _) hr34);have HC368 := Aside0.mk (show y364.length ≤ c34 from by rw [hy34,hc34];exact Nat.sub_le_sub_right hroom34 _);clear hr34 hC34 hroom34 hi034 hsz34 hc34;have KY34 := Aside0.mk hy34;have KA34 := Aside0.mk hA34;clear hy34 hA34;replace q34 := eq_true q34) | ((with_reducible refine gate_builtin (b := .append) (xs := #[.tmp 58,.tmp 61]) rfl ?_);at_builtin;refine Kd.N_append_rows (Kd.slice 50 k50) (w0 := w) w.heap.size rfl (.tmp 58) (.tmp 61) 42 22 (.slice none 0 0) 24 rfl Try.underlying42 info22 rfl (by decide) (by omega) v362 y361 y364 _ _ _ (fun k_ => (P0_ k_ ∨ w.heap.size ≤ k_)) (fun k_ => ((fun k_ => (P0_ k_ ∨ w.heap.size ≤ k_))) k_ ∧ some k_ ≠ (v362 : Value).ownBlock) rfl rfl ?aO ?aR (fun _ hk => hk) ?aF ?aB ?aS ?aL ?_;(case aR => exact (by skip;exact Kd.V_F (Kd.V_mono (ok' := (fun k_ => ((fun k_ => (P0_ k_ ∨ w.heap.size ≤ k_))) k_ ∧ some k_ ≠ (v362 : Value).ownBlock)) (HO368.out) (fun k_ hk => ⟨hk.1,hk.2⟩))));(case aB => exact (by repeat (first | (with_reducible first | exact HB.out | apply q0b | apply q0a | apply q0c) | exact HB.out)));(case aF => exact (fun k_ hk => (.inr (Nat.le_trans (q0g (by repeat (first | (with_reducible first | exact HB.out | apply q0b | apply q0a | apply q0c) | exact HB.out))) hk))));(case aO => exact (by (with_reducible repeat (first | apply Kd.N_alloc | apply Kd.N_drewN | apply Kd.N_drew));exact HO363.out));(case aS => exact (q0g (by repeat (first | (with_reducible first | exact HB.out | apply q0b | apply q0a | apply q0c) | exact HB.out))));(case aL => have := LMc25.out;omega);intro v370 w35 ho hb hg hat;rw [← Ny369.out] at ho;have n0_ := Aside0.mk (Kd.V_afterv (ok := (fun k_ => (P0_ k_ ∨ w.heap.size ≤ k_) ∧ some k_ ≠ (.slice (some ad346) x3_1.length co27 : Value).ownBlock)) (by (with_reducible repeat (first | apply Kd.V_alloc | apply Kd.V_drewN | apply Kd.V_drew));exact HO_0.out) hg hat);have n1_ := Aside0.mk (Kd.N_afterv (ok := (fun k_ => (P0_ k_ ∨ w.heap.size ≤ k_))) (by (with_reducible repeat (first | apply Kd.N_alloc | apply Kd.N_drewN | apply Kd.N_drew));exact HO_3.out) hg hat);have n2_ := Aside0.mk (Kd.V_afterv (ok := (fun k_ => (P0_ k_ ∨ w.heap.size ≤ k_) ∧ some k_ ≠ (.slice (some ad346) x3_1.length co27 : Value).ownBlock)) (by (with_reducible repeat (first | apply Kd.V_alloc | apply Kd.V_drewN | apply Kd.V_drew));exact HL346_0.out) hg hat);have n3_ := Aside0.mk (Kd.V_afterv (ok := (fun k_ => (P0_ k_ ∨ w.heap.size ≤ k_) ∧ some k_ ≠ (.slice (some ad346) x3_1.length co27 : Value).ownBlock)) (by (with_reducible repeat (first | apply Kd.V_alloc | apply Kd.V_drewN | apply Kd.V_drew));exact HL347_0.out) hg hat);have n4_ := Aside0.mk (Kd.V_afterv (ok := (fun k_ => (P0_ k_ ∨ w.heap.size ≤ k_) ∧ some k_ ≠ (.slice (some ad346) x3_1.length co27 : Value).ownBlock)) (by (with_reducible repeat (first | apply Kd.V_alloc | apply Kd.V_drewN | apply Kd.V_drew));exact HL349_0.out) hg hat);have n5_ := Aside0.mk (Kd.V_afterv (ok := (fun k_ => (P0_ k_ ∨ w.heap.size ≤ k_) ∧ some k_ ≠ (.slice (some ad346) x3_1.length co27 : Value).ownBlock)) (by (with_reducible repeat (first | apply Kd.V_alloc | apply Kd.V_drewN | apply Kd.V_drew));exact HL350_0.out) hg hat);have n6_ := Aside0.mk (Kd.V_afterv (ok := (fun k_ => (P0_ k_ ∨ w.heap.size ≤ k_))) (by (with_reducible repeat (first | apply Kd.V_alloc | apply Kd.V_drewN | apply Kd.V_drew));exact HO356.out) hg hat);have n7_ := Aside0.mk (Kd.V_afterv (ok := (fun k_ => (P0_ k_ ∨ w.heap.size ≤ k_) ∧ some k_ ≠ (.slice (some ad346) x3_1.length co27 : Value).ownBlock)) (by (with_reducible repeat (first | apply Kd.V_alloc | apply Kd.V_drewN | apply Kd.V_drew));exact HL360_0.out) hg hat);have n8_ := Aside0.mk (Kd.V_afterv (ok := (fun k_ => (P0_ k_ ∨ w.heap.size ≤ k_))) (by (with_reducible repeat (first | apply Kd.V_alloc | apply Kd.V_drewN | apply Kd.V_drew));exact HO368.out) hg hat);have n9_ := Aside0.mk (hb);have n10_ := Aside0.mk (ho);clear HO_0;clear HO_3;clear HL346_0;clear HL347_0;clear HL349_0;clear HL350_0;clear HO356;clear HL360_0;clear HO368;clear HB;clear HO363;have HO_0 := n0_;have HO_3 := n1_;have HL346_0 := n2_;have HL347_0 := n3_;have HL349_0 := n4_;have HL350_0 := n5_;have HO356 := n6_;have HL360_0 := n7_;have HO368 := n8_;have HB := n9_;have HO371 := n10_;clear n0_ n1_ n2_ n3_ n4_ n5_ n6_ n7_ n8_ n9_ n10_;clear ho hb hg hat))
                go_roundg k2
                case measure => have := HK1.out;have := HK2.out;omega
                case rel => exact ⟨(y369),(wrap64 (x4_1 + 1)),(by first | rfl | (simp;done) | (simp [*];done)),H',⟨by have := HK1.out;have := HK2.out;omega⟩,⟨by (with_reducible repeat (first | apply Kd.V_alloc | apply Kd.V_drewN | apply Kd.V_drew));exact Kd.V_mono HO_0.out (fun _ hk => ⟨hk.1.1,hk.2⟩)⟩,⟨by (with_reducible repeat (first | apply Kd.N_alloc | apply Kd.N_drewN | apply Kd.N_drew));exact HO371.out⟩,⟨by repeat (first | (with_reducible first | exact HB.out | apply q0b | apply q0a | apply q0c) | exact HB.out)⟩⟩
               ·rw [if_neg c25] at H
                exact absurd H (by simp)
              ·rw [if_neg c22] at H
               exact absurd H (by simp)
             ·rw [if_neg c21] at H
              exact absurd H (by simp)
            ·rw [if_neg c20] at H
             exact absurd H (by simp)
         ·rw [if_neg c6] at H
          exact absurd H (by simp)
        ·rw [if_neg c5] at H
         exact absurd H (by simp)
       ·rw [if_neg c4] at H
        exact absurd H (by simp)
      ·rw [if_neg c3] at H
       have c3b0 : decide (x5_2 < (x3_1.length : Int)) = false := decide_eq_false c3
       clear c3
       by_cases c36 : 0 ≤ x5_2
       ·rw [if_pos c36] at H
        have c36b0 := eq_true c36
        have c36b1 : decide (0 ≤ x5_2) = true := decide_eq_true c36
        clear c36
        by_cases c37 : x5_2 ≤ (x3_1.length : Int)
        ·rw [if_pos c37] at H
         have c37b0 := eq_true c37
         have c37b1 : decide (x5_2 ≤ (x3_1.length : Int)) = true := decide_eq_true c37
         clear c37
         obtain ⟨y372,hy372⟩ : ∃ y_ : List (List (S50)),y_ = (x3_1.take (x5_2 : Int).toNat) := ⟨_,rfl⟩
         replace H : (if ([] : List (List (S50))).length + y372.length < 5864062014805 then ((some (([] : List (List (S50))) ++ y372 : List (List (S50)))).bind fun y377 => (if 0 ≤ x4_1 then (if x4_1 < (l0.length : Int) then (if y377.length < 5864062014805 then ((some (y377 ++ [rd_L4 l0 x4_1] : List (List (S50)))).bind fun y381 => ((some (x3_1.drop (x5_2 : Int).toNat : List (List (S50)))).bind fun y384 => (if y381.length + y384.length < 5864062014805 then (verdererref02_Sort.l0 k2 l0 (y381 ++ y384) (wrap64 (x4_1 + 1))) else (none)))) else (none)) else (none)) else (none))) else (none)) = some r := by first | (rw [hy372];with_reducible exact H) | (have H2_ := (Option.bind_some _ _).symm.trans H;rw [hy372];with_reducible exact H2_) | (have H2_ := (Option.bind_some _ _).symm.trans H;with_reducible exact H2_) | with_reducible exact H | (rw [hy372];exact H) | exact H
         have Ny372 := Aside0.mk hy372
         clear hy372
         by_cases c38 : ([] : List (List (S50))).length + y372.length < 5864062014805
         ·rw [if_pos c38] at H
          have LMc38 := Aside0.mk c38
          clear c38
          obtain ⟨y377,hy377⟩ : ∃ y_ : List (List (S50)),y_ = (([] : List (List (S50))) ++ y372) := ⟨_,rfl⟩
          replace H : (if 0 ≤ x4_1 then (if x4_1 < (l0.length : Int) then (if y377.length < 5864062014805 then ((some (y377 ++ [rd_L4 l0 x4_1] : List (List (S50)))).bind fun y381 => ((some (x3_1.drop (x5_2 : Int).toNat : List (List (S50)))).bind fun y384 => (if y381.length + y384.length < 5864062014805 then (verdererref02_Sort.l0 k2 l0 (y381 ++ y384) (wrap64 (x4_1 + 1))) else (none)))) else (none)) else (none)) else (none)) = some r := by first | (rw [hy377];with_reducible exact H) | (have H2_ := (Option.bind_some _ _).symm.trans H;rw [hy377];with_reducible exact H2_) | (have H2_ := (Option.bind_some _ _).symm.trans H;with_reducible exact H2_) | with_reducible exact H | (rw [hy377];exact H) | exact H
          have Ny377 := Aside0.mk hy377
          clear hy377
          by_cases c39 : 0 ≤ x4_1
          ·rw [if_pos c39] at H
           have c39b0 : decide (0 ≤ x4_1) = true := decide_eq_true c39
           clear c39
           by_cases c40 : x4_1 < (l0.length : Int)
           ·rw [if_pos c40] at H
            have c40b0 : decide (x4_1 < (l0.length : Int)) = true := decide_eq_true c40
            clear c40
            by_cases c41 : y377.length < 5864062014805
            ·rw [if_pos c41] at H
             have LMc41 := Aside0.mk c41
             clear c41
             obtain ⟨y381,hy381⟩ : ∃ y_ : List (List (S50)),y_ = (y377 ++ [rd_L4 l0 x4_1]) := ⟨_,rfl⟩
             replace H : ((some (x3_1.drop (x5_2 : Int).toNat : List (List (S50)))).bind fun y384 => (if y381.length + y384.length < 5864062014805 then (verdererref02_Sort.l0 k2 l0 (y381 ++ y384) (wrap64 (x4_1 + 1))) else (none))) = some r := by first | (rw [hy381];with_reducible exact H) | (have H2_ := (Option.bind_some _ _).symm.trans H;rw [hy381];with_reducible exact H2_) | (have H2_ := (Option.bind_some _ _).symm.trans H;with_reducible exact H2_) | with_reducible exact H | (rw [hy381];exact H) | exact H
             have Ny381 := Aside0.mk hy381
             clear hy381
             have c42b0 := eq_true (of_decide_eq_true (by first | (with_reducible assumption) | assumption) : 0 ≤ x5_2)
             have c43b0 := eq_true (of_decide_eq_true (by first | (with_reducible assumption) | assumption) : x5_2 ≤ (x3_1.length : Int))
             obtain ⟨y384,hy384⟩ : ∃ y_ : List (List (S50)),y_ = (x3_1.drop (x5_2 : Int).toNat) := ⟨_,rfl⟩
             replace H : (if y381.length + y384.length < 5864062014805 then (verdererref02_Sort.l0 k2 l0 (y381 ++ y384) (wrap64 (x4_1 + 1))) else (none)) = some r := by first | (rw [hy384];with_reducible exact H) | (have H2_ := (Option.bind_some _ _).symm.trans H;rw [hy384];with_reducible exact H2_) | (have H2_ := (Option.bind_some _ _).symm.trans H;with_reducible exact H2_) | with_reducible exact H | (rw [hy384];exact H) | exact H
             have Ny384 := Aside0.mk hy384
             clear hy384
             by_cases c44 : y381.length + y384.length < 5864062014805
             ·rw [if_pos c44] at H
              have LMc44 := Aside0.mk c44
              clear c44
              obtain ⟨y389,hy389⟩ : ∃ y_ : List (List (S50)),y_ = (y381 ++ y384) := ⟨_,rfl⟩
              replace H : (verdererref02_Sort.l0 k2 l0 y389 (wrap64 (x4_1 + 1))) = some r := by first | (rw [hy389];with_reducible exact H) | (have H2_ := (Option.bind_some _ _).symm.trans H;rw [hy389];with_reducible exact H2_) | (have H2_ := (Option.bind_some _ _).symm.trans H;with_reducible exact H2_) | with_reducible exact H | (rw [hy389];exact H) | exact H
              have Ny389 := Aside0.mk hy389
              clear hy389
              have H' := Aside0.mk H
              clear H
              try go_wp2
              have n0_ := Aside0.mk (Kd.V_drew HO_0.out)
              have n1_ := Aside0.mk (Kd.N_drew HO_3.out)
              have n2_ := Aside0.mk (q0c HB.out)
              clear HO_0
              clear HO_3
              clear HB
              have HO_0 := n0_
              have HO_3 := n1_
              have HB := n2_
              clear n0_ n1_ n2_
              obtain ⟨Ao46,co46,eo46⟩ := Kd.N_slice HO_3.out
              (first | subst eo46 | (injection eo46 with f1_ f2_ f3_;have f4_ := f1_.symm;have f5_ := f3_.symm;clear f1_ f2_ f3_;subst f4_;subst f5_))
              refine start_ (n := 16) (S := fun w' => True) (ds := []) #[false,false,false,false,false,false,false,false,false,false,false,false,false,false,false,false] (by kernel_rfl) rfl rfl trivial (fun hHeld => ?_);refine with_tabW verdererref02_Sort.tab6 verdererref02_Sort.bits6 (fun HT_ HW_ => ?_)
              generalize wr.drew = w45 at HO_0 HO_3 HB hHeld ⊢
              refine pure_ (i := 0) (N := some 13) (v := ?_) (a' := ?_) #[true,false,false,false,false,false,false,false,false,false,false,false,false,false,false,false] rfl rfl (q0m HT_.out (by kernel_rfl)) (fun _ _ _ h => h) (Or.inl ⟨by rfl,?_⟩) ?_ ?_
              rotate_left
              ·intro w'
               go_simp
               with_reducible rfl
              rotate_left
              ·simp only [Act.put,zA,zB,zC,i64_w,i32_w]
               rfl
              refine pure_ (i := 1) (N := some 14) (v := ?_) (a' := ?_) #[true,true,false,false,false,false,false,false,false,false,false,false,false,false,false,false] rfl rfl (q0m HT_.out (by kernel_rfl)) (fun _ _ _ h => h) (Or.inl ⟨by rfl,?_⟩) ?_ ?_
              rotate_left
              ·intro w'
               go_simp
               with_reducible rfl
              rotate_left
              ·simp only [Act.put,zA,zB,zC,i64_w,i32_w]
               rfl
              refine pure_ (i := 2) (N := some 15) (v := ?_) (a' := ?_) #[true,true,true,false,false,false,false,false,false,false,false,false,false,false,false,false] rfl rfl (q0m HT_.out (by kernel_rfl)) (fun _ _ _ h => h) (Or.inl ⟨by rfl,?_⟩) ?_ ?_
              rotate_left
              ·intro w'
               go_simp
               with_reducible rfl
              rotate_left
              ·simp only [Act.put,zA,zB,zC,i64_w,i32_w]
               rfl
              refine pure_ (i := 3) (N := some 16) (v := ?_) (a' := ?_) #[true,true,true,true,false,false,false,false,false,false,false,false,false,false,false,false] rfl rfl (q0m HT_.out (by kernel_rfl)) (fun _ _ _ h => h) (Or.inl ⟨by rfl,?_⟩) ?_ ?_
              rotate_left
              ·intro w'
               go_simp
               with_reducible rfl
              rotate_left
              ·simp only [Act.put,zA,zB,zC,i64_w,i32_w]
               rfl
              refine pure_ (i := 4) (N := some 17) (v := ?_) (a' := ?_) #[true,true,true,true,true,false,false,false,false,false,false,false,false,false,false,false] rfl rfl (q0m HT_.out (by kernel_rfl)) (fun _ _ _ h => h) (Or.inl ⟨by rfl,?_⟩) ?_ ?_
              rotate_left
              ·intro w'
               go_simp
               with_reducible rfl
              rotate_left
              ·simp only [Act.put,zA,zB,zC,i64_w,i32_w]
               rfl
              refine pure_ (i := 5) (N := some 18) (v := undef) (a' := ?_) #[true,true,true,true,true,true,false,false,false,false,false,false,false,false,false,false] rfl rfl (q0m HT_.out (by kernel_rfl)) (fun _ _ _ h => h) (Or.inr ⟨by rfl,rfl⟩) ?_ ?_
              rotate_left
              ·simp only [Act.put,zA,zB,zC,i64_w,i32_w]
               rfl
              refine pure_ (i := 6) (N := some 19) (v := undef) (a' := ?_) #[true,true,true,true,true,true,true,false,false,false,false,false,false,false,false,false] rfl rfl (q0m HT_.out (by kernel_rfl)) (fun _ _ _ h => h) (Or.inr ⟨by rfl,rfl⟩) ?_ ?_
              rotate_left
              ·simp only [Act.put,zA,zB,zC,i64_w,i32_w]
               rfl
              refine pure_ (i := 7) (N := some 20) (v := undef) (a' := ?_) #[true,true,true,true,true,true,true,true,false,false,false,false,false,false,false,false] rfl rfl (q0m HT_.out (by kernel_rfl)) (fun _ _ _ h => h) (Or.inr ⟨by rfl,rfl⟩) ?_ ?_
              rotate_left
              ·simp only [Act.put,zA,zB,zC,i64_w,i32_w]
               rfl
              refine pure_ (i := 8) (N := some 21) (v := undef) (a' := ?_) #[true,true,true,true,true,true,true,true,true,false,false,false,false,false,false,false] rfl rfl (q0m HT_.out (by kernel_rfl)) (fun _ _ _ h => h) (Or.inr ⟨by rfl,rfl⟩) ?_ ?_
              rotate_left
              ·simp only [Act.put,zA,zB,zC,i64_w,i32_w]
               rfl
              refine pure_ (i := 9) (N := some 22) (v := undef) (a' := ?_) #[true,true,true,true,true,true,true,true,true,true,false,false,false,false,false,false] rfl rfl (q0m HT_.out (by kernel_rfl)) (fun _ _ _ h => h) (Or.inr ⟨by rfl,rfl⟩) ?_ ?_
              rotate_left
              ·simp only [Act.put,zA,zB,zC,i64_w,i32_w]
               rfl
              refine pure_ (i := 10) (N := some 23) (v := undef) (a' := ?_) #[true,true,true,true,true,true,true,true,true,true,true,false,false,false,false,false] rfl rfl (q0m HT_.out (by kernel_rfl)) (fun _ _ _ h => h) (Or.inr ⟨by rfl,rfl⟩) ?_ ?_
              rotate_left
              ·simp only [Act.put,zA,zB,zC,i64_w,i32_w]
               rfl
              refine pure_ (i := 11) (N := some 24) (v := undef) (a' := ?_) #[true,true,true,true,true,true,true,true,true,true,true,true,false,false,false,false] rfl rfl (q0m HT_.out (by kernel_rfl)) (fun _ _ _ h => h) (Or.inr ⟨by rfl,rfl⟩) ?_ ?_
              rotate_left
              ·simp only [Act.put,zA,zB,zC,i64_w,i32_w]
               rfl
              refine pure_ (i := 12) (N := some 25) (v := undef) (a' := ?_) #[true,true,true,true,true,true,true,true,true,true,true,true,true,false,false,false] rfl rfl (q0m HT_.out (by kernel_rfl)) (fun _ _ _ h => h) (Or.inr ⟨by rfl,rfl⟩) ?_ ?_
              rotate_left
              ·simp only [Act.put,zA,zB,zC,i64_w,i32_w]
               rfl
              refine pure_ (i := 13) (N := some 26) (v := undef) (a' := ?_) #[true,true,true,true,true,true,true,true,true,true,true,true,true,true,false,false] rfl rfl (q0m HT_.out (by kernel_rfl)) (fun _ _ _ h => h) (Or.inr ⟨by rfl,rfl⟩) ?_ ?_
              rotate_left
              ·simp only [Act.put,zA,zB,zC,i64_w,i32_w]
               rfl
              refine pure_ (i := 14) (N := some 27) (v := undef) (a' := ?_) #[true,true,true,true,true,true,true,true,true,true,true,true,true,true,true,false] rfl rfl (q0m HT_.out (by kernel_rfl)) (fun _ _ _ h => h) (Or.inr ⟨by rfl,rfl⟩) ?_ ?_
              rotate_left
              ·simp only [Act.put,zA,zB,zC,i64_w,i32_w]
               rfl
              refine pure_ (i := 15) (N := some 28) (v := ?_) (a' := ?_) #[true,true,true,true,true,true,true,true,true,true,true,true,true,true,true,true] rfl rfl (q0m HT_.out (by kernel_rfl)) (fun _ _ _ h => h) (Or.inl ⟨by rfl,?_⟩) ?_ ?_
              rotate_left
              ·intro w'
               go_simp
               with_reducible rfl
              rotate_left
              ·simp only [Act.put,zA,zB,zC,i64_w,i32_w]
               rfl
              refine done_ (done_of HT_.out (by kernel_rfl)) ?_
              try go_wp2
              have n0_ := Aside0.mk (Kd.V_drew HO_0.out)
              have n1_ := Aside0.mk (Kd.N_drew HO_3.out)
              have n2_ := Aside0.mk (q0c HB.out)
              clear HO_0
              clear HO_3
              clear HB
              have HO_0 := n0_
              have HO_3 := n1_
              have HB := n2_
              clear n0_ n1_ n2_
              refine start_ (n := 15) (S := fun w' => True) (ds := []) #[false,false,false,false,false,false,false,false,false,false,false,false,false,false,false] (by kernel_rfl) rfl rfl trivial (fun hHeld => ?_);refine with_tabW verdererref02_Sort.tab8 verdererref02_Sort.bits8 (fun HT_ HW_ => ?_)
              generalize w45.drew = w47 at HO_0 HO_3 HB hHeld ⊢
              refine pure_ (i := 0) (N := some 31) (v := ?_) (a' := ?_) #[true,false,false,false,false,false,false,false,false,false,false,false,false,false,false] rfl rfl (q0m HT_.out (by kernel_rfl)) (fun _ _ _ h => h) (Or.inl ⟨by rfl,?_⟩) ?_ ?_
              rotate_left
              ·intro w'
               go_simp
               with_reducible rfl
              rotate_left
              ·simp only [Act.put,zA,zB,zC,i64_w,i32_w]
               rfl
              refine pure_ (i := 1) (N := some 32) (v := ?_) (a' := ?_) #[true,true,false,false,false,false,false,false,false,false,false,false,false,false,false] rfl rfl (q0m HT_.out (by kernel_rfl)) (fun _ _ _ h => h) (Or.inl ⟨by rfl,?_⟩) ?_ ?_
              rotate_left
              ·intro w'
               go_simp
               with_reducible rfl
              rotate_left
              ·simp only [Act.put,zA,zB,zC,i64_w,i32_w]
               rfl
              refine pure_ (i := 2) (N := some 33) (v := ?_) (a' := ?_) #[true,true,true,false,false,false,false,false,false,false,false,false,false,false,false] rfl rfl (q0m HT_.out (by kernel_rfl)) (fun _ _ _ h => h) (Or.inl ⟨by rfl,?_⟩) ?_ ?_
              rotate_left
              ·intro w'
               go_simp
               with_reducible rfl
              rotate_left
              ·simp only [Act.put,zA,zB,zC,i64_w,i32_w]
               rfl
              refine pure_ (i := 3) (N := some 34) (v := ?_) (a' := ?_) #[true,true,true,true,false,false,false,false,false,false,false,false,false,false,false] rfl rfl (q0m HT_.out (by kernel_rfl)) (fun _ _ _ h => h) (Or.inl ⟨by rfl,?_⟩) ?_ ?_
              rotate_left
              ·intro w'
               go_simp
               with_reducible rfl
              rotate_left
              ·simp only [Act.put,zA,zB,zC,i64_w,i32_w]
               rfl
              refine pure_ (i := 4) (N := some 35) (v := ?_) (a' := ?_) #[true,true,true,true,true,false,false,false,false,false,false,false,false,false,false] rfl rfl (q0m HT_.out (by kernel_rfl)) (fun _ _ _ h => h) (Or.inl ⟨by rfl,?_⟩) ?_ ?_
              rotate_left
              ·intro w'
               go_simp
               with_reducible rfl
              rotate_left
              ·simp only [Act.put,zA,zB,zC,i64_w,i32_w]
               rfl
              refine pure_ (i := 5) (N := some 36) (v := undef) (a' := ?_) #[true,true,true,true,true,true,false,false,false,false,false,false,false,false,false] rfl rfl (q0m HT_.out (by kernel_rfl)) (fun _ _ _ h => h) (Or.inr ⟨by rfl,rfl⟩) ?_ ?_
              rotate_left
              ·simp only [Act.put,zA,zB,zC,i64_w,i32_w]
               rfl
              refine pure_ (i := 6) (N := some 37) (v := undef) (a' := ?_) #[true,true,true,true,true,true,true,false,false,false,false,false,false,false,false] rfl rfl (q0m HT_.out (by kernel_rfl)) (fun _ _ _ h => h) (Or.inr ⟨by rfl,rfl⟩) ?_ ?_
              rotate_left
              ·simp only [Act.put,zA,zB,zC,i64_w,i32_w]
               rfl
              refine pure_ (i := 7) (N := some 38) (v := undef) (a' := ?_) #[true,true,true,true,true,true,true,true,false,false,false,false,false,false,false] rfl rfl (q0m HT_.out (by kernel_rfl)) (fun _ _ _ h => h) (Or.inr ⟨by rfl,rfl⟩) ?_ ?_
              rotate_left
              ·simp only [Act.put,zA,zB,zC,i64_w,i32_w]
               rfl
              refine pure_ (i := 8) (N := some 39) (v := undef) (a' := ?_) #[true,true,true,true,true,true,true,true,true,false,false,false,false,false,false] rfl rfl (q0m HT_.out (by kernel_rfl)) (fun _ _ _ h => h) (Or.inr ⟨by rfl,rfl⟩) ?_ ?_
              rotate_left
              ·simp only [Act.put,zA,zB,zC,i64_w,i32_w]
               rfl
              refine pure_ (i := 9) (N := some 40) (v := undef) (a' := ?_) #[true,true,true,true,true,true,true,true,true,true,false,false,false,false,false] rfl rfl (q0m HT_.out (by kernel_rfl)) (fun _ _ _ h => h) (Or.inr ⟨by rfl,rfl⟩) ?_ ?_
              rotate_left
              ·simp only [Act.put,zA,zB,zC,i64_w,i32_w]
               rfl
              refine pure_ (i := 10) (N := some 41) (v := undef) (a' := ?_) #[true,true,true,true,true,true,true,true,true,true,true,false,false,false,false] rfl rfl (q0m HT_.out (by kernel_rfl)) (fun _ _ _ h => h) (Or.inr ⟨by rfl,rfl⟩) ?_ ?_
              rotate_left
              ·simp only [Act.put,zA,zB,zC,i64_w,i32_w]
               rfl
              refine pure_ (i := 11) (N := some 42) (v := undef) (a' := ?_) #[true,true,true,true,true,true,true,true,true,true,true,true,false,false,false] rfl rfl (q0m HT_.out (by kernel_rfl)) (fun _ _ _ h => h) (Or.inr ⟨by rfl,rfl⟩) ?_ ?_
              rotate_left
              ·simp only [Act.put,zA,zB,zC,i64_w,i32_w]
               rfl
              refine pure_ (i := 12) (N := some 43) (v := undef) (a' := ?_) #[true,true,true,true,true,true,true,true,true,true,true,true,true,false,false] rfl rfl (q0m HT_.out (by kernel_rfl)) (fun _ _ _ h => h) (Or.inr ⟨by rfl,rfl⟩) ?_ ?_
              rotate_left
              ·simp only [Act.put,zA,zB,zC,i64_w,i32_w]
               rfl
              refine pure_ (i := 13) (N := some 44) (v := undef) (a' := ?_) #[true,true,true,true,true,true,true,true,true,true,true,true,true,true,false] rfl rfl (q0m HT_.out (by kernel_rfl)) (fun _ _ _ h => h) (Or.inr ⟨by rfl,rfl⟩) ?_ ?_
              rotate_left
              ·simp only [Act.put,zA,zB,zC,i64_w,i32_w]
               rfl
              refine pure_ (i := 14) (N := some 45) (v := ?_) (a' := ?_) #[true,true,true,true,true,true,true,true,true,true,true,true,true,true,true] rfl rfl (q0m HT_.out (by kernel_rfl)) (fun _ _ _ h => h) (Or.inl ⟨by rfl,?_⟩) ?_ ?_
              rotate_left
              ·intro w'
               go_simp
               with_reducible rfl
              rotate_left
              ·simp only [Act.put,zA,zB,zC,i64_w,i32_w]
               rfl
              refine done_ (done_of HT_.out (by kernel_rfl)) ?_
              have q48 : (x5_2 : Int) ≤ ((x3_1.length : Int) : Int) := of_decide_eq_true (by first | (with_reducible assumption) | assumption)
              obtain ⟨i048,hi048,_,hsz48,_⟩ := info_parts info22
              have hroom48 : x3_1.length ≤ co46 := (Kd.N_reads' HO_3.out).2.1
              have hC48 : Kd.F (Kd.slice 50 k50) _ _ Ao46 x3_1.length x3_1 := (Kd.V_at (base := w.heap.size) (Kd.N_V HO_3.out)).2.2
              have hcut48 := cut_to (P := Try.prog) 42 22 .i64 Try.underlying42 hi048 Ao46 x3_1.length co46 x5_2 (of_decide_eq_true (by first | (with_reducible assumption) | assumption)) q48 hroom48
              have hr48 := Kd.F_take (m := (x5_2 : Int).toNat) hC48 (by omega)
              have hy48 : y372.length = (x5_2 : Int).toNat := (by rw [Ny372.out,List.length_take];omega)
              rw [← Ny372.out] at hr48
              rw [← hy48] at hcut48
              have HO376 := Aside0.mk (show Kd.V (Kd.slice 50 k50) 22 _ w.heap.size _ (.slice Ao46 y372.length co46) y372 from Kd.V_mk (by omega) hr48)
              have HC376 := Aside0.mk (show y372.length ≤ co46 from by omega)
              clear hr48 hC48 hroom48 hi048 hsz48
              have KY48 := Aside0.mk hy48
              clear hy48
              replace q48 := eq_true q48
              try go_wp2_with (first | ((with_reducible refine gate_builtin (b := .append) (xs := #[.tmp 46,.tmp 49]) rfl ?_);at_builtin;refine Kd.N_append_rows (Kd.slice 50 k50) (w0 := w) w.heap.size rfl (.tmp 46) (.tmp 49) 42 22 (.slice none 0 0) 24 rfl Try.underlying42 info22 rfl (by decide) (by omega) (.slice none 0 0) ([] : List (List (S50))) y372 _ _ _ (fun k_ => (P0_ k_ ∨ w.heap.size ≤ k_)) (fun k_ => ((fun k_ => (P0_ k_ ∨ w.heap.size ≤ k_))) k_ ∧ some k_ ≠ (.slice none 0 0 : Value).ownBlock) rfl rfl ?aO ?aR (fun _ hk => hk) ?aF ?aB ?aS ?aL ?_;(case aR => exact (by skip;exact Kd.V_F (Kd.V_mono (ok' := (fun k_ => ((fun k_ => (P0_ k_ ∨ w.heap.size ≤ k_))) k_ ∧ some k_ ≠ (.slice none 0 0 : Value).ownBlock)) (HO376.out) (fun k_ hk => ⟨hk,(by simp [Value.ownBlock])⟩))));(case aB => exact (by repeat (first | (with_reducible first | exact HB.out | apply q0b | apply q0a | apply q0c) | exact HB.out)));(case aF => exact (fun k_ hk => (.inr (Nat.le_trans (q0g (by repeat (first | (with_reducible first | exact HB.out | apply q0b | apply q0a | apply q0c) | exact HB.out))) hk))));(case aO => exact ((Kd.N_nil _ _ _ _ (fun k_ => (P0_ k_ ∨ w.heap.size ≤ k_)))));(case aS => exact (q0g (by repeat (first | (with_reducible first | exact HB.out | apply q0b | apply q0a | apply q0c) | exact HB.out))));(case aL => have := LMc38.out;omega);intro v378 w49 ho hb hg hat;rw [← Ny377.out] at ho;have n0_ := Aside0.mk (Kd.V_afterv (Kd.V_apart_nil (by (with_reducible repeat (first | apply Kd.V_alloc | apply Kd.V_drewN | apply Kd.V_drew));exact HO_0.out)) hg hat);have n1_ := Aside0.mk (Kd.N_afterv (Kd.N_apart_nil (by (with_reducible repeat (first | apply Kd.N_alloc | apply Kd.N_drewN | apply Kd.N_drew));exact HO_3.out)) hg hat);have n2_ := Aside0.mk (Kd.V_afterv (Kd.V_apart_nil (by (with_reducible repeat (first | apply Kd.V_alloc | apply Kd.V_drewN | apply Kd.V_drew));exact HO376.out)) hg hat);have n3_ := Aside0.mk (hb);have n4_ := Aside0.mk (ho);clear HO_0;clear HO_3;clear HO376;clear HB;have HO_0 := n0_;have HO_3 := n1_;have HO376 := n2_;have HB := n3_;have HO379 := n4_;clear n0_ n1_ n2_ n3_ n4_;clear ho hb hg hat;have p380 : 0 ≤ (x4_1 : Int) := of_decide_eq_true (by first | (with_reducible assumption) | assumption);have q380 : x4_1 < (l0.length : Int) := of_decide_eq_true (by first | (with_reducible assumption) | assumption);obtain ⟨ad380,A380_0,c380_0,e380,hx380_0,hl380_0,hi380_0⟩ := at_L4 (Kd.V_reads' HO_0.out).2.2 x4_1 p380 q380;cases e380;obtain ⟨ce380,hce380,hMe380,hcc380⟩ := Kd.V_get HO_0.out [] x4_1 p380 (by first | exact q380 | exact of_decide_eq_true (by first | (with_reducible assumption) | assumption) | (have e_ := (Kd.V_reads' HO_0.out).1;omega));obtain ⟨ua380_0,uc380_0,rfl,ul380_0,ge380_0⟩ := Kd.FK_slice_open hMe380;have hv380_0 := hcc380 0 _ rfl;rw [Nat.add_zero,show ((Kd.slice 50 k50)).sz = 1 from rfl,Nat.mul_one] at hv380_0;replace hv380_0 := Option.some.inj (hv380_0.symm.trans hx380_0);injection hv380_0 with hva_ hvn_ hvc_;rw [hva_] at ge380_0;rw [hvc_] at ul380_0;have HL380_0 := Aside0.mk (show Kd.V k50 50 _ w.heap.size _ _ (rd_L4 l0 x4_1) from Kd.V_mk ul380_0 ge380_0);clear hva_ hvn_ hvc_ ge380_0 ul380_0;clear hcc380 hce380;have HR380_0 := Aside0.mk hi380_0;have HC380_0 := Aside0.mk hl380_0;clear hi380_0 hl380_0;replace p380 := eq_true p380;replace q380 := eq_true q380) | ((with_reducible refine gate_builtin (b := .append) (xs := #[.tmp 51,.tmp 56]) rfl ?_);at_builtin;refine Kd.N_append (Kd.slice 50 k50) (w0 := w) w.heap.size rfl (.tmp 51) (.tmp 56) 42 22 (.slice none 0 0) 24 rfl Try.underlying42 info22 rfl (by decide) (by omega) v378 y377 (rd_L4 l0 x4_1) [.slice A380_0 (rd_L4 l0 x4_1).length c380_0] (fun k_ => (P0_ k_ ∨ w.heap.size ≤ k_)) (fun k_ => ((fun k_ => (P0_ k_ ∨ w.heap.size ≤ k_))) k_ ∧ some k_ ≠ (v378 : Value).ownBlock) rfl rfl ?aP (fun _ hk => hk) ?aF ?aO ?aB ?aS ?aL ?_;(case aP => exact (Kd.FK_slice_mk (Kd.V_reads' (Kd.V_mono (ok' := (fun k_ => ((fun k_ => (P0_ k_ ∨ w.heap.size ≤ k_))) k_ ∧ some k_ ≠ (v378 : Value).ownBlock)) (HL380_0.out) (fun k_ hk => ⟨hk.1.1,hk.2⟩))).2.1 (Kd.V_F (Kd.V_mono (ok' := (fun k_ => ((fun k_ => (P0_ k_ ∨ w.heap.size ≤ k_))) k_ ∧ some k_ ≠ (v378 : Value).ownBlock)) (HL380_0.out) (fun k_ hk => ⟨hk.1.1,hk.2⟩)))));(case aB => exact (by repeat (first | (with_reducible first | exact HB.out | apply q0b | apply q0a | apply q0c) | exact HB.out)));(case aF => exact (fun k_ hk => (.inr (Nat.le_trans (q0g (by repeat (first | (with_reducible first | exact HB.out | apply q0b | apply q0a | apply q0c) | exact HB.out))) hk))));(case aO => exact (by (with_reducible repeat (first | apply Kd.N_alloc | apply Kd.N_drewN | apply Kd.N_drew));exact HO379.out));(case aS => exact (q0g (by repeat (first | (with_reducible first | exact HB.out | apply q0b | apply q0a | apply q0c) | exact HB.out))));(case aL => have := LMc41.out;omega);intro v382 w50 ho hb hg hat;rw [← Ny381.out] at ho;have n0_ := Aside0.mk (Kd.V_afterv (ok := (fun k_ => (P0_ k_ ∨ w.heap.size ≤ k_) ∧ some k_ ≠ (.slice Ao46 x3_1.length co46 : Value).ownBlock)) (by (with_reducible repeat (first | apply Kd.V_alloc | apply Kd.V_drewN | apply Kd.V_drew));exact HO_0.out) hg hat);have n1_ := Aside0.mk (Kd.N_afterv (ok := (fun k_ => (P0_ k_ ∨ w.heap.size ≤ k_))) (by (with_reducible repeat (first | apply Kd.N_alloc | apply Kd.N_drewN | apply Kd.N_drew));exact HO_3.out) hg hat);have n2_ := Aside0.mk (Kd.V_afterv (ok := (fun k_ => (P0_ k_ ∨ w.heap.size ≤ k_))) (by (with_reducible repeat (first | apply Kd.V_alloc | apply Kd.V_drewN | apply Kd.V_drew));exact HO376.out) hg hat);have n3_ := Aside0.mk (Kd.V_afterv (ok := (fun k_ => (P0_ k_ ∨ w.heap.size ≤ k_) ∧ some k_ ≠ (.slice Ao46 x3_1.length co46 : Value).ownBlock)) (by (with_reducible repeat (first | apply Kd.V_alloc | apply Kd.V_drewN | apply Kd.V_drew));exact HL380_0.out) hg hat);have n4_ := Aside0.mk (hb);have n5_ := Aside0.mk (ho);clear HO_0;clear HO_3;clear HO376;clear HL380_0;clear HB;clear HO379;have HO_0 := n0_;have HO_3 := n1_;have HO376 := n2_;have HL380_0 := n3_;have HB := n4_;have HO383 := n5_;clear n0_ n1_ n2_ n3_ n4_ n5_;clear ho hb hg hat;have q51 : (x5_2 : Int) ≤ ((x3_1.length : Int) : Int) := of_decide_eq_true (by first | (with_reducible assumption) | assumption);obtain ⟨i051,hi051,_,hsz51,_⟩ := info_parts info22;have hroom51 : x3_1.length ≤ co46 := (Kd.N_reads' HO_3.out).2.1;have hC51 : Kd.F (Kd.slice 50 k50) _ _ Ao46 x3_1.length x3_1 := (Kd.V_at (base := w.heap.size) (Kd.N_V HO_3.out)).2.2;have q051 : (0 : Int) ≤ (x5_2 : Int) := of_decide_eq_true (by first | (with_reducible assumption) | assumption);have hcut51 := cut_from (P := Try.prog) 42 22 .i64 Try.underlying42 hi051 1 hsz51 Ao46 x3_1.length co46 x5_2 q051 q51;have hr51 := Kd.F_cut (m := (x5_2 : Int).toNat) (c := co46) hC51 (by omega) hroom51;obtain ⟨A51,hA51⟩ : ∃ A1,A1 = (if co46 = (x5_2 : Int).toNat then Ao46 else (Ao46 : Option Addr).map (·.add ((x5_2 : Int).toNat * 1))) := ⟨_,rfl⟩;obtain ⟨c51,hc51⟩ : ∃ c1,c1 = co46 - (x5_2 : Int).toNat := ⟨_,rfl⟩;have hy51 : y384.length = x3_1.length - (x5_2 : Int).toNat := (by rw [Ny384.out,List.length_drop] <;> omega);rw [show (x3_1).drop (x5_2 : Int).toNat = y384 from Ny384.out.symm] at hr51;replace hr51 : Kd.F (Kd.slice 50 k50) _ _ A51 y384.length y384 := (by rw [hA51];exact hr51);rw [← hy51,← hA51,← hc51] at hcut51;have HO388 := Aside0.mk (show Kd.V (Kd.slice 50 k50) 22 _ w.heap.size _ (.slice A51 y384.length c51) y384 from Kd.V_mk (by rw [hy51,hc51];exact Nat.sub_le_sub_right hroom51 _) hr51);have HC388 := Aside0.mk (show y384.length ≤ c51 from by rw [hy51,hc51];exact Nat.sub_le_sub_right hroom51 _);clear hr51 hC51 hroom51 hi051 hsz51 hc51;have KY51 := Aside0.mk hy51;have KA51 := Aside0.mk hA51;clear hy51 hA51;replace q51 := eq_true q51) | ((with_reducible refine gate_builtin (b := .append) (xs := #[.tmp 58,.tmp 61]) rfl ?_);at_builtin;refine Kd.N_append_rows (Kd.slice 50 k50) (w0 := w) w.heap.size rfl (.tmp 58) (.tmp 61) 42 22 (.slice none 0 0) 24 rfl Try.underlying42 info22 rfl (by decide) (by omega) v382 y381 y384 _ _ _ (fun k_ => (P0_ k_ ∨ w.heap.size ≤ k_)) (fun k_ => ((fun k_ => (P0_ k_ ∨ w.heap.size ≤ k_))) k_ ∧ some k_ ≠ (v382 : Value).ownBlock) rfl rfl ?aO ?aR (fun _ hk => hk) ?aF ?aB ?aS ?aL ?_;(case aR => exact (by skip;exact Kd.V_F (Kd.V_mono (ok' := (fun k_ => ((fun k_ => (P0_ k_ ∨ w.heap.size ≤ k_))) k_ ∧ some k_ ≠ (v382 : Value).ownBlock)) (HO388.out) (fun k_ hk => ⟨hk.1,hk.2⟩))));(case aB => exact (by repeat (first | (with_reducible first | exact HB.out | apply q0b | apply q0a | apply q0c) | exact HB.out)));(case aF => exact (fun k_ hk => (.inr (Nat.le_trans (q0g (by repeat (first | (with_reducible first | exact HB.out | apply q0b | apply q0a | apply q0c) | exact HB.out))) hk))));(case aO => exact (by (with_reducible repeat (first | apply Kd.N_alloc | apply Kd.N_drewN | apply Kd.N_drew));exact HO383.out));(case aS => exact (q0g (by repeat (first | (with_reducible first | exact HB.out | apply q0b | apply q0a | apply q0c) | exact HB.out))));(case aL => have := LMc44.out;omega);intro v390 w52 ho hb hg hat;rw [← Ny389.out] at ho;have n0_ := Aside0.mk (Kd.V_afterv (ok := (fun k_ => (P0_ k_ ∨ w.heap.size ≤ k_) ∧ some k_ ≠ (.slice Ao46 x3_1.length co46 : Value).ownBlock)) (by (with_reducible repeat (first | apply Kd.V_alloc | apply Kd.V_drewN | apply Kd.V_drew));exact HO_0.out) hg hat);have n1_ := Aside0.mk (Kd.N_afterv (ok := (fun k_ => (P0_ k_ ∨ w.heap.size ≤ k_))) (by (with_reducible repeat (first | apply Kd.N_alloc | apply Kd.N_drewN | apply Kd.N_drew));exact HO_3.out) hg hat);have n2_ := Aside0.mk (Kd.V_afterv (ok := (fun k_ => (P0_ k_ ∨ w.heap.size ≤ k_))) (by (with_reducible repeat (first | apply Kd.V_alloc | apply Kd.V_drewN | apply Kd.V_drew));exact HO376.out) hg hat);have n3_ := Aside0.mk (Kd.V_afterv (ok := (fun k_ => (P0_ k_ ∨ w.heap.size ≤ k_) ∧ some k_ ≠ (.slice Ao46 x3_1.length co46 : Value).ownBlock)) (by (with_reducible repeat (first | apply Kd.V_alloc | apply Kd.V_drewN | apply Kd.V_drew));exact HL380_0.out) hg hat);have n4_ := Aside0.mk (Kd.V_afterv (ok := (fun k_ => (P0_ k_ ∨ w.heap.size ≤ k_))) (by (with_reducible repeat (first | apply Kd.V_alloc | apply Kd.V_drewN | apply Kd.V_drew));exact HO388.out) hg hat);have n5_ := Aside0.mk (hb);have n6_ := Aside0.mk (ho);clear HO_0;clear HO_3;clear HO376;clear HL380_0;clear HO388;clear HB;clear HO383;have HO_0 := n0_;have HO_3 := n1_;have HO376 := n2_;have HL380_0 := n3_;have HO388 := n4_;have HB := n5_;have HO391 := n6_;clear n0_ n1_ n2_ n3_ n4_ n5_ n6_;clear ho hb hg hat))
              go_roundg k2
              case measure => have := HK1.out;have := HK2.out;omega
              case rel => exact ⟨(y389),(wrap64 (x4_1 + 1)),(by first | rfl | (simp;done) | (simp [*];done)),H',⟨by have := HK1.out;have := HK2.out;omega⟩,⟨by (with_reducible repeat (first | apply Kd.V_alloc | apply Kd.V_drewN | apply Kd.V_drew));exact Kd.V_mono HO_0.out (fun _ hk => ⟨hk.1.1,hk.2⟩)⟩,⟨by (with_reducible repeat (first | apply Kd.N_alloc | apply Kd.N_drewN | apply Kd.N_drew));exact HO391.out⟩,⟨by repeat (first | (with_reducible first | exact HB.out | apply q0b | apply q0a | apply q0c) | exact HB.out)⟩⟩
             ·rw [if_neg c44] at H
              exact absurd H (by simp)
            ·rw [if_neg c41] at H
             exact absurd H (by simp)
           ·rw [if_neg c40] at H
            exact absurd H (by simp)
          ·rw [if_neg c39] at H
           exact absurd H (by simp)
         ·rw [if_neg c38] at H
          exact absurd H (by simp)
        ·rw [if_neg c37] at H
         exact absurd H (by simp)
       ·rw [if_neg c36] at H
        exact absurd H (by simp)
   ·rw [if_neg c2] at H
    have c2b0 : decide (x4_1 < (l0.length : Int)) = false := decide_eq_false c2
    clear c2
    obtain rfl := Option.some.inj H
    go_wp2
    go_ret
    exact ⟨_,by first | rfl | (simp [q0n,q0o] <;> rfl) | (simp [*,q0n,q0o] <;> rfl),by (with_reducible repeat (first | apply Kd.N_alloc | apply Kd.N_drewN | apply Kd.N_drew));exact HO_3.out,by repeat (first | (with_reducible first | exact HB.out | apply q0b | apply q0a | apply q0c) | exact HB.out)⟩
end Go.Proofs.Ytfoaeigoajooeaa.Z
end
section
namespace Go.Proofs.Ytfoaeigoajooeaa.Z
open Go.RowKit Go.Proofs.YtfoaeigoajooeaaW.PrintWords Go.Proofs.YtfoaeigoajooeaaW.PrintLast Go.Proofs.YtfoaeigoajooeaaW.PrintMore
attribute [local go_sem] max2_int min2_int max_two min_two max_three min_three max_four min_four
set_option linter.unusedVariables false
set_option linter.unusedSimpArgs false
def verdererref02_Alike.l0 : Nat → List (List (S50)) → List (List (S50)) → Int → Option (Bool)
 | 0,_,_,_ => none
 | k + 1,x0,x1,x5 => if x5 < (x0.length : Int) then (if 0 ≤ x5 then (if x5 < (x1.length : Int) then ((verdererref02_Equal.f k (rd_L4 x0 x5) (rd_L4 x1 x5)).bind fun t345 => (if t345 = true then (verdererref02_Alike.l0 k x0 x1 (wrap64 (x5 + 1))) else (some false))) else (none)) else (none)) else (some true)
def verdererref02_Alike.f (k : Nat) (l0 : List (List (S50))) (l1 : List (List (S50))) : Option (Bool) := if (l0.length : Int) = (l1.length : Int) then (verdererref02_Alike.l0 k l0 l1 0) else (some false)
theorem verdererref02_Alike.mono_l : ∀ k,(∀ y0 y1 y2,LeO (verdererref02_Alike.l0 k y0 y1 y2) (verdererref02_Alike.l0 (k + 1) y0 y1 y2))
 | 0 => fun _ _ _ r h => by simp [verdererref02_Alike.l0] at h
 | k + 1 => by
  have ih0 := verdererref02_Alike.mono_l k
  ·intro y0 y1 y2
   unfold verdererref02_Alike.l0
   repeat' first
   | (with_reducible exact ih0 _ _ _)
   | (with_reducible exact verdererref02_Equal.mono _ _ _)
   | (with_reducible exact LeO.refl _)
   | (with_reducible exact LeO.none _)
   | (with_reducible refine LeO.ite ?_ ?_)
   | (with_reducible refine LeO.bind ?_ (fun _ => ?_))
   | exact ih0 _ _ _
   | exact verdererref02_Equal.mono _ _ _
   | exact LeO.none _
   | refine LeO.ite ?_ ?_
   | refine LeO.bind ?_ (fun _ => ?_)
theorem verdererref02_Alike.mono : ∀ a0 a1 k,LeO (verdererref02_Alike.f k a0 a1) (verdererref02_Alike.f (k + 1) a0 a1) := by
 intro a0 a1 k
 have ih0 := verdererref02_Alike.mono_l k
 unfold verdererref02_Alike.f
 repeat' first
   | (with_reducible exact ih0 _ _ _)
   | (with_reducible exact verdererref02_Equal.mono _ _ _)
   | (with_reducible exact LeO.refl _)
   | (with_reducible exact LeO.none _)
   | (with_reducible refine LeO.ite ?_ ?_)
   | (with_reducible refine LeO.bind ?_ (fun _ => ?_))
   | exact ih0 _ _ _
   | exact verdererref02_Equal.mono _ _ _
   | exact LeO.none _
   | refine LeO.ite ?_ ?_
   | refine LeO.bind ?_ (fun _ => ?_)
set_option maxHeartbeats 8000000 in
set_option maxRecDepth 100000 in
theorem verdererref02_Alike.calls (k : Nat) (A0 : Option Addr) (c0 : Nat) (l0 : List (List (S50))) (A1 : Option Addr) (c1 : Nat) (l1 : List (List (S50))) (r : Bool) (w : World) (hr0 : Kd.C (Kd.slice 50 k50) w A0 l0.length l0) (hc0 : l0.length ≤ c0) (hr1 : Kd.C (Kd.slice 50 k50) w A1 l1.length l1) (hc1 : l1.length ≤ c1) (h : verdererref02_Alike.f k l0 l1 = some r) :
  Calls Try.prog 28 #[.slice A0 l0.length c0,.slice A1 l1.length c1] w fun e w' => e = .returned (.bool r) ∧ Drawn0 w w' := by
 have HR0 := Aside0.mk hr0
 have HC0 := Aside0.mk hc0
 clear hr0 hc0
 have HR1 := Aside0.mk hr1
 have HC1 := Aside0.mk hc1
 clear hr1 hc1
 have H : (if (l0.length : Int) = (l1.length : Int) then (verdererref02_Alike.l0 k l0 l1 0) else (some false)) = some r := h
 clear h
 by_cases c3 : (l0.length : Int) = (l1.length : Int)
 ·rw [if_pos c3] at H
  have c3b0 : ((l0.length : Int) == (l1.length : Int)) = true := beq_iff_eq.mpr c3
  have c3b1 : ((l0.length : Int) != (l1.length : Int)) = false := bne_eq_false_iff_eq.mpr c3
  have c3b2 : (l0.length == l1.length) = true := by first | simpa using c3 | (simp at c3 ⊢;omega)
  clear c3
  have H' := Aside0.mk H
  clear H
  go_enter Try.func28,Try.ntmps28
  go_wp2
  repeat (go_quiet (fail);try go_wp2)
  go_loopg [5] k (fun kq v5 w' => ∃ (x5_1 : Int),v5 = .int .i64 x5_1 ∧ Aside0 (verdererref02_Alike.l0 kq l0 l1 x5_1 = some r) ∧ Aside0 (kq ≤ k) ∧ Drawn0 w w')
  case atStart => exact ⟨(0),(by first | rfl | (simp;done) | (simp [*];done)),H',⟨Nat.le_refl _⟩,by repeat (first | exact Drawn0.refl _ | apply Drawn0.step)⟩
  case round =>
   clear H'
   try clear c1
   try clear c2
   try clear p2
   try clear c3
   try clear c3b0
   try clear c3b1
   try clear c3b2
   obtain ⟨x5_1,rfl,HA,HK1,⟨m1,rfl⟩⟩ := hrel
   cases gk with
   | zero => exact absurd HA.out (by simp [verdererref02_Alike.l0])
   | succ k1 =>
    have H := HA.out
    clear HA
    simp only [verdererref02_Alike.l0] at H
    by_cases c4 : x5_1 < (l0.length : Int)
    ·rw [if_pos c4] at H
     have c4b0 : decide (x5_1 < (l0.length : Int)) = true := decide_eq_true c4
     clear c4
     by_cases c5 : 0 ≤ x5_1
     ·rw [if_pos c5] at H
      have c5b0 : decide (0 ≤ x5_1) = true := decide_eq_true c5
      clear c5
      by_cases c6 : x5_1 < (l1.length : Int)
      ·rw [if_pos c6] at H
       have c6b0 : decide (x5_1 < (l1.length : Int)) = true := decide_eq_true c6
       clear c6
       replace H := Option.bind_eq_some_iff.mp H
       obtain ⟨t345,A70,H⟩ := H
       replace H : (if t345 = true then (verdererref02_Alike.l0 k1 l0 l1 (wrap64 (x5_1 + 1))) else (some false)) = some r := H
       have A7 := Aside0.mk A70
       clear A70
       by_cases c8 : t345 = true
       ·subst c8
        have H1 : (verdererref02_Alike.l0 k1 l0 l1 (wrap64 (x5_1 + 1))) = some r := by rw [if_pos rfl] at H;exact H
        clear H
        have H := H1
        clear H1
        have H' := Aside0.mk H
        clear H
        have p343 : 0 ≤ (x5_1 : Int) := of_decide_eq_true (by first | (with_reducible assumption) | assumption)
        have q343 : x5_1 < (l0.length : Int) := of_decide_eq_true (by first | (with_reducible assumption) | assumption)
        obtain ⟨ad343,A343_0,c343_0,e343,hx343_0,hl343_0,hi343_0⟩ := at_L4 HR0.out x5_1 p343 q343
        cases e343
        have HR343_0 := Aside0.mk hi343_0
        have HC343_0 := Aside0.mk hl343_0
        clear hi343_0 hl343_0
        replace p343 := eq_true p343
        replace q343 := eq_true q343
        have p344 : 0 ≤ (x5_1 : Int) := of_decide_eq_true (by first | (with_reducible assumption) | assumption)
        have q344 : x5_1 < (l1.length : Int) := of_decide_eq_true (by first | (with_reducible assumption) | assumption)
        obtain ⟨ad344,A344_0,c344_0,e344,hx344_0,hl344_0,hi344_0⟩ := at_L4 HR1.out x5_1 p344 q344
        cases e344
        have HR344_0 := Aside0.mk hi344_0
        have HC344_0 := Aside0.mk hl344_0
        clear hi344_0 hl344_0
        replace p344 := eq_true p344
        replace q344 := eq_true q344
        go_wp2_with (first | (go_at_call 16;(with_reducible refine (verdererref02_Equal.calls k1 _ _ (rd_L4 l0 x5_1) _ _ (rd_L4 l1 x5_1) true _ ?side1 ?side2 ?side3 ?side4 A7.out).mono ?_);(case side1 => repeat (first | exact HR343_0.out | (with_reducible refine Kd.C_alloc ?_ _) | (with_reducible refine Kd.C_drewN ?_ _) | (with_reducible refine Kd.C_drew ?_)));(case side2 => exact HC343_0.out);(case side3 => repeat (first | exact HR344_0.out | (with_reducible refine Kd.C_alloc ?_ _) | (with_reducible refine Kd.C_drewN ?_ _) | (with_reducible refine Kd.C_drew ?_)));(case side4 => exact HC344_0.out);rintro e w' ⟨rfl,⟨nd,rfl⟩⟩;(try first | exact ⟨rfl,_,World.drewN_drewN _ _ _⟩ | exact ⟨rfl,_,Eq.trans (World.drewN_drewN _ _ _) (congrArg (World.drewN _) (Nat.add_assoc _ _ _))⟩)))
        repeat (go_quiet (first | (go_at_call 16;(with_reducible refine (verdererref02_Equal.calls k1 _ _ (rd_L4 l0 x5_1) _ _ (rd_L4 l1 x5_1) true _ ?side1 ?side2 ?side3 ?side4 A7.out).mono ?_);(case side1 => repeat (first | exact HR343_0.out | (with_reducible refine Kd.C_alloc ?_ _) | (with_reducible refine Kd.C_drewN ?_ _) | (with_reducible refine Kd.C_drew ?_)));(case side2 => exact HC343_0.out);(case side3 => repeat (first | exact HR344_0.out | (with_reducible refine Kd.C_alloc ?_ _) | (with_reducible refine Kd.C_drewN ?_ _) | (with_reducible refine Kd.C_drew ?_)));(case side4 => exact HC344_0.out);rintro e w' ⟨rfl,⟨nd,rfl⟩⟩;(try first | exact ⟨rfl,_,World.drewN_drewN _ _ _⟩ | exact ⟨rfl,_,Eq.trans (World.drewN_drewN _ _ _) (congrArg (World.drewN _) (Nat.add_assoc _ _ _))⟩)));try go_wp2_with (first | (go_at_call 16;(with_reducible refine (verdererref02_Equal.calls k1 _ _ (rd_L4 l0 x5_1) _ _ (rd_L4 l1 x5_1) true _ ?side1 ?side2 ?side3 ?side4 A7.out).mono ?_);(case side1 => repeat (first | exact HR343_0.out | (with_reducible refine Kd.C_alloc ?_ _) | (with_reducible refine Kd.C_drewN ?_ _) | (with_reducible refine Kd.C_drew ?_)));(case side2 => exact HC343_0.out);(case side3 => repeat (first | exact HR344_0.out | (with_reducible refine Kd.C_alloc ?_ _) | (with_reducible refine Kd.C_drewN ?_ _) | (with_reducible refine Kd.C_drew ?_)));(case side4 => exact HC344_0.out);rintro e w' ⟨rfl,⟨nd,rfl⟩⟩;(try first | exact ⟨rfl,_,World.drewN_drewN _ _ _⟩ | exact ⟨rfl,_,Eq.trans (World.drewN_drewN _ _ _) (congrArg (World.drewN _) (Nat.add_assoc _ _ _))⟩))))
        go_roundg k1
        case measure => have := HK1.out;omega
        case rel => exact ⟨(wrap64 (x5_1 + 1)),(by first | rfl | (simp;done) | (simp [*];done)),H',⟨by have := HK1.out;omega⟩,by repeat (first | exact Drawn0.refl _ | apply Drawn0.step)⟩
       ·replace c8 := Bool.eq_false_iff.mpr c8
        subst c8
        have H1 : (some false) = some r := by rw [if_neg (show ¬ (false = true) by decide)] at H;exact H
        clear H
        have H := H1
        clear H1
        obtain rfl := Option.some.inj H
        have p343 : 0 ≤ (x5_1 : Int) := of_decide_eq_true (by first | (with_reducible assumption) | assumption)
        have q343 : x5_1 < (l0.length : Int) := of_decide_eq_true (by first | (with_reducible assumption) | assumption)
        obtain ⟨ad343,A343_0,c343_0,e343,hx343_0,hl343_0,hi343_0⟩ := at_L4 HR0.out x5_1 p343 q343
        cases e343
        have HR343_0 := Aside0.mk hi343_0
        have HC343_0 := Aside0.mk hl343_0
        clear hi343_0 hl343_0
        replace p343 := eq_true p343
        replace q343 := eq_true q343
        have p344 : 0 ≤ (x5_1 : Int) := of_decide_eq_true (by first | (with_reducible assumption) | assumption)
        have q344 : x5_1 < (l1.length : Int) := of_decide_eq_true (by first | (with_reducible assumption) | assumption)
        obtain ⟨ad344,A344_0,c344_0,e344,hx344_0,hl344_0,hi344_0⟩ := at_L4 HR1.out x5_1 p344 q344
        cases e344
        have HR344_0 := Aside0.mk hi344_0
        have HC344_0 := Aside0.mk hl344_0
        clear hi344_0 hl344_0
        replace p344 := eq_true p344
        replace q344 := eq_true q344
        go_wp2_with (first | (go_at_call 16;(with_reducible refine (verdererref02_Equal.calls k1 _ _ (rd_L4 l0 x5_1) _ _ (rd_L4 l1 x5_1) false _ ?side1 ?side2 ?side3 ?side4 A7.out).mono ?_);(case side1 => repeat (first | exact HR343_0.out | (with_reducible refine Kd.C_alloc ?_ _) | (with_reducible refine Kd.C_drewN ?_ _) | (with_reducible refine Kd.C_drew ?_)));(case side2 => exact HC343_0.out);(case side3 => repeat (first | exact HR344_0.out | (with_reducible refine Kd.C_alloc ?_ _) | (with_reducible refine Kd.C_drewN ?_ _) | (with_reducible refine Kd.C_drew ?_)));(case side4 => exact HC344_0.out);rintro e w' ⟨rfl,⟨nd,rfl⟩⟩;(try first | exact ⟨rfl,_,World.drewN_drewN _ _ _⟩ | exact ⟨rfl,_,Eq.trans (World.drewN_drewN _ _ _) (congrArg (World.drewN _) (Nat.add_assoc _ _ _))⟩)))
        repeat (go_quiet (first | (go_at_call 16;(with_reducible refine (verdererref02_Equal.calls k1 _ _ (rd_L4 l0 x5_1) _ _ (rd_L4 l1 x5_1) false _ ?side1 ?side2 ?side3 ?side4 A7.out).mono ?_);(case side1 => repeat (first | exact HR343_0.out | (with_reducible refine Kd.C_alloc ?_ _) | (with_reducible refine Kd.C_drewN ?_ _) | (with_reducible refine Kd.C_drew ?_)));(case side2 => exact HC343_0.out);(case side3 => repeat (first | exact HR344_0.out | (with_reducible refine Kd.C_alloc ?_ _) | (with_reducible refine Kd.C_drewN ?_ _) | (with_reducible refine Kd.C_drew ?_)));(case side4 => exact HC344_0.out);rintro e w' ⟨rfl,⟨nd,rfl⟩⟩;(try first | exact ⟨rfl,_,World.drewN_drewN _ _ _⟩ | exact ⟨rfl,_,Eq.trans (World.drewN_drewN _ _ _) (congrArg (World.drewN _) (Nat.add_assoc _ _ _))⟩)));try go_wp2_with (first | (go_at_call 16;(with_reducible refine (verdererref02_Equal.calls k1 _ _ (rd_L4 l0 x5_1) _ _ (rd_L4 l1 x5_1) false _ ?side1 ?side2 ?side3 ?side4 A7.out).mono ?_);(case side1 => repeat (first | exact HR343_0.out | (with_reducible refine Kd.C_alloc ?_ _) | (with_reducible refine Kd.C_drewN ?_ _) | (with_reducible refine Kd.C_drew ?_)));(case side2 => exact HC343_0.out);(case side3 => repeat (first | exact HR344_0.out | (with_reducible refine Kd.C_alloc ?_ _) | (with_reducible refine Kd.C_drewN ?_ _) | (with_reducible refine Kd.C_drew ?_)));(case side4 => exact HC344_0.out);rintro e w' ⟨rfl,⟨nd,rfl⟩⟩;(try first | exact ⟨rfl,_,World.drewN_drewN _ _ _⟩ | exact ⟨rfl,_,Eq.trans (World.drewN_drewN _ _ _) (congrArg (World.drewN _) (Nat.add_assoc _ _ _))⟩))))
        go_ret
        exact ⟨by first | rfl | (simp;done) | (simp [*];done),by repeat (first | exact Drawn0.refl _ | apply Drawn0.step)⟩
      ·rw [if_neg c6] at H
       exact absurd H (by simp)
     ·rw [if_neg c5] at H
      exact absurd H (by simp)
    ·rw [if_neg c4] at H
     have c4b0 : decide (x5_1 < (l0.length : Int)) = false := decide_eq_false c4
     clear c4
     obtain rfl := Option.some.inj H
     go_wp2
     repeat (go_quiet (fail);try go_wp2)
     go_ret
     exact ⟨by first | rfl | (simp;done) | (simp [*];done),by repeat (first | exact Drawn0.refl _ | apply Drawn0.step)⟩
 ·rw [if_neg c3] at H
  have c3b0 : ((l0.length : Int) == (l1.length : Int)) = false := beq_eq_false_iff_ne.mpr c3
  have c3b1 : ((l0.length : Int) != (l1.length : Int)) = true := bne_iff_ne.mpr c3
  have c3b2 : (l0.length == l1.length) = false := by first | simpa using c3 | (simp at c3 ⊢;omega)
  obtain rfl := Option.some.inj H
  go_enter Try.func28,Try.ntmps28
  go_wp2
  repeat (go_quiet (fail);try go_wp2)
  go_ret
  exact ⟨by first | rfl | (simp;done) | (simp [*];done),by repeat (first | exact Drawn0.refl _ | apply Drawn0.step)⟩
end Go.Proofs.Ytfoaeigoajooeaa.Z
end
section
namespace Go.Proofs.Ytfoaeigoajooeaa.Z
open Go.RowKit Go.Proofs.YtfoaeigoajooeaaW.PrintWords Go.Proofs.YtfoaeigoajooeaaW.PrintLast Go.Proofs.YtfoaeigoajooeaaW.PrintMore
attribute [local go_sem] max2_int min2_int max_two min_two max_three min_three max_four min_four
set_option linter.unusedVariables false
set_option linter.unusedSimpArgs false
def verdererlaw02_few.l0 : Nat → List (List (S50)) → Int → Option (Bool)
 | 0,_,_ => none
 | k + 1,x0,x3 => if x3 < (x0.length : Int) then (if 0 ≤ x3 then (if ((rd_L4 x0 x3).length : Int) > 60 then (some false) else (verdererlaw02_few.l0 k x0 (wrap64 (x3 + 1)))) else (none)) else (some true)
def verdererlaw02_few.f (k : Nat) (l0 : List (List (S50))) : Option (Bool) := if (l0.length : Int) > 100 then (some false) else (verdererlaw02_few.l0 k l0 0)
theorem verdererlaw02_few.mono_l : ∀ k,(∀ y0 y1,LeO (verdererlaw02_few.l0 k y0 y1) (verdererlaw02_few.l0 (k + 1) y0 y1))
 | 0 => fun _ _ r h => by simp [verdererlaw02_few.l0] at h
 | k + 1 => by
  have ih0 := verdererlaw02_few.mono_l k
  ·intro y0 y1
   unfold verdererlaw02_few.l0
   repeat' first
   | (with_reducible exact ih0 _ _)
   | (with_reducible exact LeO.refl _)
   | (with_reducible exact LeO.none _)
   | (with_reducible refine LeO.ite ?_ ?_)
   | (with_reducible refine LeO.bind ?_ (fun _ => ?_))
   | exact ih0 _ _
   | exact LeO.none _
   | refine LeO.ite ?_ ?_
   | refine LeO.bind ?_ (fun _ => ?_)
theorem verdererlaw02_few.mono : ∀ a0 k,LeO (verdererlaw02_few.f k a0) (verdererlaw02_few.f (k + 1) a0) := by
 intro a0 k
 have ih0 := verdererlaw02_few.mono_l k
 unfold verdererlaw02_few.f
 repeat' first
   | (with_reducible exact ih0 _ _)
   | (with_reducible exact LeO.refl _)
   | (with_reducible exact LeO.none _)
   | (with_reducible refine LeO.ite ?_ ?_)
   | (with_reducible refine LeO.bind ?_ (fun _ => ?_))
   | exact ih0 _ _
   | exact LeO.none _
   | refine LeO.ite ?_ ?_
   | refine LeO.bind ?_ (fun _ => ?_)
set_option maxHeartbeats 8000000 in
set_option maxRecDepth 100000 in
theorem verdererlaw02_few.calls (k : Nat) (A0 : Option Addr) (c0 : Nat) (l0 : List (List (S50))) (r : Bool) (w : World) (hr0 : Kd.C (Kd.slice 50 k50) w A0 l0.length l0) (hc0 : l0.length ≤ c0) (h : verdererlaw02_few.f k l0 = some r) :
  Calls Try.prog 27 #[.slice A0 l0.length c0] w fun e w' => e = .returned (.bool r) ∧ Drawn0 w w' := by
 have HR0 := Aside0.mk hr0
 have HC0 := Aside0.mk hc0
 clear hr0 hc0
 have H : (if (l0.length : Int) > 100 then (some false) else (verdererlaw02_few.l0 k l0 0)) = some r := h
 clear h
 by_cases c2 : (l0.length : Int) > 100
 ·rw [if_pos c2] at H
  have c2b0 : decide (100 < (l0.length : Int)) = true := decide_eq_true c2
  have c2b1 : decide (100 < l0.length) = true := decide_eq_true (by omega)
  clear c2
  obtain rfl := Option.some.inj H
  go_enter Try.func27,Try.ntmps27
  go_wp2
  go_ret
  exact ⟨by first | rfl | (simp;done) | (simp [*];done),by repeat (first | exact Drawn0.refl _ | apply Drawn0.step)⟩
 ·rw [if_neg c2] at H
  have c2b0 : decide (100 < (l0.length : Int)) = false := decide_eq_false c2
  have c2b1 : decide (100 < l0.length) = false := decide_eq_false (by omega)
  clear c2
  have H' := Aside0.mk H
  clear H
  go_enter Try.func27,Try.ntmps27
  go_wp2
  go_loopg [3] k (fun kq v3 w' => ∃ (x3_1 : Int),v3 = .int .i64 x3_1 ∧ Aside0 (verdererlaw02_few.l0 kq l0 x3_1 = some r) ∧ Aside0 (kq ≤ k) ∧ Drawn0 w w')
  case atStart => exact ⟨(0),(by first | rfl | (simp;done) | (simp [*];done)),H',⟨Nat.le_refl _⟩,by repeat (first | exact Drawn0.refl _ | apply Drawn0.step)⟩
  case round =>
   clear H'
   try clear c2
   try clear c2b0
   try clear c2b1
   try clear p2
   obtain ⟨x3_1,rfl,HA,HK1,⟨m1,rfl⟩⟩ := hrel
   cases gk with
   | zero => exact absurd HA.out (by simp [verdererlaw02_few.l0])
   | succ k1 =>
    have H := HA.out
    clear HA
    simp only [verdererlaw02_few.l0] at H
    by_cases c3 : x3_1 < (l0.length : Int)
    ·rw [if_pos c3] at H
     have c3b0 : decide (x3_1 < (l0.length : Int)) = true := decide_eq_true c3
     clear c3
     by_cases c4 : 0 ≤ x3_1
     ·rw [if_pos c4] at H
      have c4b0 : decide (0 ≤ x3_1) = true := decide_eq_true c4
      clear c4
      by_cases c5 : ((rd_L4 l0 x3_1).length : Int) > 60
      ·rw [if_pos c5] at H
       have c5b0 : decide (60 < ((rd_L4 l0 x3_1).length : Int)) = true := decide_eq_true c5
       have c5b1 : decide (60 < (rd_L4 l0 x3_1).length) = true := decide_eq_true (by omega)
       clear c5
       obtain rfl := Option.some.inj H
       have p342 : 0 ≤ (x3_1 : Int) := of_decide_eq_true (by first | (with_reducible assumption) | assumption)
       have q342 : x3_1 < (l0.length : Int) := of_decide_eq_true (by first | (with_reducible assumption) | assumption)
       obtain ⟨ad342,A342_0,c342_0,e342,hx342_0,hl342_0,hi342_0⟩ := at_L4 HR0.out x3_1 p342 q342
       cases e342
       have HR342_0 := Aside0.mk hi342_0
       have HC342_0 := Aside0.mk hl342_0
       clear hi342_0 hl342_0
       replace p342 := eq_true p342
       replace q342 := eq_true q342
       go_wp2
       go_ret
       exact ⟨by first | rfl | (simp;done) | (simp [*];done),by repeat (first | exact Drawn0.refl _ | apply Drawn0.step)⟩
      ·rw [if_neg c5] at H
       have c5b0 : decide (60 < ((rd_L4 l0 x3_1).length : Int)) = false := decide_eq_false c5
       have c5b1 : decide (60 < (rd_L4 l0 x3_1).length) = false := decide_eq_false (by omega)
       clear c5
       have H' := Aside0.mk H
       clear H
       have p342 : 0 ≤ (x3_1 : Int) := of_decide_eq_true (by first | (with_reducible assumption) | assumption)
       have q342 : x3_1 < (l0.length : Int) := of_decide_eq_true (by first | (with_reducible assumption) | assumption)
       obtain ⟨ad342,A342_0,c342_0,e342,hx342_0,hl342_0,hi342_0⟩ := at_L4 HR0.out x3_1 p342 q342
       cases e342
       have HR342_0 := Aside0.mk hi342_0
       have HC342_0 := Aside0.mk hl342_0
       clear hi342_0 hl342_0
       replace p342 := eq_true p342
       replace q342 := eq_true q342
       go_wp2
       go_roundg k1
       case measure => have := HK1.out;omega
       case rel => exact ⟨(wrap64 (x3_1 + 1)),(by first | rfl | (simp;done) | (simp [*];done)),H',⟨by have := HK1.out;omega⟩,by repeat (first | exact Drawn0.refl _ | apply Drawn0.step)⟩
     ·rw [if_neg c4] at H
      exact absurd H (by simp)
    ·rw [if_neg c3] at H
     have c3b0 : decide (x3_1 < (l0.length : Int)) = false := decide_eq_false c3
     clear c3
     obtain rfl := Option.some.inj H
     go_wp2
     go_ret
     exact ⟨by first | rfl | (simp;done) | (simp [*];done),by repeat (first | exact Drawn0.refl _ | apply Drawn0.step)⟩
end Go.Proofs.Ytfoaeigoajooeaa.Z
end
section
namespace Go.Proofs.Ytfoaeigoajooeaa.Z
set_option linter.unusedVariables false
set_option linter.unusedSimpArgs false
open Go.RowKit Go.Proofs.YtfoaeigoajooeaaW.PrintWords Go.Proofs.YtfoaeigoajooeaaW.PrintLast Go.Proofs.YtfoaeigoajooeaaW.PrintMore Go.Proofs.Ytfoaeigoajooeaa.Cmp
def PrM (M : Nat) (r : List S50) : Prop := r.length ≤ 60 ∧ ∀ x ∈ r,x.f3.size ≤ M
theorem rdL_get (l : List (List S50)) (i : Nat) (h : i < l.length) : rd_L4 l (i : Int) = l[i] := by
 show l.getD (i : Int).toNat [] = _
 rw [Int.toNat_natCast,List.getD_eq_getElem?_getD,List.getElem?_eq_getElem h]
 rfl
theorem wrapS (i : Nat) (h : i ≤ 1000000) : wrap64 ((i : Int) + 1) = ((i + 1 : Nat) : Int) := by unfold wrap64;omega
theorem refSort_l1 (x0 : List (List S50)) (i : Nat) (hi : i < x0.length) (h0 : x0.length ≤ 100) (M : Nat) (hM : M ≤ 9223372036854775807) (hP : ∀ r ∈ x0,PrM M r) (out : List (List S50)) (ho : ∀ r ∈ out,PrM M r) (hol : out.length ≤ 100) (R : List (List S50)) (K : Nat) (hK : 2 * M + 200 ≤ K)
  (H : ∀ k',K ≤ k' → verdererref02_Sort.l0 k' x0 (insE rcmp (rd_L4 x0 i) out) ((i + 1 : Nat) : Int) = some R) :
  ∀ d j k,out.length - j = d → j ≤ out.length → insE rcmp (rd_L4 x0 i) out = out.take j ++ insE rcmp (rd_L4 x0 i) (out.drop j) → K + d < k → verdererref02_Sort.l1 k x0 out (i : Int) (j : Int) = some R := by
 intro d
 induction d with
 | zero =>
  intro j k hd hj hE hk
  obtain ⟨k,rfl⟩ : ∃ m,k = m + 1 := ⟨k - 1,by omega⟩
  have e0 : out.drop j = [] := List.drop_eq_nil_of_le (by omega)
  have e1 : out.take j = out := List.take_of_length_le (by omega)
  rw [e0,e1] at hE
  simp only [verdererref02_Sort.l1]
  rw [if_neg (by omega),if_pos (by omega),if_pos (by omega)]
  simp only [Option.bind_some,Int.toNat_natCast,e0,e1,List.nil_append,List.length_nil,List.append_nil,Nat.zero_add]
  rw [if_pos (by omega),if_pos (by omega),if_pos (by omega),if_pos (by omega)]
  simp only [List.length_append,List.length_singleton,Nat.add_zero]
  rw [if_pos (by omega),wrapS i (by omega)]
  have := H k (by omega)
  rw [hE] at this
  exact this
 | succ d ih =>
  intro j k hd hj hE hk
  obtain ⟨k,rfl⟩ : ∃ m,k = m + 1 := ⟨k - 1,by omega⟩
  have hlt : j < out.length := by omega
  have ey : rd_L4 out (j : Int) = out[j] := rdL_get out j hlt
  have hdrop : out.drop j = out[j] :: out.drop (j + 1) := List.drop_eq_getElem_cons hlt
  have hy := ho _ (List.getElem_mem hlt)
  have hcmp : verdererref02_Compare.f k out[j] (rd_L4 x0 i) = some (rcmp out[j] (rd_L4 x0 i)) := refCompare_f _ _ (by have := hy.1;omega) M hy.2 hM k (by have := hy.1;omega)
  have q1 : (j : Int) < (out.length : Int) := by omega
  have q2 : (0 : Int) ≤ (j : Int) := by omega
  have q3 : (0 : Int) ≤ (i : Int) := by omega
  have q4 : (i : Int) < (x0.length : Int) := by omega
  simp only [verdererref02_Sort.l1]
  rw [if_pos q1]
  rw [if_pos q2]
  rw [if_pos q3]
  rw [if_pos q4]
  rw [ey]
  rw [hcmp]
  simp only [Option.bind_some]
  rw [hdrop] at hE
  simp only [insE] at hE
  by_cases c : rcmp out[j] (rd_L4 x0 i) < 0
  ·rw [if_pos c,wrapS j (by omega)]
   rw [if_pos c] at hE
   refine ih (j + 1) k (by omega) (by omega) ?_ (by omega)
   rw [hE,List.take_add_one,List.getElem?_eq_getElem hlt,Option.toList_some,List.append_assoc]
   rfl
  ·rw [if_neg c]
   rw [if_neg c] at hE
   unfold verdererref02_Same.f
   rw [hcmp]
   simp only [Option.bind_some]
   by_cases e : rcmp out[j] (rd_L4 x0 i) = 0
   ·rw [if_pos (by rw [e];rfl),wrapS i (by omega)]
    rw [if_pos e,← hdrop,List.take_append_drop] at hE
    have := H k (by omega)
    rw [hE] at this
    exact this
   ·rw [if_neg (by simpa using e),if_pos (by omega)]
    rw [if_neg e] at hE
    simp only [Option.bind_some,Int.toNat_natCast,List.nil_append,List.length_nil,Nat.zero_add,List.length_take,List.length_append,List.length_singleton,List.length_drop]
    rw [if_pos (by omega),if_pos (by omega),if_pos (by omega),wrapS i (by omega)]
    have := H k (by omega)
    rw [hE] at this
    rw [hdrop,List.append_assoc]
    exact this
theorem refSort_l0 (x0 : List (List S50)) (h0 : x0.length ≤ 100) (M : Nat) (hM : M ≤ 9223372036854775807) (hP : ∀ r ∈ x0,PrM M r) : ∀ d i out k,x0.length - i = d → i ≤ x0.length → (∀ r ∈ out,PrM M r) → out.length ≤ i → 2 * M + 300 + d * 200 < k → verdererref02_Sort.l0 k x0 out (i : Int) = some ((x0.drop i).foldl (fun o x => insE rcmp x o) out) := by
 intro d
 induction d with
 | zero =>
  intro i out k hd hi ho hol hk
  obtain ⟨k,rfl⟩ : ∃ m,k = m + 1 := ⟨k - 1,by omega⟩
  simp only [verdererref02_Sort.l0]
  rw [if_neg (by omega),List.drop_eq_nil_of_le (by omega)]
  rfl
 | succ d ih =>
  intro i out k hd hi ho hol hk
  obtain ⟨k,rfl⟩ : ∃ m,k = m + 1 := ⟨k - 1,by omega⟩
  have hlt : i < x0.length := by omega
  simp only [verdererref02_Sort.l0]
  rw [if_pos (by omega),List.drop_eq_getElem_cons hlt]
  have hx := rdL_get x0 i hlt
  refine refSort_l1 x0 i hlt h0 M hM hP out ho (by omega) _ (2 * M + 301 + d * 200) (by omega) (fun k' hk' => ?_) out.length 0 k (by omega) (by omega) rfl (by omega)
  rw [hx]
  refine ih (i + 1) _ k' (by omega) (by omega) (fun r hr => ?_) ?_ (by omega)
  ·rcases mem_insE rcmp _ r out hr with e | h
   ·rw [e];exact hP _ (List.getElem_mem hlt)
   ·exact ho r h
  ·have := insE_len rcmp x0[i] out
   omega
theorem refSort_f (x0 : List (List S50)) (h0 : x0.length ≤ 100) (M : Nat) (hM : M ≤ 9223372036854775807) (hP : ∀ r ∈ x0,PrM M r) (k : Nat) (hk : 2 * M + 30000 < k) : verdererref02_Sort.f k x0 = some (allE rcmp x0) :=
 refSort_l0 x0 h0 M hM hP x0.length 0 [] k (by omega) (Nat.zero_le _) (fun r h => by cases h) (Nat.le_refl _) (by omega)
theorem alike_l0 (x : List (List S50)) (hx : ∀ r ∈ x,r.length ≤ 60) (h0 : x.length ≤ 100) : ∀ d i k,x.length - i = d → i ≤ x.length → 200 + d < k → verdererref02_Alike.l0 k x x (i : Int) = some true := by
 intro d
 induction d with
 | zero =>
  intro i k hd hi hk
  obtain ⟨k,rfl⟩ : ∃ m,k = m + 1 := ⟨k - 1,by omega⟩
  simp only [verdererref02_Alike.l0]
  rw [if_neg (by omega)]
 | succ d ih =>
  intro i k hd hi hk
  obtain ⟨k,rfl⟩ : ∃ m,k = m + 1 := ⟨k - 1,by omega⟩
  have hlt : i < x.length := by omega
  have hy := hx _ (List.getElem_mem hlt)
  simp only [verdererref02_Alike.l0]
  rw [if_pos (by omega),if_pos (by omega),if_pos (by omega),rdL_get x i hlt,equal_self _ (by omega) k (by omega)]
  simp only [Option.bind_some,if_true]
  rw [wrapS i (by omega)]
  exact ih (i + 1) k (by omega) (by omega) (by omega)
theorem alike_self (x : List (List S50)) (hx : ∀ r ∈ x,r.length ≤ 60) (h0 : x.length ≤ 100) (k : Nat) (hk : 400 < k) : verdererref02_Alike.f k x x = some true := by
 unfold verdererref02_Alike.f
 rw [if_pos rfl]
 exact alike_l0 x hx h0 x.length 0 k (by omega) (Nat.zero_le _) (by omega)
theorem few2_l0 (x : List (List S50)) (h0 : x.length ≤ 100) : ∀ d i k,x.length - i = d → i ≤ x.length → d < k → ∃ b,verdererlaw02_few.l0 k x (i : Int) = some b ∧ (b = true → ∀ r ∈ x.drop i,r.length ≤ 60) := by
 intro d
 induction d with
 | zero =>
  intro i k hd hi hk
  obtain ⟨k,rfl⟩ : ∃ m,k = m + 1 := ⟨k - 1,by omega⟩
  simp only [verdererlaw02_few.l0]
  rw [if_neg (by omega),List.drop_eq_nil_of_le (by omega)]
  exact ⟨true,rfl,fun _ r h => by cases h⟩
 | succ d ih =>
  intro i k hd hi hk
  obtain ⟨k,rfl⟩ : ∃ m,k = m + 1 := ⟨k - 1,by omega⟩
  have hlt : i < x.length := by omega
  simp only [verdererlaw02_few.l0]
  rw [if_pos (by omega),if_pos (by omega),rdL_get x i hlt,wrapS i (by omega)]
  by_cases h : (x[i].length : Int) > 60
  ·rw [if_pos h];exact ⟨false,rfl,fun h => by cases h⟩
  ·rw [if_neg h]
   obtain ⟨b,h1,h2⟩ := ih (i + 1) k (by omega) (by omega) (by omega)
   refine ⟨b,h1,fun hb r hr => ?_⟩
   rw [List.drop_eq_getElem_cons hlt] at hr
   rcases List.mem_cons.1 hr with e | hr
   ·rw [e];omega
   ·exact h2 hb r hr
theorem few2_some (x : List (List S50)) : ∃ b,verdererlaw02_few.f 200 x = some b ∧ (b = true → x.length ≤ 100 ∧ ∀ r ∈ x,r.length ≤ 60) := by
 unfold verdererlaw02_few.f
 by_cases h : (x.length : Int) > 100
 ·rw [if_pos h];exact ⟨false,rfl,fun h => by cases h⟩
 ·rw [if_neg h]
  obtain ⟨b,h1,h2⟩ := few2_l0 x (by omega) x.length 0 200 (by omega) (Nat.zero_le _) (by omega)
  exact ⟨b,h1,fun hb => ⟨by omega,h2 hb⟩⟩
end Go.Proofs.Ytfoaeigoajooeaa.Z
end
section
namespace Go.Proofs.Ytfoaeigoajooeaa.Z
set_option linter.unusedVariables false
set_option linter.unusedSimpArgs false
open Go.RowKit Go.Proofs.YtfoaeigoajooeaaW.PrintWords Go.Proofs.YtfoaeigoajooeaaW.PrintLast Go.Proofs.YtfoaeigoajooeaaW.PrintMore Go.Proofs.Ytfoaeigoajooeaa.Cmp
theorem known2_at (w : World) : Calls Try.prog 12 #[] w fun e w' => e = .returned (.bool true) ∧ Below w.heap.size w w' := verdererlaw02_known.calls 60 true w (known02 60 (by omega))
theorem ref_sort_at (A : Option Addr) (c : Nat) (l : List (List S50)) (M : Nat) (hM : M ≤ 9223372036854775807) (hl : l.length ≤ 100) (hP : ∀ r ∈ l,PrM M r) (w0 w : World) (hr : Kd.C (Kd.slice 50 k50) w0 A l.length l) (hb : Below w0.heap.size w0 w) (hc : l.length ≤ c) :
  Calls Try.prog 30 #[.slice A l.length c] w fun e w' => ∃ A' cap,e = .returned (.slice A' (allE rcmp l).length cap) ∧ (allE rcmp l).length ≤ cap ∧ Kd.C (Kd.slice 50 k50) w' A' (allE rcmp l).length (allE rcmp l) ∧ Below w.heap.size w w' := by
 refine (verdererref02_Sort.calls (2 * M + 30001) (fun k_ => k_ < w0.heap.size) A c l (allE rcmp l) w ?_ (refSort_f l hl M hM hP _ (by omega))).mono ?_
 ·exact Kd.V_mk hc (Kd.F_below (Kd.C_F (Kd.heap_slice 50 heapV) hr) hb)
 ·rintro e w' ⟨v,rfl,hN,hb2⟩
  obtain ⟨A',cap,rfl,h1,h2⟩ := Kd.N_reads hN
  exact ⟨A',cap,rfl,h1,h2,hb2⟩
set_option maxHeartbeats 8000000 in
set_option maxRecDepth 100000 in
theorem row_sorts (A : Option Addr) (c : Nat) (l : List (List S50)) (w : World) (hr : Kd.C (Kd.slice 50 k50) w A l.length l) (hc : l.length ≤ c) (M : Nat) (hM : M ≤ 9223372036854775807) (hP : ∀ r ∈ l,∀ x ∈ r,x.f3.size ≤ M) :
  Calls Try.prog 7 #[.slice A l.length c] w fun e w' => e = .returned (.bool true) ∧ Below w.heap.size w w' := by
 obtain ⟨b,hf,hb⟩ := few2_some l
 have FW := Aside0.mk (verdererlaw02_few.calls 200 A c l b w hr hc hf)
 have FB := Aside0.mk hb
 have HR := Aside0.mk hr
 have HC := Aside0.mk hc
 have HP := Aside0.mk hP
 have HM := Aside0.mk hM
 have B0 := Aside0.mk (Below.refl w.heap.size w)
 clear hf hb hr hc hP hM
 go_enter Try.func7,Try.ntmps7
 go_wp2_with (fail)
 refine FW.out.mono ?_
 rintro e w1 ⟨rfl,hd⟩
 have B1 := Aside0.mk hd.below
 clear hd FW B0
 cases b with
 | false =>
  go_wp2_with (fail)
  refine (known2_at w1).mono ?_
  rintro e w2 ⟨rfl,hb⟩
  have B2 := Aside0.mk (B1.out.trans (hb.mono B1.out.size))
  clear hb B1
  go_wp2_with (fail)
  go_ret
  exact ⟨rfl,B2.out⟩
 | true =>
  have hf := FB.out rfl
  have HP2 := Aside0.mk (show ∀ r ∈ l,PrM M r from fun r hr => ⟨hf.2 r hr,HP.out r hr⟩)
  have HF := Aside0.mk hf
  clear hf FB
  go_wp2_with (fail)
  refine (sort_rows A l.length c l w1 (Kd.C_below HR.out B1.out) (by have := HF.out.1;omega)).mono ?_
  rintro e w2 ⟨A1,c1,rfl,h1,h2,hb⟩
  have B2 := Aside0.mk (B1.out.trans (hb.mono B1.out.size))
  have X1 := Aside0.mk h1
  have X2 := Aside0.mk h2
  clear hb B1 h1 h2
  obtain ⟨R,hR⟩ : ∃ R,allE rcmp l = R := ⟨_,rfl⟩
  have HRR := Aside0.mk hR
  have eV : vcp = rcmp := rfl
  rw [eV,hR] at X1 X2 ⊢
  clear hR eV
  go_wp2_with (fail)
  refine (ref_sort_at A c l _ HM.out HF.out.1 HP2.out w w2 HR.out B2.out HC.out).mono ?_
  rintro e w3 ⟨A2,c2,rfl,h1,h2,hb⟩
  have B3 := Aside0.mk (B2.out.trans (hb.mono B2.out.size))
  have Y1 := Aside0.mk h1
  have Y2 := Aside0.mk h2
  have X3 := Aside0.mk (Kd.C_below X2.out hb)
  clear hb B2 h1 h2 X2
  rw [HRR.out] at Y1 Y2 ⊢
  have hal := alike_self R (fun r hr => HF.out.2 r (mem_allE rcmp r l (by rw [HRR.out];exact hr))) (Nat.le_trans (by rw [← HRR.out];exact allE_len rcmp l) HF.out.1) 401 (by omega)
  have HAL := Aside0.mk hal
  clear hal
  go_wp2_with (fail)
  refine (verdererref02_Alike.calls 401 A1 c1 R A2 c2 R true w3 X3.out X1.out Y2.out Y1.out HAL.out).mono ?_
  rintro e w4 ⟨rfl,hd⟩
  have B4 := Aside0.mk (B3.out.trans (hd.below.mono B3.out.size))
  clear hd B3
  go_wp2_with (fail)
  refine (known2_at w4).mono ?_
  rintro e w5 ⟨rfl,hb⟩
  have B5 := Aside0.mk (B4.out.trans (hb.mono B4.out.size))
  clear hb B4
  go_wp2_with (fail)
  go_ret
  exact ⟨rfl,B5.out⟩
end Go.Proofs.Ytfoaeigoajooeaa.Z
end
section
namespace Go.Proofs.Ytfoaeigoajooeaa.Z
set_option linter.unusedVariables false
open Go.RowKit Go.Proofs.YtfoaeigoajooeaaW.PrintWords Go.Proofs.YtfoaeigoajooeaaW.PrintLast Go.Proofs.YtfoaeigoajooeaaW.PrintMore
def verdererlaw02_RowSorts.f (l0 : List (List (S50))) : Option (Bool) := if l0.all (fun r => r.all (fun x => decide (x.f3.size ≤ 9223372036854775807))) = true then some true else none
theorem verdererlaw02_RowSorts.calls (A0 : Option Addr) (c0 : Nat) (l0 : List (List (S50))) (r : Bool) (w : World) (hr0 : Kd.C (Kd.slice 50 k50) w A0 l0.length l0) (hc0 : l0.length ≤ c0) (h : verdererlaw02_RowSorts.f l0 = some r) :
  Calls Try.prog 7 #[.slice A0 l0.length c0] w fun e w' => e = .returned (.bool r) ∧ Below w.heap.size w w' := by
 unfold verdererlaw02_RowSorts.f at h
 split at h
 ·rename_i hb
  obtain rfl := Option.some.inj h
  exact row_sorts A0 c0 l0 w hr0 hc0 9223372036854775807 (Nat.le_refl _) (fun e he x hx => of_decide_eq_true (List.all_eq_true.1 (List.all_eq_true.1 hb e he) x hx))
 ·cases h
end Go.Proofs.Ytfoaeigoajooeaa.Z
end
section
namespace Go.Proofs.YtfoaeigoajooeaaW.PrintWords
open Go.RowKit Go.ChangeShapes Go.WideShapes
section
variable {P : Program} {α β : Type}
def OfTrod (P : Program) (t : TypeId) (d : Kd α) (G : α → Prop) : Prop :=
 ∀ (H : Type) (enc : TypeId × Value → H) (w : World) (base : Nat) (spare : Nat → Bool) (held : Bool) (fuel : Nat) (cs : List Value) (x : DataW H × List MemPlace),DataW.trod enc P w base spare held fuel t cs = some x → ∃ s,d.K w s cs ∧ G s
theorem ofTrod_int {t : TypeId} {k : IntKind} (ht : P.underlying t = some (.int k)) : OfTrod P t (Kd.int k) (fun n => (Lit.int k n).wf = true) := by
 intro H enc w base spare held fuel cs x h
 obtain ⟨n,rfl,_,hw⟩ := DataW.trod_int ht h
 exact ⟨n,rfl,hw⟩
theorem ofTrod_bool {t : TypeId} (ht : P.underlying t = some .bool) : OfTrod P t Kd.bool (fun _ => True) := by
 intro H enc w base spare held fuel cs x h
 obtain ⟨b,rfl,_⟩ := DataW.trod_bool ht h
 exact ⟨b,rfl,trivial⟩
theorem ofTrod_string {t : TypeId} (ht : P.underlying t = some .string) : OfTrod P t Kd.string (fun s => s.size ≤ maxLen) := by
 intro H enc w base spare held fuel cs x h
 obtain ⟨s,rfl,_,hs⟩ := DataW.trod_string ht h
 exact ⟨s,rfl,hs⟩
theorem list_of_all {n : Nat} {Q : Nat → α → Prop} (h : ∀ i,i < n → ∃ x,Q i x) : ∃ xs : List α,xs.length = n ∧ ∀ i x,xs[i]? = some x → Q i x := by
 induction n with
 | zero => exact ⟨[],rfl,fun i x hx => by simp at hx⟩
 | succ n ih =>
  obtain ⟨xs,hl,hx⟩ := ih (fun i hi => h i (by omega))
  obtain ⟨y,hy⟩ := h n (by omega)
  refine ⟨xs ++ [y],by simp [hl],fun i x hi => ?_⟩
  rcases Nat.lt_trichotomy i xs.length with hlt | rfl | hgt
  ·rw [List.getElem?_append_left hlt] at hi
   exact hx i x hi
  ·rw [List.getElem?_append_right (Nat.le_refl _)] at hi
   simp at hi
   subst hi
   rw [hl]
   exact hy
  ·rw [List.getElem?_append_right (by omega),List.getElem?_eq_none (by simp;omega)] at hi
   cases hi
theorem ofTrod_slice {t e : TypeId} {d : Kd α} {G : α → Prop} (ht : P.underlying t = some (.slice e)) (hc : P.cellsOf e = d.sz) (h : OfTrod P e d G) :
  OfTrod P t (Kd.slice e d) (fun l => l.length ≤ maxLen ∧ ∀ x ∈ l,G x) := by
 intro H enc w base spare held fuel cs x hx
 rcases Go.Deep.open_slice ht hx with ⟨rfl,_⟩ | ⟨a,len,cap,m,n,D,Pl,rfl,_,hl,hm,hmm,_,hel⟩
 ·exact ⟨[],⟨none,0,rfl,Nat.le_refl _,Kd.C_nil d w⟩,by simp,fun x hx => by simp at hx⟩
 ·have hlm : len ≤ m := by rw [hmm];split <;> omega
  obtain ⟨xs,hxl,hxs⟩ := list_of_all (n := len) (Q := fun i s => ∃ cs',w.cells? base (a.add (i * P.cellsOf e)) (P.cellsOf e) = some cs' ∧ d.K w s cs' ∧ G s) (fun i hi => by
   obtain ⟨cs',h1,h2⟩ := hel i (by omega)
   obtain ⟨s,h3,h4⟩ := h _ _ _ _ _ _ _ _ _ h2
   exact ⟨s,cs',h1,h3,h4⟩)
  refine ⟨xs,⟨some a,cap,by rw [hxl],by omega,rfl,by rw [hxl];unfold maxLen at hm;omega,fun _ => ⟨a,rfl,fun j p hp => ?_⟩⟩,by omega,fun x hx => ?_⟩
  ·obtain ⟨cs',h1,h2,_⟩ := hxs j p hp
   obtain ⟨_,hcl,hcell⟩ := World.cells?_some h1
   refine ⟨cs',by rw [hcl,hc],h2,fun i u hu => ?_⟩
   have hi : i < P.cellsOf e := by
    rw [← hcl]
    exact (List.getElem?_eq_some_iff.1 hu).1
   have := hcell i hi
   rw [Go.Deep.add_add,hc] at this
   rw [this]
   exact hu
  ·obtain ⟨i,hi,rfl⟩ := List.getElem_of_mem hx
   obtain ⟨_,_,_,h4⟩ := hxs i xs[i] (List.getElem?_eq_getElem hi)
   exact h4
def segOff (segs : List (TypeId × Nat)) (i : Nat) : Nat := ((segs.take i).map (·.2)).sum
def OfSegs (P : Program) (segs : List (TypeId × Nat)) (d : Kd α) (G : α → Prop) : Prop :=
 ∀ (H : Type) (enc : TypeId × Value → H) (w : World) (base : Nat) (spare : Nat → Bool) (held : Bool) (fuel : Nat) (cs : List Value),cs.length = segOff segs segs.length →
  (∀ i t c,segs[i]? = some (t,c) → ∃ x,DataW.trod enc P w base spare held fuel t ((cs.drop (segOff segs i)).take c) = some x) → ∃ s,d.K w s cs ∧ G s
theorem ofSegs_one {t : TypeId} {c : Nat} {d : Kd α} {G : α → Prop} (h : OfTrod P t d G) : OfSegs P [(t,c)] d G := by
 intro H enc w base spare held fuel cs hl hx
 obtain ⟨x,h1⟩ := hx 0 t c rfl
 have hl2 : cs.length = c := by simpa [segOff] using hl
 have e : ((cs.drop (segOff [(t,c)] 0)).take c) = cs := by simp [segOff,← hl2]
 rw [e] at h1
 exact h _ _ _ _ _ _ _ _ _ h1
theorem ofSegs_cons {t : TypeId} {c : Nat} {ts : List (TypeId × Nat)} {d : Kd α} {d' : Kd β} {G : α → Prop} {G' : β → Prop} (h : OfTrod P t d G) (h' : OfSegs P ts d' G') : OfSegs P ((t,c) :: ts) (Kd.pair d d') (fun x => G x.1 ∧ G' x.2) := by
 intro H enc w base spare held fuel cs hl hx
 obtain ⟨x,h1⟩ := hx 0 t c rfl
 have e : ((cs.drop (segOff ((t,c) :: ts) 0)).take c) = cs.take c := by simp [segOff]
 rw [e] at h1
 obtain ⟨s,h2,h3⟩ := h _ _ _ _ _ _ _ _ _ h1
 have hl' : (cs.drop c).length = segOff ts ts.length := by
  simp [segOff] at hl ⊢
  omega
 obtain ⟨s',h4,h5⟩ := h' H enc w base spare held fuel (cs.drop c) hl' (fun i t' c' hi => by
  obtain ⟨y,hy⟩ := hx (i + 1) t' c' (by simpa using hi)
  refine ⟨y,?_⟩
  have e2 : segOff ((t,c) :: ts) (i + 1) = c + segOff ts i := by simp [segOff]
  rw [e2] at hy
  rw [List.drop_drop]
  exact hy)
 exact ⟨(s,s'),⟨cs.take c,cs.drop c,(List.take_append_drop c cs).symm,h2,h4⟩,h3,h5⟩
theorem ofTrod_struct {t : TypeId} {fs : Array Field} {segs : List (TypeId × Nat)} {d : Kd α} {G : α → Prop} (ht : P.underlying t = some (.struct fs)) (hc : P.cellsOf t = segOff segs segs.length) (hn : fs.size = segs.length)
  (hfs : ∀ i (f : Field),fs[i]? = some f → segs[i]? = some (f.type,P.cellsOf f.type) ∧ f.offset = segOff segs i) (h : OfSegs P segs d G) : OfTrod P t d G := by
 intro H enc w base spare held fuel cs x hx
 obtain ⟨xs,n,_,_,hl,hxl,hf⟩ := DataW.trod_struct ht hx
 refine h H enc w base spare held n cs (by rw [hl,hc]) (fun i t' c' hi => ?_)
 have hlt : i < fs.size := by rw [hn];exact (List.getElem?_eq_some_iff.1 hi).1
 obtain ⟨h1,h2⟩ := hfs i fs[i] (Array.getElem?_eq_getElem hlt)
 rw [hi] at h1
 injection h1 with h1
 injection h1 with h1 h3
 have h4 := hf i fs[i] (Array.getElem?_eq_getElem hlt)
 rw [h2,← h3,← h1] at h4
 have hlt2 : i < xs.length := by omega
 rw [List.getElem?_eq_getElem hlt2] at h4
 exact ⟨_,h4⟩
theorem ofTrod_iso {t : TypeId} {d : Kd α} {G : α → Prop} (f : β → α) (g : α → β) (hg : ∀ a,f (g a) = a) (h : OfTrod P t d G) : OfTrod P t (Kd.iso d f) (fun x => G (f x)) := by
 intro H enc w base spare held fuel cs x hx
 obtain ⟨s,h1,h2⟩ := h _ _ _ _ _ _ _ _ _ hx
 exact ⟨g s,by show d.K w (f (g s)) cs;rw [hg];exact h1,by show G (f (g s));rw [hg];exact h2⟩
theorem cell_heap {w w' : World} (h : w.heap = w'.heap) (a : Addr) : w'.cell? a = w.cell? a := by unfold World.cell?;rw [h]
end
end Go.Proofs.YtfoaeigoajooeaaW.PrintWords
end
section
namespace Go.Proofs.Ytfoaeigoajooeaa.Z
open Go.RowKit Go.Proofs.YtfoaeigoajooeaaW.PrintWords Go.Proofs.YtfoaeigoajooeaaW.PrintLast Go.Proofs.YtfoaeigoajooeaaW.PrintMore
set_option maxRecDepth 100000
def G50 (x : S50) : Prop := ((Lit.int .i64 x.f0).wf = true) ∧ (True) ∧ ((Lit.int .i64 x.f2).wf = true) ∧ (x.f3.size ≤ maxLen)
theorem of50 : OfTrod Try.prog 50 k50 G50 :=
 ofTrod_iso _ (fun a => (⟨a.1,a.2.1,a.2.2.1,a.2.2.2⟩ : S50)) (fun _ => rfl) (ofTrod_struct (segs := [(3,1),(4,1),(2,1),(9,1)]) Try.underlying50 (by kernel_rfl) rfl
  (by
   intro i f hf
   rcases i with _ | _ | _ | _ | i <;> simp at hf <;> subst hf <;> exact ⟨congrArg some (Prod.ext rfl (by kernel_rfl)),rfl⟩) (ofSegs_cons (ofTrod_int Try.underlying3) (ofSegs_cons (ofTrod_bool Try.underlying4) (ofSegs_cons (ofTrod_int Try.underlying2) (ofSegs_one (ofTrod_string Try.underlying9))))))
end Go.Proofs.Ytfoaeigoajooeaa.Z
end
section
namespace Go.Proofs.Ytfoaeigoajooeaa.Z
open Go.RowKit Go.Proofs.YtfoaeigoajooeaaW.PrintWords Go.Proofs.YtfoaeigoajooeaaW.PrintLast Go.Proofs.YtfoaeigoajooeaaW.PrintMore
theorem rowSorts_pure : ∀ (l0 : (List (List S50))),(l0.length ≤ maxLen ∧ ∀ x ∈ l0,(x.length ≤ maxLen ∧ ∀ xx ∈ x,G50 xx)) → verdererlaw02_RowSorts.f l0 = some true := by
 intro l0 h0
 unfold verdererlaw02_RowSorts.f
 rw [if_pos]
 rw [List.all_eq_true]
 intro e he
 rw [List.all_eq_true]
 intro x hx
 have h3 := ((h0.2 e he).2 x hx).2.2.2
 unfold maxLen at h3
 exact decide_eq_true h3
end Go.Proofs.Ytfoaeigoajooeaa.Z
end
namespace Go.Proofs.Ytfoaeigoajooeaa.rowSorts
open Go.ChangeShapes Go.WideShapes Go.ChangeAt Go.RowKit Go.Proofs.YtfoaeigoajooeaaW.PrintWords
open Go.ChangeMaps (open_string shut_string)
set_option linter.unusedVariables false
theorem own : ownKnob Try.prog.godebug = none := by kernel_rfl
theorem laidOut : laidOutB Try.prog = true := by kernel_rfl
set_option maxRecDepth 100000 in
theorem lifted (os : Os) (started : os.Started) (H : Type) (enc : TypeId × Value → H) :
  ReturnsInHanded {} Try.checked os 7 .any (Rows.rowSortsSpec.pre6 enc Try.prog Try.f7 Rows.rowSortsRow.domain false) (Rows.rowSortsSpec.post enc Try.prog Try.f7 false true false false) := by
 refine returnsInHanded_of_change (C := Try.checked) own started (by kernel_rfl) Try.func7
  (ChangeSpec.witness6 (enc := enc) (C := Try.checked) false ⟨#[],#[.slice none 0 0],[]⟩ 8 (by kernel_rfl) (by kernel_rfl) (by kernel_rfl) (by kernel_rfl)) ?_
 intro W base args ds gs before hval0 hW hcnd _
 have hval : ∀ (j : Nat) t v,Try.f7.params[j]? = some t → args[j]? = some v → Value.okWide Try.prog W .any base t v := hval0
 have hW' := hW
 obtain ⟨p,q,hA0,hV,rfl,hfz,hnd⟩ := hW
 have hA : DataW.TrodAll enc Try.prog W 0 (fun _ => true) true Try.f7.params.toList args.toList ds p := hA0
 rw [Try.params7] at hA hval
 obtain ⟨v0,vs0,d0,ds0,p0,q0,hargs,rfl,rfl,h0,r0⟩ := trodAll_cons hA
 obtain ⟨rfl,rfl,rfl⟩ := trodAll_nil r0
 obtain rfl : args = #[v0] := by cases args;simp_all
 obtain ⟨rfl,rfl⟩ := trodVars_none hV
 obtain ⟨a0,len0,cap0,rfl⟩ := okWide_slice Try.underlying42 (hval 0 42 v0 rfl rfl)
 have k0 := h0
 have lt0 : ∀ x ∈ p0,x.block < W.heap.size := by obtain ⟨m,hm⟩ := k0;exact DataW.trod_lt m _ _ _ hm
 obtain ⟨l0,hK0,hG0⟩ : ∃ l,((Kd.slice 22 (Kd.slice 50 Z.k50)) : Kd (List (List Z.S50))).K W l [.slice a0 len0 cap0] ∧ (l.length ≤ maxLen ∧ ∀ x ∈ l,(x.length ≤ maxLen ∧ ∀ xx ∈ x,Z.G50 xx)) := by obtain ⟨fuel,hf⟩ := h0;exact (show OfTrod Try.prog 42 (Kd.slice 22 (Kd.slice 50 Z.k50)) _ from (ofTrod_slice Try.underlying42 (by kernel_rfl) (ofTrod_slice Try.underlying22 (by kernel_rfl) Z.of50))) _ _ _ _ _ _ _ _ _ hf
 obtain ⟨A0,c0,he0,hl0,hC0⟩ := hK0
 simp only [List.cons.injEq,Value.slice.injEq,and_true] at he0
 obtain ⟨rfl,rfl,rfl⟩ := he0
 clear hA0 hval0
 have h := Z.rowSorts_pure l0 hG0
 refine (Z.verdererlaw02_RowSorts.calls _ _ l0 true W hC0 hl0 h).mono fun e W' ⟨he,bel⟩ => ?_
 subst he
 exact ⟨_,rfl,_,_,_,[],_,[],hW',trodAll_mk1 (shut_bool Try.underlying4 _),(trodAll_cons_mk (Below.trod laidOut (by kernel_rfl) (of_decide_eq_true (by kernel_rfl)) k0 bel lt0) trodAll_mk0),rfl,bel.frame _,fun h => by cases h⟩
theorem over : Rows.rowSortsRow.holds Try.pinned (OpenSpec.ofChange Rows.rowSortsSpec) :=
 OpenClaim.holds_of_wide 7 Try.f7 rfl rfl rfl rfl rfl rfl rfl ⟨rfl,rfl,rfl,rfl,rfl⟩ rfl rfl rfl rfl rfl (by kernel_rfl) Try.func7 (by kernel_rfl)
  (of_decide_eq_true (by kernel_rfl)) (by unfold Func.isWrapper;first | (rw [if_pos (by decide +kernel)];kernel_rfl) | (rw [if_neg (by decide +kernel)];exact ⟨rfl,rfl⟩))
  (fun os started H enc _ => lifted os started H enc)
theorem proved : Rows.RowSortsSaid := over
#print axioms proved
end Go.Proofs.Ytfoaeigoajooeaa.rowSorts
namespace Go.Proofs.Ytfoaeigoajooeaa
theorem rowSorts_holds : Rows.RowSortsSaid := rowSorts.proved
end Go.Proofs.Ytfoaeigoajooeaa
