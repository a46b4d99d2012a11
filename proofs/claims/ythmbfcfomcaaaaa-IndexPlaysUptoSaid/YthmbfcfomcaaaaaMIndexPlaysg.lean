/-
  verdererlaw06.IndexPlays: for every input the law returns true, and each argument reads behind the call as it read before. Where what it reads is of bulk at most 1048576.
-/
import Derived.Test.YthmbfcfomcaaaaaMIndexPlaysa
import Derived.Test.YthmbfcfomcaaaaaMIndexPlaysb
import Derived.Test.YthmbfcfomcaaaaaMIndexPlaysc
import Derived.Test.YthmbfcfomcaaaaaMIndexPlaysd
import Derived.Test.YthmbfcfomcaaaaaMIndexPlayse
import Derived.Test.YthmbfcfomcaaaaaMIndexPlaysf
import Derived.Test.YthmbfcfomcaaaaaRows
import Derived.WalkKit
import Derived.OpenShut
import Derived.Deep.Slices
import Derived.ProofKit
import Derived.ShutString
import Derived.ChangeOld
import Derived.Below
import Derived.Laws.Cover2
import Derived.JoinedCond
section
namespace Go.Proofs.Ythmbfcfomcaaaaa.Z
open Go.RowKit Go.Proofs.YthmbfcfomcaaaaaW.PrintWords Go.Proofs.YthmbfcfomcaaaaaW.PrintLast Go.Proofs.YthmbfcfomcaaaaaW.PrintMore
attribute [local go_sem] max2_int min2_int max_two min_two max_three min_three max_four min_four
set_option linter.unusedVariables false
set_option linter.unusedSimpArgs false
theorem info23 : (Try.prog.info? 23).map (fun i => (i.zero,i.size,i.bytes)) = some (some (.slice none 0 0),1,24) := by kernel_rfl
mutual
def verdererref02_Sort.l0 : Nat → List (List (S66)) → List (List (S66)) → Int → Option ((List (List (S66))))
 | 0,_,_,_ => none
 | k + 1,x0,x3,x4 => if x4 < (x0.length : Int) then (verdererref02_Sort.l1 k x0 x3 x4 0) else (some x3)
def verdererref02_Sort.l1 : Nat → List (List (S66)) → List (List (S66)) → Int → Int → Option ((List (List (S66))))
 | 0,_,_,_,_ => none
 | k + 1,x0,x3,x4,x5 => if x5 < (x3.length : Int) then (if 0 ≤ x5 then (if 0 ≤ x4 then (if x4 < (x0.length : Int) then ((verdererref02_Compare.f k (rd_L4 x3 x5) (rd_L4 x0 x4)).bind fun t243 => (if t243 < 0 then (verdererref02_Sort.l1 k x0 x3 x4 (wrap64 (x5 + 1))) else ((verdererref02_Same.f k (rd_L4 x3 x5) (rd_L4 x0 x4)).bind fun t246 => (if t246 = true then (verdererref02_Sort.l0 k x0 x3 (wrap64 (x4 + 1))) else (if x5 ≤ (x3.length : Int) then ((some (x3.take (x5 : Int).toNat : List (List (S66)))).bind fun y247 => (if ([] : List (List (S66))).length + y247.length < 5864062014805 then ((some (([] : List (List (S66))) ++ y247 : List (List (S66)))).bind fun y252 => (if y252.length < 5864062014805 then ((some (y252 ++ [rd_L4 x0 x4] : List (List (S66)))).bind fun y256 => ((some (x3.drop (x5 : Int).toNat : List (List (S66)))).bind fun y259 => (if y256.length + y259.length < 5864062014805 then (verdererref02_Sort.l0 k x0 (y256 ++ y259) (wrap64 (x4 + 1))) else (none)))) else (none))) else (none))) else (none)))))) else (none)) else (none)) else (none)) else (if 0 ≤ x5 then (if x5 ≤ (x3.length : Int) then ((some (x3.take (x5 : Int).toNat : List (List (S66)))).bind fun y267 => (if ([] : List (List (S66))).length + y267.length < 5864062014805 then ((some (([] : List (List (S66))) ++ y267 : List (List (S66)))).bind fun y272 => (if 0 ≤ x4 then (if x4 < (x0.length : Int) then (if y272.length < 5864062014805 then ((some (y272 ++ [rd_L4 x0 x4] : List (List (S66)))).bind fun y276 => ((some (x3.drop (x5 : Int).toNat : List (List (S66)))).bind fun y279 => (if y276.length + y279.length < 5864062014805 then (verdererref02_Sort.l0 k x0 (y276 ++ y279) (wrap64 (x4 + 1))) else (none)))) else (none)) else (none)) else (none))) else (none))) else (none)) else (none))
end
def verdererref02_Sort.f (k : Nat) (l0 : List (List (S66))) : Option ((List (List (S66)))) := verdererref02_Sort.l0 k l0 ([] : List (List (S66))) 0
def verdererref02_Sort.T6 : Bool × List (List Nat × List Nat) := (true,[([],[]),([],[]),([1],[1]),([0,2],[0,2]),([3],[3]),([4],[4]),([4],[4]),([5,6,4],[4,5,6]),([7,4],[4,7]),([4],[4]),([4],[4]),([9,10,4],[4,9,10]),([11,4],[4,11]),([8,12,4,4],[4,8,12]),([13,4],[4,13]),([4,14],[4,14])])
def verdererref02_Sort.B6 : List Nat := [0,0,2,7,15,31,31,127,255,31,31,1567,3615,8191,16383,32767]
theorem verdererref02_Sort.tab6 : rtab .any (opsOf Try.f85 6) = verdererref02_Sort.T6 := by kernel_rfl
theorem verdererref02_Sort.bits6 : waitsOk verdererref02_Sort.T6.2 verdererref02_Sort.B6 = true := by kernel_rfl
def verdererref02_Sort.T8 : Bool × List (List Nat × List Nat) := (true,[([],[]),([],[]),([1],[1]),([0,2],[0,2]),([3],[3]),([4],[4]),([4],[4]),([5,6,4],[4,5,6]),([7,4],[4,7]),([4],[4]),([4],[4]),([9,10,4],[4,9,10]),([11,4],[4,11]),([8,12,4,4],[4,8,12]),([4,13],[4,13])])
def verdererref02_Sort.B8 : List Nat := [0,0,2,7,15,31,31,127,255,31,31,1567,3615,8191,16383]
theorem verdererref02_Sort.tab8 : rtab .any (opsOf Try.f85 8) = verdererref02_Sort.T8 := by kernel_rfl
theorem verdererref02_Sort.bits8 : waitsOk verdererref02_Sort.T8.2 verdererref02_Sort.B8 = true := by kernel_rfl
set_option maxHeartbeats 8000000 in
set_option maxRecDepth 100000 in
theorem verdererref02_Sort.calls (k : Nat) (P0_ : Nat → Prop) (A0 : Option Addr) (c0 : Nat) (l0 : List (List (S66))) (r : List (List (S66))) (w : World) (hs0 : Kd.V (Kd.slice 66 k66) 23 w w.heap.size (fun k_ => P0_ k_) (.slice A0 l0.length c0) l0) (h : verdererref02_Sort.f k l0 = some r) :
  Calls Try.prog 85 #[.slice A0 l0.length c0] w fun e w' => ∃ v0_ : Value,e = .returned (v0_) ∧ Kd.N (Kd.slice 66 k66) 23 w' w.heap.size (fun k_ => (P0_ k_ ∨ w.heap.size ≤ k_)) v0_ r ∧ Below w.heap.size w w' := by
 have HO0 := Aside0.mk (show Kd.V (Kd.slice 66 k66) 23 w w.heap.size (fun k_ => (P0_ k_ ∨ w.heap.size ≤ k_)) (.slice A0 l0.length c0) l0 from Kd.V_mono hs0 (fun k_ hk => .inl hk))
 have HB := Aside0.mk (Below.refl w.heap.size w)
 have H : (verdererref02_Sort.l0 k l0 ([] : List (List (S66))) 0) = some r := h
 clear h
 have H' := Aside0.mk H
 clear H
 go_enter Try.func85,Try.ntmps85
 go_wp2
 go_loopg [3,4] k (fun kq v3 v4 w' => ∃ (x3_1 : List (List (S66))) (x4_1 : Int),v4 = .int .i64 x4_1 ∧ Aside0 (verdererref02_Sort.l0 kq l0 x3_1 x4_1 = some r) ∧ Aside0 (kq ≤ k) ∧ Aside0 (Kd.V (Kd.slice 66 k66) 23 w' w.heap.size (fun k_ => (P0_ k_ ∨ w.heap.size ≤ k_) ∧ some k_ ≠ (v3 : Value).ownBlock) (.slice A0 l0.length c0) l0) ∧ Aside0 (Kd.N (Kd.slice 66 k66) 23 w' w.heap.size (fun k_ => (P0_ k_ ∨ w.heap.size ≤ k_)) v3 x3_1) ∧ Aside0 (Below w.heap.size w w'))
 case atStart => exact ⟨(([] : List (List (S66)))),(0),(by first | rfl | (simp;done) | (simp [*];done)),H',⟨Nat.le_refl _⟩,⟨by (with_reducible repeat (first | apply Kd.V_alloc | apply Kd.V_drewN | apply Kd.V_drew));exact Kd.V_mono HO0.out (fun _ hk => ⟨hk,(by simp [Value.ownBlock])⟩)⟩,⟨by first | exact Kd.S_nil _ _ _ _ _ | exact Kd.N_nil _ _ _ _ _ | exact Kd.V_nil _ _ _ _ _ | exact Kd.Q_nil _ _ _ _ _ | exact Kd.R_nil _ _ _ _ _⟩,⟨by repeat (first | (with_reducible first | exact HB.out | apply q0b | apply q0a | apply q0c) | exact HB.out)⟩⟩
 case round =>
  clear H'
  obtain ⟨x3_1,x4_1,rfl,HA,HK1,HO_0,HO_3,HB⟩ := hrel
  cases gk with
  | zero => exact absurd HA.out (by simp [verdererref02_Sort.l0])
  | succ k1 =>
   have H := HA.out
   clear HA
   simp only [verdererref02_Sort.l0] at H
   by_cases c2 : x4_1 < (l0.length : Int)
   ·rw [if_pos c2] at H
    have c2b0 : decide (x4_1 < (l0.length : Int)) = true := decide_eq_true c2
    clear c2
    have H' := Aside0.mk H
    clear H
    go_wp2
    go_loopg [5] k1 (fun kq v5 w' => ∃ (x5_2 : Int),v5 = .int .i64 x5_2 ∧ Aside0 (verdererref02_Sort.l1 kq l0 x3_1 x4_1 x5_2 = some r) ∧ Aside0 (kq ≤ k1) ∧ Aside0 (Kd.V (Kd.slice 66 k66) 23 w' w.heap.size (fun k_ => (P0_ k_ ∨ w.heap.size ≤ k_) ∧ some k_ ≠ (u3 : Value).ownBlock) (.slice A0 l0.length c0) l0) ∧ Aside0 (Kd.N (Kd.slice 66 k66) 23 w' w.heap.size (fun k_ => (P0_ k_ ∨ w.heap.size ≤ k_)) u3 x3_1) ∧ Aside0 (Below w.heap.size w w'))
    case atStart => exact ⟨(0),(by first | rfl | (simp;done) | (simp [*];done)),H',⟨Nat.le_refl _⟩,⟨by (with_reducible repeat (first | apply Kd.V_alloc | apply Kd.V_drewN | apply Kd.V_drew));exact HO_0.out⟩,⟨by (with_reducible repeat (first | apply Kd.N_alloc | apply Kd.N_drewN | apply Kd.N_drew));exact HO_3.out⟩,⟨by repeat (first | (with_reducible first | exact HB.out | apply q0b | apply q0a | apply q0c) | exact HB.out)⟩⟩
    case round =>
     clear H'
     try clear c2
     try clear c2b0
     try clear p2
     obtain ⟨x5_2,rfl,HA,HK2,HO_0,HO_3,HB⟩ := hrel
     cases gk with
     | zero => exact absurd HA.out (by simp [verdererref02_Sort.l1])
     | succ k2 =>
      have H := HA.out
      clear HA
      simp only [verdererref02_Sort.l1] at H
      by_cases c3 : x5_2 < (x3_1.length : Int)
      ·rw [if_pos c3] at H
       have c3b0 : decide (x5_2 < (x3_1.length : Int)) = true := decide_eq_true c3
       clear c3
       by_cases c4 : 0 ≤ x5_2
       ·rw [if_pos c4] at H
        have c4b0 : decide (0 ≤ x5_2) = true := decide_eq_true c4
        clear c4
        by_cases c5 : 0 ≤ x4_1
        ·rw [if_pos c5] at H
         have c5b0 : decide (0 ≤ x4_1) = true := decide_eq_true c5
         clear c5
         by_cases c6 : x4_1 < (l0.length : Int)
         ·rw [if_pos c6] at H
          have c6b0 : decide (x4_1 < (l0.length : Int)) = true := decide_eq_true c6
          clear c6
          replace H := Option.bind_eq_some_iff.mp H
          obtain ⟨t243,A70,H⟩ := H
          replace H : (if t243 < 0 then (verdererref02_Sort.l1 k2 l0 x3_1 x4_1 (wrap64 (x5_2 + 1))) else ((verdererref02_Same.f k2 (rd_L4 x3_1 x5_2) (rd_L4 l0 x4_1)).bind fun t246 => (if t246 = true then (verdererref02_Sort.l0 k2 l0 x3_1 (wrap64 (x4_1 + 1))) else (if x5_2 ≤ (x3_1.length : Int) then ((some (x3_1.take (x5_2 : Int).toNat : List (List (S66)))).bind fun y247 => (if ([] : List (List (S66))).length + y247.length < 5864062014805 then ((some (([] : List (List (S66))) ++ y247 : List (List (S66)))).bind fun y252 => (if y252.length < 5864062014805 then ((some (y252 ++ [rd_L4 l0 x4_1] : List (List (S66)))).bind fun y256 => ((some (x3_1.drop (x5_2 : Int).toNat : List (List (S66)))).bind fun y259 => (if y256.length + y259.length < 5864062014805 then (verdererref02_Sort.l0 k2 l0 (y256 ++ y259) (wrap64 (x4_1 + 1))) else (none)))) else (none))) else (none))) else (none))))) = some r := H
          have A7 := Aside0.mk A70
          clear A70
          by_cases c8 : t243 < 0
          ·rw [if_pos c8] at H
           have c8b0 : decide (t243 < 0) = true := decide_eq_true c8
           clear c8
           have H' := Aside0.mk H
           clear H
           try go_wp2
           have n0_ := Aside0.mk (Kd.V_drew HO_0.out)
           have n1_ := Aside0.mk (Kd.N_drew HO_3.out)
           have n2_ := Aside0.mk (q0c HB.out)
           clear HO_0
           clear HO_3
           clear HB
           have HO_0 := n0_
           have HO_3 := n1_
           have HB := n2_
           clear n0_ n1_ n2_
           obtain ⟨Ao10,co10,eo10⟩ := Kd.N_slice HO_3.out
           (first | subst eo10 | (injection eo10 with f1_ f2_ f3_;have f4_ := f1_.symm;have f5_ := f3_.symm;clear f1_ f2_ f3_;subst f4_;subst f5_))
           have p241 : 0 ≤ (x5_2 : Int) := of_decide_eq_true (by first | (with_reducible assumption) | assumption)
           have q241 : x5_2 < (x3_1.length : Int) := of_decide_eq_true (by first | (with_reducible assumption) | assumption)
           obtain ⟨ad241,A241_0,c241_0,e241,hx241_0,hl241_0,hi241_0⟩ := at_L4 (Kd.N_reads' HO_3.out).2.2 x5_2 p241 q241
           cases e241
           obtain ⟨ce241,hce241,hMe241,hcc241⟩ := Kd.N_get HO_3.out [] x5_2 p241 (by first | exact q241 | exact of_decide_eq_true (by first | (with_reducible assumption) | assumption) | (have e_ := (Kd.N_reads' HO_3.out).1;omega))
           obtain ⟨ua241_0,uc241_0,rfl,ul241_0,ge241_0⟩ := Kd.FK_slice_open hMe241
           have hv241_0 := hcc241 0 _ rfl
           rw [Nat.add_zero,show ((Kd.slice 66 k66)).sz = 1 from rfl,Nat.mul_one] at hv241_0
           replace hv241_0 := Option.some.inj (hv241_0.symm.trans hx241_0)
           injection hv241_0 with hva_ hvn_ hvc_
           rw [hva_] at ge241_0
           rw [hvc_] at ul241_0
           have HL241_0 := Aside0.mk (show Kd.V k66 66 _ w.heap.size _ _ (rd_L4 x3_1 x5_2) from Kd.V_mk ul241_0 ge241_0)
           clear hva_ hvn_ hvc_ ge241_0 ul241_0
           clear hcc241 hce241
           have HR241_0 := Aside0.mk hi241_0
           have HC241_0 := Aside0.mk hl241_0
           clear hi241_0 hl241_0
           replace p241 := eq_true p241
           replace q241 := eq_true q241
           have p242 : 0 ≤ (x4_1 : Int) := of_decide_eq_true (by first | (with_reducible assumption) | assumption)
           have q242 : x4_1 < (l0.length : Int) := of_decide_eq_true (by first | (with_reducible assumption) | assumption)
           obtain ⟨ad242,A242_0,c242_0,e242,hx242_0,hl242_0,hi242_0⟩ := at_L4 (Kd.V_reads' HO_0.out).2.2 x4_1 p242 q242
           cases e242
           obtain ⟨ce242,hce242,hMe242,hcc242⟩ := Kd.V_get HO_0.out [] x4_1 p242 (by first | exact q242 | exact of_decide_eq_true (by first | (with_reducible assumption) | assumption) | (have e_ := (Kd.V_reads' HO_0.out).1;omega))
           obtain ⟨ua242_0,uc242_0,rfl,ul242_0,ge242_0⟩ := Kd.FK_slice_open hMe242
           have hv242_0 := hcc242 0 _ rfl
           rw [Nat.add_zero,show ((Kd.slice 66 k66)).sz = 1 from rfl,Nat.mul_one] at hv242_0
           replace hv242_0 := Option.some.inj (hv242_0.symm.trans hx242_0)
           injection hv242_0 with hva_ hvn_ hvc_
           rw [hva_] at ge242_0
           rw [hvc_] at ul242_0
           have HL242_0 := Aside0.mk (show Kd.V k66 66 _ w.heap.size _ _ (rd_L4 l0 x4_1) from Kd.V_mk ul242_0 ge242_0)
           clear hva_ hvn_ hvc_ ge242_0 ul242_0
           clear hcc242 hce242
           have HR242_0 := Aside0.mk hi242_0
           have HC242_0 := Aside0.mk hl242_0
           clear hi242_0 hl242_0
           replace p242 := eq_true p242
           replace q242 := eq_true q242
           refine start_ (n := 16) (S := fun w' => w'.cell? (ad241.add (x5_2).toNat) = some (.slice A241_0 (rd_L4 x3_1 x5_2).length c241_0) ∧ w'.cell? (ad242.add (x4_1).toNat) = some (.slice A242_0 (rd_L4 l0 x4_1).length c242_0)) (ds := []) #[false,false,false,false,false,false,false,false,false,false,false,false,false,false,false,false] (by kernel_rfl) rfl rfl ⟨hx241_0,hx242_0⟩ (fun hHeld => ?_);refine with_tabW verdererref02_Sort.tab6 verdererref02_Sort.bits6 (fun HT_ HW_ => ?_)
           generalize wr.drew = w9 at HO_0 HO_3 HB HL241_0 HL242_0 HR241_0 HR242_0 hx241_0 hx242_0 hHeld ⊢
           refine pure_ (i := 0) (N := some 13) (v := ?_) (a' := ?_) #[true,false,false,false,false,false,false,false,false,false,false,false,false,false,false,false] rfl rfl (q0q HT_.out (by kernel_rfl)) (fun _ _ _ h => h) (Or.inl ⟨by rfl,?_⟩) ?_ ?_
           rotate_left
           ·intro w'
            go_simp
            with_reducible rfl
           rotate_left
           ·simp only [Act.put,zA,zB,zC,i64_w,i32_w]
            rfl
           refine pure_ (i := 1) (N := some 14) (v := ?_) (a' := ?_) #[true,true,false,false,false,false,false,false,false,false,false,false,false,false,false,false] rfl rfl (q0q HT_.out (by kernel_rfl)) (fun _ _ _ h => h) (Or.inl ⟨by rfl,?_⟩) ?_ ?_
           rotate_left
           ·intro w'
            go_simp
            with_reducible rfl
           rotate_left
           ·simp only [Act.put,zA,zB,zC,i64_w,i32_w]
            rfl
           refine pure_ (i := 2) (N := some 15) (v := ?_) (a' := ?_) #[true,true,true,false,false,false,false,false,false,false,false,false,false,false,false,false] rfl rfl (q0q HT_.out (by kernel_rfl)) (fun _ _ _ h => h) (Or.inl ⟨by rfl,?_⟩) ?_ ?_
           rotate_left
           ·intro w'
            go_simp
            with_reducible rfl
           rotate_left
           ·simp only [Act.put,zA,zB,zC,i64_w,i32_w]
            rfl
           refine pure_ (i := 3) (N := some 16) (v := ?_) (a' := ?_) #[true,true,true,true,false,false,false,false,false,false,false,false,false,false,false,false] rfl rfl (q0q HT_.out (by kernel_rfl)) (fun _ _ _ h => h) (Or.inl ⟨by rfl,?_⟩) ?_ ?_
           rotate_left
           ·intro w'
            go_simp
            with_reducible rfl
           rotate_left
           ·simp only [Act.put,zA,zB,zC,i64_w,i32_w]
            rfl
           refine pure_ (i := 4) (N := some 17) (v := ?_) (a' := ?_) #[true,true,true,true,true,false,false,false,false,false,false,false,false,false,false,false] rfl rfl (q0q HT_.out (by kernel_rfl)) (fun _ _ _ h => h) (Or.inl ⟨by rfl,?_⟩) ?_ ?_
           rotate_left
           ·intro w'
            go_simp
            with_reducible rfl
           rotate_left
           ·simp only [Act.put,zA,zB,zC,i64_w,i32_w]
            rfl
           refine pure_ (i := 5) (N := some 18) (v := ?_) (a' := ?_) #[true,true,true,true,true,true,false,false,false,false,false,false,false,false,false,false] rfl rfl (q0q HT_.out (by kernel_rfl)) (fun _ _ _ h => h) (Or.inl ⟨by rfl,?_⟩) ?_ ?_
           rotate_left
           ·intro w'
            go_simp
            with_reducible rfl
           rotate_left
           ·simp only [Act.put,zA,zB,zC,i64_w,i32_w]
            rfl
           refine pure_ (i := 6) (N := some 19) (v := ?_) (a' := ?_) #[true,true,true,true,true,true,true,false,false,false,false,false,false,false,false,false] rfl rfl (q0q HT_.out (by kernel_rfl)) (fun _ _ _ h => h) (Or.inl ⟨by rfl,?_⟩) ?_ ?_
           rotate_left
           ·intro w'
            go_simp
            with_reducible rfl
           rotate_left
           ·simp only [Act.put,zA,zB,zC,i64_w,i32_w]
            rfl
           refine pure_ (i := 7) (N := some 20) (v := ?_) (a' := ?_) #[true,true,true,true,true,true,true,true,false,false,false,false,false,false,false,false] rfl rfl (q0q HT_.out (by kernel_rfl)) (fun _ _ _ h => h) (Or.inl ⟨by rfl,?_⟩) ?_ ?_
           rotate_left
           ·intro w'
            go_simp
            with_reducible rfl
           rotate_left
           ·simp only [Act.put,zA,zB,zC,i64_w,i32_w]
            rfl
           refine pure_ (i := 9) (N := some 22) (v := ?_) (a' := ?_) #[true,true,true,true,true,true,true,true,false,true,false,false,false,false,false,false] rfl rfl (q0q HT_.out (by kernel_rfl)) (fun _ _ _ h => h) (Or.inl ⟨by rfl,?_⟩) ?_ ?_
           rotate_left
           ·intro w'
            go_simp
            with_reducible rfl
           rotate_left
           ·simp only [Act.put,zA,zB,zC,i64_w,i32_w]
            rfl
           refine pure_ (i := 10) (N := some 23) (v := ?_) (a' := ?_) #[true,true,true,true,true,true,true,true,false,true,true,false,false,false,false,false] rfl rfl (q0q HT_.out (by kernel_rfl)) (fun _ _ _ h => h) (Or.inl ⟨by rfl,?_⟩) ?_ ?_
           rotate_left
           ·intro w'
            go_simp
            with_reducible rfl
           rotate_left
           ·simp only [Act.put,zA,zB,zC,i64_w,i32_w]
            rfl
           refine pure_ (i := 11) (N := some 24) (v := ?_) (a' := ?_) #[true,true,true,true,true,true,true,true,false,true,true,true,false,false,false,false] rfl rfl (q0q HT_.out (by kernel_rfl)) (fun _ _ _ h => h) (Or.inl ⟨by rfl,?_⟩) ?_ ?_
           rotate_left
           ·intro w'
            go_simp
            with_reducible rfl
           rotate_left
           ·simp only [Act.put,zA,zB,zC,i64_w,i32_w]
            rfl
           refine take_ (i := 8) (N := some 21) (v := ?_) (a' := ?_) #[true,true,true,true,true,true,true,true,true,true,true,true,false,false,false,false] rfl rfl (take_ofW HT_.out HW_.out (by kernel_rfl)) (fun _ _ _ h => h) (Or.inl ⟨by rfl,?_⟩) hHeld ?_ ?_
           rotate_left
           ·rintro w' ⟨s0,s1⟩
            go_simp
            with_reducible rfl
           rotate_left
           ·simp only [Act.put,zA,zB,zC,i64_w,i32_w]
            rfl
           refine take_ (i := 12) (N := some 25) (v := ?_) (a' := ?_) #[true,true,true,true,true,true,true,true,true,true,true,true,true,false,false,false] rfl rfl (take_ofW HT_.out HW_.out (by kernel_rfl)) (fun _ _ _ h => h) (Or.inl ⟨by rfl,?_⟩) hHeld ?_ ?_
           rotate_left
           ·rintro w' ⟨s0,s1⟩
            go_simp
            with_reducible rfl
           rotate_left
           ·simp only [Act.put,zA,zB,zC,i64_w,i32_w]
            rfl
           refine one_ (i := 13) (N := some 26) #[true,true,true,true,true,true,true,true,true,true,true,true,true,true,false,false] rfl rfl (one_of HT_.out (by kernel_rfl)) (by decide) (fun K hK => ?_)
           refine goes_ Try.func96 (by kernel_rfl) rfl #[.slice A241_0 (rd_L4 x3_1 x5_2).length c241_0,.slice A242_0 (rd_L4 l0 x4_1).length c242_0] (by rfl) rfl rfl (by (try simp only [List.map_toArray,List.map_cons,List.map_nil]);first | done | rfl | (simp only [List.length_drop,List.length_take];rfl)) ?_
           with_reducible refine (verdererref02_Compare.calls k2 _ _ (rd_L4 x3_1 x5_2) _ _ (rd_L4 l0 x4_1) t243 _ ?side1 ?side2 ?side3 ?side4 A7.out).mono ?_
           (case side1 => repeat (first | exact (by repeat (first | (with_reducible exact HR241_0.out) | (with_reducible refine Kd.C_alloc ?_ _) | (with_reducible refine Kd.C_drewN ?_ _) | (with_reducible refine Kd.C_drew ?_) | exact HR241_0.out)) | (with_reducible refine Kd.C_alloc ?_ _) | (with_reducible refine Kd.C_drewN ?_ _) | (with_reducible refine Kd.C_drew ?_)))
           (case side2 => exact HC241_0.out)
           (case side3 => repeat (first | exact (by repeat (first | (with_reducible exact HR242_0.out) | (with_reducible refine Kd.C_alloc ?_ _) | (with_reducible refine Kd.C_drewN ?_ _) | (with_reducible refine Kd.C_drew ?_) | exact HR242_0.out)) | (with_reducible refine Kd.C_alloc ?_ _) | (with_reducible refine Kd.C_drewN ?_ _) | (with_reducible refine Kd.C_drew ?_)))
           (case side4 => exact HC242_0.out)
           rintro e w11 ⟨rfl,hb⟩
           have HS0_ := (hb.cell (World.block_lt_of_cell? _ _ (hHeld.1))).trans (hHeld.1)
           have HS1_ := (hb.cell (World.block_lt_of_cell? _ _ (hHeld.2))).trans (hHeld.2)
           refine ⟨_,rfl,?_⟩
           have n0_ := Aside0.mk (Kd.V_below (by (with_reducible repeat (first | apply Kd.V_alloc | apply Kd.V_drewN | apply Kd.V_drew));exact HO_0.out) hb)
           have n1_ := Aside0.mk (Kd.N_below (by (with_reducible repeat (first | apply Kd.N_alloc | apply Kd.N_drewN | apply Kd.N_drew));exact HO_3.out) hb)
           have n2_ := Aside0.mk (Kd.V_below (by (with_reducible repeat (first | apply Kd.V_alloc | apply Kd.V_drewN | apply Kd.V_drew));exact HL241_0.out) hb)
           have n3_ := Aside0.mk (Kd.V_below (by (with_reducible repeat (first | apply Kd.V_alloc | apply Kd.V_drewN | apply Kd.V_drew));exact HL242_0.out) hb)
           have n4_ := Aside0.mk (Kd.C_below (by repeat (first | (with_reducible exact HR241_0.out) | (with_reducible refine Kd.C_alloc ?_ _) | (with_reducible refine Kd.C_drewN ?_ _) | (with_reducible refine Kd.C_drew ?_) | exact HR241_0.out)) hb)
           have n5_ := Aside0.mk (Kd.C_below (by repeat (first | (with_reducible exact HR242_0.out) | (with_reducible refine Kd.C_alloc ?_ _) | (with_reducible refine Kd.C_drewN ?_ _) | (with_reducible refine Kd.C_drew ?_) | exact HR242_0.out)) hb)
           have n6_ := Aside0.mk (q0n (by repeat (first | (with_reducible first | exact HB.out | apply q0b | apply q0a | apply q0c) | exact HB.out)) hb)
           clear HO_0
           clear HO_3
           clear HL241_0
           clear HL242_0
           clear HR241_0
           clear HR242_0
           clear HB
           have HO_0 := n0_
           have HO_3 := n1_
           have HL241_0 := n2_
           have HL242_0 := n3_
           have HR241_0 := n4_
           have HR242_0 := n5_
           have HB := n6_
           clear n0_ n1_ n2_ n3_ n4_ n5_ n6_
           (try clear hb)
           (try clear hb2)
           (try clear hk)
           (try clear hi)
           refine hK.out _ _ ⟨HS0_,HS1_⟩ (fun hHeld => ?_)
           clear hK K
           refine norm_ (a' := ?_) ?_ ?_
           rotate_left
           ·show Act.put _ (some 26) _ = _
            simp only [Act.put,zA,zB,zC,i64_w,i32_w]
            rfl
           refine pure_ (i := 14) (N := some 27) (v := ?_) (a' := ?_) #[true,true,true,true,true,true,true,true,true,true,true,true,true,true,true,false] rfl rfl (q0q HT_.out (by kernel_rfl)) (fun _ _ _ h => h) (Or.inl ⟨by rfl,?_⟩) ?_ ?_
           rotate_left
           ·intro w'
            go_simp
            with_reducible rfl
           rotate_left
           ·simp only [Act.put,zA,zB,zC,i64_w,i32_w]
            rfl
           refine pure_ (i := 15) (N := some 28) (v := ?_) (a' := ?_) #[true,true,true,true,true,true,true,true,true,true,true,true,true,true,true,true] rfl rfl (q0q HT_.out (by kernel_rfl)) (fun _ _ _ h => h) (Or.inl ⟨by rfl,?_⟩) ?_ ?_
           rotate_left
           ·intro w'
            go_simp
            with_reducible rfl
           rotate_left
           ·simp only [Act.put,zA,zB,zC,i64_w,i32_w]
            rfl
           refine done_ (done_of HT_.out (by kernel_rfl)) ?_
           try go_wp2
           go_roundg k2
           case measure => have := HK1.out;have := HK2.out;omega
           case rel => exact ⟨(wrap64 (x5_2 + 1)),(by first | rfl | (simp;done) | (simp [*];done)),H',⟨by have := HK1.out;have := HK2.out;omega⟩,⟨by (with_reducible repeat (first | apply Kd.V_alloc | apply Kd.V_drewN | apply Kd.V_drew));exact HO_0.out⟩,⟨by (with_reducible repeat (first | apply Kd.N_alloc | apply Kd.N_drewN | apply Kd.N_drew));exact HO_3.out⟩,⟨by repeat (first | (with_reducible first | exact HB.out | apply q0b | apply q0a | apply q0c) | exact HB.out)⟩⟩
          ·rw [if_neg c8] at H
           have c8b0 : decide (t243 < 0) = false := decide_eq_false c8
           clear c8
           replace H := Option.bind_eq_some_iff.mp H
           obtain ⟨t246,A120,H⟩ := H
           replace H : (if t246 = true then (verdererref02_Sort.l0 k2 l0 x3_1 (wrap64 (x4_1 + 1))) else (if x5_2 ≤ (x3_1.length : Int) then ((some (x3_1.take (x5_2 : Int).toNat : List (List (S66)))).bind fun y247 => (if ([] : List (List (S66))).length + y247.length < 5864062014805 then ((some (([] : List (List (S66))) ++ y247 : List (List (S66)))).bind fun y252 => (if y252.length < 5864062014805 then ((some (y252 ++ [rd_L4 l0 x4_1] : List (List (S66)))).bind fun y256 => ((some (x3_1.drop (x5_2 : Int).toNat : List (List (S66)))).bind fun y259 => (if y256.length + y259.length < 5864062014805 then (verdererref02_Sort.l0 k2 l0 (y256 ++ y259) (wrap64 (x4_1 + 1))) else (none)))) else (none))) else (none))) else (none))) = some r := H
           have A12 := Aside0.mk A120
           clear A120
           by_cases c13 : t246 = true
           ·subst c13
            have H1 : (verdererref02_Sort.l0 k2 l0 x3_1 (wrap64 (x4_1 + 1))) = some r := by rw [if_pos rfl] at H;exact H
            clear H
            have H := H1
            clear H1
            have H' := Aside0.mk H
            clear H
            try go_wp2
            have n0_ := Aside0.mk (Kd.V_drew HO_0.out)
            have n1_ := Aside0.mk (Kd.N_drew HO_3.out)
            have n2_ := Aside0.mk (q0c HB.out)
            clear HO_0
            clear HO_3
            clear HB
            have HO_0 := n0_
            have HO_3 := n1_
            have HB := n2_
            clear n0_ n1_ n2_
            obtain ⟨Ao15,co15,eo15⟩ := Kd.N_slice HO_3.out
            (first | subst eo15 | (injection eo15 with f1_ f2_ f3_;have f4_ := f1_.symm;have f5_ := f3_.symm;clear f1_ f2_ f3_;subst f4_;subst f5_))
            have p241 : 0 ≤ (x5_2 : Int) := of_decide_eq_true (by first | (with_reducible assumption) | assumption)
            have q241 : x5_2 < (x3_1.length : Int) := of_decide_eq_true (by first | (with_reducible assumption) | assumption)
            obtain ⟨ad241,A241_0,c241_0,e241,hx241_0,hl241_0,hi241_0⟩ := at_L4 (Kd.N_reads' HO_3.out).2.2 x5_2 p241 q241
            cases e241
            obtain ⟨ce241,hce241,hMe241,hcc241⟩ := Kd.N_get HO_3.out [] x5_2 p241 (by first | exact q241 | exact of_decide_eq_true (by first | (with_reducible assumption) | assumption) | (have e_ := (Kd.N_reads' HO_3.out).1;omega))
            obtain ⟨ua241_0,uc241_0,rfl,ul241_0,ge241_0⟩ := Kd.FK_slice_open hMe241
            have hv241_0 := hcc241 0 _ rfl
            rw [Nat.add_zero,show ((Kd.slice 66 k66)).sz = 1 from rfl,Nat.mul_one] at hv241_0
            replace hv241_0 := Option.some.inj (hv241_0.symm.trans hx241_0)
            injection hv241_0 with hva_ hvn_ hvc_
            rw [hva_] at ge241_0
            rw [hvc_] at ul241_0
            have HL241_0 := Aside0.mk (show Kd.V k66 66 _ w.heap.size _ _ (rd_L4 x3_1 x5_2) from Kd.V_mk ul241_0 ge241_0)
            clear hva_ hvn_ hvc_ ge241_0 ul241_0
            clear hcc241 hce241
            have HR241_0 := Aside0.mk hi241_0
            have HC241_0 := Aside0.mk hl241_0
            clear hi241_0 hl241_0
            replace p241 := eq_true p241
            replace q241 := eq_true q241
            have p242 : 0 ≤ (x4_1 : Int) := of_decide_eq_true (by first | (with_reducible assumption) | assumption)
            have q242 : x4_1 < (l0.length : Int) := of_decide_eq_true (by first | (with_reducible assumption) | assumption)
            obtain ⟨ad242,A242_0,c242_0,e242,hx242_0,hl242_0,hi242_0⟩ := at_L4 (Kd.V_reads' HO_0.out).2.2 x4_1 p242 q242
            cases e242
            obtain ⟨ce242,hce242,hMe242,hcc242⟩ := Kd.V_get HO_0.out [] x4_1 p242 (by first | exact q242 | exact of_decide_eq_true (by first | (with_reducible assumption) | assumption) | (have e_ := (Kd.V_reads' HO_0.out).1;omega))
            obtain ⟨ua242_0,uc242_0,rfl,ul242_0,ge242_0⟩ := Kd.FK_slice_open hMe242
            have hv242_0 := hcc242 0 _ rfl
            rw [Nat.add_zero,show ((Kd.slice 66 k66)).sz = 1 from rfl,Nat.mul_one] at hv242_0
            replace hv242_0 := Option.some.inj (hv242_0.symm.trans hx242_0)
            injection hv242_0 with hva_ hvn_ hvc_
            rw [hva_] at ge242_0
            rw [hvc_] at ul242_0
            have HL242_0 := Aside0.mk (show Kd.V k66 66 _ w.heap.size _ _ (rd_L4 l0 x4_1) from Kd.V_mk ul242_0 ge242_0)
            clear hva_ hvn_ hvc_ ge242_0 ul242_0
            clear hcc242 hce242
            have HR242_0 := Aside0.mk hi242_0
            have HC242_0 := Aside0.mk hl242_0
            clear hi242_0 hl242_0
            replace p242 := eq_true p242
            replace q242 := eq_true q242
            refine start_ (n := 16) (S := fun w' => w'.cell? (ad241.add (x5_2).toNat) = some (.slice A241_0 (rd_L4 x3_1 x5_2).length c241_0) ∧ w'.cell? (ad242.add (x4_1).toNat) = some (.slice A242_0 (rd_L4 l0 x4_1).length c242_0)) (ds := []) #[false,false,false,false,false,false,false,false,false,false,false,false,false,false,false,false] (by kernel_rfl) rfl rfl ⟨hx241_0,hx242_0⟩ (fun hHeld => ?_);refine with_tabW verdererref02_Sort.tab6 verdererref02_Sort.bits6 (fun HT_ HW_ => ?_)
            generalize wr.drew = w14 at HO_0 HO_3 HB HL241_0 HL242_0 HR241_0 HR242_0 hx241_0 hx242_0 hHeld ⊢
            refine pure_ (i := 0) (N := some 13) (v := ?_) (a' := ?_) #[true,false,false,false,false,false,false,false,false,false,false,false,false,false,false,false] rfl rfl (q0q HT_.out (by kernel_rfl)) (fun _ _ _ h => h) (Or.inl ⟨by rfl,?_⟩) ?_ ?_
            rotate_left
            ·intro w'
             go_simp
             with_reducible rfl
            rotate_left
            ·simp only [Act.put,zA,zB,zC,i64_w,i32_w]
             rfl
            refine pure_ (i := 1) (N := some 14) (v := ?_) (a' := ?_) #[true,true,false,false,false,false,false,false,false,false,false,false,false,false,false,false] rfl rfl (q0q HT_.out (by kernel_rfl)) (fun _ _ _ h => h) (Or.inl ⟨by rfl,?_⟩) ?_ ?_
            rotate_left
            ·intro w'
             go_simp
             with_reducible rfl
            rotate_left
            ·simp only [Act.put,zA,zB,zC,i64_w,i32_w]
             rfl
            refine pure_ (i := 2) (N := some 15) (v := ?_) (a' := ?_) #[true,true,true,false,false,false,false,false,false,false,false,false,false,false,false,false] rfl rfl (q0q HT_.out (by kernel_rfl)) (fun _ _ _ h => h) (Or.inl ⟨by rfl,?_⟩) ?_ ?_
            rotate_left
            ·intro w'
             go_simp
             with_reducible rfl
            rotate_left
            ·simp only [Act.put,zA,zB,zC,i64_w,i32_w]
             rfl
            refine pure_ (i := 3) (N := some 16) (v := ?_) (a' := ?_) #[true,true,true,true,false,false,false,false,false,false,false,false,false,false,false,false] rfl rfl (q0q HT_.out (by kernel_rfl)) (fun _ _ _ h => h) (Or.inl ⟨by rfl,?_⟩) ?_ ?_
            rotate_left
            ·intro w'
             go_simp
             with_reducible rfl
            rotate_left
            ·simp only [Act.put,zA,zB,zC,i64_w,i32_w]
             rfl
            refine pure_ (i := 4) (N := some 17) (v := ?_) (a' := ?_) #[true,true,true,true,true,false,false,false,false,false,false,false,false,false,false,false] rfl rfl (q0q HT_.out (by kernel_rfl)) (fun _ _ _ h => h) (Or.inl ⟨by rfl,?_⟩) ?_ ?_
            rotate_left
            ·intro w'
             go_simp
             with_reducible rfl
            rotate_left
            ·simp only [Act.put,zA,zB,zC,i64_w,i32_w]
             rfl
            refine pure_ (i := 5) (N := some 18) (v := ?_) (a' := ?_) #[true,true,true,true,true,true,false,false,false,false,false,false,false,false,false,false] rfl rfl (q0q HT_.out (by kernel_rfl)) (fun _ _ _ h => h) (Or.inl ⟨by rfl,?_⟩) ?_ ?_
            rotate_left
            ·intro w'
             go_simp
             with_reducible rfl
            rotate_left
            ·simp only [Act.put,zA,zB,zC,i64_w,i32_w]
             rfl
            refine pure_ (i := 6) (N := some 19) (v := ?_) (a' := ?_) #[true,true,true,true,true,true,true,false,false,false,false,false,false,false,false,false] rfl rfl (q0q HT_.out (by kernel_rfl)) (fun _ _ _ h => h) (Or.inl ⟨by rfl,?_⟩) ?_ ?_
            rotate_left
            ·intro w'
             go_simp
             with_reducible rfl
            rotate_left
            ·simp only [Act.put,zA,zB,zC,i64_w,i32_w]
             rfl
            refine pure_ (i := 7) (N := some 20) (v := ?_) (a' := ?_) #[true,true,true,true,true,true,true,true,false,false,false,false,false,false,false,false] rfl rfl (q0q HT_.out (by kernel_rfl)) (fun _ _ _ h => h) (Or.inl ⟨by rfl,?_⟩) ?_ ?_
            rotate_left
            ·intro w'
             go_simp
             with_reducible rfl
            rotate_left
            ·simp only [Act.put,zA,zB,zC,i64_w,i32_w]
             rfl
            refine pure_ (i := 9) (N := some 22) (v := ?_) (a' := ?_) #[true,true,true,true,true,true,true,true,false,true,false,false,false,false,false,false] rfl rfl (q0q HT_.out (by kernel_rfl)) (fun _ _ _ h => h) (Or.inl ⟨by rfl,?_⟩) ?_ ?_
            rotate_left
            ·intro w'
             go_simp
             with_reducible rfl
            rotate_left
            ·simp only [Act.put,zA,zB,zC,i64_w,i32_w]
             rfl
            refine pure_ (i := 10) (N := some 23) (v := ?_) (a' := ?_) #[true,true,true,true,true,true,true,true,false,true,true,false,false,false,false,false] rfl rfl (q0q HT_.out (by kernel_rfl)) (fun _ _ _ h => h) (Or.inl ⟨by rfl,?_⟩) ?_ ?_
            rotate_left
            ·intro w'
             go_simp
             with_reducible rfl
            rotate_left
            ·simp only [Act.put,zA,zB,zC,i64_w,i32_w]
             rfl
            refine pure_ (i := 11) (N := some 24) (v := ?_) (a' := ?_) #[true,true,true,true,true,true,true,true,false,true,true,true,false,false,false,false] rfl rfl (q0q HT_.out (by kernel_rfl)) (fun _ _ _ h => h) (Or.inl ⟨by rfl,?_⟩) ?_ ?_
            rotate_left
            ·intro w'
             go_simp
             with_reducible rfl
            rotate_left
            ·simp only [Act.put,zA,zB,zC,i64_w,i32_w]
             rfl
            refine take_ (i := 8) (N := some 21) (v := ?_) (a' := ?_) #[true,true,true,true,true,true,true,true,true,true,true,true,false,false,false,false] rfl rfl (take_ofW HT_.out HW_.out (by kernel_rfl)) (fun _ _ _ h => h) (Or.inl ⟨by rfl,?_⟩) hHeld ?_ ?_
            rotate_left
            ·rintro w' ⟨s0,s1⟩
             go_simp
             with_reducible rfl
            rotate_left
            ·simp only [Act.put,zA,zB,zC,i64_w,i32_w]
             rfl
            refine take_ (i := 12) (N := some 25) (v := ?_) (a' := ?_) #[true,true,true,true,true,true,true,true,true,true,true,true,true,false,false,false] rfl rfl (take_ofW HT_.out HW_.out (by kernel_rfl)) (fun _ _ _ h => h) (Or.inl ⟨by rfl,?_⟩) hHeld ?_ ?_
            rotate_left
            ·rintro w' ⟨s0,s1⟩
             go_simp
             with_reducible rfl
            rotate_left
            ·simp only [Act.put,zA,zB,zC,i64_w,i32_w]
             rfl
            refine one_ (i := 13) (N := some 26) #[true,true,true,true,true,true,true,true,true,true,true,true,true,true,false,false] rfl rfl (one_of HT_.out (by kernel_rfl)) (by decide) (fun K hK => ?_)
            refine goes_ Try.func96 (by kernel_rfl) rfl #[.slice A241_0 (rd_L4 x3_1 x5_2).length c241_0,.slice A242_0 (rd_L4 l0 x4_1).length c242_0] (by rfl) rfl rfl (by (try simp only [List.map_toArray,List.map_cons,List.map_nil]);first | done | rfl | (simp only [List.length_drop,List.length_take];rfl)) ?_
            with_reducible refine (verdererref02_Compare.calls k2 _ _ (rd_L4 x3_1 x5_2) _ _ (rd_L4 l0 x4_1) t243 _ ?side1 ?side2 ?side3 ?side4 A7.out).mono ?_
            (case side1 => repeat (first | exact (by repeat (first | (with_reducible exact HR241_0.out) | (with_reducible refine Kd.C_alloc ?_ _) | (with_reducible refine Kd.C_drewN ?_ _) | (with_reducible refine Kd.C_drew ?_) | exact HR241_0.out)) | (with_reducible refine Kd.C_alloc ?_ _) | (with_reducible refine Kd.C_drewN ?_ _) | (with_reducible refine Kd.C_drew ?_)))
            (case side2 => exact HC241_0.out)
            (case side3 => repeat (first | exact (by repeat (first | (with_reducible exact HR242_0.out) | (with_reducible refine Kd.C_alloc ?_ _) | (with_reducible refine Kd.C_drewN ?_ _) | (with_reducible refine Kd.C_drew ?_) | exact HR242_0.out)) | (with_reducible refine Kd.C_alloc ?_ _) | (with_reducible refine Kd.C_drewN ?_ _) | (with_reducible refine Kd.C_drew ?_)))
            (case side4 => exact HC242_0.out)
            rintro e w16 ⟨rfl,hb⟩
            have HS0_ := (hb.cell (World.block_lt_of_cell? _ _ (hHeld.1))).trans (hHeld.1)
            have HS1_ := (hb.cell (World.block_lt_of_cell? _ _ (hHeld.2))).trans (hHeld.2)
            refine ⟨_,rfl,?_⟩
            have n0_ := Aside0.mk (Kd.V_below (by (with_reducible repeat (first | apply Kd.V_alloc | apply Kd.V_drewN | apply Kd.V_drew));exact HO_0.out) hb)
            have n1_ := Aside0.mk (Kd.N_below (by (with_reducible repeat (first | apply Kd.N_alloc | apply Kd.N_drewN | apply Kd.N_drew));exact HO_3.out) hb)
            have n2_ := Aside0.mk (Kd.V_below (by (with_reducible repeat (first | apply Kd.V_alloc | apply Kd.V_drewN | apply Kd.V_drew));exact HL241_0.out) hb)
            have n3_ := Aside0.mk (Kd.V_below (by (with_reducible repeat (first | apply Kd.V_alloc | apply Kd.V_drewN | apply Kd.V_drew));exact HL242_0.out) hb)
            have n4_ := Aside0.mk (Kd.C_below (by repeat (first | (with_reducible exact HR241_0.out) | (with_reducible refine Kd.C_alloc ?_ _) | (with_reducible refine Kd.C_drewN ?_ _) | (with_reducible refine Kd.C_drew ?_) | exact HR241_0.out)) hb)
            have n5_ := Aside0.mk (Kd.C_below (by repeat (first | (with_reducible exact HR242_0.out) | (with_reducible refine Kd.C_alloc ?_ _) | (with_reducible refine Kd.C_drewN ?_ _) | (with_reducible refine Kd.C_drew ?_) | exact HR242_0.out)) hb)
            have n6_ := Aside0.mk (q0n (by repeat (first | (with_reducible first | exact HB.out | apply q0b | apply q0a | apply q0c) | exact HB.out)) hb)
            clear HO_0
            clear HO_3
            clear HL241_0
            clear HL242_0
            clear HR241_0
            clear HR242_0
            clear HB
            have HO_0 := n0_
            have HO_3 := n1_
            have HL241_0 := n2_
            have HL242_0 := n3_
            have HR241_0 := n4_
            have HR242_0 := n5_
            have HB := n6_
            clear n0_ n1_ n2_ n3_ n4_ n5_ n6_
            (try clear hb)
            (try clear hb2)
            (try clear hk)
            (try clear hi)
            refine hK.out _ _ ⟨HS0_,HS1_⟩ (fun hHeld => ?_)
            clear hK K
            refine norm_ (a' := ?_) ?_ ?_
            rotate_left
            ·show Act.put _ (some 26) _ = _
             simp only [Act.put,zA,zB,zC,i64_w,i32_w]
             rfl
            refine pure_ (i := 14) (N := some 27) (v := ?_) (a' := ?_) #[true,true,true,true,true,true,true,true,true,true,true,true,true,true,true,false] rfl rfl (q0q HT_.out (by kernel_rfl)) (fun _ _ _ h => h) (Or.inl ⟨by rfl,?_⟩) ?_ ?_
            rotate_left
            ·intro w'
             go_simp
             with_reducible rfl
            rotate_left
            ·simp only [Act.put,zA,zB,zC,i64_w,i32_w]
             rfl
            refine pure_ (i := 15) (N := some 28) (v := ?_) (a' := ?_) #[true,true,true,true,true,true,true,true,true,true,true,true,true,true,true,true] rfl rfl (q0q HT_.out (by kernel_rfl)) (fun _ _ _ h => h) (Or.inl ⟨by rfl,?_⟩) ?_ ?_
            rotate_left
            ·intro w'
             go_simp
             with_reducible rfl
            rotate_left
            ·simp only [Act.put,zA,zB,zC,i64_w,i32_w]
             rfl
            refine done_ (done_of HT_.out (by kernel_rfl)) ?_
            try go_wp2
            have n0_ := Aside0.mk (Kd.V_drew HO_0.out)
            have n1_ := Aside0.mk (Kd.N_drew HO_3.out)
            have n2_ := Aside0.mk (Kd.V_drew HL241_0.out)
            have n3_ := Aside0.mk (Kd.V_drew HL242_0.out)
            have n4_ := Aside0.mk (Kd.C_drew HR241_0.out)
            have n5_ := Aside0.mk (Kd.C_drew HR242_0.out)
            have n6_ := Aside0.mk (q0c HB.out)
            clear HO_0
            clear HO_3
            clear HL241_0
            clear HL242_0
            clear HR241_0
            clear HR242_0
            clear HB
            have HO_0 := n0_
            have HO_3 := n1_
            have HL241_0 := n2_
            have HL242_0 := n3_
            have HR241_0 := n4_
            have HR242_0 := n5_
            have HB := n6_
            clear n0_ n1_ n2_ n3_ n4_ n5_ n6_
            have p244 : 0 ≤ (x5_2 : Int) := of_decide_eq_true (by first | (with_reducible assumption) | assumption)
            have q244 : x5_2 < (x3_1.length : Int) := of_decide_eq_true (by first | (with_reducible assumption) | assumption)
            obtain ⟨ad244,A244_0,c244_0,e244,hx244_0,hl244_0,hi244_0⟩ := at_L4 (Kd.N_reads' HO_3.out).2.2 x5_2 p244 q244
            obtain rfl : ad241 = ad244 := (by injection e244)
            obtain ⟨ce244,hce244,hMe244,hcc244⟩ := Kd.N_get HO_3.out [] x5_2 p244 (by first | exact q244 | exact of_decide_eq_true (by first | (with_reducible assumption) | assumption) | (have e_ := (Kd.N_reads' HO_3.out).1;omega))
            obtain ⟨ua244_0,uc244_0,rfl,ul244_0,ge244_0⟩ := Kd.FK_slice_open hMe244
            have hv244_0 := hcc244 0 _ rfl
            rw [Nat.add_zero,show ((Kd.slice 66 k66)).sz = 1 from rfl,Nat.mul_one] at hv244_0
            replace hv244_0 := Option.some.inj (hv244_0.symm.trans hx244_0)
            injection hv244_0 with hva_ hvn_ hvc_
            rw [hva_] at ge244_0
            rw [hvc_] at ul244_0
            have HL244_0 := Aside0.mk (show Kd.V k66 66 _ w.heap.size _ _ (rd_L4 x3_1 x5_2) from Kd.V_mk ul244_0 ge244_0)
            clear hva_ hvn_ hvc_ ge244_0 ul244_0
            clear hcc244 hce244
            have HR244_0 := Aside0.mk hi244_0
            have HC244_0 := Aside0.mk hl244_0
            clear hi244_0 hl244_0
            replace p244 := eq_true p244
            replace q244 := eq_true q244
            have p245 : 0 ≤ (x4_1 : Int) := of_decide_eq_true (by first | (with_reducible assumption) | assumption)
            have q245 : x4_1 < (l0.length : Int) := of_decide_eq_true (by first | (with_reducible assumption) | assumption)
            obtain ⟨ad245,A245_0,c245_0,e245,hx245_0,hl245_0,hi245_0⟩ := at_L4 (Kd.V_reads' HO_0.out).2.2 x4_1 p245 q245
            obtain rfl : ad242 = ad245 := (by injection e245)
            obtain ⟨ce245,hce245,hMe245,hcc245⟩ := Kd.V_get HO_0.out [] x4_1 p245 (by first | exact q245 | exact of_decide_eq_true (by first | (with_reducible assumption) | assumption) | (have e_ := (Kd.V_reads' HO_0.out).1;omega))
            obtain ⟨ua245_0,uc245_0,rfl,ul245_0,ge245_0⟩ := Kd.FK_slice_open hMe245
            have hv245_0 := hcc245 0 _ rfl
            rw [Nat.add_zero,show ((Kd.slice 66 k66)).sz = 1 from rfl,Nat.mul_one] at hv245_0
            replace hv245_0 := Option.some.inj (hv245_0.symm.trans hx245_0)
            injection hv245_0 with hva_ hvn_ hvc_
            rw [hva_] at ge245_0
            rw [hvc_] at ul245_0
            have HL245_0 := Aside0.mk (show Kd.V k66 66 _ w.heap.size _ _ (rd_L4 l0 x4_1) from Kd.V_mk ul245_0 ge245_0)
            clear hva_ hvn_ hvc_ ge245_0 ul245_0
            clear hcc245 hce245
            have HR245_0 := Aside0.mk hi245_0
            have HC245_0 := Aside0.mk hl245_0
            clear hi245_0 hl245_0
            replace p245 := eq_true p245
            replace q245 := eq_true q245
            refine start_ (n := 15) (S := fun w' => w'.cell? (ad241.add (x5_2).toNat) = some (.slice A244_0 (rd_L4 x3_1 x5_2).length c244_0) ∧ w'.cell? (ad242.add (x4_1).toNat) = some (.slice A245_0 (rd_L4 l0 x4_1).length c245_0)) (ds := []) #[false,false,false,false,false,false,false,false,false,false,false,false,false,false,false] (by kernel_rfl) rfl rfl ⟨hx244_0,hx245_0⟩ (fun hHeld => ?_);refine with_tabW verdererref02_Sort.tab8 verdererref02_Sort.bits8 (fun HT_ HW_ => ?_)
            generalize w16.drew = w17 at HO_0 HO_3 HL241_0 HL242_0 HR241_0 HR242_0 HB HL244_0 HL245_0 HR244_0 HR245_0 hx244_0 hx245_0 hHeld ⊢
            refine pure_ (i := 0) (N := some 31) (v := ?_) (a' := ?_) #[true,false,false,false,false,false,false,false,false,false,false,false,false,false,false] rfl rfl (q0q HT_.out (by kernel_rfl)) (fun _ _ _ h => h) (Or.inl ⟨by rfl,?_⟩) ?_ ?_
            rotate_left
            ·intro w'
             go_simp
             with_reducible rfl
            rotate_left
            ·simp only [Act.put,zA,zB,zC,i64_w,i32_w]
             rfl
            refine pure_ (i := 1) (N := some 32) (v := ?_) (a' := ?_) #[true,true,false,false,false,false,false,false,false,false,false,false,false,false,false] rfl rfl (q0q HT_.out (by kernel_rfl)) (fun _ _ _ h => h) (Or.inl ⟨by rfl,?_⟩) ?_ ?_
            rotate_left
            ·intro w'
             go_simp
             with_reducible rfl
            rotate_left
            ·simp only [Act.put,zA,zB,zC,i64_w,i32_w]
             rfl
            refine pure_ (i := 2) (N := some 33) (v := ?_) (a' := ?_) #[true,true,true,false,false,false,false,false,false,false,false,false,false,false,false] rfl rfl (q0q HT_.out (by kernel_rfl)) (fun _ _ _ h => h) (Or.inl ⟨by rfl,?_⟩) ?_ ?_
            rotate_left
            ·intro w'
             go_simp
             with_reducible rfl
            rotate_left
            ·simp only [Act.put,zA,zB,zC,i64_w,i32_w]
             rfl
            refine pure_ (i := 3) (N := some 34) (v := ?_) (a' := ?_) #[true,true,true,true,false,false,false,false,false,false,false,false,false,false,false] rfl rfl (q0q HT_.out (by kernel_rfl)) (fun _ _ _ h => h) (Or.inl ⟨by rfl,?_⟩) ?_ ?_
            rotate_left
            ·intro w'
             go_simp
             with_reducible rfl
            rotate_left
            ·simp only [Act.put,zA,zB,zC,i64_w,i32_w]
             rfl
            refine pure_ (i := 4) (N := some 35) (v := ?_) (a' := ?_) #[true,true,true,true,true,false,false,false,false,false,false,false,false,false,false] rfl rfl (q0q HT_.out (by kernel_rfl)) (fun _ _ _ h => h) (Or.inl ⟨by rfl,?_⟩) ?_ ?_
            rotate_left
            ·intro w'
             go_simp
             with_reducible rfl
            rotate_left
            ·simp only [Act.put,zA,zB,zC,i64_w,i32_w]
             rfl
            refine pure_ (i := 5) (N := some 36) (v := ?_) (a' := ?_) #[true,true,true,true,true,true,false,false,false,false,false,false,false,false,false] rfl rfl (q0q HT_.out (by kernel_rfl)) (fun _ _ _ h => h) (Or.inl ⟨by rfl,?_⟩) ?_ ?_
            rotate_left
            ·intro w'
             go_simp
             with_reducible rfl
            rotate_left
            ·simp only [Act.put,zA,zB,zC,i64_w,i32_w]
             rfl
            refine pure_ (i := 6) (N := some 37) (v := ?_) (a' := ?_) #[true,true,true,true,true,true,true,false,false,false,false,false,false,false,false] rfl rfl (q0q HT_.out (by kernel_rfl)) (fun _ _ _ h => h) (Or.inl ⟨by rfl,?_⟩) ?_ ?_
            rotate_left
            ·intro w'
             go_simp
             with_reducible rfl
            rotate_left
            ·simp only [Act.put,zA,zB,zC,i64_w,i32_w]
             rfl
            refine pure_ (i := 7) (N := some 38) (v := ?_) (a' := ?_) #[true,true,true,true,true,true,true,true,false,false,false,false,false,false,false] rfl rfl (q0q HT_.out (by kernel_rfl)) (fun _ _ _ h => h) (Or.inl ⟨by rfl,?_⟩) ?_ ?_
            rotate_left
            ·intro w'
             go_simp
             with_reducible rfl
            rotate_left
            ·simp only [Act.put,zA,zB,zC,i64_w,i32_w]
             rfl
            refine pure_ (i := 9) (N := some 40) (v := ?_) (a' := ?_) #[true,true,true,true,true,true,true,true,false,true,false,false,false,false,false] rfl rfl (q0q HT_.out (by kernel_rfl)) (fun _ _ _ h => h) (Or.inl ⟨by rfl,?_⟩) ?_ ?_
            rotate_left
            ·intro w'
             go_simp
             with_reducible rfl
            rotate_left
            ·simp only [Act.put,zA,zB,zC,i64_w,i32_w]
             rfl
            refine pure_ (i := 10) (N := some 41) (v := ?_) (a' := ?_) #[true,true,true,true,true,true,true,true,false,true,true,false,false,false,false] rfl rfl (q0q HT_.out (by kernel_rfl)) (fun _ _ _ h => h) (Or.inl ⟨by rfl,?_⟩) ?_ ?_
            rotate_left
            ·intro w'
             go_simp
             with_reducible rfl
            rotate_left
            ·simp only [Act.put,zA,zB,zC,i64_w,i32_w]
             rfl
            refine pure_ (i := 11) (N := some 42) (v := ?_) (a' := ?_) #[true,true,true,true,true,true,true,true,false,true,true,true,false,false,false] rfl rfl (q0q HT_.out (by kernel_rfl)) (fun _ _ _ h => h) (Or.inl ⟨by rfl,?_⟩) ?_ ?_
            rotate_left
            ·intro w'
             go_simp
             with_reducible rfl
            rotate_left
            ·simp only [Act.put,zA,zB,zC,i64_w,i32_w]
             rfl
            refine take_ (i := 8) (N := some 39) (v := ?_) (a' := ?_) #[true,true,true,true,true,true,true,true,true,true,true,true,false,false,false] rfl rfl (take_ofW HT_.out HW_.out (by kernel_rfl)) (fun _ _ _ h => h) (Or.inl ⟨by rfl,?_⟩) hHeld ?_ ?_
            rotate_left
            ·rintro w' ⟨s0,s1⟩
             go_simp
             with_reducible rfl
            rotate_left
            ·simp only [Act.put,zA,zB,zC,i64_w,i32_w]
             rfl
            refine take_ (i := 12) (N := some 43) (v := ?_) (a' := ?_) #[true,true,true,true,true,true,true,true,true,true,true,true,true,false,false] rfl rfl (take_ofW HT_.out HW_.out (by kernel_rfl)) (fun _ _ _ h => h) (Or.inl ⟨by rfl,?_⟩) hHeld ?_ ?_
            rotate_left
            ·rintro w' ⟨s0,s1⟩
             go_simp
             with_reducible rfl
            rotate_left
            ·simp only [Act.put,zA,zB,zC,i64_w,i32_w]
             rfl
            refine one_ (i := 13) (N := some 44) #[true,true,true,true,true,true,true,true,true,true,true,true,true,true,false] rfl rfl (one_of HT_.out (by kernel_rfl)) (by decide) (fun K hK => ?_)
            refine goes_ Try.func84 (by kernel_rfl) rfl #[.slice A244_0 (rd_L4 x3_1 x5_2).length c244_0,.slice A245_0 (rd_L4 l0 x4_1).length c245_0] (by rfl) rfl rfl (by (try simp only [List.map_toArray,List.map_cons,List.map_nil]);first | done | rfl | (simp only [List.length_drop,List.length_take];rfl)) ?_
            with_reducible refine (verdererref02_Same.calls k2 _ _ (rd_L4 x3_1 x5_2) _ _ (rd_L4 l0 x4_1) true _ ?side1 ?side2 ?side3 ?side4 A12.out).mono ?_
            (case side1 => repeat (first | exact (by repeat (first | (with_reducible exact HR244_0.out) | (with_reducible refine Kd.C_alloc ?_ _) | (with_reducible refine Kd.C_drewN ?_ _) | (with_reducible refine Kd.C_drew ?_) | exact HR244_0.out)) | (with_reducible refine Kd.C_alloc ?_ _) | (with_reducible refine Kd.C_drewN ?_ _) | (with_reducible refine Kd.C_drew ?_)))
            (case side2 => exact HC244_0.out)
            (case side3 => repeat (first | exact (by repeat (first | (with_reducible exact HR245_0.out) | (with_reducible refine Kd.C_alloc ?_ _) | (with_reducible refine Kd.C_drewN ?_ _) | (with_reducible refine Kd.C_drew ?_) | exact HR245_0.out)) | (with_reducible refine Kd.C_alloc ?_ _) | (with_reducible refine Kd.C_drewN ?_ _) | (with_reducible refine Kd.C_drew ?_)))
            (case side4 => exact HC245_0.out)
            rintro e w18 ⟨rfl,hb⟩
            have HS0_ := (hb.cell (World.block_lt_of_cell? _ _ (hHeld.1))).trans (hHeld.1)
            have HS1_ := (hb.cell (World.block_lt_of_cell? _ _ (hHeld.2))).trans (hHeld.2)
            refine ⟨_,rfl,?_⟩
            have n0_ := Aside0.mk (Kd.V_below (by (with_reducible repeat (first | apply Kd.V_alloc | apply Kd.V_drewN | apply Kd.V_drew));exact HO_0.out) hb)
            have n1_ := Aside0.mk (Kd.N_below (by (with_reducible repeat (first | apply Kd.N_alloc | apply Kd.N_drewN | apply Kd.N_drew));exact HO_3.out) hb)
            have n2_ := Aside0.mk (Kd.V_below (by (with_reducible repeat (first | apply Kd.V_alloc | apply Kd.V_drewN | apply Kd.V_drew));exact HL241_0.out) hb)
            have n3_ := Aside0.mk (Kd.V_below (by (with_reducible repeat (first | apply Kd.V_alloc | apply Kd.V_drewN | apply Kd.V_drew));exact HL242_0.out) hb)
            have n4_ := Aside0.mk (Kd.V_below (by (with_reducible repeat (first | apply Kd.V_alloc | apply Kd.V_drewN | apply Kd.V_drew));exact HL244_0.out) hb)
            have n5_ := Aside0.mk (Kd.V_below (by (with_reducible repeat (first | apply Kd.V_alloc | apply Kd.V_drewN | apply Kd.V_drew));exact HL245_0.out) hb)
            have n6_ := Aside0.mk (Kd.C_below (by repeat (first | (with_reducible exact HR241_0.out) | (with_reducible refine Kd.C_alloc ?_ _) | (with_reducible refine Kd.C_drewN ?_ _) | (with_reducible refine Kd.C_drew ?_) | exact HR241_0.out)) hb)
            have n7_ := Aside0.mk (Kd.C_below (by repeat (first | (with_reducible exact HR242_0.out) | (with_reducible refine Kd.C_alloc ?_ _) | (with_reducible refine Kd.C_drewN ?_ _) | (with_reducible refine Kd.C_drew ?_) | exact HR242_0.out)) hb)
            have n8_ := Aside0.mk (Kd.C_below (by repeat (first | (with_reducible exact HR244_0.out) | (with_reducible refine Kd.C_alloc ?_ _) | (with_reducible refine Kd.C_drewN ?_ _) | (with_reducible refine Kd.C_drew ?_) | exact HR244_0.out)) hb)
            have n9_ := Aside0.mk (Kd.C_below (by repeat (first | (with_reducible exact HR245_0.out) | (with_reducible refine Kd.C_alloc ?_ _) | (with_reducible refine Kd.C_drewN ?_ _) | (with_reducible refine Kd.C_drew ?_) | exact HR245_0.out)) hb)
            have n10_ := Aside0.mk (q0n (by repeat (first | (with_reducible first | exact HB.out | apply q0b | apply q0a | apply q0c) | exact HB.out)) hb)
            clear HO_0
            clear HO_3
            clear HL241_0
            clear HL242_0
            clear HL244_0
            clear HL245_0
            clear HR241_0
            clear HR242_0
            clear HR244_0
            clear HR245_0
            clear HB
            have HO_0 := n0_
            have HO_3 := n1_
            have HL241_0 := n2_
            have HL242_0 := n3_
            have HL244_0 := n4_
            have HL245_0 := n5_
            have HR241_0 := n6_
            have HR242_0 := n7_
            have HR244_0 := n8_
            have HR245_0 := n9_
            have HB := n10_
            clear n0_ n1_ n2_ n3_ n4_ n5_ n6_ n7_ n8_ n9_ n10_
            (try clear hb)
            (try clear hb2)
            (try clear hk)
            (try clear hi)
            refine hK.out _ _ ⟨HS0_,HS1_⟩ (fun hHeld => ?_)
            clear hK K
            refine norm_ (a' := ?_) ?_ ?_
            rotate_left
            ·show Act.put _ (some 44) _ = _
             simp only [Act.put,zA,zB,zC,i64_w,i32_w]
             rfl
            refine pure_ (i := 14) (N := some 45) (v := ?_) (a' := ?_) #[true,true,true,true,true,true,true,true,true,true,true,true,true,true,true] rfl rfl (q0q HT_.out (by kernel_rfl)) (fun _ _ _ h => h) (Or.inl ⟨by rfl,?_⟩) ?_ ?_
            rotate_left
            ·intro w'
             go_simp
             with_reducible rfl
            rotate_left
            ·simp only [Act.put,zA,zB,zC,i64_w,i32_w]
             rfl
            refine done_ (done_of HT_.out (by kernel_rfl)) ?_
            try go_wp2
            go_roundg k2
            case measure => have := HK1.out;have := HK2.out;omega
            case rel => exact ⟨(x3_1),(wrap64 (x4_1 + 1)),(by first | rfl | (simp;done) | (simp [*];done)),H',⟨by have := HK1.out;have := HK2.out;omega⟩,⟨by (with_reducible repeat (first | apply Kd.V_alloc | apply Kd.V_drewN | apply Kd.V_drew));exact HO_0.out⟩,⟨by (with_reducible repeat (first | apply Kd.N_alloc | apply Kd.N_drewN | apply Kd.N_drew));exact HO_3.out⟩,⟨by repeat (first | (with_reducible first | exact HB.out | apply q0b | apply q0a | apply q0c) | exact HB.out)⟩⟩
           ·replace c13 := Bool.eq_false_iff.mpr c13
            subst c13
            have H1 : (if x5_2 ≤ (x3_1.length : Int) then ((some (x3_1.take (x5_2 : Int).toNat : List (List (S66)))).bind fun y247 => (if ([] : List (List (S66))).length + y247.length < 5864062014805 then ((some (([] : List (List (S66))) ++ y247 : List (List (S66)))).bind fun y252 => (if y252.length < 5864062014805 then ((some (y252 ++ [rd_L4 l0 x4_1] : List (List (S66)))).bind fun y256 => ((some (x3_1.drop (x5_2 : Int).toNat : List (List (S66)))).bind fun y259 => (if y256.length + y259.length < 5864062014805 then (verdererref02_Sort.l0 k2 l0 (y256 ++ y259) (wrap64 (x4_1 + 1))) else (none)))) else (none))) else (none))) else (none)) = some r := by rw [if_neg (show ¬ (false = true) by decide)] at H;exact H
            clear H
            have H := H1
            clear H1
            have c19b0 := eq_true (of_decide_eq_true (by first | (with_reducible assumption) | assumption) : 0 ≤ x5_2)
            by_cases c20 : x5_2 ≤ (x3_1.length : Int)
            ·rw [if_pos c20] at H
             have c20b0 := eq_true c20
             have c20b1 : decide (x5_2 ≤ (x3_1.length : Int)) = true := decide_eq_true c20
             clear c20
             obtain ⟨y247,hy247⟩ : ∃ y_ : List (List (S66)),y_ = (x3_1.take (x5_2 : Int).toNat) := ⟨_,rfl⟩
             replace H : (if ([] : List (List (S66))).length + y247.length < 5864062014805 then ((some (([] : List (List (S66))) ++ y247 : List (List (S66)))).bind fun y252 => (if y252.length < 5864062014805 then ((some (y252 ++ [rd_L4 l0 x4_1] : List (List (S66)))).bind fun y256 => ((some (x3_1.drop (x5_2 : Int).toNat : List (List (S66)))).bind fun y259 => (if y256.length + y259.length < 5864062014805 then (verdererref02_Sort.l0 k2 l0 (y256 ++ y259) (wrap64 (x4_1 + 1))) else (none)))) else (none))) else (none)) = some r := by first | (rw [hy247];with_reducible exact H) | (have H2_ := (Option.bind_some _ _).symm.trans H;rw [hy247];with_reducible exact H2_) | (have H2_ := (Option.bind_some _ _).symm.trans H;with_reducible exact H2_) | with_reducible exact H | (rw [hy247];exact H) | exact H
             have Ny247 := Aside0.mk hy247
             clear hy247
             by_cases c21 : ([] : List (List (S66))).length + y247.length < 5864062014805
             ·rw [if_pos c21] at H
              have LMc21 := Aside0.mk c21
              clear c21
              obtain ⟨y252,hy252⟩ : ∃ y_ : List (List (S66)),y_ = (([] : List (List (S66))) ++ y247) := ⟨_,rfl⟩
              replace H : (if y252.length < 5864062014805 then ((some (y252 ++ [rd_L4 l0 x4_1] : List (List (S66)))).bind fun y256 => ((some (x3_1.drop (x5_2 : Int).toNat : List (List (S66)))).bind fun y259 => (if y256.length + y259.length < 5864062014805 then (verdererref02_Sort.l0 k2 l0 (y256 ++ y259) (wrap64 (x4_1 + 1))) else (none)))) else (none)) = some r := by first | (rw [hy252];with_reducible exact H) | (have H2_ := (Option.bind_some _ _).symm.trans H;rw [hy252];with_reducible exact H2_) | (have H2_ := (Option.bind_some _ _).symm.trans H;with_reducible exact H2_) | with_reducible exact H | (rw [hy252];exact H) | exact H
              have Ny252 := Aside0.mk hy252
              clear hy252
              by_cases c22 : y252.length < 5864062014805
              ·rw [if_pos c22] at H
               have LMc22 := Aside0.mk c22
               clear c22
               obtain ⟨y256,hy256⟩ : ∃ y_ : List (List (S66)),y_ = (y252 ++ [rd_L4 l0 x4_1]) := ⟨_,rfl⟩
               replace H : ((some (x3_1.drop (x5_2 : Int).toNat : List (List (S66)))).bind fun y259 => (if y256.length + y259.length < 5864062014805 then (verdererref02_Sort.l0 k2 l0 (y256 ++ y259) (wrap64 (x4_1 + 1))) else (none))) = some r := by first | (rw [hy256];with_reducible exact H) | (have H2_ := (Option.bind_some _ _).symm.trans H;rw [hy256];with_reducible exact H2_) | (have H2_ := (Option.bind_some _ _).symm.trans H;with_reducible exact H2_) | with_reducible exact H | (rw [hy256];exact H) | exact H
               have Ny256 := Aside0.mk hy256
               clear hy256
               have c23b0 := eq_true (of_decide_eq_true (by first | (with_reducible assumption) | assumption) : 0 ≤ x5_2)
               have c24b0 := eq_true (of_decide_eq_true (by first | (with_reducible assumption) | assumption) : x5_2 ≤ (x3_1.length : Int))
               obtain ⟨y259,hy259⟩ : ∃ y_ : List (List (S66)),y_ = (x3_1.drop (x5_2 : Int).toNat) := ⟨_,rfl⟩
               replace H : (if y256.length + y259.length < 5864062014805 then (verdererref02_Sort.l0 k2 l0 (y256 ++ y259) (wrap64 (x4_1 + 1))) else (none)) = some r := by first | (rw [hy259];with_reducible exact H) | (have H2_ := (Option.bind_some _ _).symm.trans H;rw [hy259];with_reducible exact H2_) | (have H2_ := (Option.bind_some _ _).symm.trans H;with_reducible exact H2_) | with_reducible exact H | (rw [hy259];exact H) | exact H
               have Ny259 := Aside0.mk hy259
               clear hy259
               by_cases c25 : y256.length + y259.length < 5864062014805
               ·rw [if_pos c25] at H
                have LMc25 := Aside0.mk c25
                clear c25
                obtain ⟨y264,hy264⟩ : ∃ y_ : List (List (S66)),y_ = (y256 ++ y259) := ⟨_,rfl⟩
                replace H : (verdererref02_Sort.l0 k2 l0 y264 (wrap64 (x4_1 + 1))) = some r := by first | (rw [hy264];with_reducible exact H) | (have H2_ := (Option.bind_some _ _).symm.trans H;rw [hy264];with_reducible exact H2_) | (have H2_ := (Option.bind_some _ _).symm.trans H;with_reducible exact H2_) | with_reducible exact H | (rw [hy264];exact H) | exact H
                have Ny264 := Aside0.mk hy264
                clear hy264
                have H' := Aside0.mk H
                clear H
                try go_wp2
                have n0_ := Aside0.mk (Kd.V_drew HO_0.out)
                have n1_ := Aside0.mk (Kd.N_drew HO_3.out)
                have n2_ := Aside0.mk (q0c HB.out)
                clear HO_0
                clear HO_3
                clear HB
                have HO_0 := n0_
                have HO_3 := n1_
                have HB := n2_
                clear n0_ n1_ n2_
                obtain ⟨Ao27,co27,eo27⟩ := Kd.N_slice HO_3.out
                (first | subst eo27 | (injection eo27 with f1_ f2_ f3_;have f4_ := f1_.symm;have f5_ := f3_.symm;clear f1_ f2_ f3_;subst f4_;subst f5_))
                have p241 : 0 ≤ (x5_2 : Int) := of_decide_eq_true (by first | (with_reducible assumption) | assumption)
                have q241 : x5_2 < (x3_1.length : Int) := of_decide_eq_true (by first | (with_reducible assumption) | assumption)
                obtain ⟨ad241,A241_0,c241_0,e241,hx241_0,hl241_0,hi241_0⟩ := at_L4 (Kd.N_reads' HO_3.out).2.2 x5_2 p241 q241
                cases e241
                obtain ⟨ce241,hce241,hMe241,hcc241⟩ := Kd.N_get HO_3.out [] x5_2 p241 (by first | exact q241 | exact of_decide_eq_true (by first | (with_reducible assumption) | assumption) | (have e_ := (Kd.N_reads' HO_3.out).1;omega))
                obtain ⟨ua241_0,uc241_0,rfl,ul241_0,ge241_0⟩ := Kd.FK_slice_open hMe241
                have hv241_0 := hcc241 0 _ rfl
                rw [Nat.add_zero,show ((Kd.slice 66 k66)).sz = 1 from rfl,Nat.mul_one] at hv241_0
                replace hv241_0 := Option.some.inj (hv241_0.symm.trans hx241_0)
                injection hv241_0 with hva_ hvn_ hvc_
                rw [hva_] at ge241_0
                rw [hvc_] at ul241_0
                have HL241_0 := Aside0.mk (show Kd.V k66 66 _ w.heap.size _ _ (rd_L4 x3_1 x5_2) from Kd.V_mk ul241_0 ge241_0)
                clear hva_ hvn_ hvc_ ge241_0 ul241_0
                clear hcc241 hce241
                have HR241_0 := Aside0.mk hi241_0
                have HC241_0 := Aside0.mk hl241_0
                clear hi241_0 hl241_0
                replace p241 := eq_true p241
                replace q241 := eq_true q241
                have p242 : 0 ≤ (x4_1 : Int) := of_decide_eq_true (by first | (with_reducible assumption) | assumption)
                have q242 : x4_1 < (l0.length : Int) := of_decide_eq_true (by first | (with_reducible assumption) | assumption)
                obtain ⟨ad242,A242_0,c242_0,e242,hx242_0,hl242_0,hi242_0⟩ := at_L4 (Kd.V_reads' HO_0.out).2.2 x4_1 p242 q242
                cases e242
                obtain ⟨ce242,hce242,hMe242,hcc242⟩ := Kd.V_get HO_0.out [] x4_1 p242 (by first | exact q242 | exact of_decide_eq_true (by first | (with_reducible assumption) | assumption) | (have e_ := (Kd.V_reads' HO_0.out).1;omega))
                obtain ⟨ua242_0,uc242_0,rfl,ul242_0,ge242_0⟩ := Kd.FK_slice_open hMe242
                have hv242_0 := hcc242 0 _ rfl
                rw [Nat.add_zero,show ((Kd.slice 66 k66)).sz = 1 from rfl,Nat.mul_one] at hv242_0
                replace hv242_0 := Option.some.inj (hv242_0.symm.trans hx242_0)
                injection hv242_0 with hva_ hvn_ hvc_
                rw [hva_] at ge242_0
                rw [hvc_] at ul242_0
                have HL242_0 := Aside0.mk (show Kd.V k66 66 _ w.heap.size _ _ (rd_L4 l0 x4_1) from Kd.V_mk ul242_0 ge242_0)
                clear hva_ hvn_ hvc_ ge242_0 ul242_0
                clear hcc242 hce242
                have HR242_0 := Aside0.mk hi242_0
                have HC242_0 := Aside0.mk hl242_0
                clear hi242_0 hl242_0
                replace p242 := eq_true p242
                replace q242 := eq_true q242
                refine start_ (n := 16) (S := fun w' => w'.cell? (ad241.add (x5_2).toNat) = some (.slice A241_0 (rd_L4 x3_1 x5_2).length c241_0) ∧ w'.cell? (ad242.add (x4_1).toNat) = some (.slice A242_0 (rd_L4 l0 x4_1).length c242_0)) (ds := []) #[false,false,false,false,false,false,false,false,false,false,false,false,false,false,false,false] (by kernel_rfl) rfl rfl ⟨hx241_0,hx242_0⟩ (fun hHeld => ?_);refine with_tabW verdererref02_Sort.tab6 verdererref02_Sort.bits6 (fun HT_ HW_ => ?_)
                generalize wr.drew = w26 at HO_0 HO_3 HB HL241_0 HL242_0 HR241_0 HR242_0 hx241_0 hx242_0 hHeld ⊢
                refine pure_ (i := 0) (N := some 13) (v := ?_) (a' := ?_) #[true,false,false,false,false,false,false,false,false,false,false,false,false,false,false,false] rfl rfl (q0q HT_.out (by kernel_rfl)) (fun _ _ _ h => h) (Or.inl ⟨by rfl,?_⟩) ?_ ?_
                rotate_left
                ·intro w'
                 go_simp
                 with_reducible rfl
                rotate_left
                ·simp only [Act.put,zA,zB,zC,i64_w,i32_w]
                 rfl
                refine pure_ (i := 1) (N := some 14) (v := ?_) (a' := ?_) #[true,true,false,false,false,false,false,false,false,false,false,false,false,false,false,false] rfl rfl (q0q HT_.out (by kernel_rfl)) (fun _ _ _ h => h) (Or.inl ⟨by rfl,?_⟩) ?_ ?_
                rotate_left
                ·intro w'
                 go_simp
                 with_reducible rfl
                rotate_left
                ·simp only [Act.put,zA,zB,zC,i64_w,i32_w]
                 rfl
                refine pure_ (i := 2) (N := some 15) (v := ?_) (a' := ?_) #[true,true,true,false,false,false,false,false,false,false,false,false,false,false,false,false] rfl rfl (q0q HT_.out (by kernel_rfl)) (fun _ _ _ h => h) (Or.inl ⟨by rfl,?_⟩) ?_ ?_
                rotate_left
                ·intro w'
                 go_simp
                 with_reducible rfl
                rotate_left
                ·simp only [Act.put,zA,zB,zC,i64_w,i32_w]
                 rfl
                refine pure_ (i := 3) (N := some 16) (v := ?_) (a' := ?_) #[true,true,true,true,false,false,false,false,false,false,false,false,false,false,false,false] rfl rfl (q0q HT_.out (by kernel_rfl)) (fun _ _ _ h => h) (Or.inl ⟨by rfl,?_⟩) ?_ ?_
                rotate_left
                ·intro w'
                 go_simp
                 with_reducible rfl
                rotate_left
                ·simp only [Act.put,zA,zB,zC,i64_w,i32_w]
                 rfl
                refine pure_ (i := 4) (N := some 17) (v := ?_) (a' := ?_) #[true,true,true,true,true,false,false,false,false,false,false,false,false,false,false,false] rfl rfl (q0q HT_.out (by kernel_rfl)) (fun _ _ _ h => h) (Or.inl ⟨by rfl,?_⟩) ?_ ?_
                rotate_left
                ·intro w'
                 go_simp
                 with_reducible rfl
                rotate_left
                ·simp only [Act.put,zA,zB,zC,i64_w,i32_w]
                 rfl
                refine pure_ (i := 5) (N := some 18) (v := ?_) (a' := ?_) #[true,true,true,true,true,true,false,false,false,false,false,false,false,false,false,false] rfl rfl (q0q HT_.out (by kernel_rfl)) (fun _ _ _ h => h) (Or.inl ⟨by rfl,?_⟩) ?_ ?_
                rotate_left
                ·intro w'
                 go_simp
                 with_reducible rfl
                rotate_left
                ·simp only [Act.put,zA,zB,zC,i64_w,i32_w]
                 rfl
                refine pure_ (i := 6) (N := some 19) (v := ?_) (a' := ?_) #[true,true,true,true,true,true,true,false,false,false,false,false,false,false,false,false] rfl rfl (q0q HT_.out (by kernel_rfl)) (fun _ _ _ h => h) (Or.inl ⟨by rfl,?_⟩) ?_ ?_
                rotate_left
                ·intro w'
                 go_simp
                 with_reducible rfl
                rotate_left
                ·simp only [Act.put,zA,zB,zC,i64_w,i32_w]
                 rfl
                refine pure_ (i := 7) (N := some 20) (v := ?_) (a' := ?_) #[true,true,true,true,true,true,true,true,false,false,false,false,false,false,false,false] rfl rfl (q0q HT_.out (by kernel_rfl)) (fun _ _ _ h => h) (Or.inl ⟨by rfl,?_⟩) ?_ ?_
                rotate_left
                ·intro w'
                 go_simp
                 with_reducible rfl
                rotate_left
                ·simp only [Act.put,zA,zB,zC,i64_w,i32_w]
                 rfl
                refine pure_ (i := 9) (N := some 22) (v := ?_) (a' := ?_) #[true,true,true,true,true,true,true,true,false,true,false,false,false,false,false,false] rfl rfl (q0q HT_.out (by kernel_rfl)) (fun _ _ _ h => h) (Or.inl ⟨by rfl,?_⟩) ?_ ?_
                rotate_left
                ·intro w'
                 go_simp
                 with_reducible rfl
                rotate_left
                ·simp only [Act.put,zA,zB,zC,i64_w,i32_w]
                 rfl
                refine pure_ (i := 10) (N := some 23) (v := ?_) (a' := ?_) #[true,true,true,true,true,true,true,true,false,true,true,false,false,false,false,false] rfl rfl (q0q HT_.out (by kernel_rfl)) (fun _ _ _ h => h) (Or.inl ⟨by rfl,?_⟩) ?_ ?_
                rotate_left
                ·intro w'
                 go_simp
                 with_reducible rfl
                rotate_left
                ·simp only [Act.put,zA,zB,zC,i64_w,i32_w]
                 rfl
                refine pure_ (i := 11) (N := some 24) (v := ?_) (a' := ?_) #[true,true,true,true,true,true,true,true,false,true,true,true,false,false,false,false] rfl rfl (q0q HT_.out (by kernel_rfl)) (fun _ _ _ h => h) (Or.inl ⟨by rfl,?_⟩) ?_ ?_
                rotate_left
                ·intro w'
                 go_simp
                 with_reducible rfl
                rotate_left
                ·simp only [Act.put,zA,zB,zC,i64_w,i32_w]
                 rfl
                refine take_ (i := 8) (N := some 21) (v := ?_) (a' := ?_) #[true,true,true,true,true,true,true,true,true,true,true,true,false,false,false,false] rfl rfl (take_ofW HT_.out HW_.out (by kernel_rfl)) (fun _ _ _ h => h) (Or.inl ⟨by rfl,?_⟩) hHeld ?_ ?_
                rotate_left
                ·rintro w' ⟨s0,s1⟩
                 go_simp
                 with_reducible rfl
                rotate_left
                ·simp only [Act.put,zA,zB,zC,i64_w,i32_w]
                 rfl
                refine take_ (i := 12) (N := some 25) (v := ?_) (a' := ?_) #[true,true,true,true,true,true,true,true,true,true,true,true,true,false,false,false] rfl rfl (take_ofW HT_.out HW_.out (by kernel_rfl)) (fun _ _ _ h => h) (Or.inl ⟨by rfl,?_⟩) hHeld ?_ ?_
                rotate_left
                ·rintro w' ⟨s0,s1⟩
                 go_simp
                 with_reducible rfl
                rotate_left
                ·simp only [Act.put,zA,zB,zC,i64_w,i32_w]
                 rfl
                refine one_ (i := 13) (N := some 26) #[true,true,true,true,true,true,true,true,true,true,true,true,true,true,false,false] rfl rfl (one_of HT_.out (by kernel_rfl)) (by decide) (fun K hK => ?_)
                refine goes_ Try.func96 (by kernel_rfl) rfl #[.slice A241_0 (rd_L4 x3_1 x5_2).length c241_0,.slice A242_0 (rd_L4 l0 x4_1).length c242_0] (by rfl) rfl rfl (by (try simp only [List.map_toArray,List.map_cons,List.map_nil]);first | done | rfl | (simp only [List.length_drop,List.length_take];rfl)) ?_
                with_reducible refine (verdererref02_Compare.calls k2 _ _ (rd_L4 x3_1 x5_2) _ _ (rd_L4 l0 x4_1) t243 _ ?side1 ?side2 ?side3 ?side4 A7.out).mono ?_
                (case side1 => repeat (first | exact (by repeat (first | (with_reducible exact HR241_0.out) | (with_reducible refine Kd.C_alloc ?_ _) | (with_reducible refine Kd.C_drewN ?_ _) | (with_reducible refine Kd.C_drew ?_) | exact HR241_0.out)) | (with_reducible refine Kd.C_alloc ?_ _) | (with_reducible refine Kd.C_drewN ?_ _) | (with_reducible refine Kd.C_drew ?_)))
                (case side2 => exact HC241_0.out)
                (case side3 => repeat (first | exact (by repeat (first | (with_reducible exact HR242_0.out) | (with_reducible refine Kd.C_alloc ?_ _) | (with_reducible refine Kd.C_drewN ?_ _) | (with_reducible refine Kd.C_drew ?_) | exact HR242_0.out)) | (with_reducible refine Kd.C_alloc ?_ _) | (with_reducible refine Kd.C_drewN ?_ _) | (with_reducible refine Kd.C_drew ?_)))
                (case side4 => exact HC242_0.out)
                rintro e w28 ⟨rfl,hb⟩
                have HS0_ := (hb.cell (World.block_lt_of_cell? _ _ (hHeld.1))).trans (hHeld.1)
                have HS1_ := (hb.cell (World.block_lt_of_cell? _ _ (hHeld.2))).trans (hHeld.2)
                refine ⟨_,rfl,?_⟩
                have n0_ := Aside0.mk (Kd.V_below (by (with_reducible repeat (first | apply Kd.V_alloc | apply Kd.V_drewN | apply Kd.V_drew));exact HO_0.out) hb)
                have n1_ := Aside0.mk (Kd.N_below (by (with_reducible repeat (first | apply Kd.N_alloc | apply Kd.N_drewN | apply Kd.N_drew));exact HO_3.out) hb)
                have n2_ := Aside0.mk (Kd.V_below (by (with_reducible repeat (first | apply Kd.V_alloc | apply Kd.V_drewN | apply Kd.V_drew));exact HL241_0.out) hb)
                have n3_ := Aside0.mk (Kd.V_below (by (with_reducible repeat (first | apply Kd.V_alloc | apply Kd.V_drewN | apply Kd.V_drew));exact HL242_0.out) hb)
                have n4_ := Aside0.mk (Kd.C_below (by repeat (first | (with_reducible exact HR241_0.out) | (with_reducible refine Kd.C_alloc ?_ _) | (with_reducible refine Kd.C_drewN ?_ _) | (with_reducible refine Kd.C_drew ?_) | exact HR241_0.out)) hb)
                have n5_ := Aside0.mk (Kd.C_below (by repeat (first | (with_reducible exact HR242_0.out) | (with_reducible refine Kd.C_alloc ?_ _) | (with_reducible refine Kd.C_drewN ?_ _) | (with_reducible refine Kd.C_drew ?_) | exact HR242_0.out)) hb)
                have n6_ := Aside0.mk (q0n (by repeat (first | (with_reducible first | exact HB.out | apply q0b | apply q0a | apply q0c) | exact HB.out)) hb)
                clear HO_0
                clear HO_3
                clear HL241_0
                clear HL242_0
                clear HR241_0
                clear HR242_0
                clear HB
                have HO_0 := n0_
                have HO_3 := n1_
                have HL241_0 := n2_
                have HL242_0 := n3_
                have HR241_0 := n4_
                have HR242_0 := n5_
                have HB := n6_
                clear n0_ n1_ n2_ n3_ n4_ n5_ n6_
                (try clear hb)
                (try clear hb2)
                (try clear hk)
                (try clear hi)
                refine hK.out _ _ ⟨HS0_,HS1_⟩ (fun hHeld => ?_)
                clear hK K
                refine norm_ (a' := ?_) ?_ ?_
                rotate_left
                ·show Act.put _ (some 26) _ = _
                 simp only [Act.put,zA,zB,zC,i64_w,i32_w]
                 rfl
                refine pure_ (i := 14) (N := some 27) (v := ?_) (a' := ?_) #[true,true,true,true,true,true,true,true,true,true,true,true,true,true,true,false] rfl rfl (q0q HT_.out (by kernel_rfl)) (fun _ _ _ h => h) (Or.inl ⟨by rfl,?_⟩) ?_ ?_
                rotate_left
                ·intro w'
                 go_simp
                 with_reducible rfl
                rotate_left
                ·simp only [Act.put,zA,zB,zC,i64_w,i32_w]
                 rfl
                refine pure_ (i := 15) (N := some 28) (v := ?_) (a' := ?_) #[true,true,true,true,true,true,true,true,true,true,true,true,true,true,true,true] rfl rfl (q0q HT_.out (by kernel_rfl)) (fun _ _ _ h => h) (Or.inl ⟨by rfl,?_⟩) ?_ ?_
                rotate_left
                ·intro w'
                 go_simp
                 with_reducible rfl
                rotate_left
                ·simp only [Act.put,zA,zB,zC,i64_w,i32_w]
                 rfl
                refine done_ (done_of HT_.out (by kernel_rfl)) ?_
                try go_wp2
                have n0_ := Aside0.mk (Kd.V_drew HO_0.out)
                have n1_ := Aside0.mk (Kd.N_drew HO_3.out)
                have n2_ := Aside0.mk (Kd.V_drew HL241_0.out)
                have n3_ := Aside0.mk (Kd.V_drew HL242_0.out)
                have n4_ := Aside0.mk (Kd.C_drew HR241_0.out)
                have n5_ := Aside0.mk (Kd.C_drew HR242_0.out)
                have n6_ := Aside0.mk (q0c HB.out)
                clear HO_0
                clear HO_3
                clear HL241_0
                clear HL242_0
                clear HR241_0
                clear HR242_0
                clear HB
                have HO_0 := n0_
                have HO_3 := n1_
                have HL241_0 := n2_
                have HL242_0 := n3_
                have HR241_0 := n4_
                have HR242_0 := n5_
                have HB := n6_
                clear n0_ n1_ n2_ n3_ n4_ n5_ n6_
                have p244 : 0 ≤ (x5_2 : Int) := of_decide_eq_true (by first | (with_reducible assumption) | assumption)
                have q244 : x5_2 < (x3_1.length : Int) := of_decide_eq_true (by first | (with_reducible assumption) | assumption)
                obtain ⟨ad244,A244_0,c244_0,e244,hx244_0,hl244_0,hi244_0⟩ := at_L4 (Kd.N_reads' HO_3.out).2.2 x5_2 p244 q244
                obtain rfl : ad241 = ad244 := (by injection e244)
                obtain ⟨ce244,hce244,hMe244,hcc244⟩ := Kd.N_get HO_3.out [] x5_2 p244 (by first | exact q244 | exact of_decide_eq_true (by first | (with_reducible assumption) | assumption) | (have e_ := (Kd.N_reads' HO_3.out).1;omega))
                obtain ⟨ua244_0,uc244_0,rfl,ul244_0,ge244_0⟩ := Kd.FK_slice_open hMe244
                have hv244_0 := hcc244 0 _ rfl
                rw [Nat.add_zero,show ((Kd.slice 66 k66)).sz = 1 from rfl,Nat.mul_one] at hv244_0
                replace hv244_0 := Option.some.inj (hv244_0.symm.trans hx244_0)
                injection hv244_0 with hva_ hvn_ hvc_
                rw [hva_] at ge244_0
                rw [hvc_] at ul244_0
                have HL244_0 := Aside0.mk (show Kd.V k66 66 _ w.heap.size _ _ (rd_L4 x3_1 x5_2) from Kd.V_mk ul244_0 ge244_0)
                clear hva_ hvn_ hvc_ ge244_0 ul244_0
                clear hcc244 hce244
                have HR244_0 := Aside0.mk hi244_0
                have HC244_0 := Aside0.mk hl244_0
                clear hi244_0 hl244_0
                replace p244 := eq_true p244
                replace q244 := eq_true q244
                have p245 : 0 ≤ (x4_1 : Int) := of_decide_eq_true (by first | (with_reducible assumption) | assumption)
                have q245 : x4_1 < (l0.length : Int) := of_decide_eq_true (by first | (with_reducible assumption) | assumption)
                obtain ⟨ad245,A245_0,c245_0,e245,hx245_0,hl245_0,hi245_0⟩ := at_L4 (Kd.V_reads' HO_0.out).2.2 x4_1 p245 q245
                obtain rfl : ad242 = ad245 := (by injection e245)
                obtain ⟨ce245,hce245,hMe245,hcc245⟩ := Kd.V_get HO_0.out [] x4_1 p245 (by first | exact q245 | exact of_decide_eq_true (by first | (with_reducible assumption) | assumption) | (have e_ := (Kd.V_reads' HO_0.out).1;omega))
                obtain ⟨ua245_0,uc245_0,rfl,ul245_0,ge245_0⟩ := Kd.FK_slice_open hMe245
                have hv245_0 := hcc245 0 _ rfl
                rw [Nat.add_zero,show ((Kd.slice 66 k66)).sz = 1 from rfl,Nat.mul_one] at hv245_0
                replace hv245_0 := Option.some.inj (hv245_0.symm.trans hx245_0)
                injection hv245_0 with hva_ hvn_ hvc_
                rw [hva_] at ge245_0
                rw [hvc_] at ul245_0
                have HL245_0 := Aside0.mk (show Kd.V k66 66 _ w.heap.size _ _ (rd_L4 l0 x4_1) from Kd.V_mk ul245_0 ge245_0)
                clear hva_ hvn_ hvc_ ge245_0 ul245_0
                clear hcc245 hce245
                have HR245_0 := Aside0.mk hi245_0
                have HC245_0 := Aside0.mk hl245_0
                clear hi245_0 hl245_0
                replace p245 := eq_true p245
                replace q245 := eq_true q245
                refine start_ (n := 15) (S := fun w' => w'.cell? (ad241.add (x5_2).toNat) = some (.slice A244_0 (rd_L4 x3_1 x5_2).length c244_0) ∧ w'.cell? (ad242.add (x4_1).toNat) = some (.slice A245_0 (rd_L4 l0 x4_1).length c245_0)) (ds := []) #[false,false,false,false,false,false,false,false,false,false,false,false,false,false,false] (by kernel_rfl) rfl rfl ⟨hx244_0,hx245_0⟩ (fun hHeld => ?_);refine with_tabW verdererref02_Sort.tab8 verdererref02_Sort.bits8 (fun HT_ HW_ => ?_)
                generalize w28.drew = w29 at HO_0 HO_3 HL241_0 HL242_0 HR241_0 HR242_0 HB HL244_0 HL245_0 HR244_0 HR245_0 hx244_0 hx245_0 hHeld ⊢
                refine pure_ (i := 0) (N := some 31) (v := ?_) (a' := ?_) #[true,false,false,false,false,false,false,false,false,false,false,false,false,false,false] rfl rfl (q0q HT_.out (by kernel_rfl)) (fun _ _ _ h => h) (Or.inl ⟨by rfl,?_⟩) ?_ ?_
                rotate_left
                ·intro w'
                 go_simp
                 with_reducible rfl
                rotate_left
                ·simp only [Act.put,zA,zB,zC,i64_w,i32_w]
                 rfl
                refine pure_ (i := 1) (N := some 32) (v := ?_) (a' := ?_) #[true,true,false,false,false,false,false,false,false,false,false,false,false,false,false] rfl rfl (q0q HT_.out (by kernel_rfl)) (fun _ _ _ h => h) (Or.inl ⟨by rfl,?_⟩) ?_ ?_
                rotate_left
                ·intro w'
                 go_simp
                 with_reducible rfl
                rotate_left
                ·simp only [Act.put,zA,zB,zC,i64_w,i32_w]
                 rfl
                refine pure_ (i := 2) (N := some 33) (v := ?_) (a' := ?_) #[true,true,true,false,false,false,false,false,false,false,false,false,false,false,false] rfl rfl (q0q HT_.out (by kernel_rfl)) (fun _ _ _ h => h) (Or.inl ⟨by rfl,?_⟩) ?_ ?_
                rotate_left
                ·intro w'
                 go_simp
                 with_reducible rfl
                rotate_left
                ·simp only [Act.put,zA,zB,zC,i64_w,i32_w]
                 rfl
                refine pure_ (i := 3) (N := some 34) (v := ?_) (a' := ?_) #[true,true,true,true,false,false,false,false,false,false,false,false,false,false,false] rfl rfl (q0q HT_.out (by kernel_rfl)) (fun _ _ _ h => h) (Or.inl ⟨by rfl,?_⟩) ?_ ?_
                rotate_left
                ·intro w'
                 go_simp
                 with_reducible rfl
                rotate_left
                ·simp only [Act.put,zA,zB,zC,i64_w,i32_w]
                 rfl
                refine pure_ (i := 4) (N := some 35) (v := ?_) (a' := ?_) #[true,true,true,true,true,false,false,false,false,false,false,false,false,false,false] rfl rfl (q0q HT_.out (by kernel_rfl)) (fun _ _ _ h => h) (Or.inl ⟨by rfl,?_⟩) ?_ ?_
                rotate_left
                ·intro w'
                 go_simp
                 with_reducible rfl
                rotate_left
                ·simp only [Act.put,zA,zB,zC,i64_w,i32_w]
                 rfl
                refine pure_ (i := 5) (N := some 36) (v := ?_) (a' := ?_) #[true,true,true,true,true,true,false,false,false,false,false,false,false,false,false] rfl rfl (q0q HT_.out (by kernel_rfl)) (fun _ _ _ h => h) (Or.inl ⟨by rfl,?_⟩) ?_ ?_
                rotate_left
                ·intro w'
                 go_simp
                 with_reducible rfl
                rotate_left
                ·simp only [Act.put,zA,zB,zC,i64_w,i32_w]
                 rfl
                refine pure_ (i := 6) (N := some 37) (v := ?_) (a' := ?_) #[true,true,true,true,true,true,true,false,false,false,false,false,false,false,false] rfl rfl (q0q HT_.out (by kernel_rfl)) (fun _ _ _ h => h) (Or.inl ⟨by rfl,?_⟩) ?_ ?_
                rotate_left
                ·intro w'
                 go_simp
                 with_reducible rfl
                rotate_left
                ·simp only [Act.put,zA,zB,zC,i64_w,i32_w]
                 rfl
                refine pure_ (i := 7) (N := some 38) (v := ?_) (a' := ?_) #[true,true,true,true,true,true,true,true,false,false,false,false,false,false,false] rfl rfl (q0q HT_.out (by kernel_rfl)) (fun _ _ _ h => h) (Or.inl ⟨by rfl,?_⟩) ?_ ?_
                rotate_left
                ·intro w'
                 go_simp
                 with_reducible rfl
                rotate_left
                ·simp only [Act.put,zA,zB,zC,i64_w,i32_w]
                 rfl
                refine pure_ (i := 9) (N := some 40) (v := ?_) (a' := ?_) #[true,true,true,true,true,true,true,true,false,true,false,false,false,false,false] rfl rfl (q0q HT_.out (by kernel_rfl)) (fun _ _ _ h => h) (Or.inl ⟨by rfl,?_⟩) ?_ ?_
                rotate_left
                ·intro w'
                 go_simp
                 with_reducible rfl
                rotate_left
                ·simp only [Act.put,zA,zB,zC,i64_w,i32_w]
                 rfl
                refine pure_ (i := 10) (N := some 41) (v := ?_) (a' := ?_) #[true,true,true,true,true,true,true,true,false,true,true,false,false,false,false] rfl rfl (q0q HT_.out (by kernel_rfl)) (fun _ _ _ h => h) (Or.inl ⟨by rfl,?_⟩) ?_ ?_
                rotate_left
                ·intro w'
                 go_simp
                 with_reducible rfl
                rotate_left
                ·simp only [Act.put,zA,zB,zC,i64_w,i32_w]
                 rfl
                refine pure_ (i := 11) (N := some 42) (v := ?_) (a' := ?_) #[true,true,true,true,true,true,true,true,false,true,true,true,false,false,false] rfl rfl (q0q HT_.out (by kernel_rfl)) (fun _ _ _ h => h) (Or.inl ⟨by rfl,?_⟩) ?_ ?_
                rotate_left
                ·intro w'
                 go_simp
                 with_reducible rfl
                rotate_left
                ·simp only [Act.put,zA,zB,zC,i64_w,i32_w]
                 rfl
                refine take_ (i := 8) (N := some 39) (v := ?_) (a' := ?_) #[true,true,true,true,true,true,true,true,true,true,true,true,false,false,false] rfl rfl (take_ofW HT_.out HW_.out (by kernel_rfl)) (fun _ _ _ h => h) (Or.inl ⟨by rfl,?_⟩) hHeld ?_ ?_
                rotate_left
                ·rintro w' ⟨s0,s1⟩
                 go_simp
                 with_reducible rfl
                rotate_left
                ·simp only [Act.put,zA,zB,zC,i64_w,i32_w]
                 rfl
                refine take_ (i := 12) (N := some 43) (v := ?_) (a' := ?_) #[true,true,true,true,true,true,true,true,true,true,true,true,true,false,false] rfl rfl (take_ofW HT_.out HW_.out (by kernel_rfl)) (fun _ _ _ h => h) (Or.inl ⟨by rfl,?_⟩) hHeld ?_ ?_
                rotate_left
                ·rintro w' ⟨s0,s1⟩
                 go_simp
                 with_reducible rfl
                rotate_left
                ·simp only [Act.put,zA,zB,zC,i64_w,i32_w]
                 rfl
                refine one_ (i := 13) (N := some 44) #[true,true,true,true,true,true,true,true,true,true,true,true,true,true,false] rfl rfl (one_of HT_.out (by kernel_rfl)) (by decide) (fun K hK => ?_)
                refine goes_ Try.func84 (by kernel_rfl) rfl #[.slice A244_0 (rd_L4 x3_1 x5_2).length c244_0,.slice A245_0 (rd_L4 l0 x4_1).length c245_0] (by rfl) rfl rfl (by (try simp only [List.map_toArray,List.map_cons,List.map_nil]);first | done | rfl | (simp only [List.length_drop,List.length_take];rfl)) ?_
                with_reducible refine (verdererref02_Same.calls k2 _ _ (rd_L4 x3_1 x5_2) _ _ (rd_L4 l0 x4_1) false _ ?side1 ?side2 ?side3 ?side4 A12.out).mono ?_
                (case side1 => repeat (first | exact (by repeat (first | (with_reducible exact HR244_0.out) | (with_reducible refine Kd.C_alloc ?_ _) | (with_reducible refine Kd.C_drewN ?_ _) | (with_reducible refine Kd.C_drew ?_) | exact HR244_0.out)) | (with_reducible refine Kd.C_alloc ?_ _) | (with_reducible refine Kd.C_drewN ?_ _) | (with_reducible refine Kd.C_drew ?_)))
                (case side2 => exact HC244_0.out)
                (case side3 => repeat (first | exact (by repeat (first | (with_reducible exact HR245_0.out) | (with_reducible refine Kd.C_alloc ?_ _) | (with_reducible refine Kd.C_drewN ?_ _) | (with_reducible refine Kd.C_drew ?_) | exact HR245_0.out)) | (with_reducible refine Kd.C_alloc ?_ _) | (with_reducible refine Kd.C_drewN ?_ _) | (with_reducible refine Kd.C_drew ?_)))
                (case side4 => exact HC245_0.out)
                rintro e w30 ⟨rfl,hb⟩
                have HS0_ := (hb.cell (World.block_lt_of_cell? _ _ (hHeld.1))).trans (hHeld.1)
                have HS1_ := (hb.cell (World.block_lt_of_cell? _ _ (hHeld.2))).trans (hHeld.2)
                refine ⟨_,rfl,?_⟩
                have n0_ := Aside0.mk (Kd.V_below (by (with_reducible repeat (first | apply Kd.V_alloc | apply Kd.V_drewN | apply Kd.V_drew));exact HO_0.out) hb)
                have n1_ := Aside0.mk (Kd.N_below (by (with_reducible repeat (first | apply Kd.N_alloc | apply Kd.N_drewN | apply Kd.N_drew));exact HO_3.out) hb)
                have n2_ := Aside0.mk (Kd.V_below (by (with_reducible repeat (first | apply Kd.V_alloc | apply Kd.V_drewN | apply Kd.V_drew));exact HL241_0.out) hb)
                have n3_ := Aside0.mk (Kd.V_below (by (with_reducible repeat (first | apply Kd.V_alloc | apply Kd.V_drewN | apply Kd.V_drew));exact HL242_0.out) hb)
                have n4_ := Aside0.mk (Kd.V_below (by (with_reducible repeat (first | apply Kd.V_alloc | apply Kd.V_drewN | apply Kd.V_drew));exact HL244_0.out) hb)
                have n5_ := Aside0.mk (Kd.V_below (by (with_reducible repeat (first | apply Kd.V_alloc | apply Kd.V_drewN | apply Kd.V_drew));exact HL245_0.out) hb)
                have n6_ := Aside0.mk (Kd.C_below (by repeat (first | (with_reducible exact HR241_0.out) | (with_reducible refine Kd.C_alloc ?_ _) | (with_reducible refine Kd.C_drewN ?_ _) | (with_reducible refine Kd.C_drew ?_) | exact HR241_0.out)) hb)
                have n7_ := Aside0.mk (Kd.C_below (by repeat (first | (with_reducible exact HR242_0.out) | (with_reducible refine Kd.C_alloc ?_ _) | (with_reducible refine Kd.C_drewN ?_ _) | (with_reducible refine Kd.C_drew ?_) | exact HR242_0.out)) hb)
                have n8_ := Aside0.mk (Kd.C_below (by repeat (first | (with_reducible exact HR244_0.out) | (with_reducible refine Kd.C_alloc ?_ _) | (with_reducible refine Kd.C_drewN ?_ _) | (with_reducible refine Kd.C_drew ?_) | exact HR244_0.out)) hb)
                have n9_ := Aside0.mk (Kd.C_below (by repeat (first | (with_reducible exact HR245_0.out) | (with_reducible refine Kd.C_alloc ?_ _) | (with_reducible refine Kd.C_drewN ?_ _) | (with_reducible refine Kd.C_drew ?_) | exact HR245_0.out)) hb)
                have n10_ := Aside0.mk (q0n (by repeat (first | (with_reducible first | exact HB.out | apply q0b | apply q0a | apply q0c) | exact HB.out)) hb)
                clear HO_0
                clear HO_3
                clear HL241_0
                clear HL242_0
                clear HL244_0
                clear HL245_0
                clear HR241_0
                clear HR242_0
                clear HR244_0
                clear HR245_0
                clear HB
                have HO_0 := n0_
                have HO_3 := n1_
                have HL241_0 := n2_
                have HL242_0 := n3_
                have HL244_0 := n4_
                have HL245_0 := n5_
                have HR241_0 := n6_
                have HR242_0 := n7_
                have HR244_0 := n8_
                have HR245_0 := n9_
                have HB := n10_
                clear n0_ n1_ n2_ n3_ n4_ n5_ n6_ n7_ n8_ n9_ n10_
                (try clear hb)
                (try clear hb2)
                (try clear hk)
                (try clear hi)
                refine hK.out _ _ ⟨HS0_,HS1_⟩ (fun hHeld => ?_)
                clear hK K
                refine norm_ (a' := ?_) ?_ ?_
                rotate_left
                ·show Act.put _ (some 44) _ = _
                 simp only [Act.put,zA,zB,zC,i64_w,i32_w]
                 rfl
                refine pure_ (i := 14) (N := some 45) (v := ?_) (a' := ?_) #[true,true,true,true,true,true,true,true,true,true,true,true,true,true,true] rfl rfl (q0q HT_.out (by kernel_rfl)) (fun _ _ _ h => h) (Or.inl ⟨by rfl,?_⟩) ?_ ?_
                rotate_left
                ·intro w'
                 go_simp
                 with_reducible rfl
                rotate_left
                ·simp only [Act.put,zA,zB,zC,i64_w,i32_w]
                 rfl
                refine done_ (done_of HT_.out (by kernel_rfl)) ?_
                have q31 : (x5_2 : Int) ≤ ((x3_1.length : Int) : Int) := of_decide_eq_true (by first | (with_reducible assumption) | assumption)
                obtain ⟨i031,hi031,_,hsz31,_⟩ := info_parts info23
                have hroom31 : x3_1.length ≤ co27 := (Kd.N_reads' HO_3.out).2.1
                have hC31 : Kd.F (Kd.slice 66 k66) _ _ (some ad241) x3_1.length x3_1 := (Kd.V_at (base := w.heap.size) (Kd.N_V HO_3.out)).2.2
                have hcut31 := cut_to (P := Try.prog) 113 23 .i64 Try.underlying113 hi031 (some ad241) x3_1.length co27 x5_2 (of_decide_eq_true (by first | (with_reducible assumption) | assumption)) q31 hroom31
                have hr31 := Kd.F_take (m := (x5_2 : Int).toNat) hC31 (by omega)
                have hy31 : y247.length = (x5_2 : Int).toNat := (by rw [Ny247.out,List.length_take];omega)
                rw [← Ny247.out] at hr31
                rw [← hy31] at hcut31
                have HO251 := Aside0.mk (show Kd.V (Kd.slice 66 k66) 23 _ w.heap.size _ (.slice (some ad241) y247.length co27) y247 from Kd.V_mk (by omega) hr31)
                have HC251 := Aside0.mk (show y247.length ≤ co27 from by omega)
                clear hr31 hC31 hroom31 hi031 hsz31
                have KY31 := Aside0.mk hy31
                clear hy31
                replace q31 := eq_true q31
                try go_wp2_with (first | ((with_reducible refine q0v (b := .append) (xs := #[.tmp 46,.tmp 49]) rfl ?_);at_builtin;refine Kd.N_append_rows (Kd.slice 66 k66) (w0 := w) w.heap.size rfl (.tmp 46) (.tmp 49) 113 23 (.slice none 0 0) 24 rfl Try.underlying113 info23 rfl (by decide) (by omega) (.slice none 0 0) ([] : List (List (S66))) y247 _ _ _ (fun k_ => (P0_ k_ ∨ w.heap.size ≤ k_)) (fun k_ => ((fun k_ => (P0_ k_ ∨ w.heap.size ≤ k_))) k_ ∧ some k_ ≠ (.slice none 0 0 : Value).ownBlock) rfl rfl ?aO ?aR (fun _ hk => hk) ?aF ?aB ?aS ?aL ?_;(case aR => exact (by skip;exact Kd.V_F (Kd.V_mono (ok' := (fun k_ => ((fun k_ => (P0_ k_ ∨ w.heap.size ≤ k_))) k_ ∧ some k_ ≠ (.slice none 0 0 : Value).ownBlock)) (HO251.out) (fun k_ hk => ⟨hk,(by simp [Value.ownBlock])⟩))));(case aB => exact (by repeat (first | (with_reducible first | exact HB.out | apply q0b | apply q0a | apply q0c) | exact HB.out)));(case aF => exact (fun k_ hk => (.inr (Nat.le_trans (q0g (by repeat (first | (with_reducible first | exact HB.out | apply q0b | apply q0a | apply q0c) | exact HB.out))) hk))));(case aO => exact ((Kd.N_nil _ _ _ _ (fun k_ => (P0_ k_ ∨ w.heap.size ≤ k_)))));(case aS => exact (q0g (by repeat (first | (with_reducible first | exact HB.out | apply q0b | apply q0a | apply q0c) | exact HB.out))));(case aL => have := LMc21.out;omega);intro v253 w32 ho hb hg hat;rw [← Ny252.out] at ho;have n0_ := Aside0.mk (Kd.V_afterv (Kd.V_apart_nil (by (with_reducible repeat (first | apply Kd.V_alloc | apply Kd.V_drewN | apply Kd.V_drew));exact HO_0.out)) hg hat);have n1_ := Aside0.mk (Kd.N_afterv (Kd.N_apart_nil (by (with_reducible repeat (first | apply Kd.N_alloc | apply Kd.N_drewN | apply Kd.N_drew));exact HO_3.out)) hg hat);have n2_ := Aside0.mk (Kd.V_afterv (Kd.V_apart_nil (by (with_reducible repeat (first | apply Kd.V_alloc | apply Kd.V_drewN | apply Kd.V_drew));exact HL241_0.out)) hg hat);have n3_ := Aside0.mk (Kd.V_afterv (Kd.V_apart_nil (by (with_reducible repeat (first | apply Kd.V_alloc | apply Kd.V_drewN | apply Kd.V_drew));exact HL242_0.out)) hg hat);have n4_ := Aside0.mk (Kd.V_afterv (Kd.V_apart_nil (by (with_reducible repeat (first | apply Kd.V_alloc | apply Kd.V_drewN | apply Kd.V_drew));exact HL244_0.out)) hg hat);have n5_ := Aside0.mk (Kd.V_afterv (Kd.V_apart_nil (by (with_reducible repeat (first | apply Kd.V_alloc | apply Kd.V_drewN | apply Kd.V_drew));exact HL245_0.out)) hg hat);have n6_ := Aside0.mk (Kd.V_afterv (Kd.V_apart_nil (by (with_reducible repeat (first | apply Kd.V_alloc | apply Kd.V_drewN | apply Kd.V_drew));exact HO251.out)) hg hat);have n7_ := Aside0.mk (hb);have n8_ := Aside0.mk (ho);clear HO_0;clear HO_3;clear HL241_0;clear HL242_0;clear HL244_0;clear HL245_0;clear HO251;clear HB;have HO_0 := n0_;have HO_3 := n1_;have HL241_0 := n2_;have HL242_0 := n3_;have HL244_0 := n4_;have HL245_0 := n5_;have HO251 := n6_;have HB := n7_;have HO254 := n8_;clear n0_ n1_ n2_ n3_ n4_ n5_ n6_ n7_ n8_;clear ho hb hg hat;have p255 : 0 ≤ (x4_1 : Int) := of_decide_eq_true (by first | (with_reducible assumption) | assumption);have q255 : x4_1 < (l0.length : Int) := of_decide_eq_true (by first | (with_reducible assumption) | assumption);obtain ⟨ad255,A255_0,c255_0,e255,hx255_0,hl255_0,hi255_0⟩ := at_L4 (Kd.V_reads' HO_0.out).2.2 x4_1 p255 q255;obtain rfl : ad242 = ad255 := (by injection e255);obtain ⟨ce255,hce255,hMe255,hcc255⟩ := Kd.V_get HO_0.out [] x4_1 p255 (by first | exact q255 | exact of_decide_eq_true (by first | (with_reducible assumption) | assumption) | (have e_ := (Kd.V_reads' HO_0.out).1;omega));obtain ⟨ua255_0,uc255_0,rfl,ul255_0,ge255_0⟩ := Kd.FK_slice_open hMe255;have hv255_0 := hcc255 0 _ rfl;rw [Nat.add_zero,show ((Kd.slice 66 k66)).sz = 1 from rfl,Nat.mul_one] at hv255_0;replace hv255_0 := Option.some.inj (hv255_0.symm.trans hx255_0);injection hv255_0 with hva_ hvn_ hvc_;rw [hva_] at ge255_0;rw [hvc_] at ul255_0;have HL255_0 := Aside0.mk (show Kd.V k66 66 _ w.heap.size _ _ (rd_L4 l0 x4_1) from Kd.V_mk ul255_0 ge255_0);clear hva_ hvn_ hvc_ ge255_0 ul255_0;clear hcc255 hce255;have HR255_0 := Aside0.mk hi255_0;have HC255_0 := Aside0.mk hl255_0;clear hi255_0 hl255_0;replace p255 := eq_true p255;replace q255 := eq_true q255) | ((with_reducible refine q0v (b := .append) (xs := #[.tmp 51,.tmp 56]) rfl ?_);at_builtin;refine Kd.N_append (Kd.slice 66 k66) (w0 := w) w.heap.size rfl (.tmp 51) (.tmp 56) 113 23 (.slice none 0 0) 24 rfl Try.underlying113 info23 rfl (by decide) (by omega) v253 y252 (rd_L4 l0 x4_1) [.slice A255_0 (rd_L4 l0 x4_1).length c255_0] (fun k_ => (P0_ k_ ∨ w.heap.size ≤ k_)) (fun k_ => ((fun k_ => (P0_ k_ ∨ w.heap.size ≤ k_))) k_ ∧ some k_ ≠ (v253 : Value).ownBlock) rfl rfl ?aP (fun _ hk => hk) ?aF ?aO ?aB ?aS ?aL ?_;(case aP => exact (Kd.FK_slice_mk (Kd.V_reads' (Kd.V_mono (ok' := (fun k_ => ((fun k_ => (P0_ k_ ∨ w.heap.size ≤ k_))) k_ ∧ some k_ ≠ (v253 : Value).ownBlock)) (HL255_0.out) (fun k_ hk => ⟨hk.1.1,hk.2⟩))).2.1 (Kd.V_F (Kd.V_mono (ok' := (fun k_ => ((fun k_ => (P0_ k_ ∨ w.heap.size ≤ k_))) k_ ∧ some k_ ≠ (v253 : Value).ownBlock)) (HL255_0.out) (fun k_ hk => ⟨hk.1.1,hk.2⟩)))));(case aB => exact (by repeat (first | (with_reducible first | exact HB.out | apply q0b | apply q0a | apply q0c) | exact HB.out)));(case aF => exact (fun k_ hk => (.inr (Nat.le_trans (q0g (by repeat (first | (with_reducible first | exact HB.out | apply q0b | apply q0a | apply q0c) | exact HB.out))) hk))));(case aO => exact (by (with_reducible repeat (first | apply Kd.N_alloc | apply Kd.N_drewN | apply Kd.N_drew));exact HO254.out));(case aS => exact (q0g (by repeat (first | (with_reducible first | exact HB.out | apply q0b | apply q0a | apply q0c) | exact HB.out))));(case aL => have := LMc22.out;omega);intro v257 w33 ho hb hg hat;rw [← Ny256.out] at ho;have n0_ := Aside0.mk (Kd.V_afterv (ok := (fun k_ => (P0_ k_ ∨ w.heap.size ≤ k_) ∧ some k_ ≠ (.slice (some ad241) x3_1.length co27 : Value).ownBlock)) (by (with_reducible repeat (first | apply Kd.V_alloc | apply Kd.V_drewN | apply Kd.V_drew));exact HO_0.out) hg hat);have n1_ := Aside0.mk (Kd.N_afterv (ok := (fun k_ => (P0_ k_ ∨ w.heap.size ≤ k_))) (by (with_reducible repeat (first | apply Kd.N_alloc | apply Kd.N_drewN | apply Kd.N_drew));exact HO_3.out) hg hat);have n2_ := Aside0.mk (Kd.V_afterv (ok := (fun k_ => (P0_ k_ ∨ w.heap.size ≤ k_) ∧ some k_ ≠ (.slice (some ad241) x3_1.length co27 : Value).ownBlock)) (by (with_reducible repeat (first | apply Kd.V_alloc | apply Kd.V_drewN | apply Kd.V_drew));exact HL241_0.out) hg hat);have n3_ := Aside0.mk (Kd.V_afterv (ok := (fun k_ => (P0_ k_ ∨ w.heap.size ≤ k_) ∧ some k_ ≠ (.slice (some ad241) x3_1.length co27 : Value).ownBlock)) (by (with_reducible repeat (first | apply Kd.V_alloc | apply Kd.V_drewN | apply Kd.V_drew));exact HL242_0.out) hg hat);have n4_ := Aside0.mk (Kd.V_afterv (ok := (fun k_ => (P0_ k_ ∨ w.heap.size ≤ k_) ∧ some k_ ≠ (.slice (some ad241) x3_1.length co27 : Value).ownBlock)) (by (with_reducible repeat (first | apply Kd.V_alloc | apply Kd.V_drewN | apply Kd.V_drew));exact HL244_0.out) hg hat);have n5_ := Aside0.mk (Kd.V_afterv (ok := (fun k_ => (P0_ k_ ∨ w.heap.size ≤ k_) ∧ some k_ ≠ (.slice (some ad241) x3_1.length co27 : Value).ownBlock)) (by (with_reducible repeat (first | apply Kd.V_alloc | apply Kd.V_drewN | apply Kd.V_drew));exact HL245_0.out) hg hat);have n6_ := Aside0.mk (Kd.V_afterv (ok := (fun k_ => (P0_ k_ ∨ w.heap.size ≤ k_))) (by (with_reducible repeat (first | apply Kd.V_alloc | apply Kd.V_drewN | apply Kd.V_drew));exact HO251.out) hg hat);have n7_ := Aside0.mk (Kd.V_afterv (ok := (fun k_ => (P0_ k_ ∨ w.heap.size ≤ k_) ∧ some k_ ≠ (.slice (some ad241) x3_1.length co27 : Value).ownBlock)) (by (with_reducible repeat (first | apply Kd.V_alloc | apply Kd.V_drewN | apply Kd.V_drew));exact HL255_0.out) hg hat);have n8_ := Aside0.mk (hb);have n9_ := Aside0.mk (ho);clear HO_0;clear HO_3;clear HL241_0;clear HL242_0;clear HL244_0;clear HL245_0;clear HO251;clear HL255_0;clear HB;clear HO254;have HO_0 := n0_;have HO_3 := n1_;have HL241_0 := n2_;have HL242_0 := n3_;have HL244_0 := n4_;have HL245_0 := n5_;have HO251 := n6_;have HL255_0 := n7_;have HB := n8_;have HO258 := n9_;clear n0_ n1_ n2_ n3_ n4_ n5_ n6_ n7_ n8_ n9_;clear ho hb hg hat;have q34 : (x5_2 : Int) ≤ ((x3_1.length : Int) : Int) := of_decide_eq_true (by first | (with_reducible assumption) | assumption);obtain ⟨i034,hi034,_,hsz34,_⟩ := info_parts info23;have hroom34 : x3_1.length ≤ co27 := (Kd.N_reads' HO_3.out).2.1;have hC34 : Kd.F (Kd.slice 66 k66) _ _ (some ad241) x3_1.length x3_1 := (Kd.V_at (base := w.heap.size) (Kd.N_V HO_3.out)).2.2;have q034 : (0 : Int) ≤ (x5_2 : Int) := of_decide_eq_true (by first | (with_reducible assumption) | assumption);have hcut34 := cut_from (P := Try.prog) 113 23 .i64 Try.underlying113 hi034 1 hsz34 (some ad241) x3_1.length co27 x5_2 q034 q34;have hr34 := Kd.F_cut (m := (x5_2 : Int).toNat) (c := co27) hC34 (by omega) hroom34;obtain ⟨A34,hA34⟩ : ∃ A1,A1 = (if co27 = (x5_2 : Int).toNat then (some ad241) else ((some ad241) : Option Addr).map (·.add ((x5_2 : Int).toNat * 1))) := ⟨_,rfl⟩;obtain ⟨c34,hc34⟩ : ∃ c1,c1 = co27 - (x5_2 : Int).toNat := ⟨_,rfl⟩;have hy34 : y259.length = x3_1.length - (x5_2 : Int).toNat := (by rw [Ny259.out,List.length_drop] <;> omega);rw [show (x3_1).drop (x5_2 : Int).toNat = y259 from Ny259.out.symm] at hr34;replace hr34 : Kd.F (Kd.slice 66 k66) _ _ A34 y259.length y259 := (by rw [hA34];exact hr34);rw [← hy34,← hA34,← hc34] at hcut34;have HO263 := Aside0.mk (show Kd.V (Kd.slice 66 k66) 23 _ w.heap.size _ (.slice A34 y259.length c34) y259 from Kd.V_mk (by rw [hy34,hc34];exact Nat.sub_le_sub_right hroom34 _) hr34);have HC263 := Aside0.mk (show y259.length ≤ c34 from by rw [hy34,hc34];exact Nat.sub_le_sub_right hroom34 _);clear hr34 hC34 hroom34 hi034 hsz34 hc34;have KY34 := Aside0.mk hy34;have KA34 := Aside0.mk hA34;clear hy34 hA34;replace q34 := eq_true q34) | ((with_reducible refine q0v (b := .append) (xs := #[.tmp 58,.tmp 61]) rfl ?_);at_builtin;refine Kd.N_append_rows (Kd.slice 66 k66) (w0 := w) w.heap.size rfl (.tmp 58) (.tmp 61) 113 23 (.slice none 0 0) 24 rfl Try.underlying113 info23 rfl (by decide) (by omega) v257 y256 y259 _ _ _ (fun k_ => (P0_ k_ ∨ w.heap.size ≤ k_)) (fun k_ => ((fun k_ => (P0_ k_ ∨ w.heap.size ≤ k_))) k_ ∧ some k_ ≠ (v257 : Value).ownBlock) rfl rfl ?aO ?aR (fun _ hk => hk) ?aF ?aB ?aS ?aL ?_;(case aR => exact (by skip;exact Kd.V_F (Kd.V_mono (ok' := (fun k_ => ((fun k_ => (P0_ k_ ∨ w.heap.size ≤ k_))) k_ ∧ some k_ ≠ (v257 : Value).ownBlock)) (HO263.out) (fun k_ hk => ⟨hk.1,hk.2⟩))));(case aB => exact (by repeat (first | (with_reducible first | exact HB.out | apply q0b | apply q0a | apply q0c) | exact HB.out)));(case aF => exact (fun k_ hk => (.inr (Nat.le_trans (q0g (by repeat (first | (with_reducible first | exact HB.out | apply q0b | apply q0a | apply q0c) | exact HB.out))) hk))));(case aO => exact (by (with_reducible repeat (first | apply Kd.N_alloc | apply Kd.N_drewN | apply Kd.N_drew));exact HO258.out));(case aS => exact (q0g (by repeat (first | (with_reducible first | exact HB.out | apply q0b | apply q0a | apply q0c) | exact HB.out))));(case aL => have := LMc25.out;omega);intro v265 w35 ho hb hg hat;rw [← Ny264.out] at ho;have n0_ := Aside0.mk (Kd.V_afterv (ok := (fun k_ => (P0_ k_ ∨ w.heap.size ≤ k_) ∧ some k_ ≠ (.slice (some ad241) x3_1.length co27 : Value).ownBlock)) (by (with_reducible repeat (first | apply Kd.V_alloc | apply Kd.V_drewN | apply Kd.V_drew));exact HO_0.out) hg hat);have n1_ := Aside0.mk (Kd.N_afterv (ok := (fun k_ => (P0_ k_ ∨ w.heap.size ≤ k_))) (by (with_reducible repeat (first | apply Kd.N_alloc | apply Kd.N_drewN | apply Kd.N_drew));exact HO_3.out) hg hat);have n2_ := Aside0.mk (Kd.V_afterv (ok := (fun k_ => (P0_ k_ ∨ w.heap.size ≤ k_) ∧ some k_ ≠ (.slice (some ad241) x3_1.length co27 : Value).ownBlock)) (by (with_reducible repeat (first | apply Kd.V_alloc | apply Kd.V_drewN | apply Kd.V_drew));exact HL241_0.out) hg hat);have n3_ := Aside0.mk (Kd.V_afterv (ok := (fun k_ => (P0_ k_ ∨ w.heap.size ≤ k_) ∧ some k_ ≠ (.slice (some ad241) x3_1.length co27 : Value).ownBlock)) (by (with_reducible repeat (first | apply Kd.V_alloc | apply Kd.V_drewN | apply Kd.V_drew));exact HL242_0.out) hg hat);have n4_ := Aside0.mk (Kd.V_afterv (ok := (fun k_ => (P0_ k_ ∨ w.heap.size ≤ k_) ∧ some k_ ≠ (.slice (some ad241) x3_1.length co27 : Value).ownBlock)) (by (with_reducible repeat (first | apply Kd.V_alloc | apply Kd.V_drewN | apply Kd.V_drew));exact HL244_0.out) hg hat);have n5_ := Aside0.mk (Kd.V_afterv (ok := (fun k_ => (P0_ k_ ∨ w.heap.size ≤ k_) ∧ some k_ ≠ (.slice (some ad241) x3_1.length co27 : Value).ownBlock)) (by (with_reducible repeat (first | apply Kd.V_alloc | apply Kd.V_drewN | apply Kd.V_drew));exact HL245_0.out) hg hat);have n6_ := Aside0.mk (Kd.V_afterv (ok := (fun k_ => (P0_ k_ ∨ w.heap.size ≤ k_))) (by (with_reducible repeat (first | apply Kd.V_alloc | apply Kd.V_drewN | apply Kd.V_drew));exact HO251.out) hg hat);have n7_ := Aside0.mk (Kd.V_afterv (ok := (fun k_ => (P0_ k_ ∨ w.heap.size ≤ k_) ∧ some k_ ≠ (.slice (some ad241) x3_1.length co27 : Value).ownBlock)) (by (with_reducible repeat (first | apply Kd.V_alloc | apply Kd.V_drewN | apply Kd.V_drew));exact HL255_0.out) hg hat);have n8_ := Aside0.mk (Kd.V_afterv (ok := (fun k_ => (P0_ k_ ∨ w.heap.size ≤ k_))) (by (with_reducible repeat (first | apply Kd.V_alloc | apply Kd.V_drewN | apply Kd.V_drew));exact HO263.out) hg hat);have n9_ := Aside0.mk (hb);have n10_ := Aside0.mk (ho);clear HO_0;clear HO_3;clear HL241_0;clear HL242_0;clear HL244_0;clear HL245_0;clear HO251;clear HL255_0;clear HO263;clear HB;clear HO258;have HO_0 := n0_;have HO_3 := n1_;have HL241_0 := n2_;have HL242_0 := n3_;have HL244_0 := n4_;have HL245_0 := n5_;have HO251 := n6_;have HL255_0 := n7_;have HO263 := n8_;have HB := n9_;have HO266 := n10_;clear n0_ n1_ n2_ n3_ n4_ n5_ n6_ n7_ n8_ n9_ n10_;clear ho hb hg hat))
                go_roundg k2
                case measure => have := HK1.out;have := HK2.out;omega
                case rel => exact ⟨(y264),(wrap64 (x4_1 + 1)),(by first | rfl | (simp;done) | (simp [*];done)),H',⟨by have := HK1.out;have := HK2.out;omega⟩,⟨by (with_reducible repeat (first | apply Kd.V_alloc | apply Kd.V_drewN | apply Kd.V_drew));exact Kd.V_mono HO_0.out (fun _ hk => ⟨hk.1.1,hk.2⟩)⟩,⟨by (with_reducible repeat (first | apply Kd.N_alloc | apply Kd.N_drewN | apply Kd.N_drew));exact HO266.out⟩,⟨by repeat (first | (with_reducible first | exact HB.out | apply q0b | apply q0a | apply q0c) | exact HB.out)⟩⟩
               ·rw [if_neg c25] at H
                exact absurd H (by simp)
              ·rw [if_neg c22] at H
               exact absurd H (by simp)
             ·rw [if_neg c21] at H
              exact absurd H (by simp)
            ·rw [if_neg c20] at H
             exact absurd H (by simp)
         ·rw [if_neg c6] at H
          exact absurd H (by simp)
        ·rw [if_neg c5] at H
         exact absurd H (by simp)
       ·rw [if_neg c4] at H
        exact absurd H (by simp)
      ·rw [if_neg c3] at H
       have c3b0 : decide (x5_2 < (x3_1.length : Int)) = false := decide_eq_false c3
       clear c3
       by_cases c36 : 0 ≤ x5_2
       ·rw [if_pos c36] at H
        have c36b0 := eq_true c36
        have c36b1 : decide (0 ≤ x5_2) = true := decide_eq_true c36
        clear c36
        by_cases c37 : x5_2 ≤ (x3_1.length : Int)
        ·rw [if_pos c37] at H
         have c37b0 := eq_true c37
         have c37b1 : decide (x5_2 ≤ (x3_1.length : Int)) = true := decide_eq_true c37
         clear c37
         obtain ⟨y267,hy267⟩ : ∃ y_ : List (List (S66)),y_ = (x3_1.take (x5_2 : Int).toNat) := ⟨_,rfl⟩
         replace H : (if ([] : List (List (S66))).length + y267.length < 5864062014805 then ((some (([] : List (List (S66))) ++ y267 : List (List (S66)))).bind fun y272 => (if 0 ≤ x4_1 then (if x4_1 < (l0.length : Int) then (if y272.length < 5864062014805 then ((some (y272 ++ [rd_L4 l0 x4_1] : List (List (S66)))).bind fun y276 => ((some (x3_1.drop (x5_2 : Int).toNat : List (List (S66)))).bind fun y279 => (if y276.length + y279.length < 5864062014805 then (verdererref02_Sort.l0 k2 l0 (y276 ++ y279) (wrap64 (x4_1 + 1))) else (none)))) else (none)) else (none)) else (none))) else (none)) = some r := by first | (rw [hy267];with_reducible exact H) | (have H2_ := (Option.bind_some _ _).symm.trans H;rw [hy267];with_reducible exact H2_) | (have H2_ := (Option.bind_some _ _).symm.trans H;with_reducible exact H2_) | with_reducible exact H | (rw [hy267];exact H) | exact H
         have Ny267 := Aside0.mk hy267
         clear hy267
         by_cases c38 : ([] : List (List (S66))).length + y267.length < 5864062014805
         ·rw [if_pos c38] at H
          have LMc38 := Aside0.mk c38
          clear c38
          obtain ⟨y272,hy272⟩ : ∃ y_ : List (List (S66)),y_ = (([] : List (List (S66))) ++ y267) := ⟨_,rfl⟩
          replace H : (if 0 ≤ x4_1 then (if x4_1 < (l0.length : Int) then (if y272.length < 5864062014805 then ((some (y272 ++ [rd_L4 l0 x4_1] : List (List (S66)))).bind fun y276 => ((some (x3_1.drop (x5_2 : Int).toNat : List (List (S66)))).bind fun y279 => (if y276.length + y279.length < 5864062014805 then (verdererref02_Sort.l0 k2 l0 (y276 ++ y279) (wrap64 (x4_1 + 1))) else (none)))) else (none)) else (none)) else (none)) = some r := by first | (rw [hy272];with_reducible exact H) | (have H2_ := (Option.bind_some _ _).symm.trans H;rw [hy272];with_reducible exact H2_) | (have H2_ := (Option.bind_some _ _).symm.trans H;with_reducible exact H2_) | with_reducible exact H | (rw [hy272];exact H) | exact H
          have Ny272 := Aside0.mk hy272
          clear hy272
          by_cases c39 : 0 ≤ x4_1
          ·rw [if_pos c39] at H
           have c39b0 : decide (0 ≤ x4_1) = true := decide_eq_true c39
           clear c39
           by_cases c40 : x4_1 < (l0.length : Int)
           ·rw [if_pos c40] at H
            have c40b0 : decide (x4_1 < (l0.length : Int)) = true := decide_eq_true c40
            clear c40
            by_cases c41 : y272.length < 5864062014805
            ·rw [if_pos c41] at H
             have LMc41 := Aside0.mk c41
             clear c41
             obtain ⟨y276,hy276⟩ : ∃ y_ : List (List (S66)),y_ = (y272 ++ [rd_L4 l0 x4_1]) := ⟨_,rfl⟩
             replace H : ((some (x3_1.drop (x5_2 : Int).toNat : List (List (S66)))).bind fun y279 => (if y276.length + y279.length < 5864062014805 then (verdererref02_Sort.l0 k2 l0 (y276 ++ y279) (wrap64 (x4_1 + 1))) else (none))) = some r := by first | (rw [hy276];with_reducible exact H) | (have H2_ := (Option.bind_some _ _).symm.trans H;rw [hy276];with_reducible exact H2_) | (have H2_ := (Option.bind_some _ _).symm.trans H;with_reducible exact H2_) | with_reducible exact H | (rw [hy276];exact H) | exact H
             have Ny276 := Aside0.mk hy276
             clear hy276
             have c42b0 := eq_true (of_decide_eq_true (by first | (with_reducible assumption) | assumption) : 0 ≤ x5_2)
             have c43b0 := eq_true (of_decide_eq_true (by first | (with_reducible assumption) | assumption) : x5_2 ≤ (x3_1.length : Int))
             obtain ⟨y279,hy279⟩ : ∃ y_ : List (List (S66)),y_ = (x3_1.drop (x5_2 : Int).toNat) := ⟨_,rfl⟩
             replace H : (if y276.length + y279.length < 5864062014805 then (verdererref02_Sort.l0 k2 l0 (y276 ++ y279) (wrap64 (x4_1 + 1))) else (none)) = some r := by first | (rw [hy279];with_reducible exact H) | (have H2_ := (Option.bind_some _ _).symm.trans H;rw [hy279];with_reducible exact H2_) | (have H2_ := (Option.bind_some _ _).symm.trans H;with_reducible exact H2_) | with_reducible exact H | (rw [hy279];exact H) | exact H
             have Ny279 := Aside0.mk hy279
             clear hy279
             by_cases c44 : y276.length + y279.length < 5864062014805
             ·rw [if_pos c44] at H
              have LMc44 := Aside0.mk c44
              clear c44
              obtain ⟨y284,hy284⟩ : ∃ y_ : List (List (S66)),y_ = (y276 ++ y279) := ⟨_,rfl⟩
              replace H : (verdererref02_Sort.l0 k2 l0 y284 (wrap64 (x4_1 + 1))) = some r := by first | (rw [hy284];with_reducible exact H) | (have H2_ := (Option.bind_some _ _).symm.trans H;rw [hy284];with_reducible exact H2_) | (have H2_ := (Option.bind_some _ _).symm.trans H;with_reducible exact H2_) | with_reducible exact H | (rw [hy284];exact H) | exact H
              have Ny284 := Aside0.mk hy284
              clear hy284
              have H' := Aside0.mk H
              clear H
              try go_wp2
              have n0_ := Aside0.mk (Kd.V_drew HO_0.out)
              have n1_ := Aside0.mk (Kd.N_drew HO_3.out)
              have n2_ := Aside0.mk (q0c HB.out)
              clear HO_0
              clear HO_3
              clear HB
              have HO_0 := n0_
              have HO_3 := n1_
              have HB := n2_
              clear n0_ n1_ n2_
              obtain ⟨Ao46,co46,eo46⟩ := Kd.N_slice HO_3.out
              (first | subst eo46 | (injection eo46 with f1_ f2_ f3_;have f4_ := f1_.symm;have f5_ := f3_.symm;clear f1_ f2_ f3_;subst f4_;subst f5_))
              refine start_ (n := 16) (S := fun w' => True) (ds := []) #[false,false,false,false,false,false,false,false,false,false,false,false,false,false,false,false] (by kernel_rfl) rfl rfl trivial (fun hHeld => ?_);refine with_tabW verdererref02_Sort.tab6 verdererref02_Sort.bits6 (fun HT_ HW_ => ?_)
              generalize wr.drew = w45 at HO_0 HO_3 HB hHeld ⊢
              refine pure_ (i := 0) (N := some 13) (v := ?_) (a' := ?_) #[true,false,false,false,false,false,false,false,false,false,false,false,false,false,false,false] rfl rfl (q0q HT_.out (by kernel_rfl)) (fun _ _ _ h => h) (Or.inl ⟨by rfl,?_⟩) ?_ ?_
              rotate_left
              ·intro w'
               go_simp
               with_reducible rfl
              rotate_left
              ·simp only [Act.put,zA,zB,zC,i64_w,i32_w]
               rfl
              refine pure_ (i := 1) (N := some 14) (v := ?_) (a' := ?_) #[true,true,false,false,false,false,false,false,false,false,false,false,false,false,false,false] rfl rfl (q0q HT_.out (by kernel_rfl)) (fun _ _ _ h => h) (Or.inl ⟨by rfl,?_⟩) ?_ ?_
              rotate_left
              ·intro w'
               go_simp
               with_reducible rfl
              rotate_left
              ·simp only [Act.put,zA,zB,zC,i64_w,i32_w]
               rfl
              refine pure_ (i := 2) (N := some 15) (v := ?_) (a' := ?_) #[true,true,true,false,false,false,false,false,false,false,false,false,false,false,false,false] rfl rfl (q0q HT_.out (by kernel_rfl)) (fun _ _ _ h => h) (Or.inl ⟨by rfl,?_⟩) ?_ ?_
              rotate_left
              ·intro w'
               go_simp
               with_reducible rfl
              rotate_left
              ·simp only [Act.put,zA,zB,zC,i64_w,i32_w]
               rfl
              refine pure_ (i := 3) (N := some 16) (v := ?_) (a' := ?_) #[true,true,true,true,false,false,false,false,false,false,false,false,false,false,false,false] rfl rfl (q0q HT_.out (by kernel_rfl)) (fun _ _ _ h => h) (Or.inl ⟨by rfl,?_⟩) ?_ ?_
              rotate_left
              ·intro w'
               go_simp
               with_reducible rfl
              rotate_left
              ·simp only [Act.put,zA,zB,zC,i64_w,i32_w]
               rfl
              refine pure_ (i := 4) (N := some 17) (v := ?_) (a' := ?_) #[true,true,true,true,true,false,false,false,false,false,false,false,false,false,false,false] rfl rfl (q0q HT_.out (by kernel_rfl)) (fun _ _ _ h => h) (Or.inl ⟨by rfl,?_⟩) ?_ ?_
              rotate_left
              ·intro w'
               go_simp
               with_reducible rfl
              rotate_left
              ·simp only [Act.put,zA,zB,zC,i64_w,i32_w]
               rfl
              refine pure_ (i := 5) (N := some 18) (v := undef) (a' := ?_) #[true,true,true,true,true,true,false,false,false,false,false,false,false,false,false,false] rfl rfl (q0q HT_.out (by kernel_rfl)) (fun _ _ _ h => h) (Or.inr ⟨by rfl,rfl⟩) ?_ ?_
              rotate_left
              ·simp only [Act.put,zA,zB,zC,i64_w,i32_w]
               rfl
              refine pure_ (i := 6) (N := some 19) (v := undef) (a' := ?_) #[true,true,true,true,true,true,true,false,false,false,false,false,false,false,false,false] rfl rfl (q0q HT_.out (by kernel_rfl)) (fun _ _ _ h => h) (Or.inr ⟨by rfl,rfl⟩) ?_ ?_
              rotate_left
              ·simp only [Act.put,zA,zB,zC,i64_w,i32_w]
               rfl
              refine pure_ (i := 7) (N := some 20) (v := undef) (a' := ?_) #[true,true,true,true,true,true,true,true,false,false,false,false,false,false,false,false] rfl rfl (q0q HT_.out (by kernel_rfl)) (fun _ _ _ h => h) (Or.inr ⟨by rfl,rfl⟩) ?_ ?_
              rotate_left
              ·simp only [Act.put,zA,zB,zC,i64_w,i32_w]
               rfl
              refine pure_ (i := 8) (N := some 21) (v := undef) (a' := ?_) #[true,true,true,true,true,true,true,true,true,false,false,false,false,false,false,false] rfl rfl (q0q HT_.out (by kernel_rfl)) (fun _ _ _ h => h) (Or.inr ⟨by rfl,rfl⟩) ?_ ?_
              rotate_left
              ·simp only [Act.put,zA,zB,zC,i64_w,i32_w]
               rfl
              refine pure_ (i := 9) (N := some 22) (v := undef) (a' := ?_) #[true,true,true,true,true,true,true,true,true,true,false,false,false,false,false,false] rfl rfl (q0q HT_.out (by kernel_rfl)) (fun _ _ _ h => h) (Or.inr ⟨by rfl,rfl⟩) ?_ ?_
              rotate_left
              ·simp only [Act.put,zA,zB,zC,i64_w,i32_w]
               rfl
              refine pure_ (i := 10) (N := some 23) (v := undef) (a' := ?_) #[true,true,true,true,true,true,true,true,true,true,true,false,false,false,false,false] rfl rfl (q0q HT_.out (by kernel_rfl)) (fun _ _ _ h => h) (Or.inr ⟨by rfl,rfl⟩) ?_ ?_
              rotate_left
              ·simp only [Act.put,zA,zB,zC,i64_w,i32_w]
               rfl
              refine pure_ (i := 11) (N := some 24) (v := undef) (a' := ?_) #[true,true,true,true,true,true,true,true,true,true,true,true,false,false,false,false] rfl rfl (q0q HT_.out (by kernel_rfl)) (fun _ _ _ h => h) (Or.inr ⟨by rfl,rfl⟩) ?_ ?_
              rotate_left
              ·simp only [Act.put,zA,zB,zC,i64_w,i32_w]
               rfl
              refine pure_ (i := 12) (N := some 25) (v := undef) (a' := ?_) #[true,true,true,true,true,true,true,true,true,true,true,true,true,false,false,false] rfl rfl (q0q HT_.out (by kernel_rfl)) (fun _ _ _ h => h) (Or.inr ⟨by rfl,rfl⟩) ?_ ?_
              rotate_left
              ·simp only [Act.put,zA,zB,zC,i64_w,i32_w]
               rfl
              refine pure_ (i := 13) (N := some 26) (v := undef) (a' := ?_) #[true,true,true,true,true,true,true,true,true,true,true,true,true,true,false,false] rfl rfl (q0q HT_.out (by kernel_rfl)) (fun _ _ _ h => h) (Or.inr ⟨by rfl,rfl⟩) ?_ ?_
              rotate_left
              ·simp only [Act.put,zA,zB,zC,i64_w,i32_w]
               rfl
              refine pure_ (i := 14) (N := some 27) (v := undef) (a' := ?_) #[true,true,true,true,true,true,true,true,true,true,true,true,true,true,true,false] rfl rfl (q0q HT_.out (by kernel_rfl)) (fun _ _ _ h => h) (Or.inr ⟨by rfl,rfl⟩) ?_ ?_
              rotate_left
              ·simp only [Act.put,zA,zB,zC,i64_w,i32_w]
               rfl
              refine pure_ (i := 15) (N := some 28) (v := ?_) (a' := ?_) #[true,true,true,true,true,true,true,true,true,true,true,true,true,true,true,true] rfl rfl (q0q HT_.out (by kernel_rfl)) (fun _ _ _ h => h) (Or.inl ⟨by rfl,?_⟩) ?_ ?_
              rotate_left
              ·intro w'
               go_simp
               with_reducible rfl
              rotate_left
              ·simp only [Act.put,zA,zB,zC,i64_w,i32_w]
               rfl
              refine done_ (done_of HT_.out (by kernel_rfl)) ?_
              try go_wp2
              have n0_ := Aside0.mk (Kd.V_drew HO_0.out)
              have n1_ := Aside0.mk (Kd.N_drew HO_3.out)
              have n2_ := Aside0.mk (q0c HB.out)
              clear HO_0
              clear HO_3
              clear HB
              have HO_0 := n0_
              have HO_3 := n1_
              have HB := n2_
              clear n0_ n1_ n2_
              refine start_ (n := 15) (S := fun w' => True) (ds := []) #[false,false,false,false,false,false,false,false,false,false,false,false,false,false,false] (by kernel_rfl) rfl rfl trivial (fun hHeld => ?_);refine with_tabW verdererref02_Sort.tab8 verdererref02_Sort.bits8 (fun HT_ HW_ => ?_)
              generalize w45.drew = w47 at HO_0 HO_3 HB hHeld ⊢
              refine pure_ (i := 0) (N := some 31) (v := ?_) (a' := ?_) #[true,false,false,false,false,false,false,false,false,false,false,false,false,false,false] rfl rfl (q0q HT_.out (by kernel_rfl)) (fun _ _ _ h => h) (Or.inl ⟨by rfl,?_⟩) ?_ ?_
              rotate_left
              ·intro w'
               go_simp
               with_reducible rfl
              rotate_left
              ·simp only [Act.put,zA,zB,zC,i64_w,i32_w]
               rfl
              refine pure_ (i := 1) (N := some 32) (v := ?_) (a' := ?_) #[true,true,false,false,false,false,false,false,false,false,false,false,false,false,false] rfl rfl (q0q HT_.out (by kernel_rfl)) (fun _ _ _ h => h) (Or.inl ⟨by rfl,?_⟩) ?_ ?_
              rotate_left
              ·intro w'
               go_simp
               with_reducible rfl
              rotate_left
              ·simp only [Act.put,zA,zB,zC,i64_w,i32_w]
               rfl
              refine pure_ (i := 2) (N := some 33) (v := ?_) (a' := ?_) #[true,true,true,false,false,false,false,false,false,false,false,false,false,false,false] rfl rfl (q0q HT_.out (by kernel_rfl)) (fun _ _ _ h => h) (Or.inl ⟨by rfl,?_⟩) ?_ ?_
              rotate_left
              ·intro w'
               go_simp
               with_reducible rfl
              rotate_left
              ·simp only [Act.put,zA,zB,zC,i64_w,i32_w]
               rfl
              refine pure_ (i := 3) (N := some 34) (v := ?_) (a' := ?_) #[true,true,true,true,false,false,false,false,false,false,false,false,false,false,false] rfl rfl (q0q HT_.out (by kernel_rfl)) (fun _ _ _ h => h) (Or.inl ⟨by rfl,?_⟩) ?_ ?_
              rotate_left
              ·intro w'
               go_simp
               with_reducible rfl
              rotate_left
              ·simp only [Act.put,zA,zB,zC,i64_w,i32_w]
               rfl
              refine pure_ (i := 4) (N := some 35) (v := ?_) (a' := ?_) #[true,true,true,true,true,false,false,false,false,false,false,false,false,false,false] rfl rfl (q0q HT_.out (by kernel_rfl)) (fun _ _ _ h => h) (Or.inl ⟨by rfl,?_⟩) ?_ ?_
              rotate_left
              ·intro w'
               go_simp
               with_reducible rfl
              rotate_left
              ·simp only [Act.put,zA,zB,zC,i64_w,i32_w]
               rfl
              refine pure_ (i := 5) (N := some 36) (v := undef) (a' := ?_) #[true,true,true,true,true,true,false,false,false,false,false,false,false,false,false] rfl rfl (q0q HT_.out (by kernel_rfl)) (fun _ _ _ h => h) (Or.inr ⟨by rfl,rfl⟩) ?_ ?_
              rotate_left
              ·simp only [Act.put,zA,zB,zC,i64_w,i32_w]
               rfl
              refine pure_ (i := 6) (N := some 37) (v := undef) (a' := ?_) #[true,true,true,true,true,true,true,false,false,false,false,false,false,false,false] rfl rfl (q0q HT_.out (by kernel_rfl)) (fun _ _ _ h => h) (Or.inr ⟨by rfl,rfl⟩) ?_ ?_
              rotate_left
              ·simp only [Act.put,zA,zB,zC,i64_w,i32_w]
               rfl
              refine pure_ (i := 7) (N := some 38) (v := undef) (a' := ?_) #[true,true,true,true,true,true,true,true,false,false,false,false,false,false,false] rfl rfl (q0q HT_.out (by kernel_rfl)) (fun _ _ _ h => h) (Or.inr ⟨by rfl,rfl⟩) ?_ ?_
              rotate_left
              ·simp only [Act.put,zA,zB,zC,i64_w,i32_w]
               rfl
              refine pure_ (i := 8) (N := some 39) (v := undef) (a' := ?_) #[true,true,true,true,true,true,true,true,true,false,false,false,false,false,false] rfl rfl (q0q HT_.out (by kernel_rfl)) (fun _ _ _ h => h) (Or.inr ⟨by rfl,rfl⟩) ?_ ?_
              rotate_left
              ·simp only [Act.put,zA,zB,zC,i64_w,i32_w]
               rfl
              refine pure_ (i := 9) (N := some 40) (v := undef) (a' := ?_) #[true,true,true,true,true,true,true,true,true,true,false,false,false,false,false] rfl rfl (q0q HT_.out (by kernel_rfl)) (fun _ _ _ h => h) (Or.inr ⟨by rfl,rfl⟩) ?_ ?_
              rotate_left
              ·simp only [Act.put,zA,zB,zC,i64_w,i32_w]
               rfl
              refine pure_ (i := 10) (N := some 41) (v := undef) (a' := ?_) #[true,true,true,true,true,true,true,true,true,true,true,false,false,false,false] rfl rfl (q0q HT_.out (by kernel_rfl)) (fun _ _ _ h => h) (Or.inr ⟨by rfl,rfl⟩) ?_ ?_
              rotate_left
              ·simp only [Act.put,zA,zB,zC,i64_w,i32_w]
               rfl
              refine pure_ (i := 11) (N := some 42) (v := undef) (a' := ?_) #[true,true,true,true,true,true,true,true,true,true,true,true,false,false,false] rfl rfl (q0q HT_.out (by kernel_rfl)) (fun _ _ _ h => h) (Or.inr ⟨by rfl,rfl⟩) ?_ ?_
              rotate_left
              ·simp only [Act.put,zA,zB,zC,i64_w,i32_w]
               rfl
              refine pure_ (i := 12) (N := some 43) (v := undef) (a' := ?_) #[true,true,true,true,true,true,true,true,true,true,true,true,true,false,false] rfl rfl (q0q HT_.out (by kernel_rfl)) (fun _ _ _ h => h) (Or.inr ⟨by rfl,rfl⟩) ?_ ?_
              rotate_left
              ·simp only [Act.put,zA,zB,zC,i64_w,i32_w]
               rfl
              refine pure_ (i := 13) (N := some 44) (v := undef) (a' := ?_) #[true,true,true,true,true,true,true,true,true,true,true,true,true,true,false] rfl rfl (q0q HT_.out (by kernel_rfl)) (fun _ _ _ h => h) (Or.inr ⟨by rfl,rfl⟩) ?_ ?_
              rotate_left
              ·simp only [Act.put,zA,zB,zC,i64_w,i32_w]
               rfl
              refine pure_ (i := 14) (N := some 45) (v := ?_) (a' := ?_) #[true,true,true,true,true,true,true,true,true,true,true,true,true,true,true] rfl rfl (q0q HT_.out (by kernel_rfl)) (fun _ _ _ h => h) (Or.inl ⟨by rfl,?_⟩) ?_ ?_
              rotate_left
              ·intro w'
               go_simp
               with_reducible rfl
              rotate_left
              ·simp only [Act.put,zA,zB,zC,i64_w,i32_w]
               rfl
              refine done_ (done_of HT_.out (by kernel_rfl)) ?_
              have q48 : (x5_2 : Int) ≤ ((x3_1.length : Int) : Int) := of_decide_eq_true (by first | (with_reducible assumption) | assumption)
              obtain ⟨i048,hi048,_,hsz48,_⟩ := info_parts info23
              have hroom48 : x3_1.length ≤ co46 := (Kd.N_reads' HO_3.out).2.1
              have hC48 : Kd.F (Kd.slice 66 k66) _ _ Ao46 x3_1.length x3_1 := (Kd.V_at (base := w.heap.size) (Kd.N_V HO_3.out)).2.2
              have hcut48 := cut_to (P := Try.prog) 113 23 .i64 Try.underlying113 hi048 Ao46 x3_1.length co46 x5_2 (of_decide_eq_true (by first | (with_reducible assumption) | assumption)) q48 hroom48
              have hr48 := Kd.F_take (m := (x5_2 : Int).toNat) hC48 (by omega)
              have hy48 : y267.length = (x5_2 : Int).toNat := (by rw [Ny267.out,List.length_take];omega)
              rw [← Ny267.out] at hr48
              rw [← hy48] at hcut48
              have HO271 := Aside0.mk (show Kd.V (Kd.slice 66 k66) 23 _ w.heap.size _ (.slice Ao46 y267.length co46) y267 from Kd.V_mk (by omega) hr48)
              have HC271 := Aside0.mk (show y267.length ≤ co46 from by omega)
              clear hr48 hC48 hroom48 hi048 hsz48
              have KY48 := Aside0.mk hy48
              clear hy48
              replace q48 := eq_true q48
              try go_wp2_with (first | ((with_reducible refine q0v (b := .append) (xs := #[.tmp 46,.tmp 49]) rfl ?_);at_builtin;refine Kd.N_append_rows (Kd.slice 66 k66) (w0 := w) w.heap.size rfl (.tmp 46) (.tmp 49) 113 23 (.slice none 0 0) 24 rfl Try.underlying113 info23 rfl (by decide) (by omega) (.slice none 0 0) ([] : List (List (S66))) y267 _ _ _ (fun k_ => (P0_ k_ ∨ w.heap.size ≤ k_)) (fun k_ => ((fun k_ => (P0_ k_ ∨ w.heap.size ≤ k_))) k_ ∧ some k_ ≠ (.slice none 0 0 : Value).ownBlock) rfl rfl ?aO ?aR (fun _ hk => hk) ?aF ?aB ?aS ?aL ?_;(case aR => exact (by skip;exact Kd.V_F (Kd.V_mono (ok' := (fun k_ => ((fun k_ => (P0_ k_ ∨ w.heap.size ≤ k_))) k_ ∧ some k_ ≠ (.slice none 0 0 : Value).ownBlock)) (HO271.out) (fun k_ hk => ⟨hk,(by simp [Value.ownBlock])⟩))));(case aB => exact (by repeat (first | (with_reducible first | exact HB.out | apply q0b | apply q0a | apply q0c) | exact HB.out)));(case aF => exact (fun k_ hk => (.inr (Nat.le_trans (q0g (by repeat (first | (with_reducible first | exact HB.out | apply q0b | apply q0a | apply q0c) | exact HB.out))) hk))));(case aO => exact ((Kd.N_nil _ _ _ _ (fun k_ => (P0_ k_ ∨ w.heap.size ≤ k_)))));(case aS => exact (q0g (by repeat (first | (with_reducible first | exact HB.out | apply q0b | apply q0a | apply q0c) | exact HB.out))));(case aL => have := LMc38.out;omega);intro v273 w49 ho hb hg hat;rw [← Ny272.out] at ho;have n0_ := Aside0.mk (Kd.V_afterv (Kd.V_apart_nil (by (with_reducible repeat (first | apply Kd.V_alloc | apply Kd.V_drewN | apply Kd.V_drew));exact HO_0.out)) hg hat);have n1_ := Aside0.mk (Kd.N_afterv (Kd.N_apart_nil (by (with_reducible repeat (first | apply Kd.N_alloc | apply Kd.N_drewN | apply Kd.N_drew));exact HO_3.out)) hg hat);have n2_ := Aside0.mk (Kd.V_afterv (Kd.V_apart_nil (by (with_reducible repeat (first | apply Kd.V_alloc | apply Kd.V_drewN | apply Kd.V_drew));exact HO271.out)) hg hat);have n3_ := Aside0.mk (hb);have n4_ := Aside0.mk (ho);clear HO_0;clear HO_3;clear HO271;clear HB;have HO_0 := n0_;have HO_3 := n1_;have HO271 := n2_;have HB := n3_;have HO274 := n4_;clear n0_ n1_ n2_ n3_ n4_;clear ho hb hg hat;have p275 : 0 ≤ (x4_1 : Int) := of_decide_eq_true (by first | (with_reducible assumption) | assumption);have q275 : x4_1 < (l0.length : Int) := of_decide_eq_true (by first | (with_reducible assumption) | assumption);obtain ⟨ad275,A275_0,c275_0,e275,hx275_0,hl275_0,hi275_0⟩ := at_L4 (Kd.V_reads' HO_0.out).2.2 x4_1 p275 q275;cases e275;obtain ⟨ce275,hce275,hMe275,hcc275⟩ := Kd.V_get HO_0.out [] x4_1 p275 (by first | exact q275 | exact of_decide_eq_true (by first | (with_reducible assumption) | assumption) | (have e_ := (Kd.V_reads' HO_0.out).1;omega));obtain ⟨ua275_0,uc275_0,rfl,ul275_0,ge275_0⟩ := Kd.FK_slice_open hMe275;have hv275_0 := hcc275 0 _ rfl;rw [Nat.add_zero,show ((Kd.slice 66 k66)).sz = 1 from rfl,Nat.mul_one] at hv275_0;replace hv275_0 := Option.some.inj (hv275_0.symm.trans hx275_0);injection hv275_0 with hva_ hvn_ hvc_;rw [hva_] at ge275_0;rw [hvc_] at ul275_0;have HL275_0 := Aside0.mk (show Kd.V k66 66 _ w.heap.size _ _ (rd_L4 l0 x4_1) from Kd.V_mk ul275_0 ge275_0);clear hva_ hvn_ hvc_ ge275_0 ul275_0;clear hcc275 hce275;have HR275_0 := Aside0.mk hi275_0;have HC275_0 := Aside0.mk hl275_0;clear hi275_0 hl275_0;replace p275 := eq_true p275;replace q275 := eq_true q275) | ((with_reducible refine q0v (b := .append) (xs := #[.tmp 51,.tmp 56]) rfl ?_);at_builtin;refine Kd.N_append (Kd.slice 66 k66) (w0 := w) w.heap.size rfl (.tmp 51) (.tmp 56) 113 23 (.slice none 0 0) 24 rfl Try.underlying113 info23 rfl (by decide) (by omega) v273 y272 (rd_L4 l0 x4_1) [.slice A275_0 (rd_L4 l0 x4_1).length c275_0] (fun k_ => (P0_ k_ ∨ w.heap.size ≤ k_)) (fun k_ => ((fun k_ => (P0_ k_ ∨ w.heap.size ≤ k_))) k_ ∧ some k_ ≠ (v273 : Value).ownBlock) rfl rfl ?aP (fun _ hk => hk) ?aF ?aO ?aB ?aS ?aL ?_;(case aP => exact (Kd.FK_slice_mk (Kd.V_reads' (Kd.V_mono (ok' := (fun k_ => ((fun k_ => (P0_ k_ ∨ w.heap.size ≤ k_))) k_ ∧ some k_ ≠ (v273 : Value).ownBlock)) (HL275_0.out) (fun k_ hk => ⟨hk.1.1,hk.2⟩))).2.1 (Kd.V_F (Kd.V_mono (ok' := (fun k_ => ((fun k_ => (P0_ k_ ∨ w.heap.size ≤ k_))) k_ ∧ some k_ ≠ (v273 : Value).ownBlock)) (HL275_0.out) (fun k_ hk => ⟨hk.1.1,hk.2⟩)))));(case aB => exact (by repeat (first | (with_reducible first | exact HB.out | apply q0b | apply q0a | apply q0c) | exact HB.out)));(case aF => exact (fun k_ hk => (.inr (Nat.le_trans (q0g (by repeat (first | (with_reducible first | exact HB.out | apply q0b | apply q0a | apply q0c) | exact HB.out))) hk))));(case aO => exact (by (with_reducible repeat (first | apply Kd.N_alloc | apply Kd.N_drewN | apply Kd.N_drew));exact HO274.out));(case aS => exact (q0g (by repeat (first | (with_reducible first | exact HB.out | apply q0b | apply q0a | apply q0c) | exact HB.out))));(case aL => have := LMc41.out;omega);intro v277 w50 ho hb hg hat;rw [← Ny276.out] at ho;have n0_ := Aside0.mk (Kd.V_afterv (ok := (fun k_ => (P0_ k_ ∨ w.heap.size ≤ k_) ∧ some k_ ≠ (.slice Ao46 x3_1.length co46 : Value).ownBlock)) (by (with_reducible repeat (first | apply Kd.V_alloc | apply Kd.V_drewN | apply Kd.V_drew));exact HO_0.out) hg hat);have n1_ := Aside0.mk (Kd.N_afterv (ok := (fun k_ => (P0_ k_ ∨ w.heap.size ≤ k_))) (by (with_reducible repeat (first | apply Kd.N_alloc | apply Kd.N_drewN | apply Kd.N_drew));exact HO_3.out) hg hat);have n2_ := Aside0.mk (Kd.V_afterv (ok := (fun k_ => (P0_ k_ ∨ w.heap.size ≤ k_))) (by (with_reducible repeat (first | apply Kd.V_alloc | apply Kd.V_drewN | apply Kd.V_drew));exact HO271.out) hg hat);have n3_ := Aside0.mk (Kd.V_afterv (ok := (fun k_ => (P0_ k_ ∨ w.heap.size ≤ k_) ∧ some k_ ≠ (.slice Ao46 x3_1.length co46 : Value).ownBlock)) (by (with_reducible repeat (first | apply Kd.V_alloc | apply Kd.V_drewN | apply Kd.V_drew));exact HL275_0.out) hg hat);have n4_ := Aside0.mk (hb);have n5_ := Aside0.mk (ho);clear HO_0;clear HO_3;clear HO271;clear HL275_0;clear HB;clear HO274;have HO_0 := n0_;have HO_3 := n1_;have HO271 := n2_;have HL275_0 := n3_;have HB := n4_;have HO278 := n5_;clear n0_ n1_ n2_ n3_ n4_ n5_;clear ho hb hg hat;have q51 : (x5_2 : Int) ≤ ((x3_1.length : Int) : Int) := of_decide_eq_true (by first | (with_reducible assumption) | assumption);obtain ⟨i051,hi051,_,hsz51,_⟩ := info_parts info23;have hroom51 : x3_1.length ≤ co46 := (Kd.N_reads' HO_3.out).2.1;have hC51 : Kd.F (Kd.slice 66 k66) _ _ Ao46 x3_1.length x3_1 := (Kd.V_at (base := w.heap.size) (Kd.N_V HO_3.out)).2.2;have q051 : (0 : Int) ≤ (x5_2 : Int) := of_decide_eq_true (by first | (with_reducible assumption) | assumption);have hcut51 := cut_from (P := Try.prog) 113 23 .i64 Try.underlying113 hi051 1 hsz51 Ao46 x3_1.length co46 x5_2 q051 q51;have hr51 := Kd.F_cut (m := (x5_2 : Int).toNat) (c := co46) hC51 (by omega) hroom51;obtain ⟨A51,hA51⟩ : ∃ A1,A1 = (if co46 = (x5_2 : Int).toNat then Ao46 else (Ao46 : Option Addr).map (·.add ((x5_2 : Int).toNat * 1))) := ⟨_,rfl⟩;obtain ⟨c51,hc51⟩ : ∃ c1,c1 = co46 - (x5_2 : Int).toNat := ⟨_,rfl⟩;have hy51 : y279.length = x3_1.length - (x5_2 : Int).toNat := (by rw [Ny279.out,List.length_drop] <;> omega);rw [show (x3_1).drop (x5_2 : Int).toNat = y279 from Ny279.out.symm] at hr51;replace hr51 : Kd.F (Kd.slice 66 k66) _ _ A51 y279.length y279 := (by rw [hA51];exact hr51);rw [← hy51,← hA51,← hc51] at hcut51;have HO283 := Aside0.mk (show Kd.V (Kd.slice 66 k66) 23 _ w.heap.size _ (.slice A51 y279.length c51) y279 from Kd.V_mk (by rw [hy51,hc51];exact Nat.sub_le_sub_right hroom51 _) hr51);have HC283 := Aside0.mk (show y279.length ≤ c51 from by rw [hy51,hc51];exact Nat.sub_le_sub_right hroom51 _);clear hr51 hC51 hroom51 hi051 hsz51 hc51;have KY51 := Aside0.mk hy51;have KA51 := Aside0.mk hA51;clear hy51 hA51;replace q51 := eq_true q51) | ((with_reducible refine q0v (b := .append) (xs := #[.tmp 58,.tmp 61]) rfl ?_);at_builtin;refine Kd.N_append_rows (Kd.slice 66 k66) (w0 := w) w.heap.size rfl (.tmp 58) (.tmp 61) 113 23 (.slice none 0 0) 24 rfl Try.underlying113 info23 rfl (by decide) (by omega) v277 y276 y279 _ _ _ (fun k_ => (P0_ k_ ∨ w.heap.size ≤ k_)) (fun k_ => ((fun k_ => (P0_ k_ ∨ w.heap.size ≤ k_))) k_ ∧ some k_ ≠ (v277 : Value).ownBlock) rfl rfl ?aO ?aR (fun _ hk => hk) ?aF ?aB ?aS ?aL ?_;(case aR => exact (by skip;exact Kd.V_F (Kd.V_mono (ok' := (fun k_ => ((fun k_ => (P0_ k_ ∨ w.heap.size ≤ k_))) k_ ∧ some k_ ≠ (v277 : Value).ownBlock)) (HO283.out) (fun k_ hk => ⟨hk.1,hk.2⟩))));(case aB => exact (by repeat (first | (with_reducible first | exact HB.out | apply q0b | apply q0a | apply q0c) | exact HB.out)));(case aF => exact (fun k_ hk => (.inr (Nat.le_trans (q0g (by repeat (first | (with_reducible first | exact HB.out | apply q0b | apply q0a | apply q0c) | exact HB.out))) hk))));(case aO => exact (by (with_reducible repeat (first | apply Kd.N_alloc | apply Kd.N_drewN | apply Kd.N_drew));exact HO278.out));(case aS => exact (q0g (by repeat (first | (with_reducible first | exact HB.out | apply q0b | apply q0a | apply q0c) | exact HB.out))));(case aL => have := LMc44.out;omega);intro v285 w52 ho hb hg hat;rw [← Ny284.out] at ho;have n0_ := Aside0.mk (Kd.V_afterv (ok := (fun k_ => (P0_ k_ ∨ w.heap.size ≤ k_) ∧ some k_ ≠ (.slice Ao46 x3_1.length co46 : Value).ownBlock)) (by (with_reducible repeat (first | apply Kd.V_alloc | apply Kd.V_drewN | apply Kd.V_drew));exact HO_0.out) hg hat);have n1_ := Aside0.mk (Kd.N_afterv (ok := (fun k_ => (P0_ k_ ∨ w.heap.size ≤ k_))) (by (with_reducible repeat (first | apply Kd.N_alloc | apply Kd.N_drewN | apply Kd.N_drew));exact HO_3.out) hg hat);have n2_ := Aside0.mk (Kd.V_afterv (ok := (fun k_ => (P0_ k_ ∨ w.heap.size ≤ k_))) (by (with_reducible repeat (first | apply Kd.V_alloc | apply Kd.V_drewN | apply Kd.V_drew));exact HO271.out) hg hat);have n3_ := Aside0.mk (Kd.V_afterv (ok := (fun k_ => (P0_ k_ ∨ w.heap.size ≤ k_) ∧ some k_ ≠ (.slice Ao46 x3_1.length co46 : Value).ownBlock)) (by (with_reducible repeat (first | apply Kd.V_alloc | apply Kd.V_drewN | apply Kd.V_drew));exact HL275_0.out) hg hat);have n4_ := Aside0.mk (Kd.V_afterv (ok := (fun k_ => (P0_ k_ ∨ w.heap.size ≤ k_))) (by (with_reducible repeat (first | apply Kd.V_alloc | apply Kd.V_drewN | apply Kd.V_drew));exact HO283.out) hg hat);have n5_ := Aside0.mk (hb);have n6_ := Aside0.mk (ho);clear HO_0;clear HO_3;clear HO271;clear HL275_0;clear HO283;clear HB;clear HO278;have HO_0 := n0_;have HO_3 := n1_;have HO271 := n2_;have HL275_0 := n3_;have HO283 := n4_;have HB := n5_;have HO286 := n6_;clear n0_ n1_ n2_ n3_ n4_ n5_ n6_;clear ho hb hg hat))
              go_roundg k2
              case measure => have := HK1.out;have := HK2.out;omega
              case rel => exact ⟨(y284),(wrap64 (x4_1 + 1)),(by first | rfl | (simp;done) | (simp [*];done)),H',⟨by have := HK1.out;have := HK2.out;omega⟩,⟨by (with_reducible repeat (first | apply Kd.V_alloc | apply Kd.V_drewN | apply Kd.V_drew));exact Kd.V_mono HO_0.out (fun _ hk => ⟨hk.1.1,hk.2⟩)⟩,⟨by (with_reducible repeat (first | apply Kd.N_alloc | apply Kd.N_drewN | apply Kd.N_drew));exact HO286.out⟩,⟨by repeat (first | (with_reducible first | exact HB.out | apply q0b | apply q0a | apply q0c) | exact HB.out)⟩⟩
             ·rw [if_neg c44] at H
              exact absurd H (by simp)
            ·rw [if_neg c41] at H
             exact absurd H (by simp)
           ·rw [if_neg c40] at H
            exact absurd H (by simp)
          ·rw [if_neg c39] at H
           exact absurd H (by simp)
         ·rw [if_neg c38] at H
          exact absurd H (by simp)
        ·rw [if_neg c37] at H
         exact absurd H (by simp)
       ·rw [if_neg c36] at H
        exact absurd H (by simp)
   ·rw [if_neg c2] at H
    have c2b0 : decide (x4_1 < (l0.length : Int)) = false := decide_eq_false c2
    clear c2
    obtain rfl := Option.some.inj H
    go_wp2
    go_ret
    exact ⟨_,by first | rfl | (simp [q0m,q0l] <;> rfl) | (simp [*,q0m,q0l] <;> rfl),by (with_reducible repeat (first | apply Kd.N_alloc | apply Kd.N_drewN | apply Kd.N_drew));exact HO_3.out,by repeat (first | (with_reducible first | exact HB.out | apply q0b | apply q0a | apply q0c) | exact HB.out)⟩
end Go.Proofs.Ythmbfcfomcaaaaa.Z
end
section
namespace Go.Proofs.Ythmbfcfomcaaaaa.Z
set_option linter.unusedVariables false
set_option linter.unusedSimpArgs false
open Go.RowKit Go.Proofs.YthmbfcfomcaaaaaW.PrintWords Go.Proofs.YthmbfcfomcaaaaaW.PrintLast Go.Proofs.YthmbfcfomcaaaaaW.PrintMore Go.Proofs.Ythmbfcfomcaaaaa.Cmp
section
variable {α : Type}
def insE (cf : α → α → Int) (x : α) : List α → List α
 | [] => [x]
 | y :: r => if cf y x < 0 then y :: insE cf x r else if cf y x = 0 then y :: r else x :: y :: r
structure Law3 (cf : α → α → Int) : Prop where
 anti : ∀ x y,cf y x = -cf x y
 trans : ∀ x y z,cf x y ≤ 0 → cf y z ≤ 0 → cf x z ≤ 0
def allE (cf : α → α → Int) (l : List α) : List α := l.foldl (fun out x => insE cf x out) []
theorem allE_snoc (cf : α → α → Int) (l : List α) (x : α) : allE cf (l ++ [x]) = insE cf x (allE cf l) := by
 unfold allE
 rw [List.foldl_append]
 rfl
theorem insE_len (cf : α → α → Int) (x : α) : ∀ l : List α,(insE cf x l).length ≤ l.length + 1
 | [] => by simp [insE]
 | y :: r => by
  have := insE_len cf x r
  simp only [insE]
  split
  ·simp only [List.length_cons];omega
  ·split <;> simp only [List.length_cons] <;> omega
theorem mem_insE (cf : α → α → Int) (x z : α) : ∀ l : List α,z ∈ insE cf x l → z = x ∨ z ∈ l
 | [],h => by simp [insE] at h;exact .inl h
 | y :: r,h => by
  simp only [insE] at h
  split at h
  ·rcases List.mem_cons.1 h with e | h
   ·exact .inr (e ▸ List.mem_cons_self)
   ·exact (mem_insE cf x z r h).imp id (List.mem_cons_of_mem _)
  ·split at h
   ·exact .inr h
   ·rcases List.mem_cons.1 h with e | h
    ·exact .inl e
    ·exact .inr h
theorem mem_allE (cf : α → α → Int) (z : α) : ∀ (l : List α),z ∈ allE cf l → z ∈ l := by
 have : ∀ n (l : List α),l.length = n → z ∈ allE cf l → z ∈ l := by
  intro n
  induction n with
  | zero =>
   intro l hl h
   rw [List.length_eq_zero_iff.1 hl] at h
   cases h
  | succ n ih =>
   intro l hl h
   rcases List.eq_nil_or_concat l with rfl | ⟨r,x,rfl⟩
   ·simp at hl
   ·rw [List.concat_eq_append] at hl h ⊢
    rw [allE_snoc] at h
    rcases mem_insE cf x z _ h with e | h
    ·rw [e];simp
    ·exact List.mem_append_left _ (ih r (by simpa using hl) h)
 exact fun l => this _ l rfl
theorem insE_up {cf : α → α → Int} (o : Law3 cf) (x : α) : ∀ l : List α,l.Pairwise (fun a b => cf a b < 0) → (insE cf x l).Pairwise (fun a b => cf a b < 0)
 | [],_ => by simp [insE]
 | y :: r,h => by
  obtain ⟨h1,h2⟩ := List.pairwise_cons.1 h
  have a1 := o.anti y x
  simp only [insE]
  by_cases c : cf y x < 0
  ·rw [if_pos c]
   refine List.pairwise_cons.2 ⟨fun z hz => ?_,insE_up o x r h2⟩
   rcases mem_insE cf x z r hz with e | hz
   ·rw [e];exact c
   ·exact h1 z hz
  ·rw [if_neg c]
   by_cases e : cf y x = 0
   ·rw [if_pos e];exact h
   ·rw [if_neg e]
    refine List.pairwise_cons.2 ⟨fun z hz => ?_,h⟩
    have a2 := o.anti y z
    have a3 := o.anti x z
    have t1 := o.trans x y z
    have t2 := o.trans z x y
    rcases List.mem_cons.1 hz with e2 | hz
    ·rw [e2];omega
    ·have := h1 z hz;omega
theorem allE_up {cf : α → α → Int} (o : Law3 cf) (l : List α) : (allE cf l).Pairwise (fun a b => cf a b < 0) := by
 have : ∀ (l out : List α),out.Pairwise (fun a b => cf a b < 0) → (l.foldl (fun out x => insE cf x out) out).Pairwise (fun a b => cf a b < 0) := by
  intro l
  induction l with
  | nil => intro out h;exact h
  | cons y r ih => intro out h;exact ih _ (insE_up o y out h)
 exact this l [] List.Pairwise.nil
theorem allE_has (cf : α → α → Int) (o : Law3 cf) (hs : ∀ x,cf x x = 0) : ∀ (l out : List α) (z : α),(z ∈ out ∨ z ∈ l) → ∃ y ∈ l.foldl (fun out x => insE cf x out) out,cf y z = 0
 | [],out,z,h => ⟨z,h.elim id (fun q => by cases q),hs z⟩
 | x :: l,out,z,h => by
  have keep : ∀ (out : List α) (y : α),y ∈ out → y ∈ insE cf x out := by
   intro out
   induction out with
   | nil => intro y hy;cases hy
   | cons a r ih =>
    intro y hy
    simp only [insE]
    split
    ·rcases List.mem_cons.1 hy with e | hy
     ·rw [e];exact List.mem_cons_self
     ·exact List.mem_cons_of_mem _ (ih y hy)
    ·split
     ·exact hy
     ·exact List.mem_cons_of_mem _ hy
  have self : ∀ (out : List α),∃ y ∈ insE cf x out,cf y x = 0 := by
   intro out
   induction out with
   | nil => exact ⟨x,by simp [insE],hs x⟩
   | cons a r ih =>
    simp only [insE]
    split
    ·obtain ⟨y,hy,e⟩ := ih
     exact ⟨y,List.mem_cons_of_mem _ hy,e⟩
    ·split
     ·rename_i e
      exact ⟨a,List.mem_cons_self,e⟩
     ·exact ⟨x,List.mem_cons_self,hs x⟩
  rcases h with h | h
  ·exact allE_has cf o hs l _ z (.inl (keep out z h))
  ·rcases List.mem_cons.1 h with e | h
   ·obtain ⟨y,hy,e2⟩ := self out
    obtain ⟨y2,hy2,e3⟩ := allE_has cf o hs l _ y (.inl hy)
    refine ⟨y2,hy2,?_⟩
    have a1 := o.anti y2 y
    have a2 := o.anti y x
    have t1 := o.trans y2 y x
    have t2 := o.trans x y y2
    have a3 := o.anti y2 x
    rw [e]
    omega
   ·exact allE_has cf o hs l _ z (.inr h)
end
def PrM (M : Nat) (r : List S66) : Prop := r.length ≤ 1048576 ∧ ∀ x ∈ r,x.f3.size ≤ M
theorem rdL_get (l : List (List S66)) (i : Nat) (h : i < l.length) : rd_L4 l (i : Int) = l[i] := by
 show l.getD (i : Int).toNat [] = _
 rw [Int.toNat_natCast,List.getD_eq_getElem?_getD,List.getElem?_eq_getElem h]
 rfl
theorem rcmp_l : Law3 rcmp := ⟨fun x y => rcmp_law.anti _ _,fun x y z => rcmp_law.le _ _ _⟩
theorem wrapS (i : Nat) (h : i ≤ 1000000) : wrap64 ((i : Int) + 1) = ((i + 1 : Nat) : Int) := by unfold wrap64;omega
theorem refSort_l1 (x0 : List (List S66)) (i : Nat) (hi : i < x0.length) (h0 : x0.length ≤ 100) (M : Nat) (hM : M ≤ 9223372036854775807) (hP : ∀ r ∈ x0,PrM M r) (out : List (List S66)) (ho : ∀ r ∈ out,PrM M r) (hol : out.length ≤ 100) (R : List (List S66)) (K : Nat) (hK : 2 * M + 3000000 ≤ K)
  (H : ∀ k',K ≤ k' → verdererref02_Sort.l0 k' x0 (insE rcmp (rd_L4 x0 i) out) ((i + 1 : Nat) : Int) = some R) :
  ∀ d j k,out.length - j = d → j ≤ out.length → insE rcmp (rd_L4 x0 i) out = out.take j ++ insE rcmp (rd_L4 x0 i) (out.drop j) → K + d < k → verdererref02_Sort.l1 k x0 out (i : Int) (j : Int) = some R := by
 intro d
 induction d with
 | zero =>
  intro j k hd hj hE hk
  obtain ⟨k,rfl⟩ : ∃ m,k = m + 1 := ⟨k - 1,by omega⟩
  have e0 : out.drop j = [] := List.drop_eq_nil_of_le (by omega)
  have e1 : out.take j = out := List.take_of_length_le (by omega)
  rw [e0,e1] at hE
  simp only [verdererref02_Sort.l1]
  rw [if_neg (by omega),if_pos (by omega),if_pos (by omega)]
  simp only [Option.bind_some,Int.toNat_natCast,e0,e1,List.nil_append,List.length_nil,List.append_nil,Nat.zero_add]
  rw [if_pos (by omega),if_pos (by omega),if_pos (by omega),if_pos (by omega)]
  simp only [List.length_append,List.length_singleton,Nat.add_zero]
  rw [if_pos (by omega),wrapS i (by omega)]
  have := H k (by omega)
  rw [hE] at this
  exact this
 | succ d ih =>
  intro j k hd hj hE hk
  obtain ⟨k,rfl⟩ : ∃ m,k = m + 1 := ⟨k - 1,by omega⟩
  have hlt : j < out.length := by omega
  have ey : rd_L4 out (j : Int) = out[j] := rdL_get out j hlt
  have hdrop : out.drop j = out[j] :: out.drop (j + 1) := List.drop_eq_getElem_cons hlt
  have hy := ho _ (List.getElem_mem hlt)
  have hcmp : verdererref02_Compare.f k out[j] (rd_L4 x0 i) = some (rcmp out[j] (rd_L4 x0 i)) := refCompare_f _ _ (by have := hy.1;omega) M hy.2 hM k (by have := hy.1;omega)
  have q1 : (j : Int) < (out.length : Int) := by omega
  have q2 : (0 : Int) ≤ (j : Int) := by omega
  have q3 : (0 : Int) ≤ (i : Int) := by omega
  have q4 : (i : Int) < (x0.length : Int) := by omega
  simp only [verdererref02_Sort.l1]
  rw [if_pos q1]
  rw [if_pos q2]
  rw [if_pos q3]
  rw [if_pos q4]
  rw [ey]
  rw [hcmp]
  simp only [Option.bind_some]
  rw [hdrop] at hE
  simp only [insE] at hE
  by_cases c : rcmp out[j] (rd_L4 x0 i) < 0
  ·rw [if_pos c,wrapS j (by omega)]
   rw [if_pos c] at hE
   refine ih (j + 1) k (by omega) (by omega) ?_ (by omega)
   rw [hE,List.take_add_one,List.getElem?_eq_getElem hlt,Option.toList_some,List.append_assoc]
   rfl
  ·rw [if_neg c]
   rw [if_neg c] at hE
   unfold verdererref02_Same.f
   rw [hcmp]
   simp only [Option.bind_some]
   by_cases e : rcmp out[j] (rd_L4 x0 i) = 0
   ·rw [if_pos (by rw [e];rfl),wrapS i (by omega)]
    rw [if_pos e,← hdrop,List.take_append_drop] at hE
    have := H k (by omega)
    rw [hE] at this
    exact this
   ·rw [if_neg (by simpa using e),if_pos (by omega)]
    rw [if_neg e] at hE
    simp only [Option.bind_some,Int.toNat_natCast,List.nil_append,List.length_nil,Nat.zero_add,List.length_take,List.length_append,List.length_singleton,List.length_drop]
    rw [if_pos (by omega),if_pos (by omega),if_pos (by omega),wrapS i (by omega)]
    have := H k (by omega)
    rw [hE] at this
    rw [hdrop,List.append_assoc]
    exact this
theorem refSort_l0 (x0 : List (List S66)) (h0 : x0.length ≤ 100) (M : Nat) (hM : M ≤ 9223372036854775807) (hP : ∀ r ∈ x0,PrM M r) : ∀ d i out k,x0.length - i = d → i ≤ x0.length → (∀ r ∈ out,PrM M r) → out.length ≤ i → 2 * M + 3100000 + d * 200 < k → verdererref02_Sort.l0 k x0 out (i : Int) = some ((x0.drop i).foldl (fun o x => insE rcmp x o) out) := by
 intro d
 induction d with
 | zero =>
  intro i out k hd hi ho hol hk
  obtain ⟨k,rfl⟩ : ∃ m,k = m + 1 := ⟨k - 1,by omega⟩
  simp only [verdererref02_Sort.l0]
  rw [if_neg (by omega),List.drop_eq_nil_of_le (by omega)]
  rfl
 | succ d ih =>
  intro i out k hd hi ho hol hk
  obtain ⟨k,rfl⟩ : ∃ m,k = m + 1 := ⟨k - 1,by omega⟩
  have hlt : i < x0.length := by omega
  simp only [verdererref02_Sort.l0]
  rw [if_pos (by omega),List.drop_eq_getElem_cons hlt]
  have hx := rdL_get x0 i hlt
  refine refSort_l1 x0 i hlt h0 M hM hP out ho (by omega) _ (2 * M + 3100001 + d * 200) (by omega) (fun k' hk' => ?_) out.length 0 k (by omega) (by omega) rfl (by omega)
  rw [hx]
  refine ih (i + 1) _ k' (by omega) (by omega) (fun r hr => ?_) ?_ (by omega)
  ·rcases mem_insE rcmp _ r out hr with e | h
   ·rw [e];exact hP _ (List.getElem_mem hlt)
   ·exact ho r h
  ·have := insE_len rcmp x0[i] out
   omega
theorem refSort_f (x0 : List (List S66)) (h0 : x0.length ≤ 100) (M : Nat) (hM : M ≤ 9223372036854775807) (hP : ∀ r ∈ x0,PrM M r) (k : Nat) (hk : 2 * M + 4000000 < k) : verdererref02_Sort.f k x0 = some (allE rcmp x0) :=
 refSort_l0 x0 h0 M hM hP x0.length 0 [] k (by omega) (Nat.zero_le _) (fun r h => by cases h) (Nat.le_refl _) (by omega)
end Go.Proofs.Ythmbfcfomcaaaaa.Z
end
section
namespace Go.Proofs.Ythmbfcfomcaaaaa.Z
set_option linter.unusedVariables false
set_option linter.unusedSimpArgs false
open Go.RowKit Go.Shelf Go.Maps Go.Proofs.YthmbfcfomcaaaaaW.PrintWords Go.Proofs.YthmbfcfomcaaaaaW.PrintLast Go.Proofs.YthmbfcfomcaaaaaW.PrintMore Go.Proofs.Ythmbfcfomcaaaaa.Cmp
theorem gs_sort {N x m c : Nat} {w : World} {A : Option Addr} {cols : List Int} {M : DataW Unit} {Gs : List Bg} {L : List En} (h : IdxAt N w x m A c cols M Gs L) : Gs.length = (allE rcmp (L.map fun e => keyR cols e.f0)).length := by
 have hall : ∀ k ∈ L.map (fun e => keyR cols e.f0),AllV k := fun k hk => by
  obtain ⟨e,he,rfl⟩ := List.mem_map.1 hk
  exact keyR_all (h.idl.ok e he).1
 have hn : (allE rcmp (L.map fun e => keyR cols e.f0)).Nodup := by
  refine List.Pairwise.imp (fun {a b} hab e => ?_) (allE_up rcmp_l _)
  rw [e,rcmp_law.self] at hab
  omega
 have h1 : (Gs.map Bg.key).length = (allE rcmp (L.map fun e => keyR cols e.f0)).length := nodup_len h.keys hn (fun y => by
  constructor
  ·intro hk
   obtain ⟨g,hg,rfl⟩ := List.mem_map.1 hk
   obtain ⟨_,_,h3,h4⟩ := h.kok g hg
   cases hd : docT g.t with
   | nil => exact absurd hd h4
   | cons e es =>
    have h5 : e ∈ grp cols g.key L := by rw [← h3,hd];exact List.mem_cons_self
    obtain ⟨h6,h7⟩ := List.mem_filter.1 h5
    have h8 := key_eq (h.idl.ok e h6).1 (h.kok g hg).1 (of_decide_eq_true h7)
    obtain ⟨y2,hy2,e2⟩ := allE_has rcmp rcmp_l (fun x => rcmp_law.self x) (L.map fun e => keyR cols e.f0) [] g.key (.inr (List.mem_map.2 ⟨e,h6,h8⟩))
    have h9 := lex_right (allV_iff.1 (hall y2 (mem_allE rcmp y2 _ hy2))) (allV_iff.1 (h.kok g hg).1) e2
    rw [← h9]
    exact hy2
  ·intro hk
   obtain ⟨e,he,rfl⟩ := List.mem_map.1 (mem_allE rcmp y _ hk)
   obtain ⟨g,hg,eg⟩ := h.all e he
   exact List.mem_map.2 ⟨g,hg,eg⟩)
 simpa using h1
structure IX (N : Nat) (w : World) (x m : Nat) (A : Option Addr) (c : Nat) (cols : List Int) (M : DataW Unit) (Gs : List Bg) (L : List En) (g : Nat) (V0 : Value) (Ar : Option Addr) (cr : Nat) (L2 : List En) (E : Nat → Prop) : Prop where
 idx : IdxAt N w x m A c cols M Gs L
 ref : Ri.RefV V0 w g Ar cr L2 E
 off : ∀ k,IdxOwn x m A cols Gs k → k ≠ g ∧ ¬ E k
 g_le : N ≤ g
 e_le : ∀ k,E k → N ≤ k
section
variable {N x m c g cr : Nat} {w W : World} {A Ar : Option Addr} {cols : List Int} {M : DataW Unit} {Gs : List Bg} {L L2 : List En} {E : Nat → Prop} {V0 : Value}
theorem IX.below (h : IX N w x m A c cols M Gs L g V0 Ar cr L2 E) (hb : Below w.heap.size w W) : IX N W x m A c cols M Gs L g V0 Ar cr L2 E := ⟨h.idx.below hb,h.ref.below hb,h.off,h.g_le,h.e_le⟩
theorem ix_add (h : IX N w x m A c cols M Gs L g V0 Ar cr L2 E) (w0 : World) (hN : NextW N w0 w) (e : SameW w W) (Aq : Option Addr) (cq : Nat) (r : Rw) (mm : Int) (hr : RowC W Aq cq r) (hi : InR r) (hl : cols.length ≤ 1048576) (hL : L.length ≤ 100000) (q : Int) (L' : List En) (ha : idxAdd cols r mm L = (q,L')) :
  Calls Try.prog 38 #[.pointer (some ⟨x,0,none⟩),.slice Aq r.length cq,.int .i64 mm] W fun e w' => ∃ M' Gs',e = .returned (.int .i64 q) ∧ IX N w' x m A c cols M' Gs' L' g V0 Ar cr L2 E ∧ NextW N w0 w' ∧ Below N W w' := by
 have hN' : N ≤ W.heap.size := by rw [e.heap];exact hN.le
 have h' := h.below (e.below _)
 refine (idx_add h'.idx hN' Aq cq r mm hr hi hl hL).mono ?_
 rintro e1 w1 ⟨M',Gs',rfl,h1,h2⟩
 rw [ha] at h1 ⊢
 have hb : Below N W w1 := h2.ch.toBelow hN' (fun k hk => h.idx.own k hk)
 refine ⟨M',Gs',rfl,⟨h1,h'.ref.keep h2.ch (fun s => (h.off g s).1 rfl) (fun k hk s => (h.off k s).2 hk),fun k hk => ?_,h.g_le,h.e_le⟩,hN.nextN hb e,hb⟩
 rcases h2.own k hk with q | q
 ·exact h.off k q
 ·have h3 : g < W.heap.size := blk_lt h'.ref.blk
  exact ⟨fun e => by omega,fun e => by have := h'.ref.lt k e;omega⟩
theorem ix_radd {Ac : Option Addr} {cc : Nat} (h : IX N w x m A c cols M Gs L g (.slice Ac cols.length cc) Ar cr L2 E) (w0 : World) (hN : NextW N w0 w) (e : SameW w W) (hc : Kd.C (Kd.int .i64) w0 Ac cols.length cols) (hcc : cols.length ≤ cc) (hcN : ColN N Ac cols) (Aq : Option Addr) (cq : Nat) (r : Rw) (mm : Int) (hr : RowC W Aq cq r) (h1 : SrtD L2) (h2 : OkD L2) (hl : cols.length ≤ 1048576) (hL : L2.length ≤ 1000000) (q : Int) (L' : List En) (ha : idxAdd cols r mm L2 = (q,L')) :
  Calls Try.prog 39 #[.pointer (some ⟨g,0,none⟩),.slice Aq r.length cq,.int .i64 mm] W fun e w' => ∃ A' c' E',e = .returned (.int .i64 q) ∧ IX N w' x m A c cols M Gs L g (.slice Ac cols.length cc) A' c' L' E' ∧ NextW N w0 w' ∧ Below N W w' := by
 have hN' : N ≤ W.heap.size := by rw [e.heap];exact hN.le
 have h' := h.below (e.below _)
 refine (ridx_add g Ac cc cols Ar cr L2 Aq cq r mm W h'.ref (col_step hc hcN (hN.at_ e)) hcc h1 h2 hr hl hL).mono ?_
 rintro e1 w1 ⟨A',c',E',rfl,h3,h4⟩
 rw [ha] at h3 ⊢
 have hb : Below N W w1 := h4.ch.toBelow hN' (fun k hk => by subst hk;exact h.g_le)
 refine ⟨A',c',E',rfl,⟨h'.idx.keep h4.ch (fun k s o => (h.off k o).1 s),h3,fun k hk => ⟨(h.off k hk).1,fun e => ?_⟩,h.g_le,fun k hk => (h4.dat k hk).elim (h.e_le k) (fun q => by omega)⟩,hN.nextN hb e,hb⟩
 rcases h4.dat k e with q | q
 ·exact (h.off k hk).2 q
 ·have := h'.idx.lt k hk;omega
end
end Go.Proofs.Ythmbfcfomcaaaaa.Z
end
section
namespace Go.Proofs.Ythmbfcfomcaaaaa.Z
set_option linter.unusedVariables false
set_option linter.unusedSimpArgs false
open Go.RowKit Go.Shelf Go.Maps Go.Proofs.YthmbfcfomcaaaaaW.PrintWords Go.Proofs.YthmbfcfomcaaaaaW.PrintLast Go.Proofs.YthmbfcfomcaaaaaW.PrintMore Go.Proofs.Ythmbfcfomcaaaaa.Cmp
theorem rsort_at (A : Option Addr) (c : Nat) (l : List (List S66)) (hl : l.length ≤ 100) (hP : ∀ r ∈ l,PrM 60 r) (w : World) (hr : Kd.F (Kd.slice 66 k66) w (fun k => k < w.heap.size) A l.length l) (hc : l.length ≤ c) :
  Calls Try.prog 85 #[.slice A l.length c] w fun e w' => ∃ A' cap,e = .returned (.slice A' (allE rcmp l).length cap) ∧ Below w.heap.size w w' := by
 refine (verdererref02_Sort.calls (2 * 60 + 4000001) (fun k_ => k_ < w.heap.size) A c l (allE rcmp l) w (Kd.V_mk hc hr) (refSort_f l hl 60 (by omega) hP _ (by omega))).mono ?_
 rintro e w' ⟨v,rfl,hN,hb2⟩
 obtain ⟨A',cap,rfl,h1,h2⟩ := Kd.N_reads hN
 exact ⟨A',cap,rfl,hb2⟩
set_option maxHeartbeats 8000000 in
set_option maxRecDepth 100000 in
theorem ridx_keys {D : Nat → Prop} (g : Nat) (Ac : Option Addr) (cc : Nat) (cols : List Int) (A1 : Option Addr) (c1 : Nat) (L : List En) (w : World) (h : Ri.RefV (.slice Ac cols.length cc) w g A1 c1 L D) (hc : Kd.C (Kd.int .i64) w Ac cols.length cols) (hcc : cols.length ≤ cc) (hk : OkD L) (hp : ∀ x ∈ L,(pickF x.f0 cols []).2 = 0) (hl : cols.length ≤ 1048576) (hL : L.length ≤ 100) (hcN : ColN w.heap.size Ac cols) :
  Calls Try.prog 46 #[.pointer (some ⟨g,0,none⟩)] w fun e w' => e = .returned (.int .i64 ((allE rcmp (L.map fun e => keyR cols e.f0)).length : Int)) ∧ Below w.heap.size w w' := by
 have HV := Aside0.mk h
 have HK := Aside0.mk hk
 have HP := Aside0.mk hp
 have HC := Aside0.mk hc
 have HCC := Aside0.mk hcc
 have HCN := Aside0.mk hcN
 have HL := Aside0.mk hl
 have HB := Aside0.mk (Below.refl w.heap.size w)
 obtain ⟨n,hn⟩ : ∃ n,L.length = n := ⟨_,rfl⟩
 have LN := Aside0.mk hn
 obtain ⟨p,hpn⟩ : ∃ p,cols.length = p := ⟨_,rfl⟩
 have LP := Aside0.mk hpn
 rw [hn] at hL
 clear h hc hcc hk hp hl hcN hn hpn
 go_enter Try.func46,Try.ntmps46
 go_wp2_with (fail)
 go_loopw [4,3] (fun iv ov wr => ∃ i : Nat,iv = .int .i64 (i : Int) ∧ i ≤ n ∧ Aside0 (Kd.N (Kd.slice 66 k66) 23 wr w.heap.size (fun _ => True) ov ((L.take i).map fun e => keyR cols e.f0)) ∧ Aside0 (Below w.heap.size w wr)) (fun iv _ _ => n - (intOf iv).toNat)
 case atStart => exact ⟨0,rfl,Nat.zero_le _,⟨Kd.N_nil _ _ _ _ _⟩,HB⟩
 case round =>
  clear HB
  obtain ⟨i,rfl,hi,NO,HB⟩ := hrel
  have VV := Aside0.mk (HV.out.below HB.out)
  have g1 : wr.cell? ⟨g,1,none⟩ = some (.slice A1 n c1) := by have := (q0d VV.out.blk 1).trans rfl;rw [LN.out] at this;exact this
  have g0 : wr.cell? ⟨g,0,none⟩ = some (.slice Ac p cc) := by have := (q0d VV.out.blk 0).trans rfl;rw [LP.out] at this;exact this
  by_cases hlt : i < n
  ·have k0 : decide ((i : Int) < (n : Int)) = true := decide_eq_true (by omega)
   have k0' : decide (i < n) = true := decide_eq_true hlt
   have p0 : (0 : Int) ≤ (i : Int) := by omega
   have p1 : (i : Int) < (n : Int) := by omega
   obtain ⟨x,hx⟩ : ∃ x,L[i]? = some x := ⟨L[i]'(by have := LN.out;omega),List.getElem?_eq_getElem _⟩
   obtain ⟨ad,A0,c0,e1,x0,x1,hxc,_,_⟩ := VV.out.get (by have := LN.out;omega) hx
   subst e1
   have CW := Aside0.mk (col_step HC.out HCN.out HB.out)
   have PK := Aside0.mk (fun W (e : SameW wr W) => rpick_at A0 Ac c0 cc x.f0 cols W (hxc.below (e.below _)) (col_step CW.out (fun k hk => Nat.lt_of_lt_of_le (HCN.out k hk) HB.out.size) (e.below _)) HCC.out HL.out)
   have GT := Aside0.mk (take_succ_map (fun e : En => keyR cols e.f0) hx)
   have GL := Aside0.mk (show ((L.take i).map fun e => keyR cols e.f0).length ≤ 100 by rw [List.length_map];exact Nat.le_trans (List.length_take_le _ _) (by omega))
   have OLT := Aside0.mk (Kd.N_lt NO.out)
   rw [LP.out] at PK
   clear hx hxc CW
   obtain ⟨xr,xm⟩ := x
   simp only at *
   go_wp2_with (fail)
   go_region_held3 (fun w' => w'.cell? ⟨g,1,none⟩ = some (.slice (some ad) n c1) ∧ w'.cell? ⟨g,0,none⟩ = some (.slice Ac p cc) ∧ w'.cell? (ad.add (i * 2)) = some (.slice A0 xr.length c0)) (first | go_keep | exact ⟨by assumption,by assumption,by assumption⟩) (first
    | (go_at_call 82;(with_reducible refine (PK.out _ ?_).mono ?_);exact ⟨rfl,rfl,rfl,rfl⟩;rintro e w5 ⟨v5,rfl,hv,hb0⟩;have hb : Below wr.heap.size wr w5 := ((SameW.drew wr).below _).trans hb0;have hv' := Kd.R_mono (Kd.R_bound hv) (ok' := fun k => wr.heap.size ≤ k) (fun k hk => hk.2.1);replace g1 := (hb.cell (World.block_lt_of_cell? _ _ g1)).trans g1;replace g0 := (hb.cell (World.block_lt_of_cell? _ _ g0)).trans g0;replace x0 := (hb.cell (World.block_lt_of_cell? _ _ x0)).trans x0;obtain ⟨A5,c5,e5⟩ := Kd.R_slice hv;subst e5;have V5 := Aside0.mk (Kd.R_F hv');have C5 := Aside0.mk (Kd.R_reads' hv).2.1;have B5 := Aside0.mk hb;clear hv hb hb0 hv'))
   have NO6 := Aside0.mk (Kd.N_below NO.out B5.out)
   have W6 := Aside0.mk (HB.out.trans (B5.out.mono HB.out.size))
   clear PK g0 g1 x0 x1
   go_wp2_with (((with_reducible refine q0v (b := .append) (xs := #[.tmp 34,.tmp 36]) rfl ?_);at_builtin;refine Kd.N_append (Kd.slice 66 k66) (w0 := w) w.heap.size rfl (.tmp 34) (.tmp 36) 113 23 (.slice none 0 0) 24 rfl Try.underlying113 (by kernel_rfl) rfl (show 0 < 1 by decide) (by omega) u3 ((L.take i).map fun e => keyR cols e.f0) (keyR cols xr) [.slice A5 (keyR cols xr).length c5] (fun _ => True) (fun k => wr.heap.size ≤ k) rfl rfl (fun W' hW => ⟨A5,c5,rfl,C5.out,V5.out W' hW⟩) (fun k hk => ⟨trivial,fun e => by have := OLT.out k e.symm;omega⟩) (fun _ _ => trivial) NO6.out W6.out W6.out.size (by have := GL.out;omega) ?_;intro v8 w8 hv hb3 hg hat;have NV8 := Aside0.mk hv;have B8 := Aside0.mk hb3;clear hv hb3 hg hat))
   go_roundw
   case rel => exact ⟨i + 1,by go_num,hlt,⟨by rw [GT.out];exact NV8.out⟩,B8⟩
   case measure => simp [intOf];omega
  ·have k0 : decide ((i : Int) < (n : Int)) = false := decide_eq_false (by omega)
   have k0' : decide (i < n) = false := decide_eq_false hlt
   have ei : L.take i = L := List.take_of_length_le (by have := LN.out;omega)
   rw [ei] at NO
   obtain ⟨A5,c5,e5,h1,h2⟩ := Kd.N_reads NO.out
   subst e5
   have ST := Aside0.mk (rsort_at A5 c5 (L.map fun e => keyR cols e.f0) (by rw [List.length_map,LN.out];omega) (fun r hr => by
    obtain ⟨e,he,rfl⟩ := List.mem_map.1 hr
    have h3 := (pickF_mem e.f0 cols [] (HP.out e he)).2
    refine ⟨?_,fun v hv => vright_text (keyR_all (HK.out e he).1 v hv)⟩
    unfold keyR
    rw [h3]
    simpa using HL.out) wr (Kd.F_mono (Kd.N_F (Kd.N_bound NO.out)) (fun k hk => hk.2)) h1)
   obtain ⟨m,hm⟩ : ∃ m,(L.map fun e => keyR cols e.f0).length = m := ⟨_,rfl⟩
   rw [hm] at ST ⊢
   obtain ⟨sn,hsn⟩ : ∃ sn,(allE rcmp (L.map fun e => keyR cols e.f0)).length = sn := ⟨_,rfl⟩
   have HSN := Aside0.mk hsn
   rw [hsn] at ST
   clear ei h1 h2 hm hsn NO
   go_wp2_with (fail)
   refine ST.out.mono ?_
   rintro e w6 ⟨A6,c6,rfl,hb⟩
   have B6 := Aside0.mk (HB.out.trans (hb.mono HB.out.size))
   clear hb
   go_wp2_with (fail)
   go_ret
   exact ⟨by rw [HSN.out];rfl,B6.out⟩
end Go.Proofs.Ythmbfcfomcaaaaa.Z
end
section
namespace Go.Proofs.Ythmbfcfomcaaaaa.Z
set_option linter.unusedVariables false
set_option linter.unusedSimpArgs false
open Go.RowKit Go.Shelf Go.Maps Go.Proofs.YthmbfcfomcaaaaaW.PrintWords Go.Proofs.YthmbfcfomcaaaaaW.PrintLast Go.Proofs.YthmbfcfomcaaaaaW.PrintMore Go.Proofs.Ythmbfcfomcaaaaa.Cmp
theorem sumG_le (cols : List Int) (L : List En) : ∀ ks : List Rw,sumG cols L ks ≤ ks.length * L.length
 | [] => Nat.zero_le _
 | k :: ks => by
  show (grp cols k L).length + sumG cols L ks ≤ (ks.length + 1) * L.length
  have h1 := sumG_le cols L ks
  have h2 := grp_len cols k L
  rw [Nat.add_mul]
  omega
theorem Met.len {cols : List Int} {L : List En} {i : Nat} {ks : List Rw} (h : Met cols L i ks) : ks.length ≤ i := by
 have h1 := nodup_le (B := (L.take i).map fun e => keyR cols e.f0) h.nd (fun k hk => by
  obtain ⟨e,he,q⟩ := (h.mem k).1 hk
  exact List.mem_map.2 ⟨e,he,q⟩)
 rw [List.length_map] at h1
 exact Nat.le_trans h1 (List.length_take_le _ _)
theorem Met.bound {cols : List Int} {L : List En} {i : Nat} {ks : List Rw} (h : Met cols L i ks) (hi : i ≤ 100) (hL : L.length ≤ 100) : ks.length ≤ 100 ∧ sumG cols L ks ≤ 10000 := by
 have h1 := h.len
 have h2 := sumG_le cols L ks
 have h3 : ks.length * L.length ≤ 100 * 100 := Nat.mul_le_mul (by omega) hL
 omega
theorem known06_end (w : World) (N : Nat) (w0 : World) (h : NextW N w0 w) : Calls Try.prog 37 #[] w fun e w' => e = .returned (.bool true) ∧ Below N w0 w' := by
 refine (known06 w).mono ?_
 rintro e w1 ⟨rfl,hb⟩
 exact ⟨rfl,(h.next hb).at_⟩
end Go.Proofs.Ythmbfcfomcaaaaa.Z
end
section
namespace Go.Proofs.Ythmbfcfomcaaaaa.Z
set_option linter.unusedVariables false
set_option linter.unusedSimpArgs false
open Go.RowKit Go.Shelf Go.Maps Go.Proofs.YthmbfcfomcaaaaaW.PrintWords Go.Proofs.YthmbfcfomcaaaaaW.PrintLast Go.Proofs.YthmbfcfomcaaaaaW.PrintMore Go.Proofs.Ythmbfcfomcaaaaa.Cmp
set_option maxHeartbeats 16000000 in
set_option maxRecDepth 100000 in
theorem index_plays (Ac : Option Addr) (cc : Nat) (cols : List Int) (A0 : Option Addr) (n c0 : Nat) (l : List En) (Ak : Option Addr) (ck : Nat) (key : Rw) (w : World) (hcol : Kd.C (Kd.int .i64) w Ac cols.length cols) (hcc : cols.length ≤ cc) (hcl : cols.length ≤ 1048576) (hl : Kd.C k34 w A0 n l) (hc : n ≤ c0) (hin : ∀ x ∈ l,InR x.f0) (hkr : RowC w Ak ck key) (hki : InR key) :
  Calls Try.prog 7 #[.slice Ac cols.length cc,.slice A0 n c0,.slice Ak key.length ck] w fun e w' => e = .returned (.bool true) ∧ Below w.heap.size w w' := by
 have HL := Aside0.mk hl
 have HI := Aside0.mk hin
 have HKR := Aside0.mk hkr
 have HKI := Aside0.mk hki
 have HCOL := Aside0.mk hcol
 have HCC := Aside0.mk hcc
 have HCL := Aside0.mk hcl
 have LN := Aside0.mk (show l.length = n from hl.1)
 have I0 := Aside0.mk (NextW.refl w)
 have NW := Aside0.mk (idx_new Ac cc cols w hcol hcc hcl)
 have CN := Aside0.mk (show ColN w.heap.size Ac cols from fun k hk => by
  obtain ⟨hn,ad,ea,ek⟩ := hk
  obtain ⟨ad',ea',cs,q,f,h1⟩ := C_int_lt hcol hn
  rw [ea] at ea'
  injection ea' with ea'
  subst ea'
  rw [ek];exact blk_lt h1)
 have RN := Aside0.mk (fun W (hb : Below w.heap.size w W) => ref_new Ac cc cols W (col_step hcol CN.out hb) hcl)
 obtain ⟨cn,hcn⟩ : ∃ cn,cols.length = cn := ⟨_,rfl⟩
 have LC := Aside0.mk hcn
 obtain ⟨kn,hkn⟩ : ∃ kn,key.length = kn := ⟨_,rfl⟩
 have LK := Aside0.mk hkn
 obtain ⟨N,hN⟩ : ∃ N,w.heap.size = N := ⟨_,rfl⟩
 have HN := Aside0.mk hN
 rw [hcn] at NW RN
 rw [hN] at I0 NW CN RN ⊢
 rw [hcn,hkn]
 clear hl hc hin hkr hki hcol hcc hcl hN hcn hkn
 go_enter Try.func7,Try.ntmps7
 go_wp2_with (fail)
 refine NW.out.mono ?_
 rintro e w1 ⟨hb,hh⟩
 have I1 := Aside0.mk (show NextW N w w1 from ⟨hb,by rw [← HN.out];exact hb.size⟩)
 have RN1 := Aside0.mk (RN.out w1 hb)
 clear hb NW RN
 rcases hh with ⟨hbad,rfl⟩ | ⟨hgood,x,m,A,c,rfl,hI⟩
 ·have HBAD := Aside0.mk hbad
  clear hbad
  go_wp2_with (fail)
  refine RN1.out.mono ?_
  rintro e w2 ⟨hb,hh⟩
  rcases hh with ⟨_,rfl⟩ | ⟨hg,_⟩
  ·have I2 := Aside0.mk (I1.out.next hb)
   clear hb RN1
   go_wp2_with (fail)
   refine (known06_end w2 N w I2.out).mono ?_
   rintro e w5 ⟨rfl,hb⟩
   have B5 := Aside0.mk hb
   clear hb
   go_wp2_with (fail)
   go_ret
   exact ⟨rfl,B5.out⟩
  ·rw [HBAD.out] at hg
   cases hg
 ·have GOOD := Aside0.mk hgood
  have X1 := Aside0.mk (show IdxAt N w1 x m A c cols (.map []) [] [] by first | exact hI | (have := hI;rw [HN.out] at this;exact this))
  clear hgood hI
  go_wp2_with (fail)
  refine RN1.out.mono ?_
  rintro e w2 ⟨hb,hh⟩
  rcases hh with ⟨hbad,_⟩ | ⟨_,g,rfl,hgl,hR⟩
  ·rw [GOOD.out] at hbad
   cases hbad
  have I2 := Aside0.mk (I1.out.next hb)
  have T2 := Aside0.mk (show IX N w2 x m A c cols (.map []) [] [] g (.slice Ac cols.length cc) none 0 [] (fun _ => False) from
   ⟨X1.out.below hb,by rw [LC.out];exact hR,fun k hk => ⟨fun e => by have := X1.out.lt k hk;omega,fun e => e⟩,Nat.le_trans I1.out.le hgl,fun k hk => hk.elim⟩)
  clear hb hgl hR X1 RN1 I1
  by_cases hn : n ≤ 100 ∧ kn ≤ 50
  ·obtain ⟨hn1,hk1⟩ := hn
   have q0 : decide ((100 : Int) < (n : Int)) = false := decide_eq_false (by omega)
   have q0' : decide ((n : Int) > 100) = false := decide_eq_false (by omega)
   have q0'' : decide (100 < n) = false := decide_eq_false (by omega)
   have q1 : decide ((50 : Int) < (kn : Int)) = false := decide_eq_false (by omega)
   have q1' : decide ((kn : Int) > 50) = false := decide_eq_false (by omega)
   have q1'' : decide (50 < kn) = false := decide_eq_false (by omega)
   go_wp2_with (fail)
   go_loopw [11] (fun iv wr => ∃ i : Nat,iv = .int .i64 (i : Int) ∧ i ≤ n ∧ Aside0 (∃ M Gs Ar cr L E,L.length ≤ i ∧ IX N wr x m A c cols M Gs L g (.slice Ac cols.length cc) Ar cr L E) ∧ Aside0 (NextW N w wr)) (fun iv _ => n - (intOf iv).toNat)
   case atStart => exact ⟨0,rfl,Nat.zero_le _,⟨⟨_,_,_,_,[],_,Nat.le_refl 0,T2.out⟩⟩,I2⟩
   case round =>
    clear T2 I2
    obtain ⟨i,rfl,hi,TT,I4⟩ := hrel
    obtain ⟨M,Gs,Ar,cr,L,E,hlen,hT⟩ := TT.out
    have LL := Aside0.mk hlen
    have T4 := Aside0.mk hT
    clear TT hlen hT
    by_cases hin : i < n
    ·have k0 : decide ((i : Int) < (n : Int)) = true := decide_eq_true (by omega)
     have k0' : decide (i < n) = true := decide_eq_true hin
     have p0 : (0 : Int) ≤ (i : Int) := by omega
     have p1 : (i : Int) < (n : Int) := by omega
     obtain ⟨y,hy⟩ : ∃ y,l[i]? = some y := ⟨l[i]'(by have := LN.out;omega),List.getElem?_eq_getElem _⟩
     obtain ⟨ad,Ax,cx,e1,x0,x1,hxc⟩ := ent_get HL.out hin hy
     subst e1
     have XC := Aside0.mk hxc
     have XI := Aside0.mk (HI.out y (List.mem_of_getElem? hy))
     have X0 := Aside0.mk (And.intro x0 x1)
     replace x0 := (I4.out.below.cell (HN.out ▸ World.block_lt_of_cell? w _ x0)).trans x0
     replace x1 := (I4.out.below.cell (HN.out ▸ World.block_lt_of_cell? w _ x1)).trans x1
     have XB := Aside0.mk (fun W (hb : Below N w W) => show RowC W Ax cx y.f0 from XC.out.below (HN.out ▸ hb))
     obtain ⟨⟨q,L1⟩,hq⟩ : ∃ q,idxAdd cols y.f0 y.f1 L = q := ⟨_,rfl⟩
     have AD := Aside0.mk hq
     have LL1 := Aside0.mk (show L1.length ≤ i + 1 by have := idxAdd_le cols y.f0 y.f1 T4.out.idx.idl.srt;rw [hq] at this;have := LL.out;simp only at *;omega)
     have B1 := Aside0.mk (show L.length ≤ 100000 by have := LL.out;omega)
     clear hy hxc hq
     obtain ⟨xr,xm⟩ := y
     simp only at *
     obtain ⟨rn,hrn⟩ : ∃ rn,xr.length = rn := ⟨_,rfl⟩
     have LR := Aside0.mk hrn
     rw [hrn] at x0 X0
     clear hrn
     by_cases h50 : rn ≤ 50
     ·have q5 : decide ((50 : Int) < (rn : Int)) = false := decide_eq_false (by omega)
      have q5' : decide ((rn : Int) > 50) = false := decide_eq_false (by omega)
      have q5'' : decide (50 < rn) = false := decide_eq_false (by omega)
      have ADC := Aside0.mk (fun W (e : SameW wr W) => by have := ix_add T4.out w I4.out e Ax cx xr xm (XB.out W (I4.out.at_ e)) XI.out HCL.out B1.out q L1 AD.out;rw [LR.out] at this;exact this)
      have SR := Aside0.mk (show SrtD L from T4.out.idx.idl.srt)
      have OK := Aside0.mk (show OkD L from T4.out.idx.idl.ok)
      obtain ⟨l1,hl1⟩ : ∃ l1,L1.length = l1 := ⟨_,rfl⟩
      have E1 := Aside0.mk hl1
      have f1 : ((l1 : Int) != (l1 : Int)) = false := by simp
      clear hl1
      go_upto_region 12 with (fail)
      refine start_ (n := 36) (S := fun w' => w'.cell? (ad.add (i * 2)) = some (.slice Ax rn cx) ∧ w'.cell? ⟨(ad.add (i * 2)).block,(ad.add (i * 2)).off + 1,none⟩ = some (.int .i64 xm)) (ds := []) #[false,false,false,false,false,false,false,false,false,false,false,false,false,false,false,false,false,false,false,false,false,false,false,false,false,false,false,false,false,false,false,false,false,false,false,false] (by kernel_rfl) rfl rfl (⟨x0,x1⟩) (fun hHeld => ?_)
      refine pure_ (i := 0) (N := some 59) (v := ?_) (a' := ?_) #[true,false,false,false,false,false,false,false,false,false,false,false,false,false,false,false,false,false,false,false,false,false,false,false,false,false,false,false,false,false,false,false,false,false,false,false] rfl rfl (by kernel_rfl) (fun _ _ _ h => h) (Or.inl ⟨by rfl,?_⟩) ?_ ?_
      rotate_left
      ·intro w'
       go_simp
       with_reducible rfl
      rotate_left
      ·simp only [Act.put,zA,zB,zC,i64_w,i32_w]
       rfl
      refine pure_ (i := 1) (N := some 60) (v := ?_) (a' := ?_) #[true,true,false,false,false,false,false,false,false,false,false,false,false,false,false,false,false,false,false,false,false,false,false,false,false,false,false,false,false,false,false,false,false,false,false,false] rfl rfl (by kernel_rfl) (fun _ _ _ h => h) (Or.inl ⟨by rfl,?_⟩) ?_ ?_
      rotate_left
      ·intro w'
       go_simp
       with_reducible rfl
      rotate_left
      ·simp only [Act.put,zA,zB,zC,i64_w,i32_w]
       rfl
      refine pure_ (i := 2) (N := some 61) (v := ?_) (a' := ?_) #[true,true,true,false,false,false,false,false,false,false,false,false,false,false,false,false,false,false,false,false,false,false,false,false,false,false,false,false,false,false,false,false,false,false,false,false] rfl rfl (by kernel_rfl) (fun _ _ _ h => h) (Or.inl ⟨by rfl,?_⟩) ?_ ?_
      rotate_left
      ·intro w'
       go_simp
       with_reducible rfl
      rotate_left
      ·simp only [Act.put,zA,zB,zC,i64_w,i32_w]
       rfl
      refine pure_ (i := 3) (N := some 62) (v := ?_) (a' := ?_) #[true,true,true,true,false,false,false,false,false,false,false,false,false,false,false,false,false,false,false,false,false,false,false,false,false,false,false,false,false,false,false,false,false,false,false,false] rfl rfl (by kernel_rfl) (fun _ _ _ h => h) (Or.inl ⟨by rfl,?_⟩) ?_ ?_
      rotate_left
      ·intro w'
       go_simp
       with_reducible rfl
      rotate_left
      ·simp only [Act.put,zA,zB,zC,i64_w,i32_w]
       rfl
      refine pure_ (i := 4) (N := some 63) (v := ?_) (a' := ?_) #[true,true,true,true,true,false,false,false,false,false,false,false,false,false,false,false,false,false,false,false,false,false,false,false,false,false,false,false,false,false,false,false,false,false,false,false] rfl rfl (by kernel_rfl) (fun _ _ _ h => h) (Or.inl ⟨by rfl,?_⟩) ?_ ?_
      rotate_left
      ·intro w'
       go_simp
       with_reducible rfl
      rotate_left
      ·simp only [Act.put,zA,zB,zC,i64_w,i32_w]
       rfl
      refine take_ (i := 5) (N := some 64) (v := ?_) (a' := ?_) #[true,true,true,true,true,true,false,false,false,false,false,false,false,false,false,false,false,false,false,false,false,false,false,false,false,false,false,false,false,false,false,false,false,false,false,false] rfl rfl (by kernel_rfl) (fun _ _ _ h => h) (Or.inl ⟨by rfl,?_⟩) hHeld ?_ ?_
      rotate_left
      ·rintro w' ⟨s0,s1⟩
       go_simp
       with_reducible rfl
      rotate_left
      ·simp only [Act.put,zA,zB,zC,i64_w,i32_w]
       rfl
      refine pure_ (i := 6) (N := some 65) (v := ?_) (a' := ?_) #[true,true,true,true,true,true,true,false,false,false,false,false,false,false,false,false,false,false,false,false,false,false,false,false,false,false,false,false,false,false,false,false,false,false,false,false] rfl rfl (by kernel_rfl) (fun _ _ _ h => h) (Or.inl ⟨by rfl,?_⟩) ?_ ?_
      rotate_left
      ·intro w'
       go_simp
       with_reducible rfl
      rotate_left
      ·simp only [Act.put,zA,zB,zC,i64_w,i32_w]
       rfl
      refine pure_ (i := 7) (N := some 66) (v := ?_) (a' := ?_) #[true,true,true,true,true,true,true,true,false,false,false,false,false,false,false,false,false,false,false,false,false,false,false,false,false,false,false,false,false,false,false,false,false,false,false,false] rfl rfl (by kernel_rfl) (fun _ _ _ h => h) (Or.inl ⟨by rfl,?_⟩) ?_ ?_
      rotate_left
      ·intro w'
       go_simp
       with_reducible rfl
      rotate_left
      ·simp only [Act.put,zA,zB,zC,i64_w,i32_w]
       rfl
      refine pure_ (i := 8) (N := some 67) (v := ?_) (a' := ?_) #[true,true,true,true,true,true,true,true,true,false,false,false,false,false,false,false,false,false,false,false,false,false,false,false,false,false,false,false,false,false,false,false,false,false,false,false] rfl rfl (by kernel_rfl) (fun _ _ _ h => h) (Or.inl ⟨by rfl,?_⟩) ?_ ?_
      rotate_left
      ·intro w'
       go_simp
       with_reducible rfl
      rotate_left
      ·simp only [Act.put,zA,zB,zC,i64_w,i32_w]
       rfl
      refine pure_ (i := 9) (N := some 68) (v := ?_) (a' := ?_) #[true,true,true,true,true,true,true,true,true,true,false,false,false,false,false,false,false,false,false,false,false,false,false,false,false,false,false,false,false,false,false,false,false,false,false,false] rfl rfl (by kernel_rfl) (fun _ _ _ h => h) (Or.inl ⟨by rfl,?_⟩) ?_ ?_
      rotate_left
      ·intro w'
       go_simp
       with_reducible rfl
      rotate_left
      ·simp only [Act.put,zA,zB,zC,i64_w,i32_w]
       rfl
      refine take_ (i := 10) (N := some 69) (v := ?_) (a' := ?_) #[true,true,true,true,true,true,true,true,true,true,true,false,false,false,false,false,false,false,false,false,false,false,false,false,false,false,false,false,false,false,false,false,false,false,false,false] rfl rfl (by kernel_rfl) (fun _ _ _ h => h) (Or.inl ⟨by rfl,?_⟩) hHeld ?_ ?_
      rotate_left
      ·rintro w' ⟨s0,s1⟩
       go_simp
       with_reducible rfl
      rotate_left
      ·simp only [Act.put,zA,zB,zC,i64_w,i32_w]
       rfl
      refine pure_ (i := 12) (N := some 71) (v := ?_) (a' := ?_) #[true,true,true,true,true,true,true,true,true,true,true,false,true,false,false,false,false,false,false,false,false,false,false,false,false,false,false,false,false,false,false,false,false,false,false,false] rfl rfl (by kernel_rfl) (fun _ _ _ h => h) (Or.inl ⟨by rfl,?_⟩) ?_ ?_
      rotate_left
      ·intro w'
       go_simp
       with_reducible rfl
      rotate_left
      ·simp only [Act.put,zA,zB,zC,i64_w,i32_w]
       rfl
      refine pure_ (i := 13) (N := some 72) (v := ?_) (a' := ?_) #[true,true,true,true,true,true,true,true,true,true,true,false,true,true,false,false,false,false,false,false,false,false,false,false,false,false,false,false,false,false,false,false,false,false,false,false] rfl rfl (by kernel_rfl) (fun _ _ _ h => h) (Or.inl ⟨by rfl,?_⟩) ?_ ?_
      rotate_left
      ·intro w'
       go_simp
       with_reducible rfl
      rotate_left
      ·simp only [Act.put,zA,zB,zC,i64_w,i32_w]
       rfl
      refine pure_ (i := 14) (N := some 73) (v := ?_) (a' := ?_) #[true,true,true,true,true,true,true,true,true,true,true,false,true,true,true,false,false,false,false,false,false,false,false,false,false,false,false,false,false,false,false,false,false,false,false,false] rfl rfl (by kernel_rfl) (fun _ _ _ h => h) (Or.inl ⟨by rfl,?_⟩) ?_ ?_
      rotate_left
      ·intro w'
       go_simp
       with_reducible rfl
      rotate_left
      ·simp only [Act.put,zA,zB,zC,i64_w,i32_w]
       rfl
      refine pure_ (i := 15) (N := some 74) (v := ?_) (a' := ?_) #[true,true,true,true,true,true,true,true,true,true,true,false,true,true,true,true,false,false,false,false,false,false,false,false,false,false,false,false,false,false,false,false,false,false,false,false] rfl rfl (by kernel_rfl) (fun _ _ _ h => h) (Or.inl ⟨by rfl,?_⟩) ?_ ?_
      rotate_left
      ·intro w'
       go_simp
       with_reducible rfl
      rotate_left
      ·simp only [Act.put,zA,zB,zC,i64_w,i32_w]
       rfl
      refine pure_ (i := 16) (N := some 75) (v := ?_) (a' := ?_) #[true,true,true,true,true,true,true,true,true,true,true,false,true,true,true,true,true,false,false,false,false,false,false,false,false,false,false,false,false,false,false,false,false,false,false,false] rfl rfl (by kernel_rfl) (fun _ _ _ h => h) (Or.inl ⟨by rfl,?_⟩) ?_ ?_
      rotate_left
      ·intro w'
       go_simp
       with_reducible rfl
      rotate_left
      ·simp only [Act.put,zA,zB,zC,i64_w,i32_w]
       rfl
      refine take_ (i := 17) (N := some 76) (v := ?_) (a' := ?_) #[true,true,true,true,true,true,true,true,true,true,true,false,true,true,true,true,true,true,false,false,false,false,false,false,false,false,false,false,false,false,false,false,false,false,false,false] rfl rfl (by kernel_rfl) (fun _ _ _ h => h) (Or.inl ⟨by rfl,?_⟩) hHeld ?_ ?_
      rotate_left
      ·rintro w' ⟨s0,s1⟩
       go_simp
       with_reducible rfl
      rotate_left
      ·simp only [Act.put,zA,zB,zC,i64_w,i32_w]
       rfl
      refine pure_ (i := 18) (N := some 77) (v := ?_) (a' := ?_) #[true,true,true,true,true,true,true,true,true,true,true,false,true,true,true,true,true,true,true,false,false,false,false,false,false,false,false,false,false,false,false,false,false,false,false,false] rfl rfl (by kernel_rfl) (fun _ _ _ h => h) (Or.inl ⟨by rfl,?_⟩) ?_ ?_
      rotate_left
      ·intro w'
       go_simp
       with_reducible rfl
      rotate_left
      ·simp only [Act.put,zA,zB,zC,i64_w,i32_w]
       rfl
      refine pure_ (i := 19) (N := some 78) (v := ?_) (a' := ?_) #[true,true,true,true,true,true,true,true,true,true,true,false,true,true,true,true,true,true,true,true,false,false,false,false,false,false,false,false,false,false,false,false,false,false,false,false] rfl rfl (by kernel_rfl) (fun _ _ _ h => h) (Or.inl ⟨by rfl,?_⟩) ?_ ?_
      rotate_left
      ·intro w'
       go_simp
       with_reducible rfl
      rotate_left
      ·simp only [Act.put,zA,zB,zC,i64_w,i32_w]
       rfl
      refine pure_ (i := 20) (N := some 79) (v := ?_) (a' := ?_) #[true,true,true,true,true,true,true,true,true,true,true,false,true,true,true,true,true,true,true,true,true,false,false,false,false,false,false,false,false,false,false,false,false,false,false,false] rfl rfl (by kernel_rfl) (fun _ _ _ h => h) (Or.inl ⟨by rfl,?_⟩) ?_ ?_
      rotate_left
      ·intro w'
       go_simp
       with_reducible rfl
      rotate_left
      ·simp only [Act.put,zA,zB,zC,i64_w,i32_w]
       rfl
      refine pure_ (i := 21) (N := some 80) (v := ?_) (a' := ?_) #[true,true,true,true,true,true,true,true,true,true,true,false,true,true,true,true,true,true,true,true,true,true,false,false,false,false,false,false,false,false,false,false,false,false,false,false] rfl rfl (by kernel_rfl) (fun _ _ _ h => h) (Or.inl ⟨by rfl,?_⟩) ?_ ?_
      rotate_left
      ·intro w'
       go_simp
       with_reducible rfl
      rotate_left
      ·simp only [Act.put,zA,zB,zC,i64_w,i32_w]
       rfl
      refine take_ (i := 22) (N := some 81) (v := ?_) (a' := ?_) #[true,true,true,true,true,true,true,true,true,true,true,false,true,true,true,true,true,true,true,true,true,true,true,false,false,false,false,false,false,false,false,false,false,false,false,false] rfl rfl (by kernel_rfl) (fun _ _ _ h => h) (Or.inl ⟨by rfl,?_⟩) hHeld ?_ ?_
      rotate_left
      ·rintro w' ⟨s0,s1⟩
       go_simp
       with_reducible rfl
      rotate_left
      ·simp only [Act.put,zA,zB,zC,i64_w,i32_w]
       rfl
      refine one_ (i := 11) (N := some 70) #[true,true,true,true,true,true,true,true,true,true,true,true,true,true,true,true,true,true,true,true,true,true,true,false,false,false,false,false,false,false,false,false,false,false,false,false] rfl rfl (by kernel_rfl) (by decide) (fun K hK => ?_)
      refine goes_ Try.func38 (by kernel_rfl) rfl #[.pointer (some ⟨x,0,none⟩),.slice Ax rn cx,.int .i64 xm] (by rfl) rfl rfl (by (try simp only [List.map_toArray,List.map_cons,List.map_nil]);first | done | rfl) ?_
      refine (ADC.out _ (SameW.drew wr)).mono ?_
      rintro e w5 ⟨M5,G5,rfl,h5,i5,b5⟩
      refine ⟨_,rfl,?_⟩
      replace x0 := (b5.cell (HN.out ▸ World.block_lt_of_cell? w _ X0.out.1)).trans x0
      replace x1 := (b5.cell (HN.out ▸ World.block_lt_of_cell? w _ X0.out.2)).trans x1
      have T5 := Aside0.mk h5
      have I5 := Aside0.mk i5
      clear h5 i5 b5
      refine hK.out _ _ (⟨x0,x1⟩) (fun hHeld => ?_)
      clear hK K
      refine norm_ (a' := ?_) ?_ ?_
      rotate_left
      ·show Act.put _ (some 70) _ = _
       simp only [Act.put,zA,zB,zC,i64_w,i32_w]
       rfl
      refine one_ (i := 23) (N := some 82) #[true,true,true,true,true,true,true,true,true,true,true,true,true,true,true,true,true,true,true,true,true,true,true,true,false,false,false,false,false,false,false,false,false,false,false,false] rfl rfl (by kernel_rfl) (by decide) (fun K hK => ?_)
      refine goes_ Try.func39 (by kernel_rfl) rfl #[.pointer (some ⟨g,0,none⟩),.slice Ax rn cx,.int .i64 xm] (by rfl) rfl rfl (by (try simp only [List.map_toArray,List.map_cons,List.map_nil]);first | done | rfl) ?_
      have RAD := ix_radd T5.out w I5.out (SameW.refl w5) HCOL.out HCC.out CN.out Ax cx xr xm (XB.out w5 (I5.out.at_)) SR.out OK.out HCL.out (by have := B1.out;omega) q L1 AD.out
      rw [LR.out] at RAD
      refine RAD.mono ?_
      rintro e w6 ⟨A6,c6,E6,rfl,h6,i6,b6⟩
      refine ⟨_,rfl,?_⟩
      replace x0 := (b6.cell (HN.out ▸ World.block_lt_of_cell? w _ X0.out.1)).trans x0
      replace x1 := (b6.cell (HN.out ▸ World.block_lt_of_cell? w _ X0.out.2)).trans x1
      have T6 := Aside0.mk h6
      have I6 := Aside0.mk i6
      have gl : w6.cell? ⟨g,1,none⟩ = some (.slice A6 l1 c6) := by have := (q0d h6.ref.blk 1).trans rfl;rw [E1.out] at this;exact this
      have LNC := Aside0.mk (idx_len h6.idx)
      rw [E1.out] at LNC
      clear h6 i6 b6 RAD
      refine hK.out _ _ (⟨x0,x1⟩) (fun hHeld => ?_)
      clear hK K
      refine norm_ (a' := ?_) ?_ ?_
      rotate_left
      ·show Act.put _ (some 82) _ = _
       simp only [Act.put,zA,zB,zC,i64_w,i32_w]
       rfl
      refine pure_ (i := 24) (N := some 83) (v := ?_) (a' := ?_) #[true,true,true,true,true,true,true,true,true,true,true,true,true,true,true,true,true,true,true,true,true,true,true,true,true,false,false,false,false,false,false,false,false,false,false,false] rfl rfl (by kernel_rfl) (fun _ _ _ h => h) (Or.inl ⟨by rfl,?_⟩) ?_ ?_
      rotate_left
      ·intro w'
       go_simp
       with_reducible rfl
      rotate_left
      ·simp only [Act.put,zA,zB,zC,i64_w,i32_w]
       rfl
      refine pure_ (i := 25) (N := some 84) (v := ?_) (a' := ?_) #[true,true,true,true,true,true,true,true,true,true,true,true,true,true,true,true,true,true,true,true,true,true,true,true,true,true,false,false,false,false,false,false,false,false,false,false] rfl rfl (by kernel_rfl) (fun _ _ _ h => h) (Or.inl ⟨by rfl,?_⟩) ?_ ?_
      rotate_left
      ·intro w'
       go_simp
       with_reducible rfl
      rotate_left
      ·simp only [Act.put,zA,zB,zC,i64_w,i32_w]
       rfl
      refine pure_ (i := 26) (N := some 85) (v := ?_) (a' := ?_) #[true,true,true,true,true,true,true,true,true,true,true,true,true,true,true,true,true,true,true,true,true,true,true,true,true,true,true,false,false,false,false,false,false,false,false,false] rfl rfl (by kernel_rfl) (fun _ _ _ h => h) (Or.inl ⟨by rfl,?_⟩) ?_ ?_
      rotate_left
      ·intro w'
       go_simp
       with_reducible rfl
      rotate_left
      ·simp only [Act.put,zA,zB,zC,i64_w,i32_w]
       rfl
      refine pure_ (i := 28) (N := some 87) (v := ?_) (a' := ?_) #[true,true,true,true,true,true,true,true,true,true,true,true,true,true,true,true,true,true,true,true,true,true,true,true,true,true,true,false,true,false,false,false,false,false,false,false] rfl rfl (by kernel_rfl) (fun _ _ _ h => h) (Or.inl ⟨by rfl,?_⟩) ?_ ?_
      rotate_left
      ·intro w'
       go_simp
       with_reducible rfl
      rotate_left
      ·simp only [Act.put,zA,zB,zC,i64_w,i32_w]
       rfl
      refine pure_ (i := 29) (N := some 88) (v := ?_) (a' := ?_) #[true,true,true,true,true,true,true,true,true,true,true,true,true,true,true,true,true,true,true,true,true,true,true,true,true,true,true,false,true,true,false,false,false,false,false,false] rfl rfl (by kernel_rfl) (fun _ _ _ h => h) (Or.inl ⟨by rfl,?_⟩) ?_ ?_
      rotate_left
      ·intro w'
       go_simp
       with_reducible rfl
      rotate_left
      ·simp only [Act.put,zA,zB,zC,i64_w,i32_w]
       rfl
      refine pure_ (i := 30) (N := some 89) (v := ?_) (a' := ?_) #[true,true,true,true,true,true,true,true,true,true,true,true,true,true,true,true,true,true,true,true,true,true,true,true,true,true,true,false,true,true,true,false,false,false,false,false] rfl rfl (by kernel_rfl) (fun _ _ _ h => h) (Or.inl ⟨by rfl,?_⟩) ?_ ?_
      rotate_left
      ·intro w'
       go_simp
       with_reducible rfl
      rotate_left
      ·simp only [Act.put,zA,zB,zC,i64_w,i32_w]
       rfl
      refine pure_ (i := 31) (N := some 90) (v := ?_) (a' := ?_) #[true,true,true,true,true,true,true,true,true,true,true,true,true,true,true,true,true,true,true,true,true,true,true,true,true,true,true,false,true,true,true,true,false,false,false,false] rfl rfl (by kernel_rfl) (fun _ _ _ h => h) (Or.inl ⟨by rfl,?_⟩) ?_ ?_
      rotate_left
      ·intro w'
       go_simp
       with_reducible rfl
      rotate_left
      ·simp only [Act.put,zA,zB,zC,i64_w,i32_w]
       rfl
      refine two_ (i := 27) (j := 32) (Ni := some 86) (Nj := some 91) #[true,true,true,true,true,true,true,true,true,true,true,true,true,true,true,true,true,true,true,true,true,true,true,true,true,true,true,true,true,true,true,true,false,false,false,false] #[true,true,true,true,true,true,true,true,true,true,true,true,true,true,true,true,true,true,true,true,true,true,true,true,true,true,true,false,true,true,true,true,true,false,false,false] rfl rfl rfl rfl (by kernel_rfl) (by decide) (by decide) (fun K hK => ?_) (fun K hK => ?_)
      ·refine goes_ Try.func40 (by kernel_rfl) rfl #[.pointer (some ⟨x,0,none⟩)] (by rfl) rfl rfl (by (try simp only [List.map_toArray,List.map_cons,List.map_nil]);first | done | rfl) ?_
       refine LNC.out.mono ?_
       rintro e w7 ⟨rfl,ew⟩
       subst ew
       refine ⟨_,rfl,?_⟩
       refine hK.out _ _ (⟨x0,x1⟩) (fun hHeld => ?_)
       clear hK K
       refine norm_ (a' := ?_) ?_ ?_
       rotate_left
       ·show Act.put _ (some 86) _ = _
        simp only [Act.put,zA,zB,zC,i64_w,i32_w]
        rfl
       refine one_ (i := 32) (N := some 91) #[true,true,true,true,true,true,true,true,true,true,true,true,true,true,true,true,true,true,true,true,true,true,true,true,true,true,true,true,true,true,true,true,true,false,false,false] rfl rfl (by kernel_rfl) (by decide) (fun K hK => ?_)
       refine value_ (w1 := w6) (v := .slice A6 l1 c6) (by rfl) rfl ?_ ?_
       ·go_simp
        try with_reducible rfl
       refine hK.out _ _ (⟨x0,x1⟩) (fun hHeld => ?_)
       clear hK K
       refine norm_ (a' := ?_) ?_ ?_
       rotate_left
       ·show Act.put _ (some 91) _ = _
        simp only [Act.put,zA,zB,zC,i64_w,i32_w]
        rfl
       refine pure_ (i := 33) (N := some 92) (v := ?_) (a' := ?_) #[true,true,true,true,true,true,true,true,true,true,true,true,true,true,true,true,true,true,true,true,true,true,true,true,true,true,true,true,true,true,true,true,true,true,false,false] rfl rfl (by kernel_rfl) (fun _ _ _ h => h) (Or.inl ⟨by rfl,?_⟩) ?_ ?_
       rotate_left
       ·intro w'
        go_simp
        with_reducible rfl
       rotate_left
       ·simp only [Act.put,zA,zB,zC,i64_w,i32_w]
        rfl
       refine pure_ (i := 34) (N := some 93) (v := ?_) (a' := ?_) #[true,true,true,true,true,true,true,true,true,true,true,true,true,true,true,true,true,true,true,true,true,true,true,true,true,true,true,true,true,true,true,true,true,true,true,false] rfl rfl (by kernel_rfl) (fun _ _ _ h => h) (Or.inl ⟨by rfl,?_⟩) ?_ ?_
       rotate_left
       ·intro w'
        go_simp
        with_reducible rfl
       rotate_left
       ·simp only [Act.put,zA,zB,zC,i64_w,i32_w]
        rfl
       refine pure_ (i := 35) (N := some 94) (v := ?_) (a' := ?_) #[true,true,true,true,true,true,true,true,true,true,true,true,true,true,true,true,true,true,true,true,true,true,true,true,true,true,true,true,true,true,true,true,true,true,true,true] rfl rfl (by kernel_rfl) (fun _ _ _ h => h) (Or.inl ⟨by rfl,?_⟩) ?_ ?_
       rotate_left
       ·intro w'
        go_simp
        with_reducible rfl
       rotate_left
       ·simp only [Act.put,zA,zB,zC,i64_w,i32_w]
        rfl
       refine done_ (by kernel_rfl) ?_
       go_wp2_with (fail)
       go_roundw
       case rel => exact ⟨i + 1,by go_num,hin,⟨⟨_,_,_,_,_,_,LL1.out,T6.out⟩⟩,I6⟩
       case measure => simp [intOf];omega
      ·refine value_ (w1 := w6) (v := .slice A6 l1 c6) (by rfl) rfl ?_ ?_
       ·go_simp
        try with_reducible rfl
       refine hK.out _ _ (⟨x0,x1⟩) (fun hHeld => ?_)
       clear hK K
       refine norm_ (a' := ?_) ?_ ?_
       rotate_left
       ·show Act.put _ (some 91) _ = _
        simp only [Act.put,zA,zB,zC,i64_w,i32_w]
        rfl
       refine pure_ (i := 33) (N := some 92) (v := ?_) (a' := ?_) #[true,true,true,true,true,true,true,true,true,true,true,true,true,true,true,true,true,true,true,true,true,true,true,true,true,true,true,false,true,true,true,true,true,true,false,false] rfl rfl (by kernel_rfl) (fun _ _ _ h => h) (Or.inl ⟨by rfl,?_⟩) ?_ ?_
       rotate_left
       ·intro w'
        go_simp
        with_reducible rfl
       rotate_left
       ·simp only [Act.put,zA,zB,zC,i64_w,i32_w]
        rfl
       refine one_ (i := 27) (N := some 86) #[true,true,true,true,true,true,true,true,true,true,true,true,true,true,true,true,true,true,true,true,true,true,true,true,true,true,true,true,true,true,true,true,true,true,false,false] rfl rfl (by kernel_rfl) (by decide) (fun K hK => ?_)
       refine goes_ Try.func40 (by kernel_rfl) rfl #[.pointer (some ⟨x,0,none⟩)] (by rfl) rfl rfl (by (try simp only [List.map_toArray,List.map_cons,List.map_nil]);first | done | rfl) ?_
       refine LNC.out.mono ?_
       rintro e w7 ⟨rfl,ew⟩
       subst ew
       refine ⟨_,rfl,?_⟩
       refine hK.out _ _ (⟨x0,x1⟩) (fun hHeld => ?_)
       clear hK K
       refine norm_ (a' := ?_) ?_ ?_
       rotate_left
       ·show Act.put _ (some 86) _ = _
        simp only [Act.put,zA,zB,zC,i64_w,i32_w]
        rfl
       refine pure_ (i := 34) (N := some 93) (v := ?_) (a' := ?_) #[true,true,true,true,true,true,true,true,true,true,true,true,true,true,true,true,true,true,true,true,true,true,true,true,true,true,true,true,true,true,true,true,true,true,true,false] rfl rfl (by kernel_rfl) (fun _ _ _ h => h) (Or.inl ⟨by rfl,?_⟩) ?_ ?_
       rotate_left
       ·intro w'
        go_simp
        with_reducible rfl
       rotate_left
       ·simp only [Act.put,zA,zB,zC,i64_w,i32_w]
        rfl
       refine pure_ (i := 35) (N := some 94) (v := ?_) (a' := ?_) #[true,true,true,true,true,true,true,true,true,true,true,true,true,true,true,true,true,true,true,true,true,true,true,true,true,true,true,true,true,true,true,true,true,true,true,true] rfl rfl (by kernel_rfl) (fun _ _ _ h => h) (Or.inl ⟨by rfl,?_⟩) ?_ ?_
       rotate_left
       ·intro w'
        go_simp
        with_reducible rfl
       rotate_left
       ·simp only [Act.put,zA,zB,zC,i64_w,i32_w]
        rfl
       refine done_ (by kernel_rfl) ?_
       go_wp2_with (fail)
       go_roundw
       case rel => exact ⟨i + 1,by go_num,hin,⟨⟨_,_,_,_,_,_,LL1.out,T6.out⟩⟩,I6⟩
       case measure => simp [intOf];omega
     ·have q5 : decide ((50 : Int) < (rn : Int)) = true := decide_eq_true (by omega)
      have q5' : decide ((rn : Int) > 50) = true := decide_eq_true (by omega)
      have q5'' : decide (50 < rn) = true := decide_eq_true (by omega)
      go_wp2_with (fail)
      refine (known06_end wr N w I4.out).mono ?_
      rintro e w5 ⟨rfl,hb⟩
      have B5 := Aside0.mk hb
      clear hb
      go_wp2_with (fail)
      go_ret
      exact ⟨rfl,B5.out⟩
    ·have k0 : decide ((i : Int) < (n : Int)) = false := decide_eq_false (by omega)
     have k0' : decide (i < n) = false := decide_eq_false hin
     have BL := Aside0.mk (show L.length ≤ 100 by have := LL.out;omega)
     have KRW := Aside0.mk (fun W (hb : Below N w W) => show RowC W Ak ck key from HKR.out.below (HN.out ▸ hb))
     have FN := Aside0.mk (idx_find T4.out.idx Ak ck key (KRW.out wr I4.out.below) HKI.out HCL.out (by have := BL.out;omega))
     have FR := Aside0.mk (fun W (hb : Below wr.heap.size wr W) => ridx_find g Ac cc cols Ar cr L Ak ck key W (T4.out.ref.below hb) (col_step HCOL.out (HN.out ▸ CN.out) (HN.out ▸ (I4.out.next hb).at_)) HCC.out T4.out.idx.idl.ok T4.out.idx.idl.pick (KRW.out W (I4.out.next hb).at_) HCL.out (by have := BL.out;omega) (fun k hk => Nat.lt_of_lt_of_le (CN.out k hk) (I4.out.next hb).le))
     have OKG := Aside0.mk (show OkD (grp cols key L) from fun e he => T4.out.idx.idl.ok e (List.mem_filter.1 he).1)
     have GL := Aside0.mk (show (grp cols key L).length ≤ 100 from Nat.le_trans (grp_len cols key L) BL.out)
     rw [LK.out] at FN FR
     obtain ⟨gn,hgn⟩ : ∃ gn,(grp cols key L).length = gn := ⟨_,rfl⟩
     have LG := Aside0.mk hgn
     rw [hgn] at FR
     clear hgn
     go_wp2_with (fail)
     refine FN.out.mono ?_
     rintro e w5 ⟨v5,rfl,hv,hb⟩
     obtain ⟨A5,c5,e5⟩ := Kd.R_slice hv
     subst e5
     have R5 := Aside0.mk (Kd.R_reads' hv).2.2
     have C5 := Aside0.mk (Kd.R_reads' hv).2.1
     rw [LG.out] at R5 C5 ⊢
     have B5 := Aside0.mk hb
     have FR5 := Aside0.mk (FR.out w5 hb)
     clear hv hb FN FR
     go_wp2_with (fail)
     refine FR5.out.mono ?_
     rintro e w6 ⟨A6,c6,rfl,hc6,hr6,hb⟩
     have R6 := Aside0.mk hr6
     have C6 := Aside0.mk hc6
     have R56 := Aside0.mk (Kd.C_below R5.out hb)
     have B6 := Aside0.mk (B5.out.trans (hb.mono B5.out.size))
     have AK := Aside0.mk (alike_at A5 A6 gn c5 c6 (grp cols key L) w6 R56.out R6.out C5.out C6.out OKG.out (by have := GL.out;have := LG.out;omega))
     clear hr6 hc6 hb FR5 R5
     go_wp2_with (fail)
     refine AK.out.mono ?_
     rintro e w7 ⟨rfl,hb⟩
     have B7 := Aside0.mk (B6.out.trans (hb.mono B6.out.size))
     have T7 := Aside0.mk (T4.out.below B7.out)
     have I7 := Aside0.mk (I4.out.next B7.out)
     clear hb AK R56 R6 B5 B6
     have HS := Aside0.mk (idx_has T7.out.idx Ak ck key (KRW.out w7 I7.out.at_) HKI.out HCL.out (by have := BL.out;omega))
     have HR := Aside0.mk (fun W (hb : Below w7.heap.size w7 W) => ridx_has g Ac cc cols Ar cr L Ak ck key W (T7.out.ref.below hb) (col_step HCOL.out (HN.out ▸ CN.out) (HN.out ▸ (I7.out.next hb).at_)) HCC.out T4.out.idx.idl.ok T4.out.idx.idl.pick (KRW.out W (I7.out.next hb).at_) HCL.out (by have := BL.out;omega) (fun k hk => Nat.lt_of_lt_of_le (CN.out k hk) (I7.out.next hb).le))
     rw [LK.out] at HS HR
     obtain ⟨sm,hsm⟩ : ∃ sm,sumM (grp cols key L) = sm := ⟨_,rfl⟩
     rw [hsm] at HS HR
     clear hsm
     go_wp2_with (fail)
     refine HS.out.mono ?_
     rintro e w8 ⟨rfl,hb⟩
     have B8 := Aside0.mk hb
     have HR8 := Aside0.mk (HR.out w8 hb)
     clear hb HS HR
     go_wp2_with (fail)
     refine HR8.out.mono ?_
     rintro e w9 ⟨rfl,hb⟩
     have B9 := Aside0.mk (B8.out.trans (hb.mono B8.out.size))
     have T9 := Aside0.mk (T7.out.below B9.out)
     have I9 := Aside0.mk (I7.out.next B9.out)
     clear hb HR8 B8
     have KS := Aside0.mk (idx_keys T9.out.idx)
     have KR := Aside0.mk (ridx_keys g Ac cc cols Ar cr L w9 T9.out.ref (col_step HCOL.out (HN.out ▸ CN.out) (HN.out ▸ I9.out.at_)) HCC.out T4.out.idx.idl.ok T4.out.idx.idl.pick HCL.out BL.out (fun k hk => Nat.lt_of_lt_of_le (CN.out k hk) I9.out.le))
     rw [gs_sort T9.out.idx] at KS
     obtain ⟨kz,hkz⟩ : ∃ kz,(allE rcmp (L.map fun e => keyR cols e.f0)).length = kz := ⟨_,rfl⟩
     rw [hkz] at KS KR
     clear hkz
     go_wp2_with (fail)
     refine KS.out.mono ?_
     rintro e w10 ⟨rfl,ew⟩
     subst ew
     go_wp2_with (fail)
     refine KR.out.mono ?_
     rintro e w10 ⟨rfl,hb⟩
     have I10 := Aside0.mk (I9.out.next hb)
     clear hb KS KR
     go_wp2_with (fail)
     refine (known06_end w10 N w I10.out).mono ?_
     rintro e w11 ⟨rfl,hb⟩
     have B11 := Aside0.mk hb
     clear hb
     go_wp2_with (fail)
     go_ret
     exact ⟨rfl,B11.out⟩
  ·have KN := Aside0.mk (known06_end w2 N w I2.out)
   by_cases hn1 : n ≤ 100
   ·have hk1 : ¬ kn ≤ 50 := fun q => hn ⟨hn1,q⟩
    have q0 : decide ((100 : Int) < (n : Int)) = false := decide_eq_false (by omega)
    have q0' : decide ((n : Int) > 100) = false := decide_eq_false (by omega)
    have q0'' : decide (100 < n) = false := decide_eq_false (by omega)
    have q1 : decide ((50 : Int) < (kn : Int)) = true := decide_eq_true (by omega)
    have q1' : decide ((kn : Int) > 50) = true := decide_eq_true (by omega)
    have q1'' : decide (50 < kn) = true := decide_eq_true (by omega)
    clear hn
    go_wp2_with (fail)
    refine KN.out.mono ?_
    rintro e w5 ⟨rfl,hb⟩
    have B5 := Aside0.mk hb
    clear hb
    go_wp2_with (fail)
    go_ret
    exact ⟨rfl,B5.out⟩
   ·have q0 : decide ((100 : Int) < (n : Int)) = true := decide_eq_true (by omega)
    have q0' : decide ((n : Int) > 100) = true := decide_eq_true (by omega)
    have q0'' : decide (100 < n) = true := decide_eq_true (by omega)
    clear hn
    go_wp2_with (fail)
    refine KN.out.mono ?_
    rintro e w5 ⟨rfl,hb⟩
    have B5 := Aside0.mk hb
    clear hb
    go_wp2_with (fail)
    go_ret
    exact ⟨rfl,B5.out⟩
end Go.Proofs.Ythmbfcfomcaaaaa.Z
end
section
namespace Go.Proofs.Ythmbfcfomcaaaaa.Z
set_option linter.unusedVariables false
open Go.RowKit Go.Proofs.YthmbfcfomcaaaaaW.PrintWords Go.Proofs.YthmbfcfomcaaaaaW.PrintLast Go.Proofs.YthmbfcfomcaaaaaW.PrintMore
def smallE (l : List (S34)) : Bool := l.all fun e => e.f0.all fun v => decide (-9223372036854775808 ≤ v.f2) && decide (v.f2 ≤ 9223372036854775807)
theorem smallE_in {l : List (S34)} (h : smallE l = true) : ∀ x ∈ l,InR x.f0 := fun x hx v hv => by
 unfold smallE at h
 have h1 := List.all_eq_true.1 (List.all_eq_true.1 h x hx) v hv
 simpa using h1
def verdererlaw06_IndexWhole.f (l0 : List (S34)) : Option (Bool) := if smallE l0 = true then some true else none
end Go.Proofs.Ythmbfcfomcaaaaa.Z
end
section
namespace Go.Proofs.Ythmbfcfomcaaaaa.Z
set_option linter.unusedVariables false
open Go.RowKit Go.Proofs.YthmbfcfomcaaaaaW.PrintWords Go.Proofs.YthmbfcfomcaaaaaW.PrintLast Go.Proofs.YthmbfcfomcaaaaaW.PrintMore
def smallR (l : List (S66)) : Bool := l.all fun v => decide (-9223372036854775808 ≤ v.f2) && decide (v.f2 ≤ 9223372036854775807)
theorem smallR_in {l : List (S66)} (h : smallR l = true) : InR l := fun v hv => by
 unfold smallR at h
 have h1 := List.all_eq_true.1 h v hv
 simpa using h1
def verdererlaw06_IndexPlays.f (l0 : List Int) (l1 : List (S34)) (l2 : List (S66)) : Option (Bool) := if l0.length ≤ 1048576 ∧ smallE l1 = true ∧ smallR l2 = true then some true else none
theorem verdererlaw06_IndexPlays.calls (A0 : Option Addr) (c0 : Nat) (l0 : List Int) (A1 : Option Addr) (c1 : Nat) (l1 : List (S34)) (A2 : Option Addr) (c2 : Nat) (l2 : List (S66)) (r : Bool) (w : World) (hr0 : Kd.C (Kd.int .i64) w A0 l0.length l0) (hc0 : l0.length ≤ c0) (hr1 : Kd.C k34 w A1 l1.length l1) (hc1 : l1.length ≤ c1) (hr2 : Kd.C k66 w A2 l2.length l2) (hc2 : l2.length ≤ c2) (h : verdererlaw06_IndexPlays.f l0 l1 l2 = some r) :
  Calls Try.prog 7 #[.slice A0 l0.length c0,.slice A1 l1.length c1,.slice A2 l2.length c2] w fun e w' => e = .returned (.bool r) ∧ Below w.heap.size w w' := by
 unfold verdererlaw06_IndexPlays.f at h
 by_cases hs : l0.length ≤ 1048576 ∧ smallE l1 = true ∧ smallR l2 = true
 ·rw [if_pos hs] at h
  obtain rfl := Option.some.inj h
  exact index_plays A0 c0 l0 A1 l1.length c1 l1 A2 c2 l2 w hr0 hc0 hs.1 hr1 hc1 (smallE_in hs.2.1) ⟨hc2,hr2⟩ (smallR_in hs.2.2)
 ·rw [if_neg hs] at h
  cases h
end Go.Proofs.Ythmbfcfomcaaaaa.Z
end
section
namespace Go.Proofs.Ythmbfcfomcaaaaa.Z
open Go.RowKit Go.Proofs.YthmbfcfomcaaaaaW.PrintWords Go.Proofs.YthmbfcfomcaaaaaW.PrintLast Go.Proofs.YthmbfcfomcaaaaaW.PrintMore
theorem wf_in2 {a : Int} (h : (Go.Lit.int .i64 a).wf = true) : -9223372036854775808 ≤ a ∧ a ≤ 9223372036854775807 := by
 simp [Go.Lit.wf,IntKind.min,IntKind.max,IntKind.signed,IntKind.bits] at h
 omega
theorem smallR_of {l : List S66} (h : ∀ x ∈ l,G66 x) : smallR l = true := by
 unfold smallR
 refine List.all_eq_true.2 (fun v hv => ?_)
 have h2 := wf_in2 (h v hv).2.2.1
 rw [decide_eq_true h2.1,decide_eq_true h2.2]
 rfl
theorem indexPlays_pure : ∀ (l0 : (List Int)) (l1 : (List S34)) (l2 : (List S66)),(l0.length ≤ maxLen ∧ ∀ x ∈ l0,(Go.Lit.int .i64 x).wf = true) → (l1.length ≤ maxLen ∧ ∀ x ∈ l1,G34 x) → (l2.length ≤ maxLen ∧ ∀ x ∈ l2,G66 x) → l0.length ≤ 1048576 → l1.length ≤ 1048576 → l2.length ≤ 1048576 → verdererlaw06_IndexPlays.f l0 l1 l2 = some true := by
 intro l0 l1 l2 _ h1 h2 b0 _ _
 have hE : smallE l1 = true := by
  unfold smallE
  exact List.all_eq_true.2 (fun x hx => smallR_of (h1.2 x hx).1.2)
 unfold verdererlaw06_IndexPlays.f
 rw [if_pos ⟨b0,hE,smallR_of h2.2⟩]
end Go.Proofs.Ythmbfcfomcaaaaa.Z
end
section
namespace Go.Proofs.Ythmbfcfomcaaaaa.Z
open Go.RowKit Go.Deep
theorem bulk_one {H : Type} (d : DataW H) : 1 ≤ Rows.uptoBulk d := by
 cases d with
 | lit l => cases l <;> simp [Rows.uptoBulk]
 | nil => simp [Rows.uptoBulk]
 | ptr d => simp [Rows.uptoBulk]
 | slice elems spare => simp [Rows.uptoBulk]
 | agg parts => simp [Rows.uptoBulk]
 | iface t d => simp [Rows.uptoBulk]
 | map entries => simp [Rows.uptoBulk]
 | held h => simp [Rows.uptoBulk]
theorem bulk_len {H : Type} (l : List (DataW H)) : l.length ≤ Rows.uptoBulkAll l := by
 induction l with
 | nil => simp [Rows.uptoBulkAll]
 | cons x r ih => have := bulk_one x;simp only [Rows.uptoBulkAll,List.length_cons];omega
theorem bulk_slice {H : Type} {enc : TypeId × Value → H} {P : Program} {w : World} {base : Nat} {sp : Nat → Bool} {held : Bool} {t e : TypeId} {a : Option Addr} {len cap : Nat} {d : DataW H} {ps : List MemPlace} (ht : P.underlying t = some (.slice e)) (h : DataW.Trod enc P w base sp held t (.slice a len cap) d ps) : len ≤ Rows.uptoBulk d := by
 obtain ⟨fuel,hf⟩ := h
 rcases open_slice ht hf with ⟨hc,hx⟩ | ⟨a',len',cap',m,n,D,Pl,hc,_,_,_,_,hx,_⟩
 ·simp [Value.cells] at hc
  omega
 ·simp only [Prod.mk.injEq] at hx
  rw [hx.1]
  have h1 := bulk_len ((List.range len').map D)
  simp [Value.cells] at hc
  simp only [Rows.uptoBulk]
  simp only [List.length_map,List.length_range] at h1
  omega
end Go.Proofs.Ythmbfcfomcaaaaa.Z
end
namespace Go.Proofs.Ythmbfcfomcaaaaa.indexPlays
open Go.ChangeShapes Go.WideShapes Go.ChangeAt Go.RowKit Go.Proofs.YthmbfcfomcaaaaaW.PrintWords
open Go.ChangeMaps (open_string shut_string)
set_option linter.unusedVariables false
set_option linter.unusedSimpArgs false
theorem own : ownKnob Try.prog.godebug = none := by kernel_rfl
theorem laidOut : laidOutB Try.prog = true := by kernel_rfl
set_option maxRecDepth 100000 in
theorem lifted (os : Os) (started : os.Started) (H : Type) (enc : TypeId × Value → H) (F : Stop.Interp) :
  ReturnsInHanded {} Try.checked os 7 .any ((Rows.OpenSpec.upto Rows.indexPlaysSpec).pre6 enc Try.prog Try.f7 Rows.indexPlaysUptoRow.domain false) (((Rows.OpenSpec.upto Rows.indexPlaysSpec).at F).post enc Try.prog Try.f7 false true false false) := by
 refine returnsInHanded_of_cond (C := Try.checked) (s := Rows.OpenSpec.upto Rows.indexPlaysSpec) (k := Rows.uptoSmall) rfl own started (by kernel_rfl) Try.func7
  (OpenSpec.witness (enc := enc) (C := Try.checked) (s := Rows.OpenSpec.upto Rows.indexPlaysSpec) (k := Rows.uptoSmall) rfl false ⟨#[],#[.slice none 0 0,.slice none 0 0,.slice none 0 0],[]⟩ 8 (by kernel_rfl) (by kernel_rfl) (by kernel_rfl)
   (x := ([.nil,.nil,.nil],[],[])) (by kernel_rfl) rfl (by kernel_rfl)) ?_
 intro W base args ds gs before hval0 hW hcnd hk _
 show Calls Try.prog 7 args W fun e W' => ∃ v,e = .returned v ∧ Rows.indexPlaysSpec.post enc Try.prog Try.f7 false true false false W args v W'
 replace hW : DataW.Whole enc Try.prog Try.f7.params.toList Rows.indexPlaysSpec.vars false W args.toList ds gs before := hW
 have hval : ∀ (j : Nat) t v,Try.f7.params[j]? = some t → args[j]? = some v → Value.okWide Try.prog W .any base t v := hval0
 have hW' := hW
 obtain ⟨p,q,hA0,hV,rfl,hfz,hnd⟩ := hW
 have hA : DataW.TrodAll enc Try.prog W 0 (fun _ => true) true Try.f7.params.toList args.toList ds p := hA0
 rw [Try.params7] at hA hval
 obtain ⟨v0,vs0,d0,ds0,p0,q0,hargs,rfl,rfl,h0,r0⟩ := trodAll_cons hA
 obtain ⟨v1,vs1,d1,ds1,p1,q1,rfl,rfl,rfl,h1,r1⟩ := trodAll_cons r0
 obtain ⟨v2,vs2,d2,ds2,p2,q2,rfl,rfl,rfl,h2,r2⟩ := trodAll_cons r1
 obtain ⟨rfl,rfl,rfl⟩ := trodAll_nil r2
 obtain rfl : args = #[v0,v1,v2] := by cases args;simp_all
 obtain ⟨rfl,rfl⟩ := trodVars_none hV
 obtain ⟨a0,len0,cap0,rfl⟩ := okWide_slice Try.underlying54 (hval 0 54 v0 rfl rfl)
 obtain ⟨a1,len1,cap1,rfl⟩ := okWide_slice Try.underlying22 (hval 1 22 v1 rfl rfl)
 obtain ⟨a2,len2,cap2,rfl⟩ := okWide_slice Try.underlying23 (hval 2 23 v2 rfl rfl)
 have hb := of_decide_eq_true hk
 simp only [List.append_nil,List.nil_append,List.cons_append,Rows.uptoBulkAll] at hb
 have b0 : len0 ≤ 1048576 := by have := Z.bulk_slice Try.underlying54 h0;omega
 have b1 : len1 ≤ 1048576 := by have := Z.bulk_slice Try.underlying22 h1;omega
 have b2 : len2 ≤ 1048576 := by have := Z.bulk_slice Try.underlying23 h2;omega
 clear hb hk
 have k0 := h0
 have lt0 : ∀ x ∈ p0,x.block < W.heap.size := by obtain ⟨m,hm⟩ := k0;exact DataW.trod_lt m _ _ _ hm
 obtain ⟨l0,hK0,hG0⟩ : ∃ l,((Kd.slice 3 (Kd.int .i64)) : Kd (List Int)).K W l [.slice a0 len0 cap0] ∧ (l.length ≤ maxLen ∧ ∀ x ∈ l,(Lit.int .i64 x).wf = true) := by obtain ⟨fuel,hf⟩ := h0;exact (show OfTrod Try.prog 54 (Kd.slice 3 (Kd.int .i64)) _ from (ofTrod_slice Try.underlying54 (by kernel_rfl) (ofTrod_int Try.underlying3))) _ _ _ _ _ _ _ _ _ hf
 obtain ⟨A0,c0,he0,hl0,hC0⟩ := hK0
 simp only [List.cons.injEq,Value.slice.injEq,and_true] at he0
 obtain ⟨rfl,rfl,rfl⟩ := he0
 have k1 := h1
 have lt1 : ∀ x ∈ p1,x.block < W.heap.size := by obtain ⟨m,hm⟩ := k1;exact DataW.trod_lt m _ _ _ hm
 obtain ⟨l1,hK1,hG1⟩ : ∃ l,((Kd.slice 34 Z.k34) : Kd (List Z.S34)).K W l [.slice a1 len1 cap1] ∧ (l.length ≤ maxLen ∧ ∀ x ∈ l,Z.G34 x) := by obtain ⟨fuel,hf⟩ := h1;exact (show OfTrod Try.prog 22 (Kd.slice 34 Z.k34) _ from (ofTrod_slice Try.underlying22 (by kernel_rfl) Z.of34)) _ _ _ _ _ _ _ _ _ hf
 obtain ⟨A1,c1,he1,hl1,hC1⟩ := hK1
 simp only [List.cons.injEq,Value.slice.injEq,and_true] at he1
 obtain ⟨rfl,rfl,rfl⟩ := he1
 have k2 := h2
 have lt2 : ∀ x ∈ p2,x.block < W.heap.size := by obtain ⟨m,hm⟩ := k2;exact DataW.trod_lt m _ _ _ hm
 obtain ⟨l2,hK2,hG2⟩ : ∃ l,((Kd.slice 66 Z.k66) : Kd (List Z.S66)).K W l [.slice a2 len2 cap2] ∧ (l.length ≤ maxLen ∧ ∀ x ∈ l,Z.G66 x) := by obtain ⟨fuel,hf⟩ := h2;exact (show OfTrod Try.prog 23 (Kd.slice 66 Z.k66) _ from (ofTrod_slice Try.underlying23 (by kernel_rfl) Z.of66)) _ _ _ _ _ _ _ _ _ hf
 obtain ⟨A2,c2,he2,hl2,hC2⟩ := hK2
 simp only [List.cons.injEq,Value.slice.injEq,and_true] at he2
 obtain ⟨rfl,rfl,rfl⟩ := he2
 clear hA0 hval0
 have h := Z.indexPlays_pure l0 l1 l2 hG0 hG1 hG2 b0 b1 b2
 refine (Z.verdererlaw06_IndexPlays.calls _ _ l0 _ _ l1 _ _ l2 true W hC0 hl0 hC1 hl1 hC2 hl2 h).mono fun e W' ⟨he,bel⟩ => ?_
 subst he
 exact ⟨_,rfl,_,_,_,[],_,[],hW',trodAll_mk1 (shut_bool Try.underlying4 _),(trodAll_cons_mk (Below.trod laidOut (by kernel_rfl) (of_decide_eq_true (by kernel_rfl)) k0 bel lt0) (trodAll_cons_mk (Below.trod laidOut (by kernel_rfl) (of_decide_eq_true (by kernel_rfl)) k1 bel lt1) (trodAll_cons_mk (Below.trod laidOut (by kernel_rfl) (of_decide_eq_true (by kernel_rfl)) k2 bel lt2) trodAll_mk0))),rfl,bel.frame _,fun h => by cases h⟩
theorem over : Rows.indexPlaysUptoRow.holds Try.pinned (Rows.OpenSpec.upto Rows.indexPlaysSpec) :=
 OpenClaim.holds_of_cond 7 Try.f7 rfl rfl rfl rfl rfl rfl rfl ⟨rfl,rfl,rfl,rfl,rfl⟩ rfl rfl rfl rfl rfl (by kernel_rfl) Try.func7 (by kernel_rfl)
  (of_decide_eq_true (by kernel_rfl)) (by unfold Func.isWrapper;first | (rw [if_pos (by decide +kernel)];kernel_rfl) | (rw [if_neg (by decide +kernel)];exact ⟨rfl,rfl⟩))
  (fun os started H enc _ F => lifted os started H enc F)
theorem proved : Rows.IndexPlaysUptoSaid := over
#print axioms proved
end Go.Proofs.Ythmbfcfomcaaaaa.indexPlays
namespace Go.Proofs.Ythmbfcfomcaaaaa
theorem indexPlays_holds : Rows.IndexPlaysUptoSaid := indexPlays.proved
end Go.Proofs.Ythmbfcfomcaaaaa
