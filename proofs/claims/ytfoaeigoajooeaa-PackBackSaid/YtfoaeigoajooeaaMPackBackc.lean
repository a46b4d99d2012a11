/- Parts of the proof of PackBack: what its functions answer. -/
import Derived.Test.YtfoaeigoajooeaaMPackBacka
import Derived.Test.YtfoaeigoajooeaaMPackBackb
import Derived.Deep.Slices
import Derived.ProofKit
section
namespace Go.Proofs.Ytfoaeigoajooeaa.Z
open Go.RowKit Go.Proofs.YtfoaeigoajooeaaW.PrintWords Go.Proofs.YtfoaeigoajooeaaW.PrintLast Go.Proofs.YtfoaeigoajooeaaW.PrintMore
attribute [local go_sem] max2_int min2_int max_two min_two max_three min_three max_four min_four
set_option linter.unusedVariables false
set_option linter.unusedSimpArgs false
def pack_Back.l0 : Nat → List Int → List (S50) → Option ((List (S50)) × Int)
  | 0,_,_ => none
  | k + 1,x0,x4 => if (x0.length : Int) > 0 then (if 0 < (x0.length : Int) then (if (rd x0 0) = 0 then (if (x0.length : Int) > 1 then (some (([] : List (S50)),7)) else (some (x4,0))) else ((pack_First.f k x0).bind fun bt498 => (if bt498.2.2.2.2.2 = 0 then (if x4.length < 3518437208883 then (if 0 ≤ bt498.2.2.2.2.1 then (if bt498.2.2.2.2.1 ≤ (x0.length : Int) then (pack_Back.l0 k (x0.drop (bt498.2.2.2.2.1 : Int).toNat) (x4 ++ [(⟨bt498.1,bt498.2.1,bt498.2.2.1,bt498.2.2.2.1⟩ : S50)])) else (none)) else (none)) else (none)) else (some (([] : List (S50)),bt498.2.2.2.2.2))))) else (none)) else (some (([] : List (S50)),8))
def pack_Back.f (k : Nat) (l0 : List Int) : Option ((List (S50)) × Int) := pack_Back.l0 k l0 ([] : List (S50))
theorem pack_Back.mono_l : ∀ k,(∀ y0 y1,LeO (pack_Back.l0 k y0 y1) (pack_Back.l0 (k + 1) y0 y1))
  | 0 => fun _ _ r h => by simp [pack_Back.l0] at h
  | k + 1 => by
    have ih0 := pack_Back.mono_l k
    · intro y0 y1
      unfold pack_Back.l0
      repeat' first
      | (with_reducible exact ih0 _ _)
      | (with_reducible exact pack_First.mono _ _)
      | (with_reducible exact LeO.refl _)
      | (with_reducible exact LeO.none _)
      | (with_reducible refine LeO.ite ?_ ?_)
      | (with_reducible refine LeO.bind ?_ (fun _ => ?_))
      | exact ih0 _ _
      | exact pack_First.mono _ _
      | exact LeO.none _
      | refine LeO.ite ?_ ?_
      | refine LeO.bind ?_ (fun _ => ?_)
theorem pack_Back.mono : ∀ a0 k,LeO (pack_Back.f k a0) (pack_Back.f (k + 1) a0) := by
  intro a0 k
  have ih0 := pack_Back.mono_l k
  unfold pack_Back.f
  repeat' first
      | (with_reducible exact ih0 _ _)
      | (with_reducible exact pack_First.mono _ _)
      | (with_reducible exact LeO.refl _)
      | (with_reducible exact LeO.none _)
      | (with_reducible refine LeO.ite ?_ ?_)
      | (with_reducible refine LeO.bind ?_ (fun _ => ?_))
      | exact ih0 _ _
      | exact pack_First.mono _ _
      | exact LeO.none _
      | refine LeO.ite ?_ ?_
      | refine LeO.bind ?_ (fun _ => ?_)
def pack_Back.T10 : Bool × List (List Nat × List Nat) := (true,[([],[]),([],[]),([1],[1]),([0,2],[0,2]),([],[]),([],[]),([4,5],[4,5]),([3,3,0,1,2,3],[0,3]),([6,7,0,1,2,3,4,5,6,7],[4,6])])
def pack_Back.B10 : List Nat := [0,0,2,7,0,0,48,15,255]
theorem pack_Back.tab10 : rtab .any (opsOf Try.f39 10) = pack_Back.T10 := by kernel_rfl
theorem pack_Back.bits10 : waitsOk pack_Back.T10.2 pack_Back.B10 = true := by kernel_rfl
set_option maxHeartbeats 8000000 in
set_option maxRecDepth 100000 in
theorem pack_Back.calls (k : Nat) (P0_ : Nat → Prop) (A0 : Option Addr) (c0 : Nat) (l0 : List Int) (r1 : List (S50)) (r2 : Int) (w : World) (hs0 : Kd.V (Kd.int .u8) 5 w w.heap.size (fun k_ => P0_ k_) (.slice A0 l0.length c0) l0) (h : pack_Back.f k l0 = some (r1,r2)) :
    Calls Try.prog 39 #[.slice A0 l0.length c0] w fun e w' => ∃ v0_ : Value,e = .returned (.tuple #[v0_,.int .i64 r2]) ∧ Kd.R k50 50 w' w.heap.size (fun k_ => (w.heap.size ≤ k_)) v0_ r1 ∧ Below w.heap.size w w' := by
  have hu50 := Try.underlying50
  have HO0 := Aside0.mk (show Kd.V (Kd.int .u8) 5 w w.heap.size (fun k_ => (P0_ k_ ∨ w.heap.size ≤ k_)) (.slice A0 l0.length c0) l0 from Kd.V_mono hs0 (fun k_ hk => .inl hk))
  have HB := Aside0.mk (Below.refl w.heap.size w)
  have H : (pack_Back.l0 k l0 ([] : List (S50))) = some (r1,r2) := h
  clear h
  have H' := Aside0.mk H
  clear H
  go_enter Try.func39,Try.ntmps39
  go_wp2
  go_loopg [0,4] k (fun kq v0 v4 w' => ∃ (x0_1 : List Int) (x4_1 : List (S50)),Aside0 (pack_Back.l0 kq x0_1 x4_1 = some (r1,r2)) ∧ Aside0 (kq ≤ k) ∧ Aside0 (Kd.V (Kd.int .u8) 5 w' w.heap.size (fun k_ => (P0_ k_ ∨ w.heap.size ≤ k_) ∧ some k_ ≠ (v4 : Value).ownBlock) v0 x0_1) ∧ Aside0 (Kd.R k50 50 w' w.heap.size (fun k_ => (w.heap.size ≤ k_)) v4 x4_1) ∧ Aside0 (Below w.heap.size w w'))
  case atStart => exact ⟨(l0),(([] : List (S50))),H',⟨Nat.le_refl _⟩,⟨by (with_reducible repeat (first | apply Kd.V_alloc | apply Kd.V_drewN | apply Kd.V_drew));exact Kd.V_mono HO0.out (fun _ hk => ⟨hk,(by simp [Value.ownBlock])⟩)⟩,⟨by first | exact Kd.R_nil _ _ _ _ _ | exact Kd.N_nil _ _ _ _ _ | exact Kd.V_nil _ _ _ _ _ | exact Kd.Q_nil _ _ _ _ _ | exact Kd.S_nil _ _ _ _ _⟩,⟨by repeat (first | (with_reducible first | exact HB.out | apply below_alloc | apply pw_below_drewN | apply below_drew1) | exact HB.out)⟩⟩
  case round =>
    clear H'
    obtain ⟨x0_1,x4_1,HA,HK1,HO_0,HO_4,HB⟩ := hrel
    cases gk with
    | zero => exact absurd HA.out (by simp [pack_Back.l0])
    | succ k1 =>
      have H := HA.out
      clear HA
      simp only [pack_Back.l0] at H
      by_cases c2 : (x0_1.length : Int) > 0
      · rw [if_pos c2] at H
        have c2b0 : decide (0 < (x0_1.length : Int)) = true := decide_eq_true c2
        have c2b1 : decide (0 < x0_1.length) = true := decide_eq_true (by omega)
        clear c2
        by_cases c3 : 0 < (x0_1.length : Int)
        · rw [if_pos c3] at H
          have c3b0 : decide (0 < (x0_1.length : Int)) = true := decide_eq_true c3
          have c3b1 : decide (0 < x0_1.length) = true := decide_eq_true (by omega)
          clear c3
          by_cases c4 : (rd x0_1 0) = 0
          · rw [if_pos c4] at H
            have c4b0 : ((rd x0_1 0) == 0) = true := beq_iff_eq.mpr c4
            have c4b1 : ((rd x0_1 0) != 0) = false := bne_eq_false_iff_eq.mpr c4
            clear c4
            by_cases c5 : (x0_1.length : Int) > 1
            · rw [if_pos c5] at H
              have c5b0 : decide (1 < (x0_1.length : Int)) = true := decide_eq_true c5
              have c5b1 : decide (1 < x0_1.length) = true := decide_eq_true (by omega)
              clear c5
              simp only [Option.some.injEq,Prod.mk.injEq] at H
              obtain ⟨rfl,rfl⟩ := H
              obtain ⟨Ao6,co6,eo6⟩ := Kd.V_slice HO_0.out
              subst eo6
              have p497 : 0 ≤ (0 : Int) := (by omega)
              have q497 : 0 < (x0_1.length : Int) := of_decide_eq_true (by first | (with_reducible assumption) | assumption)
              obtain ⟨ad497,e497,hx497_0⟩ := Kd.at_int (Kd.V_reads' HO_0.out).2.2 0 p497 q497
              cases e497
              have qi497 : (0 < x0_1.length) = True := eq_true (by omega)
              (try rw [show ((0 : Int)).toNat = 0 from rfl] at hx497_0)
              (try rw [Addr.add_zero'] at hx497_0)
              replace p497 := eq_true p497
              replace q497 := eq_true q497
              go_wp2
              go_ret2
              exact ⟨_,by first | rfl | (simp [errW_none,errW_some] <;> rfl) | (simp [*,errW_none,errW_some] <;> rfl),by first | exact Kd.R_nil _ _ _ _ _ | exact Kd.N_nil _ _ _ _ _ | exact Kd.V_nil _ _ _ _ _ | exact Kd.Q_nil _ _ _ _ _ | exact Kd.S_nil _ _ _ _ _,by repeat (first | (with_reducible first | exact HB.out | apply below_alloc | apply pw_below_drewN | apply below_drew1) | exact HB.out)⟩
            · rw [if_neg c5] at H
              have c5b0 : decide (1 < (x0_1.length : Int)) = false := decide_eq_false c5
              have c5b1 : decide (1 < x0_1.length) = false := decide_eq_false (by omega)
              clear c5
              simp only [Option.some.injEq,Prod.mk.injEq] at H
              obtain ⟨rfl,rfl⟩ := H
              obtain ⟨Ao7,co7,eo7⟩ := Kd.V_slice HO_0.out
              subst eo7
              have p497 : 0 ≤ (0 : Int) := (by omega)
              have q497 : 0 < (x0_1.length : Int) := of_decide_eq_true (by first | (with_reducible assumption) | assumption)
              obtain ⟨ad497,e497,hx497_0⟩ := Kd.at_int (Kd.V_reads' HO_0.out).2.2 0 p497 q497
              cases e497
              have qi497 : (0 < x0_1.length) = True := eq_true (by omega)
              (try rw [show ((0 : Int)).toNat = 0 from rfl] at hx497_0)
              (try rw [Addr.add_zero'] at hx497_0)
              replace p497 := eq_true p497
              replace q497 := eq_true q497
              go_wp2
              go_ret2
              exact ⟨_,by first | rfl | (simp [errW_none,errW_some] <;> rfl) | (simp [*,errW_none,errW_some] <;> rfl),by (with_reducible repeat (first | apply Kd.R_alloc | apply Kd.R_drewN | apply Kd.R_drew));exact HO_4.out,by repeat (first | (with_reducible first | exact HB.out | apply below_alloc | apply pw_below_drewN | apply below_drew1) | exact HB.out)⟩
          · rw [if_neg c4] at H
            have c4b0 : ((rd x0_1 0) == 0) = false := beq_eq_false_iff_ne.mpr c4
            have c4b1 : ((rd x0_1 0) != 0) = true := bne_iff_ne.mpr c4
            replace H := Option.bind_eq_some_iff.mp H
            obtain ⟨⟨t498,t499,t500,t501,t502,t503⟩,A80,H⟩ := H
            replace H : (if t503 = 0 then (if x4_1.length < 3518437208883 then (if 0 ≤ t502 then (if t502 ≤ (x0_1.length : Int) then (pack_Back.l0 k1 (x0_1.drop (t502 : Int).toNat) (x4_1 ++ [(⟨t498,t499,t500,t501⟩ : S50)])) else (none)) else (none)) else (none)) else (some (([] : List (S50)),t503))) = some (r1,r2) := H
            have A8 := Aside0.mk A80
            clear A80
            by_cases c9 : t503 = 0
            · rw [if_pos c9] at H
              have c9b0 : (t503 == 0) = true := beq_iff_eq.mpr c9
              have c9b1 : (t503 != 0) = false := bne_eq_false_iff_eq.mpr c9
              clear c9
              by_cases c10 : x4_1.length < 3518437208883
              · rw [if_pos c10] at H
                have LMc10 := Aside0.mk c10
                clear c10
                obtain ⟨y505,hy505⟩ : ∃ y_ : List (S50),y_ = (x4_1 ++ [(⟨t498,t499,t500,t501⟩ : S50)]) := ⟨_,rfl⟩
                replace H : (if 0 ≤ t502 then (if t502 ≤ (x0_1.length : Int) then (pack_Back.l0 k1 (x0_1.drop (t502 : Int).toNat) y505) else (none)) else (none)) = some (r1,r2) := by first | (rw [hy505];with_reducible exact H) | (have H2_ := (Option.bind_some _ _).symm.trans H;rw [hy505];with_reducible exact H2_) | (have H2_ := (Option.bind_some _ _).symm.trans H;with_reducible exact H2_) | with_reducible exact H | (rw [hy505];exact H) | exact H
                have Ny505 := Aside0.mk hy505
                clear hy505
                by_cases c11 : 0 ≤ t502
                · rw [if_pos c11] at H
                  have c11b0 := eq_true c11
                  have c11b1 : decide (0 ≤ t502) = true := decide_eq_true c11
                  clear c11
                  by_cases c12 : t502 ≤ (x0_1.length : Int)
                  · rw [if_pos c12] at H
                    have c12b0 := eq_true c12
                    have c12b1 : decide (t502 ≤ (x0_1.length : Int)) = true := decide_eq_true c12
                    clear c12
                    obtain ⟨y508,hy508⟩ : ∃ y_ : List Int,y_ = (x0_1.drop (t502 : Int).toNat) := ⟨_,rfl⟩
                    replace H : (pack_Back.l0 k1 y508 y505) = some (r1,r2) := by first | (rw [hy508];with_reducible exact H) | (have H2_ := (Option.bind_some _ _).symm.trans H;rw [hy508];with_reducible exact H2_) | (have H2_ := (Option.bind_some _ _).symm.trans H;with_reducible exact H2_) | with_reducible exact H | (rw [hy508];exact H) | exact H
                    have Ny508 := Aside0.mk hy508
                    clear hy508
                    have H' := Aside0.mk H
                    clear H
                    obtain ⟨Ao13,co13,eo13⟩ := Kd.V_slice HO_0.out
                    subst eo13
                    have p497 : 0 ≤ (0 : Int) := (by omega)
                    have q497 : 0 < (x0_1.length : Int) := of_decide_eq_true (by first | (with_reducible assumption) | assumption)
                    obtain ⟨ad497,e497,hx497_0⟩ := Kd.at_int (Kd.V_reads' HO_0.out).2.2 0 p497 q497
                    cases e497
                    have qi497 : (0 < x0_1.length) = True := eq_true (by omega)
                    (try rw [show ((0 : Int)).toNat = 0 from rfl] at hx497_0)
                    (try rw [Addr.add_zero'] at hx497_0)
                    replace p497 := eq_true p497
                    replace q497 := eq_true q497
                    try go_wp2_with (first | ((with_reducible refine gate_callee (f := 37) rfl ?_);refine goesL_ (some 21) rfl rfl Try.func37 (by kernel_rfl) rfl #[.slice (some ad497) x0_1.length co13] rfl (by (try simp only [List.map_toArray,List.map_cons,List.map_nil]);first | done | rfl | (simp only [List.length_drop,List.length_take];rfl)) ?_;(with_reducible refine (pack_First.calls k1 _ _ x0_1 t498 t499 t500 t501 t502 t503 _ ?side1 ?side2 A8.out).mono ?_);(case side1 => repeat (first | exact (Kd.V_reads' HO_0.out).2.2 | (with_reducible refine Kd.C_alloc ?_ _) | (with_reducible refine Kd.C_drewN ?_ _) | (with_reducible refine Kd.C_drew ?_)));(case side2 => exact (Kd.V_reads' HO_0.out).2.1);rintro e w14 ⟨rfl,hb⟩;refine ⟨_,rfl,?_⟩;have n0_ := Aside0.mk (Kd.V_below (by (with_reducible repeat (first | apply Kd.V_alloc | apply Kd.V_drewN | apply Kd.V_drew));exact HO_0.out) hb);have n1_ := Aside0.mk (Kd.R_below (by (with_reducible repeat (first | apply Kd.R_alloc | apply Kd.R_drewN | apply Kd.R_drew));exact HO_4.out) hb);have n2_ := Aside0.mk (below_step (by repeat (first | (with_reducible first | exact HB.out | apply below_alloc | apply pw_below_drewN | apply below_drew1) | exact HB.out)) hb);clear HO_0;clear HO_4;clear HB;have HO_0 := n0_;have HO_4 := n1_;have HB := n2_;clear n0_ n1_ n2_;(try clear hb);(try clear hb2);(try clear hk);(try clear hi)) | ((with_reducible refine gate_dst (N := 5) rfl ?_);refine box_event ?hg (N := 5) ?hd (cs := #[.int .i64 0,.bool false,.int .i64 0,.string (⟨#[]⟩ : ByteArray)]) (t := 50) ?hr ?_;(case hd => rfl);(case hg => rfl);(case hr => first | (go_simp;done) | (go_simp;rfl));intro gb504 hg w15 hbox hb;have n0_ := Aside0.mk (Kd.V_below (Kd.V_elderB (by (with_reducible repeat (first | apply Kd.V_alloc | apply Kd.V_drewN | apply Kd.V_drew));exact HO_0.out) gb504 (Nat.le_of_eq hg.symm)) hb);have n1_ := Aside0.mk (Kd.R_below (Kd.R_elderB (by (with_reducible repeat (first | apply Kd.R_alloc | apply Kd.R_drewN | apply Kd.R_drew));exact HO_4.out) gb504 (Nat.le_of_eq hg.symm)) hb);have n2_ := Aside0.mk (below_step (by repeat (first | (with_reducible first | exact HB.out | apply below_alloc | apply pw_below_drewN | apply below_drew1) | exact HB.out)) hb);have n3_ := Aside0.mk (hbox);have n4_ := Aside0.mk ((by rw [hg];exact (below_size (by repeat (first | (with_reducible first | exact HB.out | apply below_alloc | apply pw_below_drewN | apply below_drew1) | exact HB.out))) : w.heap.size ≤ gb504));have n5_ := Aside0.mk ((by rw [hg];exact (below_size (by repeat (first | (with_reducible first | exact HB.out | apply below_alloc | apply pw_below_drewN | apply below_drew1) | exact HB.out))) : w.heap.size ≤ gb504));clear HO_0;clear HO_4;clear HB;have HO_0 := n0_;have HO_4 := n1_;have HB := n2_;have BK504 := n3_;have GW504 := n4_;have GE504 := n5_;clear n0_ n1_ n2_ n3_ n4_ n5_;clear hb hbox hg;have hcz16_0 : w15.cell? ⟨gb504,0,none⟩ = some (.int .i64 0) := (blk_cell BK504.out 0).trans rfl;have hcz16_1 : w15.cell? ⟨gb504,1,none⟩ = some (.bool false) := (blk_cell BK504.out 1).trans rfl;have hcz16_2 : w15.cell? ⟨gb504,2,none⟩ = some (.int .i64 0) := (blk_cell BK504.out 2).trans rfl;have hcz16_3 : w15.cell? ⟨gb504,3,none⟩ = some (.string (⟨#[]⟩ : ByteArray)) := (blk_cell BK504.out 3).trans rfl;have hfz16_0 := blk_frozen BK504.out 0;have hfz16_1 := blk_frozen BK504.out 1;have hfz16_2 := blk_frozen BK504.out 2;have hfz16_3 := blk_frozen BK504.out 3))
                    have n0_ : Aside0 (Kd.V (Kd.int .u8) 5 ((((w15.setCell ⟨gb504,0,none⟩ (.int .i64 t498)).setCell ⟨gb504,1,none⟩ (.bool t499)).setCell ⟨gb504,2,none⟩ (.int .i64 t500)).setCell ⟨gb504,3,none⟩ (.string t501)) w.heap.size (fun k_ => (P0_ k_ ∨ w.heap.size ≤ k_) ∧ some k_ ≠ (u4 : Value).ownBlock ∧ k_ ≠ gb504) (.slice (some ad497) x0_1.length co13) x0_1) := ⟨by (with_reducible repeat (first | apply Kd.V_alloc | apply Kd.V_drewN | apply Kd.V_drew));exact Kd.V_mono (Kd.V_far (p := ⟨gb504,3,none⟩) (Kd.V_far (p := ⟨gb504,2,none⟩) (Kd.V_far (p := ⟨gb504,1,none⟩) (Kd.V_far (p := ⟨gb504,0,none⟩) (Kd.V_mono HO_0.out (fun k_ hk => (⟨hk,hk.2⟩ : _ ∧ k_ ≠ gb504))) (fun _ hk => hk.2) (.int .i64 t498)) (fun _ hk => hk.2) (.bool t499)) (fun _ hk => hk.2) (.int .i64 t500)) (fun _ hk => hk.2) (.string t501)) (fun _ hk => ⟨hk.1.1.1,⟨hk.1.1.2,hk.1.2⟩⟩)⟩
                    have n1_ : Aside0 (Kd.R k50 50 ((((w15.setCell ⟨gb504,0,none⟩ (.int .i64 t498)).setCell ⟨gb504,1,none⟩ (.bool t499)).setCell ⟨gb504,2,none⟩ (.int .i64 t500)).setCell ⟨gb504,3,none⟩ (.string t501)) w.heap.size (fun k_ => (w.heap.size ≤ k_) ∧ k_ ≠ gb504) u4 x4_1) := ⟨by (with_reducible repeat (first | apply Kd.R_alloc | apply Kd.R_drewN | apply Kd.R_drew));exact Kd.R_mono (Kd.R_far (p := ⟨gb504,3,none⟩) (Kd.R_far (p := ⟨gb504,2,none⟩) (Kd.R_far (p := ⟨gb504,1,none⟩) (Kd.R_far (p := ⟨gb504,0,none⟩) (Kd.R_mono HO_4.out (fun k_ hk => (⟨hk,hk.2⟩ : _ ∧ k_ ≠ gb504))) (fun _ hk => hk.2) (.int .i64 t498)) (fun _ hk => hk.2) (.bool t499)) (fun _ hk => hk.2) (.int .i64 t500)) (fun _ hk => hk.2) (.string t501)) (fun _ hk => ⟨hk.1.1,hk.1.2⟩)⟩
                    have n2_ : Aside0 (((((w15.setCell ⟨gb504,0,none⟩ (.int .i64 t498)).setCell ⟨gb504,1,none⟩ (.bool t499)).setCell ⟨gb504,2,none⟩ (.int .i64 t500)).setCell ⟨gb504,3,none⟩ (.string t501)).heap[gb504]? = some (.cells #[.int .i64 t498,.bool t499,.int .i64 t500,.string t501] 50 (0,0))) := ⟨by (with_reducible repeat (first | refine blk_drewN ?_ _ | refine blk_drew ?_ | refine blk_alloc ?_ _));refine blk_put (cs := #[.int .i64 t498,.bool t499,.int .i64 t500,.string (⟨#[]⟩ : ByteArray)]) ?_ 3 _ rfl;(with_reducible repeat (first | refine blk_drewN ?_ _ | refine blk_drew ?_ | refine blk_alloc ?_ _));refine blk_put (cs := #[.int .i64 t498,.bool t499,.int .i64 0,.string (⟨#[]⟩ : ByteArray)]) ?_ 2 _ rfl;(with_reducible repeat (first | refine blk_drewN ?_ _ | refine blk_drew ?_ | refine blk_alloc ?_ _));refine blk_put (cs := #[.int .i64 t498,.bool false,.int .i64 0,.string (⟨#[]⟩ : ByteArray)]) ?_ 1 _ rfl;(with_reducible repeat (first | refine blk_drewN ?_ _ | refine blk_drew ?_ | refine blk_alloc ?_ _));refine blk_put (cs := #[.int .i64 0,.bool false,.int .i64 0,.string (⟨#[]⟩ : ByteArray)]) ?_ 0 _ rfl;(with_reducible repeat (first | refine blk_drewN ?_ _ | refine blk_drew ?_ | refine blk_alloc ?_ _));exact BK504.out⟩
                    have n3_ : Aside0 (Below w.heap.size w ((((w15.setCell ⟨gb504,0,none⟩ (.int .i64 t498)).setCell ⟨gb504,1,none⟩ (.bool t499)).setCell ⟨gb504,2,none⟩ (.int .i64 t500)).setCell ⟨gb504,3,none⟩ (.string t501))) := ⟨by repeat (first | (with_reducible first | exact HB.out | apply below_alloc | apply pw_below_drewN | apply below_drew1 | refine below_set ?_ GE504.out) | exact HB.out)⟩
                    (try clear HO_0)
                    (try clear HO_4)
                    (try clear BK504)
                    (try clear HB)
                    generalize ((((w15.setCell ⟨gb504,0,none⟩ (.int .i64 t498)).setCell ⟨gb504,1,none⟩ (.bool t499)).setCell ⟨gb504,2,none⟩ (.int .i64 t500)).setCell ⟨gb504,3,none⟩ (.string t501)) = w17 at n0_ n1_ n2_ n3_ ⊢
                    have HO_0 := n0_
                    have HO_4 := n1_
                    have BK504 := n2_
                    have HB := n3_
                    clear n0_ n1_ n2_ n3_
                    have n0_ := Aside0.mk (Kd.V_drew HO_0.out)
                    have n1_ := Aside0.mk (Kd.R_drew HO_4.out)
                    have n2_ := Aside0.mk (blk_drew BK504.out)
                    have n3_ := Aside0.mk (below_drew1 HB.out)
                    clear HO_0
                    clear HO_4
                    clear BK504
                    clear HB
                    have HO_0 := n0_
                    have HO_4 := n1_
                    have BK504 := n2_
                    have HB := n3_
                    clear n0_ n1_ n2_ n3_
                    have q19 : (t502 : Int) ≤ ((x0_1.length : Int) : Int) := of_decide_eq_true (by first | (with_reducible assumption) | assumption)
                    obtain ⟨i019,hi019,_,hsz19,_⟩ := info_parts info5
                    have hroom19 : x0_1.length ≤ co13 := (Kd.V_reads' HO_0.out).2.1
                    have hC19 : Kd.F (Kd.int .u8) _ _ (some ad497) x0_1.length x0_1 := (Kd.V_at (base := w.heap.size) HO_0.out).2.2
                    have q019 : (0 : Int) ≤ (t502 : Int) := of_decide_eq_true (by first | (with_reducible assumption) | assumption)
                    have hcut19 := cut_from (P := Try.prog) 47 5 .i64 Try.underlying47 hi019 1 hsz19 (some ad497) x0_1.length co13 t502 q019 q19
                    have hr19 := Kd.F_cut (m := (t502 : Int).toNat) (c := co13) hC19 (by omega) hroom19
                    obtain ⟨A19,hA19⟩ : ∃ A1,A1 = (if co13 = (t502 : Int).toNat then (some ad497) else ((some ad497) : Option Addr).map (·.add ((t502 : Int).toNat * 1))) := ⟨_,rfl⟩
                    obtain ⟨c19,hc19⟩ : ∃ c1,c1 = co13 - (t502 : Int).toNat := ⟨_,rfl⟩
                    have hy19 : y508.length = x0_1.length - (t502 : Int).toNat := (by rw [Ny508.out,List.length_drop] <;> omega)
                    rw [show (x0_1).drop (t502 : Int).toNat = y508 from Ny508.out.symm] at hr19
                    replace hr19 : Kd.F (Kd.int .u8) _ _ A19 y508.length y508 := (by rw [hA19];exact hr19)
                    rw [← hy19,← hA19,← hc19] at hcut19
                    have HO512 := Aside0.mk (show Kd.V (Kd.int .u8) 5 _ w.heap.size _ (.slice A19 y508.length c19) y508 from Kd.V_mk (by rw [hy19,hc19];exact Nat.sub_le_sub_right hroom19 _) hr19)
                    have HC512 := Aside0.mk (show y508.length ≤ c19 from by rw [hy19,hc19];exact Nat.sub_le_sub_right hroom19 _)
                    clear hr19 hC19 hroom19 hi019 hsz19 hc19
                    have KY19 := Aside0.mk hy19
                    have KA19 := Aside0.mk hA19
                    clear hy19 hA19
                    replace q19 := eq_true q19
                    refine start_ (n := 9) (S := fun w' => w'.cell? ⟨gb504,0,none⟩ = some (.int .i64 t498) ∧ w'.cell? ⟨gb504,1,none⟩ = some (.bool t499) ∧ w'.cell? ⟨gb504,2,none⟩ = some (.int .i64 t500) ∧ w'.cell? ⟨gb504,3,none⟩ = some (.string t501)) (ds := []) #[false,false,false,false,false,false,false,false,false] (by kernel_rfl) rfl rfl ⟨(blk_cell BK504.out 0).trans rfl,(blk_cell BK504.out 1).trans rfl,(blk_cell BK504.out 2).trans rfl,(blk_cell BK504.out 3).trans rfl⟩ (fun hHeld => ?_);refine with_tabW pack_Back.tab10 pack_Back.bits10 (fun HT_ HW_ => ?_)
                    generalize w17.drew = w18 at HO_0 HO_4 BK504 HB HO512 hHeld ⊢
                    refine pure_ (i := 0) (N := some 28) (v := ?_) (a' := ?_) #[true,false,false,false,false,false,false,false,false] rfl rfl (any_of HT_.out (by kernel_rfl)) (fun _ _ _ h => h) (Or.inl ⟨by rfl,?_⟩) ?_ ?_
                    rotate_left
                    · intro w'
                      go_simp
                      with_reducible rfl
                    rotate_left
                    · simp only [Act.put,zA,zB,zC,i64_w,i32_w]
                      rfl
                    refine pure_ (i := 4) (N := some 32) (v := ?_) (a' := ?_) #[true,false,false,false,true,false,false,false,false] rfl rfl (any_of HT_.out (by kernel_rfl)) (fun _ _ _ h => h) (Or.inl ⟨by rfl,?_⟩) ?_ ?_
                    rotate_left
                    · intro w'
                      go_simp
                      with_reducible rfl
                    rotate_left
                    · simp only [Act.put,zA,zB,zC,i64_w,i32_w]
                      rfl
                    refine pure_ (i := 5) (N := some 33) (v := ?_) (a' := ?_) #[true,false,false,false,true,true,false,false,false] rfl rfl (any_of HT_.out (by kernel_rfl)) (fun _ _ _ h => h) (Or.inl ⟨by rfl,?_⟩) ?_ ?_
                    rotate_left
                    · intro w'
                      go_simp
                      with_reducible rfl
                    rotate_left
                    · simp only [Act.put,zA,zB,zC,i64_w,i32_w]
                      rfl
                    refine pure_ (i := 6) (N := some 34) (v := ?_) (a' := ?_) #[true,false,false,false,true,true,true,false,false] rfl rfl (any_of HT_.out (by kernel_rfl)) (fun _ _ _ h => h) (Or.inl ⟨by rfl,?_⟩) ?_ ?_
                    rotate_left
                    · intro w'
                      go_simp
                      with_reducible rfl
                    rotate_left
                    · simp only [Act.put,zA,zB,zC,i64_w,i32_w]
                      rfl
                    refine take_ (i := 1) (N := some 29) (v := ?_) (a' := ?_) #[true,true,false,false,true,true,true,false,false] rfl rfl (take_ofW HT_.out HW_.out (by kernel_rfl)) (fun _ _ _ h => h) (Or.inl ⟨by rfl,?_⟩) hHeld ?_ ?_
                    rotate_left
                    · rintro w' ⟨s0,s1,s2,s3⟩
                      go_simp
                      with_reducible rfl
                    rotate_left
                    · simp only [Act.put,zA,zB,zC,i64_w,i32_w]
                      rfl
                    refine one_ (i := 2) (N := some 30) #[true,true,true,false,true,true,true,false,false] rfl rfl (one_of HT_.out (by kernel_rfl)) (by decide) (fun K hK => ?_)
                    refine value_ (w1 := ?_) (v := ?_) (by rfl) rfl ?_ ?_
                    rotate_left 2
                    · go_simp
                      constructor
                      · rfl
                      · rfl
                    refine hK.out _ _ ⟨(blk_cell (blk_alloc BK504.out _) 0).trans rfl,(blk_cell (blk_alloc BK504.out _) 1).trans rfl,(blk_cell (blk_alloc BK504.out _) 2).trans rfl,(blk_cell (blk_alloc BK504.out _) 3).trans rfl⟩ (fun hHeld => ?_)
                    clear hK K
                    refine norm_ (a' := ?_) ?_ ?_
                    rotate_left
                    · show Act.put _ (some 30) _ = _
                      simp only [Act.put,zA,zB,zC,i64_w,i32_w]
                      rfl
                    refine one_ (i := 3) (N := some 31) #[true,true,true,true,true,true,true,false,false] rfl rfl (one_of HT_.out (by kernel_rfl)) (by decide) (fun K hK => ?_)
                    refine Kd.R_append_step k50 (w0 := w) w.heap.size (by rfl) (.tmp 28) (.tmp 30) 22 50 (.agg #[(.int .i64 0),(.bool false),(.int .i64 0),(.string ⟨#[]⟩)]) 40 rfl Try.underlying22 info50 rfl (by decide) (by omega) u4 x4_1 (⟨t498,t499,t500,t501⟩ : S50) [.int .i64 t498,.bool t499,.int .i64 t500,.string t501] (fun k_ => (w.heap.size ≤ k_) ∧ k_ ≠ gb504) (fun _ => False) rfl rfl ?aP (fun _ hk => hk.elim) ?aF ?aO ?aB ?aS ?aL ?_
                    (case aP => exact k50_mkM _ _ _ (⟨t498,t499,t500,t501⟩ : S50))
                    (case aB => exact (by repeat (first | (with_reducible first | exact HB.out | apply below_alloc | apply pw_below_drewN | apply below_drew1 | refine below_set ?_ GE504.out) | exact HB.out)))
                    (case aF => exact (fun k_ hk => ⟨(Nat.le_trans (below_size (by repeat (first | (with_reducible first | exact HB.out | apply below_alloc | apply pw_below_drewN | apply below_drew1 | refine below_set ?_ GE504.out) | exact HB.out))) hk),Kd.freshB (g := gb504) (o := .cells #[.int .i64 t498,.bool t499,.int .i64 t500,.string t501] 50 (0,0)) (by (with_reducible repeat (first | refine blk_drewN ?_ _ | refine blk_drew ?_ | refine blk_alloc ?_ _));exact BK504.out) k_ hk⟩))
                    (case aO => exact (by (with_reducible repeat (first | apply Kd.R_alloc | apply Kd.R_drewN | apply Kd.R_drew));exact HO_4.out))
                    (case aS => exact (below_size (by repeat (first | (with_reducible first | exact HB.out | apply below_alloc | apply pw_below_drewN | apply below_drew1 | refine below_set ?_ GE504.out) | exact HB.out))))
                    (case aL => have := LMc10.out;omega)
                    intro v506 w20 ho hb hg hat
                    rw [← Ny505.out] at ho
                    have n0_ := Aside0.mk (Kd.V_afterv (ok := (fun k_ => (P0_ k_ ∨ w.heap.size ≤ k_) ∧ k_ ≠ gb504)) (by (with_reducible repeat (first | apply Kd.V_alloc | apply Kd.V_drewN | apply Kd.V_drew));exact Kd.V_mono HO_0.out (fun _ hk => ⟨⟨hk.1,hk.2.2⟩,hk.2.1⟩)) hg hat)
                    have n1_ := Aside0.mk (blk_grown (g := gb504) (o := .cells #[.int .i64 t498,.bool t499,.int .i64 t500,.string t501] 50 (0,0)) (by (with_reducible repeat (first | refine blk_drewN ?_ _ | refine blk_drew ?_ | refine blk_alloc ?_ _));exact BK504.out) hg (Kd.R_away HO_4.out (fun _ hk => hk.2)))
                    have n2_ := Aside0.mk (Kd.V_afterv (ok := (fun k_ => (P0_ k_ ∨ w.heap.size ≤ k_) ∧ k_ ≠ gb504)) (by (with_reducible repeat (first | apply Kd.V_alloc | apply Kd.V_drewN | apply Kd.V_drew));exact Kd.V_mono HO512.out (fun _ hk => ⟨⟨hk.1,hk.2.2⟩,hk.2.1⟩)) hg hat)
                    have n3_ := Aside0.mk (hb)
                    have n4_ := Aside0.mk (ho)
                    clear HO_0
                    clear BK504
                    clear HO512
                    clear HB
                    clear HO_4
                    have HO_0 := n0_
                    have BK504 := n1_
                    have HO512 := n2_
                    have HB := n3_
                    have HO507 := n4_
                    clear n0_ n1_ n2_ n3_ n4_
                    clear ho hb hg hat
                    refine hK.out _ _ ⟨(blk_cell BK504.out 0).trans rfl,(blk_cell BK504.out 1).trans rfl,(blk_cell BK504.out 2).trans rfl,(blk_cell BK504.out 3).trans rfl⟩ (fun hHeld => ?_)
                    clear hK K
                    refine norm_ (a' := ?_) ?_ ?_
                    rotate_left
                    · show Act.put _ (some 31) _ = _
                      simp only [Act.put,zA,zB,zC,i64_w,i32_w]
                      rfl
                    refine pure_ (i := 7) (N := some 4) (v := ?_) (a' := ?_) #[true,true,true,true,true,true,true,true,false] rfl rfl (any_of HT_.out (by kernel_rfl)) (fun _ _ _ h => h) (Or.inl ⟨by rfl,?_⟩) ?_ ?_
                    rotate_left
                    · intro w'
                      go_simp
                      with_reducible rfl
                    rotate_left
                    · simp only [Act.put,zA,zB,zC,i64_w,i32_w]
                      rfl
                    refine pure_ (i := 8) (N := some 0) (v := ?_) (a' := ?_) #[true,true,true,true,true,true,true,true,true] rfl rfl (any_of HT_.out (by kernel_rfl)) (fun _ _ _ h => h) (Or.inl ⟨by rfl,?_⟩) ?_ ?_
                    rotate_left
                    · intro w'
                      go_simp
                      with_reducible rfl
                    rotate_left
                    · simp only [Act.put,zA,zB,zC,i64_w,i32_w]
                      rfl
                    refine done_ (done_of HT_.out (by kernel_rfl)) ?_
                    try go_wp2
                    go_roundg k1
                    case measure => have := HK1.out;omega
                    case rel => exact ⟨(y508),(y505),H',⟨by have := HK1.out;omega⟩,⟨by (with_reducible repeat (first | apply Kd.V_alloc | apply Kd.V_drewN | apply Kd.V_drew));exact Kd.V_mono HO512.out (fun _ hk => ⟨hk.1.1,hk.2⟩)⟩,⟨by (with_reducible repeat (first | apply Kd.R_alloc | apply Kd.R_drewN | apply Kd.R_drew));exact Kd.R_mono HO507.out (fun _ hk => hk.1)⟩,⟨by repeat (first | (with_reducible first | exact HB.out | apply below_alloc | apply pw_below_drewN | apply below_drew1 | refine below_set ?_ GE504.out) | exact HB.out)⟩⟩
                  · rw [if_neg c12] at H
                    exact absurd H (by simp)
                · rw [if_neg c11] at H
                  exact absurd H (by simp)
              · rw [if_neg c10] at H
                exact absurd H (by simp)
            · rw [if_neg c9] at H
              have c9b0 : (t503 == 0) = false := beq_eq_false_iff_ne.mpr c9
              have c9b1 : (t503 != 0) = true := bne_iff_ne.mpr c9
              simp only [Option.some.injEq,Prod.mk.injEq] at H
              obtain ⟨rfl,rfl⟩ := H
              obtain ⟨Ao21,co21,eo21⟩ := Kd.V_slice HO_0.out
              subst eo21
              have p497 : 0 ≤ (0 : Int) := (by omega)
              have q497 : 0 < (x0_1.length : Int) := of_decide_eq_true (by first | (with_reducible assumption) | assumption)
              obtain ⟨ad497,e497,hx497_0⟩ := Kd.at_int (Kd.V_reads' HO_0.out).2.2 0 p497 q497
              cases e497
              have qi497 : (0 < x0_1.length) = True := eq_true (by omega)
              (try rw [show ((0 : Int)).toNat = 0 from rfl] at hx497_0)
              (try rw [Addr.add_zero'] at hx497_0)
              replace p497 := eq_true p497
              replace q497 := eq_true q497
              go_wp2_with (first | ((with_reducible refine gate_callee (f := 37) rfl ?_);refine goesL_ (some 21) rfl rfl Try.func37 (by kernel_rfl) rfl #[.slice (some ad497) x0_1.length co21] rfl (by (try simp only [List.map_toArray,List.map_cons,List.map_nil]);first | done | rfl | (simp only [List.length_drop,List.length_take];rfl)) ?_;(with_reducible refine (pack_First.calls k1 _ _ x0_1 t498 t499 t500 t501 t502 t503 _ ?side1 ?side2 A8.out).mono ?_);(case side1 => repeat (first | exact (Kd.V_reads' HO_0.out).2.2 | (with_reducible refine Kd.C_alloc ?_ _) | (with_reducible refine Kd.C_drewN ?_ _) | (with_reducible refine Kd.C_drew ?_)));(case side2 => exact (Kd.V_reads' HO_0.out).2.1);rintro e w22 ⟨rfl,hb⟩;refine ⟨_,rfl,?_⟩;have n0_ := Aside0.mk (Kd.V_below (by (with_reducible repeat (first | apply Kd.V_alloc | apply Kd.V_drewN | apply Kd.V_drew));exact HO_0.out) hb);have n1_ := Aside0.mk (Kd.R_below (by (with_reducible repeat (first | apply Kd.R_alloc | apply Kd.R_drewN | apply Kd.R_drew));exact HO_4.out) hb);have n2_ := Aside0.mk (below_step (by repeat (first | (with_reducible first | exact HB.out | apply below_alloc | apply pw_below_drewN | apply below_drew1) | exact HB.out)) hb);clear HO_0;clear HO_4;clear HB;have HO_0 := n0_;have HO_4 := n1_;have HB := n2_;clear n0_ n1_ n2_;(try clear hb);(try clear hb2);(try clear hk);(try clear hi)) | ((with_reducible refine gate_dst (N := 5) rfl ?_);refine box_event ?hg (N := 5) ?hd (cs := #[.int .i64 0,.bool false,.int .i64 0,.string (⟨#[]⟩ : ByteArray)]) (t := 50) ?hr ?_;(case hd => rfl);(case hg => rfl);(case hr => first | (go_simp;done) | (go_simp;rfl));intro gb504 hg w23 hbox hb;have n0_ := Aside0.mk (Kd.V_below (Kd.V_elderB (by (with_reducible repeat (first | apply Kd.V_alloc | apply Kd.V_drewN | apply Kd.V_drew));exact HO_0.out) gb504 (Nat.le_of_eq hg.symm)) hb);have n1_ := Aside0.mk (Kd.R_below (Kd.R_elderB (by (with_reducible repeat (first | apply Kd.R_alloc | apply Kd.R_drewN | apply Kd.R_drew));exact HO_4.out) gb504 (Nat.le_of_eq hg.symm)) hb);have n2_ := Aside0.mk (below_step (by repeat (first | (with_reducible first | exact HB.out | apply below_alloc | apply pw_below_drewN | apply below_drew1) | exact HB.out)) hb);have n3_ := Aside0.mk (hbox);have n4_ := Aside0.mk ((by rw [hg];exact (below_size (by repeat (first | (with_reducible first | exact HB.out | apply below_alloc | apply pw_below_drewN | apply below_drew1) | exact HB.out))) : w.heap.size ≤ gb504));have n5_ := Aside0.mk ((by rw [hg];exact (below_size (by repeat (first | (with_reducible first | exact HB.out | apply below_alloc | apply pw_below_drewN | apply below_drew1) | exact HB.out))) : w.heap.size ≤ gb504));clear HO_0;clear HO_4;clear HB;have HO_0 := n0_;have HO_4 := n1_;have HB := n2_;have BK504 := n3_;have GW504 := n4_;have GE504 := n5_;clear n0_ n1_ n2_ n3_ n4_ n5_;clear hb hbox hg;have hcz24_0 : w23.cell? ⟨gb504,0,none⟩ = some (.int .i64 0) := (blk_cell BK504.out 0).trans rfl;have hcz24_1 : w23.cell? ⟨gb504,1,none⟩ = some (.bool false) := (blk_cell BK504.out 1).trans rfl;have hcz24_2 : w23.cell? ⟨gb504,2,none⟩ = some (.int .i64 0) := (blk_cell BK504.out 2).trans rfl;have hcz24_3 : w23.cell? ⟨gb504,3,none⟩ = some (.string (⟨#[]⟩ : ByteArray)) := (blk_cell BK504.out 3).trans rfl;have hfz24_0 := blk_frozen BK504.out 0;have hfz24_1 := blk_frozen BK504.out 1;have hfz24_2 := blk_frozen BK504.out 2;have hfz24_3 := blk_frozen BK504.out 3))
              go_ret2
              exact ⟨_,by first | rfl | (simp [errW_none,errW_some] <;> rfl) | (simp [*,errW_none,errW_some] <;> rfl),by first | exact Kd.R_nil _ _ _ _ _ | exact Kd.N_nil _ _ _ _ _ | exact Kd.V_nil _ _ _ _ _ | exact Kd.Q_nil _ _ _ _ _ | exact Kd.S_nil _ _ _ _ _,by repeat (first | (with_reducible first | exact HB.out | apply below_alloc | apply pw_below_drewN | apply below_drew1 | refine below_set ?_ GE504.out) | exact HB.out)⟩
        · rw [if_neg c3] at H
          exact absurd H (by simp)
      · rw [if_neg c2] at H
        have c2b0 : decide (0 < (x0_1.length : Int)) = false := decide_eq_false c2
        have c2b1 : decide (0 < x0_1.length) = false := decide_eq_false (by omega)
        clear c2
        simp only [Option.some.injEq,Prod.mk.injEq] at H
        obtain ⟨rfl,rfl⟩ := H
        obtain ⟨Ao25,co25,eo25⟩ := Kd.V_slice HO_0.out
        subst eo25
        go_wp2
        go_ret2
        exact ⟨_,by first | rfl | (simp [errW_none,errW_some] <;> rfl) | (simp [*,errW_none,errW_some] <;> rfl),by first | exact Kd.R_nil _ _ _ _ _ | exact Kd.N_nil _ _ _ _ _ | exact Kd.V_nil _ _ _ _ _ | exact Kd.Q_nil _ _ _ _ _ | exact Kd.S_nil _ _ _ _ _,by repeat (first | (with_reducible first | exact HB.out | apply below_alloc | apply pw_below_drewN | apply below_drew1) | exact HB.out)⟩
end Go.Proofs.Ytfoaeigoajooeaa.Z
end
section
namespace Go.Proofs.Ytfoaeigoajooeaa.Z
open Go.RowKit Go.Proofs.YtfoaeigoajooeaaW.PrintWords Go.Proofs.YtfoaeigoajooeaaW.PrintLast Go.Proofs.YtfoaeigoajooeaaW.PrintMore
attribute [local go_sem] max2_int min2_int max_two min_two max_three min_three max_four min_four
set_option linter.unusedVariables false
set_option linter.unusedSimpArgs false
attribute [local go_sem high] eqA50
def verdererlaw04_known.f (k : Nat)  : Option (Bool) := (pack_Row.f k (([(⟨0,false,0,(⟨#[]⟩ : ByteArray)⟩ : S50),(⟨1,true,0,(⟨#[]⟩ : ByteArray)⟩ : S50)] : List (S50)))).bind fun t516 => ((pack_Back.f k t516).bind fun bt519 => ((pack_First.f k (([2,1,7] : List Int))).bind fun bt526 => (if (strOfNums t516).toList = ([1,2,1,0] : List UInt8) then (if (bt519.1.length : Int) = 2 then (if bt519.2 = 0 then (if (bt526.1 == 1 && (bt526.2.1 && (bt526.2.2.1 == 0 && (bt526.2.2.2.1.toList == ([] : List UInt8))))) = true then (if bt526.2.2.2.2.1 = 2 then (some (bt526.2.2.2.2.2 == 0)) else (none)) else (none)) else (none)) else (none)) else (none))))
theorem verdererlaw04_known.mono : ∀ k,LeO (verdererlaw04_known.f k ) (verdererlaw04_known.f (k + 1) ) := by
  intro  k
  unfold verdererlaw04_known.f
  repeat' first
      | (with_reducible exact pack_Back.mono _ _)
      | (with_reducible exact pack_First.mono _ _)
      | (with_reducible exact pack_Row.mono _ _)
      | (with_reducible exact LeO.refl _)
      | (with_reducible exact LeO.none _)
      | (with_reducible refine LeO.ite ?_ ?_)
      | (with_reducible refine LeO.bind ?_ (fun _ => ?_))
      | exact pack_Back.mono _ _
      | exact pack_First.mono _ _
      | exact pack_Row.mono _ _
      | exact LeO.none _
      | refine LeO.ite ?_ ?_
      | refine LeO.bind ?_ (fun _ => ?_)
set_option maxHeartbeats 8000000 in
set_option maxRecDepth 100000 in
theorem verdererlaw04_known.calls (k : Nat)  (r : Bool) (w : World) (h : verdererlaw04_known.f k  = some r) :
    Calls Try.prog 32 #[] w fun e w' => e = .returned (.bool r) ∧ Below w.heap.size w w' := by
  have hu50 := Try.underlying50
  have HB := Aside0.mk (Below.refl w.heap.size w)
  have H : ((pack_Row.f k (([(⟨0,false,0,(⟨#[]⟩ : ByteArray)⟩ : S50),(⟨1,true,0,(⟨#[]⟩ : ByteArray)⟩ : S50)] : List (S50)))).bind fun t516 => ((pack_Back.f k t516).bind fun bt519 => ((pack_First.f k (([2,1,7] : List Int))).bind fun bt526 => (if (strOfNums t516).toList = ([1,2,1,0] : List UInt8) then (if (bt519.1.length : Int) = 2 then (if bt519.2 = 0 then (if (bt526.1 == 1 && (bt526.2.1 && (bt526.2.2.1 == 0 && (bt526.2.2.2.1.toList == ([] : List UInt8))))) = true then (if bt526.2.2.2.2.1 = 2 then (some (bt526.2.2.2.2.2 == 0)) else (none)) else (none)) else (none)) else (none)) else (none))))) = some r := h
  clear h
  obtain ⟨y513,hy513⟩ : ∃ y_ : List (S50),y_ = (([(⟨0,false,0,(⟨#[]⟩ : ByteArray)⟩ : S50),(⟨1,true,0,(⟨#[]⟩ : ByteArray)⟩ : S50)] : List (S50))) := ⟨_,rfl⟩
  replace H : ((pack_Row.f k y513).bind fun t516 => ((pack_Back.f k t516).bind fun bt519 => ((pack_First.f k (([2,1,7] : List Int))).bind fun bt526 => (if (strOfNums t516).toList = ([1,2,1,0] : List UInt8) then (if (bt519.1.length : Int) = 2 then (if bt519.2 = 0 then (if (bt526.1 == 1 && (bt526.2.1 && (bt526.2.2.1 == 0 && (bt526.2.2.2.1.toList == ([] : List UInt8))))) = true then (if bt526.2.2.2.2.1 = 2 then (some (bt526.2.2.2.2.2 == 0)) else (none)) else (none)) else (none)) else (none)) else (none))))) = some r := by first | (rw [hy513];with_reducible exact H) | (have H2_ := (Option.bind_some _ _).symm.trans H;rw [hy513];with_reducible exact H2_) | (have H2_ := (Option.bind_some _ _).symm.trans H;with_reducible exact H2_) | with_reducible exact H | (rw [hy513];exact H) | exact H
  have Ny513 := Aside0.mk hy513
  clear hy513
  replace H := Option.bind_eq_some_iff.mp H
  obtain ⟨t516,A10,H⟩ := H
  replace H : ((pack_Back.f k t516).bind fun bt519 => ((pack_First.f k (([2,1,7] : List Int))).bind fun bt526 => (if (strOfNums t516).toList = ([1,2,1,0] : List UInt8) then (if (bt519.1.length : Int) = 2 then (if bt519.2 = 0 then (if (bt526.1 == 1 && (bt526.2.1 && (bt526.2.2.1 == 0 && (bt526.2.2.2.1.toList == ([] : List UInt8))))) = true then (if bt526.2.2.2.2.1 = 2 then (some (bt526.2.2.2.2.2 == 0)) else (none)) else (none)) else (none)) else (none)) else (none)))) = some r := H
  have A1 := Aside0.mk A10
  clear A10
  replace H := Option.bind_eq_some_iff.mp H
  obtain ⟨⟨t519,t522⟩,A20,H⟩ := H
  replace H : ((pack_First.f k (([2,1,7] : List Int))).bind fun bt526 => (if (strOfNums t516).toList = ([1,2,1,0] : List UInt8) then (if (t519.length : Int) = 2 then (if t522 = 0 then (if (bt526.1 == 1 && (bt526.2.1 && (bt526.2.2.1 == 0 && (bt526.2.2.2.1.toList == ([] : List UInt8))))) = true then (if bt526.2.2.2.2.1 = 2 then (some (bt526.2.2.2.2.2 == 0)) else (none)) else (none)) else (none)) else (none)) else (none))) = some r := H
  have A2 := Aside0.mk A20
  clear A20
  obtain ⟨y523,hy523⟩ : ∃ y_ : List Int,y_ = (([2,1,7] : List Int)) := ⟨_,rfl⟩
  replace H : ((pack_First.f k y523).bind fun bt526 => (if (strOfNums t516).toList = ([1,2,1,0] : List UInt8) then (if (t519.length : Int) = 2 then (if t522 = 0 then (if (bt526.1 == 1 && (bt526.2.1 && (bt526.2.2.1 == 0 && (bt526.2.2.2.1.toList == ([] : List UInt8))))) = true then (if bt526.2.2.2.2.1 = 2 then (some (bt526.2.2.2.2.2 == 0)) else (none)) else (none)) else (none)) else (none)) else (none))) = some r := by first | (rw [hy523];with_reducible exact H) | (have H2_ := (Option.bind_some _ _).symm.trans H;rw [hy523];with_reducible exact H2_) | (have H2_ := (Option.bind_some _ _).symm.trans H;with_reducible exact H2_) | with_reducible exact H | (rw [hy523];exact H) | exact H
  have Ny523 := Aside0.mk hy523
  clear hy523
  replace H := Option.bind_eq_some_iff.mp H
  obtain ⟨⟨t526,t527,t528,t529,t530,t531⟩,A30,H⟩ := H
  replace H : (if (strOfNums t516).toList = ([1,2,1,0] : List UInt8) then (if (t519.length : Int) = 2 then (if t522 = 0 then (if (t526 == 1 && (t527 && (t528 == 0 && (t529.toList == ([] : List UInt8))))) = true then (if t530 = 2 then (some (t531 == 0)) else (none)) else (none)) else (none)) else (none)) else (none)) = some r := H
  have A3 := Aside0.mk A30
  clear A30
  by_cases c4 : (strOfNums t516).toList = ([1,2,1,0] : List UInt8)
  · rw [if_pos c4] at H
    have c4b0 : ((strOfNums t516).toList == ([1,2,1,0] : List UInt8)) = true := beq_iff_eq.mpr c4
    have c4b1 : ((strOfNums t516).toList != ([1,2,1,0] : List UInt8)) = false := bne_eq_false_iff_eq.mpr c4
    clear c4
    by_cases c5 : (t519.length : Int) = 2
    · rw [if_pos c5] at H
      have c5b0 : ((t519.length : Int) == 2) = true := beq_iff_eq.mpr c5
      have c5b1 : ((t519.length : Int) != 2) = false := bne_eq_false_iff_eq.mpr c5
      clear c5
      by_cases c6 : t522 = 0
      · rw [if_pos c6] at H
        have c6b0 : (t522 == 0) = true := beq_iff_eq.mpr c6
        have c6b1 : (t522 != 0) = false := bne_eq_false_iff_eq.mpr c6
        clear c6
        by_cases c7 : (t526 == 1 && (t527 && (t528 == 0 && (t529.toList == ([] : List UInt8))))) = true
        · rw [if_pos c7] at H
          have c7b0 : (t526 == 1 && (t527 && (t528 == 0 && (t529.toList == ([] : List UInt8))))) = true := c7
          have c7b9 : (t526 == 1 && (t527 && (t528 == 0 && (t529.toList.isEmpty)))) = true := by rw [show t529.toList.isEmpty = (t529.toList == ([] : List UInt8)) from by cases t529.toList <;> rfl];exact c7b0
          (try (have c7b1 : decide (t526 = 1 && (t527 && (t528 == 0 && (t529.toList == ([] : List UInt8))))) = true := by simpa using c7))
          (try (have c7b2 : (t526 == 1 && (t527 && (t528 == 0 && (t529.toList == ([] : List UInt8))))) = true := by simpa using c7))
          clear c7
          by_cases c8 : t530 = 2
          · rw [if_pos c8] at H
            have c8b0 : (t530 == 2) = true := beq_iff_eq.mpr c8
            have c8b1 : (t530 != 2) = false := bne_eq_false_iff_eq.mpr c8
            clear c8
            obtain rfl := Option.some.inj H
            go_enter Try.func32,Try.ntmps32
            go_wp2_with (first | ((with_reducible refine gate_dst (N := 9) rfl ?_);(try (refine gate_guard (by rfl) ?_;dsimp only));refine Kd.R_lit k50 _ 50 ?hg (N := 9) ?hd (xs := ([(⟨0,false,0,(⟨#[]⟩ : ByteArray)⟩ : S50),(⟨1,true,0,(⟨#[]⟩ : ByteArray)⟩ : S50)] : List (S50))) (inner := [.int .i64 0,.bool false,.int .i64 0,.string (⟨#[]⟩ : ByteArray),.int .i64 1,.bool true,.int .i64 0,.string (⟨#[]⟩ : ByteArray)]) (ok := fun _ => True) (okp := fun _ => True) ?hr ?hp (fun _ hk => hk) trivial (Below.refl _ _) (Nat.le_refl _) (by simp) ?_;(case hd => rfl);(case hg => rfl);(case hr => first | (go_simp;done) | (go_simp;rfl));(case hp => exact (Reps.c4 (show Kd.M k50 _ _ _ (⟨0,false,0,(⟨#[]⟩ : ByteArray)⟩ : S50) [.int .i64 0,.bool false,.int .i64 0,.string (⟨#[]⟩ : ByteArray)] from (k50_mkM _ _ _ (⟨0,false,0,(⟨#[]⟩ : ByteArray)⟩ : S50) )) (Reps.c4 (show Kd.M k50 _ _ _ (⟨1,true,0,(⟨#[]⟩ : ByteArray)⟩ : S50) [.int .i64 1,.bool true,.int .i64 0,.string (⟨#[]⟩ : ByteArray)] from (k50_mkM _ _ _ (⟨1,true,0,(⟨#[]⟩ : ByteArray)⟩ : S50) )) (Reps.none _ _))));intro v514 w9 ho10 hb hg_ hnew_;clear hg_ hnew_;(first | rw [← Ny513.out] at ho10 | (simp only [Int.reduceToNat] at ho10;rw [← Ny513.out] at ho10));have n0_ := Aside0.mk (Kd.R_lower ho10 (below_size (by repeat (first | (with_reducible first | exact HB.out | apply below_alloc | apply pw_below_drewN | apply below_drew1) | exact HB.out))));have n1_ := Aside0.mk (below_step (by repeat (first | (with_reducible first | exact HB.out | apply below_alloc | apply pw_below_drewN | apply below_drew1) | exact HB.out)) hb);clear HB;have HO515 := n0_;have HB := n1_;clear n0_ n1_;clear hb ho10;obtain ⟨Ao11,co11,eo11⟩ := Kd.R_slice HO515.out;subst eo11) | ((with_reducible refine gate_callee (f := 35) rfl ?_);refine goesL_ (some 10) rfl rfl Try.func35 (by kernel_rfl) rfl #[.slice Ao11 y513.length co11] rfl (by (try simp only [List.map_toArray,List.map_cons,List.map_nil]);first | done | rfl | (simp only [List.length_drop,List.length_take];rfl)) ?_;(with_reducible refine (pack_Row.calls k _ _ y513 t516 _ ?side1 ?side2 A1.out).mono ?_);(case side1 => repeat (first | exact (Kd.R_reads' HO515.out).2.2 | (with_reducible refine Kd.C_alloc ?_ _) | (with_reducible refine Kd.C_drewN ?_ _) | (with_reducible refine Kd.C_drew ?_)));(case side2 => exact (Kd.R_reads' HO515.out).2.1);rintro e w12 ⟨v517,rfl,ho0,hb⟩;refine ⟨_,rfl,?_⟩;have n0_ := Aside0.mk (Kd.R_below (by (with_reducible repeat (first | apply Kd.R_alloc | apply Kd.R_drewN | apply Kd.R_drew));exact HO515.out) hb);have n1_ := Aside0.mk (Kd.R_lower ho0 (below_size (by repeat (first | (with_reducible first | exact HB.out | apply below_alloc | apply pw_below_drewN | apply below_drew1) | exact HB.out))));have n2_ := Aside0.mk (below_step (by repeat (first | (with_reducible first | exact HB.out | apply below_alloc | apply pw_below_drewN | apply below_drew1) | exact HB.out)) hb);clear HO515;clear HB;have HO515 := n0_;have HO518 := n1_;have HB := n2_;clear n0_ n1_ n2_;(try clear hb);(try clear hb2);(try clear hk);(try clear hi);(try clear ho0);obtain ⟨Ao13,co13,eo13⟩ := Kd.R_slice HO518.out;subst eo13) | ((with_reducible refine gate_callee (f := 39) rfl ?_);refine goesL_ (some 13) rfl rfl Try.func39 (by kernel_rfl) rfl #[.slice Ao13 t516.length co13] rfl (by (try simp only [List.map_toArray,List.map_cons,List.map_nil]);first | done | rfl | (simp only [List.length_drop,List.length_take];rfl)) ?_;(with_reducible refine (pack_Back.calls k (fun k_ => some k_ = (.slice Ao13 t516.length co13 : Value).ownBlock) _ _ t516 t519 t522 _ ?side1 A2.out).mono ?_);(case side1 => exact Kd.R_V (Kd.R_tight rfl (Kd.R_apart' (HO518.out) (Kd.R_typed HO515.out) (by decide))));rintro e w14 ⟨v520,rfl,ho0,hb⟩;refine ⟨_,rfl,?_⟩;have n0_ := Aside0.mk (Kd.R_elder' (by (with_reducible repeat (first | apply Kd.R_alloc | apply Kd.R_drewN | apply Kd.R_drew));exact HO515.out) (Kd.R_base ho0) hb);have n1_ := Aside0.mk (Kd.R_below (by (with_reducible repeat (first | apply Kd.R_alloc | apply Kd.R_drewN | apply Kd.R_drew));exact HO518.out) hb);have n2_ := Aside0.mk (Kd.R_lower (Kd.R_new' (Kd.R_mono (ok' := fun k_ => True) ho0 (fun _ hk_ => trivial)) (Kd.R_lt (by (with_reducible repeat (first | apply Kd.R_alloc | apply Kd.R_drewN | apply Kd.R_drew));exact HO515.out))) (below_size (by repeat (first | (with_reducible first | exact HB.out | apply below_alloc | apply pw_below_drewN | apply below_drew1) | exact HB.out))));have n3_ := Aside0.mk (below_step (by repeat (first | (with_reducible first | exact HB.out | apply below_alloc | apply pw_below_drewN | apply below_drew1) | exact HB.out)) hb);clear HO515;clear HO518;clear HB;have HO515 := n0_;have HO518 := n1_;have HO521 := n2_;have HB := n3_;clear n0_ n1_ n2_ n3_;(try clear hb);(try clear hb2);(try clear hk);(try clear hi);(try clear ho0)) | ((with_reducible refine gate_dst (N := 17) rfl ?_);(try (refine gate_guard (by rfl) ?_;dsimp only));refine Kd.R_lit (Kd.int .u8) _ 5 ?hg (N := 17) ?hd (xs := ([2,1,7] : List Int)) (inner := [.int .u8 2,.int .u8 1,.int .u8 7]) (ok := fun _ => True) (okp := fun _ => True) ?hr ?hp (fun _ hk => hk) trivial (Below.refl _ _) (Nat.le_refl _) (by simp) ?_;(case hd => rfl);(case hg => rfl);(case hr => first | (go_simp;done) | (go_simp;rfl));(case hp => exact (Reps.one (show Kd.M (Kd.int .u8) _ _ _ 2 [.int .u8 2] from rfl) (Reps.one (show Kd.M (Kd.int .u8) _ _ _ 1 [.int .u8 1] from rfl) (Reps.one (show Kd.M (Kd.int .u8) _ _ _ 7 [.int .u8 7] from rfl) (Reps.none _ _)))));intro v524 w15 ho16 hb hg_ hnew_;clear hg_ hnew_;(first | rw [← Ny523.out] at ho16 | (simp only [Int.reduceToNat] at ho16;rw [← Ny523.out] at ho16));have n0_ := Aside0.mk (Kd.R_below (by (with_reducible repeat (first | apply Kd.R_alloc | apply Kd.R_drewN | apply Kd.R_drew));exact HO515.out) hb);have n1_ := Aside0.mk (Kd.R_elder' (by (with_reducible repeat (first | apply Kd.R_alloc | apply Kd.R_drewN | apply Kd.R_drew));exact HO518.out) (Kd.R_base ho16) hb);have n2_ := Aside0.mk (Kd.R_below (by (with_reducible repeat (first | apply Kd.R_alloc | apply Kd.R_drewN | apply Kd.R_drew));exact HO521.out) hb);have n3_ := Aside0.mk (Kd.R_lower (Kd.R_new' ho16 (Kd.R_lt (by (with_reducible repeat (first | apply Kd.R_alloc | apply Kd.R_drewN | apply Kd.R_drew));exact HO518.out))) (below_size (by repeat (first | (with_reducible first | exact HB.out | apply below_alloc | apply pw_below_drewN | apply below_drew1) | exact HB.out))));have n4_ := Aside0.mk (below_step (by repeat (first | (with_reducible first | exact HB.out | apply below_alloc | apply pw_below_drewN | apply below_drew1) | exact HB.out)) hb);clear HO515;clear HO518;clear HO521;clear HB;have HO515 := n0_;have HO518 := n1_;have HO521 := n2_;have HO525 := n3_;have HB := n4_;clear n0_ n1_ n2_ n3_ n4_;clear hb ho16;obtain ⟨Ao17,co17,eo17⟩ := Kd.R_slice HO525.out;subst eo17) | ((with_reducible refine gate_callee (f := 37) rfl ?_);refine goesL_ (some 18) rfl rfl Try.func37 (by kernel_rfl) rfl #[.slice Ao17 y523.length co17] rfl (by (try simp only [List.map_toArray,List.map_cons,List.map_nil]);first | done | rfl | (simp only [List.length_drop,List.length_take];rfl)) ?_;(with_reducible refine (pack_First.calls k _ _ y523 t526 t527 t528 t529 t530 t531 _ ?side1 ?side2 A3.out).mono ?_);(case side1 => repeat (first | exact (Kd.R_reads' HO525.out).2.2 | (with_reducible refine Kd.C_alloc ?_ _) | (with_reducible refine Kd.C_drewN ?_ _) | (with_reducible refine Kd.C_drew ?_)));(case side2 => exact (Kd.R_reads' HO525.out).2.1);rintro e w18 ⟨rfl,hb⟩;refine ⟨_,rfl,?_⟩;have n0_ := Aside0.mk (Kd.R_below (by (with_reducible repeat (first | apply Kd.R_alloc | apply Kd.R_drewN | apply Kd.R_drew));exact HO515.out) hb);have n1_ := Aside0.mk (Kd.R_below (by (with_reducible repeat (first | apply Kd.R_alloc | apply Kd.R_drewN | apply Kd.R_drew));exact HO518.out) hb);have n2_ := Aside0.mk (Kd.R_below (by (with_reducible repeat (first | apply Kd.R_alloc | apply Kd.R_drewN | apply Kd.R_drew));exact HO521.out) hb);have n3_ := Aside0.mk (Kd.R_below (by (with_reducible repeat (first | apply Kd.R_alloc | apply Kd.R_drewN | apply Kd.R_drew));exact HO525.out) hb);have n4_ := Aside0.mk (below_step (by repeat (first | (with_reducible first | exact HB.out | apply below_alloc | apply pw_below_drewN | apply below_drew1) | exact HB.out)) hb);clear HO515;clear HO518;clear HO521;clear HO525;clear HB;have HO515 := n0_;have HO518 := n1_;have HO521 := n2_;have HO525 := n3_;have HB := n4_;clear n0_ n1_ n2_ n3_ n4_;(try clear hb);(try clear hb2);(try clear hk);(try clear hi)) | ((with_reducible refine gate_dst (N := 4) rfl ?_);(try (refine gate_guard (by rfl) ?_;dsimp only));refine box_event ?hg (N := 4) ?hd (cs := #[.int .i64 0,.bool false,.int .i64 0,.string (⟨#[]⟩ : ByteArray)]) (t := 50) ?hr ?_;(case hd => rfl);(case hg => rfl);(case hr => first | (go_simp;done) | (go_simp;rfl));intro gb532 hg w19 hbox hb;have n0_ := Aside0.mk (Kd.R_below (Kd.R_elderB (by (with_reducible repeat (first | apply Kd.R_alloc | apply Kd.R_drewN | apply Kd.R_drew));exact HO515.out) gb532 (Nat.le_of_eq hg.symm)) hb);have n1_ := Aside0.mk (Kd.R_below (by (with_reducible repeat (first | apply Kd.R_alloc | apply Kd.R_drewN | apply Kd.R_drew));exact HO518.out) hb);have n2_ := Aside0.mk (Kd.R_below (Kd.R_elderB (by (with_reducible repeat (first | apply Kd.R_alloc | apply Kd.R_drewN | apply Kd.R_drew));exact HO521.out) gb532 (Nat.le_of_eq hg.symm)) hb);have n3_ := Aside0.mk (Kd.R_below (by (with_reducible repeat (first | apply Kd.R_alloc | apply Kd.R_drewN | apply Kd.R_drew));exact HO525.out) hb);have n4_ := Aside0.mk (below_step (by repeat (first | (with_reducible first | exact HB.out | apply below_alloc | apply pw_below_drewN | apply below_drew1) | exact HB.out)) hb);have n5_ := Aside0.mk (hbox);have n6_ := Aside0.mk ((by rw [hg];exact (below_size (by repeat (first | (with_reducible first | exact HB.out | apply below_alloc | apply pw_below_drewN | apply below_drew1) | exact HB.out))) : w.heap.size ≤ gb532));have n7_ := Aside0.mk ((by rw [hg];exact (below_size (by repeat (first | (with_reducible first | exact HB.out | apply below_alloc | apply pw_below_drewN | apply below_drew1) | exact HB.out))) : w.heap.size ≤ gb532));clear HO515;clear HO518;clear HO521;clear HO525;clear HB;have HO515 := n0_;have HO518 := n1_;have HO521 := n2_;have HO525 := n3_;have HB := n4_;have BK532 := n5_;have GW532 := n6_;have GE532 := n7_;clear n0_ n1_ n2_ n3_ n4_ n5_ n6_ n7_;clear hb hbox hg;have hcz20_0 : w19.cell? ⟨gb532,0,none⟩ = some (.int .i64 0) := (blk_cell BK532.out 0).trans rfl;have hcz20_1 : w19.cell? ⟨gb532,1,none⟩ = some (.bool false) := (blk_cell BK532.out 1).trans rfl;have hcz20_2 : w19.cell? ⟨gb532,2,none⟩ = some (.int .i64 0) := (blk_cell BK532.out 2).trans rfl;have hcz20_3 : w19.cell? ⟨gb532,3,none⟩ = some (.string (⟨#[]⟩ : ByteArray)) := (blk_cell BK532.out 3).trans rfl;have hfz20_0 := blk_frozen BK532.out 0;have hfz20_1 := blk_frozen BK532.out 1;have hfz20_2 := blk_frozen BK532.out 2;have hfz20_3 := blk_frozen BK532.out 3;have hcv21 := own_string (P := Try.prog) Try.underlying47 Try.underlying5 Try.underlying9 (Kd.own_of_R HO518.out);have hcvf_ := fun (u0 u1 u2 u3 : Value) => own_string (P := Try.prog) Try.underlying47 Try.underlying5 Try.underlying9 (Kd.own_of_R (Kd.R_mono (Kd.R_far (p := ⟨gb532,3,none⟩) (Kd.R_far (p := ⟨gb532,2,none⟩) (Kd.R_far (p := ⟨gb532,1,none⟩) (Kd.R_far (p := ⟨gb532,0,none⟩) (Kd.R_types HO518.out BK532.out (by decide)) (fun _ hk => hk.2) u0) (fun _ hk => hk.2) u1) (fun _ hk => hk.2) u2) (fun _ hk => hk.2) u3) (fun _ h_ => h_.1)));obtain ⟨Ao22,co22,eo22⟩ := Kd.R_slice HO521.out;subst eo22))
            go_ret
            exact ⟨by first | rfl | (simp [errW_none,errW_some] <;> rfl) | (simp [*,errW_none,errW_some] <;> rfl),by repeat (first | (with_reducible first | exact HB.out | apply below_alloc | apply pw_below_drewN | apply below_drew1 | refine below_set ?_ GE532.out) | exact HB.out)⟩
          · rw [if_neg c8] at H
            exact absurd H (by simp)
        · rw [if_neg c7] at H
          exact absurd H (by simp)
      · rw [if_neg c6] at H
        exact absurd H (by simp)
    · rw [if_neg c5] at H
      exact absurd H (by simp)
  · rw [if_neg c4] at H
    exact absurd H (by simp)
end Go.Proofs.Ytfoaeigoajooeaa.Z
end
section
namespace Go.Proofs.Ytfoaeigoajooeaa.Z
open Go.RowKit Go.Proofs.YtfoaeigoajooeaaW.PrintWords Go.Proofs.YtfoaeigoajooeaaW.PrintLast Go.Proofs.YtfoaeigoajooeaaW.PrintMore
attribute [local go_sem] max2_int min2_int max_two min_two max_three min_three max_four min_four
set_option linter.unusedVariables false
set_option linter.unusedSimpArgs false
mutual
def verdererlaw04_PackBack.j0 : Nat → List (S50) → List Int → Bool → Option (Bool)
  | 0,_,_,_ => none
  | k + 1,x0,x1,x17 => if x17 = true then ((verdererlaw04_known.f k).bind fun t653 => (some t653)) else ((pack_Row.f k x0).bind fun t654 => (if (t654.length : Int) > 0 then ((pack_Back.f k t654).bind fun bt657 => (if bt657.2 = 0 then ((verdererref02_Equal.f k bt657.1 x0).bind fun t661 => (verdererlaw04_PackBack.j1 k x1 (!t661))) else (verdererlaw04_PackBack.j1 k x1 true))) else ((pack_Back.f k x1).bind fun bt671 => (if bt671.2 = 0 then ((pack_Row.f k bt671.1).bind fun t675 => (if (strOfNums t675).toList = (strOfNums x1).toList then ((verdererlaw04_known.f k).bind fun t678 => (some t678)) else (none))) else ((verdererlaw04_known.f k).bind fun t679 => (some t679))))))
def verdererlaw04_PackBack.j1 : Nat → List Int → Bool → Option (Bool)
  | 0,_,_ => none
  | k + 1,x1,x36 => if x36 = true then (none) else ((pack_Back.f k x1).bind fun bt662 => (if bt662.2 = 0 then ((pack_Row.f k bt662.1).bind fun t666 => (if (strOfNums t666).toList = (strOfNums x1).toList then ((verdererlaw04_known.f k).bind fun t669 => (some t669)) else (none))) else ((verdererlaw04_known.f k).bind fun t670 => (some t670))))
end
def verdererlaw04_PackBack.f (k : Nat) (l0 : List (S50)) (l1 : List Int) : Option (Bool) := (verdererlaw04_few.f k l0).bind fun t652 => (if t652 = true then (verdererlaw04_PackBack.j0 k l0 l1 (decide ((l1.length : Int) > 3000))) else (verdererlaw04_PackBack.j0 k l0 l1 true))
theorem verdererlaw04_PackBack.mono_l : ∀ k,(∀ y0 y1 y2,LeO (verdererlaw04_PackBack.j0 k y0 y1 y2) (verdererlaw04_PackBack.j0 (k + 1) y0 y1 y2)) ∧ (∀ y0 y1,LeO (verdererlaw04_PackBack.j1 k y0 y1) (verdererlaw04_PackBack.j1 (k + 1) y0 y1))
  | 0 => ⟨fun _ _ _ r h => by simp [verdererlaw04_PackBack.j0] at h,fun _ _ r h => by simp [verdererlaw04_PackBack.j1] at h⟩
  | k + 1 => by
    obtain ⟨ih0,ih1⟩ := verdererlaw04_PackBack.mono_l k
    refine ⟨?_,?_⟩
    · intro y0 y1 y2
      unfold verdererlaw04_PackBack.j0
      repeat' first
      | (with_reducible exact ih0 _ _ _)
      | (with_reducible exact ih1 _ _)
      | (with_reducible exact pack_Back.mono _ _)
      | (with_reducible exact pack_Row.mono _ _)
      | (with_reducible exact verdererlaw04_few.mono _ _)
      | (with_reducible exact verdererlaw04_known.mono _)
      | (with_reducible exact verdererref02_Equal.mono _ _ _)
      | (with_reducible exact LeO.refl _)
      | (with_reducible exact LeO.none _)
      | (with_reducible refine LeO.ite ?_ ?_)
      | (with_reducible refine LeO.bind ?_ (fun _ => ?_))
      | exact ih0 _ _ _
      | exact ih1 _ _
      | exact pack_Back.mono _ _
      | exact pack_Row.mono _ _
      | exact verdererlaw04_few.mono _ _
      | exact verdererlaw04_known.mono _
      | exact verdererref02_Equal.mono _ _ _
      | exact LeO.none _
      | refine LeO.ite ?_ ?_
      | refine LeO.bind ?_ (fun _ => ?_)
    · intro y0 y1
      unfold verdererlaw04_PackBack.j1
      repeat' first
      | (with_reducible exact ih0 _ _ _)
      | (with_reducible exact ih1 _ _)
      | (with_reducible exact pack_Back.mono _ _)
      | (with_reducible exact pack_Row.mono _ _)
      | (with_reducible exact verdererlaw04_few.mono _ _)
      | (with_reducible exact verdererlaw04_known.mono _)
      | (with_reducible exact verdererref02_Equal.mono _ _ _)
      | (with_reducible exact LeO.refl _)
      | (with_reducible exact LeO.none _)
      | (with_reducible refine LeO.ite ?_ ?_)
      | (with_reducible refine LeO.bind ?_ (fun _ => ?_))
      | exact ih0 _ _ _
      | exact ih1 _ _
      | exact pack_Back.mono _ _
      | exact pack_Row.mono _ _
      | exact verdererlaw04_few.mono _ _
      | exact verdererlaw04_known.mono _
      | exact verdererref02_Equal.mono _ _ _
      | exact LeO.none _
      | refine LeO.ite ?_ ?_
      | refine LeO.bind ?_ (fun _ => ?_)
theorem verdererlaw04_PackBack.mono : ∀ a0 a1 k,LeO (verdererlaw04_PackBack.f k a0 a1) (verdererlaw04_PackBack.f (k + 1) a0 a1) := by
  intro a0 a1 k
  obtain ⟨ih0,ih1⟩ := verdererlaw04_PackBack.mono_l k
  unfold verdererlaw04_PackBack.f
  repeat' first
      | (with_reducible exact ih0 _ _ _)
      | (with_reducible exact ih1 _ _)
      | (with_reducible exact pack_Back.mono _ _)
      | (with_reducible exact pack_Row.mono _ _)
      | (with_reducible exact verdererlaw04_few.mono _ _)
      | (with_reducible exact verdererlaw04_known.mono _)
      | (with_reducible exact verdererref02_Equal.mono _ _ _)
      | (with_reducible exact LeO.refl _)
      | (with_reducible exact LeO.none _)
      | (with_reducible refine LeO.ite ?_ ?_)
      | (with_reducible refine LeO.bind ?_ (fun _ => ?_))
      | exact ih0 _ _ _
      | exact ih1 _ _
      | exact pack_Back.mono _ _
      | exact pack_Row.mono _ _
      | exact verdererlaw04_few.mono _ _
      | exact verdererlaw04_known.mono _
      | exact verdererref02_Equal.mono _ _ _
      | exact LeO.none _
      | refine LeO.ite ?_ ?_
      | refine LeO.bind ?_ (fun _ => ?_)
def verdererlaw04_PackBack.T9 : Bool × List (List Nat × List Nat) := (true,[([],[]),([0],[0]),([1],[1]),([2],[2]),([3,2,2],[2,3]),([4,2],[2,4]),([2],[2]),([6,2],[2,6]),([5,7,2],[2,5,7]),([2,8],[2,8]),([9,4],[9]),([10,10],[10]),([10,11],[10,11]),([12,11,0,1,2,3,4,5,6,7,8,9,10,11,12],[12])])
def verdererlaw04_PackBack.B9 : List Nat := [0,1,3,7,15,31,7,71,255,511,1023,2047,4095,8191]
theorem verdererlaw04_PackBack.tab9 : rtab .any (opsOf Try.f10 9) = verdererlaw04_PackBack.T9 := by kernel_rfl
theorem verdererlaw04_PackBack.bits9 : waitsOk verdererlaw04_PackBack.T9.2 verdererlaw04_PackBack.B9 = true := by kernel_rfl
set_option maxHeartbeats 8000000 in
set_option maxRecDepth 100000 in
theorem verdererlaw04_PackBack.calls (k : Nat) (A0 : Option Addr) (c0 : Nat) (l0 : List (S50)) (A1 : Option Addr) (c1 : Nat) (l1 : List Int) (r : Bool) (w : World) (hr0 : Kd.C k50 w A0 l0.length l0) (hc0 : l0.length ≤ c0) (hr1 : Kd.C (Kd.int .u8) w A1 l1.length l1) (hc1 : l1.length ≤ c1) (h : verdererlaw04_PackBack.f k l0 l1 = some r) :
    Calls Try.prog 10 #[.slice A0 l0.length c0,.slice A1 l1.length c1] w fun e w' => e = .returned (.bool r) ∧ Below w.heap.size w w' := by
  have HR0 := Aside0.mk hr0
  have HC0 := Aside0.mk hc0
  clear hr0 hc0
  have HR1 := Aside0.mk hr1
  have HC1 := Aside0.mk hc1
  clear hr1 hc1
  have HB := Aside0.mk (Below.refl w.heap.size w)
  have H : ((verdererlaw04_few.f k l0).bind fun t652 => (if t652 = true then (verdererlaw04_PackBack.j0 k l0 l1 (decide ((l1.length : Int) > 3000))) else (verdererlaw04_PackBack.j0 k l0 l1 true))) = some r := h
  clear h
  have HC3 := Aside0.mk H
  clear H
  go_enter Try.func10,Try.ntmps10
  go_upto_region 1 with (fail)
  go_cut [17] (fun v17 wc => ∃ (kq : Nat) (x17_2 : Bool),v17 = .bool x17_2 ∧ Aside0 (verdererlaw04_PackBack.j0 kq l0 l1 x17_2 = some r) ∧ Aside0 (kq ≤ k) ∧ Aside0 (Below w.heap.size w wc))
  case first =>
    have H := HC3.out
    clear HC3
    replace H := Option.bind_eq_some_iff.mp H
    obtain ⟨t652,A40,H⟩ := H
    replace H : (if t652 = true then (verdererlaw04_PackBack.j0 k l0 l1 (decide ((l1.length : Int) > 3000))) else (verdererlaw04_PackBack.j0 k l0 l1 true)) = some r := H
    have A4 := Aside0.mk A40
    clear A40
    by_cases c5 : t652 = true
    · subst c5
      have H1 : (verdererlaw04_PackBack.j0 k l0 l1 (decide ((l1.length : Int) > 3000))) = some r := by rw [if_pos rfl] at H;exact H
      clear H
      have H := H1
      clear H1
      have H' := Aside0.mk H
      clear H
      go_wp2_with (first | ((with_reducible refine gate_callee (f := 31) rfl ?_);refine goesL_ (some 11) rfl rfl Try.func31 (by kernel_rfl) rfl #[.slice A0 l0.length c0] rfl (by (try simp only [List.map_toArray,List.map_cons,List.map_nil]);first | done | rfl | (simp only [List.length_drop,List.length_take];rfl)) ?_;(with_reducible refine (verdererlaw04_few.calls k _ _ l0 true _ ?side1 ?side2 A4.out).mono ?_);(case side1 => repeat (first | exact (Kd.C_below HR0.out HB.out) | (with_reducible refine Kd.C_alloc ?_ _) | (with_reducible refine Kd.C_drewN ?_ _) | (with_reducible refine Kd.C_drew ?_)));(case side2 => exact HC0.out);rintro e w' ⟨rfl,⟨nd,rfl⟩⟩;refine ⟨_,rfl,?_⟩))
      go_meet
      case rel => exact ⟨_,(decide ((l1.length : Int) > 3000)),(by first | rfl | (simp;done) | (simp [*];done)),H',⟨by first | omega | exact Nat.le_refl _⟩,⟨by repeat (first | (with_reducible first | exact HB.out | apply below_alloc | apply pw_below_drewN | apply below_drew1) | exact HB.out)⟩⟩
    · replace c5 := Bool.eq_false_iff.mpr c5
      subst c5
      have H1 : (verdererlaw04_PackBack.j0 k l0 l1 true) = some r := by rw [if_neg (show ¬ (false = true) by decide)] at H;exact H
      clear H
      have H := H1
      clear H1
      have H' := Aside0.mk H
      clear H
      go_wp2_with (first | ((with_reducible refine gate_callee (f := 31) rfl ?_);refine goesL_ (some 11) rfl rfl Try.func31 (by kernel_rfl) rfl #[.slice A0 l0.length c0] rfl (by (try simp only [List.map_toArray,List.map_cons,List.map_nil]);first | done | rfl | (simp only [List.length_drop,List.length_take];rfl)) ?_;(with_reducible refine (verdererlaw04_few.calls k _ _ l0 false _ ?side1 ?side2 A4.out).mono ?_);(case side1 => repeat (first | exact (Kd.C_below HR0.out HB.out) | (with_reducible refine Kd.C_alloc ?_ _) | (with_reducible refine Kd.C_drewN ?_ _) | (with_reducible refine Kd.C_drew ?_)));(case side2 => exact HC0.out);rintro e w' ⟨rfl,⟨nd,rfl⟩⟩;refine ⟨_,rfl,?_⟩))
      go_meet
      case rel => exact ⟨_,(true),(by first | rfl | (simp;done) | (simp [*];done)),H',⟨by first | omega | exact Nat.le_refl _⟩,⟨by repeat (first | (with_reducible first | exact HB.out | apply below_alloc | apply pw_below_drewN | apply below_drew1) | exact HB.out)⟩⟩
  case rest =>
    clear HC3
    try clear c1
    try clear p2
    try clear c3
    try clear c5
    obtain ⟨kq,x17_2,rfl,HA,HJ2,HB⟩ := hcut
    cases kq with
    | zero => exact absurd HA.out (by simp [verdererlaw04_PackBack.j0])
    | succ kj2 =>
      have H := HA.out
      clear HA
      simp only [verdererlaw04_PackBack.j0] at H
      by_cases c6 : x17_2 = true
      · subst c6
        have H1 : ((verdererlaw04_known.f kj2).bind fun t653 => (some t653)) = some r := by rw [if_pos rfl] at H;exact H
        clear H
        have H := H1
        clear H1
        replace H := Option.bind_eq_some_iff.mp H
        obtain ⟨t653,A70,H⟩ := H
        replace H : (some t653) = some r := H
        have A7 := Aside0.mk A70
        clear A70
        obtain rfl := Option.some.inj H
        go_wp2_with (first | ((with_reducible refine gate_callee (f := 32) rfl ?_);refine goesL_ (some 18) rfl rfl Try.func32 (by kernel_rfl) rfl #[] rfl (by (try simp only [List.map_toArray,List.map_cons,List.map_nil]);first | done | rfl | (simp only [List.length_drop,List.length_take];rfl)) ?_;(with_reducible refine (verdererlaw04_known.calls kj2  t653 _ A7.out).mono ?_);rintro e w8 ⟨rfl,hb⟩;refine ⟨_,rfl,?_⟩;have n0_ := Aside0.mk (below_step (by repeat (first | (with_reducible first | exact HB.out | apply below_alloc | apply pw_below_drewN | apply below_drew1) | exact HB.out)) hb);clear HB;have HB := n0_;clear n0_;(try clear hb);(try clear hb2);(try clear hk);(try clear hi)))
        go_ret
        exact ⟨by first | rfl | (simp [errW_none,errW_some] <;> rfl) | (simp [*,errW_none,errW_some] <;> rfl),by repeat (first | (with_reducible first | exact HB.out | apply below_alloc | apply pw_below_drewN | apply below_drew1) | exact HB.out)⟩
      · replace c6 := Bool.eq_false_iff.mpr c6
        subst c6
        have H1 : ((pack_Row.f kj2 l0).bind fun t654 => (if (t654.length : Int) > 0 then ((pack_Back.f kj2 t654).bind fun bt657 => (if bt657.2 = 0 then ((verdererref02_Equal.f kj2 bt657.1 l0).bind fun t661 => (verdererlaw04_PackBack.j1 kj2 l1 (!t661))) else (verdererlaw04_PackBack.j1 kj2 l1 true))) else ((pack_Back.f kj2 l1).bind fun bt671 => (if bt671.2 = 0 then ((pack_Row.f kj2 bt671.1).bind fun t675 => (if (strOfNums t675).toList = (strOfNums l1).toList then ((verdererlaw04_known.f kj2).bind fun t678 => (some t678)) else (none))) else ((verdererlaw04_known.f kj2).bind fun t679 => (some t679)))))) = some r := by rw [if_neg (show ¬ (false = true) by decide)] at H;exact H
        clear H
        have H := H1
        clear H1
        replace H := Option.bind_eq_some_iff.mp H
        obtain ⟨t654,A90,H⟩ := H
        replace H : (if (t654.length : Int) > 0 then ((pack_Back.f kj2 t654).bind fun bt657 => (if bt657.2 = 0 then ((verdererref02_Equal.f kj2 bt657.1 l0).bind fun t661 => (verdererlaw04_PackBack.j1 kj2 l1 (!t661))) else (verdererlaw04_PackBack.j1 kj2 l1 true))) else ((pack_Back.f kj2 l1).bind fun bt671 => (if bt671.2 = 0 then ((pack_Row.f kj2 bt671.1).bind fun t675 => (if (strOfNums t675).toList = (strOfNums l1).toList then ((verdererlaw04_known.f kj2).bind fun t678 => (some t678)) else (none))) else ((verdererlaw04_known.f kj2).bind fun t679 => (some t679))))) = some r := H
        have A9 := Aside0.mk A90
        clear A90
        by_cases c10 : (t654.length : Int) > 0
        · rw [if_pos c10] at H
          have c10b0 : decide (0 < (t654.length : Int)) = true := decide_eq_true c10
          have c10b1 : decide (0 < t654.length) = true := decide_eq_true (by omega)
          clear c10
          replace H := Option.bind_eq_some_iff.mp H
          obtain ⟨⟨t657,t660⟩,A110,H⟩ := H
          replace H : (if t660 = 0 then ((verdererref02_Equal.f kj2 t657 l0).bind fun t661 => (verdererlaw04_PackBack.j1 kj2 l1 (!t661))) else (verdererlaw04_PackBack.j1 kj2 l1 true)) = some r := H
          have A11 := Aside0.mk A110
          clear A110
          have HC12 := Aside0.mk H
          clear H
          go_upto_region 6 with (first | ((with_reducible refine gate_callee (f := 35) rfl ?_);refine goesL_ (some 20) rfl rfl Try.func35 (by kernel_rfl) rfl #[.slice A0 l0.length c0] rfl (by (try simp only [List.map_toArray,List.map_cons,List.map_nil]);first | done | rfl | (simp only [List.length_drop,List.length_take];rfl)) ?_;(with_reducible refine (pack_Row.calls kj2 _ _ l0 t654 _ ?side1 ?side2 A9.out).mono ?_);(case side1 => repeat (first | exact (Kd.C_below HR0.out HB.out) | (with_reducible refine Kd.C_alloc ?_ _) | (with_reducible refine Kd.C_drewN ?_ _) | (with_reducible refine Kd.C_drew ?_)));(case side2 => exact HC0.out);rintro e w13 ⟨v655,rfl,ho0,hb⟩;refine ⟨_,rfl,?_⟩;have n0_ := Aside0.mk (Kd.R_lower ho0 (below_size (by repeat (first | (with_reducible first | exact HB.out | apply below_alloc | apply pw_below_drewN | apply below_drew1) | exact HB.out))));have n1_ := Aside0.mk (below_step (by repeat (first | (with_reducible first | exact HB.out | apply below_alloc | apply pw_below_drewN | apply below_drew1) | exact HB.out)) hb);clear HB;have HO656 := n0_;have HB := n1_;clear n0_ n1_;(try clear hb);(try clear hb2);(try clear hk);(try clear hi);(try clear ho0);obtain ⟨Ao14,co14,eo14⟩ := Kd.R_slice HO656.out;subst eo14) | ((with_reducible refine gate_callee (f := 39) rfl ?_);refine goesL_ (some 26) rfl rfl Try.func39 (by kernel_rfl) rfl #[.slice Ao14 t654.length co14] rfl (by (try simp only [List.map_toArray,List.map_cons,List.map_nil]);first | done | rfl | (simp only [List.length_drop,List.length_take];rfl)) ?_;(with_reducible refine (pack_Back.calls kj2 (fun k_ => some k_ = (.slice Ao14 t654.length co14 : Value).ownBlock) _ _ t654 t657 t660 _ ?side1 A11.out).mono ?_);(case side1 => exact Kd.R_V (Kd.R_tight rfl (HO656.out)));rintro e w15 ⟨v658,rfl,ho0,hb⟩;refine ⟨_,rfl,?_⟩;have n0_ := Aside0.mk (Kd.R_below (by (with_reducible repeat (first | apply Kd.R_alloc | apply Kd.R_drewN | apply Kd.R_drew));exact HO656.out) hb);have n1_ := Aside0.mk (Kd.R_lower (Kd.R_mono (ok' := fun k_ => True) ho0 (fun _ hk_ => trivial)) (below_size (by repeat (first | (with_reducible first | exact HB.out | apply below_alloc | apply pw_below_drewN | apply below_drew1) | exact HB.out))));have n2_ := Aside0.mk (below_step (by repeat (first | (with_reducible first | exact HB.out | apply below_alloc | apply pw_below_drewN | apply below_drew1) | exact HB.out)) hb);clear HO656;clear HB;have HO656 := n0_;have HO659 := n1_;have HB := n2_;clear n0_ n1_ n2_;(try clear hb);(try clear hb2);(try clear hk);(try clear hi);(try clear ho0)))
          (try simp only [Act.put,zA,zB,zC])
          go_cut [36] (fun v36 wc => ∃ (kq : Nat) (x36_11 : Bool),v36 = .bool x36_11 ∧ Aside0 (verdererlaw04_PackBack.j1 kq l1 x36_11 = some r) ∧ Aside0 (kq ≤ kj2) ∧ Aside0 (Below w.heap.size w wc))
          case first =>
            have H := HC12.out
            clear HC12
            by_cases c16 : t660 = 0
            · rw [if_pos c16] at H
              have c16b0 : (t660 == 0) = true := beq_iff_eq.mpr c16
              have c16b1 : (t660 != 0) = false := bne_eq_false_iff_eq.mpr c16
              clear c16
              (first | rw [c16b0] | (simp only [i64_w,i32_w];rw [c16b0]) | skip)
              replace H := Option.bind_eq_some_iff.mp H
              obtain ⟨t661,A170,H⟩ := H
              replace H : (verdererlaw04_PackBack.j1 kj2 l1 (!t661)) = some r := H
              have A17 := Aside0.mk A170
              clear A170
              have H' := Aside0.mk H
              clear H
              obtain ⟨Ao18,co18,eo18⟩ := Kd.R_slice HO659.out
              subst eo18
              go_wp2_with (first | (go_at_call 16;(with_reducible refine (verdererref02_Equal.calls kj2 _ _ t657 _ _ l0 t661 _ ?side1 ?side2 ?side3 ?side4 A17.out).mono ?_);(case side1 => repeat (first | exact (Kd.R_reads' HO659.out).2.2 | (with_reducible refine Kd.C_alloc ?_ _) | (with_reducible refine Kd.C_drewN ?_ _) | (with_reducible refine Kd.C_drew ?_)));(case side2 => exact (Kd.R_reads' HO659.out).2.1);(case side3 => repeat (first | exact (Kd.C_below HR0.out HB.out) | (with_reducible refine Kd.C_alloc ?_ _) | (with_reducible refine Kd.C_drewN ?_ _) | (with_reducible refine Kd.C_drew ?_)));(case side4 => exact HC0.out);rintro e w' ⟨rfl,⟨nd,rfl⟩⟩))
              go_meet
              case rel => exact ⟨_,(!t661),(by first | rfl | (simp;done) | (simp [*];done)),H',⟨by have := HJ2.out;first | omega | exact Nat.le_refl _⟩,⟨by repeat (first | (with_reducible first | exact HB.out | apply below_alloc | apply pw_below_drewN | apply below_drew1) | exact HB.out)⟩⟩
            · rw [if_neg c16] at H
              have c16b0 : (t660 == 0) = false := beq_eq_false_iff_ne.mpr c16
              have c16b1 : (t660 != 0) = true := bne_iff_ne.mpr c16
              (first | rw [c16b0] | (simp only [i64_w,i32_w];rw [c16b0]) | skip)
              have H' := Aside0.mk H
              clear H
              go_wp2
              go_meet
              case rel => exact ⟨_,(true),(by first | rfl | (simp;done) | (simp [*];done)),H',⟨by have := HJ2.out;first | omega | exact Nat.le_refl _⟩,⟨by repeat (first | (with_reducible first | exact HB.out | apply below_alloc | apply pw_below_drewN | apply below_drew1) | exact HB.out)⟩⟩
          case rest =>
            clear HC12
            try clear c1
            try clear p2
            try clear c3
            try clear c5
            try clear c6
            try clear c10
            try clear c10b0
            try clear c10b1
            try clear c16
            try clear c16b0
            try clear c16b1
            try clear p2
            obtain ⟨kq,x36_11,rfl,HA,HJ11,HB⟩ := hcut
            cases kq with
            | zero => exact absurd HA.out (by simp [verdererlaw04_PackBack.j1])
            | succ kj11 =>
              have H := HA.out
              clear HA
              simp only [verdererlaw04_PackBack.j1] at H
              by_cases c19 : x36_11 = true
              · subst c19
                have H1 : (none) = some r := by rw [if_pos rfl] at H;exact H
                clear H
                have H := H1
                clear H1
                exact absurd H (by simp)
              · replace c19 := Bool.eq_false_iff.mpr c19
                subst c19
                have H1 : ((pack_Back.f kj11 l1).bind fun bt662 => (if bt662.2 = 0 then ((pack_Row.f kj11 bt662.1).bind fun t666 => (if (strOfNums t666).toList = (strOfNums l1).toList then ((verdererlaw04_known.f kj11).bind fun t669 => (some t669)) else (none))) else ((verdererlaw04_known.f kj11).bind fun t670 => (some t670)))) = some r := by rw [if_neg (show ¬ (false = true) by decide)] at H;exact H
                clear H
                have H := H1
                clear H1
                replace H := Option.bind_eq_some_iff.mp H
                obtain ⟨⟨t662,t665⟩,A200,H⟩ := H
                replace H : (if t665 = 0 then ((pack_Row.f kj11 t662).bind fun t666 => (if (strOfNums t666).toList = (strOfNums l1).toList then ((verdererlaw04_known.f kj11).bind fun t669 => (some t669)) else (none))) else ((verdererlaw04_known.f kj11).bind fun t670 => (some t670))) = some r := H
                have A20 := Aside0.mk A200
                clear A200
                by_cases c21 : t665 = 0
                · rw [if_pos c21] at H
                  have c21b0 : (t665 == 0) = true := beq_iff_eq.mpr c21
                  have c21b1 : (t665 != 0) = false := bne_eq_false_iff_eq.mpr c21
                  clear c21
                  replace H := Option.bind_eq_some_iff.mp H
                  obtain ⟨t666,A220,H⟩ := H
                  replace H : (if (strOfNums t666).toList = (strOfNums l1).toList then ((verdererlaw04_known.f kj11).bind fun t669 => (some t669)) else (none)) = some r := H
                  have A22 := Aside0.mk A220
                  clear A220
                  by_cases c23 : (strOfNums t666).toList = (strOfNums l1).toList
                  · rw [if_pos c23] at H
                    have c23b0 : ((strOfNums t666).toList == (strOfNums l1).toList) = true := beq_iff_eq.mpr c23
                    have c23b1 : ((strOfNums t666).toList != (strOfNums l1).toList) = false := bne_eq_false_iff_eq.mpr c23
                    clear c23
                    replace H := Option.bind_eq_some_iff.mp H
                    obtain ⟨t669,A240,H⟩ := H
                    replace H : (some t669) = some r := H
                    have A24 := Aside0.mk A240
                    clear A240
                    obtain rfl := Option.some.inj H
                    try go_wp2_with (first | ((with_reducible refine gate_callee (f := 39) rfl ?_);refine goesL_ (some 39) rfl rfl Try.func39 (by kernel_rfl) rfl #[.slice A1 l1.length c1] rfl (by (try simp only [List.map_toArray,List.map_cons,List.map_nil]);first | done | rfl | (simp only [List.length_drop,List.length_take];rfl)) ?_;(with_reducible refine (pack_Back.calls kj11 (fun k_ => k_ < w.heap.size) _ _ l1 t662 t665 _ ?side1 A20.out).mono ?_);(case side1 => exact Kd.V_mk HC1.out (Kd.F_below (Kd.C_F (Kd.heap_int .u8) HR1.out) (by repeat (first | (with_reducible first | exact HB.out | apply below_alloc | apply pw_below_drewN | apply below_drew1) | exact HB.out))));rintro e w25 ⟨v663,rfl,ho0,hb⟩;refine ⟨_,rfl,?_⟩;have n0_ := Aside0.mk (Kd.R_lower (Kd.R_mono (ok' := fun k_ => True) ho0 (fun _ hk_ => trivial)) (below_size (by repeat (first | (with_reducible first | exact HB.out | apply below_alloc | apply pw_below_drewN | apply below_drew1) | exact HB.out))));have n1_ := Aside0.mk (below_step (by repeat (first | (with_reducible first | exact HB.out | apply below_alloc | apply pw_below_drewN | apply below_drew1) | exact HB.out)) hb);clear HB;have HO664 := n0_;have HB := n1_;clear n0_ n1_;(try clear hb);(try clear hb2);(try clear hk);(try clear hi);(try clear ho0);obtain ⟨Ao26,co26,eo26⟩ := Kd.R_slice HO664.out;subst eo26))
                    have n0_ := Aside0.mk (Kd.R_drew HO664.out)
                    have n1_ := Aside0.mk (below_drew1 HB.out)
                    clear HO664
                    clear HB
                    have HO664 := n0_
                    have HB := n1_
                    clear n0_ n1_
                    refine start_ (n := 14) (S := fun w' => (convert 47 9 (.slice A1 l1.length c1)).run Try.prog w' = .ok (.string (strOfNums l1)) w') (ds := []) #[false,false,false,false,false,false,false,false,false,false,false,false,false,false] (by kernel_rfl) rfl rfl (Kd.C_string (P := Try.prog) (A := A1) (c := c1) Try.underlying47 Try.underlying5 Try.underlying9 (Kd.C_below HR1.out HB.out)) (fun hHeld => ?_);refine with_tabW verdererlaw04_PackBack.tab9 verdererlaw04_PackBack.bits9 (fun HT_ HW_ => ?_)
                    generalize w25.drew = w27 at HO664 HB hHeld ⊢
                    refine pure_ (i := 0) (N := some 42) (v := ?_) (a' := ?_) #[true,false,false,false,false,false,false,false,false,false,false,false,false,false] rfl rfl (any_of HT_.out (by kernel_rfl)) (fun _ _ _ h => h) (Or.inl ⟨by rfl,?_⟩) ?_ ?_
                    rotate_left
                    · intro w'
                      go_simp
                      with_reducible rfl
                    rotate_left
                    · simp only [Act.put,zA,zB,zC,i64_w,i32_w]
                      rfl
                    refine pure_ (i := 1) (N := some 43) (v := ?_) (a' := ?_) #[true,true,false,false,false,false,false,false,false,false,false,false,false,false] rfl rfl (any_of HT_.out (by kernel_rfl)) (fun _ _ _ h => h) (Or.inl ⟨by rfl,?_⟩) ?_ ?_
                    rotate_left
                    · intro w'
                      go_simp
                      with_reducible rfl
                    rotate_left
                    · simp only [Act.put,zA,zB,zC,i64_w,i32_w]
                      rfl
                    refine pure_ (i := 2) (N := some 44) (v := ?_) (a' := ?_) #[true,true,true,false,false,false,false,false,false,false,false,false,false,false] rfl rfl (any_of HT_.out (by kernel_rfl)) (fun _ _ _ h => h) (Or.inl ⟨by rfl,?_⟩) ?_ ?_
                    rotate_left
                    · intro w'
                      go_simp
                      with_reducible rfl
                    rotate_left
                    · simp only [Act.put,zA,zB,zC,i64_w,i32_w]
                      rfl
                    refine pure_ (i := 3) (N := some 45) (v := ?_) (a' := ?_) #[true,true,true,true,false,false,false,false,false,false,false,false,false,false] rfl rfl (any_of HT_.out (by kernel_rfl)) (fun _ _ _ h => h) (Or.inl ⟨by rfl,?_⟩) ?_ ?_
                    rotate_left
                    · intro w'
                      go_simp
                      with_reducible rfl
                    rotate_left
                    · simp only [Act.put,zA,zB,zC,i64_w,i32_w]
                      rfl
                    refine pure_ (i := 6) (N := some 48) (v := ?_) (a' := ?_) #[true,true,true,true,false,false,true,false,false,false,false,false,false,false] rfl rfl (any_of HT_.out (by kernel_rfl)) (fun _ _ _ h => h) (Or.inl ⟨by rfl,?_⟩) ?_ ?_
                    rotate_left
                    · intro w'
                      go_simp
                      with_reducible rfl
                    rotate_left
                    · simp only [Act.put,zA,zB,zC,i64_w,i32_w]
                      rfl
                    refine take_ (i := 7) (N := some 49) (v := ?_) (a' := ?_) #[true,true,true,true,false,false,true,true,false,false,false,false,false,false] rfl rfl (take_ofW HT_.out HW_.out (by kernel_rfl)) (fun _ _ _ h => h) (Or.inl ⟨by rfl,?_⟩) hHeld ?_ ?_
                    rotate_left
                    · intro w' hcv_
                      go_simp
                      with_reducible rfl
                    rotate_left
                    · simp only [Act.put,zA,zB,zC,i64_w,i32_w]
                      rfl
                    refine one_ (i := 4) (N := some 46) #[true,true,true,true,true,false,true,true,false,false,false,false,false,false] rfl rfl (one_of HT_.out (by kernel_rfl)) (by decide) (fun K hK => ?_)
                    refine goes_ Try.func35 (by kernel_rfl) rfl #[.slice Ao26 t662.length co26] (by rfl) rfl rfl (by (try simp only [List.map_toArray,List.map_cons,List.map_nil]);first | done | rfl | (simp only [List.length_drop,List.length_take];rfl)) ?_
                    with_reducible refine (pack_Row.calls kj11 _ _ t662 t666 _ ?side1 ?side2 A22.out).mono ?_
                    (case side1 => repeat (first | exact (Kd.R_reads' HO664.out).2.2 | (with_reducible refine Kd.C_alloc ?_ _) | (with_reducible refine Kd.C_drewN ?_ _) | (with_reducible refine Kd.C_drew ?_)))
                    (case side2 => exact (Kd.R_reads' HO664.out).2.1)
                    rintro e w28 ⟨v667,rfl,ho0,hb⟩
                    refine ⟨_,rfl,?_⟩
                    have n0_ := Aside0.mk (Kd.R_below (by (with_reducible repeat (first | apply Kd.R_alloc | apply Kd.R_drewN | apply Kd.R_drew));exact HO664.out) hb)
                    have n1_ := Aside0.mk (Kd.R_lower ho0 (below_size (by repeat (first | (with_reducible first | exact HB.out | apply below_alloc | apply pw_below_drewN | apply below_drew1) | exact HB.out))))
                    have n2_ := Aside0.mk (below_step (by repeat (first | (with_reducible first | exact HB.out | apply below_alloc | apply pw_below_drewN | apply below_drew1) | exact HB.out)) hb)
                    clear HO664
                    clear HB
                    have HO664 := n0_
                    have HO668 := n1_
                    have HB := n2_
                    clear n0_ n1_ n2_
                    (try clear hb)
                    (try clear hb2)
                    (try clear hk)
                    (try clear hi)
                    (try clear ho0)
                    refine hK.out _ _ (Kd.C_string (P := Try.prog) (A := A1) (c := c1) Try.underlying47 Try.underlying5 Try.underlying9 (Kd.C_below HR1.out HB.out)) (fun hHeld => ?_)
                    clear hK K
                    refine norm_ (a' := ?_) ?_ ?_
                    rotate_left
                    · show Act.put _ (some 46) _ = _
                      simp only [Act.put,zA,zB,zC,i64_w,i32_w]
                      rfl
                    refine one_ (i := 5) (N := some 47) #[true,true,true,true,true,true,true,true,false,false,false,false,false,false] rfl rfl (one_of HT_.out (by kernel_rfl)) (by decide) (fun K hK => ?_)
                    have hcv29 := own_string (P := Try.prog) Try.underlying47 Try.underlying5 Try.underlying9 (Kd.own_of_R HO668.out)
                    refine value_ (w1 := ?_) (v := ?_) (by rfl) rfl ?_ ?_
                    rotate_left 2
                    · go_simp
                      constructor
                      · rfl
                      · rfl
                    clear hcv29
                    refine hK.out _ _ (Kd.C_string (P := Try.prog) (A := A1) (c := c1) Try.underlying47 Try.underlying5 Try.underlying9 (Kd.C_below HR1.out HB.out)) (fun hHeld => ?_)
                    clear hK K
                    refine norm_ (a' := ?_) ?_ ?_
                    rotate_left
                    · show Act.put _ (some 47) _ = _
                      simp only [Act.put,zA,zB,zC,i64_w,i32_w]
                      rfl
                    refine pure_ (i := 8) (N := some 50) (v := ?_) (a' := ?_) #[true,true,true,true,true,true,true,true,true,false,false,false,false,false] rfl rfl (any_of HT_.out (by kernel_rfl)) (fun _ _ _ h => h) (Or.inl ⟨by rfl,?_⟩) ?_ ?_
                    rotate_left
                    · intro w'
                      go_simp
                      with_reducible rfl
                    rotate_left
                    · simp only [Act.put,zA,zB,zC,i64_w,i32_w]
                      rfl
                    refine pure_ (i := 9) (N := some 51) (v := ?_) (a' := ?_) #[true,true,true,true,true,true,true,true,true,true,false,false,false,false] rfl rfl (any_of HT_.out (by kernel_rfl)) (fun _ _ _ h => h) (Or.inl ⟨by rfl,?_⟩) ?_ ?_
                    rotate_left
                    · intro w'
                      go_simp
                      with_reducible rfl
                    rotate_left
                    · simp only [Act.put,zA,zB,zC,i64_w,i32_w]
                      rfl
                    refine pure_ (i := 10) (N := some 52) (v := ?_) (a' := ?_) #[true,true,true,true,true,true,true,true,true,true,true,false,false,false] rfl rfl (any_of HT_.out (by kernel_rfl)) (fun _ _ _ h => h) (Or.inl ⟨by rfl,?_⟩) ?_ ?_
                    rotate_left
                    · intro w'
                      go_simp
                      with_reducible rfl
                    rotate_left
                    · simp only [Act.put,zA,zB,zC,i64_w,i32_w]
                      rfl
                    refine one_ (i := 11) (N := some 53) #[true,true,true,true,true,true,true,true,true,true,true,true,false,false] rfl rfl (one_of HT_.out (by kernel_rfl)) (by decide) (fun K hK => ?_)
                    refine goes_ Try.func32 (by kernel_rfl) rfl #[] (by rfl) rfl rfl (by (try simp only [List.map_toArray,List.map_cons,List.map_nil]);first | done | rfl | (simp only [List.length_drop,List.length_take];rfl)) ?_
                    with_reducible refine (verdererlaw04_known.calls kj11  t669 _ A24.out).mono ?_
                    rintro e w32 ⟨rfl,hb⟩
                    refine ⟨_,rfl,?_⟩
                    have n0_ := Aside0.mk (Kd.R_below (by (with_reducible repeat (first | apply Kd.R_alloc | apply Kd.R_drewN | apply Kd.R_drew));exact HO664.out) hb)
                    have n1_ := Aside0.mk (Kd.R_below (by (with_reducible repeat (first | apply Kd.R_alloc | apply Kd.R_drewN | apply Kd.R_drew));exact HO668.out) hb)
                    have n2_ := Aside0.mk (below_step (by repeat (first | (with_reducible first | exact HB.out | apply below_alloc | apply pw_below_drewN | apply below_drew1) | exact HB.out)) hb)
                    clear HO664
                    clear HO668
                    clear HB
                    have HO664 := n0_
                    have HO668 := n1_
                    have HB := n2_
                    clear n0_ n1_ n2_
                    (try clear hb)
                    (try clear hb2)
                    (try clear hk)
                    (try clear hi)
                    refine hK.out _ _ (Kd.C_string (P := Try.prog) (A := A1) (c := c1) Try.underlying47 Try.underlying5 Try.underlying9 (Kd.C_below HR1.out HB.out)) (fun hHeld => ?_)
                    clear hK K
                    refine norm_ (a' := ?_) ?_ ?_
                    rotate_left
                    · show Act.put _ (some 53) _ = _
                      simp only [Act.put,zA,zB,zC,i64_w,i32_w]
                      rfl
                    refine pure_ (i := 12) (N := some 54) (v := ?_) (a' := ?_) #[true,true,true,true,true,true,true,true,true,true,true,true,true,false] rfl rfl (any_of HT_.out (by kernel_rfl)) (fun _ _ _ h => h) (Or.inl ⟨by rfl,?_⟩) ?_ ?_
                    rotate_left
                    · intro w'
                      go_simp
                      with_reducible rfl
                    rotate_left
                    · simp only [Act.put,zA,zB,zC,i64_w,i32_w]
                      rfl
                    refine pure_ (i := 13) (N := some 4) (v := ?_) (a' := ?_) #[true,true,true,true,true,true,true,true,true,true,true,true,true,true] rfl rfl (any_of HT_.out (by kernel_rfl)) (fun _ _ _ h => h) (Or.inl ⟨by rfl,?_⟩) ?_ ?_
                    rotate_left
                    · intro w'
                      go_simp
                      with_reducible rfl
                    rotate_left
                    · simp only [Act.put,zA,zB,zC,i64_w,i32_w]
                      rfl
                    refine done_ (done_of HT_.out (by kernel_rfl)) ?_
                    try go_wp2
                    go_ret
                    exact ⟨by first | rfl | (simp [errW_none,errW_some] <;> rfl) | (simp [*,errW_none,errW_some] <;> rfl),by repeat (first | (with_reducible first | exact HB.out | apply below_alloc | apply pw_below_drewN | apply below_drew1) | exact HB.out)⟩
                  · rw [if_neg c23] at H
                    have c23b0 : ((strOfNums t666).toList == (strOfNums l1).toList) = false := beq_eq_false_iff_ne.mpr c23
                    have c23b1 : ((strOfNums t666).toList != (strOfNums l1).toList) = true := bne_iff_ne.mpr c23
                    exact absurd H (by simp)
                · rw [if_neg c21] at H
                  have c21b0 : (t665 == 0) = false := beq_eq_false_iff_ne.mpr c21
                  have c21b1 : (t665 != 0) = true := bne_iff_ne.mpr c21
                  replace H := Option.bind_eq_some_iff.mp H
                  obtain ⟨t670,A330,H⟩ := H
                  replace H : (some t670) = some r := H
                  have A33 := Aside0.mk A330
                  clear A330
                  obtain rfl := Option.some.inj H
                  try go_wp2_with (first | ((with_reducible refine gate_callee (f := 39) rfl ?_);refine goesL_ (some 39) rfl rfl Try.func39 (by kernel_rfl) rfl #[.slice A1 l1.length c1] rfl (by (try simp only [List.map_toArray,List.map_cons,List.map_nil]);first | done | rfl | (simp only [List.length_drop,List.length_take];rfl)) ?_;(with_reducible refine (pack_Back.calls kj11 (fun k_ => k_ < w.heap.size) _ _ l1 t662 t665 _ ?side1 A20.out).mono ?_);(case side1 => exact Kd.V_mk HC1.out (Kd.F_below (Kd.C_F (Kd.heap_int .u8) HR1.out) (by repeat (first | (with_reducible first | exact HB.out | apply below_alloc | apply pw_below_drewN | apply below_drew1) | exact HB.out))));rintro e w34 ⟨v663,rfl,ho0,hb⟩;refine ⟨_,rfl,?_⟩;have n0_ := Aside0.mk (Kd.R_lower (Kd.R_mono (ok' := fun k_ => True) ho0 (fun _ hk_ => trivial)) (below_size (by repeat (first | (with_reducible first | exact HB.out | apply below_alloc | apply pw_below_drewN | apply below_drew1) | exact HB.out))));have n1_ := Aside0.mk (below_step (by repeat (first | (with_reducible first | exact HB.out | apply below_alloc | apply pw_below_drewN | apply below_drew1) | exact HB.out)) hb);clear HB;have HO664 := n0_;have HB := n1_;clear n0_ n1_;(try clear hb);(try clear hb2);(try clear hk);(try clear hi);(try clear ho0)))
                  have n0_ := Aside0.mk (Kd.R_drew HO664.out)
                  have n1_ := Aside0.mk (below_drew1 HB.out)
                  clear HO664
                  clear HB
                  have HO664 := n0_
                  have HB := n1_
                  clear n0_ n1_
                  refine start_ (n := 14) (S := fun w' => True) (ds := []) #[false,false,false,false,false,false,false,false,false,false,false,false,false,false] (by kernel_rfl) rfl rfl trivial (fun hHeld => ?_);refine with_tabW verdererlaw04_PackBack.tab9 verdererlaw04_PackBack.bits9 (fun HT_ HW_ => ?_)
                  generalize w34.drew = w35 at HO664 HB hHeld ⊢
                  refine pure_ (i := 0) (N := some 42) (v := ?_) (a' := ?_) #[true,false,false,false,false,false,false,false,false,false,false,false,false,false] rfl rfl (any_of HT_.out (by kernel_rfl)) (fun _ _ _ h => h) (Or.inl ⟨by rfl,?_⟩) ?_ ?_
                  rotate_left
                  · intro w'
                    go_simp
                    with_reducible rfl
                  rotate_left
                  · simp only [Act.put,zA,zB,zC,i64_w,i32_w]
                    rfl
                  refine pure_ (i := 1) (N := some 43) (v := ?_) (a' := ?_) #[true,true,false,false,false,false,false,false,false,false,false,false,false,false] rfl rfl (any_of HT_.out (by kernel_rfl)) (fun _ _ _ h => h) (Or.inl ⟨by rfl,?_⟩) ?_ ?_
                  rotate_left
                  · intro w'
                    go_simp
                    with_reducible rfl
                  rotate_left
                  · simp only [Act.put,zA,zB,zC,i64_w,i32_w]
                    rfl
                  refine pure_ (i := 2) (N := some 44) (v := ?_) (a' := ?_) #[true,true,true,false,false,false,false,false,false,false,false,false,false,false] rfl rfl (any_of HT_.out (by kernel_rfl)) (fun _ _ _ h => h) (Or.inl ⟨by rfl,?_⟩) ?_ ?_
                  rotate_left
                  · intro w'
                    go_simp
                    with_reducible rfl
                  rotate_left
                  · simp only [Act.put,zA,zB,zC,i64_w,i32_w]
                    rfl
                  refine pure_ (i := 3) (N := some 45) (v := undef) (a' := ?_) #[true,true,true,true,false,false,false,false,false,false,false,false,false,false] rfl rfl (any_of HT_.out (by kernel_rfl)) (fun _ _ _ h => h) (Or.inr ⟨by rfl,rfl⟩) ?_ ?_
                  rotate_left
                  · simp only [Act.put,zA,zB,zC,i64_w,i32_w]
                    rfl
                  refine pure_ (i := 4) (N := some 46) (v := undef) (a' := ?_) #[true,true,true,true,true,false,false,false,false,false,false,false,false,false] rfl rfl (any_of HT_.out (by kernel_rfl)) (fun _ _ _ h => h) (Or.inr ⟨by rfl,rfl⟩) ?_ ?_
                  rotate_left
                  · simp only [Act.put,zA,zB,zC,i64_w,i32_w]
                    rfl
                  refine pure_ (i := 5) (N := some 47) (v := undef) (a' := ?_) #[true,true,true,true,true,true,false,false,false,false,false,false,false,false] rfl rfl (any_of HT_.out (by kernel_rfl)) (fun _ _ _ h => h) (Or.inr ⟨by rfl,rfl⟩) ?_ ?_
                  rotate_left
                  · simp only [Act.put,zA,zB,zC,i64_w,i32_w]
                    rfl
                  refine pure_ (i := 6) (N := some 48) (v := undef) (a' := ?_) #[true,true,true,true,true,true,true,false,false,false,false,false,false,false] rfl rfl (any_of HT_.out (by kernel_rfl)) (fun _ _ _ h => h) (Or.inr ⟨by rfl,rfl⟩) ?_ ?_
                  rotate_left
                  · simp only [Act.put,zA,zB,zC,i64_w,i32_w]
                    rfl
                  refine pure_ (i := 7) (N := some 49) (v := undef) (a' := ?_) #[true,true,true,true,true,true,true,true,false,false,false,false,false,false] rfl rfl (any_of HT_.out (by kernel_rfl)) (fun _ _ _ h => h) (Or.inr ⟨by rfl,rfl⟩) ?_ ?_
                  rotate_left
                  · simp only [Act.put,zA,zB,zC,i64_w,i32_w]
                    rfl
                  refine pure_ (i := 8) (N := some 50) (v := undef) (a' := ?_) #[true,true,true,true,true,true,true,true,true,false,false,false,false,false] rfl rfl (any_of HT_.out (by kernel_rfl)) (fun _ _ _ h => h) (Or.inr ⟨by rfl,rfl⟩) ?_ ?_
                  rotate_left
                  · simp only [Act.put,zA,zB,zC,i64_w,i32_w]
                    rfl
                  refine pure_ (i := 9) (N := some 51) (v := ?_) (a' := ?_) #[true,true,true,true,true,true,true,true,true,true,false,false,false,false] rfl rfl (any_of HT_.out (by kernel_rfl)) (fun _ _ _ h => h) (Or.inl ⟨by rfl,?_⟩) ?_ ?_
                  rotate_left
                  · intro w'
                    go_simp
                    with_reducible rfl
                  rotate_left
                  · simp only [Act.put,zA,zB,zC,i64_w,i32_w]
                    rfl
                  refine pure_ (i := 10) (N := some 52) (v := ?_) (a' := ?_) #[true,true,true,true,true,true,true,true,true,true,true,false,false,false] rfl rfl (any_of HT_.out (by kernel_rfl)) (fun _ _ _ h => h) (Or.inl ⟨by rfl,?_⟩) ?_ ?_
                  rotate_left
                  · intro w'
                    go_simp
                    with_reducible rfl
                  rotate_left
                  · simp only [Act.put,zA,zB,zC,i64_w,i32_w]
                    rfl
                  refine one_ (i := 11) (N := some 53) #[true,true,true,true,true,true,true,true,true,true,true,true,false,false] rfl rfl (one_of HT_.out (by kernel_rfl)) (by decide) (fun K hK => ?_)
                  refine goes_ Try.func32 (by kernel_rfl) rfl #[] (by rfl) rfl rfl (by (try simp only [List.map_toArray,List.map_cons,List.map_nil]);first | done | rfl | (simp only [List.length_drop,List.length_take];rfl)) ?_
                  with_reducible refine (verdererlaw04_known.calls kj11  t670 _ A33.out).mono ?_
                  rintro e w36 ⟨rfl,hb⟩
                  refine ⟨_,rfl,?_⟩
                  have n0_ := Aside0.mk (Kd.R_below (by (with_reducible repeat (first | apply Kd.R_alloc | apply Kd.R_drewN | apply Kd.R_drew));exact HO664.out) hb)
                  have n1_ := Aside0.mk (below_step (by repeat (first | (with_reducible first | exact HB.out | apply below_alloc | apply pw_below_drewN | apply below_drew1) | exact HB.out)) hb)
                  clear HO664
                  clear HB
                  have HO664 := n0_
                  have HB := n1_
                  clear n0_ n1_
                  (try clear hb)
                  (try clear hb2)
                  (try clear hk)
                  (try clear hi)
                  refine hK.out _ _ trivial (fun hHeld => ?_)
                  clear hK K
                  refine norm_ (a' := ?_) ?_ ?_
                  rotate_left
                  · show Act.put _ (some 53) _ = _
                    simp only [Act.put,zA,zB,zC,i64_w,i32_w]
                    rfl
                  refine pure_ (i := 12) (N := some 54) (v := ?_) (a' := ?_) #[true,true,true,true,true,true,true,true,true,true,true,true,true,false] rfl rfl (any_of HT_.out (by kernel_rfl)) (fun _ _ _ h => h) (Or.inl ⟨by rfl,?_⟩) ?_ ?_
                  rotate_left
                  · intro w'
                    go_simp
                    with_reducible rfl
                  rotate_left
                  · simp only [Act.put,zA,zB,zC,i64_w,i32_w]
                    rfl
                  refine pure_ (i := 13) (N := some 4) (v := ?_) (a' := ?_) #[true,true,true,true,true,true,true,true,true,true,true,true,true,true] rfl rfl (any_of HT_.out (by kernel_rfl)) (fun _ _ _ h => h) (Or.inl ⟨by rfl,?_⟩) ?_ ?_
                  rotate_left
                  · intro w'
                    go_simp
                    with_reducible rfl
                  rotate_left
                  · simp only [Act.put,zA,zB,zC,i64_w,i32_w]
                    rfl
                  refine done_ (done_of HT_.out (by kernel_rfl)) ?_
                  try go_wp2
                  go_ret
                  exact ⟨by first | rfl | (simp [errW_none,errW_some] <;> rfl) | (simp [*,errW_none,errW_some] <;> rfl),by repeat (first | (with_reducible first | exact HB.out | apply below_alloc | apply pw_below_drewN | apply below_drew1) | exact HB.out)⟩
        · rw [if_neg c10] at H
          have c10b0 : decide (0 < (t654.length : Int)) = false := decide_eq_false c10
          have c10b1 : decide (0 < t654.length) = false := decide_eq_false (by omega)
          clear c10
          replace H := Option.bind_eq_some_iff.mp H
          obtain ⟨⟨t671,t674⟩,A370,H⟩ := H
          replace H : (if t674 = 0 then ((pack_Row.f kj2 t671).bind fun t675 => (if (strOfNums t675).toList = (strOfNums l1).toList then ((verdererlaw04_known.f kj2).bind fun t678 => (some t678)) else (none))) else ((verdererlaw04_known.f kj2).bind fun t679 => (some t679))) = some r := H
          have A37 := Aside0.mk A370
          clear A370
          by_cases c38 : t674 = 0
          · rw [if_pos c38] at H
            have c38b0 : (t674 == 0) = true := beq_iff_eq.mpr c38
            have c38b1 : (t674 != 0) = false := bne_eq_false_iff_eq.mpr c38
            clear c38
            replace H := Option.bind_eq_some_iff.mp H
            obtain ⟨t675,A390,H⟩ := H
            replace H : (if (strOfNums t675).toList = (strOfNums l1).toList then ((verdererlaw04_known.f kj2).bind fun t678 => (some t678)) else (none)) = some r := H
            have A39 := Aside0.mk A390
            clear A390
            by_cases c40 : (strOfNums t675).toList = (strOfNums l1).toList
            · rw [if_pos c40] at H
              have c40b0 : ((strOfNums t675).toList == (strOfNums l1).toList) = true := beq_iff_eq.mpr c40
              have c40b1 : ((strOfNums t675).toList != (strOfNums l1).toList) = false := bne_eq_false_iff_eq.mpr c40
              clear c40
              replace H := Option.bind_eq_some_iff.mp H
              obtain ⟨t678,A410,H⟩ := H
              replace H : (some t678) = some r := H
              have A41 := Aside0.mk A410
              clear A410
              obtain rfl := Option.some.inj H
              try go_wp2_with (first | ((with_reducible refine gate_callee (f := 35) rfl ?_);refine goesL_ (some 20) rfl rfl Try.func35 (by kernel_rfl) rfl #[.slice A0 l0.length c0] rfl (by (try simp only [List.map_toArray,List.map_cons,List.map_nil]);first | done | rfl | (simp only [List.length_drop,List.length_take];rfl)) ?_;(with_reducible refine (pack_Row.calls kj2 _ _ l0 t654 _ ?side1 ?side2 A9.out).mono ?_);(case side1 => repeat (first | exact (Kd.C_below HR0.out HB.out) | (with_reducible refine Kd.C_alloc ?_ _) | (with_reducible refine Kd.C_drewN ?_ _) | (with_reducible refine Kd.C_drew ?_)));(case side2 => exact HC0.out);rintro e w42 ⟨v655,rfl,ho0,hb⟩;refine ⟨_,rfl,?_⟩;have n0_ := Aside0.mk (Kd.R_lower ho0 (below_size (by repeat (first | (with_reducible first | exact HB.out | apply below_alloc | apply pw_below_drewN | apply below_drew1) | exact HB.out))));have n1_ := Aside0.mk (below_step (by repeat (first | (with_reducible first | exact HB.out | apply below_alloc | apply pw_below_drewN | apply below_drew1) | exact HB.out)) hb);clear HB;have HO656 := n0_;have HB := n1_;clear n0_ n1_;(try clear hb);(try clear hb2);(try clear hk);(try clear hi);(try clear ho0);obtain ⟨Ao43,co43,eo43⟩ := Kd.R_slice HO656.out;subst eo43) | ((with_reducible refine gate_callee (f := 39) rfl ?_);refine goesL_ (some 39) rfl rfl Try.func39 (by kernel_rfl) rfl #[.slice A1 l1.length c1] rfl (by (try simp only [List.map_toArray,List.map_cons,List.map_nil]);first | done | rfl | (simp only [List.length_drop,List.length_take];rfl)) ?_;(with_reducible refine (pack_Back.calls kj2 (fun k_ => k_ < w.heap.size) _ _ l1 t671 t674 _ ?side1 A37.out).mono ?_);(case side1 => exact Kd.V_mk HC1.out (Kd.F_below (Kd.C_F (Kd.heap_int .u8) HR1.out) (by repeat (first | (with_reducible first | exact HB.out | apply below_alloc | apply pw_below_drewN | apply below_drew1) | exact HB.out))));rintro e w44 ⟨v672,rfl,ho0,hb⟩;refine ⟨_,rfl,?_⟩;have n0_ := Aside0.mk (Kd.R_below (by (with_reducible repeat (first | apply Kd.R_alloc | apply Kd.R_drewN | apply Kd.R_drew));exact HO656.out) hb);have n1_ := Aside0.mk (Kd.R_lower (Kd.R_mono (ok' := fun k_ => True) ho0 (fun _ hk_ => trivial)) (below_size (by repeat (first | (with_reducible first | exact HB.out | apply below_alloc | apply pw_below_drewN | apply below_drew1) | exact HB.out))));have n2_ := Aside0.mk (below_step (by repeat (first | (with_reducible first | exact HB.out | apply below_alloc | apply pw_below_drewN | apply below_drew1) | exact HB.out)) hb);clear HO656;clear HB;have HO656 := n0_;have HO673 := n1_;have HB := n2_;clear n0_ n1_ n2_;(try clear hb);(try clear hb2);(try clear hk);(try clear hi);(try clear ho0);obtain ⟨Ao45,co45,eo45⟩ := Kd.R_slice HO673.out;subst eo45))
              have n0_ := Aside0.mk (Kd.R_drew HO656.out)
              have n1_ := Aside0.mk (Kd.R_drew HO673.out)
              have n2_ := Aside0.mk (below_drew1 HB.out)
              clear HO656
              clear HO673
              clear HB
              have HO656 := n0_
              have HO673 := n1_
              have HB := n2_
              clear n0_ n1_ n2_
              refine start_ (n := 14) (S := fun w' => (convert 47 9 (.slice A1 l1.length c1)).run Try.prog w' = .ok (.string (strOfNums l1)) w') (ds := []) #[false,false,false,false,false,false,false,false,false,false,false,false,false,false] (by kernel_rfl) rfl rfl (Kd.C_string (P := Try.prog) (A := A1) (c := c1) Try.underlying47 Try.underlying5 Try.underlying9 (Kd.C_below HR1.out HB.out)) (fun hHeld => ?_);refine with_tabW verdererlaw04_PackBack.tab9 verdererlaw04_PackBack.bits9 (fun HT_ HW_ => ?_)
              generalize w44.drew = w46 at HO656 HO673 HB hHeld ⊢
              refine pure_ (i := 0) (N := some 42) (v := ?_) (a' := ?_) #[true,false,false,false,false,false,false,false,false,false,false,false,false,false] rfl rfl (any_of HT_.out (by kernel_rfl)) (fun _ _ _ h => h) (Or.inl ⟨by rfl,?_⟩) ?_ ?_
              rotate_left
              · intro w'
                go_simp
                with_reducible rfl
              rotate_left
              · simp only [Act.put,zA,zB,zC,i64_w,i32_w]
                rfl
              refine pure_ (i := 1) (N := some 43) (v := ?_) (a' := ?_) #[true,true,false,false,false,false,false,false,false,false,false,false,false,false] rfl rfl (any_of HT_.out (by kernel_rfl)) (fun _ _ _ h => h) (Or.inl ⟨by rfl,?_⟩) ?_ ?_
              rotate_left
              · intro w'
                go_simp
                with_reducible rfl
              rotate_left
              · simp only [Act.put,zA,zB,zC,i64_w,i32_w]
                rfl
              refine pure_ (i := 2) (N := some 44) (v := ?_) (a' := ?_) #[true,true,true,false,false,false,false,false,false,false,false,false,false,false] rfl rfl (any_of HT_.out (by kernel_rfl)) (fun _ _ _ h => h) (Or.inl ⟨by rfl,?_⟩) ?_ ?_
              rotate_left
              · intro w'
                go_simp
                with_reducible rfl
              rotate_left
              · simp only [Act.put,zA,zB,zC,i64_w,i32_w]
                rfl
              refine pure_ (i := 3) (N := some 45) (v := ?_) (a' := ?_) #[true,true,true,true,false,false,false,false,false,false,false,false,false,false] rfl rfl (any_of HT_.out (by kernel_rfl)) (fun _ _ _ h => h) (Or.inl ⟨by rfl,?_⟩) ?_ ?_
              rotate_left
              · intro w'
                go_simp
                with_reducible rfl
              rotate_left
              · simp only [Act.put,zA,zB,zC,i64_w,i32_w]
                rfl
              refine pure_ (i := 6) (N := some 48) (v := ?_) (a' := ?_) #[true,true,true,true,false,false,true,false,false,false,false,false,false,false] rfl rfl (any_of HT_.out (by kernel_rfl)) (fun _ _ _ h => h) (Or.inl ⟨by rfl,?_⟩) ?_ ?_
              rotate_left
              · intro w'
                go_simp
                with_reducible rfl
              rotate_left
              · simp only [Act.put,zA,zB,zC,i64_w,i32_w]
                rfl
              refine take_ (i := 7) (N := some 49) (v := ?_) (a' := ?_) #[true,true,true,true,false,false,true,true,false,false,false,false,false,false] rfl rfl (take_ofW HT_.out HW_.out (by kernel_rfl)) (fun _ _ _ h => h) (Or.inl ⟨by rfl,?_⟩) hHeld ?_ ?_
              rotate_left
              · intro w' hcv_
                go_simp
                with_reducible rfl
              rotate_left
              · simp only [Act.put,zA,zB,zC,i64_w,i32_w]
                rfl
              refine one_ (i := 4) (N := some 46) #[true,true,true,true,true,false,true,true,false,false,false,false,false,false] rfl rfl (one_of HT_.out (by kernel_rfl)) (by decide) (fun K hK => ?_)
              refine goes_ Try.func35 (by kernel_rfl) rfl #[.slice Ao45 t671.length co45] (by rfl) rfl rfl (by (try simp only [List.map_toArray,List.map_cons,List.map_nil]);first | done | rfl | (simp only [List.length_drop,List.length_take];rfl)) ?_
              with_reducible refine (pack_Row.calls kj2 _ _ t671 t675 _ ?side1 ?side2 A39.out).mono ?_
              (case side1 => repeat (first | exact (Kd.R_reads' HO673.out).2.2 | (with_reducible refine Kd.C_alloc ?_ _) | (with_reducible refine Kd.C_drewN ?_ _) | (with_reducible refine Kd.C_drew ?_)))
              (case side2 => exact (Kd.R_reads' HO673.out).2.1)
              rintro e w47 ⟨v676,rfl,ho0,hb⟩
              refine ⟨_,rfl,?_⟩
              have n0_ := Aside0.mk (Kd.R_elder' (by (with_reducible repeat (first | apply Kd.R_alloc | apply Kd.R_drewN | apply Kd.R_drew));exact HO656.out) (Kd.R_base ho0) hb)
              have n1_ := Aside0.mk (Kd.R_below (by (with_reducible repeat (first | apply Kd.R_alloc | apply Kd.R_drewN | apply Kd.R_drew));exact HO673.out) hb)
              have n2_ := Aside0.mk (Kd.R_lower (Kd.R_new' ho0 (Kd.R_lt (by (with_reducible repeat (first | apply Kd.R_alloc | apply Kd.R_drewN | apply Kd.R_drew));exact HO656.out))) (below_size (by repeat (first | (with_reducible first | exact HB.out | apply below_alloc | apply pw_below_drewN | apply below_drew1) | exact HB.out))))
              have n3_ := Aside0.mk (below_step (by repeat (first | (with_reducible first | exact HB.out | apply below_alloc | apply pw_below_drewN | apply below_drew1) | exact HB.out)) hb)
              clear HO656
              clear HO673
              clear HB
              have HO656 := n0_
              have HO673 := n1_
              have HO677 := n2_
              have HB := n3_
              clear n0_ n1_ n2_ n3_
              (try clear hb)
              (try clear hb2)
              (try clear hk)
              (try clear hi)
              (try clear ho0)
              refine hK.out _ _ (Kd.C_string (P := Try.prog) (A := A1) (c := c1) Try.underlying47 Try.underlying5 Try.underlying9 (Kd.C_below HR1.out HB.out)) (fun hHeld => ?_)
              clear hK K
              refine norm_ (a' := ?_) ?_ ?_
              rotate_left
              · show Act.put _ (some 46) _ = _
                simp only [Act.put,zA,zB,zC,i64_w,i32_w]
                rfl
              refine one_ (i := 5) (N := some 47) #[true,true,true,true,true,true,true,true,false,false,false,false,false,false] rfl rfl (one_of HT_.out (by kernel_rfl)) (by decide) (fun K hK => ?_)
              have hcv48 := own_string (P := Try.prog) Try.underlying47 Try.underlying5 Try.underlying9 (Kd.own_of_R HO677.out)
              refine value_ (w1 := ?_) (v := ?_) (by rfl) rfl ?_ ?_
              rotate_left 2
              · go_simp
                constructor
                · rfl
                · rfl
              clear hcv48
              refine hK.out _ _ (Kd.C_string (P := Try.prog) (A := A1) (c := c1) Try.underlying47 Try.underlying5 Try.underlying9 (Kd.C_below HR1.out HB.out)) (fun hHeld => ?_)
              clear hK K
              refine norm_ (a' := ?_) ?_ ?_
              rotate_left
              · show Act.put _ (some 47) _ = _
                simp only [Act.put,zA,zB,zC,i64_w,i32_w]
                rfl
              refine pure_ (i := 8) (N := some 50) (v := ?_) (a' := ?_) #[true,true,true,true,true,true,true,true,true,false,false,false,false,false] rfl rfl (any_of HT_.out (by kernel_rfl)) (fun _ _ _ h => h) (Or.inl ⟨by rfl,?_⟩) ?_ ?_
              rotate_left
              · intro w'
                go_simp
                with_reducible rfl
              rotate_left
              · simp only [Act.put,zA,zB,zC,i64_w,i32_w]
                rfl
              refine pure_ (i := 9) (N := some 51) (v := ?_) (a' := ?_) #[true,true,true,true,true,true,true,true,true,true,false,false,false,false] rfl rfl (any_of HT_.out (by kernel_rfl)) (fun _ _ _ h => h) (Or.inl ⟨by rfl,?_⟩) ?_ ?_
              rotate_left
              · intro w'
                go_simp
                with_reducible rfl
              rotate_left
              · simp only [Act.put,zA,zB,zC,i64_w,i32_w]
                rfl
              refine pure_ (i := 10) (N := some 52) (v := ?_) (a' := ?_) #[true,true,true,true,true,true,true,true,true,true,true,false,false,false] rfl rfl (any_of HT_.out (by kernel_rfl)) (fun _ _ _ h => h) (Or.inl ⟨by rfl,?_⟩) ?_ ?_
              rotate_left
              · intro w'
                go_simp
                with_reducible rfl
              rotate_left
              · simp only [Act.put,zA,zB,zC,i64_w,i32_w]
                rfl
              refine one_ (i := 11) (N := some 53) #[true,true,true,true,true,true,true,true,true,true,true,true,false,false] rfl rfl (one_of HT_.out (by kernel_rfl)) (by decide) (fun K hK => ?_)
              refine goes_ Try.func32 (by kernel_rfl) rfl #[] (by rfl) rfl rfl (by (try simp only [List.map_toArray,List.map_cons,List.map_nil]);first | done | rfl | (simp only [List.length_drop,List.length_take];rfl)) ?_
              with_reducible refine (verdererlaw04_known.calls kj2  t678 _ A41.out).mono ?_
              rintro e w51 ⟨rfl,hb⟩
              refine ⟨_,rfl,?_⟩
              have n0_ := Aside0.mk (Kd.R_below (by (with_reducible repeat (first | apply Kd.R_alloc | apply Kd.R_drewN | apply Kd.R_drew));exact HO656.out) hb)
              have n1_ := Aside0.mk (Kd.R_below (by (with_reducible repeat (first | apply Kd.R_alloc | apply Kd.R_drewN | apply Kd.R_drew));exact HO673.out) hb)
              have n2_ := Aside0.mk (Kd.R_below (by (with_reducible repeat (first | apply Kd.R_alloc | apply Kd.R_drewN | apply Kd.R_drew));exact HO677.out) hb)
              have n3_ := Aside0.mk (below_step (by repeat (first | (with_reducible first | exact HB.out | apply below_alloc | apply pw_below_drewN | apply below_drew1) | exact HB.out)) hb)
              clear HO656
              clear HO673
              clear HO677
              clear HB
              have HO656 := n0_
              have HO673 := n1_
              have HO677 := n2_
              have HB := n3_
              clear n0_ n1_ n2_ n3_
              (try clear hb)
              (try clear hb2)
              (try clear hk)
              (try clear hi)
              refine hK.out _ _ (Kd.C_string (P := Try.prog) (A := A1) (c := c1) Try.underlying47 Try.underlying5 Try.underlying9 (Kd.C_below HR1.out HB.out)) (fun hHeld => ?_)
              clear hK K
              refine norm_ (a' := ?_) ?_ ?_
              rotate_left
              · show Act.put _ (some 53) _ = _
                simp only [Act.put,zA,zB,zC,i64_w,i32_w]
                rfl
              refine pure_ (i := 12) (N := some 54) (v := ?_) (a' := ?_) #[true,true,true,true,true,true,true,true,true,true,true,true,true,false] rfl rfl (any_of HT_.out (by kernel_rfl)) (fun _ _ _ h => h) (Or.inl ⟨by rfl,?_⟩) ?_ ?_
              rotate_left
              · intro w'
                go_simp
                with_reducible rfl
              rotate_left
              · simp only [Act.put,zA,zB,zC,i64_w,i32_w]
                rfl
              refine pure_ (i := 13) (N := some 4) (v := ?_) (a' := ?_) #[true,true,true,true,true,true,true,true,true,true,true,true,true,true] rfl rfl (any_of HT_.out (by kernel_rfl)) (fun _ _ _ h => h) (Or.inl ⟨by rfl,?_⟩) ?_ ?_
              rotate_left
              · intro w'
                go_simp
                with_reducible rfl
              rotate_left
              · simp only [Act.put,zA,zB,zC,i64_w,i32_w]
                rfl
              refine done_ (done_of HT_.out (by kernel_rfl)) ?_
              try go_wp2
              go_ret
              exact ⟨by first | rfl | (simp [errW_none,errW_some] <;> rfl) | (simp [*,errW_none,errW_some] <;> rfl),by repeat (first | (with_reducible first | exact HB.out | apply below_alloc | apply pw_below_drewN | apply below_drew1) | exact HB.out)⟩
            · rw [if_neg c40] at H
              have c40b0 : ((strOfNums t675).toList == (strOfNums l1).toList) = false := beq_eq_false_iff_ne.mpr c40
              have c40b1 : ((strOfNums t675).toList != (strOfNums l1).toList) = true := bne_iff_ne.mpr c40
              exact absurd H (by simp)
          · rw [if_neg c38] at H
            have c38b0 : (t674 == 0) = false := beq_eq_false_iff_ne.mpr c38
            have c38b1 : (t674 != 0) = true := bne_iff_ne.mpr c38
            replace H := Option.bind_eq_some_iff.mp H
            obtain ⟨t679,A520,H⟩ := H
            replace H : (some t679) = some r := H
            have A52 := Aside0.mk A520
            clear A520
            obtain rfl := Option.some.inj H
            try go_wp2_with (first | ((with_reducible refine gate_callee (f := 35) rfl ?_);refine goesL_ (some 20) rfl rfl Try.func35 (by kernel_rfl) rfl #[.slice A0 l0.length c0] rfl (by (try simp only [List.map_toArray,List.map_cons,List.map_nil]);first | done | rfl | (simp only [List.length_drop,List.length_take];rfl)) ?_;(with_reducible refine (pack_Row.calls kj2 _ _ l0 t654 _ ?side1 ?side2 A9.out).mono ?_);(case side1 => repeat (first | exact (Kd.C_below HR0.out HB.out) | (with_reducible refine Kd.C_alloc ?_ _) | (with_reducible refine Kd.C_drewN ?_ _) | (with_reducible refine Kd.C_drew ?_)));(case side2 => exact HC0.out);rintro e w53 ⟨v655,rfl,ho0,hb⟩;refine ⟨_,rfl,?_⟩;have n0_ := Aside0.mk (Kd.R_lower ho0 (below_size (by repeat (first | (with_reducible first | exact HB.out | apply below_alloc | apply pw_below_drewN | apply below_drew1) | exact HB.out))));have n1_ := Aside0.mk (below_step (by repeat (first | (with_reducible first | exact HB.out | apply below_alloc | apply pw_below_drewN | apply below_drew1) | exact HB.out)) hb);clear HB;have HO656 := n0_;have HB := n1_;clear n0_ n1_;(try clear hb);(try clear hb2);(try clear hk);(try clear hi);(try clear ho0);obtain ⟨Ao54,co54,eo54⟩ := Kd.R_slice HO656.out;subst eo54) | ((with_reducible refine gate_callee (f := 39) rfl ?_);refine goesL_ (some 39) rfl rfl Try.func39 (by kernel_rfl) rfl #[.slice A1 l1.length c1] rfl (by (try simp only [List.map_toArray,List.map_cons,List.map_nil]);first | done | rfl | (simp only [List.length_drop,List.length_take];rfl)) ?_;(with_reducible refine (pack_Back.calls kj2 (fun k_ => k_ < w.heap.size) _ _ l1 t671 t674 _ ?side1 A37.out).mono ?_);(case side1 => exact Kd.V_mk HC1.out (Kd.F_below (Kd.C_F (Kd.heap_int .u8) HR1.out) (by repeat (first | (with_reducible first | exact HB.out | apply below_alloc | apply pw_below_drewN | apply below_drew1) | exact HB.out))));rintro e w55 ⟨v672,rfl,ho0,hb⟩;refine ⟨_,rfl,?_⟩;have n0_ := Aside0.mk (Kd.R_below (by (with_reducible repeat (first | apply Kd.R_alloc | apply Kd.R_drewN | apply Kd.R_drew));exact HO656.out) hb);have n1_ := Aside0.mk (Kd.R_lower (Kd.R_mono (ok' := fun k_ => True) ho0 (fun _ hk_ => trivial)) (below_size (by repeat (first | (with_reducible first | exact HB.out | apply below_alloc | apply pw_below_drewN | apply below_drew1) | exact HB.out))));have n2_ := Aside0.mk (below_step (by repeat (first | (with_reducible first | exact HB.out | apply below_alloc | apply pw_below_drewN | apply below_drew1) | exact HB.out)) hb);clear HO656;clear HB;have HO656 := n0_;have HO673 := n1_;have HB := n2_;clear n0_ n1_ n2_;(try clear hb);(try clear hb2);(try clear hk);(try clear hi);(try clear ho0)))
            have n0_ := Aside0.mk (Kd.R_drew HO656.out)
            have n1_ := Aside0.mk (Kd.R_drew HO673.out)
            have n2_ := Aside0.mk (below_drew1 HB.out)
            clear HO656
            clear HO673
            clear HB
            have HO656 := n0_
            have HO673 := n1_
            have HB := n2_
            clear n0_ n1_ n2_
            refine start_ (n := 14) (S := fun w' => True) (ds := []) #[false,false,false,false,false,false,false,false,false,false,false,false,false,false] (by kernel_rfl) rfl rfl trivial (fun hHeld => ?_);refine with_tabW verdererlaw04_PackBack.tab9 verdererlaw04_PackBack.bits9 (fun HT_ HW_ => ?_)
            generalize w55.drew = w56 at HO656 HO673 HB hHeld ⊢
            refine pure_ (i := 0) (N := some 42) (v := ?_) (a' := ?_) #[true,false,false,false,false,false,false,false,false,false,false,false,false,false] rfl rfl (any_of HT_.out (by kernel_rfl)) (fun _ _ _ h => h) (Or.inl ⟨by rfl,?_⟩) ?_ ?_
            rotate_left
            · intro w'
              go_simp
              with_reducible rfl
            rotate_left
            · simp only [Act.put,zA,zB,zC,i64_w,i32_w]
              rfl
            refine pure_ (i := 1) (N := some 43) (v := ?_) (a' := ?_) #[true,true,false,false,false,false,false,false,false,false,false,false,false,false] rfl rfl (any_of HT_.out (by kernel_rfl)) (fun _ _ _ h => h) (Or.inl ⟨by rfl,?_⟩) ?_ ?_
            rotate_left
            · intro w'
              go_simp
              with_reducible rfl
            rotate_left
            · simp only [Act.put,zA,zB,zC,i64_w,i32_w]
              rfl
            refine pure_ (i := 2) (N := some 44) (v := ?_) (a' := ?_) #[true,true,true,false,false,false,false,false,false,false,false,false,false,false] rfl rfl (any_of HT_.out (by kernel_rfl)) (fun _ _ _ h => h) (Or.inl ⟨by rfl,?_⟩) ?_ ?_
            rotate_left
            · intro w'
              go_simp
              with_reducible rfl
            rotate_left
            · simp only [Act.put,zA,zB,zC,i64_w,i32_w]
              rfl
            refine pure_ (i := 3) (N := some 45) (v := undef) (a' := ?_) #[true,true,true,true,false,false,false,false,false,false,false,false,false,false] rfl rfl (any_of HT_.out (by kernel_rfl)) (fun _ _ _ h => h) (Or.inr ⟨by rfl,rfl⟩) ?_ ?_
            rotate_left
            · simp only [Act.put,zA,zB,zC,i64_w,i32_w]
              rfl
            refine pure_ (i := 4) (N := some 46) (v := undef) (a' := ?_) #[true,true,true,true,true,false,false,false,false,false,false,false,false,false] rfl rfl (any_of HT_.out (by kernel_rfl)) (fun _ _ _ h => h) (Or.inr ⟨by rfl,rfl⟩) ?_ ?_
            rotate_left
            · simp only [Act.put,zA,zB,zC,i64_w,i32_w]
              rfl
            refine pure_ (i := 5) (N := some 47) (v := undef) (a' := ?_) #[true,true,true,true,true,true,false,false,false,false,false,false,false,false] rfl rfl (any_of HT_.out (by kernel_rfl)) (fun _ _ _ h => h) (Or.inr ⟨by rfl,rfl⟩) ?_ ?_
            rotate_left
            · simp only [Act.put,zA,zB,zC,i64_w,i32_w]
              rfl
            refine pure_ (i := 6) (N := some 48) (v := undef) (a' := ?_) #[true,true,true,true,true,true,true,false,false,false,false,false,false,false] rfl rfl (any_of HT_.out (by kernel_rfl)) (fun _ _ _ h => h) (Or.inr ⟨by rfl,rfl⟩) ?_ ?_
            rotate_left
            · simp only [Act.put,zA,zB,zC,i64_w,i32_w]
              rfl
            refine pure_ (i := 7) (N := some 49) (v := undef) (a' := ?_) #[true,true,true,true,true,true,true,true,false,false,false,false,false,false] rfl rfl (any_of HT_.out (by kernel_rfl)) (fun _ _ _ h => h) (Or.inr ⟨by rfl,rfl⟩) ?_ ?_
            rotate_left
            · simp only [Act.put,zA,zB,zC,i64_w,i32_w]
              rfl
            refine pure_ (i := 8) (N := some 50) (v := undef) (a' := ?_) #[true,true,true,true,true,true,true,true,true,false,false,false,false,false] rfl rfl (any_of HT_.out (by kernel_rfl)) (fun _ _ _ h => h) (Or.inr ⟨by rfl,rfl⟩) ?_ ?_
            rotate_left
            · simp only [Act.put,zA,zB,zC,i64_w,i32_w]
              rfl
            refine pure_ (i := 9) (N := some 51) (v := ?_) (a' := ?_) #[true,true,true,true,true,true,true,true,true,true,false,false,false,false] rfl rfl (any_of HT_.out (by kernel_rfl)) (fun _ _ _ h => h) (Or.inl ⟨by rfl,?_⟩) ?_ ?_
            rotate_left
            · intro w'
              go_simp
              with_reducible rfl
            rotate_left
            · simp only [Act.put,zA,zB,zC,i64_w,i32_w]
              rfl
            refine pure_ (i := 10) (N := some 52) (v := ?_) (a' := ?_) #[true,true,true,true,true,true,true,true,true,true,true,false,false,false] rfl rfl (any_of HT_.out (by kernel_rfl)) (fun _ _ _ h => h) (Or.inl ⟨by rfl,?_⟩) ?_ ?_
            rotate_left
            · intro w'
              go_simp
              with_reducible rfl
            rotate_left
            · simp only [Act.put,zA,zB,zC,i64_w,i32_w]
              rfl
            refine one_ (i := 11) (N := some 53) #[true,true,true,true,true,true,true,true,true,true,true,true,false,false] rfl rfl (one_of HT_.out (by kernel_rfl)) (by decide) (fun K hK => ?_)
            refine goes_ Try.func32 (by kernel_rfl) rfl #[] (by rfl) rfl rfl (by (try simp only [List.map_toArray,List.map_cons,List.map_nil]);first | done | rfl | (simp only [List.length_drop,List.length_take];rfl)) ?_
            with_reducible refine (verdererlaw04_known.calls kj2  t679 _ A52.out).mono ?_
            rintro e w57 ⟨rfl,hb⟩
            refine ⟨_,rfl,?_⟩
            have n0_ := Aside0.mk (Kd.R_below (by (with_reducible repeat (first | apply Kd.R_alloc | apply Kd.R_drewN | apply Kd.R_drew));exact HO656.out) hb)
            have n1_ := Aside0.mk (Kd.R_below (by (with_reducible repeat (first | apply Kd.R_alloc | apply Kd.R_drewN | apply Kd.R_drew));exact HO673.out) hb)
            have n2_ := Aside0.mk (below_step (by repeat (first | (with_reducible first | exact HB.out | apply below_alloc | apply pw_below_drewN | apply below_drew1) | exact HB.out)) hb)
            clear HO656
            clear HO673
            clear HB
            have HO656 := n0_
            have HO673 := n1_
            have HB := n2_
            clear n0_ n1_ n2_
            (try clear hb)
            (try clear hb2)
            (try clear hk)
            (try clear hi)
            refine hK.out _ _ trivial (fun hHeld => ?_)
            clear hK K
            refine norm_ (a' := ?_) ?_ ?_
            rotate_left
            · show Act.put _ (some 53) _ = _
              simp only [Act.put,zA,zB,zC,i64_w,i32_w]
              rfl
            refine pure_ (i := 12) (N := some 54) (v := ?_) (a' := ?_) #[true,true,true,true,true,true,true,true,true,true,true,true,true,false] rfl rfl (any_of HT_.out (by kernel_rfl)) (fun _ _ _ h => h) (Or.inl ⟨by rfl,?_⟩) ?_ ?_
            rotate_left
            · intro w'
              go_simp
              with_reducible rfl
            rotate_left
            · simp only [Act.put,zA,zB,zC,i64_w,i32_w]
              rfl
            refine pure_ (i := 13) (N := some 4) (v := ?_) (a' := ?_) #[true,true,true,true,true,true,true,true,true,true,true,true,true,true] rfl rfl (any_of HT_.out (by kernel_rfl)) (fun _ _ _ h => h) (Or.inl ⟨by rfl,?_⟩) ?_ ?_
            rotate_left
            · intro w'
              go_simp
              with_reducible rfl
            rotate_left
            · simp only [Act.put,zA,zB,zC,i64_w,i32_w]
              rfl
            refine done_ (done_of HT_.out (by kernel_rfl)) ?_
            try go_wp2
            go_ret
            exact ⟨by first | rfl | (simp [errW_none,errW_some] <;> rfl) | (simp [*,errW_none,errW_some] <;> rfl),by repeat (first | (with_reducible first | exact HB.out | apply below_alloc | apply pw_below_drewN | apply below_drew1) | exact HB.out)⟩
end Go.Proofs.Ytfoaeigoajooeaa.Z
end
section
namespace Go.Proofs.YtfoaeigoajooeaaW.PrintWords
open Go.RowKit Go.ChangeShapes Go.WideShapes
section
variable {P : Program} {α β : Type}
def OfTrod (P : Program) (t : TypeId) (d : Kd α) (G : α → Prop) : Prop :=
  ∀ (H : Type) (enc : TypeId × Value → H) (w : World) (base : Nat) (spare : Nat → Bool) (held : Bool) (fuel : Nat) (cs : List Value) (x : DataW H × List MemPlace),DataW.trod enc P w base spare held fuel t cs = some x → ∃ s,d.K w s cs ∧ G s
theorem ofTrod_int {t : TypeId} {k : IntKind} (ht : P.underlying t = some (.int k)) : OfTrod P t (Kd.int k) (fun n => (Lit.int k n).wf = true) := by
  intro H enc w base spare held fuel cs x h
  obtain ⟨n,rfl,_,hw⟩ := DataW.trod_int ht h
  exact ⟨n,rfl,hw⟩
theorem ofTrod_bool {t : TypeId} (ht : P.underlying t = some .bool) : OfTrod P t Kd.bool (fun _ => True) := by
  intro H enc w base spare held fuel cs x h
  obtain ⟨b,rfl,_⟩ := DataW.trod_bool ht h
  exact ⟨b,rfl,trivial⟩
theorem ofTrod_string {t : TypeId} (ht : P.underlying t = some .string) : OfTrod P t Kd.string (fun s => s.size ≤ maxLen) := by
  intro H enc w base spare held fuel cs x h
  obtain ⟨s,rfl,_,hs⟩ := DataW.trod_string ht h
  exact ⟨s,rfl,hs⟩
theorem list_of_all {n : Nat} {Q : Nat → α → Prop} (h : ∀ i,i < n → ∃ x,Q i x) : ∃ xs : List α,xs.length = n ∧ ∀ i x,xs[i]? = some x → Q i x := by
  induction n with
  | zero => exact ⟨[],rfl,fun i x hx => by simp at hx⟩
  | succ n ih =>
    obtain ⟨xs,hl,hx⟩ := ih (fun i hi => h i (by omega))
    obtain ⟨y,hy⟩ := h n (by omega)
    refine ⟨xs ++ [y],by simp [hl],fun i x hi => ?_⟩
    rcases Nat.lt_trichotomy i xs.length with hlt | rfl | hgt
    · rw [List.getElem?_append_left hlt] at hi
      exact hx i x hi
    · rw [List.getElem?_append_right (Nat.le_refl _)] at hi
      simp at hi
      subst hi
      rw [hl]
      exact hy
    · rw [List.getElem?_append_right (by omega),List.getElem?_eq_none (by simp;omega)] at hi
      cases hi
theorem ofTrod_slice {t e : TypeId} {d : Kd α} {G : α → Prop} (ht : P.underlying t = some (.slice e)) (hc : P.cellsOf e = d.sz) (h : OfTrod P e d G) :
    OfTrod P t (Kd.slice e d) (fun l => l.length ≤ maxLen ∧ ∀ x ∈ l,G x) := by
  intro H enc w base spare held fuel cs x hx
  rcases Go.Deep.open_slice ht hx with ⟨rfl,_⟩ | ⟨a,len,cap,m,n,D,Pl,rfl,_,hl,hm,hmm,_,hel⟩
  · exact ⟨[],⟨none,0,rfl,Nat.le_refl _,Kd.C_nil d w⟩,by simp,fun x hx => by simp at hx⟩
  · have hlm : len ≤ m := by rw [hmm];split <;> omega
    obtain ⟨xs,hxl,hxs⟩ := list_of_all (n := len) (Q := fun i s => ∃ cs',w.cells? base (a.add (i * P.cellsOf e)) (P.cellsOf e) = some cs' ∧ d.K w s cs' ∧ G s) (fun i hi => by
      obtain ⟨cs',h1,h2⟩ := hel i (by omega)
      obtain ⟨s,h3,h4⟩ := h _ _ _ _ _ _ _ _ _ h2
      exact ⟨s,cs',h1,h3,h4⟩)
    refine ⟨xs,⟨some a,cap,by rw [hxl],by omega,rfl,by rw [hxl];unfold maxLen at hm;omega,fun _ => ⟨a,rfl,fun j p hp => ?_⟩⟩,by omega,fun x hx => ?_⟩
    · obtain ⟨cs',h1,h2,_⟩ := hxs j p hp
      obtain ⟨_,hcl,hcell⟩ := World.cells?_some h1
      refine ⟨cs',by rw [hcl,hc],h2,fun i u hu => ?_⟩
      have hi : i < P.cellsOf e := by
        rw [← hcl]
        exact (List.getElem?_eq_some_iff.1 hu).1
      have := hcell i hi
      rw [Go.Deep.add_add,hc] at this
      rw [this]
      exact hu
    · obtain ⟨i,hi,rfl⟩ := List.getElem_of_mem hx
      obtain ⟨_,_,_,h4⟩ := hxs i xs[i] (List.getElem?_eq_getElem hi)
      exact h4
def segOff (segs : List (TypeId × Nat)) (i : Nat) : Nat := ((segs.take i).map (·.2)).sum
def OfSegs (P : Program) (segs : List (TypeId × Nat)) (d : Kd α) (G : α → Prop) : Prop :=
  ∀ (H : Type) (enc : TypeId × Value → H) (w : World) (base : Nat) (spare : Nat → Bool) (held : Bool) (fuel : Nat) (cs : List Value),cs.length = segOff segs segs.length →
    (∀ i t c,segs[i]? = some (t,c) → ∃ x,DataW.trod enc P w base spare held fuel t ((cs.drop (segOff segs i)).take c) = some x) → ∃ s,d.K w s cs ∧ G s
theorem ofSegs_one {t : TypeId} {c : Nat} {d : Kd α} {G : α → Prop} (h : OfTrod P t d G) : OfSegs P [(t,c)] d G := by
  intro H enc w base spare held fuel cs hl hx
  obtain ⟨x,h1⟩ := hx 0 t c rfl
  have hl2 : cs.length = c := by simpa [segOff] using hl
  have e : ((cs.drop (segOff [(t,c)] 0)).take c) = cs := by simp [segOff,← hl2]
  rw [e] at h1
  exact h _ _ _ _ _ _ _ _ _ h1
theorem ofSegs_cons {t : TypeId} {c : Nat} {ts : List (TypeId × Nat)} {d : Kd α} {d' : Kd β} {G : α → Prop} {G' : β → Prop} (h : OfTrod P t d G) (h' : OfSegs P ts d' G') : OfSegs P ((t,c) :: ts) (Kd.pair d d') (fun x => G x.1 ∧ G' x.2) := by
  intro H enc w base spare held fuel cs hl hx
  obtain ⟨x,h1⟩ := hx 0 t c rfl
  have e : ((cs.drop (segOff ((t,c) :: ts) 0)).take c) = cs.take c := by simp [segOff]
  rw [e] at h1
  obtain ⟨s,h2,h3⟩ := h _ _ _ _ _ _ _ _ _ h1
  have hl' : (cs.drop c).length = segOff ts ts.length := by
    simp [segOff] at hl ⊢
    omega
  obtain ⟨s',h4,h5⟩ := h' H enc w base spare held fuel (cs.drop c) hl' (fun i t' c' hi => by
    obtain ⟨y,hy⟩ := hx (i + 1) t' c' (by simpa using hi)
    refine ⟨y,?_⟩
    have e2 : segOff ((t,c) :: ts) (i + 1) = c + segOff ts i := by simp [segOff]
    rw [e2] at hy
    rw [List.drop_drop]
    exact hy)
  exact ⟨(s,s'),⟨cs.take c,cs.drop c,(List.take_append_drop c cs).symm,h2,h4⟩,h3,h5⟩
theorem ofTrod_struct {t : TypeId} {fs : Array Field} {segs : List (TypeId × Nat)} {d : Kd α} {G : α → Prop} (ht : P.underlying t = some (.struct fs)) (hc : P.cellsOf t = segOff segs segs.length) (hn : fs.size = segs.length)
    (hfs : ∀ i (f : Field),fs[i]? = some f → segs[i]? = some (f.type,P.cellsOf f.type) ∧ f.offset = segOff segs i) (h : OfSegs P segs d G) : OfTrod P t d G := by
  intro H enc w base spare held fuel cs x hx
  obtain ⟨xs,n,_,_,hl,hxl,hf⟩ := DataW.trod_struct ht hx
  refine h H enc w base spare held n cs (by rw [hl,hc]) (fun i t' c' hi => ?_)
  have hlt : i < fs.size := by rw [hn];exact (List.getElem?_eq_some_iff.1 hi).1
  obtain ⟨h1,h2⟩ := hfs i fs[i] (Array.getElem?_eq_getElem hlt)
  rw [hi] at h1
  injection h1 with h1
  injection h1 with h1 h3
  have h4 := hf i fs[i] (Array.getElem?_eq_getElem hlt)
  rw [h2,← h3,← h1] at h4
  have hlt2 : i < xs.length := by omega
  rw [List.getElem?_eq_getElem hlt2] at h4
  exact ⟨_,h4⟩
theorem ofTrod_iso {t : TypeId} {d : Kd α} {G : α → Prop} (f : β → α) (g : α → β) (hg : ∀ a,f (g a) = a) (h : OfTrod P t d G) : OfTrod P t (Kd.iso d f) (fun x => G (f x)) := by
  intro H enc w base spare held fuel cs x hx
  obtain ⟨s,h1,h2⟩ := h _ _ _ _ _ _ _ _ _ hx
  exact ⟨g s,by show d.K w (f (g s)) cs;rw [hg];exact h1,by show G (f (g s));rw [hg];exact h2⟩
theorem cell_heap {w w' : World} (h : w.heap = w'.heap) (a : Addr) : w'.cell? a = w.cell? a := by unfold World.cell?;rw [h]
end
end Go.Proofs.YtfoaeigoajooeaaW.PrintWords
end
section
namespace Go.Proofs.Ytfoaeigoajooeaa.Z
open Go.RowKit Go.Proofs.YtfoaeigoajooeaaW.PrintWords Go.Proofs.YtfoaeigoajooeaaW.PrintLast Go.Proofs.YtfoaeigoajooeaaW.PrintMore
set_option maxRecDepth 100000
def G50 (x : S50) : Prop := ((Lit.int .i64 x.f0).wf = true) ∧ (True) ∧ ((Lit.int .i64 x.f2).wf = true) ∧ (x.f3.size ≤ maxLen)
theorem of50 : OfTrod Try.prog 50 k50 G50 :=
  ofTrod_iso _ (fun a => (⟨a.1,a.2.1,a.2.2.1,a.2.2.2⟩ : S50)) (fun _ => rfl) (ofTrod_struct (segs := [(3,1),(4,1),(2,1),(9,1)]) Try.underlying50 (by kernel_rfl) rfl
    (by
      intro i f hf
      rcases i with _ | _ | _ | _ | i <;> simp at hf <;> subst hf <;> exact ⟨congrArg some (Prod.ext rfl (by kernel_rfl)),rfl⟩) (ofSegs_cons (ofTrod_int Try.underlying3) (ofSegs_cons (ofTrod_bool Try.underlying4) (ofSegs_cons (ofTrod_int Try.underlying2) (ofSegs_one (ofTrod_string Try.underlying9))))))
end Go.Proofs.Ytfoaeigoajooeaa.Z
end
section
namespace Go.Proofs.Ytfoaeigoajooeaa.Z
open Go.RowKit Go.Proofs.YtfoaeigoajooeaaW.PrintWords Go.Proofs.YtfoaeigoajooeaaW.PrintLast Go.Proofs.YtfoaeigoajooeaaW.PrintMore
attribute [local go_sem] max2_int min2_int max_two min_two max_three min_three max_four min_four
set_option linter.unusedVariables false
set_option linter.unusedSimpArgs false
def verdererref01_Right.f (a0_0 : Int) (a0_1 : Bool) (a0_2 : Int) (a0_3 : ByteArray) : Option (Bool) := if a0_0 < 0 then (some false) else (if a0_0 > 3 then (some false) else (if a0_0 = 1 then (if a0_0 = 2 then (if a0_0 = 3 then (some (decide ((a0_3.size : Int) ≤ 60))) else (if a0_3.toList = ([] : List UInt8) then (some (decide ((a0_3.size : Int) ≤ 60))) else (some false))) else (if a0_2 = 0 then (if a0_0 = 3 then (some (decide ((a0_3.size : Int) ≤ 60))) else (if a0_3.toList = ([] : List UInt8) then (some (decide ((a0_3.size : Int) ≤ 60))) else (some false))) else (some false))) else (if a0_1 = true then (some false) else (if a0_0 = 2 then (if a0_0 = 3 then (some (decide ((a0_3.size : Int) ≤ 60))) else (if a0_3.toList = ([] : List UInt8) then (some (decide ((a0_3.size : Int) ≤ 60))) else (some false))) else (if a0_2 = 0 then (if a0_0 = 3 then (some (decide ((a0_3.size : Int) ≤ 60))) else (if a0_3.toList = ([] : List UInt8) then (some (decide ((a0_3.size : Int) ≤ 60))) else (some false))) else (some false))))))
set_option maxHeartbeats 8000000 in
set_option maxRecDepth 100000 in
theorem verdererref01_Right.calls (a0_0 : Int) (a0_1 : Bool) (a0_2 : Int) (a0_3 : ByteArray) (r : Bool) (w : World) (h : verdererref01_Right.f a0_0 a0_1 a0_2 a0_3 = some r) :
    Calls Try.prog 53 #[.agg #[.int .i64 a0_0,.bool a0_1,.int .i64 a0_2,.string a0_3]] w fun e w' => e = .returned (.bool r) ∧ Below w.heap.size w w' := by
  have hu50 := Try.underlying50
  have HB := Aside0.mk (Below.refl w.heap.size w)
  have H : (if a0_0 < 0 then (some false) else (if a0_0 > 3 then (some false) else (if a0_0 = 1 then (if a0_0 = 2 then (if a0_0 = 3 then (some (decide ((a0_3.size : Int) ≤ 60))) else (if a0_3.toList = ([] : List UInt8) then (some (decide ((a0_3.size : Int) ≤ 60))) else (some false))) else (if a0_2 = 0 then (if a0_0 = 3 then (some (decide ((a0_3.size : Int) ≤ 60))) else (if a0_3.toList = ([] : List UInt8) then (some (decide ((a0_3.size : Int) ≤ 60))) else (some false))) else (some false))) else (if a0_1 = true then (some false) else (if a0_0 = 2 then (if a0_0 = 3 then (some (decide ((a0_3.size : Int) ≤ 60))) else (if a0_3.toList = ([] : List UInt8) then (some (decide ((a0_3.size : Int) ≤ 60))) else (some false))) else (if a0_2 = 0 then (if a0_0 = 3 then (some (decide ((a0_3.size : Int) ≤ 60))) else (if a0_3.toList = ([] : List UInt8) then (some (decide ((a0_3.size : Int) ≤ 60))) else (some false))) else (some false))))))) = some r := h
  clear h
  by_cases c2 : a0_0 < 0
  · rw [if_pos c2] at H
    have c2b0 : decide (a0_0 < 0) = true := decide_eq_true c2
    clear c2
    obtain rfl := Option.some.inj H
    go_enter Try.func53,Try.ntmps53
    go_wp2_with (first | ((with_reducible refine gate_dst (N := 1) rfl ?_);refine box_event ?hg (N := 1) ?hd (cs := #[.int .i64 a0_0,.bool a0_1,.int .i64 a0_2,.string a0_3]) (t := 50) ?hr ?_;(case hd => rfl);(case hg => rfl);(case hr => first | (go_simp;done) | (go_simp;rfl));intro gb327 hg w3 hbox hb;have n0_ := Aside0.mk (below_step (by repeat (first | (with_reducible first | exact HB.out | apply below_alloc | apply pw_below_drewN | apply below_drew1) | exact HB.out)) hb);have n1_ := Aside0.mk (hbox);have n2_ := Aside0.mk ((by rw [hg];exact (below_size (by repeat (first | (with_reducible first | exact HB.out | apply below_alloc | apply pw_below_drewN | apply below_drew1) | exact HB.out))) : w.heap.size ≤ gb327));have n3_ := Aside0.mk ((by rw [hg];exact (below_size (by repeat (first | (with_reducible first | exact HB.out | apply below_alloc | apply pw_below_drewN | apply below_drew1) | exact HB.out))) : w.heap.size ≤ gb327));clear HB;have HB := n0_;have BK327 := n1_;have GW327 := n2_;have GE327 := n3_;clear n0_ n1_ n2_ n3_;clear hb hbox hg;have hcz4_0 : w3.cell? ⟨gb327,0,none⟩ = some (.int .i64 a0_0) := (blk_cell BK327.out 0).trans rfl;have hcz4_1 : w3.cell? ⟨gb327,1,none⟩ = some (.bool a0_1) := (blk_cell BK327.out 1).trans rfl;have hcz4_2 : w3.cell? ⟨gb327,2,none⟩ = some (.int .i64 a0_2) := (blk_cell BK327.out 2).trans rfl;have hcz4_3 : w3.cell? ⟨gb327,3,none⟩ = some (.string a0_3) := (blk_cell BK327.out 3).trans rfl;have hfz4_0 := blk_frozen BK327.out 0;have hfz4_1 := blk_frozen BK327.out 1;have hfz4_2 := blk_frozen BK327.out 2;have hfz4_3 := blk_frozen BK327.out 3))
    go_ret
    exact ⟨by first | rfl | (simp [errW_none,errW_some] <;> rfl) | (simp [*,errW_none,errW_some] <;> rfl),by repeat (first | (with_reducible first | exact HB.out | apply below_alloc | apply pw_below_drewN | apply below_drew1 | refine below_set ?_ GE327.out) | exact HB.out)⟩
  · rw [if_neg c2] at H
    have c2b0 : decide (a0_0 < 0) = false := decide_eq_false c2
    clear c2
    by_cases c5 : a0_0 > 3
    · rw [if_pos c5] at H
      have c5b0 : decide (3 < a0_0) = true := decide_eq_true c5
      clear c5
      obtain rfl := Option.some.inj H
      go_enter Try.func53,Try.ntmps53
      go_wp2_with (first | ((with_reducible refine gate_dst (N := 1) rfl ?_);refine box_event ?hg (N := 1) ?hd (cs := #[.int .i64 a0_0,.bool a0_1,.int .i64 a0_2,.string a0_3]) (t := 50) ?hr ?_;(case hd => rfl);(case hg => rfl);(case hr => first | (go_simp;done) | (go_simp;rfl));intro gb327 hg w6 hbox hb;have n0_ := Aside0.mk (below_step (by repeat (first | (with_reducible first | exact HB.out | apply below_alloc | apply pw_below_drewN | apply below_drew1) | exact HB.out)) hb);have n1_ := Aside0.mk (hbox);have n2_ := Aside0.mk ((by rw [hg];exact (below_size (by repeat (first | (with_reducible first | exact HB.out | apply below_alloc | apply pw_below_drewN | apply below_drew1) | exact HB.out))) : w.heap.size ≤ gb327));have n3_ := Aside0.mk ((by rw [hg];exact (below_size (by repeat (first | (with_reducible first | exact HB.out | apply below_alloc | apply pw_below_drewN | apply below_drew1) | exact HB.out))) : w.heap.size ≤ gb327));clear HB;have HB := n0_;have BK327 := n1_;have GW327 := n2_;have GE327 := n3_;clear n0_ n1_ n2_ n3_;clear hb hbox hg;have hcz7_0 : w6.cell? ⟨gb327,0,none⟩ = some (.int .i64 a0_0) := (blk_cell BK327.out 0).trans rfl;have hcz7_1 : w6.cell? ⟨gb327,1,none⟩ = some (.bool a0_1) := (blk_cell BK327.out 1).trans rfl;have hcz7_2 : w6.cell? ⟨gb327,2,none⟩ = some (.int .i64 a0_2) := (blk_cell BK327.out 2).trans rfl;have hcz7_3 : w6.cell? ⟨gb327,3,none⟩ = some (.string a0_3) := (blk_cell BK327.out 3).trans rfl;have hfz7_0 := blk_frozen BK327.out 0;have hfz7_1 := blk_frozen BK327.out 1;have hfz7_2 := blk_frozen BK327.out 2;have hfz7_3 := blk_frozen BK327.out 3))
      go_ret
      exact ⟨by first | rfl | (simp [errW_none,errW_some] <;> rfl) | (simp [*,errW_none,errW_some] <;> rfl),by repeat (first | (with_reducible first | exact HB.out | apply below_alloc | apply pw_below_drewN | apply below_drew1 | refine below_set ?_ GE327.out) | exact HB.out)⟩
    · rw [if_neg c5] at H
      have c5b0 : decide (3 < a0_0) = false := decide_eq_false c5
      clear c5
      by_cases c8 : a0_0 = 1
      · rw [if_pos c8] at H
        have c8b0 : (a0_0 == 1) = true := beq_iff_eq.mpr c8
        have c8b1 : (a0_0 != 1) = false := bne_eq_false_iff_eq.mpr c8
        clear c8
        by_cases c9 : a0_0 = 2
        · rw [if_pos c9] at H
          have c9b0 : (a0_0 == 2) = true := beq_iff_eq.mpr c9
          have c9b1 : (a0_0 != 2) = false := bne_eq_false_iff_eq.mpr c9
          clear c9
          by_cases c10 : a0_0 = 3
          · rw [if_pos c10] at H
            have c10b0 : (a0_0 == 3) = true := beq_iff_eq.mpr c10
            have c10b1 : (a0_0 != 3) = false := bne_eq_false_iff_eq.mpr c10
            clear c10
            obtain rfl := Option.some.inj H
            go_enter Try.func53,Try.ntmps53
            go_wp2_with (first | ((with_reducible refine gate_dst (N := 1) rfl ?_);refine box_event ?hg (N := 1) ?hd (cs := #[.int .i64 a0_0,.bool a0_1,.int .i64 a0_2,.string a0_3]) (t := 50) ?hr ?_;(case hd => rfl);(case hg => rfl);(case hr => first | (go_simp;done) | (go_simp;rfl));intro gb327 hg w11 hbox hb;have n0_ := Aside0.mk (below_step (by repeat (first | (with_reducible first | exact HB.out | apply below_alloc | apply pw_below_drewN | apply below_drew1) | exact HB.out)) hb);have n1_ := Aside0.mk (hbox);have n2_ := Aside0.mk ((by rw [hg];exact (below_size (by repeat (first | (with_reducible first | exact HB.out | apply below_alloc | apply pw_below_drewN | apply below_drew1) | exact HB.out))) : w.heap.size ≤ gb327));have n3_ := Aside0.mk ((by rw [hg];exact (below_size (by repeat (first | (with_reducible first | exact HB.out | apply below_alloc | apply pw_below_drewN | apply below_drew1) | exact HB.out))) : w.heap.size ≤ gb327));clear HB;have HB := n0_;have BK327 := n1_;have GW327 := n2_;have GE327 := n3_;clear n0_ n1_ n2_ n3_;clear hb hbox hg;have hcz12_0 : w11.cell? ⟨gb327,0,none⟩ = some (.int .i64 a0_0) := (blk_cell BK327.out 0).trans rfl;have hcz12_1 : w11.cell? ⟨gb327,1,none⟩ = some (.bool a0_1) := (blk_cell BK327.out 1).trans rfl;have hcz12_2 : w11.cell? ⟨gb327,2,none⟩ = some (.int .i64 a0_2) := (blk_cell BK327.out 2).trans rfl;have hcz12_3 : w11.cell? ⟨gb327,3,none⟩ = some (.string a0_3) := (blk_cell BK327.out 3).trans rfl;have hfz12_0 := blk_frozen BK327.out 0;have hfz12_1 := blk_frozen BK327.out 1;have hfz12_2 := blk_frozen BK327.out 2;have hfz12_3 := blk_frozen BK327.out 3))
            go_ret
            exact ⟨by first | rfl | (simp [errW_none,errW_some] <;> rfl) | (simp [*,errW_none,errW_some] <;> rfl),by repeat (first | (with_reducible first | exact HB.out | apply below_alloc | apply pw_below_drewN | apply below_drew1 | refine below_set ?_ GE327.out) | exact HB.out)⟩
          · rw [if_neg c10] at H
            have c10b0 : (a0_0 == 3) = false := beq_eq_false_iff_ne.mpr c10
            have c10b1 : (a0_0 != 3) = true := bne_iff_ne.mpr c10
            by_cases c13 : a0_3.toList = ([] : List UInt8)
            · rw [if_pos c13] at H
              have c13b0 : (a0_3.toList == ([] : List UInt8)) = true := beq_iff_eq.mpr c13
              have c13b1 : (a0_3.toList != ([] : List UInt8)) = false := bne_eq_false_iff_eq.mpr c13
              clear c13
              obtain rfl := Option.some.inj H
              go_enter Try.func53,Try.ntmps53
              go_wp2_with (first | ((with_reducible refine gate_dst (N := 1) rfl ?_);refine box_event ?hg (N := 1) ?hd (cs := #[.int .i64 a0_0,.bool a0_1,.int .i64 a0_2,.string a0_3]) (t := 50) ?hr ?_;(case hd => rfl);(case hg => rfl);(case hr => first | (go_simp;done) | (go_simp;rfl));intro gb327 hg w14 hbox hb;have n0_ := Aside0.mk (below_step (by repeat (first | (with_reducible first | exact HB.out | apply below_alloc | apply pw_below_drewN | apply below_drew1) | exact HB.out)) hb);have n1_ := Aside0.mk (hbox);have n2_ := Aside0.mk ((by rw [hg];exact (below_size (by repeat (first | (with_reducible first | exact HB.out | apply below_alloc | apply pw_below_drewN | apply below_drew1) | exact HB.out))) : w.heap.size ≤ gb327));have n3_ := Aside0.mk ((by rw [hg];exact (below_size (by repeat (first | (with_reducible first | exact HB.out | apply below_alloc | apply pw_below_drewN | apply below_drew1) | exact HB.out))) : w.heap.size ≤ gb327));clear HB;have HB := n0_;have BK327 := n1_;have GW327 := n2_;have GE327 := n3_;clear n0_ n1_ n2_ n3_;clear hb hbox hg;have hcz15_0 : w14.cell? ⟨gb327,0,none⟩ = some (.int .i64 a0_0) := (blk_cell BK327.out 0).trans rfl;have hcz15_1 : w14.cell? ⟨gb327,1,none⟩ = some (.bool a0_1) := (blk_cell BK327.out 1).trans rfl;have hcz15_2 : w14.cell? ⟨gb327,2,none⟩ = some (.int .i64 a0_2) := (blk_cell BK327.out 2).trans rfl;have hcz15_3 : w14.cell? ⟨gb327,3,none⟩ = some (.string a0_3) := (blk_cell BK327.out 3).trans rfl;have hfz15_0 := blk_frozen BK327.out 0;have hfz15_1 := blk_frozen BK327.out 1;have hfz15_2 := blk_frozen BK327.out 2;have hfz15_3 := blk_frozen BK327.out 3))
              go_ret
              exact ⟨by first | rfl | (simp [errW_none,errW_some] <;> rfl) | (simp [*,errW_none,errW_some] <;> rfl),by repeat (first | (with_reducible first | exact HB.out | apply below_alloc | apply pw_below_drewN | apply below_drew1 | refine below_set ?_ GE327.out) | exact HB.out)⟩
            · rw [if_neg c13] at H
              have c13b0 : (a0_3.toList == ([] : List UInt8)) = false := beq_eq_false_iff_ne.mpr c13
              have c13b1 : (a0_3.toList != ([] : List UInt8)) = true := bne_iff_ne.mpr c13
              obtain rfl := Option.some.inj H
              go_enter Try.func53,Try.ntmps53
              go_wp2_with (first | ((with_reducible refine gate_dst (N := 1) rfl ?_);refine box_event ?hg (N := 1) ?hd (cs := #[.int .i64 a0_0,.bool a0_1,.int .i64 a0_2,.string a0_3]) (t := 50) ?hr ?_;(case hd => rfl);(case hg => rfl);(case hr => first | (go_simp;done) | (go_simp;rfl));intro gb327 hg w16 hbox hb;have n0_ := Aside0.mk (below_step (by repeat (first | (with_reducible first | exact HB.out | apply below_alloc | apply pw_below_drewN | apply below_drew1) | exact HB.out)) hb);have n1_ := Aside0.mk (hbox);have n2_ := Aside0.mk ((by rw [hg];exact (below_size (by repeat (first | (with_reducible first | exact HB.out | apply below_alloc | apply pw_below_drewN | apply below_drew1) | exact HB.out))) : w.heap.size ≤ gb327));have n3_ := Aside0.mk ((by rw [hg];exact (below_size (by repeat (first | (with_reducible first | exact HB.out | apply below_alloc | apply pw_below_drewN | apply below_drew1) | exact HB.out))) : w.heap.size ≤ gb327));clear HB;have HB := n0_;have BK327 := n1_;have GW327 := n2_;have GE327 := n3_;clear n0_ n1_ n2_ n3_;clear hb hbox hg;have hcz17_0 : w16.cell? ⟨gb327,0,none⟩ = some (.int .i64 a0_0) := (blk_cell BK327.out 0).trans rfl;have hcz17_1 : w16.cell? ⟨gb327,1,none⟩ = some (.bool a0_1) := (blk_cell BK327.out 1).trans rfl;have hcz17_2 : w16.cell? ⟨gb327,2,none⟩ = some (.int .i64 a0_2) := (blk_cell BK327.out 2).trans rfl;have hcz17_3 : w16.cell? ⟨gb327,3,none⟩ = some (.string a0_3) := (blk_cell BK327.out 3).trans rfl;have hfz17_0 := blk_frozen BK327.out 0;have hfz17_1 := blk_frozen BK327.out 1;have hfz17_2 := blk_frozen BK327.out 2;have hfz17_3 := blk_frozen BK327.out 3))
              go_ret
              exact ⟨by first | rfl | (simp [errW_none,errW_some] <;> rfl) | (simp [*,errW_none,errW_some] <;> rfl),by repeat (first | (with_reducible first | exact HB.out | apply below_alloc | apply pw_below_drewN | apply below_drew1 | refine below_set ?_ GE327.out) | exact HB.out)⟩
        · rw [if_neg c9] at H
          have c9b0 : (a0_0 == 2) = false := beq_eq_false_iff_ne.mpr c9
          have c9b1 : (a0_0 != 2) = true := bne_iff_ne.mpr c9
          by_cases c18 : a0_2 = 0
          · rw [if_pos c18] at H
            have c18b0 : (a0_2 == 0) = true := beq_iff_eq.mpr c18
            have c18b1 : (a0_2 != 0) = false := bne_eq_false_iff_eq.mpr c18
            clear c18
            by_cases c19 : a0_0 = 3
            · rw [if_pos c19] at H
              have c19b0 : (a0_0 == 3) = true := beq_iff_eq.mpr c19
              have c19b1 : (a0_0 != 3) = false := bne_eq_false_iff_eq.mpr c19
              clear c19
              obtain rfl := Option.some.inj H
              go_enter Try.func53,Try.ntmps53
              go_wp2_with (first | ((with_reducible refine gate_dst (N := 1) rfl ?_);refine box_event ?hg (N := 1) ?hd (cs := #[.int .i64 a0_0,.bool a0_1,.int .i64 a0_2,.string a0_3]) (t := 50) ?hr ?_;(case hd => rfl);(case hg => rfl);(case hr => first | (go_simp;done) | (go_simp;rfl));intro gb327 hg w20 hbox hb;have n0_ := Aside0.mk (below_step (by repeat (first | (with_reducible first | exact HB.out | apply below_alloc | apply pw_below_drewN | apply below_drew1) | exact HB.out)) hb);have n1_ := Aside0.mk (hbox);have n2_ := Aside0.mk ((by rw [hg];exact (below_size (by repeat (first | (with_reducible first | exact HB.out | apply below_alloc | apply pw_below_drewN | apply below_drew1) | exact HB.out))) : w.heap.size ≤ gb327));have n3_ := Aside0.mk ((by rw [hg];exact (below_size (by repeat (first | (with_reducible first | exact HB.out | apply below_alloc | apply pw_below_drewN | apply below_drew1) | exact HB.out))) : w.heap.size ≤ gb327));clear HB;have HB := n0_;have BK327 := n1_;have GW327 := n2_;have GE327 := n3_;clear n0_ n1_ n2_ n3_;clear hb hbox hg;have hcz21_0 : w20.cell? ⟨gb327,0,none⟩ = some (.int .i64 a0_0) := (blk_cell BK327.out 0).trans rfl;have hcz21_1 : w20.cell? ⟨gb327,1,none⟩ = some (.bool a0_1) := (blk_cell BK327.out 1).trans rfl;have hcz21_2 : w20.cell? ⟨gb327,2,none⟩ = some (.int .i64 a0_2) := (blk_cell BK327.out 2).trans rfl;have hcz21_3 : w20.cell? ⟨gb327,3,none⟩ = some (.string a0_3) := (blk_cell BK327.out 3).trans rfl;have hfz21_0 := blk_frozen BK327.out 0;have hfz21_1 := blk_frozen BK327.out 1;have hfz21_2 := blk_frozen BK327.out 2;have hfz21_3 := blk_frozen BK327.out 3))
              go_ret
              exact ⟨by first | rfl | (simp [errW_none,errW_some] <;> rfl) | (simp [*,errW_none,errW_some] <;> rfl),by repeat (first | (with_reducible first | exact HB.out | apply below_alloc | apply pw_below_drewN | apply below_drew1 | refine below_set ?_ GE327.out) | exact HB.out)⟩
            · rw [if_neg c19] at H
              have c19b0 : (a0_0 == 3) = false := beq_eq_false_iff_ne.mpr c19
              have c19b1 : (a0_0 != 3) = true := bne_iff_ne.mpr c19
              by_cases c22 : a0_3.toList = ([] : List UInt8)
              · rw [if_pos c22] at H
                have c22b0 : (a0_3.toList == ([] : List UInt8)) = true := beq_iff_eq.mpr c22
                have c22b1 : (a0_3.toList != ([] : List UInt8)) = false := bne_eq_false_iff_eq.mpr c22
                clear c22
                obtain rfl := Option.some.inj H
                go_enter Try.func53,Try.ntmps53
                go_wp2_with (first | ((with_reducible refine gate_dst (N := 1) rfl ?_);refine box_event ?hg (N := 1) ?hd (cs := #[.int .i64 a0_0,.bool a0_1,.int .i64 a0_2,.string a0_3]) (t := 50) ?hr ?_;(case hd => rfl);(case hg => rfl);(case hr => first | (go_simp;done) | (go_simp;rfl));intro gb327 hg w23 hbox hb;have n0_ := Aside0.mk (below_step (by repeat (first | (with_reducible first | exact HB.out | apply below_alloc | apply pw_below_drewN | apply below_drew1) | exact HB.out)) hb);have n1_ := Aside0.mk (hbox);have n2_ := Aside0.mk ((by rw [hg];exact (below_size (by repeat (first | (with_reducible first | exact HB.out | apply below_alloc | apply pw_below_drewN | apply below_drew1) | exact HB.out))) : w.heap.size ≤ gb327));have n3_ := Aside0.mk ((by rw [hg];exact (below_size (by repeat (first | (with_reducible first | exact HB.out | apply below_alloc | apply pw_below_drewN | apply below_drew1) | exact HB.out))) : w.heap.size ≤ gb327));clear HB;have HB := n0_;have BK327 := n1_;have GW327 := n2_;have GE327 := n3_;clear n0_ n1_ n2_ n3_;clear hb hbox hg;have hcz24_0 : w23.cell? ⟨gb327,0,none⟩ = some (.int .i64 a0_0) := (blk_cell BK327.out 0).trans rfl;have hcz24_1 : w23.cell? ⟨gb327,1,none⟩ = some (.bool a0_1) := (blk_cell BK327.out 1).trans rfl;have hcz24_2 : w23.cell? ⟨gb327,2,none⟩ = some (.int .i64 a0_2) := (blk_cell BK327.out 2).trans rfl;have hcz24_3 : w23.cell? ⟨gb327,3,none⟩ = some (.string a0_3) := (blk_cell BK327.out 3).trans rfl;have hfz24_0 := blk_frozen BK327.out 0;have hfz24_1 := blk_frozen BK327.out 1;have hfz24_2 := blk_frozen BK327.out 2;have hfz24_3 := blk_frozen BK327.out 3))
                go_ret
                exact ⟨by first | rfl | (simp [errW_none,errW_some] <;> rfl) | (simp [*,errW_none,errW_some] <;> rfl),by repeat (first | (with_reducible first | exact HB.out | apply below_alloc | apply pw_below_drewN | apply below_drew1 | refine below_set ?_ GE327.out) | exact HB.out)⟩
              · rw [if_neg c22] at H
                have c22b0 : (a0_3.toList == ([] : List UInt8)) = false := beq_eq_false_iff_ne.mpr c22
                have c22b1 : (a0_3.toList != ([] : List UInt8)) = true := bne_iff_ne.mpr c22
                obtain rfl := Option.some.inj H
                go_enter Try.func53,Try.ntmps53
                go_wp2_with (first | ((with_reducible refine gate_dst (N := 1) rfl ?_);refine box_event ?hg (N := 1) ?hd (cs := #[.int .i64 a0_0,.bool a0_1,.int .i64 a0_2,.string a0_3]) (t := 50) ?hr ?_;(case hd => rfl);(case hg => rfl);(case hr => first | (go_simp;done) | (go_simp;rfl));intro gb327 hg w25 hbox hb;have n0_ := Aside0.mk (below_step (by repeat (first | (with_reducible first | exact HB.out | apply below_alloc | apply pw_below_drewN | apply below_drew1) | exact HB.out)) hb);have n1_ := Aside0.mk (hbox);have n2_ := Aside0.mk ((by rw [hg];exact (below_size (by repeat (first | (with_reducible first | exact HB.out | apply below_alloc | apply pw_below_drewN | apply below_drew1) | exact HB.out))) : w.heap.size ≤ gb327));have n3_ := Aside0.mk ((by rw [hg];exact (below_size (by repeat (first | (with_reducible first | exact HB.out | apply below_alloc | apply pw_below_drewN | apply below_drew1) | exact HB.out))) : w.heap.size ≤ gb327));clear HB;have HB := n0_;have BK327 := n1_;have GW327 := n2_;have GE327 := n3_;clear n0_ n1_ n2_ n3_;clear hb hbox hg;have hcz26_0 : w25.cell? ⟨gb327,0,none⟩ = some (.int .i64 a0_0) := (blk_cell BK327.out 0).trans rfl;have hcz26_1 : w25.cell? ⟨gb327,1,none⟩ = some (.bool a0_1) := (blk_cell BK327.out 1).trans rfl;have hcz26_2 : w25.cell? ⟨gb327,2,none⟩ = some (.int .i64 a0_2) := (blk_cell BK327.out 2).trans rfl;have hcz26_3 : w25.cell? ⟨gb327,3,none⟩ = some (.string a0_3) := (blk_cell BK327.out 3).trans rfl;have hfz26_0 := blk_frozen BK327.out 0;have hfz26_1 := blk_frozen BK327.out 1;have hfz26_2 := blk_frozen BK327.out 2;have hfz26_3 := blk_frozen BK327.out 3))
                go_ret
                exact ⟨by first | rfl | (simp [errW_none,errW_some] <;> rfl) | (simp [*,errW_none,errW_some] <;> rfl),by repeat (first | (with_reducible first | exact HB.out | apply below_alloc | apply pw_below_drewN | apply below_drew1 | refine below_set ?_ GE327.out) | exact HB.out)⟩
          · rw [if_neg c18] at H
            have c18b0 : (a0_2 == 0) = false := beq_eq_false_iff_ne.mpr c18
            have c18b1 : (a0_2 != 0) = true := bne_iff_ne.mpr c18
            obtain rfl := Option.some.inj H
            go_enter Try.func53,Try.ntmps53
            go_wp2_with (first | ((with_reducible refine gate_dst (N := 1) rfl ?_);refine box_event ?hg (N := 1) ?hd (cs := #[.int .i64 a0_0,.bool a0_1,.int .i64 a0_2,.string a0_3]) (t := 50) ?hr ?_;(case hd => rfl);(case hg => rfl);(case hr => first | (go_simp;done) | (go_simp;rfl));intro gb327 hg w27 hbox hb;have n0_ := Aside0.mk (below_step (by repeat (first | (with_reducible first | exact HB.out | apply below_alloc | apply pw_below_drewN | apply below_drew1) | exact HB.out)) hb);have n1_ := Aside0.mk (hbox);have n2_ := Aside0.mk ((by rw [hg];exact (below_size (by repeat (first | (with_reducible first | exact HB.out | apply below_alloc | apply pw_below_drewN | apply below_drew1) | exact HB.out))) : w.heap.size ≤ gb327));have n3_ := Aside0.mk ((by rw [hg];exact (below_size (by repeat (first | (with_reducible first | exact HB.out | apply below_alloc | apply pw_below_drewN | apply below_drew1) | exact HB.out))) : w.heap.size ≤ gb327));clear HB;have HB := n0_;have BK327 := n1_;have GW327 := n2_;have GE327 := n3_;clear n0_ n1_ n2_ n3_;clear hb hbox hg;have hcz28_0 : w27.cell? ⟨gb327,0,none⟩ = some (.int .i64 a0_0) := (blk_cell BK327.out 0).trans rfl;have hcz28_1 : w27.cell? ⟨gb327,1,none⟩ = some (.bool a0_1) := (blk_cell BK327.out 1).trans rfl;have hcz28_2 : w27.cell? ⟨gb327,2,none⟩ = some (.int .i64 a0_2) := (blk_cell BK327.out 2).trans rfl;have hcz28_3 : w27.cell? ⟨gb327,3,none⟩ = some (.string a0_3) := (blk_cell BK327.out 3).trans rfl;have hfz28_0 := blk_frozen BK327.out 0;have hfz28_1 := blk_frozen BK327.out 1;have hfz28_2 := blk_frozen BK327.out 2;have hfz28_3 := blk_frozen BK327.out 3))
            go_ret
            exact ⟨by first | rfl | (simp [errW_none,errW_some] <;> rfl) | (simp [*,errW_none,errW_some] <;> rfl),by repeat (first | (with_reducible first | exact HB.out | apply below_alloc | apply pw_below_drewN | apply below_drew1 | refine below_set ?_ GE327.out) | exact HB.out)⟩
      · rw [if_neg c8] at H
        have c8b0 : (a0_0 == 1) = false := beq_eq_false_iff_ne.mpr c8
        have c8b1 : (a0_0 != 1) = true := bne_iff_ne.mpr c8
        by_cases c29 : a0_1 = true
        · subst c29
          have H1 : (some false) = some r := by rw [if_pos rfl] at H;exact H
          clear H
          have H := H1
          clear H1
          obtain rfl := Option.some.inj H
          go_enter Try.func53,Try.ntmps53
          go_wp2_with (first | ((with_reducible refine gate_dst (N := 1) rfl ?_);refine box_event ?hg (N := 1) ?hd (cs := #[.int .i64 a0_0,.bool true,.int .i64 a0_2,.string a0_3]) (t := 50) ?hr ?_;(case hd => rfl);(case hg => rfl);(case hr => first | (go_simp;done) | (go_simp;rfl));intro gb327 hg w30 hbox hb;have n0_ := Aside0.mk (below_step (by repeat (first | (with_reducible first | exact HB.out | apply below_alloc | apply pw_below_drewN | apply below_drew1) | exact HB.out)) hb);have n1_ := Aside0.mk (hbox);have n2_ := Aside0.mk ((by rw [hg];exact (below_size (by repeat (first | (with_reducible first | exact HB.out | apply below_alloc | apply pw_below_drewN | apply below_drew1) | exact HB.out))) : w.heap.size ≤ gb327));have n3_ := Aside0.mk ((by rw [hg];exact (below_size (by repeat (first | (with_reducible first | exact HB.out | apply below_alloc | apply pw_below_drewN | apply below_drew1) | exact HB.out))) : w.heap.size ≤ gb327));clear HB;have HB := n0_;have BK327 := n1_;have GW327 := n2_;have GE327 := n3_;clear n0_ n1_ n2_ n3_;clear hb hbox hg;have hcz31_0 : w30.cell? ⟨gb327,0,none⟩ = some (.int .i64 a0_0) := (blk_cell BK327.out 0).trans rfl;have hcz31_1 : w30.cell? ⟨gb327,1,none⟩ = some (.bool true) := (blk_cell BK327.out 1).trans rfl;have hcz31_2 : w30.cell? ⟨gb327,2,none⟩ = some (.int .i64 a0_2) := (blk_cell BK327.out 2).trans rfl;have hcz31_3 : w30.cell? ⟨gb327,3,none⟩ = some (.string a0_3) := (blk_cell BK327.out 3).trans rfl;have hfz31_0 := blk_frozen BK327.out 0;have hfz31_1 := blk_frozen BK327.out 1;have hfz31_2 := blk_frozen BK327.out 2;have hfz31_3 := blk_frozen BK327.out 3))
          go_ret
          exact ⟨by first | rfl | (simp [errW_none,errW_some] <;> rfl) | (simp [*,errW_none,errW_some] <;> rfl),by repeat (first | (with_reducible first | exact HB.out | apply below_alloc | apply pw_below_drewN | apply below_drew1 | refine below_set ?_ GE327.out) | exact HB.out)⟩
        · replace c29 := Bool.eq_false_iff.mpr c29
          subst c29
          have H1 : (if a0_0 = 2 then (if a0_0 = 3 then (some (decide ((a0_3.size : Int) ≤ 60))) else (if a0_3.toList = ([] : List UInt8) then (some (decide ((a0_3.size : Int) ≤ 60))) else (some false))) else (if a0_2 = 0 then (if a0_0 = 3 then (some (decide ((a0_3.size : Int) ≤ 60))) else (if a0_3.toList = ([] : List UInt8) then (some (decide ((a0_3.size : Int) ≤ 60))) else (some false))) else (some false))) = some r := by rw [if_neg (show ¬ (false = true) by decide)] at H;exact H
          clear H
          have H := H1
          clear H1
          by_cases c32 : a0_0 = 2
          · rw [if_pos c32] at H
            have c32b0 : (a0_0 == 2) = true := beq_iff_eq.mpr c32
            have c32b1 : (a0_0 != 2) = false := bne_eq_false_iff_eq.mpr c32
            clear c32
            by_cases c33 : a0_0 = 3
            · rw [if_pos c33] at H
              have c33b0 : (a0_0 == 3) = true := beq_iff_eq.mpr c33
              have c33b1 : (a0_0 != 3) = false := bne_eq_false_iff_eq.mpr c33
              clear c33
              obtain rfl := Option.some.inj H
              go_enter Try.func53,Try.ntmps53
              go_wp2_with (first | ((with_reducible refine gate_dst (N := 1) rfl ?_);refine box_event ?hg (N := 1) ?hd (cs := #[.int .i64 a0_0,.bool false,.int .i64 a0_2,.string a0_3]) (t := 50) ?hr ?_;(case hd => rfl);(case hg => rfl);(case hr => first | (go_simp;done) | (go_simp;rfl));intro gb327 hg w34 hbox hb;have n0_ := Aside0.mk (below_step (by repeat (first | (with_reducible first | exact HB.out | apply below_alloc | apply pw_below_drewN | apply below_drew1) | exact HB.out)) hb);have n1_ := Aside0.mk (hbox);have n2_ := Aside0.mk ((by rw [hg];exact (below_size (by repeat (first | (with_reducible first | exact HB.out | apply below_alloc | apply pw_below_drewN | apply below_drew1) | exact HB.out))) : w.heap.size ≤ gb327));have n3_ := Aside0.mk ((by rw [hg];exact (below_size (by repeat (first | (with_reducible first | exact HB.out | apply below_alloc | apply pw_below_drewN | apply below_drew1) | exact HB.out))) : w.heap.size ≤ gb327));clear HB;have HB := n0_;have BK327 := n1_;have GW327 := n2_;have GE327 := n3_;clear n0_ n1_ n2_ n3_;clear hb hbox hg;have hcz35_0 : w34.cell? ⟨gb327,0,none⟩ = some (.int .i64 a0_0) := (blk_cell BK327.out 0).trans rfl;have hcz35_1 : w34.cell? ⟨gb327,1,none⟩ = some (.bool false) := (blk_cell BK327.out 1).trans rfl;have hcz35_2 : w34.cell? ⟨gb327,2,none⟩ = some (.int .i64 a0_2) := (blk_cell BK327.out 2).trans rfl;have hcz35_3 : w34.cell? ⟨gb327,3,none⟩ = some (.string a0_3) := (blk_cell BK327.out 3).trans rfl;have hfz35_0 := blk_frozen BK327.out 0;have hfz35_1 := blk_frozen BK327.out 1;have hfz35_2 := blk_frozen BK327.out 2;have hfz35_3 := blk_frozen BK327.out 3))
              go_ret
              exact ⟨by first | rfl | (simp [errW_none,errW_some] <;> rfl) | (simp [*,errW_none,errW_some] <;> rfl),by repeat (first | (with_reducible first | exact HB.out | apply below_alloc | apply pw_below_drewN | apply below_drew1 | refine below_set ?_ GE327.out) | exact HB.out)⟩
            · rw [if_neg c33] at H
              have c33b0 : (a0_0 == 3) = false := beq_eq_false_iff_ne.mpr c33
              have c33b1 : (a0_0 != 3) = true := bne_iff_ne.mpr c33
              by_cases c36 : a0_3.toList = ([] : List UInt8)
              · rw [if_pos c36] at H
                have c36b0 : (a0_3.toList == ([] : List UInt8)) = true := beq_iff_eq.mpr c36
                have c36b1 : (a0_3.toList != ([] : List UInt8)) = false := bne_eq_false_iff_eq.mpr c36
                clear c36
                obtain rfl := Option.some.inj H
                go_enter Try.func53,Try.ntmps53
                go_wp2_with (first | ((with_reducible refine gate_dst (N := 1) rfl ?_);refine box_event ?hg (N := 1) ?hd (cs := #[.int .i64 a0_0,.bool false,.int .i64 a0_2,.string a0_3]) (t := 50) ?hr ?_;(case hd => rfl);(case hg => rfl);(case hr => first | (go_simp;done) | (go_simp;rfl));intro gb327 hg w37 hbox hb;have n0_ := Aside0.mk (below_step (by repeat (first | (with_reducible first | exact HB.out | apply below_alloc | apply pw_below_drewN | apply below_drew1) | exact HB.out)) hb);have n1_ := Aside0.mk (hbox);have n2_ := Aside0.mk ((by rw [hg];exact (below_size (by repeat (first | (with_reducible first | exact HB.out | apply below_alloc | apply pw_below_drewN | apply below_drew1) | exact HB.out))) : w.heap.size ≤ gb327));have n3_ := Aside0.mk ((by rw [hg];exact (below_size (by repeat (first | (with_reducible first | exact HB.out | apply below_alloc | apply pw_below_drewN | apply below_drew1) | exact HB.out))) : w.heap.size ≤ gb327));clear HB;have HB := n0_;have BK327 := n1_;have GW327 := n2_;have GE327 := n3_;clear n0_ n1_ n2_ n3_;clear hb hbox hg;have hcz38_0 : w37.cell? ⟨gb327,0,none⟩ = some (.int .i64 a0_0) := (blk_cell BK327.out 0).trans rfl;have hcz38_1 : w37.cell? ⟨gb327,1,none⟩ = some (.bool false) := (blk_cell BK327.out 1).trans rfl;have hcz38_2 : w37.cell? ⟨gb327,2,none⟩ = some (.int .i64 a0_2) := (blk_cell BK327.out 2).trans rfl;have hcz38_3 : w37.cell? ⟨gb327,3,none⟩ = some (.string a0_3) := (blk_cell BK327.out 3).trans rfl;have hfz38_0 := blk_frozen BK327.out 0;have hfz38_1 := blk_frozen BK327.out 1;have hfz38_2 := blk_frozen BK327.out 2;have hfz38_3 := blk_frozen BK327.out 3))
                go_ret
                exact ⟨by first | rfl | (simp [errW_none,errW_some] <;> rfl) | (simp [*,errW_none,errW_some] <;> rfl),by repeat (first | (with_reducible first | exact HB.out | apply below_alloc | apply pw_below_drewN | apply below_drew1 | refine below_set ?_ GE327.out) | exact HB.out)⟩
              · rw [if_neg c36] at H
                have c36b0 : (a0_3.toList == ([] : List UInt8)) = false := beq_eq_false_iff_ne.mpr c36
                have c36b1 : (a0_3.toList != ([] : List UInt8)) = true := bne_iff_ne.mpr c36
                obtain rfl := Option.some.inj H
                go_enter Try.func53,Try.ntmps53
                go_wp2_with (first | ((with_reducible refine gate_dst (N := 1) rfl ?_);refine box_event ?hg (N := 1) ?hd (cs := #[.int .i64 a0_0,.bool false,.int .i64 a0_2,.string a0_3]) (t := 50) ?hr ?_;(case hd => rfl);(case hg => rfl);(case hr => first | (go_simp;done) | (go_simp;rfl));intro gb327 hg w39 hbox hb;have n0_ := Aside0.mk (below_step (by repeat (first | (with_reducible first | exact HB.out | apply below_alloc | apply pw_below_drewN | apply below_drew1) | exact HB.out)) hb);have n1_ := Aside0.mk (hbox);have n2_ := Aside0.mk ((by rw [hg];exact (below_size (by repeat (first | (with_reducible first | exact HB.out | apply below_alloc | apply pw_below_drewN | apply below_drew1) | exact HB.out))) : w.heap.size ≤ gb327));have n3_ := Aside0.mk ((by rw [hg];exact (below_size (by repeat (first | (with_reducible first | exact HB.out | apply below_alloc | apply pw_below_drewN | apply below_drew1) | exact HB.out))) : w.heap.size ≤ gb327));clear HB;have HB := n0_;have BK327 := n1_;have GW327 := n2_;have GE327 := n3_;clear n0_ n1_ n2_ n3_;clear hb hbox hg;have hcz40_0 : w39.cell? ⟨gb327,0,none⟩ = some (.int .i64 a0_0) := (blk_cell BK327.out 0).trans rfl;have hcz40_1 : w39.cell? ⟨gb327,1,none⟩ = some (.bool false) := (blk_cell BK327.out 1).trans rfl;have hcz40_2 : w39.cell? ⟨gb327,2,none⟩ = some (.int .i64 a0_2) := (blk_cell BK327.out 2).trans rfl;have hcz40_3 : w39.cell? ⟨gb327,3,none⟩ = some (.string a0_3) := (blk_cell BK327.out 3).trans rfl;have hfz40_0 := blk_frozen BK327.out 0;have hfz40_1 := blk_frozen BK327.out 1;have hfz40_2 := blk_frozen BK327.out 2;have hfz40_3 := blk_frozen BK327.out 3))
                go_ret
                exact ⟨by first | rfl | (simp [errW_none,errW_some] <;> rfl) | (simp [*,errW_none,errW_some] <;> rfl),by repeat (first | (with_reducible first | exact HB.out | apply below_alloc | apply pw_below_drewN | apply below_drew1 | refine below_set ?_ GE327.out) | exact HB.out)⟩
          · rw [if_neg c32] at H
            have c32b0 : (a0_0 == 2) = false := beq_eq_false_iff_ne.mpr c32
            have c32b1 : (a0_0 != 2) = true := bne_iff_ne.mpr c32
            by_cases c41 : a0_2 = 0
            · rw [if_pos c41] at H
              have c41b0 : (a0_2 == 0) = true := beq_iff_eq.mpr c41
              have c41b1 : (a0_2 != 0) = false := bne_eq_false_iff_eq.mpr c41
              clear c41
              by_cases c42 : a0_0 = 3
              · rw [if_pos c42] at H
                have c42b0 : (a0_0 == 3) = true := beq_iff_eq.mpr c42
                have c42b1 : (a0_0 != 3) = false := bne_eq_false_iff_eq.mpr c42
                clear c42
                obtain rfl := Option.some.inj H
                go_enter Try.func53,Try.ntmps53
                go_wp2_with (first | ((with_reducible refine gate_dst (N := 1) rfl ?_);refine box_event ?hg (N := 1) ?hd (cs := #[.int .i64 a0_0,.bool false,.int .i64 a0_2,.string a0_3]) (t := 50) ?hr ?_;(case hd => rfl);(case hg => rfl);(case hr => first | (go_simp;done) | (go_simp;rfl));intro gb327 hg w43 hbox hb;have n0_ := Aside0.mk (below_step (by repeat (first | (with_reducible first | exact HB.out | apply below_alloc | apply pw_below_drewN | apply below_drew1) | exact HB.out)) hb);have n1_ := Aside0.mk (hbox);have n2_ := Aside0.mk ((by rw [hg];exact (below_size (by repeat (first | (with_reducible first | exact HB.out | apply below_alloc | apply pw_below_drewN | apply below_drew1) | exact HB.out))) : w.heap.size ≤ gb327));have n3_ := Aside0.mk ((by rw [hg];exact (below_size (by repeat (first | (with_reducible first | exact HB.out | apply below_alloc | apply pw_below_drewN | apply below_drew1) | exact HB.out))) : w.heap.size ≤ gb327));clear HB;have HB := n0_;have BK327 := n1_;have GW327 := n2_;have GE327 := n3_;clear n0_ n1_ n2_ n3_;clear hb hbox hg;have hcz44_0 : w43.cell? ⟨gb327,0,none⟩ = some (.int .i64 a0_0) := (blk_cell BK327.out 0).trans rfl;have hcz44_1 : w43.cell? ⟨gb327,1,none⟩ = some (.bool false) := (blk_cell BK327.out 1).trans rfl;have hcz44_2 : w43.cell? ⟨gb327,2,none⟩ = some (.int .i64 a0_2) := (blk_cell BK327.out 2).trans rfl;have hcz44_3 : w43.cell? ⟨gb327,3,none⟩ = some (.string a0_3) := (blk_cell BK327.out 3).trans rfl;have hfz44_0 := blk_frozen BK327.out 0;have hfz44_1 := blk_frozen BK327.out 1;have hfz44_2 := blk_frozen BK327.out 2;have hfz44_3 := blk_frozen BK327.out 3))
                go_ret
                exact ⟨by first | rfl | (simp [errW_none,errW_some] <;> rfl) | (simp [*,errW_none,errW_some] <;> rfl),by repeat (first | (with_reducible first | exact HB.out | apply below_alloc | apply pw_below_drewN | apply below_drew1 | refine below_set ?_ GE327.out) | exact HB.out)⟩
              · rw [if_neg c42] at H
                have c42b0 : (a0_0 == 3) = false := beq_eq_false_iff_ne.mpr c42
                have c42b1 : (a0_0 != 3) = true := bne_iff_ne.mpr c42
                by_cases c45 : a0_3.toList = ([] : List UInt8)
                · rw [if_pos c45] at H
                  have c45b0 : (a0_3.toList == ([] : List UInt8)) = true := beq_iff_eq.mpr c45
                  have c45b1 : (a0_3.toList != ([] : List UInt8)) = false := bne_eq_false_iff_eq.mpr c45
                  clear c45
                  obtain rfl := Option.some.inj H
                  go_enter Try.func53,Try.ntmps53
                  go_wp2_with (first | ((with_reducible refine gate_dst (N := 1) rfl ?_);refine box_event ?hg (N := 1) ?hd (cs := #[.int .i64 a0_0,.bool false,.int .i64 a0_2,.string a0_3]) (t := 50) ?hr ?_;(case hd => rfl);(case hg => rfl);(case hr => first | (go_simp;done) | (go_simp;rfl));intro gb327 hg w46 hbox hb;have n0_ := Aside0.mk (below_step (by repeat (first | (with_reducible first | exact HB.out | apply below_alloc | apply pw_below_drewN | apply below_drew1) | exact HB.out)) hb);have n1_ := Aside0.mk (hbox);have n2_ := Aside0.mk ((by rw [hg];exact (below_size (by repeat (first | (with_reducible first | exact HB.out | apply below_alloc | apply pw_below_drewN | apply below_drew1) | exact HB.out))) : w.heap.size ≤ gb327));have n3_ := Aside0.mk ((by rw [hg];exact (below_size (by repeat (first | (with_reducible first | exact HB.out | apply below_alloc | apply pw_below_drewN | apply below_drew1) | exact HB.out))) : w.heap.size ≤ gb327));clear HB;have HB := n0_;have BK327 := n1_;have GW327 := n2_;have GE327 := n3_;clear n0_ n1_ n2_ n3_;clear hb hbox hg;have hcz47_0 : w46.cell? ⟨gb327,0,none⟩ = some (.int .i64 a0_0) := (blk_cell BK327.out 0).trans rfl;have hcz47_1 : w46.cell? ⟨gb327,1,none⟩ = some (.bool false) := (blk_cell BK327.out 1).trans rfl;have hcz47_2 : w46.cell? ⟨gb327,2,none⟩ = some (.int .i64 a0_2) := (blk_cell BK327.out 2).trans rfl;have hcz47_3 : w46.cell? ⟨gb327,3,none⟩ = some (.string a0_3) := (blk_cell BK327.out 3).trans rfl;have hfz47_0 := blk_frozen BK327.out 0;have hfz47_1 := blk_frozen BK327.out 1;have hfz47_2 := blk_frozen BK327.out 2;have hfz47_3 := blk_frozen BK327.out 3))
                  go_ret
                  exact ⟨by first | rfl | (simp [errW_none,errW_some] <;> rfl) | (simp [*,errW_none,errW_some] <;> rfl),by repeat (first | (with_reducible first | exact HB.out | apply below_alloc | apply pw_below_drewN | apply below_drew1 | refine below_set ?_ GE327.out) | exact HB.out)⟩
                · rw [if_neg c45] at H
                  have c45b0 : (a0_3.toList == ([] : List UInt8)) = false := beq_eq_false_iff_ne.mpr c45
                  have c45b1 : (a0_3.toList != ([] : List UInt8)) = true := bne_iff_ne.mpr c45
                  obtain rfl := Option.some.inj H
                  go_enter Try.func53,Try.ntmps53
                  go_wp2_with (first | ((with_reducible refine gate_dst (N := 1) rfl ?_);refine box_event ?hg (N := 1) ?hd (cs := #[.int .i64 a0_0,.bool false,.int .i64 a0_2,.string a0_3]) (t := 50) ?hr ?_;(case hd => rfl);(case hg => rfl);(case hr => first | (go_simp;done) | (go_simp;rfl));intro gb327 hg w48 hbox hb;have n0_ := Aside0.mk (below_step (by repeat (first | (with_reducible first | exact HB.out | apply below_alloc | apply pw_below_drewN | apply below_drew1) | exact HB.out)) hb);have n1_ := Aside0.mk (hbox);have n2_ := Aside0.mk ((by rw [hg];exact (below_size (by repeat (first | (with_reducible first | exact HB.out | apply below_alloc | apply pw_below_drewN | apply below_drew1) | exact HB.out))) : w.heap.size ≤ gb327));have n3_ := Aside0.mk ((by rw [hg];exact (below_size (by repeat (first | (with_reducible first | exact HB.out | apply below_alloc | apply pw_below_drewN | apply below_drew1) | exact HB.out))) : w.heap.size ≤ gb327));clear HB;have HB := n0_;have BK327 := n1_;have GW327 := n2_;have GE327 := n3_;clear n0_ n1_ n2_ n3_;clear hb hbox hg;have hcz49_0 : w48.cell? ⟨gb327,0,none⟩ = some (.int .i64 a0_0) := (blk_cell BK327.out 0).trans rfl;have hcz49_1 : w48.cell? ⟨gb327,1,none⟩ = some (.bool false) := (blk_cell BK327.out 1).trans rfl;have hcz49_2 : w48.cell? ⟨gb327,2,none⟩ = some (.int .i64 a0_2) := (blk_cell BK327.out 2).trans rfl;have hcz49_3 : w48.cell? ⟨gb327,3,none⟩ = some (.string a0_3) := (blk_cell BK327.out 3).trans rfl;have hfz49_0 := blk_frozen BK327.out 0;have hfz49_1 := blk_frozen BK327.out 1;have hfz49_2 := blk_frozen BK327.out 2;have hfz49_3 := blk_frozen BK327.out 3))
                  go_ret
                  exact ⟨by first | rfl | (simp [errW_none,errW_some] <;> rfl) | (simp [*,errW_none,errW_some] <;> rfl),by repeat (first | (with_reducible first | exact HB.out | apply below_alloc | apply pw_below_drewN | apply below_drew1 | refine below_set ?_ GE327.out) | exact HB.out)⟩
            · rw [if_neg c41] at H
              have c41b0 : (a0_2 == 0) = false := beq_eq_false_iff_ne.mpr c41
              have c41b1 : (a0_2 != 0) = true := bne_iff_ne.mpr c41
              obtain rfl := Option.some.inj H
              go_enter Try.func53,Try.ntmps53
              go_wp2_with (first | ((with_reducible refine gate_dst (N := 1) rfl ?_);refine box_event ?hg (N := 1) ?hd (cs := #[.int .i64 a0_0,.bool false,.int .i64 a0_2,.string a0_3]) (t := 50) ?hr ?_;(case hd => rfl);(case hg => rfl);(case hr => first | (go_simp;done) | (go_simp;rfl));intro gb327 hg w50 hbox hb;have n0_ := Aside0.mk (below_step (by repeat (first | (with_reducible first | exact HB.out | apply below_alloc | apply pw_below_drewN | apply below_drew1) | exact HB.out)) hb);have n1_ := Aside0.mk (hbox);have n2_ := Aside0.mk ((by rw [hg];exact (below_size (by repeat (first | (with_reducible first | exact HB.out | apply below_alloc | apply pw_below_drewN | apply below_drew1) | exact HB.out))) : w.heap.size ≤ gb327));have n3_ := Aside0.mk ((by rw [hg];exact (below_size (by repeat (first | (with_reducible first | exact HB.out | apply below_alloc | apply pw_below_drewN | apply below_drew1) | exact HB.out))) : w.heap.size ≤ gb327));clear HB;have HB := n0_;have BK327 := n1_;have GW327 := n2_;have GE327 := n3_;clear n0_ n1_ n2_ n3_;clear hb hbox hg;have hcz51_0 : w50.cell? ⟨gb327,0,none⟩ = some (.int .i64 a0_0) := (blk_cell BK327.out 0).trans rfl;have hcz51_1 : w50.cell? ⟨gb327,1,none⟩ = some (.bool false) := (blk_cell BK327.out 1).trans rfl;have hcz51_2 : w50.cell? ⟨gb327,2,none⟩ = some (.int .i64 a0_2) := (blk_cell BK327.out 2).trans rfl;have hcz51_3 : w50.cell? ⟨gb327,3,none⟩ = some (.string a0_3) := (blk_cell BK327.out 3).trans rfl;have hfz51_0 := blk_frozen BK327.out 0;have hfz51_1 := blk_frozen BK327.out 1;have hfz51_2 := blk_frozen BK327.out 2;have hfz51_3 := blk_frozen BK327.out 3))
              go_ret
              exact ⟨by first | rfl | (simp [errW_none,errW_some] <;> rfl) | (simp [*,errW_none,errW_some] <;> rfl),by repeat (first | (with_reducible first | exact HB.out | apply below_alloc | apply pw_below_drewN | apply below_drew1 | refine below_set ?_ GE327.out) | exact HB.out)⟩
end Go.Proofs.Ytfoaeigoajooeaa.Z
end
