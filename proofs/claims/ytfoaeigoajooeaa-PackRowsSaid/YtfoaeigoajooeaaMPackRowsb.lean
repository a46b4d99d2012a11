/- Parts of the proof of PackRows: what its functions answer. -/
import Derived.Test.YtfoaeigoajooeaaMPackRowsa
namespace Go.Proofs.Ytfoaeigoajooeaa.Z
open Go.RowKit Go.Proofs.YtfoaeigoajooeaaW.PrintWords Go.Proofs.YtfoaeigoajooeaaW.PrintLast Go.Proofs.YtfoaeigoajooeaaW.PrintMore
attribute [local go_sem] max2_int min2_int max_two min_two max_three min_three max_four min_four
set_option linter.unusedVariables false
set_option linter.unusedSimpArgs false
/-! ### pack_cut: function 60 -/
def pack_cut.l0 : Nat → List Int → List Int → Int → Option (ByteArray × Int × Int)
  | 0,_,_,_ => none
  | k + 1,x0,x5,x6 => if x6 < (x0.length : Int) then (if 0 ≤ x6 then (if (rd x0 x6) = 0 then (if (wrap64 (x6 + 1)) = (x0.length : Int) then (some ((⟨#[]⟩ : ByteArray),0,8)) else (if 0 ≤ (wrap64 (x6 + 1)) then (if (wrap64 (x6 + 1)) < (x0.length : Int) then (if (rd x0 (wrap64 (x6 + 1))) = 1 then (some (strOfNums x5,wrap64 ((wrap64 (x6 + 1)) + 1),0)) else (if (rd x0 (wrap64 (x6 + 1))) = 255 then (if (x5.length : Int) = 60 then (some ((⟨#[]⟩ : ByteArray),0,9)) else (if x5.length < 140737488355328 then (pack_cut.l0 k x0 (x5 ++ [rd x0 x6]) (wrap64 ((wrap64 (x6 + 1)) + 1))) else (none))) else (some ((⟨#[]⟩ : ByteArray),0,7)))) else (none)) else (none))) else (if (x5.length : Int) = 60 then (some ((⟨#[]⟩ : ByteArray),0,9)) else (if x5.length < 140737488355328 then (pack_cut.l0 k x0 (x5 ++ [rd x0 x6]) (wrap64 (x6 + 1))) else (none)))) else (none)) else (some ((⟨#[]⟩ : ByteArray),0,8))
def pack_cut.f (k : Nat) (l0 : List Int) : Option (ByteArray × Int × Int) := pack_cut.l0 k l0 ([] : List Int) 0
theorem pack_cut.mono_l : ∀ k,(∀ y0 y1 y2,LeO (pack_cut.l0 k y0 y1 y2) (pack_cut.l0 (k + 1) y0 y1 y2))
  | 0 => fun _ _ _ r h => by simp [pack_cut.l0] at h
  | k + 1 => by
    have ih0 := pack_cut.mono_l k
    · intro y0 y1 y2
      unfold pack_cut.l0
      repeat' first
      | (with_reducible exact ih0 _ _ _)
      | (with_reducible exact LeO.refl _)
      | (with_reducible exact LeO.none _)
      | (with_reducible refine LeO.ite ?_ ?_)
      | (with_reducible refine LeO.bind ?_ (fun _ => ?_))
      | exact ih0 _ _ _
      | exact LeO.none _
      | refine LeO.ite ?_ ?_
      | refine LeO.bind ?_ (fun _ => ?_)
theorem pack_cut.mono : ∀ a0 k,LeO (pack_cut.f k a0) (pack_cut.f (k + 1) a0) := by
  intro a0 k
  have ih0 := pack_cut.mono_l k
  unfold pack_cut.f
  repeat' first
      | (with_reducible exact ih0 _ _ _)
      | (with_reducible exact LeO.refl _)
      | (with_reducible exact LeO.none _)
      | (with_reducible refine LeO.ite ?_ ?_)
      | (with_reducible refine LeO.bind ?_ (fun _ => ?_))
      | exact ih0 _ _ _
      | exact LeO.none _
      | refine LeO.ite ?_ ?_
      | refine LeO.bind ?_ (fun _ => ?_)
set_option maxHeartbeats 8000000 in
set_option maxRecDepth 100000 in
theorem pack_cut.calls (k : Nat) (A0 : Option Addr) (c0 : Nat) (l0 : List Int) (r1 : ByteArray) (r2 : Int) (r3 : Int) (w : World) (hr0 : Kd.C (Kd.int .u8) w A0 l0.length l0) (hc0 : l0.length ≤ c0) (h : pack_cut.f k l0 = some (r1,r2,r3)) :
    Calls Try.prog 60 #[.slice A0 l0.length c0] w fun e w' => e = .returned (.tuple #[.string r1,.int .i64 r2,.int .i64 r3]) ∧ Below w.heap.size w w' := by
  have HR0 := Aside0.mk hr0
  have HC0 := Aside0.mk hc0
  clear hr0 hc0
  have HB := Aside0.mk (Below.refl w.heap.size w)
  have H : (pack_cut.l0 k l0 ([] : List Int) 0) = some (r1,r2,r3) := h
  clear h
  have H' := Aside0.mk H
  clear H
  go_enter Try.func60,Try.ntmps60
  go_wp2
  go_step3
  go_wp2
  go_step3
  go_wp2
  go_loopg [5,6] k (fun kq v5 v6 w' => ∃ (x5_1 : List Int) (x6_1 : Int),v6 = .int .i64 x6_1 ∧ Aside0 (pack_cut.l0 kq l0 x5_1 x6_1 = some (r1,r2,r3)) ∧ Aside0 (kq ≤ k) ∧ Aside0 (Kd.R (Kd.int .u8) 5 w' w.heap.size (fun _ => True) v5 x5_1) ∧ Aside0 (Below w.heap.size w w'))
  case atStart => exact ⟨(([] : List Int)),(0),(by first | rfl | (simp;done) | (simp [*];done)),H',⟨Nat.le_refl _⟩,⟨by first | exact Kd.R_nil _ _ _ _ _ | exact Kd.N_nil _ _ _ _ _ | exact Kd.V_nil _ _ _ _ _ | exact Kd.Q_nil _ _ _ _ _ | exact Kd.S_nil _ _ _ _ _⟩,⟨by repeat (first | (with_reducible first | exact HB.out | apply below_alloc | apply pw_below_drewN | apply below_drew1) | exact HB.out)⟩⟩
  case round =>
    clear H'
    obtain ⟨x5_1,x6_1,rfl,HA,HK1,HO_5,HB⟩ := hrel
    cases gk with
    | zero => exact absurd HA.out (by simp [pack_cut.l0])
    | succ k1 =>
      have H := HA.out
      clear HA
      simp only [pack_cut.l0] at H
      by_cases c2 : x6_1 < (l0.length : Int)
      · rw [if_pos c2] at H
        have c2b0 : decide (x6_1 < (l0.length : Int)) = true := decide_eq_true c2
        clear c2
        by_cases c3 : 0 ≤ x6_1
        · rw [if_pos c3] at H
          have c3b0 : decide (0 ≤ x6_1) = true := decide_eq_true c3
          clear c3
          by_cases c4 : (rd l0 x6_1) = 0
          · rw [if_pos c4] at H
            have c4b0 : ((rd l0 x6_1) == 0) = true := beq_iff_eq.mpr c4
            have c4b1 : ((rd l0 x6_1) != 0) = false := bne_eq_false_iff_eq.mpr c4
            clear c4
            by_cases c5 : (wrap64 (x6_1 + 1)) = (l0.length : Int)
            · rw [if_pos c5] at H
              have c5b0 : ((wrap64 (x6_1 + 1)) == (l0.length : Int)) = true := beq_iff_eq.mpr c5
              have c5b1 : ((wrap64 (x6_1 + 1)) != (l0.length : Int)) = false := bne_eq_false_iff_eq.mpr c5
              clear c5
              simp only [Option.some.injEq,Prod.mk.injEq] at H
              obtain ⟨rfl,rfl,rfl⟩ := H
              have p460 : 0 ≤ (x6_1 : Int) := of_decide_eq_true (by first | (with_reducible assumption) | assumption)
              have q460 : x6_1 < (l0.length : Int) := of_decide_eq_true (by first | (with_reducible assumption) | assumption)
              obtain ⟨ad460,e460,hx460_0⟩ := Kd.at_int HR0.out x6_1 p460 q460
              cases e460
              replace hx460_0 := (HB.out.cell (World.block_lt_of_cell? w _ hx460_0)).trans hx460_0
              replace p460 := eq_true p460
              replace q460 := eq_true q460
              go_wp2
              (try rw [Exit.noGoto_ret])
              go_ret3
              exact ⟨by first | rfl | (simp [errW_none,errW_some] <;> rfl) | (simp [*,errW_none,errW_some] <;> rfl),by repeat (first | (with_reducible first | exact HB.out | apply below_alloc | apply pw_below_drewN | apply below_drew1) | exact HB.out)⟩
            · rw [if_neg c5] at H
              have c5b0 : ((wrap64 (x6_1 + 1)) == (l0.length : Int)) = false := beq_eq_false_iff_ne.mpr c5
              have c5b1 : ((wrap64 (x6_1 + 1)) != (l0.length : Int)) = true := bne_iff_ne.mpr c5
              obtain ⟨ji6,hji6⟩ : ∃ j_ : Int,(wrap64 (x6_1 + 1)) = j_ := ⟨_,rfl⟩
              replace H : (if 0 ≤ (ji6) then (if (ji6) < (l0.length : Int) then (if (rd l0 (ji6)) = 1 then (some (strOfNums x5_1,wrap64 ((ji6) + 1),0)) else (if (rd l0 (ji6)) = 255 then (if (x5_1.length : Int) = 60 then (some ((⟨#[]⟩ : ByteArray),0,9)) else (if x5_1.length < 140737488355328 then (pack_cut.l0 k1 l0 (x5_1 ++ [rd l0 x6_1]) (wrap64 ((ji6) + 1))) else (none))) else (some ((⟨#[]⟩ : ByteArray),0,7)))) else (none)) else (none)) = some (r1,r2,r3) := by first | (rw [hji6] at H;exact H) | (simp only [hji6] at H ⊢;exact H)
              (try rw [hji6] at c5b0)
              (try rw [hji6] at c5b1)
              have hji6w : (IntKind.i64.wrap (x6_1 + 1)) = ji6 := (i64_w _).trans hji6
              by_cases c7 : 0 ≤ (ji6)
              · rw [if_pos c7] at H
                have c7b0 : decide (0 ≤ (ji6)) = true := decide_eq_true c7
                clear c7
                by_cases c8 : (ji6) < (l0.length : Int)
                · rw [if_pos c8] at H
                  have c8b0 : decide ((ji6) < (l0.length : Int)) = true := decide_eq_true c8
                  clear c8
                  by_cases c9 : (rd l0 (ji6)) = 1
                  · rw [if_pos c9] at H
                    have c9b0 : ((rd l0 (ji6)) == 1) = true := beq_iff_eq.mpr c9
                    have c9b1 : ((rd l0 (ji6)) != 1) = false := bne_eq_false_iff_eq.mpr c9
                    clear c9
                    simp only [Option.some.injEq,Prod.mk.injEq] at H
                    obtain ⟨rfl,rfl,rfl⟩ := H
                    have p460 : 0 ≤ (x6_1 : Int) := of_decide_eq_true (by first | (with_reducible assumption) | assumption)
                    have q460 : x6_1 < (l0.length : Int) := of_decide_eq_true (by first | (with_reducible assumption) | assumption)
                    obtain ⟨ad460,e460,hx460_0⟩ := Kd.at_int HR0.out x6_1 p460 q460
                    cases e460
                    replace hx460_0 := (HB.out.cell (World.block_lt_of_cell? w _ hx460_0)).trans hx460_0
                    replace p460 := eq_true p460
                    replace q460 := eq_true q460
                    have p461 : 0 ≤ ((ji6) : Int) := of_decide_eq_true (by first | (with_reducible assumption) | assumption)
                    have q461 : (ji6) < (l0.length : Int) := of_decide_eq_true (by first | (with_reducible assumption) | assumption)
                    obtain ⟨ad461,e461,hx461_0⟩ := Kd.at_int HR0.out (ji6) p461 q461
                    obtain rfl : ad460 = ad461 := (by injection e461)
                    replace hx461_0 := (HB.out.cell (World.block_lt_of_cell? w _ hx461_0)).trans hx461_0
                    replace p461 := eq_true p461
                    replace q461 := eq_true q461
                    have hcv10 := own_string (P := Try.prog) Try.underlying47 Try.underlying5 Try.underlying9 (Kd.own_of_R HO_5.out)
                    go_wp2
                    (try rw [Exit.noGoto_ret])
                    go_ret3
                    exact ⟨by first | rfl | (simp [errW_none,errW_some] <;> rfl) | (simp only [← hji6];first | rfl | (simp [errW_none,errW_some] <;> rfl)) | (simp [*,errW_none,errW_some] <;> rfl),by repeat (first | (with_reducible first | exact HB.out | apply below_alloc | apply pw_below_drewN | apply below_drew1) | exact HB.out)⟩
                  · rw [if_neg c9] at H
                    have c9b0 : ((rd l0 (ji6)) == 1) = false := beq_eq_false_iff_ne.mpr c9
                    have c9b1 : ((rd l0 (ji6)) != 1) = true := bne_iff_ne.mpr c9
                    by_cases c11 : (rd l0 (ji6)) = 255
                    · rw [if_pos c11] at H
                      have c11b0 : ((rd l0 (ji6)) == 255) = true := beq_iff_eq.mpr c11
                      have c11b1 : ((rd l0 (ji6)) != 255) = false := bne_eq_false_iff_eq.mpr c11
                      clear c11
                      by_cases c12 : (x5_1.length : Int) = 60
                      · rw [if_pos c12] at H
                        have c12b0 : ((x5_1.length : Int) == 60) = true := beq_iff_eq.mpr c12
                        have c12b1 : ((x5_1.length : Int) != 60) = false := bne_eq_false_iff_eq.mpr c12
                        clear c12
                        simp only [Option.some.injEq,Prod.mk.injEq] at H
                        obtain ⟨rfl,rfl,rfl⟩ := H
                        have p460 : 0 ≤ (x6_1 : Int) := of_decide_eq_true (by first | (with_reducible assumption) | assumption)
                        have q460 : x6_1 < (l0.length : Int) := of_decide_eq_true (by first | (with_reducible assumption) | assumption)
                        obtain ⟨ad460,e460,hx460_0⟩ := Kd.at_int HR0.out x6_1 p460 q460
                        cases e460
                        replace hx460_0 := (HB.out.cell (World.block_lt_of_cell? w _ hx460_0)).trans hx460_0
                        replace p460 := eq_true p460
                        replace q460 := eq_true q460
                        have p461 : 0 ≤ ((ji6) : Int) := of_decide_eq_true (by first | (with_reducible assumption) | assumption)
                        have q461 : (ji6) < (l0.length : Int) := of_decide_eq_true (by first | (with_reducible assumption) | assumption)
                        obtain ⟨ad461,e461,hx461_0⟩ := Kd.at_int HR0.out (ji6) p461 q461
                        obtain rfl : ad460 = ad461 := (by injection e461)
                        replace hx461_0 := (HB.out.cell (World.block_lt_of_cell? w _ hx461_0)).trans hx461_0
                        replace p461 := eq_true p461
                        replace q461 := eq_true q461
                        have p462 : 0 ≤ ((ji6) : Int) := of_decide_eq_true (by first | (with_reducible assumption) | assumption)
                        have q462 : (ji6) < (l0.length : Int) := of_decide_eq_true (by first | (with_reducible assumption) | assumption)
                        obtain ⟨ad462,e462,hx462_0⟩ := Kd.at_int HR0.out (ji6) p462 q462
                        obtain rfl : ad460 = ad462 := (by injection e462)
                        replace hx462_0 := (HB.out.cell (World.block_lt_of_cell? w _ hx462_0)).trans hx462_0
                        replace p462 := eq_true p462
                        replace q462 := eq_true q462
                        obtain ⟨Ao13,co13,eo13⟩ := Kd.R_slice HO_5.out
                        subst eo13
                        go_wp2
                        (try rw [Exit.noGoto_ret])
                        go_ret3
                        exact ⟨by first | rfl | (simp [errW_none,errW_some] <;> rfl) | (simp only [← hji6];first | rfl | (simp [errW_none,errW_some] <;> rfl)) | (simp [*,errW_none,errW_some] <;> rfl),by repeat (first | (with_reducible first | exact HB.out | apply below_alloc | apply pw_below_drewN | apply below_drew1) | exact HB.out)⟩
                      · rw [if_neg c12] at H
                        have c12b0 : ((x5_1.length : Int) == 60) = false := beq_eq_false_iff_ne.mpr c12
                        have c12b1 : ((x5_1.length : Int) != 60) = true := bne_iff_ne.mpr c12
                        by_cases c14 : x5_1.length < 140737488355328
                        · rw [if_pos c14] at H
                          have LMc14 := Aside0.mk c14
                          clear c14
                          obtain ⟨y463,hy463⟩ : ∃ y_ : List Int,y_ = (x5_1 ++ [rd l0 x6_1]) := ⟨_,rfl⟩
                          replace H : (pack_cut.l0 k1 l0 y463 (wrap64 ((ji6) + 1))) = some (r1,r2,r3) := by first | (rw [hy463];with_reducible exact H) | (have H2_ := (Option.bind_some _ _).symm.trans H;rw [hy463];with_reducible exact H2_) | (have H2_ := (Option.bind_some _ _).symm.trans H;with_reducible exact H2_) | with_reducible exact H | (rw [hy463];exact H) | exact H
                          have Ny463 := Aside0.mk hy463
                          clear hy463
                          have H' := Aside0.mk H
                          clear H
                          have p460 : 0 ≤ (x6_1 : Int) := of_decide_eq_true (by first | (with_reducible assumption) | assumption)
                          have q460 : x6_1 < (l0.length : Int) := of_decide_eq_true (by first | (with_reducible assumption) | assumption)
                          obtain ⟨ad460,e460,hx460_0⟩ := Kd.at_int HR0.out x6_1 p460 q460
                          cases e460
                          replace hx460_0 := (HB.out.cell (World.block_lt_of_cell? w _ hx460_0)).trans hx460_0
                          replace p460 := eq_true p460
                          replace q460 := eq_true q460
                          have p461 : 0 ≤ ((ji6) : Int) := of_decide_eq_true (by first | (with_reducible assumption) | assumption)
                          have q461 : (ji6) < (l0.length : Int) := of_decide_eq_true (by first | (with_reducible assumption) | assumption)
                          obtain ⟨ad461,e461,hx461_0⟩ := Kd.at_int HR0.out (ji6) p461 q461
                          obtain rfl : ad460 = ad461 := (by injection e461)
                          replace hx461_0 := (HB.out.cell (World.block_lt_of_cell? w _ hx461_0)).trans hx461_0
                          replace p461 := eq_true p461
                          replace q461 := eq_true q461
                          have p462 : 0 ≤ ((ji6) : Int) := of_decide_eq_true (by first | (with_reducible assumption) | assumption)
                          have q462 : (ji6) < (l0.length : Int) := of_decide_eq_true (by first | (with_reducible assumption) | assumption)
                          obtain ⟨ad462,e462,hx462_0⟩ := Kd.at_int HR0.out (ji6) p462 q462
                          obtain rfl : ad460 = ad462 := (by injection e462)
                          replace hx462_0 := (HB.out.cell (World.block_lt_of_cell? w _ hx462_0)).trans hx462_0
                          replace p462 := eq_true p462
                          replace q462 := eq_true q462
                          obtain ⟨Ao15,co15,eo15⟩ := Kd.R_slice HO_5.out
                          subst eo15
                          go_wp2_with (first | ((with_reducible refine gate_builtin (b := .append) (xs := #[.tmp 46,.tmp 48]) rfl ?_);at_builtin;refine Kd.R_append (Kd.int .u8) (w0 := w) w.heap.size rfl (.tmp 46) (.tmp 48) 47 5 (.int .u8 0) 1 rfl Try.underlying47 info5 rfl (by decide) (by omega) (.slice Ao15 x5_1.length co15) x5_1 (rd l0 x6_1) [.int .u8 (rd l0 x6_1)] (fun _ => True) (fun _ => False) rfl rfl ?aP (fun _ hk => hk.elim) ?aF ?aO ?aB ?aS ?aL ?_;(case aP => exact rfl);(case aB => exact (by repeat (first | (with_reducible first | exact HB.out | apply below_alloc | apply pw_below_drewN | apply below_drew1) | exact HB.out)));(case aF => exact (fun _ _ => trivial));(case aO => exact (by (with_reducible repeat (first | apply Kd.R_alloc | apply Kd.R_drewN | apply Kd.R_drew));exact HO_5.out));(case aS => exact (below_size (by repeat (first | (with_reducible first | exact HB.out | apply below_alloc | apply pw_below_drewN | apply below_drew1) | exact HB.out))));(case aL => have := LMc14.out;omega);intro v464 w16 ho hb hg hat;rw [← Ny463.out] at ho;have n0_ := Aside0.mk (hb);have n1_ := Aside0.mk (ho);clear HB;clear HO_5;have HB := n0_;have HO465 := n1_;clear n0_ n1_;clear ho hb hg hat))
                          go_roundg k1
                          case measure => have := HK1.out;omega
                          case rel => exact ⟨(y463),(wrap64 ((ji6) + 1)),(by first | rfl | (simp;done) | (simp only [← hji6] <;> (first | rfl | simp)) | (simp [*];done)),H',⟨by have := HK1.out;omega⟩,⟨by (with_reducible repeat (first | apply Kd.R_alloc | apply Kd.R_drewN | apply Kd.R_drew));exact HO465.out⟩,⟨by repeat (first | (with_reducible first | exact HB.out | apply below_alloc | apply pw_below_drewN | apply below_drew1) | exact HB.out)⟩⟩
                        · rw [if_neg c14] at H
                          exact absurd H (by simp)
                    · rw [if_neg c11] at H
                      have c11b0 : ((rd l0 (ji6)) == 255) = false := beq_eq_false_iff_ne.mpr c11
                      have c11b1 : ((rd l0 (ji6)) != 255) = true := bne_iff_ne.mpr c11
                      simp only [Option.some.injEq,Prod.mk.injEq] at H
                      obtain ⟨rfl,rfl,rfl⟩ := H
                      have p460 : 0 ≤ (x6_1 : Int) := of_decide_eq_true (by first | (with_reducible assumption) | assumption)
                      have q460 : x6_1 < (l0.length : Int) := of_decide_eq_true (by first | (with_reducible assumption) | assumption)
                      obtain ⟨ad460,e460,hx460_0⟩ := Kd.at_int HR0.out x6_1 p460 q460
                      cases e460
                      replace hx460_0 := (HB.out.cell (World.block_lt_of_cell? w _ hx460_0)).trans hx460_0
                      replace p460 := eq_true p460
                      replace q460 := eq_true q460
                      have p461 : 0 ≤ ((ji6) : Int) := of_decide_eq_true (by first | (with_reducible assumption) | assumption)
                      have q461 : (ji6) < (l0.length : Int) := of_decide_eq_true (by first | (with_reducible assumption) | assumption)
                      obtain ⟨ad461,e461,hx461_0⟩ := Kd.at_int HR0.out (ji6) p461 q461
                      obtain rfl : ad460 = ad461 := (by injection e461)
                      replace hx461_0 := (HB.out.cell (World.block_lt_of_cell? w _ hx461_0)).trans hx461_0
                      replace p461 := eq_true p461
                      replace q461 := eq_true q461
                      have p462 : 0 ≤ ((ji6) : Int) := of_decide_eq_true (by first | (with_reducible assumption) | assumption)
                      have q462 : (ji6) < (l0.length : Int) := of_decide_eq_true (by first | (with_reducible assumption) | assumption)
                      obtain ⟨ad462,e462,hx462_0⟩ := Kd.at_int HR0.out (ji6) p462 q462
                      obtain rfl : ad460 = ad462 := (by injection e462)
                      replace hx462_0 := (HB.out.cell (World.block_lt_of_cell? w _ hx462_0)).trans hx462_0
                      replace p462 := eq_true p462
                      replace q462 := eq_true q462
                      go_wp2
                      (try rw [Exit.noGoto_ret])
                      go_ret3
                      exact ⟨by first | rfl | (simp [errW_none,errW_some] <;> rfl) | (simp only [← hji6];first | rfl | (simp [errW_none,errW_some] <;> rfl)) | (simp [*,errW_none,errW_some] <;> rfl),by repeat (first | (with_reducible first | exact HB.out | apply below_alloc | apply pw_below_drewN | apply below_drew1) | exact HB.out)⟩
                · rw [if_neg c8] at H
                  exact absurd H (by simp)
              · rw [if_neg c7] at H
                exact absurd H (by simp)
          · rw [if_neg c4] at H
            have c4b0 : ((rd l0 x6_1) == 0) = false := beq_eq_false_iff_ne.mpr c4
            have c4b1 : ((rd l0 x6_1) != 0) = true := bne_iff_ne.mpr c4
            by_cases c17 : (x5_1.length : Int) = 60
            · rw [if_pos c17] at H
              have c17b0 : ((x5_1.length : Int) == 60) = true := beq_iff_eq.mpr c17
              have c17b1 : ((x5_1.length : Int) != 60) = false := bne_eq_false_iff_eq.mpr c17
              clear c17
              simp only [Option.some.injEq,Prod.mk.injEq] at H
              obtain ⟨rfl,rfl,rfl⟩ := H
              have p460 : 0 ≤ (x6_1 : Int) := of_decide_eq_true (by first | (with_reducible assumption) | assumption)
              have q460 : x6_1 < (l0.length : Int) := of_decide_eq_true (by first | (with_reducible assumption) | assumption)
              obtain ⟨ad460,e460,hx460_0⟩ := Kd.at_int HR0.out x6_1 p460 q460
              cases e460
              replace hx460_0 := (HB.out.cell (World.block_lt_of_cell? w _ hx460_0)).trans hx460_0
              replace p460 := eq_true p460
              replace q460 := eq_true q460
              obtain ⟨Ao18,co18,eo18⟩ := Kd.R_slice HO_5.out
              subst eo18
              go_wp2
              (try rw [Exit.noGoto_ret])
              go_ret3
              exact ⟨by first | rfl | (simp [errW_none,errW_some] <;> rfl) | (simp [*,errW_none,errW_some] <;> rfl),by repeat (first | (with_reducible first | exact HB.out | apply below_alloc | apply pw_below_drewN | apply below_drew1) | exact HB.out)⟩
            · rw [if_neg c17] at H
              have c17b0 : ((x5_1.length : Int) == 60) = false := beq_eq_false_iff_ne.mpr c17
              have c17b1 : ((x5_1.length : Int) != 60) = true := bne_iff_ne.mpr c17
              by_cases c19 : x5_1.length < 140737488355328
              · rw [if_pos c19] at H
                have LMc19 := Aside0.mk c19
                clear c19
                obtain ⟨y466,hy466⟩ : ∃ y_ : List Int,y_ = (x5_1 ++ [rd l0 x6_1]) := ⟨_,rfl⟩
                replace H : (pack_cut.l0 k1 l0 y466 (wrap64 (x6_1 + 1))) = some (r1,r2,r3) := by first | (rw [hy466];with_reducible exact H) | (have H2_ := (Option.bind_some _ _).symm.trans H;rw [hy466];with_reducible exact H2_) | (have H2_ := (Option.bind_some _ _).symm.trans H;with_reducible exact H2_) | with_reducible exact H | (rw [hy466];exact H) | exact H
                have Ny466 := Aside0.mk hy466
                clear hy466
                have H' := Aside0.mk H
                clear H
                have p460 : 0 ≤ (x6_1 : Int) := of_decide_eq_true (by first | (with_reducible assumption) | assumption)
                have q460 : x6_1 < (l0.length : Int) := of_decide_eq_true (by first | (with_reducible assumption) | assumption)
                obtain ⟨ad460,e460,hx460_0⟩ := Kd.at_int HR0.out x6_1 p460 q460
                cases e460
                replace hx460_0 := (HB.out.cell (World.block_lt_of_cell? w _ hx460_0)).trans hx460_0
                replace p460 := eq_true p460
                replace q460 := eq_true q460
                obtain ⟨Ao20,co20,eo20⟩ := Kd.R_slice HO_5.out
                subst eo20
                go_wp2_with (first | ((with_reducible refine gate_builtin (b := .append) (xs := #[.tmp 46,.tmp 48]) rfl ?_);at_builtin;refine Kd.R_append (Kd.int .u8) (w0 := w) w.heap.size rfl (.tmp 46) (.tmp 48) 47 5 (.int .u8 0) 1 rfl Try.underlying47 info5 rfl (by decide) (by omega) (.slice Ao20 x5_1.length co20) x5_1 (rd l0 x6_1) [.int .u8 (rd l0 x6_1)] (fun _ => True) (fun _ => False) rfl rfl ?aP (fun _ hk => hk.elim) ?aF ?aO ?aB ?aS ?aL ?_;(case aP => exact rfl);(case aB => exact (by repeat (first | (with_reducible first | exact HB.out | apply below_alloc | apply pw_below_drewN | apply below_drew1) | exact HB.out)));(case aF => exact (fun _ _ => trivial));(case aO => exact (by (with_reducible repeat (first | apply Kd.R_alloc | apply Kd.R_drewN | apply Kd.R_drew));exact HO_5.out));(case aS => exact (below_size (by repeat (first | (with_reducible first | exact HB.out | apply below_alloc | apply pw_below_drewN | apply below_drew1) | exact HB.out))));(case aL => have := LMc19.out;omega);intro v467 w21 ho hb hg hat;rw [← Ny466.out] at ho;have n0_ := Aside0.mk (hb);have n1_ := Aside0.mk (ho);clear HB;clear HO_5;have HB := n0_;have HO468 := n1_;clear n0_ n1_;clear ho hb hg hat))
                go_roundg k1
                case measure => have := HK1.out;omega
                case rel => exact ⟨(y466),(wrap64 (x6_1 + 1)),(by first | rfl | (simp;done) | (simp [*];done)),H',⟨by have := HK1.out;omega⟩,⟨by (with_reducible repeat (first | apply Kd.R_alloc | apply Kd.R_drewN | apply Kd.R_drew));exact HO468.out⟩,⟨by repeat (first | (with_reducible first | exact HB.out | apply below_alloc | apply pw_below_drewN | apply below_drew1) | exact HB.out)⟩⟩
              · rw [if_neg c19] at H
                exact absurd H (by simp)
        · rw [if_neg c3] at H
          exact absurd H (by simp)
      · rw [if_neg c2] at H
        have c2b0 : decide (x6_1 < (l0.length : Int)) = false := decide_eq_false c2
        clear c2
        simp only [Option.some.injEq,Prod.mk.injEq] at H
        obtain ⟨rfl,rfl,rfl⟩ := H
        go_wp2
        (try rw [Exit.noGoto_ret])
        go_ret3
        exact ⟨by first | rfl | (simp [errW_none,errW_some] <;> rfl) | (simp [*,errW_none,errW_some] <;> rfl),by repeat (first | (with_reducible first | exact HB.out | apply below_alloc | apply pw_below_drewN | apply below_drew1) | exact HB.out)⟩
end Go.Proofs.Ytfoaeigoajooeaa.Z
namespace Go.Proofs.Ytfoaeigoajooeaa.Z
open Go.RowKit Go.Proofs.YtfoaeigoajooeaaW.PrintWords Go.Proofs.YtfoaeigoajooeaaW.PrintLast Go.Proofs.YtfoaeigoajooeaaW.PrintMore
attribute [local go_sem] max2_int min2_int max_two min_two max_three min_three max_four min_four
set_option linter.unusedVariables false
set_option linter.unusedSimpArgs false
/-! ### pack_First: function 37 -/
def pack_First.f (k : Nat) (l0 : List Int) : Option (Int × Bool × Int × ByteArray × Int × Int) := if (l0.length : Int) = 0 then (some (0,false,0,(⟨#[]⟩ : ByteArray),0,8)) else (if 0 < (l0.length : Int) then (if (rd l0 0) = 1 then ((value_Null.f).bind fun bt471 => (some (bt471.1,bt471.2.1,bt471.2.2.1,bt471.2.2.2,1,0))) else (if (rd l0 0) = 2 then (if 1 ≤ (l0.length : Int) then ((pack_flag.f (l0.drop 1)).bind fun bt476 => (some (bt476.1,bt476.2.1,bt476.2.2.1,bt476.2.2.2.1,bt476.2.2.2.2.1,bt476.2.2.2.2.2))) else (none)) else (if (rd l0 0) = 3 then (if 1 ≤ (l0.length : Int) then ((pack_count.f k (l0.drop 1)).bind fun bt483 => (some (bt483.1,bt483.2.1,bt483.2.2.1,bt483.2.2.2.1,bt483.2.2.2.2.1,bt483.2.2.2.2.2))) else (none)) else (if (rd l0 0) = 4 then (if 1 ≤ (l0.length : Int) then ((pack_cut.f k (l0.drop 1)).bind fun bt490 => (if bt490.2.2 = 0 then ((value_Text.f bt490.1).bind fun bt493 => (some (bt493.1,bt493.2.1,bt493.2.2.1,bt493.2.2.2,wrap64 (1 + bt490.2.1),0))) else (some (0,false,0,(⟨#[]⟩ : ByteArray),0,bt490.2.2)))) else (none)) else (some (0,false,0,(⟨#[]⟩ : ByteArray),0,7)))))) else (none))
theorem pack_First.mono : ∀ a0 k,LeO (pack_First.f k a0) (pack_First.f (k + 1) a0) := by
  intro a0 k
  unfold pack_First.f
  repeat' first
      | (with_reducible exact pack_count.mono _ _)
      | (with_reducible exact pack_cut.mono _ _)
      | (with_reducible exact LeO.refl _)
      | (with_reducible exact LeO.none _)
      | (with_reducible refine LeO.ite ?_ ?_)
      | (with_reducible refine LeO.bind ?_ (fun _ => ?_))
      | exact pack_count.mono _ _
      | exact pack_cut.mono _ _
      | exact LeO.none _
      | refine LeO.ite ?_ ?_
      | refine LeO.bind ?_ (fun _ => ?_)
set_option maxHeartbeats 8000000 in
set_option maxRecDepth 100000 in
theorem pack_First.calls (k : Nat) (A0 : Option Addr) (c0 : Nat) (l0 : List Int) (r1 : Int) (r2 : Bool) (r3 : Int) (r4 : ByteArray) (r5 : Int) (r6 : Int) (w : World) (hr0 : Kd.C (Kd.int .u8) w A0 l0.length l0) (hc0 : l0.length ≤ c0) (h : pack_First.f k l0 = some (r1,r2,r3,r4,r5,r6)) :
    Calls Try.prog 37 #[.slice A0 l0.length c0] w fun e w' => e = .returned (.tuple #[.agg #[.int .i64 r1,.bool r2,.int .i64 r3,.string r4],.int .i64 r5,.int .i64 r6]) ∧ Below w.heap.size w w' := by
  have hu50 := Try.underlying50
  have HR0 := Aside0.mk hr0
  have HC0 := Aside0.mk hc0
  clear hr0 hc0
  have HB := Aside0.mk (Below.refl w.heap.size w)
  have H : (if (l0.length : Int) = 0 then (some (0,false,0,(⟨#[]⟩ : ByteArray),0,8)) else (if 0 < (l0.length : Int) then (if (rd l0 0) = 1 then ((value_Null.f).bind fun bt471 => (some (bt471.1,bt471.2.1,bt471.2.2.1,bt471.2.2.2,1,0))) else (if (rd l0 0) = 2 then (if 1 ≤ (l0.length : Int) then ((pack_flag.f (l0.drop 1)).bind fun bt476 => (some (bt476.1,bt476.2.1,bt476.2.2.1,bt476.2.2.2.1,bt476.2.2.2.2.1,bt476.2.2.2.2.2))) else (none)) else (if (rd l0 0) = 3 then (if 1 ≤ (l0.length : Int) then ((pack_count.f k (l0.drop 1)).bind fun bt483 => (some (bt483.1,bt483.2.1,bt483.2.2.1,bt483.2.2.2.1,bt483.2.2.2.2.1,bt483.2.2.2.2.2))) else (none)) else (if (rd l0 0) = 4 then (if 1 ≤ (l0.length : Int) then ((pack_cut.f k (l0.drop 1)).bind fun bt490 => (if bt490.2.2 = 0 then ((value_Text.f bt490.1).bind fun bt493 => (some (bt493.1,bt493.2.1,bt493.2.2.1,bt493.2.2.2,wrap64 (1 + bt490.2.1),0))) else (some (0,false,0,(⟨#[]⟩ : ByteArray),0,bt490.2.2)))) else (none)) else (some (0,false,0,(⟨#[]⟩ : ByteArray),0,7)))))) else (none))) = some (r1,r2,r3,r4,r5,r6) := h
  clear h
  by_cases c2 : (l0.length : Int) = 0
  · rw [if_pos c2] at H
    have c2b0 : ((l0.length : Int) == 0) = true := beq_iff_eq.mpr c2
    have c2b1 : ((l0.length : Int) != 0) = false := bne_eq_false_iff_eq.mpr c2
    clear c2
    simp only [Option.some.injEq,Prod.mk.injEq] at H
    obtain ⟨rfl,rfl,rfl,rfl,rfl,rfl⟩ := H
    go_enter Try.func37,Try.ntmps37
    go_wp2_with (first | ((with_reducible refine gate_dst (N := 2) rfl ?_);refine box_event ?hg (N := 2) ?hd (cs := #[.int .i64 0,.bool false,.int .i64 0,.string (⟨#[]⟩ : ByteArray)]) (t := 50) ?hr ?_;(case hd => rfl);(case hg => rfl);(case hr => first | (go_simp;done) | (go_simp;rfl));intro gb469 hg w3 hbox hb;have n0_ := Aside0.mk (below_step (by repeat (first | (with_reducible first | exact HB.out | apply below_alloc | apply pw_below_drewN | apply below_drew1) | exact HB.out)) hb);have n1_ := Aside0.mk (hbox);have n2_ := Aside0.mk ((by rw [hg];exact (below_size (by repeat (first | (with_reducible first | exact HB.out | apply below_alloc | apply pw_below_drewN | apply below_drew1) | exact HB.out))) : w.heap.size ≤ gb469));have n3_ := Aside0.mk ((by rw [hg];exact (below_size (by repeat (first | (with_reducible first | exact HB.out | apply below_alloc | apply pw_below_drewN | apply below_drew1) | exact HB.out))) : w.heap.size ≤ gb469));clear HB;have HB := n0_;have BK469 := n1_;have GW469 := n2_;have GE469 := n3_;clear n0_ n1_ n2_ n3_;clear hb hbox hg;have hcz4_0 : w3.cell? ⟨gb469,0,none⟩ = some (.int .i64 0) := (blk_cell BK469.out 0).trans rfl;have hcz4_1 : w3.cell? ⟨gb469,1,none⟩ = some (.bool false) := (blk_cell BK469.out 1).trans rfl;have hcz4_2 : w3.cell? ⟨gb469,2,none⟩ = some (.int .i64 0) := (blk_cell BK469.out 2).trans rfl;have hcz4_3 : w3.cell? ⟨gb469,3,none⟩ = some (.string (⟨#[]⟩ : ByteArray)) := (blk_cell BK469.out 3).trans rfl;have hfz4_0 := blk_frozen BK469.out 0;have hfz4_1 := blk_frozen BK469.out 1;have hfz4_2 := blk_frozen BK469.out 2;have hfz4_3 := blk_frozen BK469.out 3))
    refine bodyPost_ret (results_ctt rfl _ _ gb469 50 #[.int .i64 0,.bool false,.int .i64 0,.string (⟨#[]⟩ : ByteArray)] (0,0) _ rfl (by (with_reducible repeat (first | refine blk_drewN ?_ _ | refine blk_drew ?_ | refine blk_alloc ?_ _));refine blk_put (cs := #[.int .i64 0,.bool false,.int .i64 0,.string (⟨#[]⟩ : ByteArray)]) ?_ 3 _ rfl;(with_reducible repeat (first | refine blk_drewN ?_ _ | refine blk_drew ?_ | refine blk_alloc ?_ _));refine blk_put (cs := #[.int .i64 0,.bool false,.int .i64 0,.string (⟨#[]⟩ : ByteArray)]) ?_ 2 _ rfl;(with_reducible repeat (first | refine blk_drewN ?_ _ | refine blk_drew ?_ | refine blk_alloc ?_ _));refine blk_put (cs := #[.int .i64 0,.bool false,.int .i64 0,.string (⟨#[]⟩ : ByteArray)]) ?_ 1 _ rfl;(with_reducible repeat (first | refine blk_drewN ?_ _ | refine blk_drew ?_ | refine blk_alloc ?_ _));refine blk_put (cs := #[.int .i64 0,.bool false,.int .i64 0,.string (⟨#[]⟩ : ByteArray)]) ?_ 0 _ rfl;(with_reducible repeat (first | refine blk_drewN ?_ _ | refine blk_drew ?_ | refine blk_alloc ?_ _));exact BK469.out) Try.underlying50 rfl (by kernel_rfl)) rfl ?_
    exact ⟨by first | rfl | (simp [errW_none,errW_some] <;> rfl) | (simp [*,errW_none,errW_some] <;> rfl),by repeat (first | (with_reducible first | exact HB.out | apply below_alloc | apply pw_below_drewN | apply below_drew1 | refine below_set ?_ GE469.out) | exact HB.out)⟩
  · rw [if_neg c2] at H
    have c2b0 : ((l0.length : Int) == 0) = false := beq_eq_false_iff_ne.mpr c2
    have c2b1 : ((l0.length : Int) != 0) = true := bne_iff_ne.mpr c2
    have c2b2 : ¬ (l0 = []) := fun h_ => c2 (by rw [h_];rfl)
    by_cases c5 : 0 < (l0.length : Int)
    · rw [if_pos c5] at H
      have c5b0 : decide (0 < (l0.length : Int)) = true := decide_eq_true c5
      have c5b1 : decide (0 < l0.length) = true := decide_eq_true (by omega)
      clear c5
      by_cases c6 : (rd l0 0) = 1
      · rw [if_pos c6] at H
        have c6b0 : ((rd l0 0) == 1) = true := beq_iff_eq.mpr c6
        have c6b1 : ((rd l0 0) != 1) = false := bne_eq_false_iff_eq.mpr c6
        clear c6
        replace H := Option.bind_eq_some_iff.mp H
        obtain ⟨⟨t471,t472,t473,t474⟩,A70,H⟩ := H
        replace H : (some (t471,t472,t473,t474,1,0)) = some (r1,r2,r3,r4,r5,r6) := H
        have A7 := Aside0.mk A70
        clear A70
        simp only [Option.some.injEq,Prod.mk.injEq] at H
        obtain ⟨rfl,rfl,rfl,rfl,rfl,rfl⟩ := H
        go_enter Try.func37,Try.ntmps37
        go_wp2_with (first | ((with_reducible refine gate_dst (N := 2) rfl ?_);refine box_event ?hg (N := 2) ?hd (cs := #[.int .i64 0,.bool false,.int .i64 0,.string (⟨#[]⟩ : ByteArray)]) (t := 50) ?hr ?_;(case hd => rfl);(case hg => rfl);(case hr => first | (go_simp;done) | (go_simp;rfl));intro gb469 hg w8 hbox hb;have n0_ := Aside0.mk (below_step (by repeat (first | (with_reducible first | exact HB.out | apply below_alloc | apply pw_below_drewN | apply below_drew1) | exact HB.out)) hb);have n1_ := Aside0.mk (hbox);have n2_ := Aside0.mk ((by rw [hg];exact (below_size (by repeat (first | (with_reducible first | exact HB.out | apply below_alloc | apply pw_below_drewN | apply below_drew1) | exact HB.out))) : w.heap.size ≤ gb469));have n3_ := Aside0.mk ((by rw [hg];exact (below_size (by repeat (first | (with_reducible first | exact HB.out | apply below_alloc | apply pw_below_drewN | apply below_drew1) | exact HB.out))) : w.heap.size ≤ gb469));clear HB;have HB := n0_;have BK469 := n1_;have GW469 := n2_;have GE469 := n3_;clear n0_ n1_ n2_ n3_;clear hb hbox hg;have p470 : 0 ≤ (0 : Int) := (by omega);have q470 : 0 < (l0.length : Int) := of_decide_eq_true (by first | (with_reducible assumption) | assumption);obtain ⟨ad470,e470,hx470_0⟩ := Kd.at_int HR0.out 0 p470 q470;cases e470;have qi470 : (0 < l0.length) = True := eq_true (by omega);(try rw [show ((0 : Int)).toNat = 0 from rfl] at hx470_0);(try rw [Addr.add_zero'] at hx470_0);replace hx470_0 := (HB.out.cell (World.block_lt_of_cell? w _ hx470_0)).trans hx470_0;replace p470 := eq_true p470;replace q470 := eq_true q470) | ((with_reducible refine gate_callee (f := 44) rfl ?_);refine goesL_ (some 17) rfl rfl Try.func44 (by kernel_rfl) rfl #[] rfl (by (try simp only [List.map_toArray,List.map_cons,List.map_nil]);first | done | rfl | (simp only [List.length_drop,List.length_take];rfl)) ?_;(with_reducible refine (value_Null.calls  t471 t472 t473 t474 _ A7.out).mono ?_);rintro e w9 ⟨rfl,hb⟩;refine ⟨_,rfl,?_⟩;have n0_ := Aside0.mk (blk_below (g := gb469) (o := .cells #[.int .i64 0,.bool false,.int .i64 0,.string (⟨#[]⟩ : ByteArray)] 50 (0,0)) (by (with_reducible repeat (first | refine blk_drewN ?_ _ | refine blk_drew ?_ | refine blk_alloc ?_ _));exact BK469.out) hb);have n1_ := Aside0.mk (below_step (by repeat (first | (with_reducible first | exact HB.out | apply below_alloc | apply pw_below_drewN | apply below_drew1 | refine below_set ?_ GE469.out) | exact HB.out)) hb);clear BK469;clear HB;have BK469 := n0_;have HB := n1_;clear n0_ n1_;(try clear hb);(try clear hb2);(try clear hk);(try clear hi);have hcz10_0 : w9.cell? ⟨gb469,0,none⟩ = some (.int .i64 0) := (blk_cell BK469.out 0).trans rfl;have hcz10_1 : w9.cell? ⟨gb469,1,none⟩ = some (.bool false) := (blk_cell BK469.out 1).trans rfl;have hcz10_2 : w9.cell? ⟨gb469,2,none⟩ = some (.int .i64 0) := (blk_cell BK469.out 2).trans rfl;have hcz10_3 : w9.cell? ⟨gb469,3,none⟩ = some (.string (⟨#[]⟩ : ByteArray)) := (blk_cell BK469.out 3).trans rfl;have hfz10_0 := blk_frozen BK469.out 0;have hfz10_1 := blk_frozen BK469.out 1;have hfz10_2 := blk_frozen BK469.out 2;have hfz10_3 := blk_frozen BK469.out 3))
        refine bodyPost_ret (results_ctt rfl _ _ gb469 50 #[.int .i64 t471,.bool t472,.int .i64 t473,.string t474] (0,0) _ rfl (by (with_reducible repeat (first | refine blk_drewN ?_ _ | refine blk_drew ?_ | refine blk_alloc ?_ _));refine blk_put (cs := #[.int .i64 t471,.bool t472,.int .i64 t473,.string (⟨#[]⟩ : ByteArray)]) ?_ 3 _ rfl;(with_reducible repeat (first | refine blk_drewN ?_ _ | refine blk_drew ?_ | refine blk_alloc ?_ _));refine blk_put (cs := #[.int .i64 t471,.bool t472,.int .i64 0,.string (⟨#[]⟩ : ByteArray)]) ?_ 2 _ rfl;(with_reducible repeat (first | refine blk_drewN ?_ _ | refine blk_drew ?_ | refine blk_alloc ?_ _));refine blk_put (cs := #[.int .i64 t471,.bool false,.int .i64 0,.string (⟨#[]⟩ : ByteArray)]) ?_ 1 _ rfl;(with_reducible repeat (first | refine blk_drewN ?_ _ | refine blk_drew ?_ | refine blk_alloc ?_ _));refine blk_put (cs := #[.int .i64 0,.bool false,.int .i64 0,.string (⟨#[]⟩ : ByteArray)]) ?_ 0 _ rfl;(with_reducible repeat (first | refine blk_drewN ?_ _ | refine blk_drew ?_ | refine blk_alloc ?_ _));exact BK469.out) Try.underlying50 rfl (by kernel_rfl)) rfl ?_
        exact ⟨by first | rfl | (simp [errW_none,errW_some] <;> rfl) | (simp [*,errW_none,errW_some] <;> rfl),by repeat (first | (with_reducible first | exact HB.out | apply below_alloc | apply pw_below_drewN | apply below_drew1 | refine below_set ?_ GE469.out) | exact HB.out)⟩
      · rw [if_neg c6] at H
        have c6b0 : ((rd l0 0) == 1) = false := beq_eq_false_iff_ne.mpr c6
        have c6b1 : ((rd l0 0) != 1) = true := bne_iff_ne.mpr c6
        by_cases c11 : (rd l0 0) = 2
        · rw [if_pos c11] at H
          have c11b0 : ((rd l0 0) == 2) = true := beq_iff_eq.mpr c11
          have c11b1 : ((rd l0 0) != 2) = false := bne_eq_false_iff_eq.mpr c11
          clear c11
          by_cases c12 : 1 ≤ (l0.length : Int)
          · rw [if_pos c12] at H
            have c12b0 := eq_true c12
            have c12b1 : decide (1 ≤ (l0.length : Int)) = true := decide_eq_true c12
            clear c12
            replace H := Option.bind_eq_some_iff.mp H
            obtain ⟨⟨t476,t477,t478,t479,t480,t481⟩,A130,H⟩ := H
            replace H : (some (t476,t477,t478,t479,t480,t481)) = some (r1,r2,r3,r4,r5,r6) := H
            have A13 := Aside0.mk A130
            clear A130
            simp only [Option.some.injEq,Prod.mk.injEq] at H
            obtain ⟨rfl,rfl,rfl,rfl,rfl,rfl⟩ := H
            go_enter Try.func37,Try.ntmps37
            go_wp2_with (first | ((with_reducible refine gate_dst (N := 2) rfl ?_);refine box_event ?hg (N := 2) ?hd (cs := #[.int .i64 0,.bool false,.int .i64 0,.string (⟨#[]⟩ : ByteArray)]) (t := 50) ?hr ?_;(case hd => rfl);(case hg => rfl);(case hr => first | (go_simp;done) | (go_simp;rfl));intro gb469 hg w14 hbox hb;have n0_ := Aside0.mk (below_step (by repeat (first | (with_reducible first | exact HB.out | apply below_alloc | apply pw_below_drewN | apply below_drew1) | exact HB.out)) hb);have n1_ := Aside0.mk (hbox);have n2_ := Aside0.mk ((by rw [hg];exact (below_size (by repeat (first | (with_reducible first | exact HB.out | apply below_alloc | apply pw_below_drewN | apply below_drew1) | exact HB.out))) : w.heap.size ≤ gb469));have n3_ := Aside0.mk ((by rw [hg];exact (below_size (by repeat (first | (with_reducible first | exact HB.out | apply below_alloc | apply pw_below_drewN | apply below_drew1) | exact HB.out))) : w.heap.size ≤ gb469));clear HB;have HB := n0_;have BK469 := n1_;have GW469 := n2_;have GE469 := n3_;clear n0_ n1_ n2_ n3_;clear hb hbox hg;have p470 : 0 ≤ (0 : Int) := (by omega);have q470 : 0 < (l0.length : Int) := of_decide_eq_true (by first | (with_reducible assumption) | assumption);obtain ⟨ad470,e470,hx470_0⟩ := Kd.at_int HR0.out 0 p470 q470;cases e470;have qi470 : (0 < l0.length) = True := eq_true (by omega);(try rw [show ((0 : Int)).toNat = 0 from rfl] at hx470_0);(try rw [Addr.add_zero'] at hx470_0);replace hx470_0 := (HB.out.cell (World.block_lt_of_cell? w _ hx470_0)).trans hx470_0;replace p470 := eq_true p470;replace q470 := eq_true q470;obtain ⟨i015,hi015,_,hsz15,_⟩ := info_parts info5;obtain ⟨A15,hcut15,hA15,hC15⟩ := print_drop_of (P := Try.prog) (Value.int .u8) 0 47 5 .i64 Try.underlying47 hi015 hsz15 (some ad470) c0 l0 1 (by omega) (of_decide_eq_true (by first | (with_reducible assumption) | assumption)) HC0.out;have HR475 := Aside0.mk (Kd.C_of_reads (h1 := fun _ => rfl) (hA15 _ (Kd.reads_of_C HR0.out)));have HC475 := Aside0.mk hC15;clear hA15 hC15 hi015 hsz15) | ((with_reducible refine gate_callee (f := 58) rfl ?_);refine goesL_ (some 22) rfl rfl Try.func58 (by kernel_rfl) rfl #[.slice A15 (l0.drop 1).length (c0 - 1)] rfl (by (try simp only [List.map_toArray,List.map_cons,List.map_nil]);first | done | (rw [show (l0.drop 1).length = (l0.length - 1) from List.length_drop] <;> rfl) | rfl | (simp only [List.length_drop,List.length_take];rfl)) ?_;(with_reducible refine (pack_flag.calls _ _ (l0.drop 1) t476 t477 t478 t479 t480 t481 _ ?side1 ?side2 A13.out).mono ?_);(case side1 => repeat (first | exact (Kd.C_below HR475.out HB.out) | (with_reducible refine Kd.C_alloc ?_ _) | (with_reducible refine Kd.C_drewN ?_ _) | (with_reducible refine Kd.C_drew ?_)));(case side2 => exact HC475.out);rintro e w16 ⟨rfl,hb⟩;refine ⟨_,rfl,?_⟩;have n0_ := Aside0.mk (blk_below (g := gb469) (o := .cells #[.int .i64 0,.bool false,.int .i64 0,.string (⟨#[]⟩ : ByteArray)] 50 (0,0)) (by (with_reducible repeat (first | refine blk_drewN ?_ _ | refine blk_drew ?_ | refine blk_alloc ?_ _));exact BK469.out) hb);have n1_ := Aside0.mk (below_step (by repeat (first | (with_reducible first | exact HB.out | apply below_alloc | apply pw_below_drewN | apply below_drew1 | refine below_set ?_ GE469.out) | exact HB.out)) hb);clear BK469;clear HB;have BK469 := n0_;have HB := n1_;clear n0_ n1_;(try clear hb);(try clear hb2);(try clear hk);(try clear hi);have hcz17_0 : w16.cell? ⟨gb469,0,none⟩ = some (.int .i64 0) := (blk_cell BK469.out 0).trans rfl;have hcz17_1 : w16.cell? ⟨gb469,1,none⟩ = some (.bool false) := (blk_cell BK469.out 1).trans rfl;have hcz17_2 : w16.cell? ⟨gb469,2,none⟩ = some (.int .i64 0) := (blk_cell BK469.out 2).trans rfl;have hcz17_3 : w16.cell? ⟨gb469,3,none⟩ = some (.string (⟨#[]⟩ : ByteArray)) := (blk_cell BK469.out 3).trans rfl;have hfz17_0 := blk_frozen BK469.out 0;have hfz17_1 := blk_frozen BK469.out 1;have hfz17_2 := blk_frozen BK469.out 2;have hfz17_3 := blk_frozen BK469.out 3))
            refine bodyPost_ret (results_ctt rfl _ _ gb469 50 #[.int .i64 t476,.bool t477,.int .i64 t478,.string t479] (0,0) _ rfl (by (with_reducible repeat (first | refine blk_drewN ?_ _ | refine blk_drew ?_ | refine blk_alloc ?_ _));refine blk_put (cs := #[.int .i64 t476,.bool t477,.int .i64 t478,.string (⟨#[]⟩ : ByteArray)]) ?_ 3 _ rfl;(with_reducible repeat (first | refine blk_drewN ?_ _ | refine blk_drew ?_ | refine blk_alloc ?_ _));refine blk_put (cs := #[.int .i64 t476,.bool t477,.int .i64 0,.string (⟨#[]⟩ : ByteArray)]) ?_ 2 _ rfl;(with_reducible repeat (first | refine blk_drewN ?_ _ | refine blk_drew ?_ | refine blk_alloc ?_ _));refine blk_put (cs := #[.int .i64 t476,.bool false,.int .i64 0,.string (⟨#[]⟩ : ByteArray)]) ?_ 1 _ rfl;(with_reducible repeat (first | refine blk_drewN ?_ _ | refine blk_drew ?_ | refine blk_alloc ?_ _));refine blk_put (cs := #[.int .i64 0,.bool false,.int .i64 0,.string (⟨#[]⟩ : ByteArray)]) ?_ 0 _ rfl;(with_reducible repeat (first | refine blk_drewN ?_ _ | refine blk_drew ?_ | refine blk_alloc ?_ _));exact BK469.out) Try.underlying50 rfl (by kernel_rfl)) rfl ?_
            exact ⟨by first | rfl | (simp [errW_none,errW_some] <;> rfl) | (simp [*,errW_none,errW_some] <;> rfl),by repeat (first | (with_reducible first | exact HB.out | apply below_alloc | apply pw_below_drewN | apply below_drew1 | refine below_set ?_ GE469.out) | exact HB.out)⟩
          · rw [if_neg c12] at H
            exact absurd H (by simp)
        · rw [if_neg c11] at H
          have c11b0 : ((rd l0 0) == 2) = false := beq_eq_false_iff_ne.mpr c11
          have c11b1 : ((rd l0 0) != 2) = true := bne_iff_ne.mpr c11
          by_cases c18 : (rd l0 0) = 3
          · rw [if_pos c18] at H
            have c18b0 : ((rd l0 0) == 3) = true := beq_iff_eq.mpr c18
            have c18b1 : ((rd l0 0) != 3) = false := bne_eq_false_iff_eq.mpr c18
            clear c18
            by_cases c19 : 1 ≤ (l0.length : Int)
            · rw [if_pos c19] at H
              have c19b0 := eq_true c19
              have c19b1 : decide (1 ≤ (l0.length : Int)) = true := decide_eq_true c19
              clear c19
              replace H := Option.bind_eq_some_iff.mp H
              obtain ⟨⟨t483,t484,t485,t486,t487,t488⟩,A200,H⟩ := H
              replace H : (some (t483,t484,t485,t486,t487,t488)) = some (r1,r2,r3,r4,r5,r6) := H
              have A20 := Aside0.mk A200
              clear A200
              simp only [Option.some.injEq,Prod.mk.injEq] at H
              obtain ⟨rfl,rfl,rfl,rfl,rfl,rfl⟩ := H
              go_enter Try.func37,Try.ntmps37
              go_wp2_with (first | ((with_reducible refine gate_dst (N := 2) rfl ?_);refine box_event ?hg (N := 2) ?hd (cs := #[.int .i64 0,.bool false,.int .i64 0,.string (⟨#[]⟩ : ByteArray)]) (t := 50) ?hr ?_;(case hd => rfl);(case hg => rfl);(case hr => first | (go_simp;done) | (go_simp;rfl));intro gb469 hg w21 hbox hb;have n0_ := Aside0.mk (below_step (by repeat (first | (with_reducible first | exact HB.out | apply below_alloc | apply pw_below_drewN | apply below_drew1) | exact HB.out)) hb);have n1_ := Aside0.mk (hbox);have n2_ := Aside0.mk ((by rw [hg];exact (below_size (by repeat (first | (with_reducible first | exact HB.out | apply below_alloc | apply pw_below_drewN | apply below_drew1) | exact HB.out))) : w.heap.size ≤ gb469));have n3_ := Aside0.mk ((by rw [hg];exact (below_size (by repeat (first | (with_reducible first | exact HB.out | apply below_alloc | apply pw_below_drewN | apply below_drew1) | exact HB.out))) : w.heap.size ≤ gb469));clear HB;have HB := n0_;have BK469 := n1_;have GW469 := n2_;have GE469 := n3_;clear n0_ n1_ n2_ n3_;clear hb hbox hg;have p470 : 0 ≤ (0 : Int) := (by omega);have q470 : 0 < (l0.length : Int) := of_decide_eq_true (by first | (with_reducible assumption) | assumption);obtain ⟨ad470,e470,hx470_0⟩ := Kd.at_int HR0.out 0 p470 q470;cases e470;have qi470 : (0 < l0.length) = True := eq_true (by omega);(try rw [show ((0 : Int)).toNat = 0 from rfl] at hx470_0);(try rw [Addr.add_zero'] at hx470_0);replace hx470_0 := (HB.out.cell (World.block_lt_of_cell? w _ hx470_0)).trans hx470_0;replace p470 := eq_true p470;replace q470 := eq_true q470;obtain ⟨i022,hi022,_,hsz22,_⟩ := info_parts info5;obtain ⟨A22,hcut22,hA22,hC22⟩ := print_drop_of (P := Try.prog) (Value.int .u8) 0 47 5 .i64 Try.underlying47 hi022 hsz22 (some ad470) c0 l0 1 (by omega) (of_decide_eq_true (by first | (with_reducible assumption) | assumption)) HC0.out;have HR482 := Aside0.mk (Kd.C_of_reads (h1 := fun _ => rfl) (hA22 _ (Kd.reads_of_C HR0.out)));have HC482 := Aside0.mk hC22;clear hA22 hC22 hi022 hsz22) | ((with_reducible refine gate_callee (f := 59) rfl ?_);refine goesL_ (some 30) rfl rfl Try.func59 (by kernel_rfl) rfl #[.slice A22 (l0.drop 1).length (c0 - 1)] rfl (by (try simp only [List.map_toArray,List.map_cons,List.map_nil]);first | done | (rw [show (l0.drop 1).length = (l0.length - 1) from List.length_drop] <;> rfl) | rfl | (simp only [List.length_drop,List.length_take];rfl)) ?_;(with_reducible refine (pack_count.calls k _ _ (l0.drop 1) t483 t484 t485 t486 t487 t488 _ ?side1 ?side2 A20.out).mono ?_);(case side1 => repeat (first | exact (Kd.C_below HR482.out HB.out) | (with_reducible refine Kd.C_alloc ?_ _) | (with_reducible refine Kd.C_drewN ?_ _) | (with_reducible refine Kd.C_drew ?_)));(case side2 => exact HC482.out);rintro e w23 ⟨rfl,hb⟩;refine ⟨_,rfl,?_⟩;have n0_ := Aside0.mk (blk_below (g := gb469) (o := .cells #[.int .i64 0,.bool false,.int .i64 0,.string (⟨#[]⟩ : ByteArray)] 50 (0,0)) (by (with_reducible repeat (first | refine blk_drewN ?_ _ | refine blk_drew ?_ | refine blk_alloc ?_ _));exact BK469.out) hb);have n1_ := Aside0.mk (below_step (by repeat (first | (with_reducible first | exact HB.out | apply below_alloc | apply pw_below_drewN | apply below_drew1 | refine below_set ?_ GE469.out) | exact HB.out)) hb);clear BK469;clear HB;have BK469 := n0_;have HB := n1_;clear n0_ n1_;(try clear hb);(try clear hb2);(try clear hk);(try clear hi);have hcz24_0 : w23.cell? ⟨gb469,0,none⟩ = some (.int .i64 0) := (blk_cell BK469.out 0).trans rfl;have hcz24_1 : w23.cell? ⟨gb469,1,none⟩ = some (.bool false) := (blk_cell BK469.out 1).trans rfl;have hcz24_2 : w23.cell? ⟨gb469,2,none⟩ = some (.int .i64 0) := (blk_cell BK469.out 2).trans rfl;have hcz24_3 : w23.cell? ⟨gb469,3,none⟩ = some (.string (⟨#[]⟩ : ByteArray)) := (blk_cell BK469.out 3).trans rfl;have hfz24_0 := blk_frozen BK469.out 0;have hfz24_1 := blk_frozen BK469.out 1;have hfz24_2 := blk_frozen BK469.out 2;have hfz24_3 := blk_frozen BK469.out 3))
              refine bodyPost_ret (results_ctt rfl _ _ gb469 50 #[.int .i64 t483,.bool t484,.int .i64 t485,.string t486] (0,0) _ rfl (by (with_reducible repeat (first | refine blk_drewN ?_ _ | refine blk_drew ?_ | refine blk_alloc ?_ _));refine blk_put (cs := #[.int .i64 t483,.bool t484,.int .i64 t485,.string (⟨#[]⟩ : ByteArray)]) ?_ 3 _ rfl;(with_reducible repeat (first | refine blk_drewN ?_ _ | refine blk_drew ?_ | refine blk_alloc ?_ _));refine blk_put (cs := #[.int .i64 t483,.bool t484,.int .i64 0,.string (⟨#[]⟩ : ByteArray)]) ?_ 2 _ rfl;(with_reducible repeat (first | refine blk_drewN ?_ _ | refine blk_drew ?_ | refine blk_alloc ?_ _));refine blk_put (cs := #[.int .i64 t483,.bool false,.int .i64 0,.string (⟨#[]⟩ : ByteArray)]) ?_ 1 _ rfl;(with_reducible repeat (first | refine blk_drewN ?_ _ | refine blk_drew ?_ | refine blk_alloc ?_ _));refine blk_put (cs := #[.int .i64 0,.bool false,.int .i64 0,.string (⟨#[]⟩ : ByteArray)]) ?_ 0 _ rfl;(with_reducible repeat (first | refine blk_drewN ?_ _ | refine blk_drew ?_ | refine blk_alloc ?_ _));exact BK469.out) Try.underlying50 rfl (by kernel_rfl)) rfl ?_
              exact ⟨by first | rfl | (simp [errW_none,errW_some] <;> rfl) | (simp [*,errW_none,errW_some] <;> rfl),by repeat (first | (with_reducible first | exact HB.out | apply below_alloc | apply pw_below_drewN | apply below_drew1 | refine below_set ?_ GE469.out) | exact HB.out)⟩
            · rw [if_neg c19] at H
              exact absurd H (by simp)
          · rw [if_neg c18] at H
            have c18b0 : ((rd l0 0) == 3) = false := beq_eq_false_iff_ne.mpr c18
            have c18b1 : ((rd l0 0) != 3) = true := bne_iff_ne.mpr c18
            by_cases c25 : (rd l0 0) = 4
            · rw [if_pos c25] at H
              have c25b0 : ((rd l0 0) == 4) = true := beq_iff_eq.mpr c25
              have c25b1 : ((rd l0 0) != 4) = false := bne_eq_false_iff_eq.mpr c25
              clear c25
              by_cases c26 : 1 ≤ (l0.length : Int)
              · rw [if_pos c26] at H
                have c26b0 := eq_true c26
                have c26b1 : decide (1 ≤ (l0.length : Int)) = true := decide_eq_true c26
                clear c26
                replace H := Option.bind_eq_some_iff.mp H
                obtain ⟨⟨t490,t491,t492⟩,A270,H⟩ := H
                replace H : (if t492 = 0 then ((value_Text.f t490).bind fun bt493 => (some (bt493.1,bt493.2.1,bt493.2.2.1,bt493.2.2.2,wrap64 (1 + t491),0))) else (some (0,false,0,(⟨#[]⟩ : ByteArray),0,t492))) = some (r1,r2,r3,r4,r5,r6) := H
                have A27 := Aside0.mk A270
                clear A270
                by_cases c28 : t492 = 0
                · rw [if_pos c28] at H
                  have c28b0 : (t492 == 0) = true := beq_iff_eq.mpr c28
                  have c28b1 : (t492 != 0) = false := bne_eq_false_iff_eq.mpr c28
                  clear c28
                  replace H := Option.bind_eq_some_iff.mp H
                  obtain ⟨⟨t493,t494,t495,t496⟩,A290,H⟩ := H
                  replace H : (some (t493,t494,t495,t496,wrap64 (1 + t491),0)) = some (r1,r2,r3,r4,r5,r6) := H
                  have A29 := Aside0.mk A290
                  clear A290
                  simp only [Option.some.injEq,Prod.mk.injEq] at H
                  obtain ⟨rfl,rfl,rfl,rfl,rfl,rfl⟩ := H
                  go_enter Try.func37,Try.ntmps37
                  go_wp2_with (first | ((with_reducible refine gate_dst (N := 2) rfl ?_);refine box_event ?hg (N := 2) ?hd (cs := #[.int .i64 0,.bool false,.int .i64 0,.string (⟨#[]⟩ : ByteArray)]) (t := 50) ?hr ?_;(case hd => rfl);(case hg => rfl);(case hr => first | (go_simp;done) | (go_simp;rfl));intro gb469 hg w30 hbox hb;have n0_ := Aside0.mk (below_step (by repeat (first | (with_reducible first | exact HB.out | apply below_alloc | apply pw_below_drewN | apply below_drew1) | exact HB.out)) hb);have n1_ := Aside0.mk (hbox);have n2_ := Aside0.mk ((by rw [hg];exact (below_size (by repeat (first | (with_reducible first | exact HB.out | apply below_alloc | apply pw_below_drewN | apply below_drew1) | exact HB.out))) : w.heap.size ≤ gb469));have n3_ := Aside0.mk ((by rw [hg];exact (below_size (by repeat (first | (with_reducible first | exact HB.out | apply below_alloc | apply pw_below_drewN | apply below_drew1) | exact HB.out))) : w.heap.size ≤ gb469));clear HB;have HB := n0_;have BK469 := n1_;have GW469 := n2_;have GE469 := n3_;clear n0_ n1_ n2_ n3_;clear hb hbox hg;have p470 : 0 ≤ (0 : Int) := (by omega);have q470 : 0 < (l0.length : Int) := of_decide_eq_true (by first | (with_reducible assumption) | assumption);obtain ⟨ad470,e470,hx470_0⟩ := Kd.at_int HR0.out 0 p470 q470;cases e470;have qi470 : (0 < l0.length) = True := eq_true (by omega);(try rw [show ((0 : Int)).toNat = 0 from rfl] at hx470_0);(try rw [Addr.add_zero'] at hx470_0);replace hx470_0 := (HB.out.cell (World.block_lt_of_cell? w _ hx470_0)).trans hx470_0;replace p470 := eq_true p470;replace q470 := eq_true q470;obtain ⟨i031,hi031,_,hsz31,_⟩ := info_parts info5;obtain ⟨A31,hcut31,hA31,hC31⟩ := print_drop_of (P := Try.prog) (Value.int .u8) 0 47 5 .i64 Try.underlying47 hi031 hsz31 (some ad470) c0 l0 1 (by omega) (of_decide_eq_true (by first | (with_reducible assumption) | assumption)) HC0.out;have HR489 := Aside0.mk (Kd.C_of_reads (h1 := fun _ => rfl) (hA31 _ (Kd.reads_of_C HR0.out)));have HC489 := Aside0.mk hC31;clear hA31 hC31 hi031 hsz31) | ((with_reducible refine gate_callee (f := 60) rfl ?_);refine goesL_ (some 39) rfl rfl Try.func60 (by kernel_rfl) rfl #[.slice A31 (l0.drop 1).length (c0 - 1)] rfl (by (try simp only [List.map_toArray,List.map_cons,List.map_nil]);first | done | (rw [show (l0.drop 1).length = (l0.length - 1) from List.length_drop] <;> rfl) | rfl | (simp only [List.length_drop,List.length_take];rfl)) ?_;(with_reducible refine (pack_cut.calls k _ _ (l0.drop 1) t490 t491 t492 _ ?side1 ?side2 A27.out).mono ?_);(case side1 => repeat (first | exact (Kd.C_below HR489.out HB.out) | (with_reducible refine Kd.C_alloc ?_ _) | (with_reducible refine Kd.C_drewN ?_ _) | (with_reducible refine Kd.C_drew ?_)));(case side2 => exact HC489.out);rintro e w32 ⟨rfl,hb⟩;refine ⟨_,rfl,?_⟩;have n0_ := Aside0.mk (blk_below (g := gb469) (o := .cells #[.int .i64 0,.bool false,.int .i64 0,.string (⟨#[]⟩ : ByteArray)] 50 (0,0)) (by (with_reducible repeat (first | refine blk_drewN ?_ _ | refine blk_drew ?_ | refine blk_alloc ?_ _));exact BK469.out) hb);have n1_ := Aside0.mk (below_step (by repeat (first | (with_reducible first | exact HB.out | apply below_alloc | apply pw_below_drewN | apply below_drew1 | refine below_set ?_ GE469.out) | exact HB.out)) hb);clear BK469;clear HB;have BK469 := n0_;have HB := n1_;clear n0_ n1_;(try clear hb);(try clear hb2);(try clear hk);(try clear hi)) | ((with_reducible refine gate_callee (f := 61) rfl ?_);refine goesL_ (some 48) rfl rfl Try.func61 (by kernel_rfl) rfl #[.string t490] rfl (by (try simp only [List.map_toArray,List.map_cons,List.map_nil]);first | done | rfl | (simp only [List.length_drop,List.length_take];rfl)) ?_;(with_reducible refine (value_Text.calls t490 t493 t494 t495 t496 _ A29.out).mono ?_);rintro e w33 ⟨rfl,hb⟩;refine ⟨_,rfl,?_⟩;have n0_ := Aside0.mk (blk_below (g := gb469) (o := .cells #[.int .i64 0,.bool false,.int .i64 0,.string (⟨#[]⟩ : ByteArray)] 50 (0,0)) (by (with_reducible repeat (first | refine blk_drewN ?_ _ | refine blk_drew ?_ | refine blk_alloc ?_ _));exact BK469.out) hb);have n1_ := Aside0.mk (below_step (by repeat (first | (with_reducible first | exact HB.out | apply below_alloc | apply pw_below_drewN | apply below_drew1 | refine below_set ?_ GE469.out) | exact HB.out)) hb);clear BK469;clear HB;have BK469 := n0_;have HB := n1_;clear n0_ n1_;(try clear hb);(try clear hb2);(try clear hk);(try clear hi);have hcz34_0 : w33.cell? ⟨gb469,0,none⟩ = some (.int .i64 0) := (blk_cell BK469.out 0).trans rfl;have hcz34_1 : w33.cell? ⟨gb469,1,none⟩ = some (.bool false) := (blk_cell BK469.out 1).trans rfl;have hcz34_2 : w33.cell? ⟨gb469,2,none⟩ = some (.int .i64 0) := (blk_cell BK469.out 2).trans rfl;have hcz34_3 : w33.cell? ⟨gb469,3,none⟩ = some (.string (⟨#[]⟩ : ByteArray)) := (blk_cell BK469.out 3).trans rfl;have hfz34_0 := blk_frozen BK469.out 0;have hfz34_1 := blk_frozen BK469.out 1;have hfz34_2 := blk_frozen BK469.out 2;have hfz34_3 := blk_frozen BK469.out 3))
                  refine bodyPost_ret (results_ctt rfl _ _ gb469 50 #[.int .i64 t493,.bool t494,.int .i64 t495,.string t496] (0,0) _ rfl (by (with_reducible repeat (first | refine blk_drewN ?_ _ | refine blk_drew ?_ | refine blk_alloc ?_ _));refine blk_put (cs := #[.int .i64 t493,.bool t494,.int .i64 t495,.string (⟨#[]⟩ : ByteArray)]) ?_ 3 _ rfl;(with_reducible repeat (first | refine blk_drewN ?_ _ | refine blk_drew ?_ | refine blk_alloc ?_ _));refine blk_put (cs := #[.int .i64 t493,.bool t494,.int .i64 0,.string (⟨#[]⟩ : ByteArray)]) ?_ 2 _ rfl;(with_reducible repeat (first | refine blk_drewN ?_ _ | refine blk_drew ?_ | refine blk_alloc ?_ _));refine blk_put (cs := #[.int .i64 t493,.bool false,.int .i64 0,.string (⟨#[]⟩ : ByteArray)]) ?_ 1 _ rfl;(with_reducible repeat (first | refine blk_drewN ?_ _ | refine blk_drew ?_ | refine blk_alloc ?_ _));refine blk_put (cs := #[.int .i64 0,.bool false,.int .i64 0,.string (⟨#[]⟩ : ByteArray)]) ?_ 0 _ rfl;(with_reducible repeat (first | refine blk_drewN ?_ _ | refine blk_drew ?_ | refine blk_alloc ?_ _));exact BK469.out) Try.underlying50 rfl (by kernel_rfl)) rfl ?_
                  exact ⟨by first | rfl | (simp [errW_none,errW_some] <;> rfl) | (simp [*,errW_none,errW_some] <;> rfl),by repeat (first | (with_reducible first | exact HB.out | apply below_alloc | apply pw_below_drewN | apply below_drew1 | refine below_set ?_ GE469.out) | exact HB.out)⟩
                · rw [if_neg c28] at H
                  have c28b0 : (t492 == 0) = false := beq_eq_false_iff_ne.mpr c28
                  have c28b1 : (t492 != 0) = true := bne_iff_ne.mpr c28
                  simp only [Option.some.injEq,Prod.mk.injEq] at H
                  obtain ⟨rfl,rfl,rfl,rfl,rfl,rfl⟩ := H
                  go_enter Try.func37,Try.ntmps37
                  go_wp2_with (first | ((with_reducible refine gate_dst (N := 2) rfl ?_);refine box_event ?hg (N := 2) ?hd (cs := #[.int .i64 0,.bool false,.int .i64 0,.string (⟨#[]⟩ : ByteArray)]) (t := 50) ?hr ?_;(case hd => rfl);(case hg => rfl);(case hr => first | (go_simp;done) | (go_simp;rfl));intro gb469 hg w35 hbox hb;have n0_ := Aside0.mk (below_step (by repeat (first | (with_reducible first | exact HB.out | apply below_alloc | apply pw_below_drewN | apply below_drew1) | exact HB.out)) hb);have n1_ := Aside0.mk (hbox);have n2_ := Aside0.mk ((by rw [hg];exact (below_size (by repeat (first | (with_reducible first | exact HB.out | apply below_alloc | apply pw_below_drewN | apply below_drew1) | exact HB.out))) : w.heap.size ≤ gb469));have n3_ := Aside0.mk ((by rw [hg];exact (below_size (by repeat (first | (with_reducible first | exact HB.out | apply below_alloc | apply pw_below_drewN | apply below_drew1) | exact HB.out))) : w.heap.size ≤ gb469));clear HB;have HB := n0_;have BK469 := n1_;have GW469 := n2_;have GE469 := n3_;clear n0_ n1_ n2_ n3_;clear hb hbox hg;have p470 : 0 ≤ (0 : Int) := (by omega);have q470 : 0 < (l0.length : Int) := of_decide_eq_true (by first | (with_reducible assumption) | assumption);obtain ⟨ad470,e470,hx470_0⟩ := Kd.at_int HR0.out 0 p470 q470;cases e470;have qi470 : (0 < l0.length) = True := eq_true (by omega);(try rw [show ((0 : Int)).toNat = 0 from rfl] at hx470_0);(try rw [Addr.add_zero'] at hx470_0);replace hx470_0 := (HB.out.cell (World.block_lt_of_cell? w _ hx470_0)).trans hx470_0;replace p470 := eq_true p470;replace q470 := eq_true q470;obtain ⟨i036,hi036,_,hsz36,_⟩ := info_parts info5;obtain ⟨A36,hcut36,hA36,hC36⟩ := print_drop_of (P := Try.prog) (Value.int .u8) 0 47 5 .i64 Try.underlying47 hi036 hsz36 (some ad470) c0 l0 1 (by omega) (of_decide_eq_true (by first | (with_reducible assumption) | assumption)) HC0.out;have HR489 := Aside0.mk (Kd.C_of_reads (h1 := fun _ => rfl) (hA36 _ (Kd.reads_of_C HR0.out)));have HC489 := Aside0.mk hC36;clear hA36 hC36 hi036 hsz36) | ((with_reducible refine gate_callee (f := 60) rfl ?_);refine goesL_ (some 39) rfl rfl Try.func60 (by kernel_rfl) rfl #[.slice A36 (l0.drop 1).length (c0 - 1)] rfl (by (try simp only [List.map_toArray,List.map_cons,List.map_nil]);first | done | (rw [show (l0.drop 1).length = (l0.length - 1) from List.length_drop] <;> rfl) | rfl | (simp only [List.length_drop,List.length_take];rfl)) ?_;(with_reducible refine (pack_cut.calls k _ _ (l0.drop 1) t490 t491 t492 _ ?side1 ?side2 A27.out).mono ?_);(case side1 => repeat (first | exact (Kd.C_below HR489.out HB.out) | (with_reducible refine Kd.C_alloc ?_ _) | (with_reducible refine Kd.C_drewN ?_ _) | (with_reducible refine Kd.C_drew ?_)));(case side2 => exact HC489.out);rintro e w37 ⟨rfl,hb⟩;refine ⟨_,rfl,?_⟩;have n0_ := Aside0.mk (blk_below (g := gb469) (o := .cells #[.int .i64 0,.bool false,.int .i64 0,.string (⟨#[]⟩ : ByteArray)] 50 (0,0)) (by (with_reducible repeat (first | refine blk_drewN ?_ _ | refine blk_drew ?_ | refine blk_alloc ?_ _));exact BK469.out) hb);have n1_ := Aside0.mk (below_step (by repeat (first | (with_reducible first | exact HB.out | apply below_alloc | apply pw_below_drewN | apply below_drew1 | refine below_set ?_ GE469.out) | exact HB.out)) hb);clear BK469;clear HB;have BK469 := n0_;have HB := n1_;clear n0_ n1_;(try clear hb);(try clear hb2);(try clear hk);(try clear hi);have hcz38_0 : w37.cell? ⟨gb469,0,none⟩ = some (.int .i64 0) := (blk_cell BK469.out 0).trans rfl;have hcz38_1 : w37.cell? ⟨gb469,1,none⟩ = some (.bool false) := (blk_cell BK469.out 1).trans rfl;have hcz38_2 : w37.cell? ⟨gb469,2,none⟩ = some (.int .i64 0) := (blk_cell BK469.out 2).trans rfl;have hcz38_3 : w37.cell? ⟨gb469,3,none⟩ = some (.string (⟨#[]⟩ : ByteArray)) := (blk_cell BK469.out 3).trans rfl;have hfz38_0 := blk_frozen BK469.out 0;have hfz38_1 := blk_frozen BK469.out 1;have hfz38_2 := blk_frozen BK469.out 2;have hfz38_3 := blk_frozen BK469.out 3))
                  refine bodyPost_ret (results_ctt rfl _ _ gb469 50 #[.int .i64 0,.bool false,.int .i64 0,.string (⟨#[]⟩ : ByteArray)] (0,0) _ rfl (by (with_reducible repeat (first | refine blk_drewN ?_ _ | refine blk_drew ?_ | refine blk_alloc ?_ _));refine blk_put (cs := #[.int .i64 0,.bool false,.int .i64 0,.string (⟨#[]⟩ : ByteArray)]) ?_ 3 _ rfl;(with_reducible repeat (first | refine blk_drewN ?_ _ | refine blk_drew ?_ | refine blk_alloc ?_ _));refine blk_put (cs := #[.int .i64 0,.bool false,.int .i64 0,.string (⟨#[]⟩ : ByteArray)]) ?_ 2 _ rfl;(with_reducible repeat (first | refine blk_drewN ?_ _ | refine blk_drew ?_ | refine blk_alloc ?_ _));refine blk_put (cs := #[.int .i64 0,.bool false,.int .i64 0,.string (⟨#[]⟩ : ByteArray)]) ?_ 1 _ rfl;(with_reducible repeat (first | refine blk_drewN ?_ _ | refine blk_drew ?_ | refine blk_alloc ?_ _));refine blk_put (cs := #[.int .i64 0,.bool false,.int .i64 0,.string (⟨#[]⟩ : ByteArray)]) ?_ 0 _ rfl;(with_reducible repeat (first | refine blk_drewN ?_ _ | refine blk_drew ?_ | refine blk_alloc ?_ _));exact BK469.out) Try.underlying50 rfl (by kernel_rfl)) rfl ?_
                  exact ⟨by first | rfl | (simp [errW_none,errW_some] <;> rfl) | (simp [*,errW_none,errW_some] <;> rfl),by repeat (first | (with_reducible first | exact HB.out | apply below_alloc | apply pw_below_drewN | apply below_drew1 | refine below_set ?_ GE469.out) | exact HB.out)⟩
              · rw [if_neg c26] at H
                exact absurd H (by simp)
            · rw [if_neg c25] at H
              have c25b0 : ((rd l0 0) == 4) = false := beq_eq_false_iff_ne.mpr c25
              have c25b1 : ((rd l0 0) != 4) = true := bne_iff_ne.mpr c25
              simp only [Option.some.injEq,Prod.mk.injEq] at H
              obtain ⟨rfl,rfl,rfl,rfl,rfl,rfl⟩ := H
              go_enter Try.func37,Try.ntmps37
              go_wp2_with (first | ((with_reducible refine gate_dst (N := 2) rfl ?_);refine box_event ?hg (N := 2) ?hd (cs := #[.int .i64 0,.bool false,.int .i64 0,.string (⟨#[]⟩ : ByteArray)]) (t := 50) ?hr ?_;(case hd => rfl);(case hg => rfl);(case hr => first | (go_simp;done) | (go_simp;rfl));intro gb469 hg w39 hbox hb;have n0_ := Aside0.mk (below_step (by repeat (first | (with_reducible first | exact HB.out | apply below_alloc | apply pw_below_drewN | apply below_drew1) | exact HB.out)) hb);have n1_ := Aside0.mk (hbox);have n2_ := Aside0.mk ((by rw [hg];exact (below_size (by repeat (first | (with_reducible first | exact HB.out | apply below_alloc | apply pw_below_drewN | apply below_drew1) | exact HB.out))) : w.heap.size ≤ gb469));have n3_ := Aside0.mk ((by rw [hg];exact (below_size (by repeat (first | (with_reducible first | exact HB.out | apply below_alloc | apply pw_below_drewN | apply below_drew1) | exact HB.out))) : w.heap.size ≤ gb469));clear HB;have HB := n0_;have BK469 := n1_;have GW469 := n2_;have GE469 := n3_;clear n0_ n1_ n2_ n3_;clear hb hbox hg;have p470 : 0 ≤ (0 : Int) := (by omega);have q470 : 0 < (l0.length : Int) := of_decide_eq_true (by first | (with_reducible assumption) | assumption);obtain ⟨ad470,e470,hx470_0⟩ := Kd.at_int HR0.out 0 p470 q470;cases e470;have qi470 : (0 < l0.length) = True := eq_true (by omega);(try rw [show ((0 : Int)).toNat = 0 from rfl] at hx470_0);(try rw [Addr.add_zero'] at hx470_0);replace hx470_0 := (HB.out.cell (World.block_lt_of_cell? w _ hx470_0)).trans hx470_0;replace p470 := eq_true p470;replace q470 := eq_true q470;have hcz40_0 : w39.cell? ⟨gb469,0,none⟩ = some (.int .i64 0) := (blk_cell BK469.out 0).trans rfl;have hcz40_1 : w39.cell? ⟨gb469,1,none⟩ = some (.bool false) := (blk_cell BK469.out 1).trans rfl;have hcz40_2 : w39.cell? ⟨gb469,2,none⟩ = some (.int .i64 0) := (blk_cell BK469.out 2).trans rfl;have hcz40_3 : w39.cell? ⟨gb469,3,none⟩ = some (.string (⟨#[]⟩ : ByteArray)) := (blk_cell BK469.out 3).trans rfl;have hfz40_0 := blk_frozen BK469.out 0;have hfz40_1 := blk_frozen BK469.out 1;have hfz40_2 := blk_frozen BK469.out 2;have hfz40_3 := blk_frozen BK469.out 3))
              refine bodyPost_ret (results_ctt rfl _ _ gb469 50 #[.int .i64 0,.bool false,.int .i64 0,.string (⟨#[]⟩ : ByteArray)] (0,0) _ rfl (by (with_reducible repeat (first | refine blk_drewN ?_ _ | refine blk_drew ?_ | refine blk_alloc ?_ _));refine blk_put (cs := #[.int .i64 0,.bool false,.int .i64 0,.string (⟨#[]⟩ : ByteArray)]) ?_ 3 _ rfl;(with_reducible repeat (first | refine blk_drewN ?_ _ | refine blk_drew ?_ | refine blk_alloc ?_ _));refine blk_put (cs := #[.int .i64 0,.bool false,.int .i64 0,.string (⟨#[]⟩ : ByteArray)]) ?_ 2 _ rfl;(with_reducible repeat (first | refine blk_drewN ?_ _ | refine blk_drew ?_ | refine blk_alloc ?_ _));refine blk_put (cs := #[.int .i64 0,.bool false,.int .i64 0,.string (⟨#[]⟩ : ByteArray)]) ?_ 1 _ rfl;(with_reducible repeat (first | refine blk_drewN ?_ _ | refine blk_drew ?_ | refine blk_alloc ?_ _));refine blk_put (cs := #[.int .i64 0,.bool false,.int .i64 0,.string (⟨#[]⟩ : ByteArray)]) ?_ 0 _ rfl;(with_reducible repeat (first | refine blk_drewN ?_ _ | refine blk_drew ?_ | refine blk_alloc ?_ _));exact BK469.out) Try.underlying50 rfl (by kernel_rfl)) rfl ?_
              exact ⟨by first | rfl | (simp [errW_none,errW_some] <;> rfl) | (simp [*,errW_none,errW_some] <;> rfl),by repeat (first | (with_reducible first | exact HB.out | apply below_alloc | apply pw_below_drewN | apply below_drew1 | refine below_set ?_ GE469.out) | exact HB.out)⟩
    · rw [if_neg c5] at H
      exact absurd H (by simp)
end Go.Proofs.Ytfoaeigoajooeaa.Z
namespace Go.Proofs.Ytfoaeigoajooeaa.Z
open Go.RowKit Go.Proofs.YtfoaeigoajooeaaW.PrintWords Go.Proofs.YtfoaeigoajooeaaW.PrintLast Go.Proofs.YtfoaeigoajooeaaW.PrintMore
attribute [local go_sem] max2_int min2_int max_two min_two max_three min_three max_four min_four
set_option linter.unusedVariables false
set_option linter.unusedSimpArgs false
/-! ### pack_Back: function 39 -/
def pack_Back.l0 : Nat → List Int → List (S50) → Option ((List (S50)) × Int)
  | 0,_,_ => none
  | k + 1,x0,x4 => if (x0.length : Int) > 0 then (if 0 < (x0.length : Int) then (if (rd x0 0) = 0 then (if (x0.length : Int) > 1 then (some (([] : List (S50)),7)) else (some (x4,0))) else ((pack_First.f k x0).bind fun bt498 => (if bt498.2.2.2.2.2 = 0 then (if x4.length < 3518437208883 then (if 0 ≤ bt498.2.2.2.2.1 then (if bt498.2.2.2.2.1 ≤ (x0.length : Int) then (pack_Back.l0 k (x0.drop (bt498.2.2.2.2.1 : Int).toNat) (x4 ++ [(⟨bt498.1,bt498.2.1,bt498.2.2.1,bt498.2.2.2.1⟩ : S50)])) else (none)) else (none)) else (none)) else (some (([] : List (S50)),bt498.2.2.2.2.2))))) else (none)) else (some (([] : List (S50)),8))
def pack_Back.f (k : Nat) (l0 : List Int) : Option ((List (S50)) × Int) := pack_Back.l0 k l0 ([] : List (S50))
theorem pack_Back.mono_l : ∀ k,(∀ y0 y1,LeO (pack_Back.l0 k y0 y1) (pack_Back.l0 (k + 1) y0 y1))
  | 0 => fun _ _ r h => by simp [pack_Back.l0] at h
  | k + 1 => by
    have ih0 := pack_Back.mono_l k
    · intro y0 y1
      unfold pack_Back.l0
      repeat' first
      | (with_reducible exact ih0 _ _)
      | (with_reducible exact pack_First.mono _ _)
      | (with_reducible exact LeO.refl _)
      | (with_reducible exact LeO.none _)
      | (with_reducible refine LeO.ite ?_ ?_)
      | (with_reducible refine LeO.bind ?_ (fun _ => ?_))
      | exact ih0 _ _
      | exact pack_First.mono _ _
      | exact LeO.none _
      | refine LeO.ite ?_ ?_
      | refine LeO.bind ?_ (fun _ => ?_)
theorem pack_Back.mono : ∀ a0 k,LeO (pack_Back.f k a0) (pack_Back.f (k + 1) a0) := by
  intro a0 k
  have ih0 := pack_Back.mono_l k
  unfold pack_Back.f
  repeat' first
      | (with_reducible exact ih0 _ _)
      | (with_reducible exact pack_First.mono _ _)
      | (with_reducible exact LeO.refl _)
      | (with_reducible exact LeO.none _)
      | (with_reducible refine LeO.ite ?_ ?_)
      | (with_reducible refine LeO.bind ?_ (fun _ => ?_))
      | exact ih0 _ _
      | exact pack_First.mono _ _
      | exact LeO.none _
      | refine LeO.ite ?_ ?_
      | refine LeO.bind ?_ (fun _ => ?_)
def pack_Back.T10 : Bool × List (List Nat × List Nat) := (true,[([],[]),([],[]),([1],[1]),([0,2],[0,2]),([],[]),([],[]),([4,5],[4,5]),([3,3,0,1,2,3],[0,3]),([6,7,0,1,2,3,4,5,6,7],[4,6])])
def pack_Back.B10 : List Nat := [0,0,2,7,0,0,48,15,255]
theorem pack_Back.tab10 : rtab .any (opsOf Try.f39 10) = pack_Back.T10 := by kernel_rfl
theorem pack_Back.bits10 : waitsOk pack_Back.T10.2 pack_Back.B10 = true := by kernel_rfl
set_option maxHeartbeats 8000000 in
set_option maxRecDepth 100000 in
theorem pack_Back.calls (k : Nat) (P0_ : Nat → Prop) (A0 : Option Addr) (c0 : Nat) (l0 : List Int) (r1 : List (S50)) (r2 : Int) (w : World) (hs0 : Kd.V (Kd.int .u8) 5 w w.heap.size (fun k_ => P0_ k_) (.slice A0 l0.length c0) l0) (h : pack_Back.f k l0 = some (r1,r2)) :
    Calls Try.prog 39 #[.slice A0 l0.length c0] w fun e w' => ∃ v0_ : Value,e = .returned (.tuple #[v0_,.int .i64 r2]) ∧ Kd.R k50 50 w' w.heap.size (fun k_ => (w.heap.size ≤ k_)) v0_ r1 ∧ Below w.heap.size w w' := by
  have hu50 := Try.underlying50
  have HO0 := Aside0.mk (show Kd.V (Kd.int .u8) 5 w w.heap.size (fun k_ => (P0_ k_ ∨ w.heap.size ≤ k_)) (.slice A0 l0.length c0) l0 from Kd.V_mono hs0 (fun k_ hk => .inl hk))
  have HB := Aside0.mk (Below.refl w.heap.size w)
  have H : (pack_Back.l0 k l0 ([] : List (S50))) = some (r1,r2) := h
  clear h
  have H' := Aside0.mk H
  clear H
  go_enter Try.func39,Try.ntmps39
  go_wp2
  go_loopg [0,4] k (fun kq v0 v4 w' => ∃ (x0_1 : List Int) (x4_1 : List (S50)),Aside0 (pack_Back.l0 kq x0_1 x4_1 = some (r1,r2)) ∧ Aside0 (kq ≤ k) ∧ Aside0 (Kd.V (Kd.int .u8) 5 w' w.heap.size (fun k_ => (P0_ k_ ∨ w.heap.size ≤ k_) ∧ some k_ ≠ (v4 : Value).ownBlock) v0 x0_1) ∧ Aside0 (Kd.R k50 50 w' w.heap.size (fun k_ => (w.heap.size ≤ k_)) v4 x4_1) ∧ Aside0 (Below w.heap.size w w'))
  case atStart => exact ⟨(l0),(([] : List (S50))),H',⟨Nat.le_refl _⟩,⟨by (with_reducible repeat (first | apply Kd.V_alloc | apply Kd.V_drewN | apply Kd.V_drew));exact Kd.V_mono HO0.out (fun _ hk => ⟨hk,(by simp [Value.ownBlock])⟩)⟩,⟨by first | exact Kd.R_nil _ _ _ _ _ | exact Kd.N_nil _ _ _ _ _ | exact Kd.V_nil _ _ _ _ _ | exact Kd.Q_nil _ _ _ _ _ | exact Kd.S_nil _ _ _ _ _⟩,⟨by repeat (first | (with_reducible first | exact HB.out | apply below_alloc | apply pw_below_drewN | apply below_drew1) | exact HB.out)⟩⟩
  case round =>
    clear H'
    obtain ⟨x0_1,x4_1,HA,HK1,HO_0,HO_4,HB⟩ := hrel
    cases gk with
    | zero => exact absurd HA.out (by simp [pack_Back.l0])
    | succ k1 =>
      have H := HA.out
      clear HA
      simp only [pack_Back.l0] at H
      by_cases c2 : (x0_1.length : Int) > 0
      · rw [if_pos c2] at H
        have c2b0 : decide (0 < (x0_1.length : Int)) = true := decide_eq_true c2
        have c2b1 : decide (0 < x0_1.length) = true := decide_eq_true (by omega)
        clear c2
        by_cases c3 : 0 < (x0_1.length : Int)
        · rw [if_pos c3] at H
          have c3b0 : decide (0 < (x0_1.length : Int)) = true := decide_eq_true c3
          have c3b1 : decide (0 < x0_1.length) = true := decide_eq_true (by omega)
          clear c3
          by_cases c4 : (rd x0_1 0) = 0
          · rw [if_pos c4] at H
            have c4b0 : ((rd x0_1 0) == 0) = true := beq_iff_eq.mpr c4
            have c4b1 : ((rd x0_1 0) != 0) = false := bne_eq_false_iff_eq.mpr c4
            clear c4
            by_cases c5 : (x0_1.length : Int) > 1
            · rw [if_pos c5] at H
              have c5b0 : decide (1 < (x0_1.length : Int)) = true := decide_eq_true c5
              have c5b1 : decide (1 < x0_1.length) = true := decide_eq_true (by omega)
              clear c5
              simp only [Option.some.injEq,Prod.mk.injEq] at H
              obtain ⟨rfl,rfl⟩ := H
              obtain ⟨Ao6,co6,eo6⟩ := Kd.V_slice HO_0.out
              subst eo6
              have p497 : 0 ≤ (0 : Int) := (by omega)
              have q497 : 0 < (x0_1.length : Int) := of_decide_eq_true (by first | (with_reducible assumption) | assumption)
              obtain ⟨ad497,e497,hx497_0⟩ := Kd.at_int (Kd.V_reads' HO_0.out).2.2 0 p497 q497
              cases e497
              have qi497 : (0 < x0_1.length) = True := eq_true (by omega)
              (try rw [show ((0 : Int)).toNat = 0 from rfl] at hx497_0)
              (try rw [Addr.add_zero'] at hx497_0)
              replace p497 := eq_true p497
              replace q497 := eq_true q497
              go_wp2
              go_ret2
              exact ⟨_,by first | rfl | (simp [errW_none,errW_some] <;> rfl) | (simp [*,errW_none,errW_some] <;> rfl),by first | exact Kd.R_nil _ _ _ _ _ | exact Kd.N_nil _ _ _ _ _ | exact Kd.V_nil _ _ _ _ _ | exact Kd.Q_nil _ _ _ _ _ | exact Kd.S_nil _ _ _ _ _,by repeat (first | (with_reducible first | exact HB.out | apply below_alloc | apply pw_below_drewN | apply below_drew1) | exact HB.out)⟩
            · rw [if_neg c5] at H
              have c5b0 : decide (1 < (x0_1.length : Int)) = false := decide_eq_false c5
              have c5b1 : decide (1 < x0_1.length) = false := decide_eq_false (by omega)
              clear c5
              simp only [Option.some.injEq,Prod.mk.injEq] at H
              obtain ⟨rfl,rfl⟩ := H
              obtain ⟨Ao7,co7,eo7⟩ := Kd.V_slice HO_0.out
              subst eo7
              have p497 : 0 ≤ (0 : Int) := (by omega)
              have q497 : 0 < (x0_1.length : Int) := of_decide_eq_true (by first | (with_reducible assumption) | assumption)
              obtain ⟨ad497,e497,hx497_0⟩ := Kd.at_int (Kd.V_reads' HO_0.out).2.2 0 p497 q497
              cases e497
              have qi497 : (0 < x0_1.length) = True := eq_true (by omega)
              (try rw [show ((0 : Int)).toNat = 0 from rfl] at hx497_0)
              (try rw [Addr.add_zero'] at hx497_0)
              replace p497 := eq_true p497
              replace q497 := eq_true q497
              go_wp2
              go_ret2
              exact ⟨_,by first | rfl | (simp [errW_none,errW_some] <;> rfl) | (simp [*,errW_none,errW_some] <;> rfl),by (with_reducible repeat (first | apply Kd.R_alloc | apply Kd.R_drewN | apply Kd.R_drew));exact HO_4.out,by repeat (first | (with_reducible first | exact HB.out | apply below_alloc | apply pw_below_drewN | apply below_drew1) | exact HB.out)⟩
          · rw [if_neg c4] at H
            have c4b0 : ((rd x0_1 0) == 0) = false := beq_eq_false_iff_ne.mpr c4
            have c4b1 : ((rd x0_1 0) != 0) = true := bne_iff_ne.mpr c4
            replace H := Option.bind_eq_some_iff.mp H
            obtain ⟨⟨t498,t499,t500,t501,t502,t503⟩,A80,H⟩ := H
            replace H : (if t503 = 0 then (if x4_1.length < 3518437208883 then (if 0 ≤ t502 then (if t502 ≤ (x0_1.length : Int) then (pack_Back.l0 k1 (x0_1.drop (t502 : Int).toNat) (x4_1 ++ [(⟨t498,t499,t500,t501⟩ : S50)])) else (none)) else (none)) else (none)) else (some (([] : List (S50)),t503))) = some (r1,r2) := H
            have A8 := Aside0.mk A80
            clear A80
            by_cases c9 : t503 = 0
            · rw [if_pos c9] at H
              have c9b0 : (t503 == 0) = true := beq_iff_eq.mpr c9
              have c9b1 : (t503 != 0) = false := bne_eq_false_iff_eq.mpr c9
              clear c9
              by_cases c10 : x4_1.length < 3518437208883
              · rw [if_pos c10] at H
                have LMc10 := Aside0.mk c10
                clear c10
                obtain ⟨y505,hy505⟩ : ∃ y_ : List (S50),y_ = (x4_1 ++ [(⟨t498,t499,t500,t501⟩ : S50)]) := ⟨_,rfl⟩
                replace H : (if 0 ≤ t502 then (if t502 ≤ (x0_1.length : Int) then (pack_Back.l0 k1 (x0_1.drop (t502 : Int).toNat) y505) else (none)) else (none)) = some (r1,r2) := by first | (rw [hy505];with_reducible exact H) | (have H2_ := (Option.bind_some _ _).symm.trans H;rw [hy505];with_reducible exact H2_) | (have H2_ := (Option.bind_some _ _).symm.trans H;with_reducible exact H2_) | with_reducible exact H | (rw [hy505];exact H) | exact H
                have Ny505 := Aside0.mk hy505
                clear hy505
                by_cases c11 : 0 ≤ t502
                · rw [if_pos c11] at H
                  have c11b0 := eq_true c11
                  have c11b1 : decide (0 ≤ t502) = true := decide_eq_true c11
                  clear c11
                  by_cases c12 : t502 ≤ (x0_1.length : Int)
                  · rw [if_pos c12] at H
                    have c12b0 := eq_true c12
                    have c12b1 : decide (t502 ≤ (x0_1.length : Int)) = true := decide_eq_true c12
                    clear c12
                    obtain ⟨y508,hy508⟩ : ∃ y_ : List Int,y_ = (x0_1.drop (t502 : Int).toNat) := ⟨_,rfl⟩
                    replace H : (pack_Back.l0 k1 y508 y505) = some (r1,r2) := by first | (rw [hy508];with_reducible exact H) | (have H2_ := (Option.bind_some _ _).symm.trans H;rw [hy508];with_reducible exact H2_) | (have H2_ := (Option.bind_some _ _).symm.trans H;with_reducible exact H2_) | with_reducible exact H | (rw [hy508];exact H) | exact H
                    have Ny508 := Aside0.mk hy508
                    clear hy508
                    have H' := Aside0.mk H
                    clear H
                    obtain ⟨Ao13,co13,eo13⟩ := Kd.V_slice HO_0.out
                    subst eo13
                    have p497 : 0 ≤ (0 : Int) := (by omega)
                    have q497 : 0 < (x0_1.length : Int) := of_decide_eq_true (by first | (with_reducible assumption) | assumption)
                    obtain ⟨ad497,e497,hx497_0⟩ := Kd.at_int (Kd.V_reads' HO_0.out).2.2 0 p497 q497
                    cases e497
                    have qi497 : (0 < x0_1.length) = True := eq_true (by omega)
                    (try rw [show ((0 : Int)).toNat = 0 from rfl] at hx497_0)
                    (try rw [Addr.add_zero'] at hx497_0)
                    replace p497 := eq_true p497
                    replace q497 := eq_true q497
                    try go_wp2_with (first | ((with_reducible refine gate_callee (f := 37) rfl ?_);refine goesL_ (some 21) rfl rfl Try.func37 (by kernel_rfl) rfl #[.slice (some ad497) x0_1.length co13] rfl (by (try simp only [List.map_toArray,List.map_cons,List.map_nil]);first | done | rfl | (simp only [List.length_drop,List.length_take];rfl)) ?_;(with_reducible refine (pack_First.calls k1 _ _ x0_1 t498 t499 t500 t501 t502 t503 _ ?side1 ?side2 A8.out).mono ?_);(case side1 => repeat (first | exact (Kd.V_reads' HO_0.out).2.2 | (with_reducible refine Kd.C_alloc ?_ _) | (with_reducible refine Kd.C_drewN ?_ _) | (with_reducible refine Kd.C_drew ?_)));(case side2 => exact (Kd.V_reads' HO_0.out).2.1);rintro e w14 ⟨rfl,hb⟩;refine ⟨_,rfl,?_⟩;have n0_ := Aside0.mk (Kd.V_below (by (with_reducible repeat (first | apply Kd.V_alloc | apply Kd.V_drewN | apply Kd.V_drew));exact HO_0.out) hb);have n1_ := Aside0.mk (Kd.R_below (by (with_reducible repeat (first | apply Kd.R_alloc | apply Kd.R_drewN | apply Kd.R_drew));exact HO_4.out) hb);have n2_ := Aside0.mk (below_step (by repeat (first | (with_reducible first | exact HB.out | apply below_alloc | apply pw_below_drewN | apply below_drew1) | exact HB.out)) hb);clear HO_0;clear HO_4;clear HB;have HO_0 := n0_;have HO_4 := n1_;have HB := n2_;clear n0_ n1_ n2_;(try clear hb);(try clear hb2);(try clear hk);(try clear hi)) | ((with_reducible refine gate_dst (N := 5) rfl ?_);refine box_event ?hg (N := 5) ?hd (cs := #[.int .i64 0,.bool false,.int .i64 0,.string (⟨#[]⟩ : ByteArray)]) (t := 50) ?hr ?_;(case hd => rfl);(case hg => rfl);(case hr => first | (go_simp;done) | (go_simp;rfl));intro gb504 hg w15 hbox hb;have n0_ := Aside0.mk (Kd.V_below (Kd.V_elderB (by (with_reducible repeat (first | apply Kd.V_alloc | apply Kd.V_drewN | apply Kd.V_drew));exact HO_0.out) gb504 (Nat.le_of_eq hg.symm)) hb);have n1_ := Aside0.mk (Kd.R_below (Kd.R_elderB (by (with_reducible repeat (first | apply Kd.R_alloc | apply Kd.R_drewN | apply Kd.R_drew));exact HO_4.out) gb504 (Nat.le_of_eq hg.symm)) hb);have n2_ := Aside0.mk (below_step (by repeat (first | (with_reducible first | exact HB.out | apply below_alloc | apply pw_below_drewN | apply below_drew1) | exact HB.out)) hb);have n3_ := Aside0.mk (hbox);have n4_ := Aside0.mk ((by rw [hg];exact (below_size (by repeat (first | (with_reducible first | exact HB.out | apply below_alloc | apply pw_below_drewN | apply below_drew1) | exact HB.out))) : w.heap.size ≤ gb504));have n5_ := Aside0.mk ((by rw [hg];exact (below_size (by repeat (first | (with_reducible first | exact HB.out | apply below_alloc | apply pw_below_drewN | apply below_drew1) | exact HB.out))) : w.heap.size ≤ gb504));clear HO_0;clear HO_4;clear HB;have HO_0 := n0_;have HO_4 := n1_;have HB := n2_;have BK504 := n3_;have GW504 := n4_;have GE504 := n5_;clear n0_ n1_ n2_ n3_ n4_ n5_;clear hb hbox hg;have hcz16_0 : w15.cell? ⟨gb504,0,none⟩ = some (.int .i64 0) := (blk_cell BK504.out 0).trans rfl;have hcz16_1 : w15.cell? ⟨gb504,1,none⟩ = some (.bool false) := (blk_cell BK504.out 1).trans rfl;have hcz16_2 : w15.cell? ⟨gb504,2,none⟩ = some (.int .i64 0) := (blk_cell BK504.out 2).trans rfl;have hcz16_3 : w15.cell? ⟨gb504,3,none⟩ = some (.string (⟨#[]⟩ : ByteArray)) := (blk_cell BK504.out 3).trans rfl;have hfz16_0 := blk_frozen BK504.out 0;have hfz16_1 := blk_frozen BK504.out 1;have hfz16_2 := blk_frozen BK504.out 2;have hfz16_3 := blk_frozen BK504.out 3))
                    have n0_ : Aside0 (Kd.V (Kd.int .u8) 5 ((((w15.setCell ⟨gb504,0,none⟩ (.int .i64 t498)).setCell ⟨gb504,1,none⟩ (.bool t499)).setCell ⟨gb504,2,none⟩ (.int .i64 t500)).setCell ⟨gb504,3,none⟩ (.string t501)) w.heap.size (fun k_ => (P0_ k_ ∨ w.heap.size ≤ k_) ∧ some k_ ≠ (u4 : Value).ownBlock ∧ k_ ≠ gb504) (.slice (some ad497) x0_1.length co13) x0_1) := ⟨by (with_reducible repeat (first | apply Kd.V_alloc | apply Kd.V_drewN | apply Kd.V_drew));exact Kd.V_mono (Kd.V_far (p := ⟨gb504,3,none⟩) (Kd.V_far (p := ⟨gb504,2,none⟩) (Kd.V_far (p := ⟨gb504,1,none⟩) (Kd.V_far (p := ⟨gb504,0,none⟩) (Kd.V_mono HO_0.out (fun k_ hk => (⟨hk,hk.2⟩ : _ ∧ k_ ≠ gb504))) (fun _ hk => hk.2) (.int .i64 t498)) (fun _ hk => hk.2) (.bool t499)) (fun _ hk => hk.2) (.int .i64 t500)) (fun _ hk => hk.2) (.string t501)) (fun _ hk => ⟨hk.1.1.1,⟨hk.1.1.2,hk.1.2⟩⟩)⟩
                    have n1_ : Aside0 (Kd.R k50 50 ((((w15.setCell ⟨gb504,0,none⟩ (.int .i64 t498)).setCell ⟨gb504,1,none⟩ (.bool t499)).setCell ⟨gb504,2,none⟩ (.int .i64 t500)).setCell ⟨gb504,3,none⟩ (.string t501)) w.heap.size (fun k_ => (w.heap.size ≤ k_) ∧ k_ ≠ gb504) u4 x4_1) := ⟨by (with_reducible repeat (first | apply Kd.R_alloc | apply Kd.R_drewN | apply Kd.R_drew));exact Kd.R_mono (Kd.R_far (p := ⟨gb504,3,none⟩) (Kd.R_far (p := ⟨gb504,2,none⟩) (Kd.R_far (p := ⟨gb504,1,none⟩) (Kd.R_far (p := ⟨gb504,0,none⟩) (Kd.R_mono HO_4.out (fun k_ hk => (⟨hk,hk.2⟩ : _ ∧ k_ ≠ gb504))) (fun _ hk => hk.2) (.int .i64 t498)) (fun _ hk => hk.2) (.bool t499)) (fun _ hk => hk.2) (.int .i64 t500)) (fun _ hk => hk.2) (.string t501)) (fun _ hk => ⟨hk.1.1,hk.1.2⟩)⟩
                    have n2_ : Aside0 (((((w15.setCell ⟨gb504,0,none⟩ (.int .i64 t498)).setCell ⟨gb504,1,none⟩ (.bool t499)).setCell ⟨gb504,2,none⟩ (.int .i64 t500)).setCell ⟨gb504,3,none⟩ (.string t501)).heap[gb504]? = some (.cells #[.int .i64 t498,.bool t499,.int .i64 t500,.string t501] 50 (0,0))) := ⟨by (with_reducible repeat (first | refine blk_drewN ?_ _ | refine blk_drew ?_ | refine blk_alloc ?_ _));refine blk_put (cs := #[.int .i64 t498,.bool t499,.int .i64 t500,.string (⟨#[]⟩ : ByteArray)]) ?_ 3 _ rfl;(with_reducible repeat (first | refine blk_drewN ?_ _ | refine blk_drew ?_ | refine blk_alloc ?_ _));refine blk_put (cs := #[.int .i64 t498,.bool t499,.int .i64 0,.string (⟨#[]⟩ : ByteArray)]) ?_ 2 _ rfl;(with_reducible repeat (first | refine blk_drewN ?_ _ | refine blk_drew ?_ | refine blk_alloc ?_ _));refine blk_put (cs := #[.int .i64 t498,.bool false,.int .i64 0,.string (⟨#[]⟩ : ByteArray)]) ?_ 1 _ rfl;(with_reducible repeat (first | refine blk_drewN ?_ _ | refine blk_drew ?_ | refine blk_alloc ?_ _));refine blk_put (cs := #[.int .i64 0,.bool false,.int .i64 0,.string (⟨#[]⟩ : ByteArray)]) ?_ 0 _ rfl;(with_reducible repeat (first | refine blk_drewN ?_ _ | refine blk_drew ?_ | refine blk_alloc ?_ _));exact BK504.out⟩
                    have n3_ : Aside0 (Below w.heap.size w ((((w15.setCell ⟨gb504,0,none⟩ (.int .i64 t498)).setCell ⟨gb504,1,none⟩ (.bool t499)).setCell ⟨gb504,2,none⟩ (.int .i64 t500)).setCell ⟨gb504,3,none⟩ (.string t501))) := ⟨by repeat (first | (with_reducible first | exact HB.out | apply below_alloc | apply pw_below_drewN | apply below_drew1 | refine below_set ?_ GE504.out) | exact HB.out)⟩
                    (try clear HO_0)
                    (try clear HO_4)
                    (try clear BK504)
                    (try clear HB)
                    generalize ((((w15.setCell ⟨gb504,0,none⟩ (.int .i64 t498)).setCell ⟨gb504,1,none⟩ (.bool t499)).setCell ⟨gb504,2,none⟩ (.int .i64 t500)).setCell ⟨gb504,3,none⟩ (.string t501)) = w17 at n0_ n1_ n2_ n3_ ⊢
                    have HO_0 := n0_
                    have HO_4 := n1_
                    have BK504 := n2_
                    have HB := n3_
                    clear n0_ n1_ n2_ n3_
                    have n0_ := Aside0.mk (Kd.V_drew HO_0.out)
                    have n1_ := Aside0.mk (Kd.R_drew HO_4.out)
                    have n2_ := Aside0.mk (blk_drew BK504.out)
                    have n3_ := Aside0.mk (below_drew1 HB.out)
                    clear HO_0
                    clear HO_4
                    clear BK504
                    clear HB
                    have HO_0 := n0_
                    have HO_4 := n1_
                    have BK504 := n2_
                    have HB := n3_
                    clear n0_ n1_ n2_ n3_
                    have q19 : (t502 : Int) ≤ ((x0_1.length : Int) : Int) := of_decide_eq_true (by first | (with_reducible assumption) | assumption)
                    obtain ⟨i019,hi019,_,hsz19,_⟩ := info_parts info5
                    have hroom19 : x0_1.length ≤ co13 := (Kd.V_reads' HO_0.out).2.1
                    have hC19 : Kd.F (Kd.int .u8) _ _ (some ad497) x0_1.length x0_1 := (Kd.V_at (base := w.heap.size) HO_0.out).2.2
                    have q019 : (0 : Int) ≤ (t502 : Int) := of_decide_eq_true (by first | (with_reducible assumption) | assumption)
                    have hcut19 := cut_from (P := Try.prog) 47 5 .i64 Try.underlying47 hi019 1 hsz19 (some ad497) x0_1.length co13 t502 q019 q19
                    have hr19 := Kd.F_cut (m := (t502 : Int).toNat) (c := co13) hC19 (by omega) hroom19
                    obtain ⟨A19,hA19⟩ : ∃ A1,A1 = (if co13 = (t502 : Int).toNat then (some ad497) else ((some ad497) : Option Addr).map (·.add ((t502 : Int).toNat * 1))) := ⟨_,rfl⟩
                    obtain ⟨c19,hc19⟩ : ∃ c1,c1 = co13 - (t502 : Int).toNat := ⟨_,rfl⟩
                    have hy19 : y508.length = x0_1.length - (t502 : Int).toNat := (by rw [Ny508.out,List.length_drop] <;> omega)
                    rw [show (x0_1).drop (t502 : Int).toNat = y508 from Ny508.out.symm] at hr19
                    replace hr19 : Kd.F (Kd.int .u8) _ _ A19 y508.length y508 := (by rw [hA19];exact hr19)
                    rw [← hy19,← hA19,← hc19] at hcut19
                    have HO512 := Aside0.mk (show Kd.V (Kd.int .u8) 5 _ w.heap.size _ (.slice A19 y508.length c19) y508 from Kd.V_mk (by rw [hy19,hc19];exact Nat.sub_le_sub_right hroom19 _) hr19)
                    have HC512 := Aside0.mk (show y508.length ≤ c19 from by rw [hy19,hc19];exact Nat.sub_le_sub_right hroom19 _)
                    clear hr19 hC19 hroom19 hi019 hsz19 hc19
                    have KY19 := Aside0.mk hy19
                    have KA19 := Aside0.mk hA19
                    clear hy19 hA19
                    replace q19 := eq_true q19
                    refine start_ (n := 9) (S := fun w' => w'.cell? ⟨gb504,0,none⟩ = some (.int .i64 t498) ∧ w'.cell? ⟨gb504,1,none⟩ = some (.bool t499) ∧ w'.cell? ⟨gb504,2,none⟩ = some (.int .i64 t500) ∧ w'.cell? ⟨gb504,3,none⟩ = some (.string t501)) (ds := []) #[false,false,false,false,false,false,false,false,false] (by kernel_rfl) rfl rfl ⟨(blk_cell BK504.out 0).trans rfl,(blk_cell BK504.out 1).trans rfl,(blk_cell BK504.out 2).trans rfl,(blk_cell BK504.out 3).trans rfl⟩ (fun hHeld => ?_);refine with_tabW pack_Back.tab10 pack_Back.bits10 (fun HT_ HW_ => ?_)
                    generalize w17.drew = w18 at HO_0 HO_4 BK504 HB HO512 hHeld ⊢
                    refine pure_ (i := 0) (N := some 28) (v := ?_) (a' := ?_) #[true,false,false,false,false,false,false,false,false] rfl rfl (any_of HT_.out (by kernel_rfl)) (fun _ _ _ h => h) (Or.inl ⟨by rfl,?_⟩) ?_ ?_
                    rotate_left
                    · intro w'
                      go_simp
                      with_reducible rfl
                    rotate_left
                    · simp only [Act.put,zA,zB,zC,i64_w,i32_w]
                      rfl
                    refine pure_ (i := 4) (N := some 32) (v := ?_) (a' := ?_) #[true,false,false,false,true,false,false,false,false] rfl rfl (any_of HT_.out (by kernel_rfl)) (fun _ _ _ h => h) (Or.inl ⟨by rfl,?_⟩) ?_ ?_
                    rotate_left
                    · intro w'
                      go_simp
                      with_reducible rfl
                    rotate_left
                    · simp only [Act.put,zA,zB,zC,i64_w,i32_w]
                      rfl
                    refine pure_ (i := 5) (N := some 33) (v := ?_) (a' := ?_) #[true,false,false,false,true,true,false,false,false] rfl rfl (any_of HT_.out (by kernel_rfl)) (fun _ _ _ h => h) (Or.inl ⟨by rfl,?_⟩) ?_ ?_
                    rotate_left
                    · intro w'
                      go_simp
                      with_reducible rfl
                    rotate_left
                    · simp only [Act.put,zA,zB,zC,i64_w,i32_w]
                      rfl
                    refine pure_ (i := 6) (N := some 34) (v := ?_) (a' := ?_) #[true,false,false,false,true,true,true,false,false] rfl rfl (any_of HT_.out (by kernel_rfl)) (fun _ _ _ h => h) (Or.inl ⟨by rfl,?_⟩) ?_ ?_
                    rotate_left
                    · intro w'
                      go_simp
                      with_reducible rfl
                    rotate_left
                    · simp only [Act.put,zA,zB,zC,i64_w,i32_w]
                      rfl
                    refine take_ (i := 1) (N := some 29) (v := ?_) (a' := ?_) #[true,true,false,false,true,true,true,false,false] rfl rfl (take_ofW HT_.out HW_.out (by kernel_rfl)) (fun _ _ _ h => h) (Or.inl ⟨by rfl,?_⟩) hHeld ?_ ?_
                    rotate_left
                    · rintro w' ⟨s0,s1,s2,s3⟩
                      go_simp
                      with_reducible rfl
                    rotate_left
                    · simp only [Act.put,zA,zB,zC,i64_w,i32_w]
                      rfl
                    refine one_ (i := 2) (N := some 30) #[true,true,true,false,true,true,true,false,false] rfl rfl (one_of HT_.out (by kernel_rfl)) (by decide) (fun K hK => ?_)
                    refine value_ (w1 := ?_) (v := ?_) (by rfl) rfl ?_ ?_
                    rotate_left 2
                    · go_simp
                      constructor
                      · rfl
                      · rfl
                    refine hK.out _ _ ⟨(blk_cell (blk_alloc BK504.out _) 0).trans rfl,(blk_cell (blk_alloc BK504.out _) 1).trans rfl,(blk_cell (blk_alloc BK504.out _) 2).trans rfl,(blk_cell (blk_alloc BK504.out _) 3).trans rfl⟩ (fun hHeld => ?_)
                    clear hK K
                    refine norm_ (a' := ?_) ?_ ?_
                    rotate_left
                    · show Act.put _ (some 30) _ = _
                      simp only [Act.put,zA,zB,zC,i64_w,i32_w]
                      rfl
                    refine one_ (i := 3) (N := some 31) #[true,true,true,true,true,true,true,false,false] rfl rfl (one_of HT_.out (by kernel_rfl)) (by decide) (fun K hK => ?_)
                    refine Kd.R_append_step k50 (w0 := w) w.heap.size (by rfl) (.tmp 28) (.tmp 30) 22 50 (.agg #[(.int .i64 0),(.bool false),(.int .i64 0),(.string ⟨#[]⟩)]) 40 rfl Try.underlying22 info50 rfl (by decide) (by omega) u4 x4_1 (⟨t498,t499,t500,t501⟩ : S50) [.int .i64 t498,.bool t499,.int .i64 t500,.string t501] (fun k_ => (w.heap.size ≤ k_) ∧ k_ ≠ gb504) (fun _ => False) rfl rfl ?aP (fun _ hk => hk.elim) ?aF ?aO ?aB ?aS ?aL ?_
                    (case aP => exact k50_mkM _ _ _ (⟨t498,t499,t500,t501⟩ : S50))
                    (case aB => exact (by repeat (first | (with_reducible first | exact HB.out | apply below_alloc | apply pw_below_drewN | apply below_drew1 | refine below_set ?_ GE504.out) | exact HB.out)))
                    (case aF => exact (fun k_ hk => ⟨(Nat.le_trans (below_size (by repeat (first | (with_reducible first | exact HB.out | apply below_alloc | apply pw_below_drewN | apply below_drew1 | refine below_set ?_ GE504.out) | exact HB.out))) hk),Kd.freshB (g := gb504) (o := .cells #[.int .i64 t498,.bool t499,.int .i64 t500,.string t501] 50 (0,0)) (by (with_reducible repeat (first | refine blk_drewN ?_ _ | refine blk_drew ?_ | refine blk_alloc ?_ _));exact BK504.out) k_ hk⟩))
                    (case aO => exact (by (with_reducible repeat (first | apply Kd.R_alloc | apply Kd.R_drewN | apply Kd.R_drew));exact HO_4.out))
                    (case aS => exact (below_size (by repeat (first | (with_reducible first | exact HB.out | apply below_alloc | apply pw_below_drewN | apply below_drew1 | refine below_set ?_ GE504.out) | exact HB.out))))
                    (case aL => have := LMc10.out;omega)
                    intro v506 w20 ho hb hg hat
                    rw [← Ny505.out] at ho
                    have n0_ := Aside0.mk (Kd.V_afterv (ok := (fun k_ => (P0_ k_ ∨ w.heap.size ≤ k_) ∧ k_ ≠ gb504)) (by (with_reducible repeat (first | apply Kd.V_alloc | apply Kd.V_drewN | apply Kd.V_drew));exact Kd.V_mono HO_0.out (fun _ hk => ⟨⟨hk.1,hk.2.2⟩,hk.2.1⟩)) hg hat)
                    have n1_ := Aside0.mk (blk_grown (g := gb504) (o := .cells #[.int .i64 t498,.bool t499,.int .i64 t500,.string t501] 50 (0,0)) (by (with_reducible repeat (first | refine blk_drewN ?_ _ | refine blk_drew ?_ | refine blk_alloc ?_ _));exact BK504.out) hg (Kd.R_away HO_4.out (fun _ hk => hk.2)))
                    have n2_ := Aside0.mk (Kd.V_afterv (ok := (fun k_ => (P0_ k_ ∨ w.heap.size ≤ k_) ∧ k_ ≠ gb504)) (by (with_reducible repeat (first | apply Kd.V_alloc | apply Kd.V_drewN | apply Kd.V_drew));exact Kd.V_mono HO512.out (fun _ hk => ⟨⟨hk.1,hk.2.2⟩,hk.2.1⟩)) hg hat)
                    have n3_ := Aside0.mk (hb)
                    have n4_ := Aside0.mk (ho)
                    clear HO_0
                    clear BK504
                    clear HO512
                    clear HB
                    clear HO_4
                    have HO_0 := n0_
                    have BK504 := n1_
                    have HO512 := n2_
                    have HB := n3_
                    have HO507 := n4_
                    clear n0_ n1_ n2_ n3_ n4_
                    clear ho hb hg hat
                    refine hK.out _ _ ⟨(blk_cell BK504.out 0).trans rfl,(blk_cell BK504.out 1).trans rfl,(blk_cell BK504.out 2).trans rfl,(blk_cell BK504.out 3).trans rfl⟩ (fun hHeld => ?_)
                    clear hK K
                    refine norm_ (a' := ?_) ?_ ?_
                    rotate_left
                    · show Act.put _ (some 31) _ = _
                      simp only [Act.put,zA,zB,zC,i64_w,i32_w]
                      rfl
                    refine pure_ (i := 7) (N := some 4) (v := ?_) (a' := ?_) #[true,true,true,true,true,true,true,true,false] rfl rfl (any_of HT_.out (by kernel_rfl)) (fun _ _ _ h => h) (Or.inl ⟨by rfl,?_⟩) ?_ ?_
                    rotate_left
                    · intro w'
                      go_simp
                      with_reducible rfl
                    rotate_left
                    · simp only [Act.put,zA,zB,zC,i64_w,i32_w]
                      rfl
                    refine pure_ (i := 8) (N := some 0) (v := ?_) (a' := ?_) #[true,true,true,true,true,true,true,true,true] rfl rfl (any_of HT_.out (by kernel_rfl)) (fun _ _ _ h => h) (Or.inl ⟨by rfl,?_⟩) ?_ ?_
                    rotate_left
                    · intro w'
                      go_simp
                      with_reducible rfl
                    rotate_left
                    · simp only [Act.put,zA,zB,zC,i64_w,i32_w]
                      rfl
                    refine done_ (done_of HT_.out (by kernel_rfl)) ?_
                    try go_wp2
                    go_roundg k1
                    case measure => have := HK1.out;omega
                    case rel => exact ⟨(y508),(y505),H',⟨by have := HK1.out;omega⟩,⟨by (with_reducible repeat (first | apply Kd.V_alloc | apply Kd.V_drewN | apply Kd.V_drew));exact Kd.V_mono HO512.out (fun _ hk => ⟨hk.1.1,hk.2⟩)⟩,⟨by (with_reducible repeat (first | apply Kd.R_alloc | apply Kd.R_drewN | apply Kd.R_drew));exact Kd.R_mono HO507.out (fun _ hk => hk.1)⟩,⟨by repeat (first | (with_reducible first | exact HB.out | apply below_alloc | apply pw_below_drewN | apply below_drew1 | refine below_set ?_ GE504.out) | exact HB.out)⟩⟩
                  · rw [if_neg c12] at H
                    exact absurd H (by simp)
                · rw [if_neg c11] at H
                  exact absurd H (by simp)
              · rw [if_neg c10] at H
                exact absurd H (by simp)
            · rw [if_neg c9] at H
              have c9b0 : (t503 == 0) = false := beq_eq_false_iff_ne.mpr c9
              have c9b1 : (t503 != 0) = true := bne_iff_ne.mpr c9
              simp only [Option.some.injEq,Prod.mk.injEq] at H
              obtain ⟨rfl,rfl⟩ := H
              obtain ⟨Ao21,co21,eo21⟩ := Kd.V_slice HO_0.out
              subst eo21
              have p497 : 0 ≤ (0 : Int) := (by omega)
              have q497 : 0 < (x0_1.length : Int) := of_decide_eq_true (by first | (with_reducible assumption) | assumption)
              obtain ⟨ad497,e497,hx497_0⟩ := Kd.at_int (Kd.V_reads' HO_0.out).2.2 0 p497 q497
              cases e497
              have qi497 : (0 < x0_1.length) = True := eq_true (by omega)
              (try rw [show ((0 : Int)).toNat = 0 from rfl] at hx497_0)
              (try rw [Addr.add_zero'] at hx497_0)
              replace p497 := eq_true p497
              replace q497 := eq_true q497
              go_wp2_with (first | ((with_reducible refine gate_callee (f := 37) rfl ?_);refine goesL_ (some 21) rfl rfl Try.func37 (by kernel_rfl) rfl #[.slice (some ad497) x0_1.length co21] rfl (by (try simp only [List.map_toArray,List.map_cons,List.map_nil]);first | done | rfl | (simp only [List.length_drop,List.length_take];rfl)) ?_;(with_reducible refine (pack_First.calls k1 _ _ x0_1 t498 t499 t500 t501 t502 t503 _ ?side1 ?side2 A8.out).mono ?_);(case side1 => repeat (first | exact (Kd.V_reads' HO_0.out).2.2 | (with_reducible refine Kd.C_alloc ?_ _) | (with_reducible refine Kd.C_drewN ?_ _) | (with_reducible refine Kd.C_drew ?_)));(case side2 => exact (Kd.V_reads' HO_0.out).2.1);rintro e w22 ⟨rfl,hb⟩;refine ⟨_,rfl,?_⟩;have n0_ := Aside0.mk (Kd.V_below (by (with_reducible repeat (first | apply Kd.V_alloc | apply Kd.V_drewN | apply Kd.V_drew));exact HO_0.out) hb);have n1_ := Aside0.mk (Kd.R_below (by (with_reducible repeat (first | apply Kd.R_alloc | apply Kd.R_drewN | apply Kd.R_drew));exact HO_4.out) hb);have n2_ := Aside0.mk (below_step (by repeat (first | (with_reducible first | exact HB.out | apply below_alloc | apply pw_below_drewN | apply below_drew1) | exact HB.out)) hb);clear HO_0;clear HO_4;clear HB;have HO_0 := n0_;have HO_4 := n1_;have HB := n2_;clear n0_ n1_ n2_;(try clear hb);(try clear hb2);(try clear hk);(try clear hi)) | ((with_reducible refine gate_dst (N := 5) rfl ?_);refine box_event ?hg (N := 5) ?hd (cs := #[.int .i64 0,.bool false,.int .i64 0,.string (⟨#[]⟩ : ByteArray)]) (t := 50) ?hr ?_;(case hd => rfl);(case hg => rfl);(case hr => first | (go_simp;done) | (go_simp;rfl));intro gb504 hg w23 hbox hb;have n0_ := Aside0.mk (Kd.V_below (Kd.V_elderB (by (with_reducible repeat (first | apply Kd.V_alloc | apply Kd.V_drewN | apply Kd.V_drew));exact HO_0.out) gb504 (Nat.le_of_eq hg.symm)) hb);have n1_ := Aside0.mk (Kd.R_below (Kd.R_elderB (by (with_reducible repeat (first | apply Kd.R_alloc | apply Kd.R_drewN | apply Kd.R_drew));exact HO_4.out) gb504 (Nat.le_of_eq hg.symm)) hb);have n2_ := Aside0.mk (below_step (by repeat (first | (with_reducible first | exact HB.out | apply below_alloc | apply pw_below_drewN | apply below_drew1) | exact HB.out)) hb);have n3_ := Aside0.mk (hbox);have n4_ := Aside0.mk ((by rw [hg];exact (below_size (by repeat (first | (with_reducible first | exact HB.out | apply below_alloc | apply pw_below_drewN | apply below_drew1) | exact HB.out))) : w.heap.size ≤ gb504));have n5_ := Aside0.mk ((by rw [hg];exact (below_size (by repeat (first | (with_reducible first | exact HB.out | apply below_alloc | apply pw_below_drewN | apply below_drew1) | exact HB.out))) : w.heap.size ≤ gb504));clear HO_0;clear HO_4;clear HB;have HO_0 := n0_;have HO_4 := n1_;have HB := n2_;have BK504 := n3_;have GW504 := n4_;have GE504 := n5_;clear n0_ n1_ n2_ n3_ n4_ n5_;clear hb hbox hg;have hcz24_0 : w23.cell? ⟨gb504,0,none⟩ = some (.int .i64 0) := (blk_cell BK504.out 0).trans rfl;have hcz24_1 : w23.cell? ⟨gb504,1,none⟩ = some (.bool false) := (blk_cell BK504.out 1).trans rfl;have hcz24_2 : w23.cell? ⟨gb504,2,none⟩ = some (.int .i64 0) := (blk_cell BK504.out 2).trans rfl;have hcz24_3 : w23.cell? ⟨gb504,3,none⟩ = some (.string (⟨#[]⟩ : ByteArray)) := (blk_cell BK504.out 3).trans rfl;have hfz24_0 := blk_frozen BK504.out 0;have hfz24_1 := blk_frozen BK504.out 1;have hfz24_2 := blk_frozen BK504.out 2;have hfz24_3 := blk_frozen BK504.out 3))
              go_ret2
              exact ⟨_,by first | rfl | (simp [errW_none,errW_some] <;> rfl) | (simp [*,errW_none,errW_some] <;> rfl),by first | exact Kd.R_nil _ _ _ _ _ | exact Kd.N_nil _ _ _ _ _ | exact Kd.V_nil _ _ _ _ _ | exact Kd.Q_nil _ _ _ _ _ | exact Kd.S_nil _ _ _ _ _,by repeat (first | (with_reducible first | exact HB.out | apply below_alloc | apply pw_below_drewN | apply below_drew1 | refine below_set ?_ GE504.out) | exact HB.out)⟩
        · rw [if_neg c3] at H
          exact absurd H (by simp)
      · rw [if_neg c2] at H
        have c2b0 : decide (0 < (x0_1.length : Int)) = false := decide_eq_false c2
        have c2b1 : decide (0 < x0_1.length) = false := decide_eq_false (by omega)
        clear c2
        simp only [Option.some.injEq,Prod.mk.injEq] at H
        obtain ⟨rfl,rfl⟩ := H
        obtain ⟨Ao25,co25,eo25⟩ := Kd.V_slice HO_0.out
        subst eo25
        go_wp2
        go_ret2
        exact ⟨_,by first | rfl | (simp [errW_none,errW_some] <;> rfl) | (simp [*,errW_none,errW_some] <;> rfl),by first | exact Kd.R_nil _ _ _ _ _ | exact Kd.N_nil _ _ _ _ _ | exact Kd.V_nil _ _ _ _ _ | exact Kd.Q_nil _ _ _ _ _ | exact Kd.S_nil _ _ _ _ _,by repeat (first | (with_reducible first | exact HB.out | apply below_alloc | apply pw_below_drewN | apply below_drew1) | exact HB.out)⟩
end Go.Proofs.Ytfoaeigoajooeaa.Z
namespace Go.Proofs.Ytfoaeigoajooeaa.Z
open Go.RowKit Go.Proofs.YtfoaeigoajooeaaW.PrintWords Go.Proofs.YtfoaeigoajooeaaW.PrintLast Go.Proofs.YtfoaeigoajooeaaW.PrintMore
attribute [local go_sem] max2_int min2_int max_two min_two max_three min_three max_four min_four
set_option linter.unusedVariables false
set_option linter.unusedSimpArgs false
attribute [local go_sem high] eqA50
/-! ### verdererlaw04_known: function 32 -/
def verdererlaw04_known.f (k : Nat)  : Option (Bool) := (pack_Row.f k (([(⟨0,false,0,(⟨#[]⟩ : ByteArray)⟩ : S50),(⟨1,true,0,(⟨#[]⟩ : ByteArray)⟩ : S50)] : List (S50)))).bind fun t516 => ((pack_Back.f k t516).bind fun bt519 => ((pack_First.f k (([2,1,7] : List Int))).bind fun bt526 => (if (strOfNums t516).toList = ([1,2,1,0] : List UInt8) then (if (bt519.1.length : Int) = 2 then (if bt519.2 = 0 then (if (bt526.1 == 1 && (bt526.2.1 && (bt526.2.2.1 == 0 && (bt526.2.2.2.1.toList == ([] : List UInt8))))) = true then (if bt526.2.2.2.2.1 = 2 then (some (bt526.2.2.2.2.2 == 0)) else (none)) else (none)) else (none)) else (none)) else (none))))
theorem verdererlaw04_known.mono : ∀ k,LeO (verdererlaw04_known.f k ) (verdererlaw04_known.f (k + 1) ) := by
  intro  k
  unfold verdererlaw04_known.f
  repeat' first
      | (with_reducible exact pack_Back.mono _ _)
      | (with_reducible exact pack_First.mono _ _)
      | (with_reducible exact pack_Row.mono _ _)
      | (with_reducible exact LeO.refl _)
      | (with_reducible exact LeO.none _)
      | (with_reducible refine LeO.ite ?_ ?_)
      | (with_reducible refine LeO.bind ?_ (fun _ => ?_))
      | exact pack_Back.mono _ _
      | exact pack_First.mono _ _
      | exact pack_Row.mono _ _
      | exact LeO.none _
      | refine LeO.ite ?_ ?_
      | refine LeO.bind ?_ (fun _ => ?_)
set_option maxHeartbeats 8000000 in
set_option maxRecDepth 100000 in
theorem verdererlaw04_known.calls (k : Nat)  (r : Bool) (w : World) (h : verdererlaw04_known.f k  = some r) :
    Calls Try.prog 32 #[] w fun e w' => e = .returned (.bool r) ∧ Below w.heap.size w w' := by
  have hu50 := Try.underlying50
  have HB := Aside0.mk (Below.refl w.heap.size w)
  have H : ((pack_Row.f k (([(⟨0,false,0,(⟨#[]⟩ : ByteArray)⟩ : S50),(⟨1,true,0,(⟨#[]⟩ : ByteArray)⟩ : S50)] : List (S50)))).bind fun t516 => ((pack_Back.f k t516).bind fun bt519 => ((pack_First.f k (([2,1,7] : List Int))).bind fun bt526 => (if (strOfNums t516).toList = ([1,2,1,0] : List UInt8) then (if (bt519.1.length : Int) = 2 then (if bt519.2 = 0 then (if (bt526.1 == 1 && (bt526.2.1 && (bt526.2.2.1 == 0 && (bt526.2.2.2.1.toList == ([] : List UInt8))))) = true then (if bt526.2.2.2.2.1 = 2 then (some (bt526.2.2.2.2.2 == 0)) else (none)) else (none)) else (none)) else (none)) else (none))))) = some r := h
  clear h
  obtain ⟨y513,hy513⟩ : ∃ y_ : List (S50),y_ = (([(⟨0,false,0,(⟨#[]⟩ : ByteArray)⟩ : S50),(⟨1,true,0,(⟨#[]⟩ : ByteArray)⟩ : S50)] : List (S50))) := ⟨_,rfl⟩
  replace H : ((pack_Row.f k y513).bind fun t516 => ((pack_Back.f k t516).bind fun bt519 => ((pack_First.f k (([2,1,7] : List Int))).bind fun bt526 => (if (strOfNums t516).toList = ([1,2,1,0] : List UInt8) then (if (bt519.1.length : Int) = 2 then (if bt519.2 = 0 then (if (bt526.1 == 1 && (bt526.2.1 && (bt526.2.2.1 == 0 && (bt526.2.2.2.1.toList == ([] : List UInt8))))) = true then (if bt526.2.2.2.2.1 = 2 then (some (bt526.2.2.2.2.2 == 0)) else (none)) else (none)) else (none)) else (none)) else (none))))) = some r := by first | (rw [hy513];with_reducible exact H) | (have H2_ := (Option.bind_some _ _).symm.trans H;rw [hy513];with_reducible exact H2_) | (have H2_ := (Option.bind_some _ _).symm.trans H;with_reducible exact H2_) | with_reducible exact H | (rw [hy513];exact H) | exact H
  have Ny513 := Aside0.mk hy513
  clear hy513
  replace H := Option.bind_eq_some_iff.mp H
  obtain ⟨t516,A10,H⟩ := H
  replace H : ((pack_Back.f k t516).bind fun bt519 => ((pack_First.f k (([2,1,7] : List Int))).bind fun bt526 => (if (strOfNums t516).toList = ([1,2,1,0] : List UInt8) then (if (bt519.1.length : Int) = 2 then (if bt519.2 = 0 then (if (bt526.1 == 1 && (bt526.2.1 && (bt526.2.2.1 == 0 && (bt526.2.2.2.1.toList == ([] : List UInt8))))) = true then (if bt526.2.2.2.2.1 = 2 then (some (bt526.2.2.2.2.2 == 0)) else (none)) else (none)) else (none)) else (none)) else (none)))) = some r := H
  have A1 := Aside0.mk A10
  clear A10
  replace H := Option.bind_eq_some_iff.mp H
  obtain ⟨⟨t519,t522⟩,A20,H⟩ := H
  replace H : ((pack_First.f k (([2,1,7] : List Int))).bind fun bt526 => (if (strOfNums t516).toList = ([1,2,1,0] : List UInt8) then (if (t519.length : Int) = 2 then (if t522 = 0 then (if (bt526.1 == 1 && (bt526.2.1 && (bt526.2.2.1 == 0 && (bt526.2.2.2.1.toList == ([] : List UInt8))))) = true then (if bt526.2.2.2.2.1 = 2 then (some (bt526.2.2.2.2.2 == 0)) else (none)) else (none)) else (none)) else (none)) else (none))) = some r := H
  have A2 := Aside0.mk A20
  clear A20
  obtain ⟨y523,hy523⟩ : ∃ y_ : List Int,y_ = (([2,1,7] : List Int)) := ⟨_,rfl⟩
  replace H : ((pack_First.f k y523).bind fun bt526 => (if (strOfNums t516).toList = ([1,2,1,0] : List UInt8) then (if (t519.length : Int) = 2 then (if t522 = 0 then (if (bt526.1 == 1 && (bt526.2.1 && (bt526.2.2.1 == 0 && (bt526.2.2.2.1.toList == ([] : List UInt8))))) = true then (if bt526.2.2.2.2.1 = 2 then (some (bt526.2.2.2.2.2 == 0)) else (none)) else (none)) else (none)) else (none)) else (none))) = some r := by first | (rw [hy523];with_reducible exact H) | (have H2_ := (Option.bind_some _ _).symm.trans H;rw [hy523];with_reducible exact H2_) | (have H2_ := (Option.bind_some _ _).symm.trans H;with_reducible exact H2_) | with_reducible exact H | (rw [hy523];exact H) | exact H
  have Ny523 := Aside0.mk hy523
  clear hy523
  replace H := Option.bind_eq_some_iff.mp H
  obtain ⟨⟨t526,t527,t528,t529,t530,t531⟩,A30,H⟩ := H
  replace H : (if (strOfNums t516).toList = ([1,2,1,0] : List UInt8) then (if (t519.length : Int) = 2 then (if t522 = 0 then (if (t526 == 1 && (t527 && (t528 == 0 && (t529.toList == ([] : List UInt8))))) = true then (if t530 = 2 then (some (t531 == 0)) else (none)) else (none)) else (none)) else (none)) else (none)) = some r := H
  have A3 := Aside0.mk A30
  clear A30
  by_cases c4 : (strOfNums t516).toList = ([1,2,1,0] : List UInt8)
  · rw [if_pos c4] at H
    have c4b0 : ((strOfNums t516).toList == ([1,2,1,0] : List UInt8)) = true := beq_iff_eq.mpr c4
    have c4b1 : ((strOfNums t516).toList != ([1,2,1,0] : List UInt8)) = false := bne_eq_false_iff_eq.mpr c4
    clear c4
    by_cases c5 : (t519.length : Int) = 2
    · rw [if_pos c5] at H
      have c5b0 : ((t519.length : Int) == 2) = true := beq_iff_eq.mpr c5
      have c5b1 : ((t519.length : Int) != 2) = false := bne_eq_false_iff_eq.mpr c5
      clear c5
      by_cases c6 : t522 = 0
      · rw [if_pos c6] at H
        have c6b0 : (t522 == 0) = true := beq_iff_eq.mpr c6
        have c6b1 : (t522 != 0) = false := bne_eq_false_iff_eq.mpr c6
        clear c6
        by_cases c7 : (t526 == 1 && (t527 && (t528 == 0 && (t529.toList == ([] : List UInt8))))) = true
        · rw [if_pos c7] at H
          have c7b0 : (t526 == 1 && (t527 && (t528 == 0 && (t529.toList == ([] : List UInt8))))) = true := c7
          have c7b9 : (t526 == 1 && (t527 && (t528 == 0 && (t529.toList.isEmpty)))) = true := by rw [show t529.toList.isEmpty = (t529.toList == ([] : List UInt8)) from by cases t529.toList <;> rfl];exact c7b0
          (try (have c7b1 : decide (t526 = 1 && (t527 && (t528 == 0 && (t529.toList == ([] : List UInt8))))) = true := by simpa using c7))
          (try (have c7b2 : (t526 == 1 && (t527 && (t528 == 0 && (t529.toList == ([] : List UInt8))))) = true := by simpa using c7))
          clear c7
          by_cases c8 : t530 = 2
          · rw [if_pos c8] at H
            have c8b0 : (t530 == 2) = true := beq_iff_eq.mpr c8
            have c8b1 : (t530 != 2) = false := bne_eq_false_iff_eq.mpr c8
            clear c8
            obtain rfl := Option.some.inj H
            go_enter Try.func32,Try.ntmps32
            go_wp2_with (first | ((with_reducible refine gate_dst (N := 9) rfl ?_);(try (refine gate_guard (by rfl) ?_;dsimp only));refine Kd.R_lit k50 _ 50 ?hg (N := 9) ?hd (xs := ([(⟨0,false,0,(⟨#[]⟩ : ByteArray)⟩ : S50),(⟨1,true,0,(⟨#[]⟩ : ByteArray)⟩ : S50)] : List (S50))) (inner := [.int .i64 0,.bool false,.int .i64 0,.string (⟨#[]⟩ : ByteArray),.int .i64 1,.bool true,.int .i64 0,.string (⟨#[]⟩ : ByteArray)]) (ok := fun _ => True) (okp := fun _ => True) ?hr ?hp (fun _ hk => hk) trivial (Below.refl _ _) (Nat.le_refl _) (by simp) ?_;(case hd => rfl);(case hg => rfl);(case hr => first | (go_simp;done) | (go_simp;rfl));(case hp => exact (Reps.c4 (show Kd.M k50 _ _ _ (⟨0,false,0,(⟨#[]⟩ : ByteArray)⟩ : S50) [.int .i64 0,.bool false,.int .i64 0,.string (⟨#[]⟩ : ByteArray)] from (k50_mkM _ _ _ (⟨0,false,0,(⟨#[]⟩ : ByteArray)⟩ : S50) )) (Reps.c4 (show Kd.M k50 _ _ _ (⟨1,true,0,(⟨#[]⟩ : ByteArray)⟩ : S50) [.int .i64 1,.bool true,.int .i64 0,.string (⟨#[]⟩ : ByteArray)] from (k50_mkM _ _ _ (⟨1,true,0,(⟨#[]⟩ : ByteArray)⟩ : S50) )) (Reps.none _ _))));intro v514 w9 ho10 hb hg_ hnew_;clear hg_ hnew_;(first | rw [← Ny513.out] at ho10 | (simp only [Int.reduceToNat] at ho10;rw [← Ny513.out] at ho10));have n0_ := Aside0.mk (Kd.R_lower ho10 (below_size (by repeat (first | (with_reducible first | exact HB.out | apply below_alloc | apply pw_below_drewN | apply below_drew1) | exact HB.out))));have n1_ := Aside0.mk (below_step (by repeat (first | (with_reducible first | exact HB.out | apply below_alloc | apply pw_below_drewN | apply below_drew1) | exact HB.out)) hb);clear HB;have HO515 := n0_;have HB := n1_;clear n0_ n1_;clear hb ho10;obtain ⟨Ao11,co11,eo11⟩ := Kd.R_slice HO515.out;subst eo11) | ((with_reducible refine gate_callee (f := 35) rfl ?_);refine goesL_ (some 10) rfl rfl Try.func35 (by kernel_rfl) rfl #[.slice Ao11 y513.length co11] rfl (by (try simp only [List.map_toArray,List.map_cons,List.map_nil]);first | done | rfl | (simp only [List.length_drop,List.length_take];rfl)) ?_;(with_reducible refine (pack_Row.calls k _ _ y513 t516 _ ?side1 ?side2 A1.out).mono ?_);(case side1 => repeat (first | exact (Kd.R_reads' HO515.out).2.2 | (with_reducible refine Kd.C_alloc ?_ _) | (with_reducible refine Kd.C_drewN ?_ _) | (with_reducible refine Kd.C_drew ?_)));(case side2 => exact (Kd.R_reads' HO515.out).2.1);rintro e w12 ⟨v517,rfl,ho0,hb⟩;refine ⟨_,rfl,?_⟩;have n0_ := Aside0.mk (Kd.R_below (by (with_reducible repeat (first | apply Kd.R_alloc | apply Kd.R_drewN | apply Kd.R_drew));exact HO515.out) hb);have n1_ := Aside0.mk (Kd.R_lower ho0 (below_size (by repeat (first | (with_reducible first | exact HB.out | apply below_alloc | apply pw_below_drewN | apply below_drew1) | exact HB.out))));have n2_ := Aside0.mk (below_step (by repeat (first | (with_reducible first | exact HB.out | apply below_alloc | apply pw_below_drewN | apply below_drew1) | exact HB.out)) hb);clear HO515;clear HB;have HO515 := n0_;have HO518 := n1_;have HB := n2_;clear n0_ n1_ n2_;(try clear hb);(try clear hb2);(try clear hk);(try clear hi);(try clear ho0);obtain ⟨Ao13,co13,eo13⟩ := Kd.R_slice HO518.out;subst eo13) | ((with_reducible refine gate_callee (f := 39) rfl ?_);refine goesL_ (some 13) rfl rfl Try.func39 (by kernel_rfl) rfl #[.slice Ao13 t516.length co13] rfl (by (try simp only [List.map_toArray,List.map_cons,List.map_nil]);first | done | rfl | (simp only [List.length_drop,List.length_take];rfl)) ?_;(with_reducible refine (pack_Back.calls k (fun k_ => some k_ = (.slice Ao13 t516.length co13 : Value).ownBlock) _ _ t516 t519 t522 _ ?side1 A2.out).mono ?_);(case side1 => exact Kd.R_V (Kd.R_tight rfl (Kd.R_apart' (HO518.out) (Kd.R_typed HO515.out) (by decide))));rintro e w14 ⟨v520,rfl,ho0,hb⟩;refine ⟨_,rfl,?_⟩;have n0_ := Aside0.mk (Kd.R_elder' (by (with_reducible repeat (first | apply Kd.R_alloc | apply Kd.R_drewN | apply Kd.R_drew));exact HO515.out) (Kd.R_base ho0) hb);have n1_ := Aside0.mk (Kd.R_below (by (with_reducible repeat (first | apply Kd.R_alloc | apply Kd.R_drewN | apply Kd.R_drew));exact HO518.out) hb);have n2_ := Aside0.mk (Kd.R_lower (Kd.R_new' (Kd.R_mono (ok' := fun k_ => True) ho0 (fun _ hk_ => trivial)) (Kd.R_lt (by (with_reducible repeat (first | apply Kd.R_alloc | apply Kd.R_drewN | apply Kd.R_drew));exact HO515.out))) (below_size (by repeat (first | (with_reducible first | exact HB.out | apply below_alloc | apply pw_below_drewN | apply below_drew1) | exact HB.out))));have n3_ := Aside0.mk (below_step (by repeat (first | (with_reducible first | exact HB.out | apply below_alloc | apply pw_below_drewN | apply below_drew1) | exact HB.out)) hb);clear HO515;clear HO518;clear HB;have HO515 := n0_;have HO518 := n1_;have HO521 := n2_;have HB := n3_;clear n0_ n1_ n2_ n3_;(try clear hb);(try clear hb2);(try clear hk);(try clear hi);(try clear ho0)) | ((with_reducible refine gate_dst (N := 17) rfl ?_);(try (refine gate_guard (by rfl) ?_;dsimp only));refine Kd.R_lit (Kd.int .u8) _ 5 ?hg (N := 17) ?hd (xs := ([2,1,7] : List Int)) (inner := [.int .u8 2,.int .u8 1,.int .u8 7]) (ok := fun _ => True) (okp := fun _ => True) ?hr ?hp (fun _ hk => hk) trivial (Below.refl _ _) (Nat.le_refl _) (by simp) ?_;(case hd => rfl);(case hg => rfl);(case hr => first | (go_simp;done) | (go_simp;rfl));(case hp => exact (Reps.one (show Kd.M (Kd.int .u8) _ _ _ 2 [.int .u8 2] from rfl) (Reps.one (show Kd.M (Kd.int .u8) _ _ _ 1 [.int .u8 1] from rfl) (Reps.one (show Kd.M (Kd.int .u8) _ _ _ 7 [.int .u8 7] from rfl) (Reps.none _ _)))));intro v524 w15 ho16 hb hg_ hnew_;clear hg_ hnew_;(first | rw [← Ny523.out] at ho16 | (simp only [Int.reduceToNat] at ho16;rw [← Ny523.out] at ho16));have n0_ := Aside0.mk (Kd.R_below (by (with_reducible repeat (first | apply Kd.R_alloc | apply Kd.R_drewN | apply Kd.R_drew));exact HO515.out) hb);have n1_ := Aside0.mk (Kd.R_elder' (by (with_reducible repeat (first | apply Kd.R_alloc | apply Kd.R_drewN | apply Kd.R_drew));exact HO518.out) (Kd.R_base ho16) hb);have n2_ := Aside0.mk (Kd.R_below (by (with_reducible repeat (first | apply Kd.R_alloc | apply Kd.R_drewN | apply Kd.R_drew));exact HO521.out) hb);have n3_ := Aside0.mk (Kd.R_lower (Kd.R_new' ho16 (Kd.R_lt (by (with_reducible repeat (first | apply Kd.R_alloc | apply Kd.R_drewN | apply Kd.R_drew));exact HO518.out))) (below_size (by repeat (first | (with_reducible first | exact HB.out | apply below_alloc | apply pw_below_drewN | apply below_drew1) | exact HB.out))));have n4_ := Aside0.mk (below_step (by repeat (first | (with_reducible first | exact HB.out | apply below_alloc | apply pw_below_drewN | apply below_drew1) | exact HB.out)) hb);clear HO515;clear HO518;clear HO521;clear HB;have HO515 := n0_;have HO518 := n1_;have HO521 := n2_;have HO525 := n3_;have HB := n4_;clear n0_ n1_ n2_ n3_ n4_;clear hb ho16;obtain ⟨Ao17,co17,eo17⟩ := Kd.R_slice HO525.out;subst eo17) | ((with_reducible refine gate_callee (f := 37) rfl ?_);refine goesL_ (some 18) rfl rfl Try.func37 (by kernel_rfl) rfl #[.slice Ao17 y523.length co17] rfl (by (try simp only [List.map_toArray,List.map_cons,List.map_nil]);first | done | rfl | (simp only [List.length_drop,List.length_take];rfl)) ?_;(with_reducible refine (pack_First.calls k _ _ y523 t526 t527 t528 t529 t530 t531 _ ?side1 ?side2 A3.out).mono ?_);(case side1 => repeat (first | exact (Kd.R_reads' HO525.out).2.2 | (with_reducible refine Kd.C_alloc ?_ _) | (with_reducible refine Kd.C_drewN ?_ _) | (with_reducible refine Kd.C_drew ?_)));(case side2 => exact (Kd.R_reads' HO525.out).2.1);rintro e w18 ⟨rfl,hb⟩;refine ⟨_,rfl,?_⟩;have n0_ := Aside0.mk (Kd.R_below (by (with_reducible repeat (first | apply Kd.R_alloc | apply Kd.R_drewN | apply Kd.R_drew));exact HO515.out) hb);have n1_ := Aside0.mk (Kd.R_below (by (with_reducible repeat (first | apply Kd.R_alloc | apply Kd.R_drewN | apply Kd.R_drew));exact HO518.out) hb);have n2_ := Aside0.mk (Kd.R_below (by (with_reducible repeat (first | apply Kd.R_alloc | apply Kd.R_drewN | apply Kd.R_drew));exact HO521.out) hb);have n3_ := Aside0.mk (Kd.R_below (by (with_reducible repeat (first | apply Kd.R_alloc | apply Kd.R_drewN | apply Kd.R_drew));exact HO525.out) hb);have n4_ := Aside0.mk (below_step (by repeat (first | (with_reducible first | exact HB.out | apply below_alloc | apply pw_below_drewN | apply below_drew1) | exact HB.out)) hb);clear HO515;clear HO518;clear HO521;clear HO525;clear HB;have HO515 := n0_;have HO518 := n1_;have HO521 := n2_;have HO525 := n3_;have HB := n4_;clear n0_ n1_ n2_ n3_ n4_;(try clear hb);(try clear hb2);(try clear hk);(try clear hi)) | ((with_reducible refine gate_dst (N := 4) rfl ?_);(try (refine gate_guard (by rfl) ?_;dsimp only));refine box_event ?hg (N := 4) ?hd (cs := #[.int .i64 0,.bool false,.int .i64 0,.string (⟨#[]⟩ : ByteArray)]) (t := 50) ?hr ?_;(case hd => rfl);(case hg => rfl);(case hr => first | (go_simp;done) | (go_simp;rfl));intro gb532 hg w19 hbox hb;have n0_ := Aside0.mk (Kd.R_below (Kd.R_elderB (by (with_reducible repeat (first | apply Kd.R_alloc | apply Kd.R_drewN | apply Kd.R_drew));exact HO515.out) gb532 (Nat.le_of_eq hg.symm)) hb);have n1_ := Aside0.mk (Kd.R_below (by (with_reducible repeat (first | apply Kd.R_alloc | apply Kd.R_drewN | apply Kd.R_drew));exact HO518.out) hb);have n2_ := Aside0.mk (Kd.R_below (Kd.R_elderB (by (with_reducible repeat (first | apply Kd.R_alloc | apply Kd.R_drewN | apply Kd.R_drew));exact HO521.out) gb532 (Nat.le_of_eq hg.symm)) hb);have n3_ := Aside0.mk (Kd.R_below (by (with_reducible repeat (first | apply Kd.R_alloc | apply Kd.R_drewN | apply Kd.R_drew));exact HO525.out) hb);have n4_ := Aside0.mk (below_step (by repeat (first | (with_reducible first | exact HB.out | apply below_alloc | apply pw_below_drewN | apply below_drew1) | exact HB.out)) hb);have n5_ := Aside0.mk (hbox);have n6_ := Aside0.mk ((by rw [hg];exact (below_size (by repeat (first | (with_reducible first | exact HB.out | apply below_alloc | apply pw_below_drewN | apply below_drew1) | exact HB.out))) : w.heap.size ≤ gb532));have n7_ := Aside0.mk ((by rw [hg];exact (below_size (by repeat (first | (with_reducible first | exact HB.out | apply below_alloc | apply pw_below_drewN | apply below_drew1) | exact HB.out))) : w.heap.size ≤ gb532));clear HO515;clear HO518;clear HO521;clear HO525;clear HB;have HO515 := n0_;have HO518 := n1_;have HO521 := n2_;have HO525 := n3_;have HB := n4_;have BK532 := n5_;have GW532 := n6_;have GE532 := n7_;clear n0_ n1_ n2_ n3_ n4_ n5_ n6_ n7_;clear hb hbox hg;have hcz20_0 : w19.cell? ⟨gb532,0,none⟩ = some (.int .i64 0) := (blk_cell BK532.out 0).trans rfl;have hcz20_1 : w19.cell? ⟨gb532,1,none⟩ = some (.bool false) := (blk_cell BK532.out 1).trans rfl;have hcz20_2 : w19.cell? ⟨gb532,2,none⟩ = some (.int .i64 0) := (blk_cell BK532.out 2).trans rfl;have hcz20_3 : w19.cell? ⟨gb532,3,none⟩ = some (.string (⟨#[]⟩ : ByteArray)) := (blk_cell BK532.out 3).trans rfl;have hfz20_0 := blk_frozen BK532.out 0;have hfz20_1 := blk_frozen BK532.out 1;have hfz20_2 := blk_frozen BK532.out 2;have hfz20_3 := blk_frozen BK532.out 3;have hcv21 := own_string (P := Try.prog) Try.underlying47 Try.underlying5 Try.underlying9 (Kd.own_of_R HO518.out);have hcvf_ := fun (u0 u1 u2 u3 : Value) => own_string (P := Try.prog) Try.underlying47 Try.underlying5 Try.underlying9 (Kd.own_of_R (Kd.R_mono (Kd.R_far (p := ⟨gb532,3,none⟩) (Kd.R_far (p := ⟨gb532,2,none⟩) (Kd.R_far (p := ⟨gb532,1,none⟩) (Kd.R_far (p := ⟨gb532,0,none⟩) (Kd.R_types HO518.out BK532.out (by decide)) (fun _ hk => hk.2) u0) (fun _ hk => hk.2) u1) (fun _ hk => hk.2) u2) (fun _ hk => hk.2) u3) (fun _ h_ => h_.1)));obtain ⟨Ao22,co22,eo22⟩ := Kd.R_slice HO521.out;subst eo22))
            go_ret
            exact ⟨by first | rfl | (simp [errW_none,errW_some] <;> rfl) | (simp [*,errW_none,errW_some] <;> rfl),by repeat (first | (with_reducible first | exact HB.out | apply below_alloc | apply pw_below_drewN | apply below_drew1 | refine below_set ?_ GE532.out) | exact HB.out)⟩
          · rw [if_neg c8] at H
            exact absurd H (by simp)
        · rw [if_neg c7] at H
          exact absurd H (by simp)
      · rw [if_neg c6] at H
        exact absurd H (by simp)
    · rw [if_neg c5] at H
      exact absurd H (by simp)
  · rw [if_neg c4] at H
    exact absurd H (by simp)
end Go.Proofs.Ytfoaeigoajooeaa.Z
namespace Go.Proofs.Ytfoaeigoajooeaa.Z
open Go.RowKit Go.Proofs.YtfoaeigoajooeaaW.PrintWords Go.Proofs.YtfoaeigoajooeaaW.PrintLast Go.Proofs.YtfoaeigoajooeaaW.PrintMore
attribute [local go_sem] max2_int min2_int max_two min_two max_three min_three max_four min_four
set_option linter.unusedVariables false
set_option linter.unusedSimpArgs false
/-! ### verdererref01_Right: function 53 -/
def verdererref01_Right.f (a0_0 : Int) (a0_1 : Bool) (a0_2 : Int) (a0_3 : ByteArray) : Option (Bool) := if a0_0 < 0 then (some false) else (if a0_0 > 3 then (some false) else (if a0_0 = 1 then (if a0_0 = 2 then (if a0_0 = 3 then (some (decide ((a0_3.size : Int) ≤ 60))) else (if a0_3.toList = ([] : List UInt8) then (some (decide ((a0_3.size : Int) ≤ 60))) else (some false))) else (if a0_2 = 0 then (if a0_0 = 3 then (some (decide ((a0_3.size : Int) ≤ 60))) else (if a0_3.toList = ([] : List UInt8) then (some (decide ((a0_3.size : Int) ≤ 60))) else (some false))) else (some false))) else (if a0_1 = true then (some false) else (if a0_0 = 2 then (if a0_0 = 3 then (some (decide ((a0_3.size : Int) ≤ 60))) else (if a0_3.toList = ([] : List UInt8) then (some (decide ((a0_3.size : Int) ≤ 60))) else (some false))) else (if a0_2 = 0 then (if a0_0 = 3 then (some (decide ((a0_3.size : Int) ≤ 60))) else (if a0_3.toList = ([] : List UInt8) then (some (decide ((a0_3.size : Int) ≤ 60))) else (some false))) else (some false))))))
set_option maxHeartbeats 8000000 in
set_option maxRecDepth 100000 in
theorem verdererref01_Right.calls (a0_0 : Int) (a0_1 : Bool) (a0_2 : Int) (a0_3 : ByteArray) (r : Bool) (w : World) (h : verdererref01_Right.f a0_0 a0_1 a0_2 a0_3 = some r) :
    Calls Try.prog 53 #[.agg #[.int .i64 a0_0,.bool a0_1,.int .i64 a0_2,.string a0_3]] w fun e w' => e = .returned (.bool r) ∧ Below w.heap.size w w' := by
  have hu50 := Try.underlying50
  have HB := Aside0.mk (Below.refl w.heap.size w)
  have H : (if a0_0 < 0 then (some false) else (if a0_0 > 3 then (some false) else (if a0_0 = 1 then (if a0_0 = 2 then (if a0_0 = 3 then (some (decide ((a0_3.size : Int) ≤ 60))) else (if a0_3.toList = ([] : List UInt8) then (some (decide ((a0_3.size : Int) ≤ 60))) else (some false))) else (if a0_2 = 0 then (if a0_0 = 3 then (some (decide ((a0_3.size : Int) ≤ 60))) else (if a0_3.toList = ([] : List UInt8) then (some (decide ((a0_3.size : Int) ≤ 60))) else (some false))) else (some false))) else (if a0_1 = true then (some false) else (if a0_0 = 2 then (if a0_0 = 3 then (some (decide ((a0_3.size : Int) ≤ 60))) else (if a0_3.toList = ([] : List UInt8) then (some (decide ((a0_3.size : Int) ≤ 60))) else (some false))) else (if a0_2 = 0 then (if a0_0 = 3 then (some (decide ((a0_3.size : Int) ≤ 60))) else (if a0_3.toList = ([] : List UInt8) then (some (decide ((a0_3.size : Int) ≤ 60))) else (some false))) else (some false))))))) = some r := h
  clear h
  by_cases c2 : a0_0 < 0
  · rw [if_pos c2] at H
    have c2b0 : decide (a0_0 < 0) = true := decide_eq_true c2
    clear c2
    obtain rfl := Option.some.inj H
    go_enter Try.func53,Try.ntmps53
    go_wp2_with (first | ((with_reducible refine gate_dst (N := 1) rfl ?_);refine box_event ?hg (N := 1) ?hd (cs := #[.int .i64 a0_0,.bool a0_1,.int .i64 a0_2,.string a0_3]) (t := 50) ?hr ?_;(case hd => rfl);(case hg => rfl);(case hr => first | (go_simp;done) | (go_simp;rfl));intro gb327 hg w3 hbox hb;have n0_ := Aside0.mk (below_step (by repeat (first | (with_reducible first | exact HB.out | apply below_alloc | apply pw_below_drewN | apply below_drew1) | exact HB.out)) hb);have n1_ := Aside0.mk (hbox);have n2_ := Aside0.mk ((by rw [hg];exact (below_size (by repeat (first | (with_reducible first | exact HB.out | apply below_alloc | apply pw_below_drewN | apply below_drew1) | exact HB.out))) : w.heap.size ≤ gb327));have n3_ := Aside0.mk ((by rw [hg];exact (below_size (by repeat (first | (with_reducible first | exact HB.out | apply below_alloc | apply pw_below_drewN | apply below_drew1) | exact HB.out))) : w.heap.size ≤ gb327));clear HB;have HB := n0_;have BK327 := n1_;have GW327 := n2_;have GE327 := n3_;clear n0_ n1_ n2_ n3_;clear hb hbox hg;have hcz4_0 : w3.cell? ⟨gb327,0,none⟩ = some (.int .i64 a0_0) := (blk_cell BK327.out 0).trans rfl;have hcz4_1 : w3.cell? ⟨gb327,1,none⟩ = some (.bool a0_1) := (blk_cell BK327.out 1).trans rfl;have hcz4_2 : w3.cell? ⟨gb327,2,none⟩ = some (.int .i64 a0_2) := (blk_cell BK327.out 2).trans rfl;have hcz4_3 : w3.cell? ⟨gb327,3,none⟩ = some (.string a0_3) := (blk_cell BK327.out 3).trans rfl;have hfz4_0 := blk_frozen BK327.out 0;have hfz4_1 := blk_frozen BK327.out 1;have hfz4_2 := blk_frozen BK327.out 2;have hfz4_3 := blk_frozen BK327.out 3))
    go_ret
    exact ⟨by first | rfl | (simp [errW_none,errW_some] <;> rfl) | (simp [*,errW_none,errW_some] <;> rfl),by repeat (first | (with_reducible first | exact HB.out | apply below_alloc | apply pw_below_drewN | apply below_drew1 | refine below_set ?_ GE327.out) | exact HB.out)⟩
  · rw [if_neg c2] at H
    have c2b0 : decide (a0_0 < 0) = false := decide_eq_false c2
    clear c2
    by_cases c5 : a0_0 > 3
    · rw [if_pos c5] at H
      have c5b0 : decide (3 < a0_0) = true := decide_eq_true c5
      clear c5
      obtain rfl := Option.some.inj H
      go_enter Try.func53,Try.ntmps53
      go_wp2_with (first | ((with_reducible refine gate_dst (N := 1) rfl ?_);refine box_event ?hg (N := 1) ?hd (cs := #[.int .i64 a0_0,.bool a0_1,.int .i64 a0_2,.string a0_3]) (t := 50) ?hr ?_;(case hd => rfl);(case hg => rfl);(case hr => first | (go_simp;done) | (go_simp;rfl));intro gb327 hg w6 hbox hb;have n0_ := Aside0.mk (below_step (by repeat (first | (with_reducible first | exact HB.out | apply below_alloc | apply pw_below_drewN | apply below_drew1) | exact HB.out)) hb);have n1_ := Aside0.mk (hbox);have n2_ := Aside0.mk ((by rw [hg];exact (below_size (by repeat (first | (with_reducible first | exact HB.out | apply below_alloc | apply pw_below_drewN | apply below_drew1) | exact HB.out))) : w.heap.size ≤ gb327));have n3_ := Aside0.mk ((by rw [hg];exact (below_size (by repeat (first | (with_reducible first | exact HB.out | apply below_alloc | apply pw_below_drewN | apply below_drew1) | exact HB.out))) : w.heap.size ≤ gb327));clear HB;have HB := n0_;have BK327 := n1_;have GW327 := n2_;have GE327 := n3_;clear n0_ n1_ n2_ n3_;clear hb hbox hg;have hcz7_0 : w6.cell? ⟨gb327,0,none⟩ = some (.int .i64 a0_0) := (blk_cell BK327.out 0).trans rfl;have hcz7_1 : w6.cell? ⟨gb327,1,none⟩ = some (.bool a0_1) := (blk_cell BK327.out 1).trans rfl;have hcz7_2 : w6.cell? ⟨gb327,2,none⟩ = some (.int .i64 a0_2) := (blk_cell BK327.out 2).trans rfl;have hcz7_3 : w6.cell? ⟨gb327,3,none⟩ = some (.string a0_3) := (blk_cell BK327.out 3).trans rfl;have hfz7_0 := blk_frozen BK327.out 0;have hfz7_1 := blk_frozen BK327.out 1;have hfz7_2 := blk_frozen BK327.out 2;have hfz7_3 := blk_frozen BK327.out 3))
      go_ret
      exact ⟨by first | rfl | (simp [errW_none,errW_some] <;> rfl) | (simp [*,errW_none,errW_some] <;> rfl),by repeat (first | (with_reducible first | exact HB.out | apply below_alloc | apply pw_below_drewN | apply below_drew1 | refine below_set ?_ GE327.out) | exact HB.out)⟩
    · rw [if_neg c5] at H
      have c5b0 : decide (3 < a0_0) = false := decide_eq_false c5
      clear c5
      by_cases c8 : a0_0 = 1
      · rw [if_pos c8] at H
        have c8b0 : (a0_0 == 1) = true := beq_iff_eq.mpr c8
        have c8b1 : (a0_0 != 1) = false := bne_eq_false_iff_eq.mpr c8
        clear c8
        by_cases c9 : a0_0 = 2
        · rw [if_pos c9] at H
          have c9b0 : (a0_0 == 2) = true := beq_iff_eq.mpr c9
          have c9b1 : (a0_0 != 2) = false := bne_eq_false_iff_eq.mpr c9
          clear c9
          by_cases c10 : a0_0 = 3
          · rw [if_pos c10] at H
            have c10b0 : (a0_0 == 3) = true := beq_iff_eq.mpr c10
            have c10b1 : (a0_0 != 3) = false := bne_eq_false_iff_eq.mpr c10
            clear c10
            obtain rfl := Option.some.inj H
            go_enter Try.func53,Try.ntmps53
            go_wp2_with (first | ((with_reducible refine gate_dst (N := 1) rfl ?_);refine box_event ?hg (N := 1) ?hd (cs := #[.int .i64 a0_0,.bool a0_1,.int .i64 a0_2,.string a0_3]) (t := 50) ?hr ?_;(case hd => rfl);(case hg => rfl);(case hr => first | (go_simp;done) | (go_simp;rfl));intro gb327 hg w11 hbox hb;have n0_ := Aside0.mk (below_step (by repeat (first | (with_reducible first | exact HB.out | apply below_alloc | apply pw_below_drewN | apply below_drew1) | exact HB.out)) hb);have n1_ := Aside0.mk (hbox);have n2_ := Aside0.mk ((by rw [hg];exact (below_size (by repeat (first | (with_reducible first | exact HB.out | apply below_alloc | apply pw_below_drewN | apply below_drew1) | exact HB.out))) : w.heap.size ≤ gb327));have n3_ := Aside0.mk ((by rw [hg];exact (below_size (by repeat (first | (with_reducible first | exact HB.out | apply below_alloc | apply pw_below_drewN | apply below_drew1) | exact HB.out))) : w.heap.size ≤ gb327));clear HB;have HB := n0_;have BK327 := n1_;have GW327 := n2_;have GE327 := n3_;clear n0_ n1_ n2_ n3_;clear hb hbox hg;have hcz12_0 : w11.cell? ⟨gb327,0,none⟩ = some (.int .i64 a0_0) := (blk_cell BK327.out 0).trans rfl;have hcz12_1 : w11.cell? ⟨gb327,1,none⟩ = some (.bool a0_1) := (blk_cell BK327.out 1).trans rfl;have hcz12_2 : w11.cell? ⟨gb327,2,none⟩ = some (.int .i64 a0_2) := (blk_cell BK327.out 2).trans rfl;have hcz12_3 : w11.cell? ⟨gb327,3,none⟩ = some (.string a0_3) := (blk_cell BK327.out 3).trans rfl;have hfz12_0 := blk_frozen BK327.out 0;have hfz12_1 := blk_frozen BK327.out 1;have hfz12_2 := blk_frozen BK327.out 2;have hfz12_3 := blk_frozen BK327.out 3))
            go_ret
            exact ⟨by first | rfl | (simp [errW_none,errW_some] <;> rfl) | (simp [*,errW_none,errW_some] <;> rfl),by repeat (first | (with_reducible first | exact HB.out | apply below_alloc | apply pw_below_drewN | apply below_drew1 | refine below_set ?_ GE327.out) | exact HB.out)⟩
          · rw [if_neg c10] at H
            have c10b0 : (a0_0 == 3) = false := beq_eq_false_iff_ne.mpr c10
            have c10b1 : (a0_0 != 3) = true := bne_iff_ne.mpr c10
            by_cases c13 : a0_3.toList = ([] : List UInt8)
            · rw [if_pos c13] at H
              have c13b0 : (a0_3.toList == ([] : List UInt8)) = true := beq_iff_eq.mpr c13
              have c13b1 : (a0_3.toList != ([] : List UInt8)) = false := bne_eq_false_iff_eq.mpr c13
              clear c13
              obtain rfl := Option.some.inj H
              go_enter Try.func53,Try.ntmps53
              go_wp2_with (first | ((with_reducible refine gate_dst (N := 1) rfl ?_);refine box_event ?hg (N := 1) ?hd (cs := #[.int .i64 a0_0,.bool a0_1,.int .i64 a0_2,.string a0_3]) (t := 50) ?hr ?_;(case hd => rfl);(case hg => rfl);(case hr => first | (go_simp;done) | (go_simp;rfl));intro gb327 hg w14 hbox hb;have n0_ := Aside0.mk (below_step (by repeat (first | (with_reducible first | exact HB.out | apply below_alloc | apply pw_below_drewN | apply below_drew1) | exact HB.out)) hb);have n1_ := Aside0.mk (hbox);have n2_ := Aside0.mk ((by rw [hg];exact (below_size (by repeat (first | (with_reducible first | exact HB.out | apply below_alloc | apply pw_below_drewN | apply below_drew1) | exact HB.out))) : w.heap.size ≤ gb327));have n3_ := Aside0.mk ((by rw [hg];exact (below_size (by repeat (first | (with_reducible first | exact HB.out | apply below_alloc | apply pw_below_drewN | apply below_drew1) | exact HB.out))) : w.heap.size ≤ gb327));clear HB;have HB := n0_;have BK327 := n1_;have GW327 := n2_;have GE327 := n3_;clear n0_ n1_ n2_ n3_;clear hb hbox hg;have hcz15_0 : w14.cell? ⟨gb327,0,none⟩ = some (.int .i64 a0_0) := (blk_cell BK327.out 0).trans rfl;have hcz15_1 : w14.cell? ⟨gb327,1,none⟩ = some (.bool a0_1) := (blk_cell BK327.out 1).trans rfl;have hcz15_2 : w14.cell? ⟨gb327,2,none⟩ = some (.int .i64 a0_2) := (blk_cell BK327.out 2).trans rfl;have hcz15_3 : w14.cell? ⟨gb327,3,none⟩ = some (.string a0_3) := (blk_cell BK327.out 3).trans rfl;have hfz15_0 := blk_frozen BK327.out 0;have hfz15_1 := blk_frozen BK327.out 1;have hfz15_2 := blk_frozen BK327.out 2;have hfz15_3 := blk_frozen BK327.out 3))
              go_ret
              exact ⟨by first | rfl | (simp [errW_none,errW_some] <;> rfl) | (simp [*,errW_none,errW_some] <;> rfl),by repeat (first | (with_reducible first | exact HB.out | apply below_alloc | apply pw_below_drewN | apply below_drew1 | refine below_set ?_ GE327.out) | exact HB.out)⟩
            · rw [if_neg c13] at H
              have c13b0 : (a0_3.toList == ([] : List UInt8)) = false := beq_eq_false_iff_ne.mpr c13
              have c13b1 : (a0_3.toList != ([] : List UInt8)) = true := bne_iff_ne.mpr c13
              obtain rfl := Option.some.inj H
              go_enter Try.func53,Try.ntmps53
              go_wp2_with (first | ((with_reducible refine gate_dst (N := 1) rfl ?_);refine box_event ?hg (N := 1) ?hd (cs := #[.int .i64 a0_0,.bool a0_1,.int .i64 a0_2,.string a0_3]) (t := 50) ?hr ?_;(case hd => rfl);(case hg => rfl);(case hr => first | (go_simp;done) | (go_simp;rfl));intro gb327 hg w16 hbox hb;have n0_ := Aside0.mk (below_step (by repeat (first | (with_reducible first | exact HB.out | apply below_alloc | apply pw_below_drewN | apply below_drew1) | exact HB.out)) hb);have n1_ := Aside0.mk (hbox);have n2_ := Aside0.mk ((by rw [hg];exact (below_size (by repeat (first | (with_reducible first | exact HB.out | apply below_alloc | apply pw_below_drewN | apply below_drew1) | exact HB.out))) : w.heap.size ≤ gb327));have n3_ := Aside0.mk ((by rw [hg];exact (below_size (by repeat (first | (with_reducible first | exact HB.out | apply below_alloc | apply pw_below_drewN | apply below_drew1) | exact HB.out))) : w.heap.size ≤ gb327));clear HB;have HB := n0_;have BK327 := n1_;have GW327 := n2_;have GE327 := n3_;clear n0_ n1_ n2_ n3_;clear hb hbox hg;have hcz17_0 : w16.cell? ⟨gb327,0,none⟩ = some (.int .i64 a0_0) := (blk_cell BK327.out 0).trans rfl;have hcz17_1 : w16.cell? ⟨gb327,1,none⟩ = some (.bool a0_1) := (blk_cell BK327.out 1).trans rfl;have hcz17_2 : w16.cell? ⟨gb327,2,none⟩ = some (.int .i64 a0_2) := (blk_cell BK327.out 2).trans rfl;have hcz17_3 : w16.cell? ⟨gb327,3,none⟩ = some (.string a0_3) := (blk_cell BK327.out 3).trans rfl;have hfz17_0 := blk_frozen BK327.out 0;have hfz17_1 := blk_frozen BK327.out 1;have hfz17_2 := blk_frozen BK327.out 2;have hfz17_3 := blk_frozen BK327.out 3))
              go_ret
              exact ⟨by first | rfl | (simp [errW_none,errW_some] <;> rfl) | (simp [*,errW_none,errW_some] <;> rfl),by repeat (first | (with_reducible first | exact HB.out | apply below_alloc | apply pw_below_drewN | apply below_drew1 | refine below_set ?_ GE327.out) | exact HB.out)⟩
        · rw [if_neg c9] at H
          have c9b0 : (a0_0 == 2) = false := beq_eq_false_iff_ne.mpr c9
          have c9b1 : (a0_0 != 2) = true := bne_iff_ne.mpr c9
          by_cases c18 : a0_2 = 0
          · rw [if_pos c18] at H
            have c18b0 : (a0_2 == 0) = true := beq_iff_eq.mpr c18
            have c18b1 : (a0_2 != 0) = false := bne_eq_false_iff_eq.mpr c18
            clear c18
            by_cases c19 : a0_0 = 3
            · rw [if_pos c19] at H
              have c19b0 : (a0_0 == 3) = true := beq_iff_eq.mpr c19
              have c19b1 : (a0_0 != 3) = false := bne_eq_false_iff_eq.mpr c19
              clear c19
              obtain rfl := Option.some.inj H
              go_enter Try.func53,Try.ntmps53
              go_wp2_with (first | ((with_reducible refine gate_dst (N := 1) rfl ?_);refine box_event ?hg (N := 1) ?hd (cs := #[.int .i64 a0_0,.bool a0_1,.int .i64 a0_2,.string a0_3]) (t := 50) ?hr ?_;(case hd => rfl);(case hg => rfl);(case hr => first | (go_simp;done) | (go_simp;rfl));intro gb327 hg w20 hbox hb;have n0_ := Aside0.mk (below_step (by repeat (first | (with_reducible first | exact HB.out | apply below_alloc | apply pw_below_drewN | apply below_drew1) | exact HB.out)) hb);have n1_ := Aside0.mk (hbox);have n2_ := Aside0.mk ((by rw [hg];exact (below_size (by repeat (first | (with_reducible first | exact HB.out | apply below_alloc | apply pw_below_drewN | apply below_drew1) | exact HB.out))) : w.heap.size ≤ gb327));have n3_ := Aside0.mk ((by rw [hg];exact (below_size (by repeat (first | (with_reducible first | exact HB.out | apply below_alloc | apply pw_below_drewN | apply below_drew1) | exact HB.out))) : w.heap.size ≤ gb327));clear HB;have HB := n0_;have BK327 := n1_;have GW327 := n2_;have GE327 := n3_;clear n0_ n1_ n2_ n3_;clear hb hbox hg;have hcz21_0 : w20.cell? ⟨gb327,0,none⟩ = some (.int .i64 a0_0) := (blk_cell BK327.out 0).trans rfl;have hcz21_1 : w20.cell? ⟨gb327,1,none⟩ = some (.bool a0_1) := (blk_cell BK327.out 1).trans rfl;have hcz21_2 : w20.cell? ⟨gb327,2,none⟩ = some (.int .i64 a0_2) := (blk_cell BK327.out 2).trans rfl;have hcz21_3 : w20.cell? ⟨gb327,3,none⟩ = some (.string a0_3) := (blk_cell BK327.out 3).trans rfl;have hfz21_0 := blk_frozen BK327.out 0;have hfz21_1 := blk_frozen BK327.out 1;have hfz21_2 := blk_frozen BK327.out 2;have hfz21_3 := blk_frozen BK327.out 3))
              go_ret
              exact ⟨by first | rfl | (simp [errW_none,errW_some] <;> rfl) | (simp [*,errW_none,errW_some] <;> rfl),by repeat (first | (with_reducible first | exact HB.out | apply below_alloc | apply pw_below_drewN | apply below_drew1 | refine below_set ?_ GE327.out) | exact HB.out)⟩
            · rw [if_neg c19] at H
              have c19b0 : (a0_0 == 3) = false := beq_eq_false_iff_ne.mpr c19
              have c19b1 : (a0_0 != 3) = true := bne_iff_ne.mpr c19
              by_cases c22 : a0_3.toList = ([] : List UInt8)
              · rw [if_pos c22] at H
                have c22b0 : (a0_3.toList == ([] : List UInt8)) = true := beq_iff_eq.mpr c22
                have c22b1 : (a0_3.toList != ([] : List UInt8)) = false := bne_eq_false_iff_eq.mpr c22
                clear c22
                obtain rfl := Option.some.inj H
                go_enter Try.func53,Try.ntmps53
                go_wp2_with (first | ((with_reducible refine gate_dst (N := 1) rfl ?_);refine box_event ?hg (N := 1) ?hd (cs := #[.int .i64 a0_0,.bool a0_1,.int .i64 a0_2,.string a0_3]) (t := 50) ?hr ?_;(case hd => rfl);(case hg => rfl);(case hr => first | (go_simp;done) | (go_simp;rfl));intro gb327 hg w23 hbox hb;have n0_ := Aside0.mk (below_step (by repeat (first | (with_reducible first | exact HB.out | apply below_alloc | apply pw_below_drewN | apply below_drew1) | exact HB.out)) hb);have n1_ := Aside0.mk (hbox);have n2_ := Aside0.mk ((by rw [hg];exact (below_size (by repeat (first | (with_reducible first | exact HB.out | apply below_alloc | apply pw_below_drewN | apply below_drew1) | exact HB.out))) : w.heap.size ≤ gb327));have n3_ := Aside0.mk ((by rw [hg];exact (below_size (by repeat (first | (with_reducible first | exact HB.out | apply below_alloc | apply pw_below_drewN | apply below_drew1) | exact HB.out))) : w.heap.size ≤ gb327));clear HB;have HB := n0_;have BK327 := n1_;have GW327 := n2_;have GE327 := n3_;clear n0_ n1_ n2_ n3_;clear hb hbox hg;have hcz24_0 : w23.cell? ⟨gb327,0,none⟩ = some (.int .i64 a0_0) := (blk_cell BK327.out 0).trans rfl;have hcz24_1 : w23.cell? ⟨gb327,1,none⟩ = some (.bool a0_1) := (blk_cell BK327.out 1).trans rfl;have hcz24_2 : w23.cell? ⟨gb327,2,none⟩ = some (.int .i64 a0_2) := (blk_cell BK327.out 2).trans rfl;have hcz24_3 : w23.cell? ⟨gb327,3,none⟩ = some (.string a0_3) := (blk_cell BK327.out 3).trans rfl;have hfz24_0 := blk_frozen BK327.out 0;have hfz24_1 := blk_frozen BK327.out 1;have hfz24_2 := blk_frozen BK327.out 2;have hfz24_3 := blk_frozen BK327.out 3))
                go_ret
                exact ⟨by first | rfl | (simp [errW_none,errW_some] <;> rfl) | (simp [*,errW_none,errW_some] <;> rfl),by repeat (first | (with_reducible first | exact HB.out | apply below_alloc | apply pw_below_drewN | apply below_drew1 | refine below_set ?_ GE327.out) | exact HB.out)⟩
              · rw [if_neg c22] at H
                have c22b0 : (a0_3.toList == ([] : List UInt8)) = false := beq_eq_false_iff_ne.mpr c22
                have c22b1 : (a0_3.toList != ([] : List UInt8)) = true := bne_iff_ne.mpr c22
                obtain rfl := Option.some.inj H
                go_enter Try.func53,Try.ntmps53
                go_wp2_with (first | ((with_reducible refine gate_dst (N := 1) rfl ?_);refine box_event ?hg (N := 1) ?hd (cs := #[.int .i64 a0_0,.bool a0_1,.int .i64 a0_2,.string a0_3]) (t := 50) ?hr ?_;(case hd => rfl);(case hg => rfl);(case hr => first | (go_simp;done) | (go_simp;rfl));intro gb327 hg w25 hbox hb;have n0_ := Aside0.mk (below_step (by repeat (first | (with_reducible first | exact HB.out | apply below_alloc | apply pw_below_drewN | apply below_drew1) | exact HB.out)) hb);have n1_ := Aside0.mk (hbox);have n2_ := Aside0.mk ((by rw [hg];exact (below_size (by repeat (first | (with_reducible first | exact HB.out | apply below_alloc | apply pw_below_drewN | apply below_drew1) | exact HB.out))) : w.heap.size ≤ gb327));have n3_ := Aside0.mk ((by rw [hg];exact (below_size (by repeat (first | (with_reducible first | exact HB.out | apply below_alloc | apply pw_below_drewN | apply below_drew1) | exact HB.out))) : w.heap.size ≤ gb327));clear HB;have HB := n0_;have BK327 := n1_;have GW327 := n2_;have GE327 := n3_;clear n0_ n1_ n2_ n3_;clear hb hbox hg;have hcz26_0 : w25.cell? ⟨gb327,0,none⟩ = some (.int .i64 a0_0) := (blk_cell BK327.out 0).trans rfl;have hcz26_1 : w25.cell? ⟨gb327,1,none⟩ = some (.bool a0_1) := (blk_cell BK327.out 1).trans rfl;have hcz26_2 : w25.cell? ⟨gb327,2,none⟩ = some (.int .i64 a0_2) := (blk_cell BK327.out 2).trans rfl;have hcz26_3 : w25.cell? ⟨gb327,3,none⟩ = some (.string a0_3) := (blk_cell BK327.out 3).trans rfl;have hfz26_0 := blk_frozen BK327.out 0;have hfz26_1 := blk_frozen BK327.out 1;have hfz26_2 := blk_frozen BK327.out 2;have hfz26_3 := blk_frozen BK327.out 3))
                go_ret
                exact ⟨by first | rfl | (simp [errW_none,errW_some] <;> rfl) | (simp [*,errW_none,errW_some] <;> rfl),by repeat (first | (with_reducible first | exact HB.out | apply below_alloc | apply pw_below_drewN | apply below_drew1 | refine below_set ?_ GE327.out) | exact HB.out)⟩
          · rw [if_neg c18] at H
            have c18b0 : (a0_2 == 0) = false := beq_eq_false_iff_ne.mpr c18
            have c18b1 : (a0_2 != 0) = true := bne_iff_ne.mpr c18
            obtain rfl := Option.some.inj H
            go_enter Try.func53,Try.ntmps53
            go_wp2_with (first | ((with_reducible refine gate_dst (N := 1) rfl ?_);refine box_event ?hg (N := 1) ?hd (cs := #[.int .i64 a0_0,.bool a0_1,.int .i64 a0_2,.string a0_3]) (t := 50) ?hr ?_;(case hd => rfl);(case hg => rfl);(case hr => first | (go_simp;done) | (go_simp;rfl));intro gb327 hg w27 hbox hb;have n0_ := Aside0.mk (below_step (by repeat (first | (with_reducible first | exact HB.out | apply below_alloc | apply pw_below_drewN | apply below_drew1) | exact HB.out)) hb);have n1_ := Aside0.mk (hbox);have n2_ := Aside0.mk ((by rw [hg];exact (below_size (by repeat (first | (with_reducible first | exact HB.out | apply below_alloc | apply pw_below_drewN | apply below_drew1) | exact HB.out))) : w.heap.size ≤ gb327));have n3_ := Aside0.mk ((by rw [hg];exact (below_size (by repeat (first | (with_reducible first | exact HB.out | apply below_alloc | apply pw_below_drewN | apply below_drew1) | exact HB.out))) : w.heap.size ≤ gb327));clear HB;have HB := n0_;have BK327 := n1_;have GW327 := n2_;have GE327 := n3_;clear n0_ n1_ n2_ n3_;clear hb hbox hg;have hcz28_0 : w27.cell? ⟨gb327,0,none⟩ = some (.int .i64 a0_0) := (blk_cell BK327.out 0).trans rfl;have hcz28_1 : w27.cell? ⟨gb327,1,none⟩ = some (.bool a0_1) := (blk_cell BK327.out 1).trans rfl;have hcz28_2 : w27.cell? ⟨gb327,2,none⟩ = some (.int .i64 a0_2) := (blk_cell BK327.out 2).trans rfl;have hcz28_3 : w27.cell? ⟨gb327,3,none⟩ = some (.string a0_3) := (blk_cell BK327.out 3).trans rfl;have hfz28_0 := blk_frozen BK327.out 0;have hfz28_1 := blk_frozen BK327.out 1;have hfz28_2 := blk_frozen BK327.out 2;have hfz28_3 := blk_frozen BK327.out 3))
            go_ret
            exact ⟨by first | rfl | (simp [errW_none,errW_some] <;> rfl) | (simp [*,errW_none,errW_some] <;> rfl),by repeat (first | (with_reducible first | exact HB.out | apply below_alloc | apply pw_below_drewN | apply below_drew1 | refine below_set ?_ GE327.out) | exact HB.out)⟩
      · rw [if_neg c8] at H
        have c8b0 : (a0_0 == 1) = false := beq_eq_false_iff_ne.mpr c8
        have c8b1 : (a0_0 != 1) = true := bne_iff_ne.mpr c8
        by_cases c29 : a0_1 = true
        · subst c29
          have H1 : (some false) = some r := by rw [if_pos rfl] at H;exact H
          clear H
          have H := H1
          clear H1
          obtain rfl := Option.some.inj H
          go_enter Try.func53,Try.ntmps53
          go_wp2_with (first | ((with_reducible refine gate_dst (N := 1) rfl ?_);refine box_event ?hg (N := 1) ?hd (cs := #[.int .i64 a0_0,.bool true,.int .i64 a0_2,.string a0_3]) (t := 50) ?hr ?_;(case hd => rfl);(case hg => rfl);(case hr => first | (go_simp;done) | (go_simp;rfl));intro gb327 hg w30 hbox hb;have n0_ := Aside0.mk (below_step (by repeat (first | (with_reducible first | exact HB.out | apply below_alloc | apply pw_below_drewN | apply below_drew1) | exact HB.out)) hb);have n1_ := Aside0.mk (hbox);have n2_ := Aside0.mk ((by rw [hg];exact (below_size (by repeat (first | (with_reducible first | exact HB.out | apply below_alloc | apply pw_below_drewN | apply below_drew1) | exact HB.out))) : w.heap.size ≤ gb327));have n3_ := Aside0.mk ((by rw [hg];exact (below_size (by repeat (first | (with_reducible first | exact HB.out | apply below_alloc | apply pw_below_drewN | apply below_drew1) | exact HB.out))) : w.heap.size ≤ gb327));clear HB;have HB := n0_;have BK327 := n1_;have GW327 := n2_;have GE327 := n3_;clear n0_ n1_ n2_ n3_;clear hb hbox hg;have hcz31_0 : w30.cell? ⟨gb327,0,none⟩ = some (.int .i64 a0_0) := (blk_cell BK327.out 0).trans rfl;have hcz31_1 : w30.cell? ⟨gb327,1,none⟩ = some (.bool true) := (blk_cell BK327.out 1).trans rfl;have hcz31_2 : w30.cell? ⟨gb327,2,none⟩ = some (.int .i64 a0_2) := (blk_cell BK327.out 2).trans rfl;have hcz31_3 : w30.cell? ⟨gb327,3,none⟩ = some (.string a0_3) := (blk_cell BK327.out 3).trans rfl;have hfz31_0 := blk_frozen BK327.out 0;have hfz31_1 := blk_frozen BK327.out 1;have hfz31_2 := blk_frozen BK327.out 2;have hfz31_3 := blk_frozen BK327.out 3))
          go_ret
          exact ⟨by first | rfl | (simp [errW_none,errW_some] <;> rfl) | (simp [*,errW_none,errW_some] <;> rfl),by repeat (first | (with_reducible first | exact HB.out | apply below_alloc | apply pw_below_drewN | apply below_drew1 | refine below_set ?_ GE327.out) | exact HB.out)⟩
        · replace c29 := Bool.eq_false_iff.mpr c29
          subst c29
          have H1 : (if a0_0 = 2 then (if a0_0 = 3 then (some (decide ((a0_3.size : Int) ≤ 60))) else (if a0_3.toList = ([] : List UInt8) then (some (decide ((a0_3.size : Int) ≤ 60))) else (some false))) else (if a0_2 = 0 then (if a0_0 = 3 then (some (decide ((a0_3.size : Int) ≤ 60))) else (if a0_3.toList = ([] : List UInt8) then (some (decide ((a0_3.size : Int) ≤ 60))) else (some false))) else (some false))) = some r := by rw [if_neg (show ¬ (false = true) by decide)] at H;exact H
          clear H
          have H := H1
          clear H1
          by_cases c32 : a0_0 = 2
          · rw [if_pos c32] at H
            have c32b0 : (a0_0 == 2) = true := beq_iff_eq.mpr c32
            have c32b1 : (a0_0 != 2) = false := bne_eq_false_iff_eq.mpr c32
            clear c32
            by_cases c33 : a0_0 = 3
            · rw [if_pos c33] at H
              have c33b0 : (a0_0 == 3) = true := beq_iff_eq.mpr c33
              have c33b1 : (a0_0 != 3) = false := bne_eq_false_iff_eq.mpr c33
              clear c33
              obtain rfl := Option.some.inj H
              go_enter Try.func53,Try.ntmps53
              go_wp2_with (first | ((with_reducible refine gate_dst (N := 1) rfl ?_);refine box_event ?hg (N := 1) ?hd (cs := #[.int .i64 a0_0,.bool false,.int .i64 a0_2,.string a0_3]) (t := 50) ?hr ?_;(case hd => rfl);(case hg => rfl);(case hr => first | (go_simp;done) | (go_simp;rfl));intro gb327 hg w34 hbox hb;have n0_ := Aside0.mk (below_step (by repeat (first | (with_reducible first | exact HB.out | apply below_alloc | apply pw_below_drewN | apply below_drew1) | exact HB.out)) hb);have n1_ := Aside0.mk (hbox);have n2_ := Aside0.mk ((by rw [hg];exact (below_size (by repeat (first | (with_reducible first | exact HB.out | apply below_alloc | apply pw_below_drewN | apply below_drew1) | exact HB.out))) : w.heap.size ≤ gb327));have n3_ := Aside0.mk ((by rw [hg];exact (below_size (by repeat (first | (with_reducible first | exact HB.out | apply below_alloc | apply pw_below_drewN | apply below_drew1) | exact HB.out))) : w.heap.size ≤ gb327));clear HB;have HB := n0_;have BK327 := n1_;have GW327 := n2_;have GE327 := n3_;clear n0_ n1_ n2_ n3_;clear hb hbox hg;have hcz35_0 : w34.cell? ⟨gb327,0,none⟩ = some (.int .i64 a0_0) := (blk_cell BK327.out 0).trans rfl;have hcz35_1 : w34.cell? ⟨gb327,1,none⟩ = some (.bool false) := (blk_cell BK327.out 1).trans rfl;have hcz35_2 : w34.cell? ⟨gb327,2,none⟩ = some (.int .i64 a0_2) := (blk_cell BK327.out 2).trans rfl;have hcz35_3 : w34.cell? ⟨gb327,3,none⟩ = some (.string a0_3) := (blk_cell BK327.out 3).trans rfl;have hfz35_0 := blk_frozen BK327.out 0;have hfz35_1 := blk_frozen BK327.out 1;have hfz35_2 := blk_frozen BK327.out 2;have hfz35_3 := blk_frozen BK327.out 3))
              go_ret
              exact ⟨by first | rfl | (simp [errW_none,errW_some] <;> rfl) | (simp [*,errW_none,errW_some] <;> rfl),by repeat (first | (with_reducible first | exact HB.out | apply below_alloc | apply pw_below_drewN | apply below_drew1 | refine below_set ?_ GE327.out) | exact HB.out)⟩
            · rw [if_neg c33] at H
              have c33b0 : (a0_0 == 3) = false := beq_eq_false_iff_ne.mpr c33
              have c33b1 : (a0_0 != 3) = true := bne_iff_ne.mpr c33
              by_cases c36 : a0_3.toList = ([] : List UInt8)
              · rw [if_pos c36] at H
                have c36b0 : (a0_3.toList == ([] : List UInt8)) = true := beq_iff_eq.mpr c36
                have c36b1 : (a0_3.toList != ([] : List UInt8)) = false := bne_eq_false_iff_eq.mpr c36
                clear c36
                obtain rfl := Option.some.inj H
                go_enter Try.func53,Try.ntmps53
                go_wp2_with (first | ((with_reducible refine gate_dst (N := 1) rfl ?_);refine box_event ?hg (N := 1) ?hd (cs := #[.int .i64 a0_0,.bool false,.int .i64 a0_2,.string a0_3]) (t := 50) ?hr ?_;(case hd => rfl);(case hg => rfl);(case hr => first | (go_simp;done) | (go_simp;rfl));intro gb327 hg w37 hbox hb;have n0_ := Aside0.mk (below_step (by repeat (first | (with_reducible first | exact HB.out | apply below_alloc | apply pw_below_drewN | apply below_drew1) | exact HB.out)) hb);have n1_ := Aside0.mk (hbox);have n2_ := Aside0.mk ((by rw [hg];exact (below_size (by repeat (first | (with_reducible first | exact HB.out | apply below_alloc | apply pw_below_drewN | apply below_drew1) | exact HB.out))) : w.heap.size ≤ gb327));have n3_ := Aside0.mk ((by rw [hg];exact (below_size (by repeat (first | (with_reducible first | exact HB.out | apply below_alloc | apply pw_below_drewN | apply below_drew1) | exact HB.out))) : w.heap.size ≤ gb327));clear HB;have HB := n0_;have BK327 := n1_;have GW327 := n2_;have GE327 := n3_;clear n0_ n1_ n2_ n3_;clear hb hbox hg;have hcz38_0 : w37.cell? ⟨gb327,0,none⟩ = some (.int .i64 a0_0) := (blk_cell BK327.out 0).trans rfl;have hcz38_1 : w37.cell? ⟨gb327,1,none⟩ = some (.bool false) := (blk_cell BK327.out 1).trans rfl;have hcz38_2 : w37.cell? ⟨gb327,2,none⟩ = some (.int .i64 a0_2) := (blk_cell BK327.out 2).trans rfl;have hcz38_3 : w37.cell? ⟨gb327,3,none⟩ = some (.string a0_3) := (blk_cell BK327.out 3).trans rfl;have hfz38_0 := blk_frozen BK327.out 0;have hfz38_1 := blk_frozen BK327.out 1;have hfz38_2 := blk_frozen BK327.out 2;have hfz38_3 := blk_frozen BK327.out 3))
                go_ret
                exact ⟨by first | rfl | (simp [errW_none,errW_some] <;> rfl) | (simp [*,errW_none,errW_some] <;> rfl),by repeat (first | (with_reducible first | exact HB.out | apply below_alloc | apply pw_below_drewN | apply below_drew1 | refine below_set ?_ GE327.out) | exact HB.out)⟩
              · rw [if_neg c36] at H
                have c36b0 : (a0_3.toList == ([] : List UInt8)) = false := beq_eq_false_iff_ne.mpr c36
                have c36b1 : (a0_3.toList != ([] : List UInt8)) = true := bne_iff_ne.mpr c36
                obtain rfl := Option.some.inj H
                go_enter Try.func53,Try.ntmps53
                go_wp2_with (first | ((with_reducible refine gate_dst (N := 1) rfl ?_);refine box_event ?hg (N := 1) ?hd (cs := #[.int .i64 a0_0,.bool false,.int .i64 a0_2,.string a0_3]) (t := 50) ?hr ?_;(case hd => rfl);(case hg => rfl);(case hr => first | (go_simp;done) | (go_simp;rfl));intro gb327 hg w39 hbox hb;have n0_ := Aside0.mk (below_step (by repeat (first | (with_reducible first | exact HB.out | apply below_alloc | apply pw_below_drewN | apply below_drew1) | exact HB.out)) hb);have n1_ := Aside0.mk (hbox);have n2_ := Aside0.mk ((by rw [hg];exact (below_size (by repeat (first | (with_reducible first | exact HB.out | apply below_alloc | apply pw_below_drewN | apply below_drew1) | exact HB.out))) : w.heap.size ≤ gb327));have n3_ := Aside0.mk ((by rw [hg];exact (below_size (by repeat (first | (with_reducible first | exact HB.out | apply below_alloc | apply pw_below_drewN | apply below_drew1) | exact HB.out))) : w.heap.size ≤ gb327));clear HB;have HB := n0_;have BK327 := n1_;have GW327 := n2_;have GE327 := n3_;clear n0_ n1_ n2_ n3_;clear hb hbox hg;have hcz40_0 : w39.cell? ⟨gb327,0,none⟩ = some (.int .i64 a0_0) := (blk_cell BK327.out 0).trans rfl;have hcz40_1 : w39.cell? ⟨gb327,1,none⟩ = some (.bool false) := (blk_cell BK327.out 1).trans rfl;have hcz40_2 : w39.cell? ⟨gb327,2,none⟩ = some (.int .i64 a0_2) := (blk_cell BK327.out 2).trans rfl;have hcz40_3 : w39.cell? ⟨gb327,3,none⟩ = some (.string a0_3) := (blk_cell BK327.out 3).trans rfl;have hfz40_0 := blk_frozen BK327.out 0;have hfz40_1 := blk_frozen BK327.out 1;have hfz40_2 := blk_frozen BK327.out 2;have hfz40_3 := blk_frozen BK327.out 3))
                go_ret
                exact ⟨by first | rfl | (simp [errW_none,errW_some] <;> rfl) | (simp [*,errW_none,errW_some] <;> rfl),by repeat (first | (with_reducible first | exact HB.out | apply below_alloc | apply pw_below_drewN | apply below_drew1 | refine below_set ?_ GE327.out) | exact HB.out)⟩
          · rw [if_neg c32] at H
            have c32b0 : (a0_0 == 2) = false := beq_eq_false_iff_ne.mpr c32
            have c32b1 : (a0_0 != 2) = true := bne_iff_ne.mpr c32
            by_cases c41 : a0_2 = 0
            · rw [if_pos c41] at H
              have c41b0 : (a0_2 == 0) = true := beq_iff_eq.mpr c41
              have c41b1 : (a0_2 != 0) = false := bne_eq_false_iff_eq.mpr c41
              clear c41
              by_cases c42 : a0_0 = 3
              · rw [if_pos c42] at H
                have c42b0 : (a0_0 == 3) = true := beq_iff_eq.mpr c42
                have c42b1 : (a0_0 != 3) = false := bne_eq_false_iff_eq.mpr c42
                clear c42
                obtain rfl := Option.some.inj H
                go_enter Try.func53,Try.ntmps53
                go_wp2_with (first | ((with_reducible refine gate_dst (N := 1) rfl ?_);refine box_event ?hg (N := 1) ?hd (cs := #[.int .i64 a0_0,.bool false,.int .i64 a0_2,.string a0_3]) (t := 50) ?hr ?_;(case hd => rfl);(case hg => rfl);(case hr => first | (go_simp;done) | (go_simp;rfl));intro gb327 hg w43 hbox hb;have n0_ := Aside0.mk (below_step (by repeat (first | (with_reducible first | exact HB.out | apply below_alloc | apply pw_below_drewN | apply below_drew1) | exact HB.out)) hb);have n1_ := Aside0.mk (hbox);have n2_ := Aside0.mk ((by rw [hg];exact (below_size (by repeat (first | (with_reducible first | exact HB.out | apply below_alloc | apply pw_below_drewN | apply below_drew1) | exact HB.out))) : w.heap.size ≤ gb327));have n3_ := Aside0.mk ((by rw [hg];exact (below_size (by repeat (first | (with_reducible first | exact HB.out | apply below_alloc | apply pw_below_drewN | apply below_drew1) | exact HB.out))) : w.heap.size ≤ gb327));clear HB;have HB := n0_;have BK327 := n1_;have GW327 := n2_;have GE327 := n3_;clear n0_ n1_ n2_ n3_;clear hb hbox hg;have hcz44_0 : w43.cell? ⟨gb327,0,none⟩ = some (.int .i64 a0_0) := (blk_cell BK327.out 0).trans rfl;have hcz44_1 : w43.cell? ⟨gb327,1,none⟩ = some (.bool false) := (blk_cell BK327.out 1).trans rfl;have hcz44_2 : w43.cell? ⟨gb327,2,none⟩ = some (.int .i64 a0_2) := (blk_cell BK327.out 2).trans rfl;have hcz44_3 : w43.cell? ⟨gb327,3,none⟩ = some (.string a0_3) := (blk_cell BK327.out 3).trans rfl;have hfz44_0 := blk_frozen BK327.out 0;have hfz44_1 := blk_frozen BK327.out 1;have hfz44_2 := blk_frozen BK327.out 2;have hfz44_3 := blk_frozen BK327.out 3))
                go_ret
                exact ⟨by first | rfl | (simp [errW_none,errW_some] <;> rfl) | (simp [*,errW_none,errW_some] <;> rfl),by repeat (first | (with_reducible first | exact HB.out | apply below_alloc | apply pw_below_drewN | apply below_drew1 | refine below_set ?_ GE327.out) | exact HB.out)⟩
              · rw [if_neg c42] at H
                have c42b0 : (a0_0 == 3) = false := beq_eq_false_iff_ne.mpr c42
                have c42b1 : (a0_0 != 3) = true := bne_iff_ne.mpr c42
                by_cases c45 : a0_3.toList = ([] : List UInt8)
                · rw [if_pos c45] at H
                  have c45b0 : (a0_3.toList == ([] : List UInt8)) = true := beq_iff_eq.mpr c45
                  have c45b1 : (a0_3.toList != ([] : List UInt8)) = false := bne_eq_false_iff_eq.mpr c45
                  clear c45
                  obtain rfl := Option.some.inj H
                  go_enter Try.func53,Try.ntmps53
                  go_wp2_with (first | ((with_reducible refine gate_dst (N := 1) rfl ?_);refine box_event ?hg (N := 1) ?hd (cs := #[.int .i64 a0_0,.bool false,.int .i64 a0_2,.string a0_3]) (t := 50) ?hr ?_;(case hd => rfl);(case hg => rfl);(case hr => first | (go_simp;done) | (go_simp;rfl));intro gb327 hg w46 hbox hb;have n0_ := Aside0.mk (below_step (by repeat (first | (with_reducible first | exact HB.out | apply below_alloc | apply pw_below_drewN | apply below_drew1) | exact HB.out)) hb);have n1_ := Aside0.mk (hbox);have n2_ := Aside0.mk ((by rw [hg];exact (below_size (by repeat (first | (with_reducible first | exact HB.out | apply below_alloc | apply pw_below_drewN | apply below_drew1) | exact HB.out))) : w.heap.size ≤ gb327));have n3_ := Aside0.mk ((by rw [hg];exact (below_size (by repeat (first | (with_reducible first | exact HB.out | apply below_alloc | apply pw_below_drewN | apply below_drew1) | exact HB.out))) : w.heap.size ≤ gb327));clear HB;have HB := n0_;have BK327 := n1_;have GW327 := n2_;have GE327 := n3_;clear n0_ n1_ n2_ n3_;clear hb hbox hg;have hcz47_0 : w46.cell? ⟨gb327,0,none⟩ = some (.int .i64 a0_0) := (blk_cell BK327.out 0).trans rfl;have hcz47_1 : w46.cell? ⟨gb327,1,none⟩ = some (.bool false) := (blk_cell BK327.out 1).trans rfl;have hcz47_2 : w46.cell? ⟨gb327,2,none⟩ = some (.int .i64 a0_2) := (blk_cell BK327.out 2).trans rfl;have hcz47_3 : w46.cell? ⟨gb327,3,none⟩ = some (.string a0_3) := (blk_cell BK327.out 3).trans rfl;have hfz47_0 := blk_frozen BK327.out 0;have hfz47_1 := blk_frozen BK327.out 1;have hfz47_2 := blk_frozen BK327.out 2;have hfz47_3 := blk_frozen BK327.out 3))
                  go_ret
                  exact ⟨by first | rfl | (simp [errW_none,errW_some] <;> rfl) | (simp [*,errW_none,errW_some] <;> rfl),by repeat (first | (with_reducible first | exact HB.out | apply below_alloc | apply pw_below_drewN | apply below_drew1 | refine below_set ?_ GE327.out) | exact HB.out)⟩
                · rw [if_neg c45] at H
                  have c45b0 : (a0_3.toList == ([] : List UInt8)) = false := beq_eq_false_iff_ne.mpr c45
                  have c45b1 : (a0_3.toList != ([] : List UInt8)) = true := bne_iff_ne.mpr c45
                  obtain rfl := Option.some.inj H
                  go_enter Try.func53,Try.ntmps53
                  go_wp2_with (first | ((with_reducible refine gate_dst (N := 1) rfl ?_);refine box_event ?hg (N := 1) ?hd (cs := #[.int .i64 a0_0,.bool false,.int .i64 a0_2,.string a0_3]) (t := 50) ?hr ?_;(case hd => rfl);(case hg => rfl);(case hr => first | (go_simp;done) | (go_simp;rfl));intro gb327 hg w48 hbox hb;have n0_ := Aside0.mk (below_step (by repeat (first | (with_reducible first | exact HB.out | apply below_alloc | apply pw_below_drewN | apply below_drew1) | exact HB.out)) hb);have n1_ := Aside0.mk (hbox);have n2_ := Aside0.mk ((by rw [hg];exact (below_size (by repeat (first | (with_reducible first | exact HB.out | apply below_alloc | apply pw_below_drewN | apply below_drew1) | exact HB.out))) : w.heap.size ≤ gb327));have n3_ := Aside0.mk ((by rw [hg];exact (below_size (by repeat (first | (with_reducible first | exact HB.out | apply below_alloc | apply pw_below_drewN | apply below_drew1) | exact HB.out))) : w.heap.size ≤ gb327));clear HB;have HB := n0_;have BK327 := n1_;have GW327 := n2_;have GE327 := n3_;clear n0_ n1_ n2_ n3_;clear hb hbox hg;have hcz49_0 : w48.cell? ⟨gb327,0,none⟩ = some (.int .i64 a0_0) := (blk_cell BK327.out 0).trans rfl;have hcz49_1 : w48.cell? ⟨gb327,1,none⟩ = some (.bool false) := (blk_cell BK327.out 1).trans rfl;have hcz49_2 : w48.cell? ⟨gb327,2,none⟩ = some (.int .i64 a0_2) := (blk_cell BK327.out 2).trans rfl;have hcz49_3 : w48.cell? ⟨gb327,3,none⟩ = some (.string a0_3) := (blk_cell BK327.out 3).trans rfl;have hfz49_0 := blk_frozen BK327.out 0;have hfz49_1 := blk_frozen BK327.out 1;have hfz49_2 := blk_frozen BK327.out 2;have hfz49_3 := blk_frozen BK327.out 3))
                  go_ret
                  exact ⟨by first | rfl | (simp [errW_none,errW_some] <;> rfl) | (simp [*,errW_none,errW_some] <;> rfl),by repeat (first | (with_reducible first | exact HB.out | apply below_alloc | apply pw_below_drewN | apply below_drew1 | refine below_set ?_ GE327.out) | exact HB.out)⟩
            · rw [if_neg c41] at H
              have c41b0 : (a0_2 == 0) = false := beq_eq_false_iff_ne.mpr c41
              have c41b1 : (a0_2 != 0) = true := bne_iff_ne.mpr c41
              obtain rfl := Option.some.inj H
              go_enter Try.func53,Try.ntmps53
              go_wp2_with (first | ((with_reducible refine gate_dst (N := 1) rfl ?_);refine box_event ?hg (N := 1) ?hd (cs := #[.int .i64 a0_0,.bool false,.int .i64 a0_2,.string a0_3]) (t := 50) ?hr ?_;(case hd => rfl);(case hg => rfl);(case hr => first | (go_simp;done) | (go_simp;rfl));intro gb327 hg w50 hbox hb;have n0_ := Aside0.mk (below_step (by repeat (first | (with_reducible first | exact HB.out | apply below_alloc | apply pw_below_drewN | apply below_drew1) | exact HB.out)) hb);have n1_ := Aside0.mk (hbox);have n2_ := Aside0.mk ((by rw [hg];exact (below_size (by repeat (first | (with_reducible first | exact HB.out | apply below_alloc | apply pw_below_drewN | apply below_drew1) | exact HB.out))) : w.heap.size ≤ gb327));have n3_ := Aside0.mk ((by rw [hg];exact (below_size (by repeat (first | (with_reducible first | exact HB.out | apply below_alloc | apply pw_below_drewN | apply below_drew1) | exact HB.out))) : w.heap.size ≤ gb327));clear HB;have HB := n0_;have BK327 := n1_;have GW327 := n2_;have GE327 := n3_;clear n0_ n1_ n2_ n3_;clear hb hbox hg;have hcz51_0 : w50.cell? ⟨gb327,0,none⟩ = some (.int .i64 a0_0) := (blk_cell BK327.out 0).trans rfl;have hcz51_1 : w50.cell? ⟨gb327,1,none⟩ = some (.bool false) := (blk_cell BK327.out 1).trans rfl;have hcz51_2 : w50.cell? ⟨gb327,2,none⟩ = some (.int .i64 a0_2) := (blk_cell BK327.out 2).trans rfl;have hcz51_3 : w50.cell? ⟨gb327,3,none⟩ = some (.string a0_3) := (blk_cell BK327.out 3).trans rfl;have hfz51_0 := blk_frozen BK327.out 0;have hfz51_1 := blk_frozen BK327.out 1;have hfz51_2 := blk_frozen BK327.out 2;have hfz51_3 := blk_frozen BK327.out 3))
              go_ret
              exact ⟨by first | rfl | (simp [errW_none,errW_some] <;> rfl) | (simp [*,errW_none,errW_some] <;> rfl),by repeat (first | (with_reducible first | exact HB.out | apply below_alloc | apply pw_below_drewN | apply below_drew1 | refine below_set ?_ GE327.out) | exact HB.out)⟩
end Go.Proofs.Ytfoaeigoajooeaa.Z
