/- Parts of the proof of PackBack: what its functions answer. -/
import Derived.Test.YtfoaeigoajooeaaMPackBacka
import Derived.Test.YtfoaeigoajooeaaMPackBackb
import Derived.Test.YtfoaeigoajooeaaMPackBackc
import Derived.Test.YtfoaeigoajooeaaMPackBackd
import Derived.Shelf.Small.Strs
import Derived.Test.YtfoaeigoajooeaaProg
import Derived.Lib.Bytealg
import Derived.Laws.Bits64b
import Derived.Lib.Bytes
section
namespace Go.Proofs.Ytfoaeigoajooeaa.Z
open Go.RowKit Go.Proofs.YtfoaeigoajooeaaW.PrintWords Go.Proofs.YtfoaeigoajooeaaW.PrintLast Go.Proofs.YtfoaeigoajooeaaW.PrintMore
attribute [local go_sem] max2_int min2_int max_two min_two max_three min_three max_four min_four
set_option linter.unusedVariables false
set_option linter.unusedSimpArgs false
mutual
def verdererref02_Compare.l0 : Nat → List (S50) → List (S50) → Int → Option (Int)
  | 0,_,_,_ => none
  | k + 1,x0,x1,x5 => if x5 < (x0.length : Int) then (verdererref02_Compare.j1 k x0 x1 x5 (decide (x5 < (x1.length : Int)))) else (verdererref02_Compare.j1 k x0 x1 x5 false)
def verdererref02_Compare.j1 : Nat → List (S50) → List (S50) → Int → Bool → Option (Int)
  | 0,_,_,_,_ => none
  | k + 1,x0,x1,x5,x16 => if x16 = true then (if 0 ≤ x5 then (if x5 < (x0.length : Int) then (if x5 < (x1.length : Int) then ((verdererref01_Compare.f k ((rd_T50 x0 x5).f0) ((rd_T50 x0 x5).f1) ((rd_T50 x0 x5).f2) ((rd_T50 x0 x5).f3) ((rd_T50 x1 x5).f0) ((rd_T50 x1 x5).f1) ((rd_T50 x1 x5).f2) ((rd_T50 x1 x5).f3)).bind fun t301 => (if t301 = 0 then (verdererref02_Compare.l0 k x0 x1 (wrap64 (x5 + 1))) else (some t301))) else (none)) else (none)) else (none)) else (if (x0.length : Int) < (x1.length : Int) then (some (-1)) else (if (x0.length : Int) > (x1.length : Int) then (some 1) else (some 0)))
end
def verdererref02_Compare.f (k : Nat) (l0 : List (S50)) (l1 : List (S50)) : Option (Int) := verdererref02_Compare.l0 k l0 l1 0
theorem verdererref02_Compare.mono_l : ∀ k,(∀ y0 y1 y2,LeO (verdererref02_Compare.l0 k y0 y1 y2) (verdererref02_Compare.l0 (k + 1) y0 y1 y2)) ∧ (∀ y0 y1 y2 y3,LeO (verdererref02_Compare.j1 k y0 y1 y2 y3) (verdererref02_Compare.j1 (k + 1) y0 y1 y2 y3))
  | 0 => ⟨fun _ _ _ r h => by simp [verdererref02_Compare.l0] at h,fun _ _ _ _ r h => by simp [verdererref02_Compare.j1] at h⟩
  | k + 1 => by
    obtain ⟨ih0,ih1⟩ := verdererref02_Compare.mono_l k
    refine ⟨?_,?_⟩
    · intro y0 y1 y2
      unfold verdererref02_Compare.l0
      repeat' first
      | (with_reducible exact ih0 _ _ _)
      | (with_reducible exact ih1 _ _ _ _)
      | (with_reducible exact verdererref01_Compare.mono _ _ _ _ _ _ _ _ _)
      | (with_reducible exact LeO.refl _)
      | (with_reducible exact LeO.none _)
      | (with_reducible refine LeO.ite ?_ ?_)
      | (with_reducible refine LeO.bind ?_ (fun _ => ?_))
      | exact ih0 _ _ _
      | exact ih1 _ _ _ _
      | exact verdererref01_Compare.mono _ _ _ _ _ _ _ _ _
      | exact LeO.none _
      | refine LeO.ite ?_ ?_
      | refine LeO.bind ?_ (fun _ => ?_)
    · intro y0 y1 y2 y3
      unfold verdererref02_Compare.j1
      repeat' first
      | (with_reducible exact ih0 _ _ _)
      | (with_reducible exact ih1 _ _ _ _)
      | (with_reducible exact verdererref01_Compare.mono _ _ _ _ _ _ _ _ _)
      | (with_reducible exact LeO.refl _)
      | (with_reducible exact LeO.none _)
      | (with_reducible refine LeO.ite ?_ ?_)
      | (with_reducible refine LeO.bind ?_ (fun _ => ?_))
      | exact ih0 _ _ _
      | exact ih1 _ _ _ _
      | exact verdererref01_Compare.mono _ _ _ _ _ _ _ _ _
      | exact LeO.none _
      | refine LeO.ite ?_ ?_
      | refine LeO.bind ?_ (fun _ => ?_)
theorem verdererref02_Compare.mono : ∀ a0 a1 k,LeO (verdererref02_Compare.f k a0 a1) (verdererref02_Compare.f (k + 1) a0 a1) := by
  intro a0 a1 k
  obtain ⟨ih0,ih1⟩ := verdererref02_Compare.mono_l k
  unfold verdererref02_Compare.f
  repeat' first
      | (with_reducible exact ih0 _ _ _)
      | (with_reducible exact ih1 _ _ _ _)
      | (with_reducible exact verdererref01_Compare.mono _ _ _ _ _ _ _ _ _)
      | (with_reducible exact LeO.refl _)
      | (with_reducible exact LeO.none _)
      | (with_reducible refine LeO.ite ?_ ?_)
      | (with_reducible refine LeO.bind ?_ (fun _ => ?_))
      | exact ih0 _ _ _
      | exact ih1 _ _ _ _
      | exact verdererref01_Compare.mono _ _ _ _ _ _ _ _ _
      | exact LeO.none _
      | refine LeO.ite ?_ ?_
      | refine LeO.bind ?_ (fun _ => ?_)
def verdererref02_Compare.T4 : Bool × List (List Nat × List Nat) := (true,[([],[]),([],[]),([0,1],[0,1]),([2],[2]),([],[]),([],[]),([4,5],[4,5]),([6],[6]),([3,7],[3,7]),([8,8,0,1,2,3,4,5,6,7,8],[8])])
def verdererref02_Compare.B4 : List Nat := [0,0,3,7,0,0,48,112,255,511]
theorem verdererref02_Compare.tab4 : rtab .any (opsOf Try.f22 4) = verdererref02_Compare.T4 := by kernel_rfl
theorem verdererref02_Compare.bits4 : waitsOk verdererref02_Compare.T4.2 verdererref02_Compare.B4 = true := by kernel_rfl
set_option maxHeartbeats 8000000 in
set_option maxRecDepth 100000 in
theorem verdererref02_Compare.calls (k : Nat) (A0 : Option Addr) (c0 : Nat) (l0 : List (S50)) (A1 : Option Addr) (c1 : Nat) (l1 : List (S50)) (r : Int) (w : World) (hr0 : Kd.C k50 w A0 l0.length l0) (hc0 : l0.length ≤ c0) (hr1 : Kd.C k50 w A1 l1.length l1) (hc1 : l1.length ≤ c1) (h : verdererref02_Compare.f k l0 l1 = some r) :
    Calls Try.prog 22 #[.slice A0 l0.length c0,.slice A1 l1.length c1] w fun e w' => e = .returned (.int .i64 r) ∧ Below w.heap.size w w' := by
  have hu50 := Try.underlying50
  have HR0 := Aside0.mk hr0
  have HC0 := Aside0.mk hc0
  clear hr0 hc0
  have HR1 := Aside0.mk hr1
  have HC1 := Aside0.mk hc1
  clear hr1 hc1
  have HB := Aside0.mk (Below.refl w.heap.size w)
  have H : (verdererref02_Compare.l0 k l0 l1 0) = some r := h
  clear h
  have H' := Aside0.mk H
  clear H
  go_enter Try.func22,Try.ntmps22
  go_wp2
  go_loopg [5] k (fun kq v5 w' => ∃ (x5_1 : Int),v5 = .int .i64 x5_1 ∧ Aside0 (verdererref02_Compare.l0 kq l0 l1 x5_1 = some r) ∧ Aside0 (kq ≤ k) ∧ Aside0 (Below w.heap.size w w'))
  case atStart => exact ⟨(0),(by first | rfl | (simp;done) | (simp [*];done)),H',⟨Nat.le_refl _⟩,⟨by repeat (first | (with_reducible first | exact HB.out | apply below_alloc | apply pw_below_drewN | apply below_drew1) | exact HB.out)⟩⟩
  case round =>
    clear H'
    try clear c1
    try clear c2
    try clear p2
    obtain ⟨x5_1,rfl,HA,HK1,HB⟩ := hrel
    cases gk with
    | zero => exact absurd HA.out (by simp [verdererref02_Compare.l0])
    | succ k1 =>
      have H := HA.out
      clear HA
      simp only [verdererref02_Compare.l0] at H
      have HC3 := Aside0.mk H
      clear H
      go_upto_region 2 with (fail)
      go_cut [16] (fun v16 wc => ∃ (kq : Nat) (x16_2 : Bool),v16 = .bool x16_2 ∧ Aside0 (verdererref02_Compare.j1 kq l0 l1 x5_1 x16_2 = some r) ∧ Aside0 (kq ≤ k1) ∧ Aside0 (Below w.heap.size w wc))
      case first =>
        have H := HC3.out
        clear HC3
        by_cases c4 : x5_1 < (l0.length : Int)
        · rw [if_pos c4] at H
          have c4b0 : decide (x5_1 < (l0.length : Int)) = true := decide_eq_true c4
          clear c4
          (first | rw [c4b0] | (simp only [i64_w,i32_w];rw [c4b0]) | skip)
          have H' := Aside0.mk H
          clear H
          go_wp2
          go_meet
          case rel => exact ⟨_,(decide (x5_1 < (l1.length : Int))),(by first | rfl | (simp;done) | (simp [*];done)),H',⟨by have := HK1.out;first | omega | exact Nat.le_refl _⟩,⟨by repeat (first | (with_reducible first | exact HB.out | apply below_alloc | apply pw_below_drewN | apply below_drew1) | exact HB.out)⟩⟩
        · rw [if_neg c4] at H
          have c4b0 : decide (x5_1 < (l0.length : Int)) = false := decide_eq_false c4
          clear c4
          (first | rw [c4b0] | (simp only [i64_w,i32_w];rw [c4b0]) | skip)
          have H' := Aside0.mk H
          clear H
          go_wp2
          go_meet
          case rel => exact ⟨_,(false),(by first | rfl | (simp;done) | (simp [*];done)),H',⟨by have := HK1.out;first | omega | exact Nat.le_refl _⟩,⟨by repeat (first | (with_reducible first | exact HB.out | apply below_alloc | apply pw_below_drewN | apply below_drew1) | exact HB.out)⟩⟩
      case rest =>
        clear HC3
        try clear c1
        try clear c2
        try clear p2
        try clear c4
        try clear c4b0
        try clear p2
        obtain ⟨kq,x16_2,rfl,HA,HJ2,HB⟩ := hcut
        cases kq with
        | zero => exact absurd HA.out (by simp [verdererref02_Compare.j1])
        | succ kj2 =>
          have H := HA.out
          clear HA
          simp only [verdererref02_Compare.j1] at H
          by_cases c5 : x16_2 = true
          · subst c5
            have H1 : (if 0 ≤ x5_1 then (if x5_1 < (l0.length : Int) then (if x5_1 < (l1.length : Int) then ((verdererref01_Compare.f kj2 ((rd_T50 l0 x5_1).f0) ((rd_T50 l0 x5_1).f1) ((rd_T50 l0 x5_1).f2) ((rd_T50 l0 x5_1).f3) ((rd_T50 l1 x5_1).f0) ((rd_T50 l1 x5_1).f1) ((rd_T50 l1 x5_1).f2) ((rd_T50 l1 x5_1).f3)).bind fun t301 => (if t301 = 0 then (verdererref02_Compare.l0 kj2 l0 l1 (wrap64 (x5_1 + 1))) else (some t301))) else (none)) else (none)) else (none)) = some r := by rw [if_pos rfl] at H;exact H
            clear H
            have H := H1
            clear H1
            by_cases c6 : 0 ≤ x5_1
            · rw [if_pos c6] at H
              have c6b0 : decide (0 ≤ x5_1) = true := decide_eq_true c6
              clear c6
              by_cases c7 : x5_1 < (l0.length : Int)
              · rw [if_pos c7] at H
                have c7b0 : decide (x5_1 < (l0.length : Int)) = true := decide_eq_true c7
                clear c7
                by_cases c8 : x5_1 < (l1.length : Int)
                · rw [if_pos c8] at H
                  have c8b0 : decide (x5_1 < (l1.length : Int)) = true := decide_eq_true c8
                  clear c8
                  replace H := Option.bind_eq_some_iff.mp H
                  obtain ⟨t301,A90,H⟩ := H
                  replace H : (if t301 = 0 then (verdererref02_Compare.l0 kj2 l0 l1 (wrap64 (x5_1 + 1))) else (some t301)) = some r := H
                  have A9 := Aside0.mk A90
                  clear A90
                  by_cases c10 : t301 = 0
                  · rw [if_pos c10] at H
                    have c10b0 : (t301 == 0) = true := beq_iff_eq.mpr c10
                    have c10b1 : (t301 != 0) = false := bne_eq_false_iff_eq.mpr c10
                    clear c10
                    have H' := Aside0.mk H
                    clear H
                    try go_wp2
                    have n0_ := Aside0.mk (below_drew1 HB.out)
                    clear HB
                    have HB := n0_
                    clear n0_
                    have p299 : 0 ≤ (x5_1 : Int) := of_decide_eq_true (by first | (with_reducible assumption) | assumption)
                    have q299 : x5_1 < (l0.length : Int) := of_decide_eq_true (by first | (with_reducible assumption) | assumption)
                    obtain ⟨ad299,e299,hx299_0,hx299_1,hx299_2,hx299_3⟩ := at_T50 HR0.out x5_1 p299 q299
                    have hw299_3 := hx299_3
                    have hw299_2 := hx299_2
                    have hw299_1 := hx299_1
                    have hw299_0 := hx299_0
                    cases e299
                    replace hx299_0 := (HB.out.cell (World.block_lt_of_cell? w _ hx299_0)).trans hx299_0
                    replace hx299_1 := (HB.out.cell (World.block_lt_of_cell? w _ hx299_1)).trans hx299_1
                    replace hx299_2 := (HB.out.cell (World.block_lt_of_cell? w _ hx299_2)).trans hx299_2
                    replace hx299_3 := (HB.out.cell (World.block_lt_of_cell? w _ hx299_3)).trans hx299_3
                    replace p299 := eq_true p299
                    replace q299 := eq_true q299
                    have p300 : 0 ≤ (x5_1 : Int) := of_decide_eq_true (by first | (with_reducible assumption) | assumption)
                    have q300 : x5_1 < (l1.length : Int) := of_decide_eq_true (by first | (with_reducible assumption) | assumption)
                    obtain ⟨ad300,e300,hx300_0,hx300_1,hx300_2,hx300_3⟩ := at_T50 HR1.out x5_1 p300 q300
                    have hw300_3 := hx300_3
                    have hw300_2 := hx300_2
                    have hw300_1 := hx300_1
                    have hw300_0 := hx300_0
                    cases e300
                    replace hx300_0 := (HB.out.cell (World.block_lt_of_cell? w _ hx300_0)).trans hx300_0
                    replace hx300_1 := (HB.out.cell (World.block_lt_of_cell? w _ hx300_1)).trans hx300_1
                    replace hx300_2 := (HB.out.cell (World.block_lt_of_cell? w _ hx300_2)).trans hx300_2
                    replace hx300_3 := (HB.out.cell (World.block_lt_of_cell? w _ hx300_3)).trans hx300_3
                    replace p300 := eq_true p300
                    replace q300 := eq_true q300
                    refine start_ (n := 10) (S := fun w' => w'.cell? (ad299.add ((x5_1).toNat * 4)) = some (.int .i64 ((rd_T50 l0 x5_1).f0)) ∧ w'.cell? ⟨(ad299.add ((x5_1).toNat * 4)).block,(ad299.add ((x5_1).toNat * 4)).off + 1,none⟩ = some (.bool ((rd_T50 l0 x5_1).f1)) ∧ w'.cell? ⟨(ad299.add ((x5_1).toNat * 4)).block,(ad299.add ((x5_1).toNat * 4)).off + 2,none⟩ = some (.int .i64 ((rd_T50 l0 x5_1).f2)) ∧ w'.cell? ⟨(ad299.add ((x5_1).toNat * 4)).block,(ad299.add ((x5_1).toNat * 4)).off + 3,none⟩ = some (.string ((rd_T50 l0 x5_1).f3)) ∧ w'.cell? (ad300.add ((x5_1).toNat * 4)) = some (.int .i64 ((rd_T50 l1 x5_1).f0)) ∧ w'.cell? ⟨(ad300.add ((x5_1).toNat * 4)).block,(ad300.add ((x5_1).toNat * 4)).off + 1,none⟩ = some (.bool ((rd_T50 l1 x5_1).f1)) ∧ w'.cell? ⟨(ad300.add ((x5_1).toNat * 4)).block,(ad300.add ((x5_1).toNat * 4)).off + 2,none⟩ = some (.int .i64 ((rd_T50 l1 x5_1).f2)) ∧ w'.cell? ⟨(ad300.add ((x5_1).toNat * 4)).block,(ad300.add ((x5_1).toNat * 4)).off + 3,none⟩ = some (.string ((rd_T50 l1 x5_1).f3))) (ds := []) #[false,false,false,false,false,false,false,false,false,false] (by kernel_rfl) rfl rfl ⟨((HB.out.cell (World.block_lt_of_cell? w _ hw299_0)).trans hw299_0),((HB.out.cell (World.block_lt_of_cell? w _ hw299_1)).trans hw299_1),((HB.out.cell (World.block_lt_of_cell? w _ hw299_2)).trans hw299_2),((HB.out.cell (World.block_lt_of_cell? w _ hw299_3)).trans hw299_3),((HB.out.cell (World.block_lt_of_cell? w _ hw300_0)).trans hw300_0),((HB.out.cell (World.block_lt_of_cell? w _ hw300_1)).trans hw300_1),((HB.out.cell (World.block_lt_of_cell? w _ hw300_2)).trans hw300_2),((HB.out.cell (World.block_lt_of_cell? w _ hw300_3)).trans hw300_3)⟩ (fun hHeld => ?_);refine with_tabW verdererref02_Compare.tab4 verdererref02_Compare.bits4 (fun HT_ HW_ => ?_)
                    generalize wc.drew = w11 at HB hx299_0 hx299_1 hx299_2 hx299_3 hx300_0 hx300_1 hx300_2 hx300_3 hHeld ⊢
                    refine pure_ (i := 0) (N := some 19) (v := ?_) (a' := ?_) #[true,false,false,false,false,false,false,false,false,false] rfl rfl (any_of HT_.out (by kernel_rfl)) (fun _ _ _ h => h) (Or.inl ⟨by rfl,?_⟩) ?_ ?_
                    rotate_left
                    · intro w'
                      go_simp
                      with_reducible rfl
                    rotate_left
                    · simp only [Act.put,zA,zB,zC,i64_w,i32_w]
                      rfl
                    refine pure_ (i := 1) (N := some 20) (v := ?_) (a' := ?_) #[true,true,false,false,false,false,false,false,false,false] rfl rfl (any_of HT_.out (by kernel_rfl)) (fun _ _ _ h => h) (Or.inl ⟨by rfl,?_⟩) ?_ ?_
                    rotate_left
                    · intro w'
                      go_simp
                      with_reducible rfl
                    rotate_left
                    · simp only [Act.put,zA,zB,zC,i64_w,i32_w]
                      rfl
                    refine pure_ (i := 2) (N := some 21) (v := ?_) (a' := ?_) #[true,true,true,false,false,false,false,false,false,false] rfl rfl (any_of HT_.out (by kernel_rfl)) (fun _ _ _ h => h) (Or.inl ⟨by rfl,?_⟩) ?_ ?_
                    rotate_left
                    · intro w'
                      go_simp
                      with_reducible rfl
                    rotate_left
                    · simp only [Act.put,zA,zB,zC,i64_w,i32_w]
                      rfl
                    refine pure_ (i := 4) (N := some 23) (v := ?_) (a' := ?_) #[true,true,true,false,true,false,false,false,false,false] rfl rfl (any_of HT_.out (by kernel_rfl)) (fun _ _ _ h => h) (Or.inl ⟨by rfl,?_⟩) ?_ ?_
                    rotate_left
                    · intro w'
                      go_simp
                      with_reducible rfl
                    rotate_left
                    · simp only [Act.put,zA,zB,zC,i64_w,i32_w]
                      rfl
                    refine pure_ (i := 5) (N := some 24) (v := ?_) (a' := ?_) #[true,true,true,false,true,true,false,false,false,false] rfl rfl (any_of HT_.out (by kernel_rfl)) (fun _ _ _ h => h) (Or.inl ⟨by rfl,?_⟩) ?_ ?_
                    rotate_left
                    · intro w'
                      go_simp
                      with_reducible rfl
                    rotate_left
                    · simp only [Act.put,zA,zB,zC,i64_w,i32_w]
                      rfl
                    refine pure_ (i := 6) (N := some 25) (v := ?_) (a' := ?_) #[true,true,true,false,true,true,true,false,false,false] rfl rfl (any_of HT_.out (by kernel_rfl)) (fun _ _ _ h => h) (Or.inl ⟨by rfl,?_⟩) ?_ ?_
                    rotate_left
                    · intro w'
                      go_simp
                      with_reducible rfl
                    rotate_left
                    · simp only [Act.put,zA,zB,zC,i64_w,i32_w]
                      rfl
                    refine take_ (i := 3) (N := some 22) (v := ?_) (a' := ?_) #[true,true,true,true,true,true,true,false,false,false] rfl rfl (take_ofW HT_.out HW_.out (by kernel_rfl)) (fun _ _ _ h => h) (Or.inl ⟨by rfl,?_⟩) hHeld ?_ ?_
                    rotate_left
                    · rintro w' ⟨s0,s1,s2,s3,s4,s5,s6,s7⟩
                      go_simp
                      with_reducible rfl
                    rotate_left
                    · simp only [Act.put,zA,zB,zC,i64_w,i32_w]
                      rfl
                    refine take_ (i := 7) (N := some 26) (v := ?_) (a' := ?_) #[true,true,true,true,true,true,true,true,false,false] rfl rfl (take_ofW HT_.out HW_.out (by kernel_rfl)) (fun _ _ _ h => h) (Or.inl ⟨by rfl,?_⟩) hHeld ?_ ?_
                    rotate_left
                    · rintro w' ⟨s0,s1,s2,s3,s4,s5,s6,s7⟩
                      go_simp
                      with_reducible rfl
                    rotate_left
                    · simp only [Act.put,zA,zB,zC,i64_w,i32_w]
                      rfl
                    refine one_ (i := 8) (N := some 27) #[true,true,true,true,true,true,true,true,true,false] rfl rfl (one_of HT_.out (by kernel_rfl)) (by decide) (fun K hK => ?_)
                    refine goes_ Try.func49 (by kernel_rfl) rfl #[.agg #[.int .i64 ((rd_T50 l0 x5_1).f0),.bool ((rd_T50 l0 x5_1).f1),.int .i64 ((rd_T50 l0 x5_1).f2),.string ((rd_T50 l0 x5_1).f3)],.agg #[.int .i64 ((rd_T50 l1 x5_1).f0),.bool ((rd_T50 l1 x5_1).f1),.int .i64 ((rd_T50 l1 x5_1).f2),.string ((rd_T50 l1 x5_1).f3)]] (by rfl) rfl rfl (by (try simp only [List.map_toArray,List.map_cons,List.map_nil]);first | done | rfl | (simp only [List.length_drop,List.length_take];rfl)) ?_
                    with_reducible refine (verdererref01_Compare.calls kj2 ((rd_T50 l0 x5_1).f0) ((rd_T50 l0 x5_1).f1) ((rd_T50 l0 x5_1).f2) ((rd_T50 l0 x5_1).f3) ((rd_T50 l1 x5_1).f0) ((rd_T50 l1 x5_1).f1) ((rd_T50 l1 x5_1).f2) ((rd_T50 l1 x5_1).f3) t301 _ A9.out).mono ?_
                    rintro e w12 ⟨rfl,hb⟩
                    refine ⟨_,rfl,?_⟩
                    have n0_ := Aside0.mk (below_step (by repeat (first | (with_reducible first | exact HB.out | apply below_alloc | apply pw_below_drewN | apply below_drew1) | exact HB.out)) hb)
                    clear HB
                    have HB := n0_
                    clear n0_
                    (try clear hb)
                    (try clear hb2)
                    (try clear hk)
                    (try clear hi)
                    refine hK.out _ _ ⟨((HB.out.cell (World.block_lt_of_cell? w _ hw299_0)).trans hw299_0),((HB.out.cell (World.block_lt_of_cell? w _ hw299_1)).trans hw299_1),((HB.out.cell (World.block_lt_of_cell? w _ hw299_2)).trans hw299_2),((HB.out.cell (World.block_lt_of_cell? w _ hw299_3)).trans hw299_3),((HB.out.cell (World.block_lt_of_cell? w _ hw300_0)).trans hw300_0),((HB.out.cell (World.block_lt_of_cell? w _ hw300_1)).trans hw300_1),((HB.out.cell (World.block_lt_of_cell? w _ hw300_2)).trans hw300_2),((HB.out.cell (World.block_lt_of_cell? w _ hw300_3)).trans hw300_3)⟩ (fun hHeld => ?_)
                    clear hK K
                    refine norm_ (a' := ?_) ?_ ?_
                    rotate_left
                    · show Act.put _ (some 27) _ = _
                      simp only [Act.put,zA,zB,zC,i64_w,i32_w]
                      rfl
                    refine pure_ (i := 9) (N := some 6) (v := ?_) (a' := ?_) #[true,true,true,true,true,true,true,true,true,true] rfl rfl (any_of HT_.out (by kernel_rfl)) (fun _ _ _ h => h) (Or.inl ⟨by rfl,?_⟩) ?_ ?_
                    rotate_left
                    · intro w'
                      go_simp
                      with_reducible rfl
                    rotate_left
                    · simp only [Act.put,zA,zB,zC,i64_w,i32_w]
                      rfl
                    refine done_ (done_of HT_.out (by kernel_rfl)) ?_
                    try go_wp2
                    go_roundg kj2
                    case measure => have := HK1.out;have := HJ2.out;omega
                    case rel => exact ⟨(wrap64 (x5_1 + 1)),(by first | rfl | (simp;done) | (simp [*];done)),H',⟨by have := HK1.out;have := HJ2.out;omega⟩,⟨by repeat (first | (with_reducible first | exact HB.out | apply below_alloc | apply pw_below_drewN | apply below_drew1) | exact HB.out)⟩⟩
                  · rw [if_neg c10] at H
                    have c10b0 : (t301 == 0) = false := beq_eq_false_iff_ne.mpr c10
                    have c10b1 : (t301 != 0) = true := bne_iff_ne.mpr c10
                    obtain rfl := Option.some.inj H
                    try go_wp2
                    have n0_ := Aside0.mk (below_drew1 HB.out)
                    clear HB
                    have HB := n0_
                    clear n0_
                    have p299 : 0 ≤ (x5_1 : Int) := of_decide_eq_true (by first | (with_reducible assumption) | assumption)
                    have q299 : x5_1 < (l0.length : Int) := of_decide_eq_true (by first | (with_reducible assumption) | assumption)
                    obtain ⟨ad299,e299,hx299_0,hx299_1,hx299_2,hx299_3⟩ := at_T50 HR0.out x5_1 p299 q299
                    have hw299_3 := hx299_3
                    have hw299_2 := hx299_2
                    have hw299_1 := hx299_1
                    have hw299_0 := hx299_0
                    cases e299
                    replace hx299_0 := (HB.out.cell (World.block_lt_of_cell? w _ hx299_0)).trans hx299_0
                    replace hx299_1 := (HB.out.cell (World.block_lt_of_cell? w _ hx299_1)).trans hx299_1
                    replace hx299_2 := (HB.out.cell (World.block_lt_of_cell? w _ hx299_2)).trans hx299_2
                    replace hx299_3 := (HB.out.cell (World.block_lt_of_cell? w _ hx299_3)).trans hx299_3
                    replace p299 := eq_true p299
                    replace q299 := eq_true q299
                    have p300 : 0 ≤ (x5_1 : Int) := of_decide_eq_true (by first | (with_reducible assumption) | assumption)
                    have q300 : x5_1 < (l1.length : Int) := of_decide_eq_true (by first | (with_reducible assumption) | assumption)
                    obtain ⟨ad300,e300,hx300_0,hx300_1,hx300_2,hx300_3⟩ := at_T50 HR1.out x5_1 p300 q300
                    have hw300_3 := hx300_3
                    have hw300_2 := hx300_2
                    have hw300_1 := hx300_1
                    have hw300_0 := hx300_0
                    cases e300
                    replace hx300_0 := (HB.out.cell (World.block_lt_of_cell? w _ hx300_0)).trans hx300_0
                    replace hx300_1 := (HB.out.cell (World.block_lt_of_cell? w _ hx300_1)).trans hx300_1
                    replace hx300_2 := (HB.out.cell (World.block_lt_of_cell? w _ hx300_2)).trans hx300_2
                    replace hx300_3 := (HB.out.cell (World.block_lt_of_cell? w _ hx300_3)).trans hx300_3
                    replace p300 := eq_true p300
                    replace q300 := eq_true q300
                    refine start_ (n := 10) (S := fun w' => w'.cell? (ad299.add ((x5_1).toNat * 4)) = some (.int .i64 ((rd_T50 l0 x5_1).f0)) ∧ w'.cell? ⟨(ad299.add ((x5_1).toNat * 4)).block,(ad299.add ((x5_1).toNat * 4)).off + 1,none⟩ = some (.bool ((rd_T50 l0 x5_1).f1)) ∧ w'.cell? ⟨(ad299.add ((x5_1).toNat * 4)).block,(ad299.add ((x5_1).toNat * 4)).off + 2,none⟩ = some (.int .i64 ((rd_T50 l0 x5_1).f2)) ∧ w'.cell? ⟨(ad299.add ((x5_1).toNat * 4)).block,(ad299.add ((x5_1).toNat * 4)).off + 3,none⟩ = some (.string ((rd_T50 l0 x5_1).f3)) ∧ w'.cell? (ad300.add ((x5_1).toNat * 4)) = some (.int .i64 ((rd_T50 l1 x5_1).f0)) ∧ w'.cell? ⟨(ad300.add ((x5_1).toNat * 4)).block,(ad300.add ((x5_1).toNat * 4)).off + 1,none⟩ = some (.bool ((rd_T50 l1 x5_1).f1)) ∧ w'.cell? ⟨(ad300.add ((x5_1).toNat * 4)).block,(ad300.add ((x5_1).toNat * 4)).off + 2,none⟩ = some (.int .i64 ((rd_T50 l1 x5_1).f2)) ∧ w'.cell? ⟨(ad300.add ((x5_1).toNat * 4)).block,(ad300.add ((x5_1).toNat * 4)).off + 3,none⟩ = some (.string ((rd_T50 l1 x5_1).f3))) (ds := []) #[false,false,false,false,false,false,false,false,false,false] (by kernel_rfl) rfl rfl ⟨((HB.out.cell (World.block_lt_of_cell? w _ hw299_0)).trans hw299_0),((HB.out.cell (World.block_lt_of_cell? w _ hw299_1)).trans hw299_1),((HB.out.cell (World.block_lt_of_cell? w _ hw299_2)).trans hw299_2),((HB.out.cell (World.block_lt_of_cell? w _ hw299_3)).trans hw299_3),((HB.out.cell (World.block_lt_of_cell? w _ hw300_0)).trans hw300_0),((HB.out.cell (World.block_lt_of_cell? w _ hw300_1)).trans hw300_1),((HB.out.cell (World.block_lt_of_cell? w _ hw300_2)).trans hw300_2),((HB.out.cell (World.block_lt_of_cell? w _ hw300_3)).trans hw300_3)⟩ (fun hHeld => ?_);refine with_tabW verdererref02_Compare.tab4 verdererref02_Compare.bits4 (fun HT_ HW_ => ?_)
                    generalize wc.drew = w13 at HB hx299_0 hx299_1 hx299_2 hx299_3 hx300_0 hx300_1 hx300_2 hx300_3 hHeld ⊢
                    refine pure_ (i := 0) (N := some 19) (v := ?_) (a' := ?_) #[true,false,false,false,false,false,false,false,false,false] rfl rfl (any_of HT_.out (by kernel_rfl)) (fun _ _ _ h => h) (Or.inl ⟨by rfl,?_⟩) ?_ ?_
                    rotate_left
                    · intro w'
                      go_simp
                      with_reducible rfl
                    rotate_left
                    · simp only [Act.put,zA,zB,zC,i64_w,i32_w]
                      rfl
                    refine pure_ (i := 1) (N := some 20) (v := ?_) (a' := ?_) #[true,true,false,false,false,false,false,false,false,false] rfl rfl (any_of HT_.out (by kernel_rfl)) (fun _ _ _ h => h) (Or.inl ⟨by rfl,?_⟩) ?_ ?_
                    rotate_left
                    · intro w'
                      go_simp
                      with_reducible rfl
                    rotate_left
                    · simp only [Act.put,zA,zB,zC,i64_w,i32_w]
                      rfl
                    refine pure_ (i := 2) (N := some 21) (v := ?_) (a' := ?_) #[true,true,true,false,false,false,false,false,false,false] rfl rfl (any_of HT_.out (by kernel_rfl)) (fun _ _ _ h => h) (Or.inl ⟨by rfl,?_⟩) ?_ ?_
                    rotate_left
                    · intro w'
                      go_simp
                      with_reducible rfl
                    rotate_left
                    · simp only [Act.put,zA,zB,zC,i64_w,i32_w]
                      rfl
                    refine pure_ (i := 4) (N := some 23) (v := ?_) (a' := ?_) #[true,true,true,false,true,false,false,false,false,false] rfl rfl (any_of HT_.out (by kernel_rfl)) (fun _ _ _ h => h) (Or.inl ⟨by rfl,?_⟩) ?_ ?_
                    rotate_left
                    · intro w'
                      go_simp
                      with_reducible rfl
                    rotate_left
                    · simp only [Act.put,zA,zB,zC,i64_w,i32_w]
                      rfl
                    refine pure_ (i := 5) (N := some 24) (v := ?_) (a' := ?_) #[true,true,true,false,true,true,false,false,false,false] rfl rfl (any_of HT_.out (by kernel_rfl)) (fun _ _ _ h => h) (Or.inl ⟨by rfl,?_⟩) ?_ ?_
                    rotate_left
                    · intro w'
                      go_simp
                      with_reducible rfl
                    rotate_left
                    · simp only [Act.put,zA,zB,zC,i64_w,i32_w]
                      rfl
                    refine pure_ (i := 6) (N := some 25) (v := ?_) (a' := ?_) #[true,true,true,false,true,true,true,false,false,false] rfl rfl (any_of HT_.out (by kernel_rfl)) (fun _ _ _ h => h) (Or.inl ⟨by rfl,?_⟩) ?_ ?_
                    rotate_left
                    · intro w'
                      go_simp
                      with_reducible rfl
                    rotate_left
                    · simp only [Act.put,zA,zB,zC,i64_w,i32_w]
                      rfl
                    refine take_ (i := 3) (N := some 22) (v := ?_) (a' := ?_) #[true,true,true,true,true,true,true,false,false,false] rfl rfl (take_ofW HT_.out HW_.out (by kernel_rfl)) (fun _ _ _ h => h) (Or.inl ⟨by rfl,?_⟩) hHeld ?_ ?_
                    rotate_left
                    · rintro w' ⟨s0,s1,s2,s3,s4,s5,s6,s7⟩
                      go_simp
                      with_reducible rfl
                    rotate_left
                    · simp only [Act.put,zA,zB,zC,i64_w,i32_w]
                      rfl
                    refine take_ (i := 7) (N := some 26) (v := ?_) (a' := ?_) #[true,true,true,true,true,true,true,true,false,false] rfl rfl (take_ofW HT_.out HW_.out (by kernel_rfl)) (fun _ _ _ h => h) (Or.inl ⟨by rfl,?_⟩) hHeld ?_ ?_
                    rotate_left
                    · rintro w' ⟨s0,s1,s2,s3,s4,s5,s6,s7⟩
                      go_simp
                      with_reducible rfl
                    rotate_left
                    · simp only [Act.put,zA,zB,zC,i64_w,i32_w]
                      rfl
                    refine one_ (i := 8) (N := some 27) #[true,true,true,true,true,true,true,true,true,false] rfl rfl (one_of HT_.out (by kernel_rfl)) (by decide) (fun K hK => ?_)
                    refine goes_ Try.func49 (by kernel_rfl) rfl #[.agg #[.int .i64 ((rd_T50 l0 x5_1).f0),.bool ((rd_T50 l0 x5_1).f1),.int .i64 ((rd_T50 l0 x5_1).f2),.string ((rd_T50 l0 x5_1).f3)],.agg #[.int .i64 ((rd_T50 l1 x5_1).f0),.bool ((rd_T50 l1 x5_1).f1),.int .i64 ((rd_T50 l1 x5_1).f2),.string ((rd_T50 l1 x5_1).f3)]] (by rfl) rfl rfl (by (try simp only [List.map_toArray,List.map_cons,List.map_nil]);first | done | rfl | (simp only [List.length_drop,List.length_take];rfl)) ?_
                    with_reducible refine (verdererref01_Compare.calls kj2 ((rd_T50 l0 x5_1).f0) ((rd_T50 l0 x5_1).f1) ((rd_T50 l0 x5_1).f2) ((rd_T50 l0 x5_1).f3) ((rd_T50 l1 x5_1).f0) ((rd_T50 l1 x5_1).f1) ((rd_T50 l1 x5_1).f2) ((rd_T50 l1 x5_1).f3) t301 _ A9.out).mono ?_
                    rintro e w14 ⟨rfl,hb⟩
                    refine ⟨_,rfl,?_⟩
                    have n0_ := Aside0.mk (below_step (by repeat (first | (with_reducible first | exact HB.out | apply below_alloc | apply pw_below_drewN | apply below_drew1) | exact HB.out)) hb)
                    clear HB
                    have HB := n0_
                    clear n0_
                    (try clear hb)
                    (try clear hb2)
                    (try clear hk)
                    (try clear hi)
                    refine hK.out _ _ ⟨((HB.out.cell (World.block_lt_of_cell? w _ hw299_0)).trans hw299_0),((HB.out.cell (World.block_lt_of_cell? w _ hw299_1)).trans hw299_1),((HB.out.cell (World.block_lt_of_cell? w _ hw299_2)).trans hw299_2),((HB.out.cell (World.block_lt_of_cell? w _ hw299_3)).trans hw299_3),((HB.out.cell (World.block_lt_of_cell? w _ hw300_0)).trans hw300_0),((HB.out.cell (World.block_lt_of_cell? w _ hw300_1)).trans hw300_1),((HB.out.cell (World.block_lt_of_cell? w _ hw300_2)).trans hw300_2),((HB.out.cell (World.block_lt_of_cell? w _ hw300_3)).trans hw300_3)⟩ (fun hHeld => ?_)
                    clear hK K
                    refine norm_ (a' := ?_) ?_ ?_
                    rotate_left
                    · show Act.put _ (some 27) _ = _
                      simp only [Act.put,zA,zB,zC,i64_w,i32_w]
                      rfl
                    refine pure_ (i := 9) (N := some 6) (v := ?_) (a' := ?_) #[true,true,true,true,true,true,true,true,true,true] rfl rfl (any_of HT_.out (by kernel_rfl)) (fun _ _ _ h => h) (Or.inl ⟨by rfl,?_⟩) ?_ ?_
                    rotate_left
                    · intro w'
                      go_simp
                      with_reducible rfl
                    rotate_left
                    · simp only [Act.put,zA,zB,zC,i64_w,i32_w]
                      rfl
                    refine done_ (done_of HT_.out (by kernel_rfl)) ?_
                    try go_wp2
                    go_ret
                    exact ⟨by first | rfl | (simp [errW_none,errW_some] <;> rfl) | (simp [*,errW_none,errW_some] <;> rfl),by repeat (first | (with_reducible first | exact HB.out | apply below_alloc | apply pw_below_drewN | apply below_drew1) | exact HB.out)⟩
                · rw [if_neg c8] at H
                  exact absurd H (by simp)
              · rw [if_neg c7] at H
                exact absurd H (by simp)
            · rw [if_neg c6] at H
              exact absurd H (by simp)
          · replace c5 := Bool.eq_false_iff.mpr c5
            subst c5
            have H1 : (if (l0.length : Int) < (l1.length : Int) then (some (-1)) else (if (l0.length : Int) > (l1.length : Int) then (some 1) else (some 0))) = some r := by rw [if_neg (show ¬ (false = true) by decide)] at H;exact H
            clear H
            have H := H1
            clear H1
            by_cases c15 : (l0.length : Int) < (l1.length : Int)
            · rw [if_pos c15] at H
              have c15b0 : decide ((l0.length : Int) < (l1.length : Int)) = true := decide_eq_true c15
              have c15b1 : decide (l0.length < l1.length) = true := decide_eq_true (Int.ofNat_lt.mp c15)
              clear c15
              obtain rfl := Option.some.inj H
              go_wp2
              go_ret
              exact ⟨by first | rfl | (simp [errW_none,errW_some] <;> rfl) | (simp [*,errW_none,errW_some] <;> rfl),by repeat (first | (with_reducible first | exact HB.out | apply below_alloc | apply pw_below_drewN | apply below_drew1) | exact HB.out)⟩
            · rw [if_neg c15] at H
              have c15b0 : decide ((l0.length : Int) < (l1.length : Int)) = false := decide_eq_false c15
              have c15b1 : decide (l0.length < l1.length) = false := decide_eq_false (fun h => c15 (Int.ofNat_lt.mpr h))
              clear c15
              by_cases c16 : (l0.length : Int) > (l1.length : Int)
              · rw [if_pos c16] at H
                have c16b0 : decide ((l1.length : Int) < (l0.length : Int)) = true := decide_eq_true c16
                have c16b1 : decide (l1.length < l0.length) = true := decide_eq_true (Int.ofNat_lt.mp c16)
                clear c16
                obtain rfl := Option.some.inj H
                go_wp2
                go_ret
                exact ⟨by first | rfl | (simp [errW_none,errW_some] <;> rfl) | (simp [*,errW_none,errW_some] <;> rfl),by repeat (first | (with_reducible first | exact HB.out | apply below_alloc | apply pw_below_drewN | apply below_drew1) | exact HB.out)⟩
              · rw [if_neg c16] at H
                have c16b0 : decide ((l1.length : Int) < (l0.length : Int)) = false := decide_eq_false c16
                have c16b1 : decide (l1.length < l0.length) = false := decide_eq_false (fun h => c16 (Int.ofNat_lt.mpr h))
                clear c16
                obtain rfl := Option.some.inj H
                go_wp2
                go_ret
                exact ⟨by first | rfl | (simp [errW_none,errW_some] <;> rfl) | (simp [*,errW_none,errW_some] <;> rfl),by repeat (first | (with_reducible first | exact HB.out | apply below_alloc | apply pw_below_drewN | apply below_drew1) | exact HB.out)⟩
end Go.Proofs.Ytfoaeigoajooeaa.Z
end
section
namespace Go.Proofs.Ytfoaeigoajooeaa.Z
open Go.RowKit Go.Proofs.YtfoaeigoajooeaaW.PrintWords Go.Proofs.YtfoaeigoajooeaaW.PrintLast Go.Proofs.YtfoaeigoajooeaaW.PrintMore
attribute [local go_sem] max2_int min2_int max_two min_two max_three min_three max_four min_four
set_option linter.unusedVariables false
set_option linter.unusedSimpArgs false
def cmp_isNaN_70.f (a0 : Int) : Option (Bool) := some (a0 != a0)
set_option maxHeartbeats 8000000 in
set_option maxRecDepth 100000 in
theorem cmp_isNaN_70.calls (a0 : Int) (r : Bool) (w : World) (h : cmp_isNaN_70.f a0 = some r) :
    Calls Try.prog 70 #[.int .i64 a0] w fun e w' => e = .returned (.bool r) ∧ Drawn0 w w' := by
  have H : (some (a0 != a0)) = some r := h
  clear h
  obtain rfl := Option.some.inj H
  go_enter Try.func70,Try.ntmps70
  go_wp2
  go_ret
  exact ⟨by first | rfl | (simp;done) | (simp [*];done),by repeat (first | exact Drawn0.refl _ | apply Drawn0.step)⟩
end Go.Proofs.Ytfoaeigoajooeaa.Z
end
section
namespace Go.Proofs.Ytfoaeigoajooeaa.Z
open Go.RowKit Go.Proofs.YtfoaeigoajooeaaW.PrintWords Go.Proofs.YtfoaeigoajooeaaW.PrintLast Go.Proofs.YtfoaeigoajooeaaW.PrintMore
attribute [local go_sem] max2_int min2_int max_two min_two max_three min_three max_four min_four
set_option linter.unusedVariables false
set_option linter.unusedSimpArgs false
def cmp_Compare_63.f (a0 : Int) (a1 : Int) : Option (Int) := (cmp_isNaN_70.f a0).bind fun t122 => ((cmp_isNaN_70.f a1).bind fun t123 => (if t122 = true then (if t123 = true then (some 0) else (some (-1))) else (if t123 = true then (some 1) else (if a0 < a1 then (some (-1)) else (if a0 > a1 then (some 1) else (some 0))))))
set_option maxHeartbeats 8000000 in
set_option maxRecDepth 100000 in
theorem cmp_Compare_63.calls (a0 : Int) (a1 : Int) (r : Int) (w : World) (h : cmp_Compare_63.f a0 a1 = some r) :
    Calls Try.prog 63 #[.int .i64 a0,.int .i64 a1] w fun e w' => e = .returned (.int .i64 r) ∧ Drawn0 w w' := by
  have H : ((cmp_isNaN_70.f a0).bind fun t122 => ((cmp_isNaN_70.f a1).bind fun t123 => (if t122 = true then (if t123 = true then (some 0) else (some (-1))) else (if t123 = true then (some 1) else (if a0 < a1 then (some (-1)) else (if a0 > a1 then (some 1) else (some 0))))))) = some r := h
  clear h
  replace H := Option.bind_eq_some_iff.mp H
  obtain ⟨t122,A30,H⟩ := H
  replace H : ((cmp_isNaN_70.f a1).bind fun t123 => (if t122 = true then (if t123 = true then (some 0) else (some (-1))) else (if t123 = true then (some 1) else (if a0 < a1 then (some (-1)) else (if a0 > a1 then (some 1) else (some 0)))))) = some r := H
  have A3 := Aside0.mk A30
  clear A30
  replace H := Option.bind_eq_some_iff.mp H
  obtain ⟨t123,A40,H⟩ := H
  replace H : (if t122 = true then (if t123 = true then (some 0) else (some (-1))) else (if t123 = true then (some 1) else (if a0 < a1 then (some (-1)) else (if a0 > a1 then (some 1) else (some 0))))) = some r := H
  have A4 := Aside0.mk A40
  clear A40
  by_cases c5 : t122 = true
  · subst c5
    have H1 : (if t123 = true then (some 0) else (some (-1))) = some r := by rw [if_pos rfl] at H;exact H
    clear H
    have H := H1
    clear H1
    by_cases c6 : t123 = true
    · subst c6
      have H1 : (some 0) = some r := by rw [if_pos rfl] at H;exact H
      clear H
      have H := H1
      clear H1
      obtain rfl := Option.some.inj H
      go_enter Try.func63,Try.ntmps63
      go_wp2_with (first | ((with_reducible refine gate_callee (f := 70) rfl ?_);refine goesL_ (some 8) rfl rfl Try.func70 (by kernel_rfl) rfl #[.int .i64 a0] rfl (by (try simp only [List.map_toArray,List.map_cons,List.map_nil]);first | done | rfl | (simp only [List.length_drop,List.length_take];rfl)) ?_;(with_reducible refine (cmp_isNaN_70.calls a0 true _ A3.out).mono ?_);rintro e w' ⟨rfl,⟨nd,rfl⟩⟩;refine ⟨_,rfl,?_⟩) | ((with_reducible refine gate_callee (f := 70) rfl ?_);refine goesL_ (some 10) rfl rfl Try.func70 (by kernel_rfl) rfl #[.int .i64 a1] rfl (by (try simp only [List.map_toArray,List.map_cons,List.map_nil]);first | done | rfl | (simp only [List.length_drop,List.length_take];rfl)) ?_;(with_reducible refine (cmp_isNaN_70.calls a1 true _ A4.out).mono ?_);rintro e w' ⟨rfl,⟨nd,rfl⟩⟩;refine ⟨_,rfl,?_⟩))
      go_ret
      exact ⟨by first | rfl | (simp;done) | (simp [*];done),by repeat (first | exact Drawn0.refl _ | apply Drawn0.step)⟩
    · replace c6 := Bool.eq_false_iff.mpr c6
      subst c6
      have H1 : (some (-1)) = some r := by rw [if_neg (show ¬ (false = true) by decide)] at H;exact H
      clear H
      have H := H1
      clear H1
      obtain rfl := Option.some.inj H
      go_enter Try.func63,Try.ntmps63
      go_wp2_with (first | ((with_reducible refine gate_callee (f := 70) rfl ?_);refine goesL_ (some 8) rfl rfl Try.func70 (by kernel_rfl) rfl #[.int .i64 a0] rfl (by (try simp only [List.map_toArray,List.map_cons,List.map_nil]);first | done | rfl | (simp only [List.length_drop,List.length_take];rfl)) ?_;(with_reducible refine (cmp_isNaN_70.calls a0 true _ A3.out).mono ?_);rintro e w' ⟨rfl,⟨nd,rfl⟩⟩;refine ⟨_,rfl,?_⟩) | ((with_reducible refine gate_callee (f := 70) rfl ?_);refine goesL_ (some 10) rfl rfl Try.func70 (by kernel_rfl) rfl #[.int .i64 a1] rfl (by (try simp only [List.map_toArray,List.map_cons,List.map_nil]);first | done | rfl | (simp only [List.length_drop,List.length_take];rfl)) ?_;(with_reducible refine (cmp_isNaN_70.calls a1 false _ A4.out).mono ?_);rintro e w' ⟨rfl,⟨nd,rfl⟩⟩;refine ⟨_,rfl,?_⟩))
      go_ret
      exact ⟨by first | rfl | (simp;done) | (simp [*];done),by repeat (first | exact Drawn0.refl _ | apply Drawn0.step)⟩
  · replace c5 := Bool.eq_false_iff.mpr c5
    subst c5
    have H1 : (if t123 = true then (some 1) else (if a0 < a1 then (some (-1)) else (if a0 > a1 then (some 1) else (some 0)))) = some r := by rw [if_neg (show ¬ (false = true) by decide)] at H;exact H
    clear H
    have H := H1
    clear H1
    by_cases c7 : t123 = true
    · subst c7
      have H1 : (some 1) = some r := by rw [if_pos rfl] at H;exact H
      clear H
      have H := H1
      clear H1
      obtain rfl := Option.some.inj H
      go_enter Try.func63,Try.ntmps63
      go_wp2_with (first | ((with_reducible refine gate_callee (f := 70) rfl ?_);refine goesL_ (some 8) rfl rfl Try.func70 (by kernel_rfl) rfl #[.int .i64 a0] rfl (by (try simp only [List.map_toArray,List.map_cons,List.map_nil]);first | done | rfl | (simp only [List.length_drop,List.length_take];rfl)) ?_;(with_reducible refine (cmp_isNaN_70.calls a0 false _ A3.out).mono ?_);rintro e w' ⟨rfl,⟨nd,rfl⟩⟩;refine ⟨_,rfl,?_⟩) | ((with_reducible refine gate_callee (f := 70) rfl ?_);refine goesL_ (some 10) rfl rfl Try.func70 (by kernel_rfl) rfl #[.int .i64 a1] rfl (by (try simp only [List.map_toArray,List.map_cons,List.map_nil]);first | done | rfl | (simp only [List.length_drop,List.length_take];rfl)) ?_;(with_reducible refine (cmp_isNaN_70.calls a1 true _ A4.out).mono ?_);rintro e w' ⟨rfl,⟨nd,rfl⟩⟩;refine ⟨_,rfl,?_⟩))
      go_ret
      exact ⟨by first | rfl | (simp;done) | (simp [*];done),by repeat (first | exact Drawn0.refl _ | apply Drawn0.step)⟩
    · replace c7 := Bool.eq_false_iff.mpr c7
      subst c7
      have H1 : (if a0 < a1 then (some (-1)) else (if a0 > a1 then (some 1) else (some 0))) = some r := by rw [if_neg (show ¬ (false = true) by decide)] at H;exact H
      clear H
      have H := H1
      clear H1
      by_cases c8 : a0 < a1
      · rw [if_pos c8] at H
        have c8b0 : decide (a0 < a1) = true := decide_eq_true c8
        clear c8
        obtain rfl := Option.some.inj H
        go_enter Try.func63,Try.ntmps63
        go_wp2_with (first | ((with_reducible refine gate_callee (f := 70) rfl ?_);refine goesL_ (some 8) rfl rfl Try.func70 (by kernel_rfl) rfl #[.int .i64 a0] rfl (by (try simp only [List.map_toArray,List.map_cons,List.map_nil]);first | done | rfl | (simp only [List.length_drop,List.length_take];rfl)) ?_;(with_reducible refine (cmp_isNaN_70.calls a0 false _ A3.out).mono ?_);rintro e w' ⟨rfl,⟨nd,rfl⟩⟩;refine ⟨_,rfl,?_⟩) | ((with_reducible refine gate_callee (f := 70) rfl ?_);refine goesL_ (some 10) rfl rfl Try.func70 (by kernel_rfl) rfl #[.int .i64 a1] rfl (by (try simp only [List.map_toArray,List.map_cons,List.map_nil]);first | done | rfl | (simp only [List.length_drop,List.length_take];rfl)) ?_;(with_reducible refine (cmp_isNaN_70.calls a1 false _ A4.out).mono ?_);rintro e w' ⟨rfl,⟨nd,rfl⟩⟩;refine ⟨_,rfl,?_⟩))
        go_ret
        exact ⟨by first | rfl | (simp;done) | (simp [*];done),by repeat (first | exact Drawn0.refl _ | apply Drawn0.step)⟩
      · rw [if_neg c8] at H
        have c8b0 : decide (a0 < a1) = false := decide_eq_false c8
        clear c8
        by_cases c9 : a0 > a1
        · rw [if_pos c9] at H
          have c9b0 : decide (a1 < a0) = true := decide_eq_true c9
          clear c9
          obtain rfl := Option.some.inj H
          go_enter Try.func63,Try.ntmps63
          go_wp2_with (first | ((with_reducible refine gate_callee (f := 70) rfl ?_);refine goesL_ (some 8) rfl rfl Try.func70 (by kernel_rfl) rfl #[.int .i64 a0] rfl (by (try simp only [List.map_toArray,List.map_cons,List.map_nil]);first | done | rfl | (simp only [List.length_drop,List.length_take];rfl)) ?_;(with_reducible refine (cmp_isNaN_70.calls a0 false _ A3.out).mono ?_);rintro e w' ⟨rfl,⟨nd,rfl⟩⟩;refine ⟨_,rfl,?_⟩) | ((with_reducible refine gate_callee (f := 70) rfl ?_);refine goesL_ (some 10) rfl rfl Try.func70 (by kernel_rfl) rfl #[.int .i64 a1] rfl (by (try simp only [List.map_toArray,List.map_cons,List.map_nil]);first | done | rfl | (simp only [List.length_drop,List.length_take];rfl)) ?_;(with_reducible refine (cmp_isNaN_70.calls a1 false _ A4.out).mono ?_);rintro e w' ⟨rfl,⟨nd,rfl⟩⟩;refine ⟨_,rfl,?_⟩))
          go_ret
          exact ⟨by first | rfl | (simp;done) | (simp [*];done),by repeat (first | exact Drawn0.refl _ | apply Drawn0.step)⟩
        · rw [if_neg c9] at H
          have c9b0 : decide (a1 < a0) = false := decide_eq_false c9
          clear c9
          obtain rfl := Option.some.inj H
          go_enter Try.func63,Try.ntmps63
          go_wp2_with (first | ((with_reducible refine gate_callee (f := 70) rfl ?_);refine goesL_ (some 8) rfl rfl Try.func70 (by kernel_rfl) rfl #[.int .i64 a0] rfl (by (try simp only [List.map_toArray,List.map_cons,List.map_nil]);first | done | rfl | (simp only [List.length_drop,List.length_take];rfl)) ?_;(with_reducible refine (cmp_isNaN_70.calls a0 false _ A3.out).mono ?_);rintro e w' ⟨rfl,⟨nd,rfl⟩⟩;refine ⟨_,rfl,?_⟩) | ((with_reducible refine gate_callee (f := 70) rfl ?_);refine goesL_ (some 10) rfl rfl Try.func70 (by kernel_rfl) rfl #[.int .i64 a1] rfl (by (try simp only [List.map_toArray,List.map_cons,List.map_nil]);first | done | rfl | (simp only [List.length_drop,List.length_take];rfl)) ?_;(with_reducible refine (cmp_isNaN_70.calls a1 false _ A4.out).mono ?_);rintro e w' ⟨rfl,⟨nd,rfl⟩⟩;refine ⟨_,rfl,?_⟩))
          go_ret
          exact ⟨by first | rfl | (simp;done) | (simp [*];done),by repeat (first | exact Drawn0.refl _ | apply Drawn0.step)⟩
end Go.Proofs.Ytfoaeigoajooeaa.Z
end
section
namespace Go.Proofs.Ytfoaeigoajooeaa.Z
open Go.RowKit Go.Proofs.YtfoaeigoajooeaaW.PrintWords Go.Proofs.YtfoaeigoajooeaaW.PrintLast Go.Proofs.YtfoaeigoajooeaaW.PrintMore
attribute [local go_sem] max2_int min2_int max_two min_two max_three min_three max_four min_four
set_option linter.unusedVariables false
set_option linter.unusedSimpArgs false
def value_truth.f (a0 : Bool) : Option (Int) := if a0 = true then (some 1) else (some 0)
set_option maxHeartbeats 8000000 in
set_option maxRecDepth 100000 in
theorem value_truth.calls (a0 : Bool) (r : Int) (w : World) (h : value_truth.f a0 = some r) :
    Calls Try.prog 64 #[.bool a0] w fun e w' => e = .returned (.int .i64 r) ∧ Drawn0 w w' := by
  have H : (if a0 = true then (some 1) else (some 0)) = some r := h
  clear h
  by_cases c2 : a0 = true
  · subst c2
    have H1 : (some 1) = some r := by rw [if_pos rfl] at H;exact H
    clear H
    have H := H1
    clear H1
    obtain rfl := Option.some.inj H
    go_enter Try.func64,Try.ntmps64
    go_wp2
    go_ret
    exact ⟨by first | rfl | (simp;done) | (simp [*];done),by repeat (first | exact Drawn0.refl _ | apply Drawn0.step)⟩
  · replace c2 := Bool.eq_false_iff.mpr c2
    subst c2
    have H1 : (some 0) = some r := by rw [if_neg (show ¬ (false = true) by decide)] at H;exact H
    clear H
    have H := H1
    clear H1
    obtain rfl := Option.some.inj H
    go_enter Try.func64,Try.ntmps64
    go_wp2
    go_ret
    exact ⟨by first | rfl | (simp;done) | (simp [*];done),by repeat (first | exact Drawn0.refl _ | apply Drawn0.step)⟩
end Go.Proofs.Ytfoaeigoajooeaa.Z
end
section
namespace Go.Proofs.Ytfoaeigoajooeaa.Z
open Go.RowKit Go.Proofs.YtfoaeigoajooeaaW.PrintWords Go.Proofs.YtfoaeigoajooeaaW.PrintLast Go.Proofs.YtfoaeigoajooeaaW.PrintMore
attribute [local go_sem] max2_int min2_int max_two min_two max_three min_three max_four min_four
set_option linter.unusedVariables false
set_option linter.unusedSimpArgs false
def cmp_isNaN_71.f (a0 : Int) : Option (Bool) := some (a0 != a0)
set_option maxHeartbeats 8000000 in
set_option maxRecDepth 100000 in
theorem cmp_isNaN_71.calls (a0 : Int) (r : Bool) (w : World) (h : cmp_isNaN_71.f a0 = some r) :
    Calls Try.prog 71 #[.int .i64 a0] w fun e w' => e = .returned (.bool r) ∧ Drawn0 w w' := by
  have H : (some (a0 != a0)) = some r := h
  clear h
  obtain rfl := Option.some.inj H
  go_enter Try.func71,Try.ntmps71
  go_wp2
  go_ret
  exact ⟨by first | rfl | (simp;done) | (simp [*];done),by repeat (first | exact Drawn0.refl _ | apply Drawn0.step)⟩
end Go.Proofs.Ytfoaeigoajooeaa.Z
end
section
namespace Go.Proofs.Ytfoaeigoajooeaa.Z
open Go.RowKit Go.Proofs.YtfoaeigoajooeaaW.PrintWords Go.Proofs.YtfoaeigoajooeaaW.PrintLast Go.Proofs.YtfoaeigoajooeaaW.PrintMore
attribute [local go_sem] max2_int min2_int max_two min_two max_three min_three max_four min_four
set_option linter.unusedVariables false
set_option linter.unusedSimpArgs false
def cmp_Compare_65.f (a0 : Int) (a1 : Int) : Option (Int) := (cmp_isNaN_71.f a0).bind fun t124 => ((cmp_isNaN_71.f a1).bind fun t125 => (if t124 = true then (if t125 = true then (some 0) else (some (-1))) else (if t125 = true then (some 1) else (if a0 < a1 then (some (-1)) else (if a0 > a1 then (some 1) else (some 0))))))
set_option maxHeartbeats 8000000 in
set_option maxRecDepth 100000 in
theorem cmp_Compare_65.calls (a0 : Int) (a1 : Int) (r : Int) (w : World) (h : cmp_Compare_65.f a0 a1 = some r) :
    Calls Try.prog 65 #[.int .i64 a0,.int .i64 a1] w fun e w' => e = .returned (.int .i64 r) ∧ Drawn0 w w' := by
  have H : ((cmp_isNaN_71.f a0).bind fun t124 => ((cmp_isNaN_71.f a1).bind fun t125 => (if t124 = true then (if t125 = true then (some 0) else (some (-1))) else (if t125 = true then (some 1) else (if a0 < a1 then (some (-1)) else (if a0 > a1 then (some 1) else (some 0))))))) = some r := h
  clear h
  replace H := Option.bind_eq_some_iff.mp H
  obtain ⟨t124,A30,H⟩ := H
  replace H : ((cmp_isNaN_71.f a1).bind fun t125 => (if t124 = true then (if t125 = true then (some 0) else (some (-1))) else (if t125 = true then (some 1) else (if a0 < a1 then (some (-1)) else (if a0 > a1 then (some 1) else (some 0)))))) = some r := H
  have A3 := Aside0.mk A30
  clear A30
  replace H := Option.bind_eq_some_iff.mp H
  obtain ⟨t125,A40,H⟩ := H
  replace H : (if t124 = true then (if t125 = true then (some 0) else (some (-1))) else (if t125 = true then (some 1) else (if a0 < a1 then (some (-1)) else (if a0 > a1 then (some 1) else (some 0))))) = some r := H
  have A4 := Aside0.mk A40
  clear A40
  by_cases c5 : t124 = true
  · subst c5
    have H1 : (if t125 = true then (some 0) else (some (-1))) = some r := by rw [if_pos rfl] at H;exact H
    clear H
    have H := H1
    clear H1
    by_cases c6 : t125 = true
    · subst c6
      have H1 : (some 0) = some r := by rw [if_pos rfl] at H;exact H
      clear H
      have H := H1
      clear H1
      obtain rfl := Option.some.inj H
      go_enter Try.func65,Try.ntmps65
      go_wp2_with (first | ((with_reducible refine gate_callee (f := 71) rfl ?_);refine goesL_ (some 8) rfl rfl Try.func71 (by kernel_rfl) rfl #[.int .i64 a0] rfl (by (try simp only [List.map_toArray,List.map_cons,List.map_nil]);first | done | rfl | (simp only [List.length_drop,List.length_take];rfl)) ?_;(with_reducible refine (cmp_isNaN_71.calls a0 true _ A3.out).mono ?_);rintro e w' ⟨rfl,⟨nd,rfl⟩⟩;refine ⟨_,rfl,?_⟩) | ((with_reducible refine gate_callee (f := 71) rfl ?_);refine goesL_ (some 10) rfl rfl Try.func71 (by kernel_rfl) rfl #[.int .i64 a1] rfl (by (try simp only [List.map_toArray,List.map_cons,List.map_nil]);first | done | rfl | (simp only [List.length_drop,List.length_take];rfl)) ?_;(with_reducible refine (cmp_isNaN_71.calls a1 true _ A4.out).mono ?_);rintro e w' ⟨rfl,⟨nd,rfl⟩⟩;refine ⟨_,rfl,?_⟩))
      go_ret
      exact ⟨by first | rfl | (simp;done) | (simp [*];done),by repeat (first | exact Drawn0.refl _ | apply Drawn0.step)⟩
    · replace c6 := Bool.eq_false_iff.mpr c6
      subst c6
      have H1 : (some (-1)) = some r := by rw [if_neg (show ¬ (false = true) by decide)] at H;exact H
      clear H
      have H := H1
      clear H1
      obtain rfl := Option.some.inj H
      go_enter Try.func65,Try.ntmps65
      go_wp2_with (first | ((with_reducible refine gate_callee (f := 71) rfl ?_);refine goesL_ (some 8) rfl rfl Try.func71 (by kernel_rfl) rfl #[.int .i64 a0] rfl (by (try simp only [List.map_toArray,List.map_cons,List.map_nil]);first | done | rfl | (simp only [List.length_drop,List.length_take];rfl)) ?_;(with_reducible refine (cmp_isNaN_71.calls a0 true _ A3.out).mono ?_);rintro e w' ⟨rfl,⟨nd,rfl⟩⟩;refine ⟨_,rfl,?_⟩) | ((with_reducible refine gate_callee (f := 71) rfl ?_);refine goesL_ (some 10) rfl rfl Try.func71 (by kernel_rfl) rfl #[.int .i64 a1] rfl (by (try simp only [List.map_toArray,List.map_cons,List.map_nil]);first | done | rfl | (simp only [List.length_drop,List.length_take];rfl)) ?_;(with_reducible refine (cmp_isNaN_71.calls a1 false _ A4.out).mono ?_);rintro e w' ⟨rfl,⟨nd,rfl⟩⟩;refine ⟨_,rfl,?_⟩))
      go_ret
      exact ⟨by first | rfl | (simp;done) | (simp [*];done),by repeat (first | exact Drawn0.refl _ | apply Drawn0.step)⟩
  · replace c5 := Bool.eq_false_iff.mpr c5
    subst c5
    have H1 : (if t125 = true then (some 1) else (if a0 < a1 then (some (-1)) else (if a0 > a1 then (some 1) else (some 0)))) = some r := by rw [if_neg (show ¬ (false = true) by decide)] at H;exact H
    clear H
    have H := H1
    clear H1
    by_cases c7 : t125 = true
    · subst c7
      have H1 : (some 1) = some r := by rw [if_pos rfl] at H;exact H
      clear H
      have H := H1
      clear H1
      obtain rfl := Option.some.inj H
      go_enter Try.func65,Try.ntmps65
      go_wp2_with (first | ((with_reducible refine gate_callee (f := 71) rfl ?_);refine goesL_ (some 8) rfl rfl Try.func71 (by kernel_rfl) rfl #[.int .i64 a0] rfl (by (try simp only [List.map_toArray,List.map_cons,List.map_nil]);first | done | rfl | (simp only [List.length_drop,List.length_take];rfl)) ?_;(with_reducible refine (cmp_isNaN_71.calls a0 false _ A3.out).mono ?_);rintro e w' ⟨rfl,⟨nd,rfl⟩⟩;refine ⟨_,rfl,?_⟩) | ((with_reducible refine gate_callee (f := 71) rfl ?_);refine goesL_ (some 10) rfl rfl Try.func71 (by kernel_rfl) rfl #[.int .i64 a1] rfl (by (try simp only [List.map_toArray,List.map_cons,List.map_nil]);first | done | rfl | (simp only [List.length_drop,List.length_take];rfl)) ?_;(with_reducible refine (cmp_isNaN_71.calls a1 true _ A4.out).mono ?_);rintro e w' ⟨rfl,⟨nd,rfl⟩⟩;refine ⟨_,rfl,?_⟩))
      go_ret
      exact ⟨by first | rfl | (simp;done) | (simp [*];done),by repeat (first | exact Drawn0.refl _ | apply Drawn0.step)⟩
    · replace c7 := Bool.eq_false_iff.mpr c7
      subst c7
      have H1 : (if a0 < a1 then (some (-1)) else (if a0 > a1 then (some 1) else (some 0))) = some r := by rw [if_neg (show ¬ (false = true) by decide)] at H;exact H
      clear H
      have H := H1
      clear H1
      by_cases c8 : a0 < a1
      · rw [if_pos c8] at H
        have c8b0 : decide (a0 < a1) = true := decide_eq_true c8
        clear c8
        obtain rfl := Option.some.inj H
        go_enter Try.func65,Try.ntmps65
        go_wp2_with (first | ((with_reducible refine gate_callee (f := 71) rfl ?_);refine goesL_ (some 8) rfl rfl Try.func71 (by kernel_rfl) rfl #[.int .i64 a0] rfl (by (try simp only [List.map_toArray,List.map_cons,List.map_nil]);first | done | rfl | (simp only [List.length_drop,List.length_take];rfl)) ?_;(with_reducible refine (cmp_isNaN_71.calls a0 false _ A3.out).mono ?_);rintro e w' ⟨rfl,⟨nd,rfl⟩⟩;refine ⟨_,rfl,?_⟩) | ((with_reducible refine gate_callee (f := 71) rfl ?_);refine goesL_ (some 10) rfl rfl Try.func71 (by kernel_rfl) rfl #[.int .i64 a1] rfl (by (try simp only [List.map_toArray,List.map_cons,List.map_nil]);first | done | rfl | (simp only [List.length_drop,List.length_take];rfl)) ?_;(with_reducible refine (cmp_isNaN_71.calls a1 false _ A4.out).mono ?_);rintro e w' ⟨rfl,⟨nd,rfl⟩⟩;refine ⟨_,rfl,?_⟩))
        go_ret
        exact ⟨by first | rfl | (simp;done) | (simp [*];done),by repeat (first | exact Drawn0.refl _ | apply Drawn0.step)⟩
      · rw [if_neg c8] at H
        have c8b0 : decide (a0 < a1) = false := decide_eq_false c8
        clear c8
        by_cases c9 : a0 > a1
        · rw [if_pos c9] at H
          have c9b0 : decide (a1 < a0) = true := decide_eq_true c9
          clear c9
          obtain rfl := Option.some.inj H
          go_enter Try.func65,Try.ntmps65
          go_wp2_with (first | ((with_reducible refine gate_callee (f := 71) rfl ?_);refine goesL_ (some 8) rfl rfl Try.func71 (by kernel_rfl) rfl #[.int .i64 a0] rfl (by (try simp only [List.map_toArray,List.map_cons,List.map_nil]);first | done | rfl | (simp only [List.length_drop,List.length_take];rfl)) ?_;(with_reducible refine (cmp_isNaN_71.calls a0 false _ A3.out).mono ?_);rintro e w' ⟨rfl,⟨nd,rfl⟩⟩;refine ⟨_,rfl,?_⟩) | ((with_reducible refine gate_callee (f := 71) rfl ?_);refine goesL_ (some 10) rfl rfl Try.func71 (by kernel_rfl) rfl #[.int .i64 a1] rfl (by (try simp only [List.map_toArray,List.map_cons,List.map_nil]);first | done | rfl | (simp only [List.length_drop,List.length_take];rfl)) ?_;(with_reducible refine (cmp_isNaN_71.calls a1 false _ A4.out).mono ?_);rintro e w' ⟨rfl,⟨nd,rfl⟩⟩;refine ⟨_,rfl,?_⟩))
          go_ret
          exact ⟨by first | rfl | (simp;done) | (simp [*];done),by repeat (first | exact Drawn0.refl _ | apply Drawn0.step)⟩
        · rw [if_neg c9] at H
          have c9b0 : decide (a1 < a0) = false := decide_eq_false c9
          clear c9
          obtain rfl := Option.some.inj H
          go_enter Try.func65,Try.ntmps65
          go_wp2_with (first | ((with_reducible refine gate_callee (f := 71) rfl ?_);refine goesL_ (some 8) rfl rfl Try.func71 (by kernel_rfl) rfl #[.int .i64 a0] rfl (by (try simp only [List.map_toArray,List.map_cons,List.map_nil]);first | done | rfl | (simp only [List.length_drop,List.length_take];rfl)) ?_;(with_reducible refine (cmp_isNaN_71.calls a0 false _ A3.out).mono ?_);rintro e w' ⟨rfl,⟨nd,rfl⟩⟩;refine ⟨_,rfl,?_⟩) | ((with_reducible refine gate_callee (f := 71) rfl ?_);refine goesL_ (some 10) rfl rfl Try.func71 (by kernel_rfl) rfl #[.int .i64 a1] rfl (by (try simp only [List.map_toArray,List.map_cons,List.map_nil]);first | done | rfl | (simp only [List.length_drop,List.length_take];rfl)) ?_;(with_reducible refine (cmp_isNaN_71.calls a1 false _ A4.out).mono ?_);rintro e w' ⟨rfl,⟨nd,rfl⟩⟩;refine ⟨_,rfl,?_⟩))
          go_ret
          exact ⟨by first | rfl | (simp;done) | (simp [*];done),by repeat (first | exact Drawn0.refl _ | apply Drawn0.step)⟩
end Go.Proofs.Ytfoaeigoajooeaa.Z
end
section
namespace Go.Proofs
open Go.Shelf
def Try.lays106_ren : Go.Shelf.Ren := ⟨fun | 106 => 66 | 213 => 72 | 265 => 75 | n => n,fun | 9 => 9 | 3 => 3 | n => n,fun | n => n⟩
theorem Try.lays106 : Go.Proofs.Lays.n106 Try.prog Try.lays106_ren := {
  mixed := by kernel_rfl
  f106 := Try.func66.trans (congrArg some (by kernel_rfl))
  f213 := Try.func72.trans (congrArg some (by kernel_rfl))
  f265 := Try.func75.trans (congrArg some (by kernel_rfl))
  t3 := Try.underlying3
  a3 := Try.isAgg3
  z3 := Try.sizeOf3
  v3 := Try.zeroValue3
  t9 := Try.underlying9
  a9 := Try.isAgg9
  z9 := Try.sizeOf9
  v9 := Try.zeroValue9 }
open Go.RowKit in
theorem Try.strings_Compare (a b : ByteArray) (w : World) :
    Calls Try.prog 66 #[.string a,.string b] w fun e w' => e = .returned (.int .i64 (Lib.compareBytes a.data.toList b.data.toList)) ∧ w' = w := Any.strings_Compare Try.lays106 a b w
end Go.Proofs
end
section
namespace Go.Proofs.Ytfoaeigoajooeaa.Z
open Go.RowKit
def strings_Compare.f (a0 a1 : ByteArray) : Option Int := some (Lib.compareBytes a0.data.toList a1.data.toList)
theorem strings_Compare.calls (a0 a1 : ByteArray) (r : Int) (w : World) (h : strings_Compare.f a0 a1 = some r) :
    Calls Try.prog 66 #[.string a0,.string a1] w fun e w' => e = .returned (.int .i64 r) ∧ Below w.heap.size w w' := by
  refine (Try.strings_Compare a0 a1 w).mono ?_
  rintro e w' ⟨rfl,rfl⟩
  obtain rfl := Option.some.inj h
  exact ⟨rfl,Below.refl _ _⟩
end Go.Proofs.Ytfoaeigoajooeaa.Z
end
section
namespace Go.Proofs.Ytfoaeigoajooeaa.Z
open Go.RowKit Go.Proofs.YtfoaeigoajooeaaW.PrintWords Go.Proofs.YtfoaeigoajooeaaW.PrintLast Go.Proofs.YtfoaeigoajooeaaW.PrintMore
attribute [local go_sem] max2_int min2_int max_two min_two max_three min_three max_four min_four
set_option linter.unusedVariables false
set_option linter.unusedSimpArgs false
def value_Compare.f (a0_0 : Int) (a0_1 : Bool) (a0_2 : Int) (a0_3 : ByteArray) (a1_0 : Int) (a1_1 : Bool) (a1_2 : Int) (a1_3 : ByteArray) : Option (Int) := if a0_0 = a1_0 then (if a0_0 = 1 then ((value_truth.f a0_1).bind fun t129 => ((value_truth.f a1_1).bind fun t130 => ((cmp_Compare_63.f t129 t130).bind fun t131 => (some t131)))) else (if a0_0 = 2 then ((cmp_Compare_65.f a0_2 a1_2).bind fun t132 => (some t132)) else (if a0_0 = 3 then ((strings_Compare.f a0_3 a1_3).bind fun t133 => (some t133)) else (some 0)))) else ((cmp_Compare_63.f a0_0 a1_0).bind fun t128 => (some t128))
set_option maxHeartbeats 8000000 in
set_option maxRecDepth 100000 in
theorem value_Compare.calls (a0_0 : Int) (a0_1 : Bool) (a0_2 : Int) (a0_3 : ByteArray) (a1_0 : Int) (a1_1 : Bool) (a1_2 : Int) (a1_3 : ByteArray) (r : Int) (w : World) (h : value_Compare.f a0_0 a0_1 a0_2 a0_3 a1_0 a1_1 a1_2 a1_3 = some r) :
    Calls Try.prog 46 #[.agg #[.int .i64 a0_0,.bool a0_1,.int .i64 a0_2,.string a0_3],.agg #[.int .i64 a1_0,.bool a1_1,.int .i64 a1_2,.string a1_3]] w fun e w' => e = .returned (.int .i64 r) ∧ Below w.heap.size w w' := by
  have hu50 := Try.underlying50
  have HB := Aside0.mk (Below.refl w.heap.size w)
  have H : (if a0_0 = a1_0 then (if a0_0 = 1 then ((value_truth.f a0_1).bind fun t129 => ((value_truth.f a1_1).bind fun t130 => ((cmp_Compare_63.f t129 t130).bind fun t131 => (some t131)))) else (if a0_0 = 2 then ((cmp_Compare_65.f a0_2 a1_2).bind fun t132 => (some t132)) else (if a0_0 = 3 then ((strings_Compare.f a0_3 a1_3).bind fun t133 => (some t133)) else (some 0)))) else ((cmp_Compare_63.f a0_0 a1_0).bind fun t128 => (some t128))) = some r := h
  clear h
  by_cases c3 : a0_0 = a1_0
  · rw [if_pos c3] at H
    have c3b0 : (a0_0 == a1_0) = true := beq_iff_eq.mpr c3
    have c3b1 : (a0_0 != a1_0) = false := bne_eq_false_iff_eq.mpr c3
    clear c3
    by_cases c4 : a0_0 = 1
    · rw [if_pos c4] at H
      have c4b0 : (a0_0 == 1) = true := beq_iff_eq.mpr c4
      have c4b1 : (a0_0 != 1) = false := bne_eq_false_iff_eq.mpr c4
      clear c4
      replace H := Option.bind_eq_some_iff.mp H
      obtain ⟨t129,A50,H⟩ := H
      replace H : ((value_truth.f a1_1).bind fun t130 => ((cmp_Compare_63.f t129 t130).bind fun t131 => (some t131))) = some r := H
      have A5 := Aside0.mk A50
      clear A50
      replace H := Option.bind_eq_some_iff.mp H
      obtain ⟨t130,A60,H⟩ := H
      replace H : ((cmp_Compare_63.f t129 t130).bind fun t131 => (some t131)) = some r := H
      have A6 := Aside0.mk A60
      clear A60
      replace H := Option.bind_eq_some_iff.mp H
      obtain ⟨t131,A70,H⟩ := H
      replace H : (some t131) = some r := H
      have A7 := Aside0.mk A70
      clear A70
      obtain rfl := Option.some.inj H
      go_enter Try.func46,Try.ntmps46
      go_wp2_with (first | ((with_reducible refine gate_dst (N := 2) rfl ?_);refine box_event ?hg (N := 2) ?hd (cs := #[.int .i64 a0_0,.bool a0_1,.int .i64 a0_2,.string a0_3]) (t := 50) ?hr ?_;(case hd => rfl);(case hg => rfl);(case hr => first | (go_simp;done) | (go_simp;rfl));intro gb126 hg w8 hbox hb;have n0_ := Aside0.mk (below_step (by repeat (first | (with_reducible first | exact HB.out | apply below_alloc | apply pw_below_drewN | apply below_drew1) | exact HB.out)) hb);have n1_ := Aside0.mk (hbox);have n2_ := Aside0.mk ((by rw [hg];exact (below_size (by repeat (first | (with_reducible first | exact HB.out | apply below_alloc | apply pw_below_drewN | apply below_drew1) | exact HB.out))) : w.heap.size ≤ gb126));have n3_ := Aside0.mk ((by rw [hg];exact (below_size (by repeat (first | (with_reducible first | exact HB.out | apply below_alloc | apply pw_below_drewN | apply below_drew1) | exact HB.out))) : w.heap.size ≤ gb126));clear HB;have HB := n0_;have BK126 := n1_;have GW126 := n2_;have GE126 := n3_;clear n0_ n1_ n2_ n3_;clear hb hbox hg) | ((with_reducible refine gate_dst (N := 3) rfl ?_);refine box_event ?hg (N := 3) ?hd (cs := #[.int .i64 a1_0,.bool a1_1,.int .i64 a1_2,.string a1_3]) (t := 50) ?hr ?_;(case hd => rfl);(case hg => rfl);(case hr => first | (go_simp;done) | (go_simp;rfl));intro gb127 hg w9 hbox hb;have n0_ := Aside0.mk (blk_below (g := gb126) (o := .cells #[.int .i64 a0_0,.bool a0_1,.int .i64 a0_2,.string a0_3] 50 (0,0)) (by (with_reducible repeat (first | refine blk_drewN ?_ _ | refine blk_drew ?_ | refine blk_alloc ?_ _));exact BK126.out) hb);have n1_ := Aside0.mk (below_step (by repeat (first | (with_reducible first | exact HB.out | apply below_alloc | apply pw_below_drewN | apply below_drew1 | refine below_set ?_ GE126.out) | exact HB.out)) hb);have n2_ := Aside0.mk (hbox);have n3_ := Aside0.mk ((by rw [hg];exact (below_size (by repeat (first | (with_reducible first | exact HB.out | apply below_alloc | apply pw_below_drewN | apply below_drew1 | refine below_set ?_ GE126.out) | exact HB.out))) : w.heap.size ≤ gb127));have n4_ := Aside0.mk ((by rw [hg];exact (below_size (by repeat (first | (with_reducible first | exact HB.out | apply below_alloc | apply pw_below_drewN | apply below_drew1 | refine below_set ?_ GE126.out) | exact HB.out))) : w.heap.size ≤ gb127));have n5_ := Aside0.mk ((by rw [hg];exact Nat.ne_of_lt (blk_lt (g := gb126) (o := .cells #[.int .i64 a0_0,.bool a0_1,.int .i64 a0_2,.string a0_3] 50 (0,0)) (by (with_reducible repeat (first | refine blk_drewN ?_ _ | refine blk_drew ?_ | refine blk_alloc ?_ _));exact BK126.out)) : gb126 ≠ gb127));have n6_ := Aside0.mk ((by rw [hg];exact Nat.ne_of_gt (blk_lt (g := gb126) (o := .cells #[.int .i64 a0_0,.bool a0_1,.int .i64 a0_2,.string a0_3] 50 (0,0)) (by (with_reducible repeat (first | refine blk_drewN ?_ _ | refine blk_drew ?_ | refine blk_alloc ?_ _));exact BK126.out)) : gb127 ≠ gb126));clear BK126;clear HB;have BK126 := n0_;have HB := n1_;have BK127 := n2_;have GW127 := n3_;have GE127 := n4_;have NB126_127 := n5_;have NB127_126 := n6_;clear n0_ n1_ n2_ n3_ n4_ n5_ n6_;clear hb hbox hg;have hnb10 := NB126_127.out;have hnc10 := NB127_126.out;have hcz11_0 : w9.cell? ⟨gb126,0,none⟩ = some (.int .i64 a0_0) := (blk_cell BK126.out 0).trans rfl;have hcz11_1 : w9.cell? ⟨gb126,1,none⟩ = some (.bool a0_1) := (blk_cell BK126.out 1).trans rfl;have hcz11_2 : w9.cell? ⟨gb126,2,none⟩ = some (.int .i64 a0_2) := (blk_cell BK126.out 2).trans rfl;have hcz11_3 : w9.cell? ⟨gb126,3,none⟩ = some (.string a0_3) := (blk_cell BK126.out 3).trans rfl;have hfz11_0 := blk_frozen BK126.out 0;have hfz11_1 := blk_frozen BK126.out 1;have hfz11_2 := blk_frozen BK126.out 2;have hfz11_3 := blk_frozen BK126.out 3;have hcz12_0 : w9.cell? ⟨gb127,0,none⟩ = some (.int .i64 a1_0) := (blk_cell BK127.out 0).trans rfl;have hcz12_1 : w9.cell? ⟨gb127,1,none⟩ = some (.bool a1_1) := (blk_cell BK127.out 1).trans rfl;have hcz12_2 : w9.cell? ⟨gb127,2,none⟩ = some (.int .i64 a1_2) := (blk_cell BK127.out 2).trans rfl;have hcz12_3 : w9.cell? ⟨gb127,3,none⟩ = some (.string a1_3) := (blk_cell BK127.out 3).trans rfl;have hfz12_0 := blk_frozen BK127.out 0;have hfz12_1 := blk_frozen BK127.out 1;have hfz12_2 := blk_frozen BK127.out 2;have hfz12_3 := blk_frozen BK127.out 3) | (go_at_call 64;(with_reducible refine (value_truth.calls a0_1 t129 _ A5.out).mono ?_);rintro e w' ⟨rfl,⟨nd,rfl⟩⟩;(try first | exact ⟨rfl,_,World.drewN_drewN _ _ _⟩ | exact ⟨rfl,_,Eq.trans (World.drewN_drewN _ _ _) (congrArg (World.drewN _) (Nat.add_assoc _ _ _))⟩)) | (go_at_call 64;(with_reducible refine (value_truth.calls a1_1 t130 _ A6.out).mono ?_);rintro e w' ⟨rfl,⟨nd,rfl⟩⟩;(try first | exact ⟨rfl,_,World.drewN_drewN _ _ _⟩ | exact ⟨rfl,_,Eq.trans (World.drewN_drewN _ _ _) (congrArg (World.drewN _) (Nat.add_assoc _ _ _))⟩)) | (go_at_call 63;(with_reducible refine (cmp_Compare_63.calls t129 t130 t131 _ A7.out).mono ?_);rintro e w' ⟨rfl,⟨nd,rfl⟩⟩;(try first | exact ⟨rfl,_,World.drewN_drewN _ _ _⟩ | exact ⟨rfl,_,Eq.trans (World.drewN_drewN _ _ _) (congrArg (World.drewN _) (Nat.add_assoc _ _ _))⟩)))
      repeat (go_quiet (first | ((with_reducible refine gate_dst (N := 2) rfl ?_);refine box_event ?hg (N := 2) ?hd (cs := #[.int .i64 a0_0,.bool a0_1,.int .i64 a0_2,.string a0_3]) (t := 50) ?hr ?_;(case hd => rfl);(case hg => rfl);(case hr => first | (go_simp;done) | (go_simp;rfl));intro gb126 hg w8 hbox hb;have n0_ := Aside0.mk (below_step (by repeat (first | (with_reducible first | exact HB.out | apply below_alloc | apply pw_below_drewN | apply below_drew1) | exact HB.out)) hb);have n1_ := Aside0.mk (hbox);have n2_ := Aside0.mk ((by rw [hg];exact (below_size (by repeat (first | (with_reducible first | exact HB.out | apply below_alloc | apply pw_below_drewN | apply below_drew1) | exact HB.out))) : w.heap.size ≤ gb126));have n3_ := Aside0.mk ((by rw [hg];exact (below_size (by repeat (first | (with_reducible first | exact HB.out | apply below_alloc | apply pw_below_drewN | apply below_drew1) | exact HB.out))) : w.heap.size ≤ gb126));clear HB;have HB := n0_;have BK126 := n1_;have GW126 := n2_;have GE126 := n3_;clear n0_ n1_ n2_ n3_;clear hb hbox hg) | ((with_reducible refine gate_dst (N := 3) rfl ?_);refine box_event ?hg (N := 3) ?hd (cs := #[.int .i64 a1_0,.bool a1_1,.int .i64 a1_2,.string a1_3]) (t := 50) ?hr ?_;(case hd => rfl);(case hg => rfl);(case hr => first | (go_simp;done) | (go_simp;rfl));intro gb127 hg w9 hbox hb;have n0_ := Aside0.mk (blk_below (g := gb126) (o := .cells #[.int .i64 a0_0,.bool a0_1,.int .i64 a0_2,.string a0_3] 50 (0,0)) (by (with_reducible repeat (first | refine blk_drewN ?_ _ | refine blk_drew ?_ | refine blk_alloc ?_ _));exact BK126.out) hb);have n1_ := Aside0.mk (below_step (by repeat (first | (with_reducible first | exact HB.out | apply below_alloc | apply pw_below_drewN | apply below_drew1 | refine below_set ?_ GE126.out) | exact HB.out)) hb);have n2_ := Aside0.mk (hbox);have n3_ := Aside0.mk ((by rw [hg];exact (below_size (by repeat (first | (with_reducible first | exact HB.out | apply below_alloc | apply pw_below_drewN | apply below_drew1 | refine below_set ?_ GE126.out) | exact HB.out))) : w.heap.size ≤ gb127));have n4_ := Aside0.mk ((by rw [hg];exact (below_size (by repeat (first | (with_reducible first | exact HB.out | apply below_alloc | apply pw_below_drewN | apply below_drew1 | refine below_set ?_ GE126.out) | exact HB.out))) : w.heap.size ≤ gb127));have n5_ := Aside0.mk ((by rw [hg];exact Nat.ne_of_lt (blk_lt (g := gb126) (o := .cells #[.int .i64 a0_0,.bool a0_1,.int .i64 a0_2,.string a0_3] 50 (0,0)) (by (with_reducible repeat (first | refine blk_drewN ?_ _ | refine blk_drew ?_ | refine blk_alloc ?_ _));exact BK126.out)) : gb126 ≠ gb127));have n6_ := Aside0.mk ((by rw [hg];exact Nat.ne_of_gt (blk_lt (g := gb126) (o := .cells #[.int .i64 a0_0,.bool a0_1,.int .i64 a0_2,.string a0_3] 50 (0,0)) (by (with_reducible repeat (first | refine blk_drewN ?_ _ | refine blk_drew ?_ | refine blk_alloc ?_ _));exact BK126.out)) : gb127 ≠ gb126));clear BK126;clear HB;have BK126 := n0_;have HB := n1_;have BK127 := n2_;have GW127 := n3_;have GE127 := n4_;have NB126_127 := n5_;have NB127_126 := n6_;clear n0_ n1_ n2_ n3_ n4_ n5_ n6_;clear hb hbox hg;have hnb10 := NB126_127.out;have hnc10 := NB127_126.out;have hcz11_0 : w9.cell? ⟨gb126,0,none⟩ = some (.int .i64 a0_0) := (blk_cell BK126.out 0).trans rfl;have hcz11_1 : w9.cell? ⟨gb126,1,none⟩ = some (.bool a0_1) := (blk_cell BK126.out 1).trans rfl;have hcz11_2 : w9.cell? ⟨gb126,2,none⟩ = some (.int .i64 a0_2) := (blk_cell BK126.out 2).trans rfl;have hcz11_3 : w9.cell? ⟨gb126,3,none⟩ = some (.string a0_3) := (blk_cell BK126.out 3).trans rfl;have hfz11_0 := blk_frozen BK126.out 0;have hfz11_1 := blk_frozen BK126.out 1;have hfz11_2 := blk_frozen BK126.out 2;have hfz11_3 := blk_frozen BK126.out 3;have hcz12_0 : w9.cell? ⟨gb127,0,none⟩ = some (.int .i64 a1_0) := (blk_cell BK127.out 0).trans rfl;have hcz12_1 : w9.cell? ⟨gb127,1,none⟩ = some (.bool a1_1) := (blk_cell BK127.out 1).trans rfl;have hcz12_2 : w9.cell? ⟨gb127,2,none⟩ = some (.int .i64 a1_2) := (blk_cell BK127.out 2).trans rfl;have hcz12_3 : w9.cell? ⟨gb127,3,none⟩ = some (.string a1_3) := (blk_cell BK127.out 3).trans rfl;have hfz12_0 := blk_frozen BK127.out 0;have hfz12_1 := blk_frozen BK127.out 1;have hfz12_2 := blk_frozen BK127.out 2;have hfz12_3 := blk_frozen BK127.out 3) | (go_at_call 64;(with_reducible refine (value_truth.calls a0_1 t129 _ A5.out).mono ?_);rintro e w' ⟨rfl,⟨nd,rfl⟩⟩;(try first | exact ⟨rfl,_,World.drewN_drewN _ _ _⟩ | exact ⟨rfl,_,Eq.trans (World.drewN_drewN _ _ _) (congrArg (World.drewN _) (Nat.add_assoc _ _ _))⟩)) | (go_at_call 64;(with_reducible refine (value_truth.calls a1_1 t130 _ A6.out).mono ?_);rintro e w' ⟨rfl,⟨nd,rfl⟩⟩;(try first | exact ⟨rfl,_,World.drewN_drewN _ _ _⟩ | exact ⟨rfl,_,Eq.trans (World.drewN_drewN _ _ _) (congrArg (World.drewN _) (Nat.add_assoc _ _ _))⟩)) | (go_at_call 63;(with_reducible refine (cmp_Compare_63.calls t129 t130 t131 _ A7.out).mono ?_);rintro e w' ⟨rfl,⟨nd,rfl⟩⟩;(try first | exact ⟨rfl,_,World.drewN_drewN _ _ _⟩ | exact ⟨rfl,_,Eq.trans (World.drewN_drewN _ _ _) (congrArg (World.drewN _) (Nat.add_assoc _ _ _))⟩)));try go_wp2_with (first | ((with_reducible refine gate_dst (N := 2) rfl ?_);refine box_event ?hg (N := 2) ?hd (cs := #[.int .i64 a0_0,.bool a0_1,.int .i64 a0_2,.string a0_3]) (t := 50) ?hr ?_;(case hd => rfl);(case hg => rfl);(case hr => first | (go_simp;done) | (go_simp;rfl));intro gb126 hg w8 hbox hb;have n0_ := Aside0.mk (below_step (by repeat (first | (with_reducible first | exact HB.out | apply below_alloc | apply pw_below_drewN | apply below_drew1) | exact HB.out)) hb);have n1_ := Aside0.mk (hbox);have n2_ := Aside0.mk ((by rw [hg];exact (below_size (by repeat (first | (with_reducible first | exact HB.out | apply below_alloc | apply pw_below_drewN | apply below_drew1) | exact HB.out))) : w.heap.size ≤ gb126));have n3_ := Aside0.mk ((by rw [hg];exact (below_size (by repeat (first | (with_reducible first | exact HB.out | apply below_alloc | apply pw_below_drewN | apply below_drew1) | exact HB.out))) : w.heap.size ≤ gb126));clear HB;have HB := n0_;have BK126 := n1_;have GW126 := n2_;have GE126 := n3_;clear n0_ n1_ n2_ n3_;clear hb hbox hg) | ((with_reducible refine gate_dst (N := 3) rfl ?_);refine box_event ?hg (N := 3) ?hd (cs := #[.int .i64 a1_0,.bool a1_1,.int .i64 a1_2,.string a1_3]) (t := 50) ?hr ?_;(case hd => rfl);(case hg => rfl);(case hr => first | (go_simp;done) | (go_simp;rfl));intro gb127 hg w9 hbox hb;have n0_ := Aside0.mk (blk_below (g := gb126) (o := .cells #[.int .i64 a0_0,.bool a0_1,.int .i64 a0_2,.string a0_3] 50 (0,0)) (by (with_reducible repeat (first | refine blk_drewN ?_ _ | refine blk_drew ?_ | refine blk_alloc ?_ _));exact BK126.out) hb);have n1_ := Aside0.mk (below_step (by repeat (first | (with_reducible first | exact HB.out | apply below_alloc | apply pw_below_drewN | apply below_drew1 | refine below_set ?_ GE126.out) | exact HB.out)) hb);have n2_ := Aside0.mk (hbox);have n3_ := Aside0.mk ((by rw [hg];exact (below_size (by repeat (first | (with_reducible first | exact HB.out | apply below_alloc | apply pw_below_drewN | apply below_drew1 | refine below_set ?_ GE126.out) | exact HB.out))) : w.heap.size ≤ gb127));have n4_ := Aside0.mk ((by rw [hg];exact (below_size (by repeat (first | (with_reducible first | exact HB.out | apply below_alloc | apply pw_below_drewN | apply below_drew1 | refine below_set ?_ GE126.out) | exact HB.out))) : w.heap.size ≤ gb127));have n5_ := Aside0.mk ((by rw [hg];exact Nat.ne_of_lt (blk_lt (g := gb126) (o := .cells #[.int .i64 a0_0,.bool a0_1,.int .i64 a0_2,.string a0_3] 50 (0,0)) (by (with_reducible repeat (first | refine blk_drewN ?_ _ | refine blk_drew ?_ | refine blk_alloc ?_ _));exact BK126.out)) : gb126 ≠ gb127));have n6_ := Aside0.mk ((by rw [hg];exact Nat.ne_of_gt (blk_lt (g := gb126) (o := .cells #[.int .i64 a0_0,.bool a0_1,.int .i64 a0_2,.string a0_3] 50 (0,0)) (by (with_reducible repeat (first | refine blk_drewN ?_ _ | refine blk_drew ?_ | refine blk_alloc ?_ _));exact BK126.out)) : gb127 ≠ gb126));clear BK126;clear HB;have BK126 := n0_;have HB := n1_;have BK127 := n2_;have GW127 := n3_;have GE127 := n4_;have NB126_127 := n5_;have NB127_126 := n6_;clear n0_ n1_ n2_ n3_ n4_ n5_ n6_;clear hb hbox hg;have hnb10 := NB126_127.out;have hnc10 := NB127_126.out;have hcz11_0 : w9.cell? ⟨gb126,0,none⟩ = some (.int .i64 a0_0) := (blk_cell BK126.out 0).trans rfl;have hcz11_1 : w9.cell? ⟨gb126,1,none⟩ = some (.bool a0_1) := (blk_cell BK126.out 1).trans rfl;have hcz11_2 : w9.cell? ⟨gb126,2,none⟩ = some (.int .i64 a0_2) := (blk_cell BK126.out 2).trans rfl;have hcz11_3 : w9.cell? ⟨gb126,3,none⟩ = some (.string a0_3) := (blk_cell BK126.out 3).trans rfl;have hfz11_0 := blk_frozen BK126.out 0;have hfz11_1 := blk_frozen BK126.out 1;have hfz11_2 := blk_frozen BK126.out 2;have hfz11_3 := blk_frozen BK126.out 3;have hcz12_0 : w9.cell? ⟨gb127,0,none⟩ = some (.int .i64 a1_0) := (blk_cell BK127.out 0).trans rfl;have hcz12_1 : w9.cell? ⟨gb127,1,none⟩ = some (.bool a1_1) := (blk_cell BK127.out 1).trans rfl;have hcz12_2 : w9.cell? ⟨gb127,2,none⟩ = some (.int .i64 a1_2) := (blk_cell BK127.out 2).trans rfl;have hcz12_3 : w9.cell? ⟨gb127,3,none⟩ = some (.string a1_3) := (blk_cell BK127.out 3).trans rfl;have hfz12_0 := blk_frozen BK127.out 0;have hfz12_1 := blk_frozen BK127.out 1;have hfz12_2 := blk_frozen BK127.out 2;have hfz12_3 := blk_frozen BK127.out 3) | (go_at_call 64;(with_reducible refine (value_truth.calls a0_1 t129 _ A5.out).mono ?_);rintro e w' ⟨rfl,⟨nd,rfl⟩⟩;(try first | exact ⟨rfl,_,World.drewN_drewN _ _ _⟩ | exact ⟨rfl,_,Eq.trans (World.drewN_drewN _ _ _) (congrArg (World.drewN _) (Nat.add_assoc _ _ _))⟩)) | (go_at_call 64;(with_reducible refine (value_truth.calls a1_1 t130 _ A6.out).mono ?_);rintro e w' ⟨rfl,⟨nd,rfl⟩⟩;(try first | exact ⟨rfl,_,World.drewN_drewN _ _ _⟩ | exact ⟨rfl,_,Eq.trans (World.drewN_drewN _ _ _) (congrArg (World.drewN _) (Nat.add_assoc _ _ _))⟩)) | (go_at_call 63;(with_reducible refine (cmp_Compare_63.calls t129 t130 t131 _ A7.out).mono ?_);rintro e w' ⟨rfl,⟨nd,rfl⟩⟩;(try first | exact ⟨rfl,_,World.drewN_drewN _ _ _⟩ | exact ⟨rfl,_,Eq.trans (World.drewN_drewN _ _ _) (congrArg (World.drewN _) (Nat.add_assoc _ _ _))⟩))))
      go_ret
      exact ⟨by first | rfl | (simp [errW_none,errW_some] <;> rfl) | (simp [*,errW_none,errW_some] <;> rfl),by repeat (first | (with_reducible first | exact HB.out | apply below_alloc | apply pw_below_drewN | apply below_drew1 | refine below_set ?_ GE126.out | refine below_set ?_ GE127.out) | exact HB.out)⟩
    · rw [if_neg c4] at H
      have c4b0 : (a0_0 == 1) = false := beq_eq_false_iff_ne.mpr c4
      have c4b1 : (a0_0 != 1) = true := bne_iff_ne.mpr c4
      by_cases c13 : a0_0 = 2
      · rw [if_pos c13] at H
        have c13b0 : (a0_0 == 2) = true := beq_iff_eq.mpr c13
        have c13b1 : (a0_0 != 2) = false := bne_eq_false_iff_eq.mpr c13
        clear c13
        replace H := Option.bind_eq_some_iff.mp H
        obtain ⟨t132,A140,H⟩ := H
        replace H : (some t132) = some r := H
        have A14 := Aside0.mk A140
        clear A140
        obtain rfl := Option.some.inj H
        go_enter Try.func46,Try.ntmps46
        go_wp2_with (first | ((with_reducible refine gate_dst (N := 2) rfl ?_);refine box_event ?hg (N := 2) ?hd (cs := #[.int .i64 a0_0,.bool a0_1,.int .i64 a0_2,.string a0_3]) (t := 50) ?hr ?_;(case hd => rfl);(case hg => rfl);(case hr => first | (go_simp;done) | (go_simp;rfl));intro gb126 hg w15 hbox hb;have n0_ := Aside0.mk (below_step (by repeat (first | (with_reducible first | exact HB.out | apply below_alloc | apply pw_below_drewN | apply below_drew1) | exact HB.out)) hb);have n1_ := Aside0.mk (hbox);have n2_ := Aside0.mk ((by rw [hg];exact (below_size (by repeat (first | (with_reducible first | exact HB.out | apply below_alloc | apply pw_below_drewN | apply below_drew1) | exact HB.out))) : w.heap.size ≤ gb126));have n3_ := Aside0.mk ((by rw [hg];exact (below_size (by repeat (first | (with_reducible first | exact HB.out | apply below_alloc | apply pw_below_drewN | apply below_drew1) | exact HB.out))) : w.heap.size ≤ gb126));clear HB;have HB := n0_;have BK126 := n1_;have GW126 := n2_;have GE126 := n3_;clear n0_ n1_ n2_ n3_;clear hb hbox hg) | ((with_reducible refine gate_dst (N := 3) rfl ?_);refine box_event ?hg (N := 3) ?hd (cs := #[.int .i64 a1_0,.bool a1_1,.int .i64 a1_2,.string a1_3]) (t := 50) ?hr ?_;(case hd => rfl);(case hg => rfl);(case hr => first | (go_simp;done) | (go_simp;rfl));intro gb127 hg w16 hbox hb;have n0_ := Aside0.mk (blk_below (g := gb126) (o := .cells #[.int .i64 a0_0,.bool a0_1,.int .i64 a0_2,.string a0_3] 50 (0,0)) (by (with_reducible repeat (first | refine blk_drewN ?_ _ | refine blk_drew ?_ | refine blk_alloc ?_ _));exact BK126.out) hb);have n1_ := Aside0.mk (below_step (by repeat (first | (with_reducible first | exact HB.out | apply below_alloc | apply pw_below_drewN | apply below_drew1 | refine below_set ?_ GE126.out) | exact HB.out)) hb);have n2_ := Aside0.mk (hbox);have n3_ := Aside0.mk ((by rw [hg];exact (below_size (by repeat (first | (with_reducible first | exact HB.out | apply below_alloc | apply pw_below_drewN | apply below_drew1 | refine below_set ?_ GE126.out) | exact HB.out))) : w.heap.size ≤ gb127));have n4_ := Aside0.mk ((by rw [hg];exact (below_size (by repeat (first | (with_reducible first | exact HB.out | apply below_alloc | apply pw_below_drewN | apply below_drew1 | refine below_set ?_ GE126.out) | exact HB.out))) : w.heap.size ≤ gb127));have n5_ := Aside0.mk ((by rw [hg];exact Nat.ne_of_lt (blk_lt (g := gb126) (o := .cells #[.int .i64 a0_0,.bool a0_1,.int .i64 a0_2,.string a0_3] 50 (0,0)) (by (with_reducible repeat (first | refine blk_drewN ?_ _ | refine blk_drew ?_ | refine blk_alloc ?_ _));exact BK126.out)) : gb126 ≠ gb127));have n6_ := Aside0.mk ((by rw [hg];exact Nat.ne_of_gt (blk_lt (g := gb126) (o := .cells #[.int .i64 a0_0,.bool a0_1,.int .i64 a0_2,.string a0_3] 50 (0,0)) (by (with_reducible repeat (first | refine blk_drewN ?_ _ | refine blk_drew ?_ | refine blk_alloc ?_ _));exact BK126.out)) : gb127 ≠ gb126));clear BK126;clear HB;have BK126 := n0_;have HB := n1_;have BK127 := n2_;have GW127 := n3_;have GE127 := n4_;have NB126_127 := n5_;have NB127_126 := n6_;clear n0_ n1_ n2_ n3_ n4_ n5_ n6_;clear hb hbox hg;have hnb17 := NB126_127.out;have hnc17 := NB127_126.out;have hcz18_0 : w16.cell? ⟨gb126,0,none⟩ = some (.int .i64 a0_0) := (blk_cell BK126.out 0).trans rfl;have hcz18_1 : w16.cell? ⟨gb126,1,none⟩ = some (.bool a0_1) := (blk_cell BK126.out 1).trans rfl;have hcz18_2 : w16.cell? ⟨gb126,2,none⟩ = some (.int .i64 a0_2) := (blk_cell BK126.out 2).trans rfl;have hcz18_3 : w16.cell? ⟨gb126,3,none⟩ = some (.string a0_3) := (blk_cell BK126.out 3).trans rfl;have hfz18_0 := blk_frozen BK126.out 0;have hfz18_1 := blk_frozen BK126.out 1;have hfz18_2 := blk_frozen BK126.out 2;have hfz18_3 := blk_frozen BK126.out 3;have hcz19_0 : w16.cell? ⟨gb127,0,none⟩ = some (.int .i64 a1_0) := (blk_cell BK127.out 0).trans rfl;have hcz19_1 : w16.cell? ⟨gb127,1,none⟩ = some (.bool a1_1) := (blk_cell BK127.out 1).trans rfl;have hcz19_2 : w16.cell? ⟨gb127,2,none⟩ = some (.int .i64 a1_2) := (blk_cell BK127.out 2).trans rfl;have hcz19_3 : w16.cell? ⟨gb127,3,none⟩ = some (.string a1_3) := (blk_cell BK127.out 3).trans rfl;have hfz19_0 := blk_frozen BK127.out 0;have hfz19_1 := blk_frozen BK127.out 1;have hfz19_2 := blk_frozen BK127.out 2;have hfz19_3 := blk_frozen BK127.out 3) | (go_at_call 65;(with_reducible refine (cmp_Compare_65.calls a0_2 a1_2 t132 _ A14.out).mono ?_);rintro e w' ⟨rfl,⟨nd,rfl⟩⟩;(try first | exact ⟨rfl,_,World.drewN_drewN _ _ _⟩ | exact ⟨rfl,_,Eq.trans (World.drewN_drewN _ _ _) (congrArg (World.drewN _) (Nat.add_assoc _ _ _))⟩)))
        repeat (go_quiet (first | ((with_reducible refine gate_dst (N := 2) rfl ?_);refine box_event ?hg (N := 2) ?hd (cs := #[.int .i64 a0_0,.bool a0_1,.int .i64 a0_2,.string a0_3]) (t := 50) ?hr ?_;(case hd => rfl);(case hg => rfl);(case hr => first | (go_simp;done) | (go_simp;rfl));intro gb126 hg w15 hbox hb;have n0_ := Aside0.mk (below_step (by repeat (first | (with_reducible first | exact HB.out | apply below_alloc | apply pw_below_drewN | apply below_drew1) | exact HB.out)) hb);have n1_ := Aside0.mk (hbox);have n2_ := Aside0.mk ((by rw [hg];exact (below_size (by repeat (first | (with_reducible first | exact HB.out | apply below_alloc | apply pw_below_drewN | apply below_drew1) | exact HB.out))) : w.heap.size ≤ gb126));have n3_ := Aside0.mk ((by rw [hg];exact (below_size (by repeat (first | (with_reducible first | exact HB.out | apply below_alloc | apply pw_below_drewN | apply below_drew1) | exact HB.out))) : w.heap.size ≤ gb126));clear HB;have HB := n0_;have BK126 := n1_;have GW126 := n2_;have GE126 := n3_;clear n0_ n1_ n2_ n3_;clear hb hbox hg) | ((with_reducible refine gate_dst (N := 3) rfl ?_);refine box_event ?hg (N := 3) ?hd (cs := #[.int .i64 a1_0,.bool a1_1,.int .i64 a1_2,.string a1_3]) (t := 50) ?hr ?_;(case hd => rfl);(case hg => rfl);(case hr => first | (go_simp;done) | (go_simp;rfl));intro gb127 hg w16 hbox hb;have n0_ := Aside0.mk (blk_below (g := gb126) (o := .cells #[.int .i64 a0_0,.bool a0_1,.int .i64 a0_2,.string a0_3] 50 (0,0)) (by (with_reducible repeat (first | refine blk_drewN ?_ _ | refine blk_drew ?_ | refine blk_alloc ?_ _));exact BK126.out) hb);have n1_ := Aside0.mk (below_step (by repeat (first | (with_reducible first | exact HB.out | apply below_alloc | apply pw_below_drewN | apply below_drew1 | refine below_set ?_ GE126.out) | exact HB.out)) hb);have n2_ := Aside0.mk (hbox);have n3_ := Aside0.mk ((by rw [hg];exact (below_size (by repeat (first | (with_reducible first | exact HB.out | apply below_alloc | apply pw_below_drewN | apply below_drew1 | refine below_set ?_ GE126.out) | exact HB.out))) : w.heap.size ≤ gb127));have n4_ := Aside0.mk ((by rw [hg];exact (below_size (by repeat (first | (with_reducible first | exact HB.out | apply below_alloc | apply pw_below_drewN | apply below_drew1 | refine below_set ?_ GE126.out) | exact HB.out))) : w.heap.size ≤ gb127));have n5_ := Aside0.mk ((by rw [hg];exact Nat.ne_of_lt (blk_lt (g := gb126) (o := .cells #[.int .i64 a0_0,.bool a0_1,.int .i64 a0_2,.string a0_3] 50 (0,0)) (by (with_reducible repeat (first | refine blk_drewN ?_ _ | refine blk_drew ?_ | refine blk_alloc ?_ _));exact BK126.out)) : gb126 ≠ gb127));have n6_ := Aside0.mk ((by rw [hg];exact Nat.ne_of_gt (blk_lt (g := gb126) (o := .cells #[.int .i64 a0_0,.bool a0_1,.int .i64 a0_2,.string a0_3] 50 (0,0)) (by (with_reducible repeat (first | refine blk_drewN ?_ _ | refine blk_drew ?_ | refine blk_alloc ?_ _));exact BK126.out)) : gb127 ≠ gb126));clear BK126;clear HB;have BK126 := n0_;have HB := n1_;have BK127 := n2_;have GW127 := n3_;have GE127 := n4_;have NB126_127 := n5_;have NB127_126 := n6_;clear n0_ n1_ n2_ n3_ n4_ n5_ n6_;clear hb hbox hg;have hnb17 := NB126_127.out;have hnc17 := NB127_126.out;have hcz18_0 : w16.cell? ⟨gb126,0,none⟩ = some (.int .i64 a0_0) := (blk_cell BK126.out 0).trans rfl;have hcz18_1 : w16.cell? ⟨gb126,1,none⟩ = some (.bool a0_1) := (blk_cell BK126.out 1).trans rfl;have hcz18_2 : w16.cell? ⟨gb126,2,none⟩ = some (.int .i64 a0_2) := (blk_cell BK126.out 2).trans rfl;have hcz18_3 : w16.cell? ⟨gb126,3,none⟩ = some (.string a0_3) := (blk_cell BK126.out 3).trans rfl;have hfz18_0 := blk_frozen BK126.out 0;have hfz18_1 := blk_frozen BK126.out 1;have hfz18_2 := blk_frozen BK126.out 2;have hfz18_3 := blk_frozen BK126.out 3;have hcz19_0 : w16.cell? ⟨gb127,0,none⟩ = some (.int .i64 a1_0) := (blk_cell BK127.out 0).trans rfl;have hcz19_1 : w16.cell? ⟨gb127,1,none⟩ = some (.bool a1_1) := (blk_cell BK127.out 1).trans rfl;have hcz19_2 : w16.cell? ⟨gb127,2,none⟩ = some (.int .i64 a1_2) := (blk_cell BK127.out 2).trans rfl;have hcz19_3 : w16.cell? ⟨gb127,3,none⟩ = some (.string a1_3) := (blk_cell BK127.out 3).trans rfl;have hfz19_0 := blk_frozen BK127.out 0;have hfz19_1 := blk_frozen BK127.out 1;have hfz19_2 := blk_frozen BK127.out 2;have hfz19_3 := blk_frozen BK127.out 3) | (go_at_call 65;(with_reducible refine (cmp_Compare_65.calls a0_2 a1_2 t132 _ A14.out).mono ?_);rintro e w' ⟨rfl,⟨nd,rfl⟩⟩;(try first | exact ⟨rfl,_,World.drewN_drewN _ _ _⟩ | exact ⟨rfl,_,Eq.trans (World.drewN_drewN _ _ _) (congrArg (World.drewN _) (Nat.add_assoc _ _ _))⟩)));try go_wp2_with (first | ((with_reducible refine gate_dst (N := 2) rfl ?_);refine box_event ?hg (N := 2) ?hd (cs := #[.int .i64 a0_0,.bool a0_1,.int .i64 a0_2,.string a0_3]) (t := 50) ?hr ?_;(case hd => rfl);(case hg => rfl);(case hr => first | (go_simp;done) | (go_simp;rfl));intro gb126 hg w15 hbox hb;have n0_ := Aside0.mk (below_step (by repeat (first | (with_reducible first | exact HB.out | apply below_alloc | apply pw_below_drewN | apply below_drew1) | exact HB.out)) hb);have n1_ := Aside0.mk (hbox);have n2_ := Aside0.mk ((by rw [hg];exact (below_size (by repeat (first | (with_reducible first | exact HB.out | apply below_alloc | apply pw_below_drewN | apply below_drew1) | exact HB.out))) : w.heap.size ≤ gb126));have n3_ := Aside0.mk ((by rw [hg];exact (below_size (by repeat (first | (with_reducible first | exact HB.out | apply below_alloc | apply pw_below_drewN | apply below_drew1) | exact HB.out))) : w.heap.size ≤ gb126));clear HB;have HB := n0_;have BK126 := n1_;have GW126 := n2_;have GE126 := n3_;clear n0_ n1_ n2_ n3_;clear hb hbox hg) | ((with_reducible refine gate_dst (N := 3) rfl ?_);refine box_event ?hg (N := 3) ?hd (cs := #[.int .i64 a1_0,.bool a1_1,.int .i64 a1_2,.string a1_3]) (t := 50) ?hr ?_;(case hd => rfl);(case hg => rfl);(case hr => first | (go_simp;done) | (go_simp;rfl));intro gb127 hg w16 hbox hb;have n0_ := Aside0.mk (blk_below (g := gb126) (o := .cells #[.int .i64 a0_0,.bool a0_1,.int .i64 a0_2,.string a0_3] 50 (0,0)) (by (with_reducible repeat (first | refine blk_drewN ?_ _ | refine blk_drew ?_ | refine blk_alloc ?_ _));exact BK126.out) hb);have n1_ := Aside0.mk (below_step (by repeat (first | (with_reducible first | exact HB.out | apply below_alloc | apply pw_below_drewN | apply below_drew1 | refine below_set ?_ GE126.out) | exact HB.out)) hb);have n2_ := Aside0.mk (hbox);have n3_ := Aside0.mk ((by rw [hg];exact (below_size (by repeat (first | (with_reducible first | exact HB.out | apply below_alloc | apply pw_below_drewN | apply below_drew1 | refine below_set ?_ GE126.out) | exact HB.out))) : w.heap.size ≤ gb127));have n4_ := Aside0.mk ((by rw [hg];exact (below_size (by repeat (first | (with_reducible first | exact HB.out | apply below_alloc | apply pw_below_drewN | apply below_drew1 | refine below_set ?_ GE126.out) | exact HB.out))) : w.heap.size ≤ gb127));have n5_ := Aside0.mk ((by rw [hg];exact Nat.ne_of_lt (blk_lt (g := gb126) (o := .cells #[.int .i64 a0_0,.bool a0_1,.int .i64 a0_2,.string a0_3] 50 (0,0)) (by (with_reducible repeat (first | refine blk_drewN ?_ _ | refine blk_drew ?_ | refine blk_alloc ?_ _));exact BK126.out)) : gb126 ≠ gb127));have n6_ := Aside0.mk ((by rw [hg];exact Nat.ne_of_gt (blk_lt (g := gb126) (o := .cells #[.int .i64 a0_0,.bool a0_1,.int .i64 a0_2,.string a0_3] 50 (0,0)) (by (with_reducible repeat (first | refine blk_drewN ?_ _ | refine blk_drew ?_ | refine blk_alloc ?_ _));exact BK126.out)) : gb127 ≠ gb126));clear BK126;clear HB;have BK126 := n0_;have HB := n1_;have BK127 := n2_;have GW127 := n3_;have GE127 := n4_;have NB126_127 := n5_;have NB127_126 := n6_;clear n0_ n1_ n2_ n3_ n4_ n5_ n6_;clear hb hbox hg;have hnb17 := NB126_127.out;have hnc17 := NB127_126.out;have hcz18_0 : w16.cell? ⟨gb126,0,none⟩ = some (.int .i64 a0_0) := (blk_cell BK126.out 0).trans rfl;have hcz18_1 : w16.cell? ⟨gb126,1,none⟩ = some (.bool a0_1) := (blk_cell BK126.out 1).trans rfl;have hcz18_2 : w16.cell? ⟨gb126,2,none⟩ = some (.int .i64 a0_2) := (blk_cell BK126.out 2).trans rfl;have hcz18_3 : w16.cell? ⟨gb126,3,none⟩ = some (.string a0_3) := (blk_cell BK126.out 3).trans rfl;have hfz18_0 := blk_frozen BK126.out 0;have hfz18_1 := blk_frozen BK126.out 1;have hfz18_2 := blk_frozen BK126.out 2;have hfz18_3 := blk_frozen BK126.out 3;have hcz19_0 : w16.cell? ⟨gb127,0,none⟩ = some (.int .i64 a1_0) := (blk_cell BK127.out 0).trans rfl;have hcz19_1 : w16.cell? ⟨gb127,1,none⟩ = some (.bool a1_1) := (blk_cell BK127.out 1).trans rfl;have hcz19_2 : w16.cell? ⟨gb127,2,none⟩ = some (.int .i64 a1_2) := (blk_cell BK127.out 2).trans rfl;have hcz19_3 : w16.cell? ⟨gb127,3,none⟩ = some (.string a1_3) := (blk_cell BK127.out 3).trans rfl;have hfz19_0 := blk_frozen BK127.out 0;have hfz19_1 := blk_frozen BK127.out 1;have hfz19_2 := blk_frozen BK127.out 2;have hfz19_3 := blk_frozen BK127.out 3) | (go_at_call 65;(with_reducible refine (cmp_Compare_65.calls a0_2 a1_2 t132 _ A14.out).mono ?_);rintro e w' ⟨rfl,⟨nd,rfl⟩⟩;(try first | exact ⟨rfl,_,World.drewN_drewN _ _ _⟩ | exact ⟨rfl,_,Eq.trans (World.drewN_drewN _ _ _) (congrArg (World.drewN _) (Nat.add_assoc _ _ _))⟩))))
        go_ret
        exact ⟨by first | rfl | (simp [errW_none,errW_some] <;> rfl) | (simp [*,errW_none,errW_some] <;> rfl),by repeat (first | (with_reducible first | exact HB.out | apply below_alloc | apply pw_below_drewN | apply below_drew1 | refine below_set ?_ GE126.out | refine below_set ?_ GE127.out) | exact HB.out)⟩
      · rw [if_neg c13] at H
        have c13b0 : (a0_0 == 2) = false := beq_eq_false_iff_ne.mpr c13
        have c13b1 : (a0_0 != 2) = true := bne_iff_ne.mpr c13
        by_cases c20 : a0_0 = 3
        · rw [if_pos c20] at H
          have c20b0 : (a0_0 == 3) = true := beq_iff_eq.mpr c20
          have c20b1 : (a0_0 != 3) = false := bne_eq_false_iff_eq.mpr c20
          clear c20
          replace H := Option.bind_eq_some_iff.mp H
          obtain ⟨t133,A210,H⟩ := H
          replace H : (some t133) = some r := H
          have A21 := Aside0.mk A210
          clear A210
          obtain rfl := Option.some.inj H
          go_enter Try.func46,Try.ntmps46
          go_wp2_with (first | ((with_reducible refine gate_dst (N := 2) rfl ?_);refine box_event ?hg (N := 2) ?hd (cs := #[.int .i64 a0_0,.bool a0_1,.int .i64 a0_2,.string a0_3]) (t := 50) ?hr ?_;(case hd => rfl);(case hg => rfl);(case hr => first | (go_simp;done) | (go_simp;rfl));intro gb126 hg w22 hbox hb;have n0_ := Aside0.mk (below_step (by repeat (first | (with_reducible first | exact HB.out | apply below_alloc | apply pw_below_drewN | apply below_drew1) | exact HB.out)) hb);have n1_ := Aside0.mk (hbox);have n2_ := Aside0.mk ((by rw [hg];exact (below_size (by repeat (first | (with_reducible first | exact HB.out | apply below_alloc | apply pw_below_drewN | apply below_drew1) | exact HB.out))) : w.heap.size ≤ gb126));have n3_ := Aside0.mk ((by rw [hg];exact (below_size (by repeat (first | (with_reducible first | exact HB.out | apply below_alloc | apply pw_below_drewN | apply below_drew1) | exact HB.out))) : w.heap.size ≤ gb126));clear HB;have HB := n0_;have BK126 := n1_;have GW126 := n2_;have GE126 := n3_;clear n0_ n1_ n2_ n3_;clear hb hbox hg) | ((with_reducible refine gate_dst (N := 3) rfl ?_);refine box_event ?hg (N := 3) ?hd (cs := #[.int .i64 a1_0,.bool a1_1,.int .i64 a1_2,.string a1_3]) (t := 50) ?hr ?_;(case hd => rfl);(case hg => rfl);(case hr => first | (go_simp;done) | (go_simp;rfl));intro gb127 hg w23 hbox hb;have n0_ := Aside0.mk (blk_below (g := gb126) (o := .cells #[.int .i64 a0_0,.bool a0_1,.int .i64 a0_2,.string a0_3] 50 (0,0)) (by (with_reducible repeat (first | refine blk_drewN ?_ _ | refine blk_drew ?_ | refine blk_alloc ?_ _));exact BK126.out) hb);have n1_ := Aside0.mk (below_step (by repeat (first | (with_reducible first | exact HB.out | apply below_alloc | apply pw_below_drewN | apply below_drew1 | refine below_set ?_ GE126.out) | exact HB.out)) hb);have n2_ := Aside0.mk (hbox);have n3_ := Aside0.mk ((by rw [hg];exact (below_size (by repeat (first | (with_reducible first | exact HB.out | apply below_alloc | apply pw_below_drewN | apply below_drew1 | refine below_set ?_ GE126.out) | exact HB.out))) : w.heap.size ≤ gb127));have n4_ := Aside0.mk ((by rw [hg];exact (below_size (by repeat (first | (with_reducible first | exact HB.out | apply below_alloc | apply pw_below_drewN | apply below_drew1 | refine below_set ?_ GE126.out) | exact HB.out))) : w.heap.size ≤ gb127));have n5_ := Aside0.mk ((by rw [hg];exact Nat.ne_of_lt (blk_lt (g := gb126) (o := .cells #[.int .i64 a0_0,.bool a0_1,.int .i64 a0_2,.string a0_3] 50 (0,0)) (by (with_reducible repeat (first | refine blk_drewN ?_ _ | refine blk_drew ?_ | refine blk_alloc ?_ _));exact BK126.out)) : gb126 ≠ gb127));have n6_ := Aside0.mk ((by rw [hg];exact Nat.ne_of_gt (blk_lt (g := gb126) (o := .cells #[.int .i64 a0_0,.bool a0_1,.int .i64 a0_2,.string a0_3] 50 (0,0)) (by (with_reducible repeat (first | refine blk_drewN ?_ _ | refine blk_drew ?_ | refine blk_alloc ?_ _));exact BK126.out)) : gb127 ≠ gb126));clear BK126;clear HB;have BK126 := n0_;have HB := n1_;have BK127 := n2_;have GW127 := n3_;have GE127 := n4_;have NB126_127 := n5_;have NB127_126 := n6_;clear n0_ n1_ n2_ n3_ n4_ n5_ n6_;clear hb hbox hg;have hnb24 := NB126_127.out;have hnc24 := NB127_126.out;have hcz25_0 : w23.cell? ⟨gb126,0,none⟩ = some (.int .i64 a0_0) := (blk_cell BK126.out 0).trans rfl;have hcz25_1 : w23.cell? ⟨gb126,1,none⟩ = some (.bool a0_1) := (blk_cell BK126.out 1).trans rfl;have hcz25_2 : w23.cell? ⟨gb126,2,none⟩ = some (.int .i64 a0_2) := (blk_cell BK126.out 2).trans rfl;have hcz25_3 : w23.cell? ⟨gb126,3,none⟩ = some (.string a0_3) := (blk_cell BK126.out 3).trans rfl;have hfz25_0 := blk_frozen BK126.out 0;have hfz25_1 := blk_frozen BK126.out 1;have hfz25_2 := blk_frozen BK126.out 2;have hfz25_3 := blk_frozen BK126.out 3;have hcz26_0 : w23.cell? ⟨gb127,0,none⟩ = some (.int .i64 a1_0) := (blk_cell BK127.out 0).trans rfl;have hcz26_1 : w23.cell? ⟨gb127,1,none⟩ = some (.bool a1_1) := (blk_cell BK127.out 1).trans rfl;have hcz26_2 : w23.cell? ⟨gb127,2,none⟩ = some (.int .i64 a1_2) := (blk_cell BK127.out 2).trans rfl;have hcz26_3 : w23.cell? ⟨gb127,3,none⟩ = some (.string a1_3) := (blk_cell BK127.out 3).trans rfl;have hfz26_0 := blk_frozen BK127.out 0;have hfz26_1 := blk_frozen BK127.out 1;have hfz26_2 := blk_frozen BK127.out 2;have hfz26_3 := blk_frozen BK127.out 3) | (go_at_call 66;(with_reducible refine (strings_Compare.calls a0_3 a1_3 t133 _ A21.out).mono ?_);rintro e w27 ⟨rfl,hb⟩;have n0_ := Aside0.mk (blk_below (g := gb126) (o := .cells #[.int .i64 a0_0,.bool a0_1,.int .i64 a0_2,.string a0_3] 50 (0,0)) (by (with_reducible repeat (first | refine blk_drewN ?_ _ | refine blk_drew ?_ | refine blk_alloc ?_ _));exact BK126.out) hb);have n1_ := Aside0.mk (blk_below (g := gb127) (o := .cells #[.int .i64 a1_0,.bool a1_1,.int .i64 a1_2,.string a1_3] 50 (0,0)) (by (with_reducible repeat (first | refine blk_drewN ?_ _ | refine blk_drew ?_ | refine blk_alloc ?_ _));exact BK127.out) hb);have n2_ := Aside0.mk (below_step (by repeat (first | (with_reducible first | exact HB.out | apply below_alloc | apply pw_below_drewN | apply below_drew1 | refine below_set ?_ GE126.out | refine below_set ?_ GE127.out) | exact HB.out)) hb);clear BK126;clear BK127;clear HB;have BK126 := n0_;have BK127 := n1_;have HB := n2_;clear n0_ n1_ n2_;(try clear hb);(try clear hb2);(try clear hk);(try clear hi)))
          repeat (go_quiet (first | ((with_reducible refine gate_dst (N := 2) rfl ?_);refine box_event ?hg (N := 2) ?hd (cs := #[.int .i64 a0_0,.bool a0_1,.int .i64 a0_2,.string a0_3]) (t := 50) ?hr ?_;(case hd => rfl);(case hg => rfl);(case hr => first | (go_simp;done) | (go_simp;rfl));intro gb126 hg w22 hbox hb;have n0_ := Aside0.mk (below_step (by repeat (first | (with_reducible first | exact HB.out | apply below_alloc | apply pw_below_drewN | apply below_drew1) | exact HB.out)) hb);have n1_ := Aside0.mk (hbox);have n2_ := Aside0.mk ((by rw [hg];exact (below_size (by repeat (first | (with_reducible first | exact HB.out | apply below_alloc | apply pw_below_drewN | apply below_drew1) | exact HB.out))) : w.heap.size ≤ gb126));have n3_ := Aside0.mk ((by rw [hg];exact (below_size (by repeat (first | (with_reducible first | exact HB.out | apply below_alloc | apply pw_below_drewN | apply below_drew1) | exact HB.out))) : w.heap.size ≤ gb126));clear HB;have HB := n0_;have BK126 := n1_;have GW126 := n2_;have GE126 := n3_;clear n0_ n1_ n2_ n3_;clear hb hbox hg) | ((with_reducible refine gate_dst (N := 3) rfl ?_);refine box_event ?hg (N := 3) ?hd (cs := #[.int .i64 a1_0,.bool a1_1,.int .i64 a1_2,.string a1_3]) (t := 50) ?hr ?_;(case hd => rfl);(case hg => rfl);(case hr => first | (go_simp;done) | (go_simp;rfl));intro gb127 hg w23 hbox hb;have n0_ := Aside0.mk (blk_below (g := gb126) (o := .cells #[.int .i64 a0_0,.bool a0_1,.int .i64 a0_2,.string a0_3] 50 (0,0)) (by (with_reducible repeat (first | refine blk_drewN ?_ _ | refine blk_drew ?_ | refine blk_alloc ?_ _));exact BK126.out) hb);have n1_ := Aside0.mk (below_step (by repeat (first | (with_reducible first | exact HB.out | apply below_alloc | apply pw_below_drewN | apply below_drew1 | refine below_set ?_ GE126.out) | exact HB.out)) hb);have n2_ := Aside0.mk (hbox);have n3_ := Aside0.mk ((by rw [hg];exact (below_size (by repeat (first | (with_reducible first | exact HB.out | apply below_alloc | apply pw_below_drewN | apply below_drew1 | refine below_set ?_ GE126.out) | exact HB.out))) : w.heap.size ≤ gb127));have n4_ := Aside0.mk ((by rw [hg];exact (below_size (by repeat (first | (with_reducible first | exact HB.out | apply below_alloc | apply pw_below_drewN | apply below_drew1 | refine below_set ?_ GE126.out) | exact HB.out))) : w.heap.size ≤ gb127));have n5_ := Aside0.mk ((by rw [hg];exact Nat.ne_of_lt (blk_lt (g := gb126) (o := .cells #[.int .i64 a0_0,.bool a0_1,.int .i64 a0_2,.string a0_3] 50 (0,0)) (by (with_reducible repeat (first | refine blk_drewN ?_ _ | refine blk_drew ?_ | refine blk_alloc ?_ _));exact BK126.out)) : gb126 ≠ gb127));have n6_ := Aside0.mk ((by rw [hg];exact Nat.ne_of_gt (blk_lt (g := gb126) (o := .cells #[.int .i64 a0_0,.bool a0_1,.int .i64 a0_2,.string a0_3] 50 (0,0)) (by (with_reducible repeat (first | refine blk_drewN ?_ _ | refine blk_drew ?_ | refine blk_alloc ?_ _));exact BK126.out)) : gb127 ≠ gb126));clear BK126;clear HB;have BK126 := n0_;have HB := n1_;have BK127 := n2_;have GW127 := n3_;have GE127 := n4_;have NB126_127 := n5_;have NB127_126 := n6_;clear n0_ n1_ n2_ n3_ n4_ n5_ n6_;clear hb hbox hg;have hnb24 := NB126_127.out;have hnc24 := NB127_126.out;have hcz25_0 : w23.cell? ⟨gb126,0,none⟩ = some (.int .i64 a0_0) := (blk_cell BK126.out 0).trans rfl;have hcz25_1 : w23.cell? ⟨gb126,1,none⟩ = some (.bool a0_1) := (blk_cell BK126.out 1).trans rfl;have hcz25_2 : w23.cell? ⟨gb126,2,none⟩ = some (.int .i64 a0_2) := (blk_cell BK126.out 2).trans rfl;have hcz25_3 : w23.cell? ⟨gb126,3,none⟩ = some (.string a0_3) := (blk_cell BK126.out 3).trans rfl;have hfz25_0 := blk_frozen BK126.out 0;have hfz25_1 := blk_frozen BK126.out 1;have hfz25_2 := blk_frozen BK126.out 2;have hfz25_3 := blk_frozen BK126.out 3;have hcz26_0 : w23.cell? ⟨gb127,0,none⟩ = some (.int .i64 a1_0) := (blk_cell BK127.out 0).trans rfl;have hcz26_1 : w23.cell? ⟨gb127,1,none⟩ = some (.bool a1_1) := (blk_cell BK127.out 1).trans rfl;have hcz26_2 : w23.cell? ⟨gb127,2,none⟩ = some (.int .i64 a1_2) := (blk_cell BK127.out 2).trans rfl;have hcz26_3 : w23.cell? ⟨gb127,3,none⟩ = some (.string a1_3) := (blk_cell BK127.out 3).trans rfl;have hfz26_0 := blk_frozen BK127.out 0;have hfz26_1 := blk_frozen BK127.out 1;have hfz26_2 := blk_frozen BK127.out 2;have hfz26_3 := blk_frozen BK127.out 3) | (go_at_call 66;(with_reducible refine (strings_Compare.calls a0_3 a1_3 t133 _ A21.out).mono ?_);rintro e w27 ⟨rfl,hb⟩;have n0_ := Aside0.mk (blk_below (g := gb126) (o := .cells #[.int .i64 a0_0,.bool a0_1,.int .i64 a0_2,.string a0_3] 50 (0,0)) (by (with_reducible repeat (first | refine blk_drewN ?_ _ | refine blk_drew ?_ | refine blk_alloc ?_ _));exact BK126.out) hb);have n1_ := Aside0.mk (blk_below (g := gb127) (o := .cells #[.int .i64 a1_0,.bool a1_1,.int .i64 a1_2,.string a1_3] 50 (0,0)) (by (with_reducible repeat (first | refine blk_drewN ?_ _ | refine blk_drew ?_ | refine blk_alloc ?_ _));exact BK127.out) hb);have n2_ := Aside0.mk (below_step (by repeat (first | (with_reducible first | exact HB.out | apply below_alloc | apply pw_below_drewN | apply below_drew1 | refine below_set ?_ GE126.out | refine below_set ?_ GE127.out) | exact HB.out)) hb);clear BK126;clear BK127;clear HB;have BK126 := n0_;have BK127 := n1_;have HB := n2_;clear n0_ n1_ n2_;(try clear hb);(try clear hb2);(try clear hk);(try clear hi)));try go_wp2_with (first | ((with_reducible refine gate_dst (N := 2) rfl ?_);refine box_event ?hg (N := 2) ?hd (cs := #[.int .i64 a0_0,.bool a0_1,.int .i64 a0_2,.string a0_3]) (t := 50) ?hr ?_;(case hd => rfl);(case hg => rfl);(case hr => first | (go_simp;done) | (go_simp;rfl));intro gb126 hg w22 hbox hb;have n0_ := Aside0.mk (below_step (by repeat (first | (with_reducible first | exact HB.out | apply below_alloc | apply pw_below_drewN | apply below_drew1) | exact HB.out)) hb);have n1_ := Aside0.mk (hbox);have n2_ := Aside0.mk ((by rw [hg];exact (below_size (by repeat (first | (with_reducible first | exact HB.out | apply below_alloc | apply pw_below_drewN | apply below_drew1) | exact HB.out))) : w.heap.size ≤ gb126));have n3_ := Aside0.mk ((by rw [hg];exact (below_size (by repeat (first | (with_reducible first | exact HB.out | apply below_alloc | apply pw_below_drewN | apply below_drew1) | exact HB.out))) : w.heap.size ≤ gb126));clear HB;have HB := n0_;have BK126 := n1_;have GW126 := n2_;have GE126 := n3_;clear n0_ n1_ n2_ n3_;clear hb hbox hg) | ((with_reducible refine gate_dst (N := 3) rfl ?_);refine box_event ?hg (N := 3) ?hd (cs := #[.int .i64 a1_0,.bool a1_1,.int .i64 a1_2,.string a1_3]) (t := 50) ?hr ?_;(case hd => rfl);(case hg => rfl);(case hr => first | (go_simp;done) | (go_simp;rfl));intro gb127 hg w23 hbox hb;have n0_ := Aside0.mk (blk_below (g := gb126) (o := .cells #[.int .i64 a0_0,.bool a0_1,.int .i64 a0_2,.string a0_3] 50 (0,0)) (by (with_reducible repeat (first | refine blk_drewN ?_ _ | refine blk_drew ?_ | refine blk_alloc ?_ _));exact BK126.out) hb);have n1_ := Aside0.mk (below_step (by repeat (first | (with_reducible first | exact HB.out | apply below_alloc | apply pw_below_drewN | apply below_drew1 | refine below_set ?_ GE126.out) | exact HB.out)) hb);have n2_ := Aside0.mk (hbox);have n3_ := Aside0.mk ((by rw [hg];exact (below_size (by repeat (first | (with_reducible first | exact HB.out | apply below_alloc | apply pw_below_drewN | apply below_drew1 | refine below_set ?_ GE126.out) | exact HB.out))) : w.heap.size ≤ gb127));have n4_ := Aside0.mk ((by rw [hg];exact (below_size (by repeat (first | (with_reducible first | exact HB.out | apply below_alloc | apply pw_below_drewN | apply below_drew1 | refine below_set ?_ GE126.out) | exact HB.out))) : w.heap.size ≤ gb127));have n5_ := Aside0.mk ((by rw [hg];exact Nat.ne_of_lt (blk_lt (g := gb126) (o := .cells #[.int .i64 a0_0,.bool a0_1,.int .i64 a0_2,.string a0_3] 50 (0,0)) (by (with_reducible repeat (first | refine blk_drewN ?_ _ | refine blk_drew ?_ | refine blk_alloc ?_ _));exact BK126.out)) : gb126 ≠ gb127));have n6_ := Aside0.mk ((by rw [hg];exact Nat.ne_of_gt (blk_lt (g := gb126) (o := .cells #[.int .i64 a0_0,.bool a0_1,.int .i64 a0_2,.string a0_3] 50 (0,0)) (by (with_reducible repeat (first | refine blk_drewN ?_ _ | refine blk_drew ?_ | refine blk_alloc ?_ _));exact BK126.out)) : gb127 ≠ gb126));clear BK126;clear HB;have BK126 := n0_;have HB := n1_;have BK127 := n2_;have GW127 := n3_;have GE127 := n4_;have NB126_127 := n5_;have NB127_126 := n6_;clear n0_ n1_ n2_ n3_ n4_ n5_ n6_;clear hb hbox hg;have hnb24 := NB126_127.out;have hnc24 := NB127_126.out;have hcz25_0 : w23.cell? ⟨gb126,0,none⟩ = some (.int .i64 a0_0) := (blk_cell BK126.out 0).trans rfl;have hcz25_1 : w23.cell? ⟨gb126,1,none⟩ = some (.bool a0_1) := (blk_cell BK126.out 1).trans rfl;have hcz25_2 : w23.cell? ⟨gb126,2,none⟩ = some (.int .i64 a0_2) := (blk_cell BK126.out 2).trans rfl;have hcz25_3 : w23.cell? ⟨gb126,3,none⟩ = some (.string a0_3) := (blk_cell BK126.out 3).trans rfl;have hfz25_0 := blk_frozen BK126.out 0;have hfz25_1 := blk_frozen BK126.out 1;have hfz25_2 := blk_frozen BK126.out 2;have hfz25_3 := blk_frozen BK126.out 3;have hcz26_0 : w23.cell? ⟨gb127,0,none⟩ = some (.int .i64 a1_0) := (blk_cell BK127.out 0).trans rfl;have hcz26_1 : w23.cell? ⟨gb127,1,none⟩ = some (.bool a1_1) := (blk_cell BK127.out 1).trans rfl;have hcz26_2 : w23.cell? ⟨gb127,2,none⟩ = some (.int .i64 a1_2) := (blk_cell BK127.out 2).trans rfl;have hcz26_3 : w23.cell? ⟨gb127,3,none⟩ = some (.string a1_3) := (blk_cell BK127.out 3).trans rfl;have hfz26_0 := blk_frozen BK127.out 0;have hfz26_1 := blk_frozen BK127.out 1;have hfz26_2 := blk_frozen BK127.out 2;have hfz26_3 := blk_frozen BK127.out 3) | (go_at_call 66;(with_reducible refine (strings_Compare.calls a0_3 a1_3 t133 _ A21.out).mono ?_);rintro e w27 ⟨rfl,hb⟩;have n0_ := Aside0.mk (blk_below (g := gb126) (o := .cells #[.int .i64 a0_0,.bool a0_1,.int .i64 a0_2,.string a0_3] 50 (0,0)) (by (with_reducible repeat (first | refine blk_drewN ?_ _ | refine blk_drew ?_ | refine blk_alloc ?_ _));exact BK126.out) hb);have n1_ := Aside0.mk (blk_below (g := gb127) (o := .cells #[.int .i64 a1_0,.bool a1_1,.int .i64 a1_2,.string a1_3] 50 (0,0)) (by (with_reducible repeat (first | refine blk_drewN ?_ _ | refine blk_drew ?_ | refine blk_alloc ?_ _));exact BK127.out) hb);have n2_ := Aside0.mk (below_step (by repeat (first | (with_reducible first | exact HB.out | apply below_alloc | apply pw_below_drewN | apply below_drew1 | refine below_set ?_ GE126.out | refine below_set ?_ GE127.out) | exact HB.out)) hb);clear BK126;clear BK127;clear HB;have BK126 := n0_;have BK127 := n1_;have HB := n2_;clear n0_ n1_ n2_;(try clear hb);(try clear hb2);(try clear hk);(try clear hi))))
          go_ret
          exact ⟨by first | rfl | (simp [errW_none,errW_some] <;> rfl) | (simp [*,errW_none,errW_some] <;> rfl),by repeat (first | (with_reducible first | exact HB.out | apply below_alloc | apply pw_below_drewN | apply below_drew1 | refine below_set ?_ GE126.out | refine below_set ?_ GE127.out) | exact HB.out)⟩
        · rw [if_neg c20] at H
          have c20b0 : (a0_0 == 3) = false := beq_eq_false_iff_ne.mpr c20
          have c20b1 : (a0_0 != 3) = true := bne_iff_ne.mpr c20
          obtain rfl := Option.some.inj H
          go_enter Try.func46,Try.ntmps46
          go_wp2_with (first | ((with_reducible refine gate_dst (N := 2) rfl ?_);refine box_event ?hg (N := 2) ?hd (cs := #[.int .i64 a0_0,.bool a0_1,.int .i64 a0_2,.string a0_3]) (t := 50) ?hr ?_;(case hd => rfl);(case hg => rfl);(case hr => first | (go_simp;done) | (go_simp;rfl));intro gb126 hg w28 hbox hb;have n0_ := Aside0.mk (below_step (by repeat (first | (with_reducible first | exact HB.out | apply below_alloc | apply pw_below_drewN | apply below_drew1) | exact HB.out)) hb);have n1_ := Aside0.mk (hbox);have n2_ := Aside0.mk ((by rw [hg];exact (below_size (by repeat (first | (with_reducible first | exact HB.out | apply below_alloc | apply pw_below_drewN | apply below_drew1) | exact HB.out))) : w.heap.size ≤ gb126));have n3_ := Aside0.mk ((by rw [hg];exact (below_size (by repeat (first | (with_reducible first | exact HB.out | apply below_alloc | apply pw_below_drewN | apply below_drew1) | exact HB.out))) : w.heap.size ≤ gb126));clear HB;have HB := n0_;have BK126 := n1_;have GW126 := n2_;have GE126 := n3_;clear n0_ n1_ n2_ n3_;clear hb hbox hg) | ((with_reducible refine gate_dst (N := 3) rfl ?_);refine box_event ?hg (N := 3) ?hd (cs := #[.int .i64 a1_0,.bool a1_1,.int .i64 a1_2,.string a1_3]) (t := 50) ?hr ?_;(case hd => rfl);(case hg => rfl);(case hr => first | (go_simp;done) | (go_simp;rfl));intro gb127 hg w29 hbox hb;have n0_ := Aside0.mk (blk_below (g := gb126) (o := .cells #[.int .i64 a0_0,.bool a0_1,.int .i64 a0_2,.string a0_3] 50 (0,0)) (by (with_reducible repeat (first | refine blk_drewN ?_ _ | refine blk_drew ?_ | refine blk_alloc ?_ _));exact BK126.out) hb);have n1_ := Aside0.mk (below_step (by repeat (first | (with_reducible first | exact HB.out | apply below_alloc | apply pw_below_drewN | apply below_drew1 | refine below_set ?_ GE126.out) | exact HB.out)) hb);have n2_ := Aside0.mk (hbox);have n3_ := Aside0.mk ((by rw [hg];exact (below_size (by repeat (first | (with_reducible first | exact HB.out | apply below_alloc | apply pw_below_drewN | apply below_drew1 | refine below_set ?_ GE126.out) | exact HB.out))) : w.heap.size ≤ gb127));have n4_ := Aside0.mk ((by rw [hg];exact (below_size (by repeat (first | (with_reducible first | exact HB.out | apply below_alloc | apply pw_below_drewN | apply below_drew1 | refine below_set ?_ GE126.out) | exact HB.out))) : w.heap.size ≤ gb127));have n5_ := Aside0.mk ((by rw [hg];exact Nat.ne_of_lt (blk_lt (g := gb126) (o := .cells #[.int .i64 a0_0,.bool a0_1,.int .i64 a0_2,.string a0_3] 50 (0,0)) (by (with_reducible repeat (first | refine blk_drewN ?_ _ | refine blk_drew ?_ | refine blk_alloc ?_ _));exact BK126.out)) : gb126 ≠ gb127));have n6_ := Aside0.mk ((by rw [hg];exact Nat.ne_of_gt (blk_lt (g := gb126) (o := .cells #[.int .i64 a0_0,.bool a0_1,.int .i64 a0_2,.string a0_3] 50 (0,0)) (by (with_reducible repeat (first | refine blk_drewN ?_ _ | refine blk_drew ?_ | refine blk_alloc ?_ _));exact BK126.out)) : gb127 ≠ gb126));clear BK126;clear HB;have BK126 := n0_;have HB := n1_;have BK127 := n2_;have GW127 := n3_;have GE127 := n4_;have NB126_127 := n5_;have NB127_126 := n6_;clear n0_ n1_ n2_ n3_ n4_ n5_ n6_;clear hb hbox hg;have hnb30 := NB126_127.out;have hnc30 := NB127_126.out;have hcz31_0 : w29.cell? ⟨gb126,0,none⟩ = some (.int .i64 a0_0) := (blk_cell BK126.out 0).trans rfl;have hcz31_1 : w29.cell? ⟨gb126,1,none⟩ = some (.bool a0_1) := (blk_cell BK126.out 1).trans rfl;have hcz31_2 : w29.cell? ⟨gb126,2,none⟩ = some (.int .i64 a0_2) := (blk_cell BK126.out 2).trans rfl;have hcz31_3 : w29.cell? ⟨gb126,3,none⟩ = some (.string a0_3) := (blk_cell BK126.out 3).trans rfl;have hfz31_0 := blk_frozen BK126.out 0;have hfz31_1 := blk_frozen BK126.out 1;have hfz31_2 := blk_frozen BK126.out 2;have hfz31_3 := blk_frozen BK126.out 3;have hcz32_0 : w29.cell? ⟨gb127,0,none⟩ = some (.int .i64 a1_0) := (blk_cell BK127.out 0).trans rfl;have hcz32_1 : w29.cell? ⟨gb127,1,none⟩ = some (.bool a1_1) := (blk_cell BK127.out 1).trans rfl;have hcz32_2 : w29.cell? ⟨gb127,2,none⟩ = some (.int .i64 a1_2) := (blk_cell BK127.out 2).trans rfl;have hcz32_3 : w29.cell? ⟨gb127,3,none⟩ = some (.string a1_3) := (blk_cell BK127.out 3).trans rfl;have hfz32_0 := blk_frozen BK127.out 0;have hfz32_1 := blk_frozen BK127.out 1;have hfz32_2 := blk_frozen BK127.out 2;have hfz32_3 := blk_frozen BK127.out 3))
          repeat (go_quiet (first | ((with_reducible refine gate_dst (N := 2) rfl ?_);refine box_event ?hg (N := 2) ?hd (cs := #[.int .i64 a0_0,.bool a0_1,.int .i64 a0_2,.string a0_3]) (t := 50) ?hr ?_;(case hd => rfl);(case hg => rfl);(case hr => first | (go_simp;done) | (go_simp;rfl));intro gb126 hg w28 hbox hb;have n0_ := Aside0.mk (below_step (by repeat (first | (with_reducible first | exact HB.out | apply below_alloc | apply pw_below_drewN | apply below_drew1) | exact HB.out)) hb);have n1_ := Aside0.mk (hbox);have n2_ := Aside0.mk ((by rw [hg];exact (below_size (by repeat (first | (with_reducible first | exact HB.out | apply below_alloc | apply pw_below_drewN | apply below_drew1) | exact HB.out))) : w.heap.size ≤ gb126));have n3_ := Aside0.mk ((by rw [hg];exact (below_size (by repeat (first | (with_reducible first | exact HB.out | apply below_alloc | apply pw_below_drewN | apply below_drew1) | exact HB.out))) : w.heap.size ≤ gb126));clear HB;have HB := n0_;have BK126 := n1_;have GW126 := n2_;have GE126 := n3_;clear n0_ n1_ n2_ n3_;clear hb hbox hg) | ((with_reducible refine gate_dst (N := 3) rfl ?_);refine box_event ?hg (N := 3) ?hd (cs := #[.int .i64 a1_0,.bool a1_1,.int .i64 a1_2,.string a1_3]) (t := 50) ?hr ?_;(case hd => rfl);(case hg => rfl);(case hr => first | (go_simp;done) | (go_simp;rfl));intro gb127 hg w29 hbox hb;have n0_ := Aside0.mk (blk_below (g := gb126) (o := .cells #[.int .i64 a0_0,.bool a0_1,.int .i64 a0_2,.string a0_3] 50 (0,0)) (by (with_reducible repeat (first | refine blk_drewN ?_ _ | refine blk_drew ?_ | refine blk_alloc ?_ _));exact BK126.out) hb);have n1_ := Aside0.mk (below_step (by repeat (first | (with_reducible first | exact HB.out | apply below_alloc | apply pw_below_drewN | apply below_drew1 | refine below_set ?_ GE126.out) | exact HB.out)) hb);have n2_ := Aside0.mk (hbox);have n3_ := Aside0.mk ((by rw [hg];exact (below_size (by repeat (first | (with_reducible first | exact HB.out | apply below_alloc | apply pw_below_drewN | apply below_drew1 | refine below_set ?_ GE126.out) | exact HB.out))) : w.heap.size ≤ gb127));have n4_ := Aside0.mk ((by rw [hg];exact (below_size (by repeat (first | (with_reducible first | exact HB.out | apply below_alloc | apply pw_below_drewN | apply below_drew1 | refine below_set ?_ GE126.out) | exact HB.out))) : w.heap.size ≤ gb127));have n5_ := Aside0.mk ((by rw [hg];exact Nat.ne_of_lt (blk_lt (g := gb126) (o := .cells #[.int .i64 a0_0,.bool a0_1,.int .i64 a0_2,.string a0_3] 50 (0,0)) (by (with_reducible repeat (first | refine blk_drewN ?_ _ | refine blk_drew ?_ | refine blk_alloc ?_ _));exact BK126.out)) : gb126 ≠ gb127));have n6_ := Aside0.mk ((by rw [hg];exact Nat.ne_of_gt (blk_lt (g := gb126) (o := .cells #[.int .i64 a0_0,.bool a0_1,.int .i64 a0_2,.string a0_3] 50 (0,0)) (by (with_reducible repeat (first | refine blk_drewN ?_ _ | refine blk_drew ?_ | refine blk_alloc ?_ _));exact BK126.out)) : gb127 ≠ gb126));clear BK126;clear HB;have BK126 := n0_;have HB := n1_;have BK127 := n2_;have GW127 := n3_;have GE127 := n4_;have NB126_127 := n5_;have NB127_126 := n6_;clear n0_ n1_ n2_ n3_ n4_ n5_ n6_;clear hb hbox hg;have hnb30 := NB126_127.out;have hnc30 := NB127_126.out;have hcz31_0 : w29.cell? ⟨gb126,0,none⟩ = some (.int .i64 a0_0) := (blk_cell BK126.out 0).trans rfl;have hcz31_1 : w29.cell? ⟨gb126,1,none⟩ = some (.bool a0_1) := (blk_cell BK126.out 1).trans rfl;have hcz31_2 : w29.cell? ⟨gb126,2,none⟩ = some (.int .i64 a0_2) := (blk_cell BK126.out 2).trans rfl;have hcz31_3 : w29.cell? ⟨gb126,3,none⟩ = some (.string a0_3) := (blk_cell BK126.out 3).trans rfl;have hfz31_0 := blk_frozen BK126.out 0;have hfz31_1 := blk_frozen BK126.out 1;have hfz31_2 := blk_frozen BK126.out 2;have hfz31_3 := blk_frozen BK126.out 3;have hcz32_0 : w29.cell? ⟨gb127,0,none⟩ = some (.int .i64 a1_0) := (blk_cell BK127.out 0).trans rfl;have hcz32_1 : w29.cell? ⟨gb127,1,none⟩ = some (.bool a1_1) := (blk_cell BK127.out 1).trans rfl;have hcz32_2 : w29.cell? ⟨gb127,2,none⟩ = some (.int .i64 a1_2) := (blk_cell BK127.out 2).trans rfl;have hcz32_3 : w29.cell? ⟨gb127,3,none⟩ = some (.string a1_3) := (blk_cell BK127.out 3).trans rfl;have hfz32_0 := blk_frozen BK127.out 0;have hfz32_1 := blk_frozen BK127.out 1;have hfz32_2 := blk_frozen BK127.out 2;have hfz32_3 := blk_frozen BK127.out 3));try go_wp2_with (first | ((with_reducible refine gate_dst (N := 2) rfl ?_);refine box_event ?hg (N := 2) ?hd (cs := #[.int .i64 a0_0,.bool a0_1,.int .i64 a0_2,.string a0_3]) (t := 50) ?hr ?_;(case hd => rfl);(case hg => rfl);(case hr => first | (go_simp;done) | (go_simp;rfl));intro gb126 hg w28 hbox hb;have n0_ := Aside0.mk (below_step (by repeat (first | (with_reducible first | exact HB.out | apply below_alloc | apply pw_below_drewN | apply below_drew1) | exact HB.out)) hb);have n1_ := Aside0.mk (hbox);have n2_ := Aside0.mk ((by rw [hg];exact (below_size (by repeat (first | (with_reducible first | exact HB.out | apply below_alloc | apply pw_below_drewN | apply below_drew1) | exact HB.out))) : w.heap.size ≤ gb126));have n3_ := Aside0.mk ((by rw [hg];exact (below_size (by repeat (first | (with_reducible first | exact HB.out | apply below_alloc | apply pw_below_drewN | apply below_drew1) | exact HB.out))) : w.heap.size ≤ gb126));clear HB;have HB := n0_;have BK126 := n1_;have GW126 := n2_;have GE126 := n3_;clear n0_ n1_ n2_ n3_;clear hb hbox hg) | ((with_reducible refine gate_dst (N := 3) rfl ?_);refine box_event ?hg (N := 3) ?hd (cs := #[.int .i64 a1_0,.bool a1_1,.int .i64 a1_2,.string a1_3]) (t := 50) ?hr ?_;(case hd => rfl);(case hg => rfl);(case hr => first | (go_simp;done) | (go_simp;rfl));intro gb127 hg w29 hbox hb;have n0_ := Aside0.mk (blk_below (g := gb126) (o := .cells #[.int .i64 a0_0,.bool a0_1,.int .i64 a0_2,.string a0_3] 50 (0,0)) (by (with_reducible repeat (first | refine blk_drewN ?_ _ | refine blk_drew ?_ | refine blk_alloc ?_ _));exact BK126.out) hb);have n1_ := Aside0.mk (below_step (by repeat (first | (with_reducible first | exact HB.out | apply below_alloc | apply pw_below_drewN | apply below_drew1 | refine below_set ?_ GE126.out) | exact HB.out)) hb);have n2_ := Aside0.mk (hbox);have n3_ := Aside0.mk ((by rw [hg];exact (below_size (by repeat (first | (with_reducible first | exact HB.out | apply below_alloc | apply pw_below_drewN | apply below_drew1 | refine below_set ?_ GE126.out) | exact HB.out))) : w.heap.size ≤ gb127));have n4_ := Aside0.mk ((by rw [hg];exact (below_size (by repeat (first | (with_reducible first | exact HB.out | apply below_alloc | apply pw_below_drewN | apply below_drew1 | refine below_set ?_ GE126.out) | exact HB.out))) : w.heap.size ≤ gb127));have n5_ := Aside0.mk ((by rw [hg];exact Nat.ne_of_lt (blk_lt (g := gb126) (o := .cells #[.int .i64 a0_0,.bool a0_1,.int .i64 a0_2,.string a0_3] 50 (0,0)) (by (with_reducible repeat (first | refine blk_drewN ?_ _ | refine blk_drew ?_ | refine blk_alloc ?_ _));exact BK126.out)) : gb126 ≠ gb127));have n6_ := Aside0.mk ((by rw [hg];exact Nat.ne_of_gt (blk_lt (g := gb126) (o := .cells #[.int .i64 a0_0,.bool a0_1,.int .i64 a0_2,.string a0_3] 50 (0,0)) (by (with_reducible repeat (first | refine blk_drewN ?_ _ | refine blk_drew ?_ | refine blk_alloc ?_ _));exact BK126.out)) : gb127 ≠ gb126));clear BK126;clear HB;have BK126 := n0_;have HB := n1_;have BK127 := n2_;have GW127 := n3_;have GE127 := n4_;have NB126_127 := n5_;have NB127_126 := n6_;clear n0_ n1_ n2_ n3_ n4_ n5_ n6_;clear hb hbox hg;have hnb30 := NB126_127.out;have hnc30 := NB127_126.out;have hcz31_0 : w29.cell? ⟨gb126,0,none⟩ = some (.int .i64 a0_0) := (blk_cell BK126.out 0).trans rfl;have hcz31_1 : w29.cell? ⟨gb126,1,none⟩ = some (.bool a0_1) := (blk_cell BK126.out 1).trans rfl;have hcz31_2 : w29.cell? ⟨gb126,2,none⟩ = some (.int .i64 a0_2) := (blk_cell BK126.out 2).trans rfl;have hcz31_3 : w29.cell? ⟨gb126,3,none⟩ = some (.string a0_3) := (blk_cell BK126.out 3).trans rfl;have hfz31_0 := blk_frozen BK126.out 0;have hfz31_1 := blk_frozen BK126.out 1;have hfz31_2 := blk_frozen BK126.out 2;have hfz31_3 := blk_frozen BK126.out 3;have hcz32_0 : w29.cell? ⟨gb127,0,none⟩ = some (.int .i64 a1_0) := (blk_cell BK127.out 0).trans rfl;have hcz32_1 : w29.cell? ⟨gb127,1,none⟩ = some (.bool a1_1) := (blk_cell BK127.out 1).trans rfl;have hcz32_2 : w29.cell? ⟨gb127,2,none⟩ = some (.int .i64 a1_2) := (blk_cell BK127.out 2).trans rfl;have hcz32_3 : w29.cell? ⟨gb127,3,none⟩ = some (.string a1_3) := (blk_cell BK127.out 3).trans rfl;have hfz32_0 := blk_frozen BK127.out 0;have hfz32_1 := blk_frozen BK127.out 1;have hfz32_2 := blk_frozen BK127.out 2;have hfz32_3 := blk_frozen BK127.out 3)))
          go_ret
          exact ⟨by first | rfl | (simp [errW_none,errW_some] <;> rfl) | (simp [*,errW_none,errW_some] <;> rfl),by repeat (first | (with_reducible first | exact HB.out | apply below_alloc | apply pw_below_drewN | apply below_drew1 | refine below_set ?_ GE126.out | refine below_set ?_ GE127.out) | exact HB.out)⟩
  · rw [if_neg c3] at H
    have c3b0 : (a0_0 == a1_0) = false := beq_eq_false_iff_ne.mpr c3
    have c3b1 : (a0_0 != a1_0) = true := bne_iff_ne.mpr c3
    replace H := Option.bind_eq_some_iff.mp H
    obtain ⟨t128,A330,H⟩ := H
    replace H : (some t128) = some r := H
    have A33 := Aside0.mk A330
    clear A330
    obtain rfl := Option.some.inj H
    go_enter Try.func46,Try.ntmps46
    go_wp2_with (first | ((with_reducible refine gate_dst (N := 2) rfl ?_);refine box_event ?hg (N := 2) ?hd (cs := #[.int .i64 a0_0,.bool a0_1,.int .i64 a0_2,.string a0_3]) (t := 50) ?hr ?_;(case hd => rfl);(case hg => rfl);(case hr => first | (go_simp;done) | (go_simp;rfl));intro gb126 hg w34 hbox hb;have n0_ := Aside0.mk (below_step (by repeat (first | (with_reducible first | exact HB.out | apply below_alloc | apply pw_below_drewN | apply below_drew1) | exact HB.out)) hb);have n1_ := Aside0.mk (hbox);have n2_ := Aside0.mk ((by rw [hg];exact (below_size (by repeat (first | (with_reducible first | exact HB.out | apply below_alloc | apply pw_below_drewN | apply below_drew1) | exact HB.out))) : w.heap.size ≤ gb126));have n3_ := Aside0.mk ((by rw [hg];exact (below_size (by repeat (first | (with_reducible first | exact HB.out | apply below_alloc | apply pw_below_drewN | apply below_drew1) | exact HB.out))) : w.heap.size ≤ gb126));clear HB;have HB := n0_;have BK126 := n1_;have GW126 := n2_;have GE126 := n3_;clear n0_ n1_ n2_ n3_;clear hb hbox hg) | ((with_reducible refine gate_dst (N := 3) rfl ?_);refine box_event ?hg (N := 3) ?hd (cs := #[.int .i64 a1_0,.bool a1_1,.int .i64 a1_2,.string a1_3]) (t := 50) ?hr ?_;(case hd => rfl);(case hg => rfl);(case hr => first | (go_simp;done) | (go_simp;rfl));intro gb127 hg w35 hbox hb;have n0_ := Aside0.mk (blk_below (g := gb126) (o := .cells #[.int .i64 a0_0,.bool a0_1,.int .i64 a0_2,.string a0_3] 50 (0,0)) (by (with_reducible repeat (first | refine blk_drewN ?_ _ | refine blk_drew ?_ | refine blk_alloc ?_ _));exact BK126.out) hb);have n1_ := Aside0.mk (below_step (by repeat (first | (with_reducible first | exact HB.out | apply below_alloc | apply pw_below_drewN | apply below_drew1 | refine below_set ?_ GE126.out) | exact HB.out)) hb);have n2_ := Aside0.mk (hbox);have n3_ := Aside0.mk ((by rw [hg];exact (below_size (by repeat (first | (with_reducible first | exact HB.out | apply below_alloc | apply pw_below_drewN | apply below_drew1 | refine below_set ?_ GE126.out) | exact HB.out))) : w.heap.size ≤ gb127));have n4_ := Aside0.mk ((by rw [hg];exact (below_size (by repeat (first | (with_reducible first | exact HB.out | apply below_alloc | apply pw_below_drewN | apply below_drew1 | refine below_set ?_ GE126.out) | exact HB.out))) : w.heap.size ≤ gb127));have n5_ := Aside0.mk ((by rw [hg];exact Nat.ne_of_lt (blk_lt (g := gb126) (o := .cells #[.int .i64 a0_0,.bool a0_1,.int .i64 a0_2,.string a0_3] 50 (0,0)) (by (with_reducible repeat (first | refine blk_drewN ?_ _ | refine blk_drew ?_ | refine blk_alloc ?_ _));exact BK126.out)) : gb126 ≠ gb127));have n6_ := Aside0.mk ((by rw [hg];exact Nat.ne_of_gt (blk_lt (g := gb126) (o := .cells #[.int .i64 a0_0,.bool a0_1,.int .i64 a0_2,.string a0_3] 50 (0,0)) (by (with_reducible repeat (first | refine blk_drewN ?_ _ | refine blk_drew ?_ | refine blk_alloc ?_ _));exact BK126.out)) : gb127 ≠ gb126));clear BK126;clear HB;have BK126 := n0_;have HB := n1_;have BK127 := n2_;have GW127 := n3_;have GE127 := n4_;have NB126_127 := n5_;have NB127_126 := n6_;clear n0_ n1_ n2_ n3_ n4_ n5_ n6_;clear hb hbox hg;have hnb36 := NB126_127.out;have hnc36 := NB127_126.out;have hcz37_0 : w35.cell? ⟨gb126,0,none⟩ = some (.int .i64 a0_0) := (blk_cell BK126.out 0).trans rfl;have hcz37_1 : w35.cell? ⟨gb126,1,none⟩ = some (.bool a0_1) := (blk_cell BK126.out 1).trans rfl;have hcz37_2 : w35.cell? ⟨gb126,2,none⟩ = some (.int .i64 a0_2) := (blk_cell BK126.out 2).trans rfl;have hcz37_3 : w35.cell? ⟨gb126,3,none⟩ = some (.string a0_3) := (blk_cell BK126.out 3).trans rfl;have hfz37_0 := blk_frozen BK126.out 0;have hfz37_1 := blk_frozen BK126.out 1;have hfz37_2 := blk_frozen BK126.out 2;have hfz37_3 := blk_frozen BK126.out 3;have hcz38_0 : w35.cell? ⟨gb127,0,none⟩ = some (.int .i64 a1_0) := (blk_cell BK127.out 0).trans rfl;have hcz38_1 : w35.cell? ⟨gb127,1,none⟩ = some (.bool a1_1) := (blk_cell BK127.out 1).trans rfl;have hcz38_2 : w35.cell? ⟨gb127,2,none⟩ = some (.int .i64 a1_2) := (blk_cell BK127.out 2).trans rfl;have hcz38_3 : w35.cell? ⟨gb127,3,none⟩ = some (.string a1_3) := (blk_cell BK127.out 3).trans rfl;have hfz38_0 := blk_frozen BK127.out 0;have hfz38_1 := blk_frozen BK127.out 1;have hfz38_2 := blk_frozen BK127.out 2;have hfz38_3 := blk_frozen BK127.out 3) | (go_at_call 63;(with_reducible refine (cmp_Compare_63.calls a0_0 a1_0 t128 _ A33.out).mono ?_);rintro e w' ⟨rfl,⟨nd,rfl⟩⟩;(try first | exact ⟨rfl,_,World.drewN_drewN _ _ _⟩ | exact ⟨rfl,_,Eq.trans (World.drewN_drewN _ _ _) (congrArg (World.drewN _) (Nat.add_assoc _ _ _))⟩)))
    repeat (go_quiet (first | ((with_reducible refine gate_dst (N := 2) rfl ?_);refine box_event ?hg (N := 2) ?hd (cs := #[.int .i64 a0_0,.bool a0_1,.int .i64 a0_2,.string a0_3]) (t := 50) ?hr ?_;(case hd => rfl);(case hg => rfl);(case hr => first | (go_simp;done) | (go_simp;rfl));intro gb126 hg w34 hbox hb;have n0_ := Aside0.mk (below_step (by repeat (first | (with_reducible first | exact HB.out | apply below_alloc | apply pw_below_drewN | apply below_drew1) | exact HB.out)) hb);have n1_ := Aside0.mk (hbox);have n2_ := Aside0.mk ((by rw [hg];exact (below_size (by repeat (first | (with_reducible first | exact HB.out | apply below_alloc | apply pw_below_drewN | apply below_drew1) | exact HB.out))) : w.heap.size ≤ gb126));have n3_ := Aside0.mk ((by rw [hg];exact (below_size (by repeat (first | (with_reducible first | exact HB.out | apply below_alloc | apply pw_below_drewN | apply below_drew1) | exact HB.out))) : w.heap.size ≤ gb126));clear HB;have HB := n0_;have BK126 := n1_;have GW126 := n2_;have GE126 := n3_;clear n0_ n1_ n2_ n3_;clear hb hbox hg) | ((with_reducible refine gate_dst (N := 3) rfl ?_);refine box_event ?hg (N := 3) ?hd (cs := #[.int .i64 a1_0,.bool a1_1,.int .i64 a1_2,.string a1_3]) (t := 50) ?hr ?_;(case hd => rfl);(case hg => rfl);(case hr => first | (go_simp;done) | (go_simp;rfl));intro gb127 hg w35 hbox hb;have n0_ := Aside0.mk (blk_below (g := gb126) (o := .cells #[.int .i64 a0_0,.bool a0_1,.int .i64 a0_2,.string a0_3] 50 (0,0)) (by (with_reducible repeat (first | refine blk_drewN ?_ _ | refine blk_drew ?_ | refine blk_alloc ?_ _));exact BK126.out) hb);have n1_ := Aside0.mk (below_step (by repeat (first | (with_reducible first | exact HB.out | apply below_alloc | apply pw_below_drewN | apply below_drew1 | refine below_set ?_ GE126.out) | exact HB.out)) hb);have n2_ := Aside0.mk (hbox);have n3_ := Aside0.mk ((by rw [hg];exact (below_size (by repeat (first | (with_reducible first | exact HB.out | apply below_alloc | apply pw_below_drewN | apply below_drew1 | refine below_set ?_ GE126.out) | exact HB.out))) : w.heap.size ≤ gb127));have n4_ := Aside0.mk ((by rw [hg];exact (below_size (by repeat (first | (with_reducible first | exact HB.out | apply below_alloc | apply pw_below_drewN | apply below_drew1 | refine below_set ?_ GE126.out) | exact HB.out))) : w.heap.size ≤ gb127));have n5_ := Aside0.mk ((by rw [hg];exact Nat.ne_of_lt (blk_lt (g := gb126) (o := .cells #[.int .i64 a0_0,.bool a0_1,.int .i64 a0_2,.string a0_3] 50 (0,0)) (by (with_reducible repeat (first | refine blk_drewN ?_ _ | refine blk_drew ?_ | refine blk_alloc ?_ _));exact BK126.out)) : gb126 ≠ gb127));have n6_ := Aside0.mk ((by rw [hg];exact Nat.ne_of_gt (blk_lt (g := gb126) (o := .cells #[.int .i64 a0_0,.bool a0_1,.int .i64 a0_2,.string a0_3] 50 (0,0)) (by (with_reducible repeat (first | refine blk_drewN ?_ _ | refine blk_drew ?_ | refine blk_alloc ?_ _));exact BK126.out)) : gb127 ≠ gb126));clear BK126;clear HB;have BK126 := n0_;have HB := n1_;have BK127 := n2_;have GW127 := n3_;have GE127 := n4_;have NB126_127 := n5_;have NB127_126 := n6_;clear n0_ n1_ n2_ n3_ n4_ n5_ n6_;clear hb hbox hg;have hnb36 := NB126_127.out;have hnc36 := NB127_126.out;have hcz37_0 : w35.cell? ⟨gb126,0,none⟩ = some (.int .i64 a0_0) := (blk_cell BK126.out 0).trans rfl;have hcz37_1 : w35.cell? ⟨gb126,1,none⟩ = some (.bool a0_1) := (blk_cell BK126.out 1).trans rfl;have hcz37_2 : w35.cell? ⟨gb126,2,none⟩ = some (.int .i64 a0_2) := (blk_cell BK126.out 2).trans rfl;have hcz37_3 : w35.cell? ⟨gb126,3,none⟩ = some (.string a0_3) := (blk_cell BK126.out 3).trans rfl;have hfz37_0 := blk_frozen BK126.out 0;have hfz37_1 := blk_frozen BK126.out 1;have hfz37_2 := blk_frozen BK126.out 2;have hfz37_3 := blk_frozen BK126.out 3;have hcz38_0 : w35.cell? ⟨gb127,0,none⟩ = some (.int .i64 a1_0) := (blk_cell BK127.out 0).trans rfl;have hcz38_1 : w35.cell? ⟨gb127,1,none⟩ = some (.bool a1_1) := (blk_cell BK127.out 1).trans rfl;have hcz38_2 : w35.cell? ⟨gb127,2,none⟩ = some (.int .i64 a1_2) := (blk_cell BK127.out 2).trans rfl;have hcz38_3 : w35.cell? ⟨gb127,3,none⟩ = some (.string a1_3) := (blk_cell BK127.out 3).trans rfl;have hfz38_0 := blk_frozen BK127.out 0;have hfz38_1 := blk_frozen BK127.out 1;have hfz38_2 := blk_frozen BK127.out 2;have hfz38_3 := blk_frozen BK127.out 3) | (go_at_call 63;(with_reducible refine (cmp_Compare_63.calls a0_0 a1_0 t128 _ A33.out).mono ?_);rintro e w' ⟨rfl,⟨nd,rfl⟩⟩;(try first | exact ⟨rfl,_,World.drewN_drewN _ _ _⟩ | exact ⟨rfl,_,Eq.trans (World.drewN_drewN _ _ _) (congrArg (World.drewN _) (Nat.add_assoc _ _ _))⟩)));try go_wp2_with (first | ((with_reducible refine gate_dst (N := 2) rfl ?_);refine box_event ?hg (N := 2) ?hd (cs := #[.int .i64 a0_0,.bool a0_1,.int .i64 a0_2,.string a0_3]) (t := 50) ?hr ?_;(case hd => rfl);(case hg => rfl);(case hr => first | (go_simp;done) | (go_simp;rfl));intro gb126 hg w34 hbox hb;have n0_ := Aside0.mk (below_step (by repeat (first | (with_reducible first | exact HB.out | apply below_alloc | apply pw_below_drewN | apply below_drew1) | exact HB.out)) hb);have n1_ := Aside0.mk (hbox);have n2_ := Aside0.mk ((by rw [hg];exact (below_size (by repeat (first | (with_reducible first | exact HB.out | apply below_alloc | apply pw_below_drewN | apply below_drew1) | exact HB.out))) : w.heap.size ≤ gb126));have n3_ := Aside0.mk ((by rw [hg];exact (below_size (by repeat (first | (with_reducible first | exact HB.out | apply below_alloc | apply pw_below_drewN | apply below_drew1) | exact HB.out))) : w.heap.size ≤ gb126));clear HB;have HB := n0_;have BK126 := n1_;have GW126 := n2_;have GE126 := n3_;clear n0_ n1_ n2_ n3_;clear hb hbox hg) | ((with_reducible refine gate_dst (N := 3) rfl ?_);refine box_event ?hg (N := 3) ?hd (cs := #[.int .i64 a1_0,.bool a1_1,.int .i64 a1_2,.string a1_3]) (t := 50) ?hr ?_;(case hd => rfl);(case hg => rfl);(case hr => first | (go_simp;done) | (go_simp;rfl));intro gb127 hg w35 hbox hb;have n0_ := Aside0.mk (blk_below (g := gb126) (o := .cells #[.int .i64 a0_0,.bool a0_1,.int .i64 a0_2,.string a0_3] 50 (0,0)) (by (with_reducible repeat (first | refine blk_drewN ?_ _ | refine blk_drew ?_ | refine blk_alloc ?_ _));exact BK126.out) hb);have n1_ := Aside0.mk (below_step (by repeat (first | (with_reducible first | exact HB.out | apply below_alloc | apply pw_below_drewN | apply below_drew1 | refine below_set ?_ GE126.out) | exact HB.out)) hb);have n2_ := Aside0.mk (hbox);have n3_ := Aside0.mk ((by rw [hg];exact (below_size (by repeat (first | (with_reducible first | exact HB.out | apply below_alloc | apply pw_below_drewN | apply below_drew1 | refine below_set ?_ GE126.out) | exact HB.out))) : w.heap.size ≤ gb127));have n4_ := Aside0.mk ((by rw [hg];exact (below_size (by repeat (first | (with_reducible first | exact HB.out | apply below_alloc | apply pw_below_drewN | apply below_drew1 | refine below_set ?_ GE126.out) | exact HB.out))) : w.heap.size ≤ gb127));have n5_ := Aside0.mk ((by rw [hg];exact Nat.ne_of_lt (blk_lt (g := gb126) (o := .cells #[.int .i64 a0_0,.bool a0_1,.int .i64 a0_2,.string a0_3] 50 (0,0)) (by (with_reducible repeat (first | refine blk_drewN ?_ _ | refine blk_drew ?_ | refine blk_alloc ?_ _));exact BK126.out)) : gb126 ≠ gb127));have n6_ := Aside0.mk ((by rw [hg];exact Nat.ne_of_gt (blk_lt (g := gb126) (o := .cells #[.int .i64 a0_0,.bool a0_1,.int .i64 a0_2,.string a0_3] 50 (0,0)) (by (with_reducible repeat (first | refine blk_drewN ?_ _ | refine blk_drew ?_ | refine blk_alloc ?_ _));exact BK126.out)) : gb127 ≠ gb126));clear BK126;clear HB;have BK126 := n0_;have HB := n1_;have BK127 := n2_;have GW127 := n3_;have GE127 := n4_;have NB126_127 := n5_;have NB127_126 := n6_;clear n0_ n1_ n2_ n3_ n4_ n5_ n6_;clear hb hbox hg;have hnb36 := NB126_127.out;have hnc36 := NB127_126.out;have hcz37_0 : w35.cell? ⟨gb126,0,none⟩ = some (.int .i64 a0_0) := (blk_cell BK126.out 0).trans rfl;have hcz37_1 : w35.cell? ⟨gb126,1,none⟩ = some (.bool a0_1) := (blk_cell BK126.out 1).trans rfl;have hcz37_2 : w35.cell? ⟨gb126,2,none⟩ = some (.int .i64 a0_2) := (blk_cell BK126.out 2).trans rfl;have hcz37_3 : w35.cell? ⟨gb126,3,none⟩ = some (.string a0_3) := (blk_cell BK126.out 3).trans rfl;have hfz37_0 := blk_frozen BK126.out 0;have hfz37_1 := blk_frozen BK126.out 1;have hfz37_2 := blk_frozen BK126.out 2;have hfz37_3 := blk_frozen BK126.out 3;have hcz38_0 : w35.cell? ⟨gb127,0,none⟩ = some (.int .i64 a1_0) := (blk_cell BK127.out 0).trans rfl;have hcz38_1 : w35.cell? ⟨gb127,1,none⟩ = some (.bool a1_1) := (blk_cell BK127.out 1).trans rfl;have hcz38_2 : w35.cell? ⟨gb127,2,none⟩ = some (.int .i64 a1_2) := (blk_cell BK127.out 2).trans rfl;have hcz38_3 : w35.cell? ⟨gb127,3,none⟩ = some (.string a1_3) := (blk_cell BK127.out 3).trans rfl;have hfz38_0 := blk_frozen BK127.out 0;have hfz38_1 := blk_frozen BK127.out 1;have hfz38_2 := blk_frozen BK127.out 2;have hfz38_3 := blk_frozen BK127.out 3) | (go_at_call 63;(with_reducible refine (cmp_Compare_63.calls a0_0 a1_0 t128 _ A33.out).mono ?_);rintro e w' ⟨rfl,⟨nd,rfl⟩⟩;(try first | exact ⟨rfl,_,World.drewN_drewN _ _ _⟩ | exact ⟨rfl,_,Eq.trans (World.drewN_drewN _ _ _) (congrArg (World.drewN _) (Nat.add_assoc _ _ _))⟩))))
    go_ret
    exact ⟨by first | rfl | (simp [errW_none,errW_some] <;> rfl) | (simp [*,errW_none,errW_some] <;> rfl),by repeat (first | (with_reducible first | exact HB.out | apply below_alloc | apply pw_below_drewN | apply below_drew1 | refine below_set ?_ GE126.out | refine below_set ?_ GE127.out) | exact HB.out)⟩
end Go.Proofs.Ytfoaeigoajooeaa.Z
end
section
namespace Go.Proofs.Ytfoaeigoajooeaa.Z
open Go.RowKit Go.Proofs.YtfoaeigoajooeaaW.PrintWords Go.Proofs.YtfoaeigoajooeaaW.PrintLast Go.Proofs.YtfoaeigoajooeaaW.PrintMore
attribute [local go_sem] max2_int min2_int max_two min_two max_three min_three max_four min_four
set_option linter.unusedVariables false
set_option linter.unusedSimpArgs false
def slices_CompareFunc.l0 : Nat → List (S50) → List (S50) → List (S50) → Int → Int → Option (Int)
  | 0,_,_,_,_,_ => none
  | k + 1,x0,x1,x11,x12,x13 => if x13 < x12 then (if 0 ≤ x13 then (if x13 < (x11.length : Int) then (if x13 ≥ (x1.length : Int) then (some 1) else (if x13 < (x1.length : Int) then ((value_Compare.f ((rd_T50 x11 x13).f0) ((rd_T50 x11 x13).f1) ((rd_T50 x11 x13).f2) ((rd_T50 x11 x13).f3) ((rd_T50 x1 x13).f0) ((rd_T50 x1 x13).f1) ((rd_T50 x1 x13).f2) ((rd_T50 x1 x13).f3)).bind fun t138 => (if t138 = 0 then (slices_CompareFunc.l0 k x0 x1 x11 x12 (wrap64 (x13 + 1))) else (some t138))) else (none))) else (none)) else (none)) else (if (x0.length : Int) < (x1.length : Int) then (some (-1)) else (some 0))
def slices_CompareFunc.f (k : Nat) (l0 : List (S50)) (l1 : List (S50)) (a2 : Int) : Option (Int) := slices_CompareFunc.l0 k l0 l1 l0 (l0.length : Int) 0
theorem slices_CompareFunc.mono_l : ∀ k,(∀ y0 y1 y2 y3 y4,LeO (slices_CompareFunc.l0 k y0 y1 y2 y3 y4) (slices_CompareFunc.l0 (k + 1) y0 y1 y2 y3 y4))
  | 0 => fun _ _ _ _ _ r h => by simp [slices_CompareFunc.l0] at h
  | k + 1 => by
    have ih0 := slices_CompareFunc.mono_l k
    · intro y0 y1 y2 y3 y4
      unfold slices_CompareFunc.l0
      repeat' first
      | (with_reducible exact ih0 _ _ _ _ _)
      | (with_reducible exact LeO.refl _)
      | (with_reducible exact LeO.none _)
      | (with_reducible refine LeO.ite ?_ ?_)
      | (with_reducible refine LeO.bind ?_ (fun _ => ?_))
      | exact ih0 _ _ _ _ _
      | exact LeO.none _
      | refine LeO.ite ?_ ?_
      | refine LeO.bind ?_ (fun _ => ?_)
theorem slices_CompareFunc.mono : ∀ a0 a1 a2 k,LeO (slices_CompareFunc.f k a0 a1 a2) (slices_CompareFunc.f (k + 1) a0 a1 a2) := by
  intro a0 a1 a2 k
  have ih0 := slices_CompareFunc.mono_l k
  unfold slices_CompareFunc.f
  repeat' first
      | (with_reducible exact ih0 _ _ _ _ _)
      | (with_reducible exact LeO.refl _)
      | (with_reducible exact LeO.none _)
      | (with_reducible refine LeO.ite ?_ ?_)
      | (with_reducible refine LeO.bind ?_ (fun _ => ?_))
      | exact ih0 _ _ _ _ _
      | exact LeO.none _
      | refine LeO.ite ?_ ?_
      | refine LeO.bind ?_ (fun _ => ?_)
set_option maxHeartbeats 8000000 in
set_option maxRecDepth 100000 in
theorem slices_CompareFunc.calls (k : Nat) (A0 : Option Addr) (c0 : Nat) (l0 : List (S50)) (A1 : Option Addr) (c1 : Nat) (l1 : List (S50)) (a2 : Int) (r : Int) (w : World) (hr0 : Kd.C k50 w A0 l0.length l0) (hc0 : l0.length ≤ c0) (hr1 : Kd.C k50 w A1 l1.length l1) (hc1 : l1.length ≤ c1) (h : slices_CompareFunc.f k l0 l1 a2 = some r) :
    Calls Try.prog 45 #[.slice A0 l0.length c0,.slice A1 l1.length c1,.func (.func 46) #[] #[]] w fun e w' => e = .returned (.int .i64 r) ∧ Below w.heap.size w w' := by
  have hu50 := Try.underlying50
  have HR0 := Aside0.mk hr0
  have HC0 := Aside0.mk hc0
  clear hr0 hc0
  have HR1 := Aside0.mk hr1
  have HC1 := Aside0.mk hc1
  clear hr1 hc1
  have HB := Aside0.mk (Below.refl w.heap.size w)
  have H : (slices_CompareFunc.l0 k l0 l1 l0 (l0.length : Int) 0) = some r := h
  clear h
  have H' := Aside0.mk H
  clear H
  go_enter Try.func45,Try.ntmps45
  go_wp2
  go_loopg [13] k (fun kq v13 w' => ∃ (x13_1 : Int),v13 = .int .i64 x13_1 ∧ Aside0 (slices_CompareFunc.l0 kq l0 l1 l0 (l0.length : Int) x13_1 = some r) ∧ Aside0 (kq ≤ k) ∧ Aside0 (Below w.heap.size w w'))
  case atStart => exact ⟨(0),(by first | rfl | (simp;done) | (simp [*];done)),H',⟨Nat.le_refl _⟩,⟨by repeat (first | (with_reducible first | exact HB.out | apply below_alloc | apply pw_below_drewN | apply below_drew1) | exact HB.out)⟩⟩
  case round =>
    clear H'
    try clear c1
    try clear p2
    obtain ⟨x13_1,rfl,HA,HK1,HB⟩ := hrel
    cases gk with
    | zero => exact absurd HA.out (by simp [slices_CompareFunc.l0])
    | succ k1 =>
      have H := HA.out
      clear HA
      simp only [slices_CompareFunc.l0] at H
      by_cases c4 : x13_1 < (l0.length : Int)
      · rw [if_pos c4] at H
        have c4b0 : decide (x13_1 < (l0.length : Int)) = true := decide_eq_true c4
        clear c4
        by_cases c5 : 0 ≤ x13_1
        · rw [if_pos c5] at H
          have c5b0 : decide (0 ≤ x13_1) = true := decide_eq_true c5
          clear c5
          by_cases c6 : x13_1 < (l0.length : Int)
          · rw [if_pos c6] at H
            have c6b0 : decide (x13_1 < (l0.length : Int)) = true := decide_eq_true c6
            clear c6
            by_cases c7 : x13_1 ≥ (l1.length : Int)
            · rw [if_pos c7] at H
              have c7b0 : decide ((l1.length : Int) ≤ x13_1) = true := decide_eq_true c7
              clear c7
              obtain rfl := Option.some.inj H
              have p134 : 0 ≤ (x13_1 : Int) := of_decide_eq_true (by first | (with_reducible assumption) | assumption)
              have q134 : x13_1 < (l0.length : Int) := of_decide_eq_true (by first | (with_reducible assumption) | assumption)
              obtain ⟨ad134,e134,hx134_0,hx134_1,hx134_2,hx134_3⟩ := at_T50 HR0.out x13_1 p134 q134
              cases e134
              replace hx134_0 := (HB.out.cell (World.block_lt_of_cell? w _ hx134_0)).trans hx134_0
              replace hx134_1 := (HB.out.cell (World.block_lt_of_cell? w _ hx134_1)).trans hx134_1
              replace hx134_2 := (HB.out.cell (World.block_lt_of_cell? w _ hx134_2)).trans hx134_2
              replace hx134_3 := (HB.out.cell (World.block_lt_of_cell? w _ hx134_3)).trans hx134_3
              replace p134 := eq_true p134
              replace q134 := eq_true q134
              go_wp2_with (first | ((with_reducible refine gate_dst (N := 8) rfl ?_);refine box_event ?hg (N := 8) ?hd (cs := #[.int .i64 0,.bool false,.int .i64 0,.string (⟨#[]⟩ : ByteArray)]) (t := 50) ?hr ?_;(case hd => rfl);(case hg => rfl);(case hr => first | (go_simp;done) | (go_simp;rfl));intro gb135 hg w8 hbox hb;have n0_ := Aside0.mk (below_step (by repeat (first | (with_reducible first | exact HB.out | apply below_alloc | apply pw_below_drewN | apply below_drew1) | exact HB.out)) hb);have n1_ := Aside0.mk (hbox);have n2_ := Aside0.mk ((by rw [hg];exact (below_size (by repeat (first | (with_reducible first | exact HB.out | apply below_alloc | apply pw_below_drewN | apply below_drew1) | exact HB.out))) : w.heap.size ≤ gb135));have n3_ := Aside0.mk ((by rw [hg];exact (below_size (by repeat (first | (with_reducible first | exact HB.out | apply below_alloc | apply pw_below_drewN | apply below_drew1) | exact HB.out))) : w.heap.size ≤ gb135));clear HB;have HB := n0_;have BK135 := n1_;have GW135 := n2_;have GE135 := n3_;clear n0_ n1_ n2_ n3_;clear hb hbox hg;have hcz9_0 : w8.cell? ⟨gb135,0,none⟩ = some (.int .i64 0) := (blk_cell BK135.out 0).trans rfl;have hcz9_1 : w8.cell? ⟨gb135,1,none⟩ = some (.bool false) := (blk_cell BK135.out 1).trans rfl;have hcz9_2 : w8.cell? ⟨gb135,2,none⟩ = some (.int .i64 0) := (blk_cell BK135.out 2).trans rfl;have hcz9_3 : w8.cell? ⟨gb135,3,none⟩ = some (.string (⟨#[]⟩ : ByteArray)) := (blk_cell BK135.out 3).trans rfl;have hfz9_0 := blk_frozen BK135.out 0;have hfz9_1 := blk_frozen BK135.out 1;have hfz9_2 := blk_frozen BK135.out 2;have hfz9_3 := blk_frozen BK135.out 3))
              go_ret
              exact ⟨by first | rfl | (simp [errW_none,errW_some] <;> rfl) | (simp [*,errW_none,errW_some] <;> rfl),by repeat (first | (with_reducible first | exact HB.out | apply below_alloc | apply pw_below_drewN | apply below_drew1 | refine below_set ?_ GE135.out) | exact HB.out)⟩
            · rw [if_neg c7] at H
              have c7b0 : decide ((l1.length : Int) ≤ x13_1) = false := decide_eq_false c7
              clear c7
              by_cases c10 : x13_1 < (l1.length : Int)
              · rw [if_pos c10] at H
                have c10b0 : decide (x13_1 < (l1.length : Int)) = true := decide_eq_true c10
                clear c10
                replace H := Option.bind_eq_some_iff.mp H
                obtain ⟨t138,A110,H⟩ := H
                replace H : (if t138 = 0 then (slices_CompareFunc.l0 k1 l0 l1 l0 (l0.length : Int) (wrap64 (x13_1 + 1))) else (some t138)) = some r := H
                have A11 := Aside0.mk A110
                clear A110
                by_cases c12 : t138 = 0
                · rw [if_pos c12] at H
                  have c12b0 : (t138 == 0) = true := beq_iff_eq.mpr c12
                  have c12b1 : (t138 != 0) = false := bne_eq_false_iff_eq.mpr c12
                  clear c12
                  have H' := Aside0.mk H
                  clear H
                  have p134 : 0 ≤ (x13_1 : Int) := of_decide_eq_true (by first | (with_reducible assumption) | assumption)
                  have q134 : x13_1 < (l0.length : Int) := of_decide_eq_true (by first | (with_reducible assumption) | assumption)
                  obtain ⟨ad134,e134,hx134_0,hx134_1,hx134_2,hx134_3⟩ := at_T50 HR0.out x13_1 p134 q134
                  cases e134
                  replace hx134_0 := (HB.out.cell (World.block_lt_of_cell? w _ hx134_0)).trans hx134_0
                  replace hx134_1 := (HB.out.cell (World.block_lt_of_cell? w _ hx134_1)).trans hx134_1
                  replace hx134_2 := (HB.out.cell (World.block_lt_of_cell? w _ hx134_2)).trans hx134_2
                  replace hx134_3 := (HB.out.cell (World.block_lt_of_cell? w _ hx134_3)).trans hx134_3
                  replace p134 := eq_true p134
                  replace q134 := eq_true q134
                  go_wp2_with (first | ((with_reducible refine gate_dst (N := 8) rfl ?_);refine box_event ?hg (N := 8) ?hd (cs := #[.int .i64 0,.bool false,.int .i64 0,.string (⟨#[]⟩ : ByteArray)]) (t := 50) ?hr ?_;(case hd => rfl);(case hg => rfl);(case hr => first | (go_simp;done) | (go_simp;rfl));intro gb135 hg w13 hbox hb;have n0_ := Aside0.mk (below_step (by repeat (first | (with_reducible first | exact HB.out | apply below_alloc | apply pw_below_drewN | apply below_drew1) | exact HB.out)) hb);have n1_ := Aside0.mk (hbox);have n2_ := Aside0.mk ((by rw [hg];exact (below_size (by repeat (first | (with_reducible first | exact HB.out | apply below_alloc | apply pw_below_drewN | apply below_drew1) | exact HB.out))) : w.heap.size ≤ gb135));have n3_ := Aside0.mk ((by rw [hg];exact (below_size (by repeat (first | (with_reducible first | exact HB.out | apply below_alloc | apply pw_below_drewN | apply below_drew1) | exact HB.out))) : w.heap.size ≤ gb135));clear HB;have HB := n0_;have BK135 := n1_;have GW135 := n2_;have GE135 := n3_;clear n0_ n1_ n2_ n3_;clear hb hbox hg;have hcz14_0 : w13.cell? ⟨gb135,0,none⟩ = some (.int .i64 0) := (blk_cell BK135.out 0).trans rfl;have hcz14_1 : w13.cell? ⟨gb135,1,none⟩ = some (.bool false) := (blk_cell BK135.out 1).trans rfl;have hcz14_2 : w13.cell? ⟨gb135,2,none⟩ = some (.int .i64 0) := (blk_cell BK135.out 2).trans rfl;have hcz14_3 : w13.cell? ⟨gb135,3,none⟩ = some (.string (⟨#[]⟩ : ByteArray)) := (blk_cell BK135.out 3).trans rfl;have hfz14_0 := blk_frozen BK135.out 0;have hfz14_1 := blk_frozen BK135.out 1;have hfz14_2 := blk_frozen BK135.out 2;have hfz14_3 := blk_frozen BK135.out 3;have p136 : 0 ≤ (x13_1 : Int) := of_decide_eq_true (by first | (with_reducible assumption) | assumption);have q136 : x13_1 < (l1.length : Int) := of_decide_eq_true (by first | (with_reducible assumption) | assumption);obtain ⟨ad136,e136,hx136_0,hx136_1,hx136_2,hx136_3⟩ := at_T50 HR1.out x13_1 p136 q136;cases e136;have hn136_0 : ad136.block ≠ gb135 := Nat.ne_of_lt (Nat.lt_of_lt_of_le (by have := World.block_lt_of_cell? _ _ hx136_0;first | rwa [add_block] at this | exact this) GW135.out);have hn136_1 : ad136.block ≠ gb135 := Nat.ne_of_lt (Nat.lt_of_lt_of_le (by have := World.block_lt_of_cell? _ _ hx136_0;first | rwa [add_block] at this | exact this) GW135.out);have hn136_2 : ad136.block ≠ gb135 := Nat.ne_of_lt (Nat.lt_of_lt_of_le (by have := World.block_lt_of_cell? _ _ hx136_0;first | rwa [add_block] at this | exact this) GW135.out);have hn136_3 : ad136.block ≠ gb135 := Nat.ne_of_lt (Nat.lt_of_lt_of_le (by have := World.block_lt_of_cell? _ _ hx136_0;first | rwa [add_block] at this | exact this) GW135.out);replace hx136_0 := (HB.out.cell (World.block_lt_of_cell? w _ hx136_0)).trans hx136_0;replace hx136_1 := (HB.out.cell (World.block_lt_of_cell? w _ hx136_1)).trans hx136_1;replace hx136_2 := (HB.out.cell (World.block_lt_of_cell? w _ hx136_2)).trans hx136_2;replace hx136_3 := (HB.out.cell (World.block_lt_of_cell? w _ hx136_3)).trans hx136_3;replace hx136_0 := (cell_far (p := ⟨gb135,0,none⟩) (by first | (rw [add_block];exact hn136_0) | (show (Addr.add _ _).block ≠ _;rw [add_block];exact hn136_0) | exact hn136_0) (.int .i64 ((rd_T50 l0 x13_1).f0))).trans hx136_0;replace hx136_1 := (cell_far (p := ⟨gb135,0,none⟩) (by first | (rw [add_block];exact hn136_0) | (show (Addr.add _ _).block ≠ _;rw [add_block];exact hn136_0) | exact hn136_0) (.int .i64 ((rd_T50 l0 x13_1).f0))).trans hx136_1;replace hx136_2 := (cell_far (p := ⟨gb135,0,none⟩) (by first | (rw [add_block];exact hn136_0) | (show (Addr.add _ _).block ≠ _;rw [add_block];exact hn136_0) | exact hn136_0) (.int .i64 ((rd_T50 l0 x13_1).f0))).trans hx136_2;replace hx136_3 := (cell_far (p := ⟨gb135,0,none⟩) (by first | (rw [add_block];exact hn136_0) | (show (Addr.add _ _).block ≠ _;rw [add_block];exact hn136_0) | exact hn136_0) (.int .i64 ((rd_T50 l0 x13_1).f0))).trans hx136_3;replace hx136_0 := (cell_far (p := ⟨gb135,1,none⟩) (by first | (rw [add_block];exact hn136_1) | (show (Addr.add _ _).block ≠ _;rw [add_block];exact hn136_1) | exact hn136_1) (.bool ((rd_T50 l0 x13_1).f1))).trans hx136_0;replace hx136_1 := (cell_far (p := ⟨gb135,1,none⟩) (by first | (rw [add_block];exact hn136_1) | (show (Addr.add _ _).block ≠ _;rw [add_block];exact hn136_1) | exact hn136_1) (.bool ((rd_T50 l0 x13_1).f1))).trans hx136_1;replace hx136_2 := (cell_far (p := ⟨gb135,1,none⟩) (by first | (rw [add_block];exact hn136_1) | (show (Addr.add _ _).block ≠ _;rw [add_block];exact hn136_1) | exact hn136_1) (.bool ((rd_T50 l0 x13_1).f1))).trans hx136_2;replace hx136_3 := (cell_far (p := ⟨gb135,1,none⟩) (by first | (rw [add_block];exact hn136_1) | (show (Addr.add _ _).block ≠ _;rw [add_block];exact hn136_1) | exact hn136_1) (.bool ((rd_T50 l0 x13_1).f1))).trans hx136_3;replace hx136_0 := (cell_far (p := ⟨gb135,2,none⟩) (by first | (rw [add_block];exact hn136_2) | (show (Addr.add _ _).block ≠ _;rw [add_block];exact hn136_2) | exact hn136_2) (.int .i64 ((rd_T50 l0 x13_1).f2))).trans hx136_0;replace hx136_1 := (cell_far (p := ⟨gb135,2,none⟩) (by first | (rw [add_block];exact hn136_2) | (show (Addr.add _ _).block ≠ _;rw [add_block];exact hn136_2) | exact hn136_2) (.int .i64 ((rd_T50 l0 x13_1).f2))).trans hx136_1;replace hx136_2 := (cell_far (p := ⟨gb135,2,none⟩) (by first | (rw [add_block];exact hn136_2) | (show (Addr.add _ _).block ≠ _;rw [add_block];exact hn136_2) | exact hn136_2) (.int .i64 ((rd_T50 l0 x13_1).f2))).trans hx136_2;replace hx136_3 := (cell_far (p := ⟨gb135,2,none⟩) (by first | (rw [add_block];exact hn136_2) | (show (Addr.add _ _).block ≠ _;rw [add_block];exact hn136_2) | exact hn136_2) (.int .i64 ((rd_T50 l0 x13_1).f2))).trans hx136_3;replace hx136_0 := (cell_far (p := ⟨gb135,3,none⟩) (by first | (rw [add_block];exact hn136_3) | (show (Addr.add _ _).block ≠ _;rw [add_block];exact hn136_3) | exact hn136_3) (.string ((rd_T50 l0 x13_1).f3))).trans hx136_0;replace hx136_1 := (cell_far (p := ⟨gb135,3,none⟩) (by first | (rw [add_block];exact hn136_3) | (show (Addr.add _ _).block ≠ _;rw [add_block];exact hn136_3) | exact hn136_3) (.string ((rd_T50 l0 x13_1).f3))).trans hx136_1;replace hx136_2 := (cell_far (p := ⟨gb135,3,none⟩) (by first | (rw [add_block];exact hn136_3) | (show (Addr.add _ _).block ≠ _;rw [add_block];exact hn136_3) | exact hn136_3) (.string ((rd_T50 l0 x13_1).f3))).trans hx136_2;replace hx136_3 := (cell_far (p := ⟨gb135,3,none⟩) (by first | (rw [add_block];exact hn136_3) | (show (Addr.add _ _).block ≠ _;rw [add_block];exact hn136_3) | exact hn136_3) (.string ((rd_T50 l0 x13_1).f3))).trans hx136_3;clear hn136_0;clear hn136_1;clear hn136_2;clear hn136_3;replace p136 := eq_true p136;replace q136 := eq_true q136) | ((with_reducible refine gate_dst (N := 9) rfl ?_);refine box_event ?hg (N := 9) ?hd (cs := #[.int .i64 0,.bool false,.int .i64 0,.string (⟨#[]⟩ : ByteArray)]) (t := 50) ?hr ?_;(case hd => rfl);(case hg => rfl);(case hr => first | (go_simp;done) | (go_simp;rfl));intro gb137 hg w15 hbox hb;have n0_ := Aside0.mk (blk_below (g := gb135) (o := .cells #[.int .i64 ((rd_T50 l0 x13_1).f0),.bool ((rd_T50 l0 x13_1).f1),.int .i64 ((rd_T50 l0 x13_1).f2),.string ((rd_T50 l0 x13_1).f3)] 50 (0,0)) (by (with_reducible repeat (first | refine blk_drewN ?_ _ | refine blk_drew ?_ | refine blk_alloc ?_ _));refine blk_put (cs := #[.int .i64 ((rd_T50 l0 x13_1).f0),.bool ((rd_T50 l0 x13_1).f1),.int .i64 ((rd_T50 l0 x13_1).f2),.string (⟨#[]⟩ : ByteArray)]) ?_ 3 _ rfl;(with_reducible repeat (first | refine blk_drewN ?_ _ | refine blk_drew ?_ | refine blk_alloc ?_ _));refine blk_put (cs := #[.int .i64 ((rd_T50 l0 x13_1).f0),.bool ((rd_T50 l0 x13_1).f1),.int .i64 0,.string (⟨#[]⟩ : ByteArray)]) ?_ 2 _ rfl;(with_reducible repeat (first | refine blk_drewN ?_ _ | refine blk_drew ?_ | refine blk_alloc ?_ _));refine blk_put (cs := #[.int .i64 ((rd_T50 l0 x13_1).f0),.bool false,.int .i64 0,.string (⟨#[]⟩ : ByteArray)]) ?_ 1 _ rfl;(with_reducible repeat (first | refine blk_drewN ?_ _ | refine blk_drew ?_ | refine blk_alloc ?_ _));refine blk_put (cs := #[.int .i64 0,.bool false,.int .i64 0,.string (⟨#[]⟩ : ByteArray)]) ?_ 0 _ rfl;(with_reducible repeat (first | refine blk_drewN ?_ _ | refine blk_drew ?_ | refine blk_alloc ?_ _));exact BK135.out) hb);have n1_ := Aside0.mk (below_step (by repeat (first | (with_reducible first | exact HB.out | apply below_alloc | apply pw_below_drewN | apply below_drew1 | refine below_set ?_ GE135.out) | exact HB.out)) hb);have n2_ := Aside0.mk (hbox);have n3_ := Aside0.mk ((by rw [hg];exact (below_size (by repeat (first | (with_reducible first | exact HB.out | apply below_alloc | apply pw_below_drewN | apply below_drew1 | refine below_set ?_ GE135.out) | exact HB.out))) : w.heap.size ≤ gb137));have n4_ := Aside0.mk ((by rw [hg];exact (below_size (by repeat (first | (with_reducible first | exact HB.out | apply below_alloc | apply pw_below_drewN | apply below_drew1 | refine below_set ?_ GE135.out) | exact HB.out))) : w.heap.size ≤ gb137));have n5_ := Aside0.mk ((by rw [hg];exact Nat.ne_of_lt (blk_lt (g := gb135) (o := .cells #[.int .i64 ((rd_T50 l0 x13_1).f0),.bool ((rd_T50 l0 x13_1).f1),.int .i64 ((rd_T50 l0 x13_1).f2),.string ((rd_T50 l0 x13_1).f3)] 50 (0,0)) (by (with_reducible repeat (first | refine blk_drewN ?_ _ | refine blk_drew ?_ | refine blk_alloc ?_ _));refine blk_put (cs := #[.int .i64 ((rd_T50 l0 x13_1).f0),.bool ((rd_T50 l0 x13_1).f1),.int .i64 ((rd_T50 l0 x13_1).f2),.string (⟨#[]⟩ : ByteArray)]) ?_ 3 _ rfl;(with_reducible repeat (first | refine blk_drewN ?_ _ | refine blk_drew ?_ | refine blk_alloc ?_ _));refine blk_put (cs := #[.int .i64 ((rd_T50 l0 x13_1).f0),.bool ((rd_T50 l0 x13_1).f1),.int .i64 0,.string (⟨#[]⟩ : ByteArray)]) ?_ 2 _ rfl;(with_reducible repeat (first | refine blk_drewN ?_ _ | refine blk_drew ?_ | refine blk_alloc ?_ _));refine blk_put (cs := #[.int .i64 ((rd_T50 l0 x13_1).f0),.bool false,.int .i64 0,.string (⟨#[]⟩ : ByteArray)]) ?_ 1 _ rfl;(with_reducible repeat (first | refine blk_drewN ?_ _ | refine blk_drew ?_ | refine blk_alloc ?_ _));refine blk_put (cs := #[.int .i64 0,.bool false,.int .i64 0,.string (⟨#[]⟩ : ByteArray)]) ?_ 0 _ rfl;(with_reducible repeat (first | refine blk_drewN ?_ _ | refine blk_drew ?_ | refine blk_alloc ?_ _));exact BK135.out)) : gb135 ≠ gb137));have n6_ := Aside0.mk ((by rw [hg];exact Nat.ne_of_gt (blk_lt (g := gb135) (o := .cells #[.int .i64 ((rd_T50 l0 x13_1).f0),.bool ((rd_T50 l0 x13_1).f1),.int .i64 ((rd_T50 l0 x13_1).f2),.string ((rd_T50 l0 x13_1).f3)] 50 (0,0)) (by (with_reducible repeat (first | refine blk_drewN ?_ _ | refine blk_drew ?_ | refine blk_alloc ?_ _));refine blk_put (cs := #[.int .i64 ((rd_T50 l0 x13_1).f0),.bool ((rd_T50 l0 x13_1).f1),.int .i64 ((rd_T50 l0 x13_1).f2),.string (⟨#[]⟩ : ByteArray)]) ?_ 3 _ rfl;(with_reducible repeat (first | refine blk_drewN ?_ _ | refine blk_drew ?_ | refine blk_alloc ?_ _));refine blk_put (cs := #[.int .i64 ((rd_T50 l0 x13_1).f0),.bool ((rd_T50 l0 x13_1).f1),.int .i64 0,.string (⟨#[]⟩ : ByteArray)]) ?_ 2 _ rfl;(with_reducible repeat (first | refine blk_drewN ?_ _ | refine blk_drew ?_ | refine blk_alloc ?_ _));refine blk_put (cs := #[.int .i64 ((rd_T50 l0 x13_1).f0),.bool false,.int .i64 0,.string (⟨#[]⟩ : ByteArray)]) ?_ 1 _ rfl;(with_reducible repeat (first | refine blk_drewN ?_ _ | refine blk_drew ?_ | refine blk_alloc ?_ _));refine blk_put (cs := #[.int .i64 0,.bool false,.int .i64 0,.string (⟨#[]⟩ : ByteArray)]) ?_ 0 _ rfl;(with_reducible repeat (first | refine blk_drewN ?_ _ | refine blk_drew ?_ | refine blk_alloc ?_ _));exact BK135.out)) : gb137 ≠ gb135));clear BK135;clear HB;have BK135 := n0_;have HB := n1_;have BK137 := n2_;have GW137 := n3_;have GE137 := n4_;have NB135_137 := n5_;have NB137_135 := n6_;clear n0_ n1_ n2_ n3_ n4_ n5_ n6_;clear hb hbox hg;have hnb16 := NB137_135.out;have hnc16 := NB135_137.out;have hcz17_0 : w15.cell? ⟨gb137,0,none⟩ = some (.int .i64 0) := (blk_cell BK137.out 0).trans rfl;have hcz17_1 : w15.cell? ⟨gb137,1,none⟩ = some (.bool false) := (blk_cell BK137.out 1).trans rfl;have hcz17_2 : w15.cell? ⟨gb137,2,none⟩ = some (.int .i64 0) := (blk_cell BK137.out 2).trans rfl;have hcz17_3 : w15.cell? ⟨gb137,3,none⟩ = some (.string (⟨#[]⟩ : ByteArray)) := (blk_cell BK137.out 3).trans rfl;have hfz17_0 := blk_frozen BK137.out 0;have hfz17_1 := blk_frozen BK137.out 1;have hfz17_2 := blk_frozen BK137.out 2;have hfz17_3 := blk_frozen BK137.out 3;have hcz18_0 : w15.cell? ⟨gb135,0,none⟩ = some (.int .i64 ((rd_T50 l0 x13_1).f0)) := (blk_cell BK135.out 0).trans rfl;have hcz18_1 : w15.cell? ⟨gb135,1,none⟩ = some (.bool ((rd_T50 l0 x13_1).f1)) := (blk_cell BK135.out 1).trans rfl;have hcz18_2 : w15.cell? ⟨gb135,2,none⟩ = some (.int .i64 ((rd_T50 l0 x13_1).f2)) := (blk_cell BK135.out 2).trans rfl;have hcz18_3 : w15.cell? ⟨gb135,3,none⟩ = some (.string ((rd_T50 l0 x13_1).f3)) := (blk_cell BK135.out 3).trans rfl;have hfz18_0 := blk_frozen BK135.out 0;have hfz18_1 := blk_frozen BK135.out 1;have hfz18_2 := blk_frozen BK135.out 2;have hfz18_3 := blk_frozen BK135.out 3) | ((with_reducible refine gate_tmp (n := 26) rfl ?_);refine goesT_ (some 29) rfl rfl Try.func46 (by kernel_rfl) rfl #[.agg #[.int .i64 ((rd_T50 l0 x13_1).f0),.bool ((rd_T50 l0 x13_1).f1),.int .i64 ((rd_T50 l0 x13_1).f2),.string ((rd_T50 l0 x13_1).f3)],.agg #[.int .i64 ((rd_T50 l1 x13_1).f0),.bool ((rd_T50 l1 x13_1).f1),.int .i64 ((rd_T50 l1 x13_1).f2),.string ((rd_T50 l1 x13_1).f3)]] rfl rfl (by (try simp only [List.map_toArray,List.map_cons,List.map_nil]);first | done | rfl | (simp only [List.length_drop,List.length_take];rfl)) ?_;(with_reducible refine (value_Compare.calls ((rd_T50 l0 x13_1).f0) ((rd_T50 l0 x13_1).f1) ((rd_T50 l0 x13_1).f2) ((rd_T50 l0 x13_1).f3) ((rd_T50 l1 x13_1).f0) ((rd_T50 l1 x13_1).f1) ((rd_T50 l1 x13_1).f2) ((rd_T50 l1 x13_1).f3) t138 _ A11.out).mono ?_);rintro e w19 ⟨rfl,hb⟩;refine ⟨_,rfl,?_⟩;have n0_ := Aside0.mk (blk_below (g := gb135) (o := .cells #[.int .i64 ((rd_T50 l0 x13_1).f0),.bool ((rd_T50 l0 x13_1).f1),.int .i64 ((rd_T50 l0 x13_1).f2),.string ((rd_T50 l0 x13_1).f3)] 50 (0,0)) (by (with_reducible repeat (first | refine blk_drewN ?_ _ | refine blk_drew ?_ | refine blk_alloc ?_ _));refine blk_far ?_ NB135_137.out _;(with_reducible repeat (first | refine blk_drewN ?_ _ | refine blk_drew ?_ | refine blk_alloc ?_ _));refine blk_far ?_ NB135_137.out _;(with_reducible repeat (first | refine blk_drewN ?_ _ | refine blk_drew ?_ | refine blk_alloc ?_ _));refine blk_far ?_ NB135_137.out _;(with_reducible repeat (first | refine blk_drewN ?_ _ | refine blk_drew ?_ | refine blk_alloc ?_ _));refine blk_far ?_ NB135_137.out _;(with_reducible repeat (first | refine blk_drewN ?_ _ | refine blk_drew ?_ | refine blk_alloc ?_ _));exact BK135.out) hb);have n1_ := Aside0.mk (blk_below (g := gb137) (o := .cells #[.int .i64 ((rd_T50 l1 x13_1).f0),.bool ((rd_T50 l1 x13_1).f1),.int .i64 ((rd_T50 l1 x13_1).f2),.string ((rd_T50 l1 x13_1).f3)] 50 (0,0)) (by (with_reducible repeat (first | refine blk_drewN ?_ _ | refine blk_drew ?_ | refine blk_alloc ?_ _));refine blk_put (cs := #[.int .i64 ((rd_T50 l1 x13_1).f0),.bool ((rd_T50 l1 x13_1).f1),.int .i64 ((rd_T50 l1 x13_1).f2),.string (⟨#[]⟩ : ByteArray)]) ?_ 3 _ rfl;(with_reducible repeat (first | refine blk_drewN ?_ _ | refine blk_drew ?_ | refine blk_alloc ?_ _));refine blk_put (cs := #[.int .i64 ((rd_T50 l1 x13_1).f0),.bool ((rd_T50 l1 x13_1).f1),.int .i64 0,.string (⟨#[]⟩ : ByteArray)]) ?_ 2 _ rfl;(with_reducible repeat (first | refine blk_drewN ?_ _ | refine blk_drew ?_ | refine blk_alloc ?_ _));refine blk_put (cs := #[.int .i64 ((rd_T50 l1 x13_1).f0),.bool false,.int .i64 0,.string (⟨#[]⟩ : ByteArray)]) ?_ 1 _ rfl;(with_reducible repeat (first | refine blk_drewN ?_ _ | refine blk_drew ?_ | refine blk_alloc ?_ _));refine blk_put (cs := #[.int .i64 0,.bool false,.int .i64 0,.string (⟨#[]⟩ : ByteArray)]) ?_ 0 _ rfl;(with_reducible repeat (first | refine blk_drewN ?_ _ | refine blk_drew ?_ | refine blk_alloc ?_ _));exact BK137.out) hb);have n2_ := Aside0.mk (below_step (by repeat (first | (with_reducible first | exact HB.out | apply below_alloc | apply pw_below_drewN | apply below_drew1 | refine below_set ?_ GE135.out | refine below_set ?_ GE137.out) | exact HB.out)) hb);clear BK135;clear BK137;clear HB;have BK135 := n0_;have BK137 := n1_;have HB := n2_;clear n0_ n1_ n2_;(try clear hb);(try clear hb2);(try clear hk);(try clear hi)))
                  go_roundg k1
                  case measure => have := HK1.out;omega
                  case rel => exact ⟨(wrap64 (x13_1 + 1)),(by first | rfl | (simp;done) | (simp [*];done)),H',⟨by have := HK1.out;omega⟩,⟨by repeat (first | (with_reducible first | exact HB.out | apply below_alloc | apply pw_below_drewN | apply below_drew1 | refine below_set ?_ GE135.out | refine below_set ?_ GE137.out) | exact HB.out)⟩⟩
                · rw [if_neg c12] at H
                  have c12b0 : (t138 == 0) = false := beq_eq_false_iff_ne.mpr c12
                  have c12b1 : (t138 != 0) = true := bne_iff_ne.mpr c12
                  obtain rfl := Option.some.inj H
                  have p134 : 0 ≤ (x13_1 : Int) := of_decide_eq_true (by first | (with_reducible assumption) | assumption)
                  have q134 : x13_1 < (l0.length : Int) := of_decide_eq_true (by first | (with_reducible assumption) | assumption)
                  obtain ⟨ad134,e134,hx134_0,hx134_1,hx134_2,hx134_3⟩ := at_T50 HR0.out x13_1 p134 q134
                  cases e134
                  replace hx134_0 := (HB.out.cell (World.block_lt_of_cell? w _ hx134_0)).trans hx134_0
                  replace hx134_1 := (HB.out.cell (World.block_lt_of_cell? w _ hx134_1)).trans hx134_1
                  replace hx134_2 := (HB.out.cell (World.block_lt_of_cell? w _ hx134_2)).trans hx134_2
                  replace hx134_3 := (HB.out.cell (World.block_lt_of_cell? w _ hx134_3)).trans hx134_3
                  replace p134 := eq_true p134
                  replace q134 := eq_true q134
                  go_wp2_with (first | ((with_reducible refine gate_dst (N := 8) rfl ?_);refine box_event ?hg (N := 8) ?hd (cs := #[.int .i64 0,.bool false,.int .i64 0,.string (⟨#[]⟩ : ByteArray)]) (t := 50) ?hr ?_;(case hd => rfl);(case hg => rfl);(case hr => first | (go_simp;done) | (go_simp;rfl));intro gb135 hg w20 hbox hb;have n0_ := Aside0.mk (below_step (by repeat (first | (with_reducible first | exact HB.out | apply below_alloc | apply pw_below_drewN | apply below_drew1) | exact HB.out)) hb);have n1_ := Aside0.mk (hbox);have n2_ := Aside0.mk ((by rw [hg];exact (below_size (by repeat (first | (with_reducible first | exact HB.out | apply below_alloc | apply pw_below_drewN | apply below_drew1) | exact HB.out))) : w.heap.size ≤ gb135));have n3_ := Aside0.mk ((by rw [hg];exact (below_size (by repeat (first | (with_reducible first | exact HB.out | apply below_alloc | apply pw_below_drewN | apply below_drew1) | exact HB.out))) : w.heap.size ≤ gb135));clear HB;have HB := n0_;have BK135 := n1_;have GW135 := n2_;have GE135 := n3_;clear n0_ n1_ n2_ n3_;clear hb hbox hg;have hcz21_0 : w20.cell? ⟨gb135,0,none⟩ = some (.int .i64 0) := (blk_cell BK135.out 0).trans rfl;have hcz21_1 : w20.cell? ⟨gb135,1,none⟩ = some (.bool false) := (blk_cell BK135.out 1).trans rfl;have hcz21_2 : w20.cell? ⟨gb135,2,none⟩ = some (.int .i64 0) := (blk_cell BK135.out 2).trans rfl;have hcz21_3 : w20.cell? ⟨gb135,3,none⟩ = some (.string (⟨#[]⟩ : ByteArray)) := (blk_cell BK135.out 3).trans rfl;have hfz21_0 := blk_frozen BK135.out 0;have hfz21_1 := blk_frozen BK135.out 1;have hfz21_2 := blk_frozen BK135.out 2;have hfz21_3 := blk_frozen BK135.out 3;have p136 : 0 ≤ (x13_1 : Int) := of_decide_eq_true (by first | (with_reducible assumption) | assumption);have q136 : x13_1 < (l1.length : Int) := of_decide_eq_true (by first | (with_reducible assumption) | assumption);obtain ⟨ad136,e136,hx136_0,hx136_1,hx136_2,hx136_3⟩ := at_T50 HR1.out x13_1 p136 q136;cases e136;have hn136_0 : ad136.block ≠ gb135 := Nat.ne_of_lt (Nat.lt_of_lt_of_le (by have := World.block_lt_of_cell? _ _ hx136_0;first | rwa [add_block] at this | exact this) GW135.out);have hn136_1 : ad136.block ≠ gb135 := Nat.ne_of_lt (Nat.lt_of_lt_of_le (by have := World.block_lt_of_cell? _ _ hx136_0;first | rwa [add_block] at this | exact this) GW135.out);have hn136_2 : ad136.block ≠ gb135 := Nat.ne_of_lt (Nat.lt_of_lt_of_le (by have := World.block_lt_of_cell? _ _ hx136_0;first | rwa [add_block] at this | exact this) GW135.out);have hn136_3 : ad136.block ≠ gb135 := Nat.ne_of_lt (Nat.lt_of_lt_of_le (by have := World.block_lt_of_cell? _ _ hx136_0;first | rwa [add_block] at this | exact this) GW135.out);replace hx136_0 := (HB.out.cell (World.block_lt_of_cell? w _ hx136_0)).trans hx136_0;replace hx136_1 := (HB.out.cell (World.block_lt_of_cell? w _ hx136_1)).trans hx136_1;replace hx136_2 := (HB.out.cell (World.block_lt_of_cell? w _ hx136_2)).trans hx136_2;replace hx136_3 := (HB.out.cell (World.block_lt_of_cell? w _ hx136_3)).trans hx136_3;replace hx136_0 := (cell_far (p := ⟨gb135,0,none⟩) (by first | (rw [add_block];exact hn136_0) | (show (Addr.add _ _).block ≠ _;rw [add_block];exact hn136_0) | exact hn136_0) (.int .i64 ((rd_T50 l0 x13_1).f0))).trans hx136_0;replace hx136_1 := (cell_far (p := ⟨gb135,0,none⟩) (by first | (rw [add_block];exact hn136_0) | (show (Addr.add _ _).block ≠ _;rw [add_block];exact hn136_0) | exact hn136_0) (.int .i64 ((rd_T50 l0 x13_1).f0))).trans hx136_1;replace hx136_2 := (cell_far (p := ⟨gb135,0,none⟩) (by first | (rw [add_block];exact hn136_0) | (show (Addr.add _ _).block ≠ _;rw [add_block];exact hn136_0) | exact hn136_0) (.int .i64 ((rd_T50 l0 x13_1).f0))).trans hx136_2;replace hx136_3 := (cell_far (p := ⟨gb135,0,none⟩) (by first | (rw [add_block];exact hn136_0) | (show (Addr.add _ _).block ≠ _;rw [add_block];exact hn136_0) | exact hn136_0) (.int .i64 ((rd_T50 l0 x13_1).f0))).trans hx136_3;replace hx136_0 := (cell_far (p := ⟨gb135,1,none⟩) (by first | (rw [add_block];exact hn136_1) | (show (Addr.add _ _).block ≠ _;rw [add_block];exact hn136_1) | exact hn136_1) (.bool ((rd_T50 l0 x13_1).f1))).trans hx136_0;replace hx136_1 := (cell_far (p := ⟨gb135,1,none⟩) (by first | (rw [add_block];exact hn136_1) | (show (Addr.add _ _).block ≠ _;rw [add_block];exact hn136_1) | exact hn136_1) (.bool ((rd_T50 l0 x13_1).f1))).trans hx136_1;replace hx136_2 := (cell_far (p := ⟨gb135,1,none⟩) (by first | (rw [add_block];exact hn136_1) | (show (Addr.add _ _).block ≠ _;rw [add_block];exact hn136_1) | exact hn136_1) (.bool ((rd_T50 l0 x13_1).f1))).trans hx136_2;replace hx136_3 := (cell_far (p := ⟨gb135,1,none⟩) (by first | (rw [add_block];exact hn136_1) | (show (Addr.add _ _).block ≠ _;rw [add_block];exact hn136_1) | exact hn136_1) (.bool ((rd_T50 l0 x13_1).f1))).trans hx136_3;replace hx136_0 := (cell_far (p := ⟨gb135,2,none⟩) (by first | (rw [add_block];exact hn136_2) | (show (Addr.add _ _).block ≠ _;rw [add_block];exact hn136_2) | exact hn136_2) (.int .i64 ((rd_T50 l0 x13_1).f2))).trans hx136_0;replace hx136_1 := (cell_far (p := ⟨gb135,2,none⟩) (by first | (rw [add_block];exact hn136_2) | (show (Addr.add _ _).block ≠ _;rw [add_block];exact hn136_2) | exact hn136_2) (.int .i64 ((rd_T50 l0 x13_1).f2))).trans hx136_1;replace hx136_2 := (cell_far (p := ⟨gb135,2,none⟩) (by first | (rw [add_block];exact hn136_2) | (show (Addr.add _ _).block ≠ _;rw [add_block];exact hn136_2) | exact hn136_2) (.int .i64 ((rd_T50 l0 x13_1).f2))).trans hx136_2;replace hx136_3 := (cell_far (p := ⟨gb135,2,none⟩) (by first | (rw [add_block];exact hn136_2) | (show (Addr.add _ _).block ≠ _;rw [add_block];exact hn136_2) | exact hn136_2) (.int .i64 ((rd_T50 l0 x13_1).f2))).trans hx136_3;replace hx136_0 := (cell_far (p := ⟨gb135,3,none⟩) (by first | (rw [add_block];exact hn136_3) | (show (Addr.add _ _).block ≠ _;rw [add_block];exact hn136_3) | exact hn136_3) (.string ((rd_T50 l0 x13_1).f3))).trans hx136_0;replace hx136_1 := (cell_far (p := ⟨gb135,3,none⟩) (by first | (rw [add_block];exact hn136_3) | (show (Addr.add _ _).block ≠ _;rw [add_block];exact hn136_3) | exact hn136_3) (.string ((rd_T50 l0 x13_1).f3))).trans hx136_1;replace hx136_2 := (cell_far (p := ⟨gb135,3,none⟩) (by first | (rw [add_block];exact hn136_3) | (show (Addr.add _ _).block ≠ _;rw [add_block];exact hn136_3) | exact hn136_3) (.string ((rd_T50 l0 x13_1).f3))).trans hx136_2;replace hx136_3 := (cell_far (p := ⟨gb135,3,none⟩) (by first | (rw [add_block];exact hn136_3) | (show (Addr.add _ _).block ≠ _;rw [add_block];exact hn136_3) | exact hn136_3) (.string ((rd_T50 l0 x13_1).f3))).trans hx136_3;clear hn136_0;clear hn136_1;clear hn136_2;clear hn136_3;replace p136 := eq_true p136;replace q136 := eq_true q136) | ((with_reducible refine gate_dst (N := 9) rfl ?_);refine box_event ?hg (N := 9) ?hd (cs := #[.int .i64 0,.bool false,.int .i64 0,.string (⟨#[]⟩ : ByteArray)]) (t := 50) ?hr ?_;(case hd => rfl);(case hg => rfl);(case hr => first | (go_simp;done) | (go_simp;rfl));intro gb137 hg w22 hbox hb;have n0_ := Aside0.mk (blk_below (g := gb135) (o := .cells #[.int .i64 ((rd_T50 l0 x13_1).f0),.bool ((rd_T50 l0 x13_1).f1),.int .i64 ((rd_T50 l0 x13_1).f2),.string ((rd_T50 l0 x13_1).f3)] 50 (0,0)) (by (with_reducible repeat (first | refine blk_drewN ?_ _ | refine blk_drew ?_ | refine blk_alloc ?_ _));refine blk_put (cs := #[.int .i64 ((rd_T50 l0 x13_1).f0),.bool ((rd_T50 l0 x13_1).f1),.int .i64 ((rd_T50 l0 x13_1).f2),.string (⟨#[]⟩ : ByteArray)]) ?_ 3 _ rfl;(with_reducible repeat (first | refine blk_drewN ?_ _ | refine blk_drew ?_ | refine blk_alloc ?_ _));refine blk_put (cs := #[.int .i64 ((rd_T50 l0 x13_1).f0),.bool ((rd_T50 l0 x13_1).f1),.int .i64 0,.string (⟨#[]⟩ : ByteArray)]) ?_ 2 _ rfl;(with_reducible repeat (first | refine blk_drewN ?_ _ | refine blk_drew ?_ | refine blk_alloc ?_ _));refine blk_put (cs := #[.int .i64 ((rd_T50 l0 x13_1).f0),.bool false,.int .i64 0,.string (⟨#[]⟩ : ByteArray)]) ?_ 1 _ rfl;(with_reducible repeat (first | refine blk_drewN ?_ _ | refine blk_drew ?_ | refine blk_alloc ?_ _));refine blk_put (cs := #[.int .i64 0,.bool false,.int .i64 0,.string (⟨#[]⟩ : ByteArray)]) ?_ 0 _ rfl;(with_reducible repeat (first | refine blk_drewN ?_ _ | refine blk_drew ?_ | refine blk_alloc ?_ _));exact BK135.out) hb);have n1_ := Aside0.mk (below_step (by repeat (first | (with_reducible first | exact HB.out | apply below_alloc | apply pw_below_drewN | apply below_drew1 | refine below_set ?_ GE135.out) | exact HB.out)) hb);have n2_ := Aside0.mk (hbox);have n3_ := Aside0.mk ((by rw [hg];exact (below_size (by repeat (first | (with_reducible first | exact HB.out | apply below_alloc | apply pw_below_drewN | apply below_drew1 | refine below_set ?_ GE135.out) | exact HB.out))) : w.heap.size ≤ gb137));have n4_ := Aside0.mk ((by rw [hg];exact (below_size (by repeat (first | (with_reducible first | exact HB.out | apply below_alloc | apply pw_below_drewN | apply below_drew1 | refine below_set ?_ GE135.out) | exact HB.out))) : w.heap.size ≤ gb137));have n5_ := Aside0.mk ((by rw [hg];exact Nat.ne_of_lt (blk_lt (g := gb135) (o := .cells #[.int .i64 ((rd_T50 l0 x13_1).f0),.bool ((rd_T50 l0 x13_1).f1),.int .i64 ((rd_T50 l0 x13_1).f2),.string ((rd_T50 l0 x13_1).f3)] 50 (0,0)) (by (with_reducible repeat (first | refine blk_drewN ?_ _ | refine blk_drew ?_ | refine blk_alloc ?_ _));refine blk_put (cs := #[.int .i64 ((rd_T50 l0 x13_1).f0),.bool ((rd_T50 l0 x13_1).f1),.int .i64 ((rd_T50 l0 x13_1).f2),.string (⟨#[]⟩ : ByteArray)]) ?_ 3 _ rfl;(with_reducible repeat (first | refine blk_drewN ?_ _ | refine blk_drew ?_ | refine blk_alloc ?_ _));refine blk_put (cs := #[.int .i64 ((rd_T50 l0 x13_1).f0),.bool ((rd_T50 l0 x13_1).f1),.int .i64 0,.string (⟨#[]⟩ : ByteArray)]) ?_ 2 _ rfl;(with_reducible repeat (first | refine blk_drewN ?_ _ | refine blk_drew ?_ | refine blk_alloc ?_ _));refine blk_put (cs := #[.int .i64 ((rd_T50 l0 x13_1).f0),.bool false,.int .i64 0,.string (⟨#[]⟩ : ByteArray)]) ?_ 1 _ rfl;(with_reducible repeat (first | refine blk_drewN ?_ _ | refine blk_drew ?_ | refine blk_alloc ?_ _));refine blk_put (cs := #[.int .i64 0,.bool false,.int .i64 0,.string (⟨#[]⟩ : ByteArray)]) ?_ 0 _ rfl;(with_reducible repeat (first | refine blk_drewN ?_ _ | refine blk_drew ?_ | refine blk_alloc ?_ _));exact BK135.out)) : gb135 ≠ gb137));have n6_ := Aside0.mk ((by rw [hg];exact Nat.ne_of_gt (blk_lt (g := gb135) (o := .cells #[.int .i64 ((rd_T50 l0 x13_1).f0),.bool ((rd_T50 l0 x13_1).f1),.int .i64 ((rd_T50 l0 x13_1).f2),.string ((rd_T50 l0 x13_1).f3)] 50 (0,0)) (by (with_reducible repeat (first | refine blk_drewN ?_ _ | refine blk_drew ?_ | refine blk_alloc ?_ _));refine blk_put (cs := #[.int .i64 ((rd_T50 l0 x13_1).f0),.bool ((rd_T50 l0 x13_1).f1),.int .i64 ((rd_T50 l0 x13_1).f2),.string (⟨#[]⟩ : ByteArray)]) ?_ 3 _ rfl;(with_reducible repeat (first | refine blk_drewN ?_ _ | refine blk_drew ?_ | refine blk_alloc ?_ _));refine blk_put (cs := #[.int .i64 ((rd_T50 l0 x13_1).f0),.bool ((rd_T50 l0 x13_1).f1),.int .i64 0,.string (⟨#[]⟩ : ByteArray)]) ?_ 2 _ rfl;(with_reducible repeat (first | refine blk_drewN ?_ _ | refine blk_drew ?_ | refine blk_alloc ?_ _));refine blk_put (cs := #[.int .i64 ((rd_T50 l0 x13_1).f0),.bool false,.int .i64 0,.string (⟨#[]⟩ : ByteArray)]) ?_ 1 _ rfl;(with_reducible repeat (first | refine blk_drewN ?_ _ | refine blk_drew ?_ | refine blk_alloc ?_ _));refine blk_put (cs := #[.int .i64 0,.bool false,.int .i64 0,.string (⟨#[]⟩ : ByteArray)]) ?_ 0 _ rfl;(with_reducible repeat (first | refine blk_drewN ?_ _ | refine blk_drew ?_ | refine blk_alloc ?_ _));exact BK135.out)) : gb137 ≠ gb135));clear BK135;clear HB;have BK135 := n0_;have HB := n1_;have BK137 := n2_;have GW137 := n3_;have GE137 := n4_;have NB135_137 := n5_;have NB137_135 := n6_;clear n0_ n1_ n2_ n3_ n4_ n5_ n6_;clear hb hbox hg;have hnb23 := NB137_135.out;have hnc23 := NB135_137.out;have hcz24_0 : w22.cell? ⟨gb137,0,none⟩ = some (.int .i64 0) := (blk_cell BK137.out 0).trans rfl;have hcz24_1 : w22.cell? ⟨gb137,1,none⟩ = some (.bool false) := (blk_cell BK137.out 1).trans rfl;have hcz24_2 : w22.cell? ⟨gb137,2,none⟩ = some (.int .i64 0) := (blk_cell BK137.out 2).trans rfl;have hcz24_3 : w22.cell? ⟨gb137,3,none⟩ = some (.string (⟨#[]⟩ : ByteArray)) := (blk_cell BK137.out 3).trans rfl;have hfz24_0 := blk_frozen BK137.out 0;have hfz24_1 := blk_frozen BK137.out 1;have hfz24_2 := blk_frozen BK137.out 2;have hfz24_3 := blk_frozen BK137.out 3;have hcz25_0 : w22.cell? ⟨gb135,0,none⟩ = some (.int .i64 ((rd_T50 l0 x13_1).f0)) := (blk_cell BK135.out 0).trans rfl;have hcz25_1 : w22.cell? ⟨gb135,1,none⟩ = some (.bool ((rd_T50 l0 x13_1).f1)) := (blk_cell BK135.out 1).trans rfl;have hcz25_2 : w22.cell? ⟨gb135,2,none⟩ = some (.int .i64 ((rd_T50 l0 x13_1).f2)) := (blk_cell BK135.out 2).trans rfl;have hcz25_3 : w22.cell? ⟨gb135,3,none⟩ = some (.string ((rd_T50 l0 x13_1).f3)) := (blk_cell BK135.out 3).trans rfl;have hfz25_0 := blk_frozen BK135.out 0;have hfz25_1 := blk_frozen BK135.out 1;have hfz25_2 := blk_frozen BK135.out 2;have hfz25_3 := blk_frozen BK135.out 3) | ((with_reducible refine gate_tmp (n := 26) rfl ?_);refine goesT_ (some 29) rfl rfl Try.func46 (by kernel_rfl) rfl #[.agg #[.int .i64 ((rd_T50 l0 x13_1).f0),.bool ((rd_T50 l0 x13_1).f1),.int .i64 ((rd_T50 l0 x13_1).f2),.string ((rd_T50 l0 x13_1).f3)],.agg #[.int .i64 ((rd_T50 l1 x13_1).f0),.bool ((rd_T50 l1 x13_1).f1),.int .i64 ((rd_T50 l1 x13_1).f2),.string ((rd_T50 l1 x13_1).f3)]] rfl rfl (by (try simp only [List.map_toArray,List.map_cons,List.map_nil]);first | done | rfl | (simp only [List.length_drop,List.length_take];rfl)) ?_;(with_reducible refine (value_Compare.calls ((rd_T50 l0 x13_1).f0) ((rd_T50 l0 x13_1).f1) ((rd_T50 l0 x13_1).f2) ((rd_T50 l0 x13_1).f3) ((rd_T50 l1 x13_1).f0) ((rd_T50 l1 x13_1).f1) ((rd_T50 l1 x13_1).f2) ((rd_T50 l1 x13_1).f3) t138 _ A11.out).mono ?_);rintro e w26 ⟨rfl,hb⟩;refine ⟨_,rfl,?_⟩;have n0_ := Aside0.mk (blk_below (g := gb135) (o := .cells #[.int .i64 ((rd_T50 l0 x13_1).f0),.bool ((rd_T50 l0 x13_1).f1),.int .i64 ((rd_T50 l0 x13_1).f2),.string ((rd_T50 l0 x13_1).f3)] 50 (0,0)) (by (with_reducible repeat (first | refine blk_drewN ?_ _ | refine blk_drew ?_ | refine blk_alloc ?_ _));refine blk_far ?_ NB135_137.out _;(with_reducible repeat (first | refine blk_drewN ?_ _ | refine blk_drew ?_ | refine blk_alloc ?_ _));refine blk_far ?_ NB135_137.out _;(with_reducible repeat (first | refine blk_drewN ?_ _ | refine blk_drew ?_ | refine blk_alloc ?_ _));refine blk_far ?_ NB135_137.out _;(with_reducible repeat (first | refine blk_drewN ?_ _ | refine blk_drew ?_ | refine blk_alloc ?_ _));refine blk_far ?_ NB135_137.out _;(with_reducible repeat (first | refine blk_drewN ?_ _ | refine blk_drew ?_ | refine blk_alloc ?_ _));exact BK135.out) hb);have n1_ := Aside0.mk (blk_below (g := gb137) (o := .cells #[.int .i64 ((rd_T50 l1 x13_1).f0),.bool ((rd_T50 l1 x13_1).f1),.int .i64 ((rd_T50 l1 x13_1).f2),.string ((rd_T50 l1 x13_1).f3)] 50 (0,0)) (by (with_reducible repeat (first | refine blk_drewN ?_ _ | refine blk_drew ?_ | refine blk_alloc ?_ _));refine blk_put (cs := #[.int .i64 ((rd_T50 l1 x13_1).f0),.bool ((rd_T50 l1 x13_1).f1),.int .i64 ((rd_T50 l1 x13_1).f2),.string (⟨#[]⟩ : ByteArray)]) ?_ 3 _ rfl;(with_reducible repeat (first | refine blk_drewN ?_ _ | refine blk_drew ?_ | refine blk_alloc ?_ _));refine blk_put (cs := #[.int .i64 ((rd_T50 l1 x13_1).f0),.bool ((rd_T50 l1 x13_1).f1),.int .i64 0,.string (⟨#[]⟩ : ByteArray)]) ?_ 2 _ rfl;(with_reducible repeat (first | refine blk_drewN ?_ _ | refine blk_drew ?_ | refine blk_alloc ?_ _));refine blk_put (cs := #[.int .i64 ((rd_T50 l1 x13_1).f0),.bool false,.int .i64 0,.string (⟨#[]⟩ : ByteArray)]) ?_ 1 _ rfl;(with_reducible repeat (first | refine blk_drewN ?_ _ | refine blk_drew ?_ | refine blk_alloc ?_ _));refine blk_put (cs := #[.int .i64 0,.bool false,.int .i64 0,.string (⟨#[]⟩ : ByteArray)]) ?_ 0 _ rfl;(with_reducible repeat (first | refine blk_drewN ?_ _ | refine blk_drew ?_ | refine blk_alloc ?_ _));exact BK137.out) hb);have n2_ := Aside0.mk (below_step (by repeat (first | (with_reducible first | exact HB.out | apply below_alloc | apply pw_below_drewN | apply below_drew1 | refine below_set ?_ GE135.out | refine below_set ?_ GE137.out) | exact HB.out)) hb);clear BK135;clear BK137;clear HB;have BK135 := n0_;have BK137 := n1_;have HB := n2_;clear n0_ n1_ n2_;(try clear hb);(try clear hb2);(try clear hk);(try clear hi)))
                  go_ret
                  exact ⟨by first | rfl | (simp [errW_none,errW_some] <;> rfl) | (simp [*,errW_none,errW_some] <;> rfl),by repeat (first | (with_reducible first | exact HB.out | apply below_alloc | apply pw_below_drewN | apply below_drew1 | refine below_set ?_ GE135.out | refine below_set ?_ GE137.out) | exact HB.out)⟩
              · rw [if_neg c10] at H
                exact absurd H (by simp)
          · rw [if_neg c6] at H
            exact absurd H (by simp)
        · rw [if_neg c5] at H
          exact absurd H (by simp)
      · rw [if_neg c4] at H
        have c4b0 : decide (x13_1 < (l0.length : Int)) = false := decide_eq_false c4
        clear c4
        by_cases c27 : (l0.length : Int) < (l1.length : Int)
        · rw [if_pos c27] at H
          have c27b0 : decide ((l0.length : Int) < (l1.length : Int)) = true := decide_eq_true c27
          have c27b1 : decide (l0.length < l1.length) = true := decide_eq_true (Int.ofNat_lt.mp c27)
          clear c27
          obtain rfl := Option.some.inj H
          go_wp2
          go_ret
          exact ⟨by first | rfl | (simp [errW_none,errW_some] <;> rfl) | (simp [*,errW_none,errW_some] <;> rfl),by repeat (first | (with_reducible first | exact HB.out | apply below_alloc | apply pw_below_drewN | apply below_drew1) | exact HB.out)⟩
        · rw [if_neg c27] at H
          have c27b0 : decide ((l0.length : Int) < (l1.length : Int)) = false := decide_eq_false c27
          have c27b1 : decide (l0.length < l1.length) = false := decide_eq_false (fun h => c27 (Int.ofNat_lt.mpr h))
          clear c27
          obtain rfl := Option.some.inj H
          go_wp2
          go_ret
          exact ⟨by first | rfl | (simp [errW_none,errW_some] <;> rfl) | (simp [*,errW_none,errW_some] <;> rfl),by repeat (first | (with_reducible first | exact HB.out | apply below_alloc | apply pw_below_drewN | apply below_drew1) | exact HB.out)⟩
end Go.Proofs.Ytfoaeigoajooeaa.Z
end
section
namespace Go.Proofs.Ytfoaeigoajooeaa.Z
open Go.RowKit Go.Proofs.YtfoaeigoajooeaaW.PrintWords Go.Proofs.YtfoaeigoajooeaaW.PrintLast Go.Proofs.YtfoaeigoajooeaaW.PrintMore
attribute [local go_sem] max2_int min2_int max_two min_two max_three min_three max_four min_four
set_option linter.unusedVariables false
set_option linter.unusedSimpArgs false
def row_Compare.f (k : Nat) (l0 : List (S50)) (l1 : List (S50)) : Option (Int) := (slices_CompareFunc.f k l0 l1 424246).bind fun t139 => (some t139)
theorem row_Compare.mono : ∀ a0 a1 k,LeO (row_Compare.f k a0 a1) (row_Compare.f (k + 1) a0 a1) := by
  intro a0 a1 k
  unfold row_Compare.f
  repeat' first
      | (with_reducible exact slices_CompareFunc.mono _ _ _ _)
      | (with_reducible exact LeO.refl _)
      | (with_reducible exact LeO.none _)
      | (with_reducible refine LeO.ite ?_ ?_)
      | (with_reducible refine LeO.bind ?_ (fun _ => ?_))
      | exact slices_CompareFunc.mono _ _ _ _
      | exact LeO.none _
      | refine LeO.ite ?_ ?_
      | refine LeO.bind ?_ (fun _ => ?_)
set_option maxHeartbeats 8000000 in
set_option maxRecDepth 100000 in
theorem row_Compare.calls (k : Nat) (A0 : Option Addr) (c0 : Nat) (l0 : List (S50)) (A1 : Option Addr) (c1 : Nat) (l1 : List (S50)) (r : Int) (w : World) (hr0 : Kd.C k50 w A0 l0.length l0) (hc0 : l0.length ≤ c0) (hr1 : Kd.C k50 w A1 l1.length l1) (hc1 : l1.length ≤ c1) (h : row_Compare.f k l0 l1 = some r) :
    Calls Try.prog 13 #[.slice A0 l0.length c0,.slice A1 l1.length c1] w fun e w' => e = .returned (.int .i64 r) ∧ Below w.heap.size w w' := by
  have HR0 := Aside0.mk hr0
  have HC0 := Aside0.mk hc0
  clear hr0 hc0
  have HR1 := Aside0.mk hr1
  have HC1 := Aside0.mk hc1
  clear hr1 hc1
  have HB := Aside0.mk (Below.refl w.heap.size w)
  have H : ((slices_CompareFunc.f k l0 l1 424246).bind fun t139 => (some t139)) = some r := h
  clear h
  replace H := Option.bind_eq_some_iff.mp H
  obtain ⟨t139,A30,H⟩ := H
  replace H : (some t139) = some r := H
  have A3 := Aside0.mk A30
  clear A30
  obtain rfl := Option.some.inj H
  go_enter Try.func13,Try.ntmps13
  go_wp2_with (first | ((with_reducible refine gate_callee (f := 45) rfl ?_);refine goesL_ (some 7) rfl rfl Try.func45 (by kernel_rfl) rfl #[.slice A0 l0.length c0,.slice A1 l1.length c1,.func (.func 46) #[] #[]] rfl (by (try simp only [List.map_toArray,List.map_cons,List.map_nil]);first | done | rfl | (simp only [List.length_drop,List.length_take];rfl)) ?_;(with_reducible refine (slices_CompareFunc.calls k _ _ l0 _ _ l1 424246 t139 _ ?side1 ?side2 ?side3 ?side4 A3.out).mono ?_);(case side1 => repeat (first | exact HR0.out | (with_reducible refine Kd.C_alloc ?_ _) | (with_reducible refine Kd.C_drewN ?_ _) | (with_reducible refine Kd.C_drew ?_)));(case side2 => exact HC0.out);(case side3 => repeat (first | exact HR1.out | (with_reducible refine Kd.C_alloc ?_ _) | (with_reducible refine Kd.C_drewN ?_ _) | (with_reducible refine Kd.C_drew ?_)));(case side4 => exact HC1.out);rintro e w4 ⟨rfl,hb⟩;refine ⟨_,rfl,?_⟩;have n0_ := Aside0.mk (below_step (by repeat (first | (with_reducible first | exact HB.out | apply below_alloc | apply pw_below_drewN | apply below_drew1) | exact HB.out)) hb);clear HB;have HB := n0_;clear n0_;(try clear hb);(try clear hb2);(try clear hk);(try clear hi)))
  go_ret
  exact ⟨by first | rfl | (simp [errW_none,errW_some] <;> rfl) | (simp [*,errW_none,errW_some] <;> rfl),by repeat (first | (with_reducible first | exact HB.out | apply below_alloc | apply pw_below_drewN | apply below_drew1) | exact HB.out)⟩
end Go.Proofs.Ytfoaeigoajooeaa.Z
end
section
namespace Go.Proofs.Ytfoaeigoajooeaa.Cmp
structure CmpLaw {α : Type} (c : α → α → Int) : Prop where
  lo : ∀ a b,-1 ≤ c a b
  anti : ∀ a b,c b a = - c a b
  le : ∀ a b d,c a b ≤ 0 → c b d ≤ 0 → c a d ≤ 0
variable {α : Type} {c : α → α → Int}
theorem CmpLaw.hi (h : CmpLaw c) (a b : α) : c a b ≤ 1 := by have := h.lo b a;have := h.anti b a;omega
theorem CmpLaw.lt_le (h : CmpLaw c) {a b d : α} (h1 : c a b < 0) (h2 : c b d ≤ 0) : c a d < 0 := by
  have h3 := h.le a b d (by omega) h2
  rcases Int.lt_or_eq_of_le h3 with h4 | h4
  · exact h4
  · have h5 := h.anti a d
    have h6 := h.le b d a h2 (by omega)
    have h7 := h.anti a b
    omega
theorem CmpLaw.le_lt (h : CmpLaw c) {a b d : α} (h1 : c a b ≤ 0) (h2 : c b d < 0) : c a d < 0 := by
  have h3 := h.le a b d h1 (by omega)
  rcases Int.lt_or_eq_of_le h3 with h4 | h4
  · exact h4
  · have h5 := h.anti a d
    have h6 := h.le d a b (by omega) h1
    have h7 := h.anti b d
    omega
theorem CmpLaw.eq_left (h : CmpLaw c) {a b : α} (d : α) (h1 : c a b = 0) : c a d = c b d := by
  have a1 := h.anti a b
  have lo1 := h.lo a d
  have hi1 := h.hi a d
  have lo2 := h.lo b d
  have hi2 := h.hi b d
  rcases Int.lt_trichotomy (c b d) 0 with h2 | h2 | h2
  · have := h.le_lt (a := a) (b := b) (d := d) (by omega) h2
    omega
  · have h3 := h.le a b d (by omega) (by omega)
    have h4 := h.le d b a (by have := h.anti b d;omega) (by omega)
    have := h.anti a d
    omega
  · have h3 : c d b < 0 := by have := h.anti b d;omega
    have := h.lt_le h3 (show c b a ≤ 0 by omega)
    have := h.anti a d
    omega
theorem CmpLaw.on {β : Type} (f : β → α) (h : CmpLaw c) : CmpLaw (fun x y => c (f x) (f y)) := ⟨fun _ _ => h.lo _ _,fun _ _ => h.anti _ _,fun _ _ _ => h.le _ _ _⟩
def andThenC (c d : α → α → Int) (a b : α) : Int := if c a b = 0 then d a b else c a b
theorem CmpLaw.andThen {d : α → α → Int} (hc : CmpLaw c) (hd : CmpLaw d) : CmpLaw (andThenC c d) := by
  refine ⟨fun a b => ?_,fun a b => ?_,fun a b e h1 h2 => ?_⟩
  · unfold andThenC;split
    · exact hd.lo a b
    · exact hc.lo a b
  · unfold andThenC
    have h1 := hc.anti a b
    have h2 := hd.anti a b
    by_cases h : c a b = 0
    · rw [if_pos h,if_pos (by omega)];exact h2
    · rw [if_neg h,if_neg (by omega)];exact h1
  · unfold andThenC at *
    by_cases ha : c a b = 0
    · rw [if_pos ha] at h1
      rw [hc.eq_left e ha]
      by_cases hb : c b e = 0
      · rw [if_pos hb] at h2 ⊢
        exact hd.le _ _ _ h1 h2
      · rw [if_neg hb] at h2 ⊢
        exact h2
    · rw [if_neg ha] at h1
      have h3 : c b e ≤ 0 := by
        by_cases hb : c b e = 0
        · omega
        · rw [if_neg hb] at h2;exact h2
      have h4 := hc.lt_le (show c a b < 0 by omega) h3
      rw [if_neg (by omega)]
      omega
end Go.Proofs.Ytfoaeigoajooeaa.Cmp
end
section
namespace Go.Proofs.Ytfoaeigoajooeaa.Z
open Go.RowKit Go.Proofs.YtfoaeigoajooeaaW.PrintWords Go.Proofs.YtfoaeigoajooeaaW.PrintLast Go.Proofs.YtfoaeigoajooeaaW.PrintMore Go.Proofs.Ytfoaeigoajooeaa.Cmp
theorem wrap_id {x : Int} (h0 : -9223372036854775808 ≤ x) (h1 : x ≤ 9223372036854775807) : wrap64 x = x := by unfold wrap64;omega
theorem wrap_succ {n : Nat} {m : Nat} (h : n < m) (hm : m ≤ 9223372036854775807) : wrap64 ((n : Int) + 1) = ((n + 1 : Nat) : Int) := by rw [wrap_id (by omega) (by omega)];omega
def b2i (b : Bool) : Int := if b then 1 else 0
theorem rd_nat (xs : List S50) (i : Nat) : rd_T50 xs (i : Int) = xs.getD i z50 := rfl
theorem rd_get {xs : List S50} {i : Nat} (h : i < xs.length) : rd_T50 xs (i : Int) = xs[i] := by rw [rd_nat];simp [List.getD,List.getElem?_eq_getElem h]
theorem drop_rd {xs : List S50} {i : Nat} (h : i < xs.length) : xs.drop i = rd_T50 xs (i : Int) :: xs.drop (i + 1) := by rw [rd_get h];exact List.drop_eq_getElem_cons h
end Go.Proofs.Ytfoaeigoajooeaa.Z
end
section
namespace Go.Proofs.Ytfoaeigoajooeaa.Z
open Go.RowKit Go.Proofs.YtfoaeigoajooeaaW.PrintWords Go.Proofs.YtfoaeigoajooeaaW.PrintLast Go.Proofs.YtfoaeigoajooeaaW.PrintMore Go.Proofs.Ytfoaeigoajooeaa.Cmp
theorem bt_get {s : ByteArray} {i : Nat} (h : i < s.size) : bt s (i : Int) = ((s.data.toList[i]'(by simpa using h)).toNat : Int) := by
  rw [← bt_at s (i : Int) (by simpa using h)]
  rfl
theorem bytes_drop {s : ByteArray} {i : Nat} (h : i < s.size) : s.data.toList.drop i = s.data.toList[i]'(by simpa using h) :: s.data.toList.drop (i + 1) := List.drop_eq_getElem_cons (by simpa using h)
theorem equal_l0 (x : List S50) (hl : x.length ≤ 9223372036854775807) : ∀ d i k,x.length - i = d → i ≤ x.length → d < k → verdererref02_Equal.l0 k x x (i : Int) = some true := by
  intro d
  induction d with
  | zero =>
    intro i k hd hi hk
    obtain ⟨k,rfl⟩ : ∃ m,k = m + 1 := ⟨k - 1,by omega⟩
    simp only [verdererref02_Equal.l0]
    rw [if_neg (by omega)]
  | succ d ih =>
    intro i k hd hi hk
    obtain ⟨k,rfl⟩ : ∃ m,k = m + 1 := ⟨k - 1,by omega⟩
    simp only [verdererref02_Equal.l0]
    rw [if_pos (by omega),if_pos (by omega),if_pos (by omega),if_neg (by simp),wrap_succ (show i < x.length by omega) hl,ih (i + 1) k (by omega) (by omega) (by omega)]
theorem equal_self (x : List S50) (hl : x.length ≤ 9223372036854775807) (k : Nat) (hk : x.length < k) : verdererref02_Equal.f k x x = some true := by
  unfold verdererref02_Equal.f
  rw [if_pos rfl]
  have h := equal_l0 x hl x.length 0 k (by omega) (by omega) hk
  rw [show ((0 : Nat) : Int) = 0 from rfl] at h
  exact h
end Go.Proofs.Ytfoaeigoajooeaa.Z
end
section
namespace Go.Proofs.Ytfoaeigoajooeaa.Z
open Go.RowKit Go.Proofs.YtfoaeigoajooeaaW.PrintWords Go.Proofs.YtfoaeigoajooeaaW.PrintLast Go.Proofs.YtfoaeigoajooeaaW.PrintMore Go.Proofs.Ytfoaeigoajooeaa.Cmp
def vright (a : S50) : Bool := if a.f0 = 0 then !a.f1 && (a.f2 == 0 && a.f3.toList == ([] : List UInt8)) else if a.f0 = 1 then (a.f2 == 0 && a.f3.toList == ([] : List UInt8)) else if a.f0 = 2 then (!a.f1 && a.f3.toList == ([] : List UInt8)) else if a.f0 = 3 then (!a.f1 && (a.f2 == 0 && decide (a.f3.size ≤ 60))) else false
theorem vright_f (a : S50) : value_Right.f a.f0 a.f1 a.f2 a.f3 = some (vright a) := by
  unfold value_Right.f vright
  simp only [value_Null.f,value_Bool.f,value_Int.f,value_Text.f,Option.bind_some]
  by_cases k0 : a.f0 = 0
  · rw [if_pos k0,if_pos k0,k0];cases a.f1 <;> simp
  · by_cases k1 : a.f0 = 1
    · rw [if_neg k0,if_neg k0,if_pos k1,if_pos k1,k1];cases a.f1 <;> simp
    · by_cases k2 : a.f0 = 2
      · rw [if_neg k0,if_neg k0,if_neg k1,if_neg k1,if_pos k2,if_pos k2,k2];cases a.f1 <;> simp
      · by_cases k3 : a.f0 = 3
        · rw [if_neg k0,if_neg k0,if_neg k1,if_neg k1,if_neg k2,if_neg k2,if_pos k3,if_pos k3,k3]
          cases a.f1 <;> simp
          · by_cases h : a.f2 = 0
            · rw [if_pos h]
              simp [h]
              omega
            · rw [if_neg h]
              simp [h]
        · rw [if_neg k0,if_neg k0,if_neg k1,if_neg k1,if_neg k2,if_neg k2,if_neg k3,if_neg k3]
end Go.Proofs.Ytfoaeigoajooeaa.Z
end
section
namespace Go.Proofs.Ytfoaeigoajooeaa.Z
open Go.RowKit Go.Proofs.YtfoaeigoajooeaaW.PrintWords Go.Proofs.YtfoaeigoajooeaaW.PrintLast Go.Proofs.YtfoaeigoajooeaaW.PrintMore Go.Proofs.Ytfoaeigoajooeaa.Cmp
theorem xor_top_lo {m : Nat} (h : m < 9223372036854775808) : m ^^^ 9223372036854775808 = m + 9223372036854775808 := by
  have e : 9223372036854775808 + m = 9223372036854775808 ||| m := Nat.two_pow_add_eq_or_of_lt (i := 63) (b := m) (by omega) 1
  rw [Nat.add_comm,e]
  apply Nat.eq_of_testBit_eq
  intro i
  rw [Nat.testBit_xor,Nat.testBit_or,show (9223372036854775808 : Nat) = 2 ^ 63 from rfl,Nat.testBit_two_pow]
  by_cases hi : 63 = i
  · subst hi
    simp [Nat.testBit_lt_two_pow (show m < 2 ^ 63 by omega)]
  · simp [hi]
theorem xor_top {n : Nat} (h : n < 18446744073709551616) : n ^^^ 9223372036854775808 = (n + 9223372036854775808) % 18446744073709551616 := by
  rcases Nat.lt_or_ge n 9223372036854775808 with h1 | h1
  · rw [xor_top_lo h1];omega
  · obtain ⟨m,rfl⟩ : ∃ m,n = m + 9223372036854775808 := ⟨n - 9223372036854775808,by omega⟩
    rw [← xor_top_lo (show m < 9223372036854775808 by omega),Nat.xor_assoc,Nat.xor_self,Nat.xor_zero,xor_top_lo (show m < 9223372036854775808 by omega)]
    omega
def turn (x : Int) : Int := (x + 9223372036854775808) % 18446744073709551616
theorem turn_xor (x : Int) : Go.bits .xor .u64 (IntKind.u64.wrap x) 9223372036854775808 = turn x := by
  rw [Go.IntKind.wrap_u64]
  obtain ⟨n,hn⟩ : ∃ n : Nat,x % 18446744073709551616 = n := ⟨(x % 18446744073709551616).toNat,by omega⟩
  have hlt : n < 18446744073709551616 := by omega
  rw [hn,show (9223372036854775808 : Int) = ((9223372036854775808 : Nat) : Int) from rfl,Go.bits_xor_u64_nat n _ hlt (by decide),xor_top hlt]
  unfold turn
  omega
theorem shr_at (X : Int) (i : Nat) (h : i ≤ 64) : shr .u64 X (i : Int) = X / 2 ^ i := by
  unfold shr
  rw [show ((i : Int)).toNat = i from rfl,show IntKind.u64.bits = 64 from rfl,Nat.min_eq_left h]
def eight (X : Int) : List Int := [X / 72057594037927936 % 256,X / 281474976710656 % 256,X / 1099511627776 % 256,X / 4294967296 % 256,X / 16777216 % 256,X / 65536 % 256,X / 256 % 256,X % 256]
theorem eight_shr (X : Int) : [shr .u64 X 56 % 256,shr .u64 X 48 % 256,shr .u64 X 40 % 256,shr .u64 X 32 % 256,shr .u64 X 24 % 256,shr .u64 X 16 % 256,shr .u64 X 8 % 256,shr .u64 X 0 % 256] = eight X := by
  have h := fun i h => shr_at X i h
  rw [show (56 : Int) = ((56 : Nat) : Int) from rfl,show (48 : Int) = ((48 : Nat) : Int) from rfl,show (40 : Int) = ((40 : Nat) : Int) from rfl,show (32 : Int) = ((32 : Nat) : Int) from rfl,show (24 : Int) = ((24 : Nat) : Int) from rfl,show (16 : Int) = ((16 : Nat) : Int) from rfl,show (8 : Int) = ((8 : Nat) : Int) from rfl,show (0 : Int) = ((0 : Nat) : Int) from rfl,
    h 56 (by omega),h 48 (by omega),h 40 (by omega),h 32 (by omega),h 24 (by omega),h 16 (by omega),h 8 (by omega),h 0 (by omega)]
  simp [eight]
theorem num_l0 (k : Nat) (a : Int) (b : Bool) (c : Int) (d : ByteArray) : pack_Value.l0 (k + 9) [3] 7 a b c d = some (3 :: eight (turn c)) := by
  have e (n : Nat) (i j : Int) (acc : List Int) (h0 : 0 ≤ i) (h1 : wrap64 (8 * i) = j) (h2 : 0 ≤ j) (hl : acc.length ≤ 20) (h3 : wrap64 (i - 1) = i - 1) : pack_Value.l0 (n + 1) acc i a b c d = pack_Value.l0 n (acc ++ [shr .u64 (turn c) j % 256]) (i - 1) a b c d := by
    simp only [pack_Value.l0]
    rw [if_pos (by omega),h1,if_pos h2,if_pos (by omega),turn_xor,h3]
  rw [e (k + 8) 7 56 _ (by decide +kernel) (by decide +kernel) (by decide +kernel) (by simp) (by decide +kernel),show (7 : Int) - 1 = 6 from rfl,
    e (k + 7) 6 48 _ (by decide +kernel) (by decide +kernel) (by decide +kernel) (by simp) (by decide +kernel),show (6 : Int) - 1 = 5 from rfl,
    e (k + 6) 5 40 _ (by decide +kernel) (by decide +kernel) (by decide +kernel) (by simp) (by decide +kernel),show (5 : Int) - 1 = 4 from rfl,
    e (k + 5) 4 32 _ (by decide +kernel) (by decide +kernel) (by decide +kernel) (by simp) (by decide +kernel),show (4 : Int) - 1 = 3 from rfl,
    e (k + 4) 3 24 _ (by decide +kernel) (by decide +kernel) (by decide +kernel) (by simp) (by decide +kernel),show (3 : Int) - 1 = 2 from rfl,
    e (k + 3) 2 16 _ (by decide +kernel) (by decide +kernel) (by decide +kernel) (by simp) (by decide +kernel),show (2 : Int) - 1 = 1 from rfl,
    e (k + 2) 1 8 _ (by decide +kernel) (by decide +kernel) (by decide +kernel) (by simp) (by decide +kernel),show (1 : Int) - 1 = 0 from rfl,
    e (k + 1) 0 0 _ (by decide +kernel) (by decide +kernel) (by decide +kernel) (by simp) (by decide +kernel),show (0 : Int) - 1 = -1 from rfl]
  simp only [pack_Value.l0]
  rw [if_neg (by decide),← eight_shr]
  rfl
def esc : List UInt8 → List Int
  | [] => []
  | b :: bs => (if b.toNat = 0 then [0,255] else [(b.toNat : Int)]) ++ esc bs
theorem esc_len : ∀ l : List UInt8,(esc l).length ≤ 2 * l.length := by
  intro l
  induction l with
  | nil => simp [esc]
  | cons b bs ih =>
    simp only [esc,List.length_append,List.length_cons]
    split <;> simp <;> omega
theorem txt_l1 (s : ByteArray) (hs : s.size ≤ 1000) (a : Int) (b : Bool) (c : Int) : ∀ d i k (acc : List Int),s.size - i = d → i ≤ s.size → acc.length ≤ 2 * i + 1 → d < k → pack_Value.l1 k acc (s.size : Int) (i : Int) a b c s = some (acc ++ (esc (s.data.toList.drop i) ++ [0,1])) := by
  intro d
  induction d with
  | zero =>
    intro i k acc hd hi ha hk
    obtain ⟨k,rfl⟩ : ∃ m,k = m + 1 := ⟨k - 1,by omega⟩
    simp only [pack_Value.l1]
    rw [if_neg (by omega),List.drop_eq_nil_of_le (by simp;omega)]
    simp only [Option.bind_some,esc,List.nil_append]
    rw [if_pos (by simp;omega)]
  | succ d ih =>
    intro i k acc hd hi ha hk
    obtain ⟨k,rfl⟩ : ∃ m,k = m + 1 := ⟨k - 1,by omega⟩
    have hlt : i < s.size := by omega
    simp only [pack_Value.l1]
    rw [if_pos (by omega),if_pos (by omega),if_pos (by omega),if_pos (by omega),Option.bind_some,bt_get hlt,bytes_drop hlt,wrap_succ hlt (by omega)]
    simp only [esc]
    by_cases h0 : (s.data.toList[i]'(by simpa using hlt)).toNat = 0
    · rw [if_pos (by omega),if_pos (by simp;omega),if_pos h0,ih (i + 1) k _ (by omega) (by omega) (by simp;omega) (by omega),h0]
      simp
    · rw [if_neg (by omega),if_neg h0,ih (i + 1) k _ (by omega) (by omega) (by simp;omega) (by omega)]
      simp
def encG (v : S50) : List Int := if v.f0 = 1 then [2,b2i v.f1] else if v.f0 = 2 then 3 :: eight (turn v.f2) else if v.f0 = 3 then 4 :: (esc v.f3.data.toList ++ [0,1]) else [1]
def encV (v : S50) : List Int := if vright v = true then encG v else []
theorem encG_len {v : S50} {M : Nat} (h : v.f3.size ≤ M) : (encG v).length ≤ 2 * M + 9 := by
  unfold encG
  have := esc_len v.f3.data.toList
  rw [data_length] at this
  repeat' split
  all_goals simp [eight]
  all_goals omega
theorem encV_len {v : S50} {M : Nat} (h : v.f3.size ≤ M) : (encV v).length ≤ 2 * M + 9 := by
  unfold encV
  split
  · exact encG_len h
  · simp
theorem packValue_f (v : S50) (hs : v.f3.size ≤ 500) (k : Nat) (hk : 510 ≤ k) : pack_Value.f k v.f0 v.f1 v.f2 v.f3 = some (encV v) := by
  unfold pack_Value.f encV encG
  rw [vright_f,Option.bind_some]
  by_cases h : vright v = true
  · rw [if_pos h,if_pos h]
    by_cases h1 : v.f0 = 1
    · rw [if_pos h1,if_pos h1]
      cases v.f1 <;> rfl
    · by_cases h2 : v.f0 = 2
      · obtain ⟨k,rfl⟩ : ∃ m,k = m + 9 := ⟨k - 9,by omega⟩
        rw [if_neg h1,if_neg h1,if_pos h2,if_pos h2,num_l0]
      · by_cases h3 : v.f0 = 3
        · have ht := txt_l1 v.f3 (by omega) v.f0 v.f1 v.f2 v.f3.size 0 k [4] (by omega) (by omega) (by simp) (by omega)
          rw [show ((0 : Nat) : Int) = 0 from rfl] at ht
          rw [if_neg h1,if_neg h1,if_neg h2,if_neg h2,if_pos h3,if_pos h3,ht]
          rfl
        · rw [if_neg h1,if_neg h1,if_neg h2,if_neg h2,if_neg h3,if_neg h3]
  · rw [if_neg h,if_neg h]
def encR : List S50 → List Int → List Int
  | [],acc => acc ++ [0]
  | v :: vs,acc => if ((encV v).length : Int) = 0 then [] else encR vs (acc ++ encV v)
theorem packRow_l0 (r : List S50) (hl : r.length ≤ 10000) (hs : ∀ v ∈ r,v.f3.size ≤ 500) : ∀ d i k (acc : List Int),r.length - i = d → i ≤ r.length → acc.length ≤ 1009 * i → d + 510 < k → pack_Row.l0 k acc r (r.length : Int) (i : Int) = some (encR (r.drop i) acc) := by
  intro d
  induction d with
  | zero =>
    intro i k acc hd hi ha hk
    obtain ⟨k,rfl⟩ : ∃ m,k = m + 1 := ⟨k - 1,by omega⟩
    simp only [pack_Row.l0]
    rw [if_neg (by omega),List.drop_eq_nil_of_le (by omega),if_pos (by omega)]
    rfl
  | succ d ih =>
    intro i k acc hd hi ha hk
    obtain ⟨k,rfl⟩ : ∃ m,k = m + 1 := ⟨k - 1,by omega⟩
    have hlt : i < r.length := by omega
    have hv : (rd_T50 r (i : Int)).f3.size ≤ 500 := by rw [rd_get hlt];exact hs _ (List.getElem_mem hlt)
    have hlen := encV_len hv
    simp only [pack_Row.l0]
    rw [if_pos (by omega),if_pos (by omega),if_pos (by omega),packValue_f _ hv k (by omega),Option.bind_some,drop_rd hlt]
    simp only [encR]
    by_cases h0 : ((encV (rd_T50 r (i : Int))).length : Int) = 0
    · rw [if_pos h0,if_pos h0]
    · rw [if_neg h0,if_neg h0,if_pos (by omega),wrap_succ hlt (by omega)]
      exact ih (i + 1) k _ (by omega) (by omega) (by simp;omega) (by omega)
theorem packRow_f (r : List S50) (hl : r.length ≤ 100) (hs : ∀ v ∈ r,v.f3.size ≤ 500) (k : Nat) (hk : 611 ≤ k) : pack_Row.f k r = some (encR r []) := by
  have h := packRow_l0 r (by omega) hs r.length 0 k [] (by omega) (by omega) (by simp) (by omega)
  rw [show ((0 : Nat) : Int) = 0 from rfl] at h
  exact h
theorem packRow_g (r : List S50) (hl : r.length ≤ 10000) (hs : ∀ v ∈ r,v.f3.size ≤ 500) (k : Nat) (hk : 10511 ≤ k) : pack_Row.f k r = some (encR r []) := by
  have h := packRow_l0 r hl hs r.length 0 k [] (by omega) (by omega) (by simp) (by omega)
  rw [show ((0 : Nat) : Int) = 0 from rfl] at h
  exact h
theorem few_l0 (r : List S50) (hl : r.length ≤ 100) : ∀ d i k,r.length - i = d → i ≤ r.length → d < k → verdererlaw04_few.l0 k r (i : Int) = some ((r.drop i).all fun v => decide (v.f3.size ≤ 500)) := by
  intro d
  induction d with
  | zero =>
    intro i k hd hi hk
    obtain ⟨k,rfl⟩ : ∃ m,k = m + 1 := ⟨k - 1,by omega⟩
    simp only [verdererlaw04_few.l0]
    rw [if_neg (by omega),List.drop_eq_nil_of_le (by omega)]
    rfl
  | succ d ih =>
    intro i k hd hi hk
    obtain ⟨k,rfl⟩ : ∃ m,k = m + 1 := ⟨k - 1,by omega⟩
    have hlt : i < r.length := by omega
    simp only [verdererlaw04_few.l0]
    rw [if_pos (by omega),if_pos (by omega),drop_rd hlt,List.all_cons]
    by_cases h : ((rd_T50 r (i : Int)).f3.size : Int) > 500
    · rw [if_pos h,decide_eq_false (by omega)]
      rfl
    · rw [if_neg h,decide_eq_true (by omega),wrap_succ hlt (by omega),ih (i + 1) k (by omega) (by omega) (by omega)]
      rfl
theorem few_f (r : List S50) (k : Nat) (hk : 101 ≤ k) : verdererlaw04_few.f k r = some false ∨ (verdererlaw04_few.f k r = some true ∧ r.length ≤ 100 ∧ ∀ v ∈ r,v.f3.size ≤ 500) := by
  unfold verdererlaw04_few.f
  by_cases h : (r.length : Int) > 100
  · rw [if_pos h];exact .inl rfl
  · have hf := few_l0 r (by omega) r.length 0 k (by omega) (by omega) (by omega)
    rw [show ((0 : Nat) : Int) = 0 from rfl,List.drop_zero] at hf
    rw [if_neg h,hf]
    cases hb : (r.all fun v => decide (v.f3.size ≤ 500)) with
    | false => exact .inl rfl
    | true => exact .inr ⟨rfl,by omega,fun v hv => of_decide_eq_true (List.all_eq_true.1 hb v hv)⟩
end Go.Proofs.Ytfoaeigoajooeaa.Z
end
section
namespace Go.Proofs.Ytfoaeigoajooeaa.Z
open Go.RowKit Go.Proofs.YtfoaeigoajooeaaW.PrintWords Go.Proofs.YtfoaeigoajooeaaW.PrintLast Go.Proofs.YtfoaeigoajooeaaW.PrintMore Go.Proofs.Ytfoaeigoajooeaa.Cmp
def encA : List S50 → List Int
  | [] => [0]
  | v :: vs => encG v ++ encA vs
theorem encG_pos (v : S50) : ∃ x q,encG v = x :: q ∧ 1 ≤ x := by
  unfold encG
  repeat' split
  all_goals exact ⟨_,_,rfl,by omega⟩
theorem encR_cases : ∀ (r : List S50) (acc : List Int),(encR r acc = [] ∧ ∃ v ∈ r,vright v = false) ∨ (encR r acc = acc ++ encA r ∧ ∀ v ∈ r,vright v = true) := by
  intro r
  induction r with
  | nil => intro acc;exact .inr ⟨rfl,fun v hv => by cases hv⟩
  | cons v vs ih =>
    intro acc
    simp only [encR]
    cases hv : vright v with
    | false =>
      have e : encV v = [] := by unfold encV;rw [hv];rfl
      rw [e,if_pos (by simp)]
      exact .inl ⟨rfl,v,List.mem_cons_self,hv⟩
    | true =>
      have e : encV v = encG v := by unfold encV;rw [hv];rfl
      obtain ⟨x,q,hq,_⟩ := encG_pos v
      rw [e,if_neg (by rw [hq];simp;omega)]
      rcases ih (acc ++ encG v) with ⟨h1,u,hu,h2⟩ | ⟨h1,h2⟩
      · exact .inl ⟨h1,u,List.mem_cons_of_mem _ hu,h2⟩
      · refine .inr ⟨by rw [h1];simp [encA],fun u hu => ?_⟩
        rcases List.mem_cons.1 hu with rfl | hu
        · exact hv
        · exact h2 u hu
def IsBytes (l : List Int) : Prop := ∀ x ∈ l,0 ≤ x ∧ x < 256
theorem esc_bytes : ∀ l : List UInt8,IsBytes (esc l) := by
  intro l
  induction l with
  | nil => intro x hx;cases hx
  | cons b bs ih =>
    intro x hx
    simp only [esc,List.mem_append] at hx
    rcases hx with hx | hx
    · have := b.toNat_lt
      split at hx
      · simp at hx;omega
      · simp at hx;omega
    · exact ih x hx
theorem encG_bytes (v : S50) : IsBytes (encG v) := by
  intro x hx
  unfold encG at hx
  by_cases h1 : v.f0 = 1
  · rw [if_pos h1] at hx
    simp [b2i] at hx
    rcases hx with hx | hx
    · omega
    · rw [hx];split <;> omega
  · by_cases h2 : v.f0 = 2
    · rw [if_neg h1,if_pos h2] at hx
      simp [eight] at hx
      omega
    · by_cases h3 : v.f0 = 3
      · rw [if_neg h1,if_neg h2,if_pos h3] at hx
        simp at hx
        rcases hx with hx | hx | hx | hx
        · omega
        · exact esc_bytes _ x hx
        · omega
        · omega
      · rw [if_neg h1,if_neg h2,if_neg h3] at hx
        simp at hx
        omega
theorem encA_bytes : ∀ r : List S50,IsBytes (encA r) := by
  intro r
  induction r with
  | nil => intro x hx;simp [encA] at hx;omega
  | cons v vs ih =>
    intro x hx
    simp only [encA,List.mem_append] at hx
    rcases hx with hx | hx
    · exact encG_bytes v x hx
    · exact ih x hx
end Go.Proofs.Ytfoaeigoajooeaa.Z
end
